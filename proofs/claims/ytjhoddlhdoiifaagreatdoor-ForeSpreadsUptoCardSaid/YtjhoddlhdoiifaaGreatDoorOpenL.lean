/- Arguments opened: lists of structs. -/
import Derived.Test.YtjhoddlhdoiifaaGreatDoorOpen
import Derived.Test.YtjhoddlhdoiifaaGreatDoorGrpS
import Derived.Deep.Slices
namespace Go.Proofs.YtjhoddlhdoiifaaGreatDoor.argopen
open Go.ChangeShapes Go.WideShapes Go.ChangeAt Go.RowKit row seg eng

section
variable {H : Type} {enc : TypeId × Value → H} {w : World} {base : Nat} {sp : Nat → Bool} {held : Bool}
theorem add_cell {a : Addr} (hs : a.spot = none) (i j : Nat) : (a.add i).add j = ⟨a.block, a.off + i + j, none⟩ := by
  obtain ⟨b, o, s⟩ := a
  simp only at hs
  subst hs
  unfold Addr.add
  by_cases h1 : i = 0 <;> by_cases h2 : j = 0 <;> simp [h1, h2]
instance : Inhabited RV := ⟨z0⟩
theorem z_bulk (x : RV) : x.z ≤ Rows.uptoBulk (rd H x.s x.a x.d) := by rw [bulk_rd]; unfold RV.z; omega
end
end Go.Proofs.YtjhoddlhdoiifaaGreatDoor.argopen
