/- The engine at this program: lists of numbers, loops over them. -/
import Derived.Test.YtjhoddlhdoiifaaGreatDoorEngU
namespace Go.Proofs.YtjhoddlhdoiifaaGreatDoor.eng
open Go.RowKit num mem seg q held ratA ratB ratC ratD ratE vars ratF

def rd (x : RV) : List D := [.v (.bool x.s), .v (.string x.a), .v (.string x.d)]
/-- a list of numbers -/
def rats (l : List Rat) : AV := .val (.one (.d (.list (l.map fun q => rd (cn q)))))
section
variable {K : AV → Prop}
theorem k_at {xs : List (List D)} {m : Int} {n : Nat} (cs : List D) (h0 : 0 ≤ m) (h : xs[m.toNat]? = some cs) (hl : cs.length = n) (k : K (.val (.one (.ref cs)))) :
    ∃ r, (∃ cs, 0 ≤ m ∧ xs[m.toNat]? = some cs ∧ cs.length = n ∧ r = .val (.one (.ref cs))) ∧ K r := ⟨_, ⟨cs, h0, h, hl, rfl⟩, k⟩
theorem wrap64 (n : Int) (h1 : -9223372036854775808 ≤ n) (h2 : n ≤ 9223372036854775807) : IntKind.i64.wrap n = n := by
  unfold IntKind.wrap
  simp [IntKind.signed, IntKind.bits]
  split <;> omega
end

/-! ### the least and the greatest of a list -/
end Go.Proofs.YtjhoddlhdoiifaaGreatDoor.eng
