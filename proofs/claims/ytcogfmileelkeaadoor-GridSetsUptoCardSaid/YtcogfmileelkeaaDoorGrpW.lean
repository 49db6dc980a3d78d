/- Joined by wip/bundle.py: XOpen XOpenL. -/
import Derived.Test.YtcogfmileelkeaaDoorRow
import Derived.Test.YtcogfmileelkeaaDoorSeg
import Derived.Deep.Strs
import Derived.Test.YtcogfmileelkeaaDoorGrpS
import Derived.Deep.Slices
namespace Go.Proofs.YtcogfmileelkeaaDoor.argopen
open Go.ChangeShapes Go.WideShapes Go.ChangeAt Go.RowKit row seg
section
variable {H : Type} {enc : TypeId × Value → H} {w : World} {base : Nat} {sp : Nat → Bool} {held : Bool}
def rd (H:Type) (s:Bool) (a d:ByteArray):DataW H:= .agg [.lit (.bool s),.lit (.string a.data.toList),.lit (.string d.data.toList)]
variable {r : Reach} {b0 : Nat} {v : Value} {d : DataW H} {ps : List MemPlace}
end
set_option maxRecDepth 100000 in
theorem ZeM {W : World} {rest : List (String × DataW Unit)} (h : laidMet Tryd.prog (("math/bits.deBruijn64tab", Rows.laid_math_bits_deBruijn64tab) :: rest) W) : Tab W := by
 have hT : Lib.TabIs Tryd.prog W "math/bits.deBruijn64tab" .u8 (Lib.deBruijn64tab.map Int.ofNat) :=
  Lib.tabIs_of_head (g:=1) (rest:=rest) (by kernel_rfl) (by kernel_rfl) Tryd.underlying116 Tryd.underlying5 (by kernel_rfl) (by kernel_rfl) h
 intro j hj
 have:=hT.cell (g:=1) (by kernel_rfl) j (by simpa using hj)
 rw [this]
 simp only [List.getD_eq_getElem?_getD,List.getElem?_map]
 rw [List.getElem?_eq_getElem hj]
 rfl
end Go.Proofs.YtcogfmileelkeaaDoor.argopen
namespace Go.Proofs.YtcogfmileelkeaaDoor.argopen
open Go.ChangeShapes Go.WideShapes Go.ChangeAt Go.RowKit row seg eng
section
variable {H : Type} {enc : TypeId × Value → H} {w : World} {base : Nat} {sp : Nat → Bool} {held : Bool}
theorem ZjE {a:Addr} (hs:a.spot=none) (i j:Nat):(a.add i).add j=⟨a.block,a.off+i+j,none⟩:=by
 obtain⟨b,o,s⟩:=a
 simp only at hs
 subst hs
 unfold Addr.add
 by_cases h1:i=0<;>by_cases h2:j=0<;>simp [h1,h2]
instance:Inhabited RV:=⟨z0⟩
end
end Go.Proofs.YtcogfmileelkeaaDoor.argopen
