/- Arguments opened: numbers, vectors, turns (flat structs by value); and the table of math/bits, met in a row's condition. -/
import Derived.Test.YtpejadencgfnnaaDoorRow
import Derived.Test.YtpejadencgfnnaaDoorSeg
import Derived.Deep.Strs
namespace Go.Proofs.YtpejadencgfnnaaDoor.argopen
open Go.ChangeShapes Go.WideShapes Go.ChangeAt Go.RowKit row seg

section
variable {H : Type} {enc : TypeId × Value → H} {w : World} {base : Nat} {sp : Nat → Bool} {held : Bool}

/-- the reading of a number -/
def rd (H : Type) (s : Bool) (a d : ByteArray) : DataW H := .agg [.lit (.bool s), .lit (.string a.data.toList), .lit (.string d.data.toList)]
variable {r : Reach} {b0 : Nat} {v : Value} {d : DataW H} {ps : List MemPlace}
end

set_option maxRecDepth 100000 in
theorem tab_of_laid {W : World} {rest : List (String × DataW Unit)} (h : laidMet Tryd.prog (("math/bits.deBruijn64tab", Rows.laid_math_bits_deBruijn64tab) :: rest) W) : Tab W := by
  have hT : Lib.TabIs Tryd.prog W "math/bits.deBruijn64tab" .u8 (Lib.deBruijn64tab.map Int.ofNat) :=
    Lib.tabIs_of_head (g := 3) (rest := rest) (by kernel_rfl) (by kernel_rfl) Tryd.underlying114 Tryd.underlying5 (by kernel_rfl) (by kernel_rfl) h
  intro j hj
  have := hT.cell (g := 3) (by kernel_rfl) j (by simpa using hj)
  rw [this]
  simp only [List.getD_eq_getElem?_getD, List.getElem?_map]
  rw [List.getElem?_eq_getElem hj]
  rfl
end Go.Proofs.YtpejadencgfnnaaDoor.argopen
