/- Plain law: frames of an arm by cosines and sines; the sizes of their numbers. No program. -/
import Derived.Test.YtpejadencgfnnaaGreatDoorGrpX
import Derived.Test.YtpejadencgfnnaaGreatDoorGrpT
import Derived.Test.YtpejadencgfnnaaGreatDoorGrpM
import Derived.Test.YtpejadencgfnnaaGreatDoorEngH3b
namespace Go.Proofs.YtpejadencgfnnaaGreatDoor.eng
open Go.RowKit num mem seg q held ratA ratB ratC ratD ratE vars ratF trq
/-- a frame by its origin, and the cosine and the sine of its turn -/
structure RF where
  x : Rat
  y : Rat
  c : Rat
  s : Rat
def unitC (c s : Rat) : Prop := c * c + s * s = 1
def RF.u (f : RF) : Prop := unitC f.c f.s
/-! ### an arm -/
def qAt (Q : List RV) (i : Nat) : Rat := ((Q[i]?).getD z0).q
theorem qAt_is {Q : List RV} {i : Nat} {x : RV} (h : Q[i]? = some x) : qAt Q i = x.q := by simp [qAt, h]
/-! ### as they lie in lists -/
/-! ### sizes -/
end Go.Proofs.YtpejadencgfnnaaGreatDoor.eng
