/- Plain law: frames of an arm by cosines and sines; the sizes of their numbers. No program. -/
import Derived.Test.YtjlhknppkodilaaGreatDoorGrpX
import Derived.Test.YtjlhknppkodilaaGreatDoorGrpT
import Derived.Test.YtjlhknppkodilaaGreatDoorGrpM
import Derived.Test.YtjlhknppkodilaaGreatDoorGrpO
namespace Go.Proofs.YtjlhknppkodilaaGreatDoor.eng
open Go.RowKit num mem seg q held ratA ratB ratC ratD ratE vars ratF trq
structure RF where
 x:Rat
 y:Rat
 c:Rat
 s:Rat
def unitC (c s:Rat):Prop:=c*c+s*s=1
def RF.u (f:RF):Prop:=unitC f.c f.s
def qAt (Q:List RV) (i:Nat):Rat:=((Q[i]?).getD z0).q
theorem ZD {Q:List RV} {i:Nat} {x:RV} (h:Q[i]? =some x):qAt Q i=x.q:=by simp [qAt,h]
end Go.Proofs.YtjlhknppkodilaaGreatDoor.eng
