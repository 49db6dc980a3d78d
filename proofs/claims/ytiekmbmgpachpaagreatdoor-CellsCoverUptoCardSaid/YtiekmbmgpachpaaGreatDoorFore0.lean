/- Plain law: frames of an arm by cosines and sines; the sizes of their numbers. No program. -/
import Derived.Test.YtiekmbmgpachpaaGreatDoorGrpX
import Derived.Test.YtiekmbmgpachpaaGreatDoorGrpT
import Derived.Test.YtiekmbmgpachpaaGreatDoorGrpM
import Derived.Test.YtiekmbmgpachpaaGreatDoorEngH3b
namespace Go.Proofs.YtiekmbmgpachpaaGreatDoor.eng
open Go.RowKit num mem seg q held ratA ratB ratC ratD ratE vars ratF trq
structure RF where
 x:Rat
 y:Rat
 c:Rat
 s:Rat
def unitC (c s:Rat):Prop:=c*c+s*s=1
def RF.u (f:RF):Prop:=unitC f.c f.s
end Go.Proofs.YtiekmbmgpachpaaGreatDoor.eng
