/- Joined by wip/bundle.py: XEngGrid. -/
import Derived.Test.YtpfhmelgcdgoeaaGreatDoorQGrpA
namespace Go.Proofs.YtpfhmelgcdgoeaaGreatDoor.eng
open Go.RowKit num mem seg q held ratA ratB ratC ratD ratE vars ratF natC natD natI
section
variable {x y z t : RV} {K : AV → Prop}
def c0 (p:Rat):Int:=-(-p).floor - 1
def c1 (q:Rat):Int:=q.floor
def inG (p q:Rat):Prop:=((-64:Int):Rat)< p∧q< ((64:Int):Rat)
instance (p q:Rat):Decidable (inG p q):=by unfold inG;infer_instance
def bxOk (x y z t:RV):Prop:=x.q≤z.q∧y.q≤t.q
end
