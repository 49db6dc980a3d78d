/- Joined by wip/bundle.py: XEngGrid XEngGrid2 XEngGrid3. -/
import Derived.Test.YtjlhknppkodilaaGreatDoorGrpS
import Derived.Test.YtjlhknppkodilaaGreatDoorGrpA
import Derived.Test.YtjlhknppkodilaaGreatDoorGrpT
namespace Go.Proofs.YtjlhknppkodilaaGreatDoor.eng
open Go.RowKit num mem seg q held ratA ratB ratC ratD ratE vars ratF natC natD natI
section
variable {x y z t : RV} {K : AV → Prop}
def c0 (p:Rat):Int:=-(-p).floor - 1
def c1 (q:Rat):Int:=q.floor
def inG (p q:Rat):Prop:=((-64:Int):Rat)< p∧q< ((64:Int):Rat)
instance (p q:Rat):Decidable (inG p q):=by unfold inG;infer_instance
def bxOk (x y z t:RV):Prop:=x.q≤z.q∧y.q≤t.q
end
end Go.Proofs.YtjlhknppkodilaaGreatDoor.eng
namespace Go.Proofs.YtjlhknppkodilaaGreatDoor.eng
open Go.RowKit num mem seg q held ratA ratB ratC ratD ratE vars ratF natC natD natI
section
variable {x y z t : RV} {K : AV → Prop}
end
end Go.Proofs.YtjlhknppkodilaaGreatDoor.eng
namespace Go.Proofs.YtjlhknppkodilaaGreatDoor.eng
open Go.RowKit num mem seg q held ratA ratB ratC ratD ratE vars ratF natC natD natI
section
variable {x y z t : RV} {K : AV → Prop}
instance (x y z t:RV):Decidable (bxOk x y z t):=by unfold bxOk;infer_instance
end
end Go.Proofs.YtjlhknppkodilaaGreatDoor.eng
