/- Joined by wip/bundle.py: XTrq XEngTurn. -/
import Derived.Test.YtjlhknppkodilaaGreatDoorQ
import Derived.Test.YtjlhknppkodilaaGreatDoorGrpEn
namespace Go.Proofs.YtjlhknppkodilaaGreatDoor.trq
open q
end Go.Proofs.YtjlhknppkodilaaGreatDoor.trq
namespace Go.Proofs.YtjlhknppkodilaaGreatDoor.eng
open Go.RowKit num mem seg q held ratA ratB ratC ratD ratE vars ratF trq
section
variable {x y : RV} {h g : Bool} {K : AV → Prop}
end
end Go.Proofs.YtjlhknppkodilaaGreatDoor.eng
