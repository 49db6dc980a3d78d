/- Joined by wip/bundle.py: XTrq XEngTurn. -/
import Derived.Test.YtbgokkfhohodgaaGreatDoorQ
import Derived.Test.YtbgokkfhohodgaaGreatDoorEngU
namespace Go.Proofs.YtbgokkfhohodgaaGreatDoor.trq
open q
end Go.Proofs.YtbgokkfhohodgaaGreatDoor.trq
namespace Go.Proofs.YtbgokkfhohodgaaGreatDoor.eng
open Go.RowKit num mem seg q held ratA ratB ratC ratD ratE vars ratF trq
section
variable {x y : RV} {h g : Bool} {K : AV → Prop}
end
end Go.Proofs.YtbgokkfhohodgaaGreatDoor.eng
