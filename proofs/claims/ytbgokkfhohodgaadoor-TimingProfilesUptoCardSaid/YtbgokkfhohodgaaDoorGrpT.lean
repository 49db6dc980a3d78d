/- Joined by wip/bundle.py: XTrq XEngTurn. -/
import Derived.Test.YtbgokkfhohodgaaDoorQ
import Derived.Test.YtbgokkfhohodgaaDoorEngU
namespace Go.Proofs.YtbgokkfhohodgaaDoor.trq
open q
end Go.Proofs.YtbgokkfhohodgaaDoor.trq
namespace Go.Proofs.YtbgokkfhohodgaaDoor.eng
open Go.RowKit num mem seg q held ratA ratB ratC ratD ratE vars ratF trq
section
variable {x y : RV} {h g : Bool} {K : AV → Prop}
end
end Go.Proofs.YtbgokkfhohodgaaDoor.eng
