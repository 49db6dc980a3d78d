/- Joined by wip/bundle.py: XEngFrame XEngFrame2. -/
import Derived.Test.YtncoimmjjfmhdaaDoorGrpS
namespace Go.Proofs.YtncoimmjjfmhdaaDoor.eng
open Go.RowKit num mem seg q held ratA ratB ratC ratD ratE vars ratF trq
section
variable {x y z t u v : RV} {h : Bool} {K : AV → Prop}
end
end Go.Proofs.YtncoimmjjfmhdaaDoor.eng
namespace Go.Proofs.YtncoimmjjfmhdaaDoor.eng
open Go.RowKit num mem seg q held ratA ratB ratC ratD ratE vars ratF trq
section
variable {x y z t u v w x2 y2 z2 : RV} {h g : Bool} {K : AV → Prop}
end
end Go.Proofs.YtncoimmjjfmhdaaDoor.eng
