/- Joined by wip/bundle.py: XEngN3j XEngN3k XEngH3 XEngH3b. -/
import Derived.Test.YtcogfmileelkeaaDoorGrpN
import Derived.Test.YtcogfmileelkeaaDoorGrpS
namespace Go.Proofs.YtcogfmileelkeaaDoor.eng
open Go.RowKit num mem seg q held ratA ratB ratC ratD ratE vars ratF sub32
section
variable {K : AV → Prop} {a b n d : Nat} {s t : Bool}
end
end Go.Proofs.YtcogfmileelkeaaDoor.eng
namespace Go.Proofs.YtcogfmileelkeaaDoor.eng
open Go.RowKit num mem seg q held ratA ratB ratC ratD ratE vars ratF sub32
section
variable {K : AV → Prop} {p q : Rat} {x : RV}
end
end Go.Proofs.YtcogfmileelkeaaDoor.eng
namespace Go.Proofs.YtcogfmileelkeaaDoor.eng
open Go.RowKit num mem seg q held ratA ratB ratC ratD ratE vars ratF natC natD natI sub32
section
variable {K : AV → Prop}
end
end Go.Proofs.YtcogfmileelkeaaDoor.eng
namespace Go.Proofs.YtcogfmileelkeaaDoor.eng
open Go.RowKit num mem seg q held ratA ratB ratC ratD ratE vars ratF natC natD natI sub32
section
variable {K : AV → Prop} {x y : RV}
end
end Go.Proofs.YtcogfmileelkeaaDoor.eng
