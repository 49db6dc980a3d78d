/- Joined by wip/bundle.py: XTckA XTckR. -/
import Derived.Test.YtiekmbmgpachpaaGreatDoorGrpL
import Derived.Test.YtiekmbmgpachpaaGreatDoorGrp2
import Derived.Test.YtiekmbmgpachpaaGreatDoorGrpR
import Derived.Test.YtiekmbmgpachpaaGreatDoorGrpZ
namespace Go.Proofs.YtiekmbmgpachpaaGreatDoor.eng
open Go.RowKit num mem seg q held ratA ratB ratC ratD ratE vars ratF argopen
section
variable {K : AV → Prop}
end
end Go.Proofs.YtiekmbmgpachpaaGreatDoor.eng
namespace Go.Proofs.YtiekmbmgpachpaaGreatDoor.eng
open Go.RowKit num mem seg q held ratA ratB ratC ratD ratE vars ratF argopen
section
variable {K : AV → Prop}
end
end Go.Proofs.YtiekmbmgpachpaaGreatDoor.eng
