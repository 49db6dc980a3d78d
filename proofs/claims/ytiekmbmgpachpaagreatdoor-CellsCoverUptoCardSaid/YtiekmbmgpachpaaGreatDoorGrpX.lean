/- Joined by wip/bundle.py: XSamp0 XSampN XSampA. -/
import Derived.Test.YtiekmbmgpachpaaGreatDoorGrpA
import Derived.Test.YtiekmbmgpachpaaGreatDoorGrpO
import Derived.Test.YtiekmbmgpachpaaGreatDoorArmA
import Derived.Test.YtiekmbmgpachpaaGreatDoorWg
namespace Go.Proofs.YtiekmbmgpachpaaGreatDoor.eng
open Go.RowKit num mem seg q held ratA ratB ratC ratD ratE vars ratF
end Go.Proofs.YtiekmbmgpachpaaGreatDoor.eng
namespace Go.Proofs.YtiekmbmgpachpaaGreatDoor.eng
open Go.RowKit num mem seg q held ratA ratB ratC ratD ratE vars ratF natC natD natI sub32
section
variable {K : AV → Prop} {T : TypeId} {ox oy : Operand}
end
end Go.Proofs.YtiekmbmgpachpaaGreatDoor.eng
namespace Go.Proofs.YtiekmbmgpachpaaGreatDoor.eng
open Go.RowKit num mem seg q held ratA ratB ratC ratD ratE vars ratF
section
variable {K : AV → Prop}
end
end Go.Proofs.YtiekmbmgpachpaaGreatDoor.eng
