/- Contracts: what an arm says: arm.Length, Joints, Clamp; hinges. Printed by wip/gp_says.py. -/
import Derived.Test.YtiekmbmgpachpaaGreatDoorGrp3
import Derived.Test.YtiekmbmgpachpaaGreatDoorEngH3b
import Derived.Test.YtiekmbmgpachpaaGreatDoorFore0
namespace Go.Proofs.YtiekmbmgpachpaaGreatDoor.eng
open Go.RowKit num mem seg q held ratA ratB ratC ratD ratE vars ratF trq
section
variable {K : AV → Prop}
end
end Go.Proofs.YtiekmbmgpachpaaGreatDoor.eng
