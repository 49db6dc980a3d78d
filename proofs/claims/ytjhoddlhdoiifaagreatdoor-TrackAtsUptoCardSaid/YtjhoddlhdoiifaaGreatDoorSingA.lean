/- Contracts: columns of the Jacobian, ranks: package single, gantref3. Printed by wip/gp_single.py. -/
import Derived.Test.YtjhoddlhdoiifaaGreatDoorForeA
namespace Go.Proofs.YtjhoddlhdoiifaaGreatDoor.eng
open Go.RowKit num mem seg q held ratA ratB ratC ratD ratE vars ratF trq
section
variable {K : AV → Prop}
/-! ### ranks -/
end
end Go.Proofs.YtjhoddlhdoiifaaGreatDoor.eng
