/- Joined by wip/bundle.py: XEngFrame XEngFrame2. -/
import Derived.Test.YtpejadencgfnnaaGreatDoorGrpS
/- Contracts: vectors turned; frames. Printed by wip/gen_ef.py. -/
namespace Go.Proofs.YtpejadencgfnnaaGreatDoor.eng
open Go.RowKit num mem seg q held ratA ratB ratC ratD ratE vars ratF trq
section
variable {x y z t u v : RV} {h : Bool} {K : AV → Prop}
end
end Go.Proofs.YtpejadencgfnnaaGreatDoor.eng

/- Contracts: package frame. Printed by wip/gen_ef2.py. -/
namespace Go.Proofs.YtpejadencgfnnaaGreatDoor.eng
open Go.RowKit num mem seg q held ratA ratB ratC ratD ratE vars ratF trq
section
variable {x y z t u v w x2 y2 z2 : RV} {h g : Bool} {K : AV → Prop}
end
end Go.Proofs.YtpejadencgfnnaaGreatDoor.eng

