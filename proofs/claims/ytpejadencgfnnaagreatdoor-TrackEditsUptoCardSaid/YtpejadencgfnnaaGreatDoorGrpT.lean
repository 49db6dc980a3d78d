/- Joined by wip/bundle.py: XTrq XEngTurn. -/
import Derived.Test.YtpejadencgfnnaaGreatDoorQ
import Derived.Test.YtpejadencgfnnaaGreatDoorEngU
/- Plain law: turns by the tangents of half their angles: cosines and sines, the sum of two turns, the turn back. -/
namespace Go.Proofs.YtpejadencgfnnaaGreatDoor.trq
open q

end Go.Proofs.YtpejadencgfnnaaGreatDoor.trq

/- Contracts: package turn; gantref1's turns. Printed by wip/gen_et.py. -/
namespace Go.Proofs.YtpejadencgfnnaaGreatDoor.eng
open Go.RowKit num mem seg q held ratA ratB ratC ratD ratE vars ratF trq
section
variable {x y : RV} {h g : Bool} {K : AV → Prop}

end
end Go.Proofs.YtpejadencgfnnaaGreatDoor.eng

