/- Joined by wip/bundle.py: XSingA XForcA XTrackA. -/
import Derived.Test.YtpejadencgfnnaaGreatDoorForeA
import Derived.Test.YtpejadencgfnnaaGreatDoorGrpX
import Derived.Test.YtpejadencgfnnaaGreatDoorOpenA
/- Contracts: columns of the Jacobian, ranks: package single, gantref3. Printed by wip/gp_single.py. -/
namespace Go.Proofs.YtpejadencgfnnaaGreatDoor.eng
open Go.RowKit num mem seg q held ratA ratB ratC ratD ratE vars ratF trq
section
variable {K : AV → Prop}
/-! ### ranks -/
end
end Go.Proofs.YtpejadencgfnnaaGreatDoor.eng

/- Contracts: torques: package force, gantref3. Printed by wip/gp_force.py. -/
namespace Go.Proofs.YtpejadencgfnnaaGreatDoor.eng
open Go.RowKit num mem seg q held ratA ratB ratC ratD ratE vars ratF trq
section
variable {K : AV → Prop}
end
end Go.Proofs.YtpejadencgfnnaaGreatDoor.eng

/- Contracts: tracks at a tick: package track, gantref3. Printed by wip/gp_track.py. -/
namespace Go.Proofs.YtpejadencgfnnaaGreatDoor.eng
open Go.RowKit num mem seg q held ratA ratB ratC ratD ratE vars ratF argopen
section
variable {K : AV → Prop}
def tz (t : List (Int × List RV)) : Prop := t.length ≤ 1048576 ∧ ∀ k, k ∈ t → (-9223372036854775808 ≤ k.1 ∧ k.1 ≤ 9223372036854775807) ∧ k.2.length ≤ 1048576 ∧ ∀ x, x ∈ k.2 → x.z ≤ 1048576
end
end Go.Proofs.YtpejadencgfnnaaGreatDoor.eng

