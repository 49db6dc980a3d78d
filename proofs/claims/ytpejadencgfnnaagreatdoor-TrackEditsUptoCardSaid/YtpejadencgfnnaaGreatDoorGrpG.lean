/- Joined by wip/bundle.py: XTik0 XTik1 XTikA. -/
import Derived.Test.YtpejadencgfnnaaGreatDoorGrpR
import Derived.Test.YtpejadencgfnnaaGreatDoorGrpH
import Derived.Test.YtpejadencgfnnaaGreatDoorGrpU
/- Plain law: how many ticks a motion takes at least. No program. -/
namespace Go.Proofs.YtpejadencgfnnaaGreatDoor.eng
open Go.RowKit num mem seg q held ratA ratB ratC ratD ratE vars ratF trq
end Go.Proofs.YtpejadencgfnnaaGreatDoor.eng

/- Plain law: ticks of motions, and planned tracks. No program. -/
namespace Go.Proofs.YtpejadencgfnnaaGreatDoor.eng
open Go.RowKit num mem seg q held ratA ratB ratC ratD ratE vars ratF trq natC
section
variable {A : ArmV} {l m : List RV}
end
section
variable {A : ArmV} {P : List (List RV)} {s : Int} {i : Nat}
end
section
variable {A : ArmV} {P : List (List RV)} {s : Int} {k : Nat}
end
def keyC (k : Int × List Rat) : List D := [.v (.int .i64 k.1), .list (k.2.map rdc)]
end Go.Proofs.YtpejadencgfnnaaGreatDoor.eng

/- Contracts: how many ticks a motion takes: timing.ceil, Ticks; gantref3.Ticks. Printed by wip/gp_tik.py. -/
namespace Go.Proofs.YtpejadencgfnnaaGreatDoor.eng
open Go.RowKit num mem seg q held ratA ratB ratC ratD ratE vars ratF trq
section
variable {K : AV → Prop}
end
end Go.Proofs.YtpejadencgfnnaaGreatDoor.eng

