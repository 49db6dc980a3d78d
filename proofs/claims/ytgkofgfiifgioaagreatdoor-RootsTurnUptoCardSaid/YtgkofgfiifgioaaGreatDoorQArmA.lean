/- Contracts: package arm. Printed by wip/gp_arm.py. -/
import Derived.Test.YtgkofgfiifgioaaGreatDoorQGrpN
namespace Go.Proofs.YtgkofgfiifgioaaGreatDoor.eng
open Go.RowKit num mem seg q held ratA ratB ratC ratD ratE vars ratF
section
variable {K : AV → Prop}
def ArmV.ok (A:ArmV):Prop:=A.name.size≤67108864∧A.bx.z≤67108864∧A.by'.z≤67108864∧A.bt.z≤67108864∧A.links.length≤67108864∧∀ l,l∈A.links→l.len.z≤67108864∧l.low.z≤67108864∧l.high.z≤67108864∧l.speed.z≤67108864∧l.brake.z≤67108864∧l.shape.length≤67108864∧∀ p,p∈l.shape→p.1.z≤67108864∧p.2.z≤67108864
end
