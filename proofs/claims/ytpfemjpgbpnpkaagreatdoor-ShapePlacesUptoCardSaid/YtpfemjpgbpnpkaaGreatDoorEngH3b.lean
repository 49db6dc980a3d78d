/- Contracts: slices.Equal of numbers, gantlaw3.equal, gantref3.Back, clear.Between, gantref3.Mid. -/
import Derived.Test.YtpfemjpgbpnpkaaGreatDoorGrpO
namespace Go.Proofs.YtpfemjpgbpnpkaaGreatDoor.eng
open Go.RowKit num mem seg q held ratA ratB ratC ratD ratE vars ratF natC natD natI sub32
section
variable {K : AV → Prop} {x y : RV}
def q3d (q:Rat):List D:= [.v (.bool (decide (q.num< 0))),.list (W (w32 q.num.natAbs)),.list (W (w32 q.den))]
end
end Go.Proofs.YtpfemjpgbpnpkaaGreatDoor.eng
