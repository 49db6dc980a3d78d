/- Joined by wip/bundle.py: XTckA XTckR. -/
import Derived.Test.YtpfhmelgcdgoeaaGreatDoorQGrpL
import Derived.Test.YtpfhmelgcdgoeaaGreatDoorQGrp2
import Derived.Test.YtpfhmelgcdgoeaaGreatDoorQGrpR
namespace Go.Proofs.YtpfhmelgcdgoeaaGreatDoor.eng
open Go.RowKit num mem seg q held ratA ratB ratC ratD ratE vars ratF argopen
section
variable {K : AV → Prop}
end
section
variable {K : AV → Prop}
end
