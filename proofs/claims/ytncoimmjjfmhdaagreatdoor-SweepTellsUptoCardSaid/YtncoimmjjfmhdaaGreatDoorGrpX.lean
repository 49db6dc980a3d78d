/- Joined by wip/bundle.py: XSamp0. -/
import Derived.Test.YtncoimmjjfmhdaaGreatDoorGrpA
import Derived.Test.YtncoimmjjfmhdaaGreatDoorGrpO
namespace Go.Proofs.YtncoimmjjfmhdaaGreatDoor.eng
open Go.RowKit num mem seg q held ratA ratB ratC ratD ratE vars ratF
end Go.Proofs.YtncoimmjjfmhdaaGreatDoor.eng
