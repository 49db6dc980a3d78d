/- Joined by wip/bundle.py: XDec XRefA XRefB XNatJ XRatF. -/
import Derived.Test.YtcogfmileelkeaaDoorGrpC
import Derived.Lib.TrimByte
import Derived.Test.YtcogfmileelkeaaDoorGrpF
import Derived.Test.YtcogfmileelkeaaDoorGrpE
namespace Go.Proofs.YtcogfmileelkeaaDoor.dec
open num
end Go.Proofs.YtcogfmileelkeaaDoor.dec
namespace Go.Proofs.YtcogfmileelkeaaDoor.refA
open Go.RowKit num mem natA natB natC natD
end Go.Proofs.YtcogfmileelkeaaDoor.refA
namespace Go.Proofs.YtcogfmileelkeaaDoor.refB
open Go.RowKit num mem natA natB natC natD refA
end Go.Proofs.YtcogfmileelkeaaDoor.refB
namespace Go.Proofs.YtcogfmileelkeaaDoor.natJ
open Go.RowKit num mem natA natB natC natD natE natF natG natH natI dec refA refB
end Go.Proofs.YtcogfmileelkeaaDoor.natJ
namespace Go.Proofs.YtcogfmileelkeaaDoor.ratF
open Go.RowKit num mem seg q ratA held ratB ratC ratD ratE vars
end Go.Proofs.YtcogfmileelkeaaDoor.ratF
