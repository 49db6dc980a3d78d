/- Walk: nat.Text. -/
import Derived.Test.YtjhoddlhdoiifaaGreatDoorGrpF
import Derived.Test.YtjhoddlhdoiifaaGreatDoorDec
import Derived.Test.YtjhoddlhdoiifaaGreatDoorGrpJ
namespace Go.Proofs.YtjhoddlhdoiifaaGreatDoor.natJ
open Go.RowKit num mem natA natB natC natD natE natF natG natH natI dec refA refB

end Go.Proofs.YtjhoddlhdoiifaaGreatDoor.natJ
