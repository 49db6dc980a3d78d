/- Plain law, no program: decimal digits. -/
import Derived.Test.YtjhoddlhdoiifaaGreatDoorDig2
namespace Go.Proofs.YtjhoddlhdoiifaaGreatDoor.dec
open num

end Go.Proofs.YtjhoddlhdoiifaaGreatDoor.dec
