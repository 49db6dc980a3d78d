/- Joined by wip/bundle.py: XRefA XRefB. -/
import Derived.Test.YtjhoddlhdoiifaaGreatDoorNatD
import Derived.Lib.TrimByte
/- Walks: gantref1.Bare, digit, Compare, number. -/
namespace Go.Proofs.YtjhoddlhdoiifaaGreatDoor.refA
open Go.RowKit num mem natA natB natC natD

/-- digit i of a string -/
def dig (a : ByteArray) (i : Nat) : Nat := nv a / 256 ^ i % 256
theorem dig_lt (a : ByteArray) (i : Nat) : dig a i ≤ 255 := by unfold dig; have := Nat.mod_lt (nv a / 256 ^ i) (show 0 < 256 by omega); omega
end Go.Proofs.YtjhoddlhdoiifaaGreatDoor.refA

/- Walks: gantref1.number. -/
namespace Go.Proofs.YtjhoddlhdoiifaaGreatDoor.refB
open Go.RowKit num mem natA natB natC natD refA

end Go.Proofs.YtjhoddlhdoiifaaGreatDoor.refB

