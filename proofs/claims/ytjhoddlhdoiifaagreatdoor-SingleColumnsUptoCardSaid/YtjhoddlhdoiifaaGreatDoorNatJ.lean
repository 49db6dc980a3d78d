/- Walk: nat.Text. -/
import Derived.Test.YtjhoddlhdoiifaaGreatDoorGrpF
import Derived.Test.YtjhoddlhdoiifaaGreatDoorDec
import Derived.Test.YtjhoddlhdoiifaaGreatDoorGrpJ
namespace Go.Proofs.YtjhoddlhdoiifaaGreatDoor.natJ
open Go.RowKit num mem natA natB natC natD natE natF natG natH natI dec refA refB

/-- a slice's length -/
def sliceLen : Value → Nat | .slice _ n _ => n | _ => 0
theorem rest_ten {r x : Nat} (hr : r < 10) (hx : x < 4294967296) : ∃ q r' : Nat,
    IntKind.u64.wrap ((bits .or .u64 ((r : Int) * 4294967296) (x : Int)).tdiv 10) % 4294967296 = (q : Int) ∧
    (bits .or .u64 ((r : Int) * 4294967296) (x : Int)).tmod 10 = (r' : Int) ∧ q < 4294967296 ∧ r' < 10 ∧ q * 10 + r' = r * 4294967296 + x :=
  rest_bits (y := 10) hr (by omega) hx

end Go.Proofs.YtjhoddlhdoiifaaGreatDoor.natJ
