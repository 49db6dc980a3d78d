/- Joined by wip/bundle.py: XEngN3j XEngN3k XEngH3. -/
import Derived.Test.YtncoimmjjfmhdaaGreatDoorGrpN
import Derived.Test.YtncoimmjjfmhdaaGreatDoorGrpS
namespace Go.Proofs.YtncoimmjjfmhdaaGreatDoor.eng
open Go.RowKit num mem seg q held ratA ratB ratC ratD ratE vars ratF sub32
def q3 (q:Rat):AV:= .val (.agg [.d (.v (.bool (decide (q.num< 0)))),.d (.list (W (w32 q.num.natAbs))),.d (.list (W (w32 q.den)))])
section
variable {K : AV → Prop} {a b n d : Nat} {s t : Bool}
end
end Go.Proofs.YtncoimmjjfmhdaaGreatDoor.eng
namespace Go.Proofs.YtncoimmjjfmhdaaGreatDoor.eng
open Go.RowKit num mem seg q held ratA ratB ratC ratD ratE vars ratF sub32
section
variable {K : AV → Prop} {p q : Rat} {x : RV}
end
end Go.Proofs.YtncoimmjjfmhdaaGreatDoor.eng
namespace Go.Proofs.YtncoimmjjfmhdaaGreatDoor.eng
open Go.RowKit num mem seg q held ratA ratB ratC ratD ratE vars ratF natC natD natI sub32
section
variable {K : AV → Prop}
end
end Go.Proofs.YtncoimmjjfmhdaaGreatDoor.eng
