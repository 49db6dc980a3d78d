/- Joined by wip/bundle.py: XEngN3j XEngN3k. -/
import Derived.Test.YtbgokkfhohodgaaDoorGrpN
namespace Go.Proofs.YtbgokkfhohodgaaDoor.eng
open Go.RowKit num mem seg q held ratA ratB ratC ratD ratE vars ratF sub32
def q3 (q:Rat):AV:= .val (.agg [.d (.v (.bool (decide (q.num< 0)))),.d (.list (W (w32 q.num.natAbs))),.d (.list (W (w32 q.den)))])
section
variable {K : AV → Prop} {a b n d : Nat} {s t : Bool}
end
end Go.Proofs.YtbgokkfhohodgaaDoor.eng
namespace Go.Proofs.YtbgokkfhohodgaaDoor.eng
open Go.RowKit num mem seg q held ratA ratB ratC ratD ratE vars ratF sub32
section
variable {K : AV → Prop} {p q : Rat} {x : RV}
end
end Go.Proofs.YtbgokkfhohodgaaDoor.eng
