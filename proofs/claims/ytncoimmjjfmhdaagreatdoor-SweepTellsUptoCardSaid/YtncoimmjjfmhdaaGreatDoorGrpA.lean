/- Joined by wip/bundle.py: XEngFl XSmall XArm0. -/
import Derived.Test.YtncoimmjjfmhdaaGreatDoorEngU
import Derived.Test.YtncoimmjjfmhdaaGreatDoorGrpP
namespace Go.Proofs.YtncoimmjjfmhdaaGreatDoor.eng
open Go.RowKit num mem seg q held ratA ratB ratC ratD ratE vars ratF natC natD natI
def str (s:ByteArray):AV:= .val (.one (.d (.v (.string s))))
section
variable {x y : RV} {K : AV → Prop} {a b : ByteArray} {n m : Nat}
end
end Go.Proofs.YtncoimmjjfmhdaaGreatDoor.eng
namespace Go.Proofs.YtncoimmjjfmhdaaGreatDoor.eng
open Go.RowKit num mem seg q held ratA ratB ratC ratD ratE vars ratF natC natD natI
section
variable {K : AV → Prop} {a b : ByteArray} {x y r t : RV} {p q : Rat}
def smallP (x:RV):Prop:=x.good∧nv x.a≤1000000∧nv x.d≤1000
instance (x:RV):Decidable (smallP x):=by unfold smallP;infer_instance
end
end Go.Proofs.YtncoimmjjfmhdaaGreatDoor.eng
namespace Go.Proofs.YtncoimmjjfmhdaaGreatDoor.eng
open Go.RowKit num mem seg q held ratA ratB ratC ratD ratE vars ratF
structure LinkV where
 len:RV
 low:RV
 high:RV
 speed:RV
 brake:RV
 shape:List (RV×RV)
structure ArmV where
 name:ByteArray
 bx:RV
 by':RV
 bh:Bool
 bt:RV
 links:List LinkV
def lk (x:LinkV):List D:=rd x.len++rd x.low++rd x.high++rd x.speed++rd x.brake++ [D.list (List.map rdv x.shape)]
def arm (a:ArmV):AV:= .val (.agg [.d (.v (.string a.name)),.d (.v (.bool a.bx.s)),.d (.v (.string a.bx.a)),.d (.v (.string a.bx.d)),.d (.v (.bool a.by'.s)),.d (.v (.string a.by'.a)),.d (.v (.string a.by'.d)),.d (.v (.bool a.bh)),.d (.v (.bool a.bt.s)),.d (.v (.string a.bt.a)),.d (.v (.string a.bt.d)),.d (.list (List.map lk a.links))])
def LinkV.zs (l:LinkV) (B:Nat):Prop:=l.len.z≤B∧l.low.z≤B∧l.high.z≤B∧l.speed.z≤B∧l.brake.z≤B∧l.shape.length≤B∧∀ p,p∈l.shape→p.1.z≤B∧p.2.z≤B
def ArmV.zs (a:ArmV) (B:Nat):Prop:=a.name.size≤B∧a.bx.z≤B∧a.by'.z≤B∧a.bt.z≤B∧a.links.length≤B∧∀ l,l∈a.links→l.zs B
end Go.Proofs.YtncoimmjjfmhdaaGreatDoor.eng
