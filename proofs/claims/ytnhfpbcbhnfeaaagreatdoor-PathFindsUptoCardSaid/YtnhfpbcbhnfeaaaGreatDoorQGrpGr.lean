/- Joined by wip/bundle.py: XEngGrid. -/
import Derived.Test.YtnhfpbcbhnfeaaaGreatDoorQGrpA
namespace Go.Proofs.YtnhfpbcbhnfeaaaGreatDoor.eng
open Go.RowKit num mem seg q held ratA ratB ratC ratD ratE vars ratF natC natD natI
section
variable{x y z t:RV}{K:AV->Prop}
def c0(p:Rat):Int:=-(-p).floor-1
def c1(q:Rat):Int:=q.floor
def inG(p q:Rat):Prop:=((-64:Int):Rat)<p/\q<((64:Int):Rat)
instance (p q:Rat):Decidable (inG p q):=by unfold inG;infer_instance
theorem ZlM{q:Rat}:flE q=0↔q.floor.natAbs<=9223372036854775807:=by
 unfold flE intE;split<;>simp<;>omega
theorem Zy6{q:Rat}(h:flE q=0):flV q=q.floor:=by
 have h:=ZlM.1 h;unfold flV intV;rw[if_pos h];split<;>omega
def bxOk(x y z t:RV):Prop:=x.q<=z.q/\y.q<=t.q
end
