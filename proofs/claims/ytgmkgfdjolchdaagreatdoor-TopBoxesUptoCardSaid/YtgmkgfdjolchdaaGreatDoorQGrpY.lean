/- Joined by wip/bundle.py: XPolyB XPolyC XApartA XApartB. -/
import Derived.Test.YtgmkgfdjolchdaaGreatDoorQGrpGr
namespace Go.Proofs.YtgmkgfdjolchdaaGreatDoor.eng
open Go.RowKit num mem seg q held ratA ratB ratC ratD ratE vars ratF
section
variable {K : AV → Prop}
end
section
variable {K : AV → Prop}
def cvl (m:List (Rat×Rat)):List (RV×RV):=m.map fun p=>(cn p.1,cn p.2)
theorem ZiZ (m:List (Rat×Rat)):(cvl m).length=m.length:=by simp [cvl]
theorem Ztq (m:List (Rat×Rat)):pts (cvl m)=fun i=>(m[i]?).getD (0,0):=by
 funext i
 unfold pts cvl
 rw [List.getElem?_map]
 cases m[i]? with
 |none=>simp [z0q]
 |some p=>simp [cn_q]
end
section
variable {K : AV → Prop}
end
section
variable {K : AV → Prop}
instance (x y z t:RV):Decidable (bxOk x y z t):=inferInstanceAs (Decidable (x.q≤z.q∧y.q≤t.q))
def bxMeet (x y z t x2 y2 z2 t2:RV):Prop:=bxOk x y z t∧bxOk x2 y2 z2 t2∧x.q≤z2.q∧x2.q≤z.q∧y.q≤t2.q∧y2.q≤t.q
instance (x y z t x2 y2 z2 t2:RV):Decidable (bxMeet x y z t x2 y2 z2 t2):=inferInstanceAs (Decidable (_∧_∧_∧_∧_∧_))
end
