/- Joined by wip/bundle.py: XPolyB XPolyC XApartA XApartB. -/
import Derived.Test.YtpfemjpgbpnpkaaGreatDoorWg
import Derived.Test.YtpfemjpgbpnpkaaGreatDoorGrpP
import Derived.Test.YtpfemjpgbpnpkaaGreatDoorEngGrid
namespace Go.Proofs.YtpfemjpgbpnpkaaGreatDoor.eng
open Go.RowKit num mem seg q held ratA ratB ratC ratD ratE vars ratF
section
variable {K : AV → Prop}
def dotF (l:List (RV×RV)) (x y:RV) (j:Nat):Rat:=(pts l j).1*x.q+(pts l j).2*y.q
end
end Go.Proofs.YtpfemjpgbpnpkaaGreatDoor.eng
namespace Go.Proofs.YtpfemjpgbpnpkaaGreatDoor.eng
open Go.RowKit num mem seg q held ratA ratB ratC ratD ratE vars ratF
section
variable {K : AV → Prop}
def cvl (m:List (Rat×Rat)):List (RV×RV):=m.map fun p=>(cn p.1,cn p.2)
theorem Zd5 (m:List (Rat×Rat)):(cvl m).length=m.length:=by simp [cvl]
theorem Zvm (m:List (Rat×Rat)):pts (cvl m)=fun i=>(m[i]?).getD (0,0):=by
 funext i
 unfold pts cvl
 rw [List.getElem?_map]
 cases m[i]? with
 |none=>simp [z0q]
 |some p=>simp [cn_q]
end
end Go.Proofs.YtpfemjpgbpnpkaaGreatDoor.eng
namespace Go.Proofs.YtpfemjpgbpnpkaaGreatDoor.eng
open Go.RowKit num mem seg q held ratA ratB ratC ratD ratE vars ratF
section
variable {K : AV → Prop}
def distQ (p a b:poly.Pt):Rat:=
 if (p.1 - a.1)*(b.1 - a.1)+(p.2 - a.2)*(b.2 - a.2)≤0 then (p.1 - a.1)*(p.1 - a.1)+(p.2 - a.2)*(p.2 - a.2)
 else if (b.1 - a.1)*(b.1 - a.1)+(b.2 - a.2)*(b.2 - a.2)≤(p.1 - a.1)*(b.1 - a.1)+(p.2 - a.2)*(b.2 - a.2) then (p.1 - b.1)*(p.1 - b.1)+(p.2 - b.2)*(p.2 - b.2)
 else ((b.1 - a.1)*(p.2 - a.2) - (b.2 - a.2)*(p.1 - a.1))*((b.1 - a.1)*(p.2 - a.2) - (b.2 - a.2)*(p.1 - a.1)) / ((b.1 - a.1)*(b.1 - a.1)+(b.2 - a.2)*(b.2 - a.2))
def nearL (P:Nat→poly.Pt) (n:Nat) (p:poly.Pt) (k:Nat):List Rat:=(List.range k).map fun i=>distQ p (P i) (P ((i+1) % n))
def nearQ (l:List (RV×RV)) (p:poly.Pt):Rat:=lowL (distQ p (pts l 0) (pts l 1)) (nearL (pts l) l.length p l.length)
def sqL1 (a b:List (RV×RV)) (i:Nat):List Rat:=(a.take i).map fun p=>nearQ b (p.1.q,p.2.q)
def sqQ (a b:List (RV×RV)):Rat:=lowL (lowL (nearQ b (pts a 0)) (sqL1 a b a.length)) (sqL1 b a b.length)
end
end Go.Proofs.YtpfemjpgbpnpkaaGreatDoor.eng
namespace Go.Proofs.YtpfemjpgbpnpkaaGreatDoor.eng
open Go.RowKit num mem seg q held ratA ratB ratC ratD ratE vars ratF
section
variable {K : AV → Prop}
instance (x y z t:RV):Decidable (bxOk x y z t):=inferInstanceAs (Decidable (x.q≤z.q∧y.q≤t.q))
def bxMeet (x y z t x2 y2 z2 t2:RV):Prop:=bxOk x y z t∧bxOk x2 y2 z2 t2∧x.q≤z2.q∧x2.q≤z.q∧y.q≤t2.q∧y2.q≤t.q
instance (x y z t x2 y2 z2 t2:RV):Decidable (bxMeet x y z t x2 y2 z2 t2):=inferInstanceAs (Decidable (_∧_∧_∧_∧_∧_))
end
end Go.Proofs.YtpfemjpgbpnpkaaGreatDoor.eng
