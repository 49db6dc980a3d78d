/- Joined by wip/bundle.py: XLawQa XLawQb XLawQc XEngQ5. -/
import Derived.Test.YtpfemjpgbpnpkaaGreatDoorGrp7
import Derived.Test.YtpfemjpgbpnpkaaGreatDoorGrpT
import Derived.Test.YtpfemjpgbpnpkaaGreatDoorGrpA
namespace Go.Proofs.YtpfemjpgbpnpkaaGreatDoor.eng
open Go.RowKit num mem seg q held ratA ratB ratC ratD ratE vars ratF natC natD natI
section
variable {K : AV → Prop} {a b : ByteArray} {x y r t : RV} {p q : Rat}
end
end Go.Proofs.YtpfemjpgbpnpkaaGreatDoor.eng
namespace Go.Proofs.YtpfemjpgbpnpkaaGreatDoor.eng
open Go.RowKit num mem seg q held ratA ratB ratC ratD ratE vars ratF natC natD natI
section
variable {K : AV → Prop} {a b : ByteArray} {x y r t : RV} {p q : Rat}
end
end Go.Proofs.YtpfemjpgbpnpkaaGreatDoor.eng
namespace Go.Proofs.YtpfemjpgbpnpkaaGreatDoor.eng
open Go.RowKit num mem seg q held ratA ratB ratC ratD ratE vars ratF natC natD natI
section
variable {K : AV → Prop} {a b : ByteArray} {x y r t : RV} {p q : Rat}
def Fr1 (r:RV) (m:Int):Prop:=r.d=⟨#[1]⟩∧sg r.s (nv r.a)=m
theorem Fr1.over {m:Int} (h:Fr1 r m) {d:ByteArray} {n:Nat} (hd:nv d=n) (hn:0< n):Fr ⟨r.s,r.a,d⟩ (mkRat m n):=by
 subst hd
 exact⟨hn,by show mkRat (sg r.s (nv r.a)) (nv d)=_;rw [h.2]⟩
theorem Fr1.neg {m:Int} (h:Fr1 r m):Fr1 ⟨!r.s,r.a,r.d⟩ (-m):=by
 refine⟨h.1,?_⟩
 rw [← h.2]
 show sg (!r.s) (nv r.a)=_
 cases r.s<;>simp [sg]
end
end Go.Proofs.YtpfemjpgbpnpkaaGreatDoor.eng
namespace Go.Proofs.YtpfemjpgbpnpkaaGreatDoor.eng
open Go.RowKit num mem seg q held ratA ratB ratC ratD ratE vars ratF natC natD natI
def IsRoot (a r:Nat):Prop:=r*r≤a∧a< (r+1)*(r+1)
theorem Zje {a r t:Nat} (h:IsRoot a r) (g:IsRoot a t):r=t:=by
 obtain⟨h1,h2⟩:=h
 obtain⟨g1,g2⟩:=g
 rcases Nat.lt_trichotomy r t with h|h|h
 ·have:=Nat.mul_le_mul (show r+1≤t by omega) (show r+1≤t by omega);omega
 ·exact h
 ·have:=Nat.mul_le_mul (show t+1≤r by omega) (show t+1≤r by omega);omega
theorem Ze1 (a:Nat):∃ r,IsRoot a r:=by
 induction a with
 |zero=>exact⟨0,by decide,by decide⟩
 |succ a ih=>
  obtain⟨r,h1,h2⟩:=ih
  by_cases h:a+1< (r+1)*(r+1)
  ·exact⟨r,by omega,h⟩
  ·refine⟨r+1,by omega,?_⟩
   have:(r+1)*(r+1)=a+1:=by omega
   have h3:(r+1+1)*(r+1+1)=(r+1)*(r+1)+2*(r+1)+1:=by
    rw [Nat.add_mul (r+1) 1,Nat.mul_add (r+1)];omega
   omega
noncomputable def rootN (a:Nat):Nat:=Classical.choose (Ze1 a)
theorem ZkI (a:Nat):IsRoot a (rootN a):=Classical.choose_spec (Ze1 a)
theorem Zjf {a r:Nat} (h:IsRoot a r):r=rootN a:=Zje h (ZkI a)
theorem ZxD (r:Nat):r≤r*r:=by
 rcases Nat.eq_zero_or_pos r with h|h
 ·subst h;omega
 ·exact Nat.le_mul_of_pos_left r h
theorem Zn4 {r s v b:Nat} (h:r*r+s=v) (hs:s≤2*r) (hb:b≤3):
  (4*r+1≤4*s+b→(2*r+1)*(2*r+1)+(4*s+b - (4*r+1))=4*v+b∧4*s+b - (4*r+1)≤2*(2*r+1))∧
  (¬ 4*r+1≤4*s+b→(2*r)*(2*r)+(4*s+b)=4*v+b∧4*s+b≤2*(2*r)):=by
 have e1:(2*r+1)*(2*r+1)=4*(r*r)+4*r+1:=by
  rw [Nat.add_mul,Nat.mul_add,Nat.mul_mul_mul_comm];omega
 have e2:(2*r)*(2*r)=4*(r*r):=Nat.mul_mul_mul_comm 2 r 2 r
 constructor
 ·intro hle;rw [e1];omega
 ·intro hle;rw [e2];omega
theorem Zon (n i:Nat):n / 4 ^ i % 4=2*(n / 2 ^ (2*i+1) % 2)+n / 2 ^ (2*i) % 2:=by
 have e:(4:Nat) ^ i=2 ^ (2*i):=by rw [Nat.pow_mul]
 rw [e,Nat.pow_succ,← Nat.div_div_eq_div_mul]
 generalize n / 2 ^ (2*i)=x
 omega
theorem ZqU (n i:Nat):n / 4 ^ i=4*(n / 4 ^ (i+1))+n / 4 ^ i % 4:=by
 rw [Nat.pow_succ,← Nat.div_div_eq_div_mul]
 omega
theorem newton {a x r:Nat} (hx:0< x) (hr:r*r≤a):r≤(x+a / x) / 2:=by
 rw [Nat.le_div_iff_mul_le (by decide)]
 by_cases h:r*2≤x
 ·generalize a / x=q;omega
 ·have h1:(r*2 - x)≤a / x:=by
   rw [Nat.le_div_iff_mul_le hx]
   refine Nat.le_trans ?_ hr
   rcases Nat.le_total x r with hxr|hxr
   ·obtain⟨d,rfl⟩:=Nat.le.dest hxr
    have e:(x+d)*2 - x=x+2*d:=by omega
    rw [e]
    have e1:(x+2*d)*x=x*x+2*(d*x):=by rw [Nat.add_mul,Nat.mul_assoc]
    have e2:(x+d)*(x+d)=x*x+d*x+(x*d+d*d):=by rw [Nat.mul_add,Nat.add_mul,Nat.add_mul]
    have e3:=Nat.mul_comm d x
    rw [e1,e2]
    omega
   ·obtain⟨d,rfl⟩:=Nat.le.dest hxr
    have e:r*2 - (r+d)=r - d:=by omega
    rw [e]
    have hd:d≤r:=by omega
    obtain⟨c,rfl⟩:=Nat.le.dest hd
    rw [show d+c - d=c by omega]
    have e1:c*(d+c+d)=c*d+c*c+c*d:=by rw [Nat.mul_add,Nat.mul_add]
    have e2:(d+c)*(d+c)=d*d+c*d+(d*c+c*c):=by rw [Nat.add_mul,Nat.mul_add,Nat.mul_add];omega
    have e3:=Nat.mul_comm c d
    rw [e1,e2]
    omega
  generalize a / x=q at*
  omega
theorem ZjB {a x:Nat} (hx:0< x) (h:x≤(x+a / x) / 2):x*x≤a:=by
 have h1:x≤a / x:=by omega
 exact(Nat.le_div_iff_mul_le hx).1 h1
end Go.Proofs.YtpfemjpgbpnpkaaGreatDoor.eng
