/- Joined by wip/bundle.py: XSwt0 XSwtA XSwtB. -/
import Derived.Test.YtncoimmjjfmhdaaGreatDoorGrpR
import Derived.Test.YtncoimmjjfmhdaaGreatDoorGrpS
import Derived.Test.YtncoimmjjfmhdaaGreatDoorGrpY
import Derived.Test.YtncoimmjjfmhdaaGreatDoorWg
import Derived.Test.YtncoimmjjfmhdaaGreatDoorPrf0
import Derived.Test.YtncoimmjjfmhdaaGreatDoorGrpHc
set_option maxRecDepth 100000
namespace Go.Proofs.YtncoimmjjfmhdaaGreatDoor.eng
open Go.RowKit num mem seg q held ratA ratB ratC ratD ratE vars ratF trq
section
variable {K : AV → Prop}
theorem ZhF {p q r u:Rat} (h1:sle p q) (h2:sle r u) (hp:qs p≤268435456) (hq:qs q≤268435456) (hr:qs r≤268435456) (hu:qs u≤268435456) (k:∀ ya yb,ya=mulLo p q r u→yb=mulHi p q r u→sle ya yb→qs ya≤qs p+qs q+qs r+qs u+20→qs yb≤qs p+qs q+qs r+qs u+20→K (pair (cn ya) (cn yb))):Ask 38 [pair (cn p) (cn q),pair (cn r) (cn u)] K:=by
 refine ZoL (by rw [cn_z];omega) (by rw [cn_z];omega) (by rw [cn_z];omega) (by rw [cn_z];omega) fun ya yb ha hb z1 z2=> ?_
 simp only [Zy h1,Zz h1,Zy h2,Zz h2] at ha hb
 simp only [cn_z] at z1 z2
 exact k ya yb ha hb (by rw [ha,hb];exact Rat.le_trans (ZdS Rat.le_refl h1 Rat.le_refl h2).1 (ZdS Rat.le_refl h1 Rat.le_refl h2).2) (by omega) (by omega)
theorem ZoQ {p q r u:Rat} (h1:sle p q) (h2:sle r u) (hp:qs p≤268435456) (hq:qs q≤268435456) (hr:qs r≤268435456) (hu:qs u≤268435456) (k:∀ ya yb,ya=p+r→yb=q+u→sle ya yb→qs ya≤qs p+qs q+qs r+qs u+20→qs yb≤qs p+qs q+qs r+qs u+20→K (pair (cn ya) (cn yb))):Ask 39 [pair (cn p) (cn q),pair (cn r) (cn u)] K:=by
 refine ZoM (by rw [cn_z];omega) (by rw [cn_z];omega) (by rw [cn_z];omega) (by rw [cn_z];omega) fun ya yb ha hb z1 z2=> ?_
 simp only [Zy h1,Zz h1,Zy h2,Zz h2] at ha hb
 simp only [cn_z] at z1 z2
 exact k ya yb ha hb (by rw [ha,hb];unfold sle at*;grind) (by omega) (by omega)
theorem ZoN {p q r u:Rat} (h1:sle p q) (h2:sle r u) (hp:qs p≤268435456) (hq:qs q≤268435456) (hr:qs r≤268435456) (hu:qs u≤268435456) (k:∀ ya yb,ya=p - u→yb=q - r→sle ya yb→qs ya≤qs p+qs q+qs r+qs u+20→qs yb≤qs p+qs q+qs r+qs u+20→K (pair (cn ya) (cn yb))):Ask 37 [pair (cn p) (cn q),pair (cn r) (cn u)] K:=by
 refine ZoK (by rw [cn_z];omega) (by rw [cn_z];omega) (by rw [cn_z];omega) (by rw [cn_z];omega) fun ya yb ha hb z1 z2=> ?_
 simp only [Zy h1,Zz h1,Zy h2,Zz h2] at ha hb
 simp only [cn_z] at z1 z2
 exact k ya yb ha hb (by rw [ha,hb];unfold sle at*;grind) (by omega) (by omega)
theorem ZoP {x y:RV} (hx:x.z≤3145760) (hy:y.z≤3145760) (k:∀ ya yb,ya=(cs3 (slo x y) (shi x y)).1→yb=(cs3 (slo x y) (shi x y)).2→sle ya yb→qs ya≤4*(x.z+y.z+8)+34→qs yb≤4*(x.z+y.z+8)+34→K (pair (cn ya) (cn yb))):Ask 34 [pair x y] K:=by
 refine ZkF (by omega) (by omega) fun ya yb ha hb=> ?_
 have hz1:=ZaA x y
 have hz2:=ZaB x y
 rw [cn_z] at hz1 hz2
 obtain⟨z1,z2⟩:=Zn7 (l:=slo x y) (h:=shi x y) (B:=x.z+y.z+8) (by omega) (by omega) (by omega)
 have e:=Zk4 (ZcO x y)
 have ha:ya=(cs3 (slo x y) (shi x y)).1:=by rw [← e];exact ha
 have hb:yb=(cs3 (slo x y) (shi x y)).2:=by rw [← e];exact hb
 have hle:sle (cs3 (slo x y) (shi x y)).1 (cs3 (slo x y) (shi x y)).2:=Rat.le_trans (Zd1 _ _).1 (Zd1 _ _).2
 exact k ya yb ha hb (by rw [ha,hb];exact hle) (by rw [ha];exact z1) (by rw [hb];exact z2)
theorem ZoO {x y:RV} (hx:x.z≤3145760) (hy:y.z≤3145760) (k:∀ ya yb,ya=(sn3 (slo x y) (shi x y)).1→yb=(sn3 (slo x y) (shi x y)).2→sle ya yb→qs ya≤4*(x.z+y.z+8)+34→qs yb≤4*(x.z+y.z+8)+34→K (pair (cn ya) (cn yb))):Ask 35 [pair x y] K:=by
 refine Zky (by omega) (by omega) fun ya yb ha hb=> ?_
 have hz1:=ZaA x y
 have hz2:=ZaB x y
 rw [cn_z] at hz1 hz2
 obtain⟨z1,z2⟩:=Znr (l:=slo x y) (h:=shi x y) (B:=x.z+y.z+8) (by omega) (by omega) (by omega)
 have e:=Zjz (ZcO x y)
 rw [e] at ha hb
 have hle:sle (sn3 (slo x y) (shi x y)).1 (sn3 (slo x y) (shi x y)).2:=Rat.le_trans (ZdG _ _).1 (ZdG _ _).2
 exact k ya yb ha hb (by rw [ha,hb];exact hle) (by rw [ha];exact z1) (by rw [hb];exact z2)
theorem ZnL {a b c d:Rat} (h1:a≤b) (h2:c≤d):lowL (a+c) [a+d,b+c,b+d]=a+c:=
 ZhA (.inl rfl) Rat.le_refl (by simp only [List.mem_cons,List.mem_nil_iff,or_false];rintro q (rfl|rfl|rfl)<;>grind)
theorem Zmq {a b c d:Rat} (h1:a≤b) (h2:c≤d):highL (a+c) [a+d,b+c,b+d]=b+d:=
 ZeC (.inr (by simp)) (by grind) (by simp only [List.mem_cons,List.mem_nil_iff,or_false];rintro q (rfl|rfl|rfl)<;>grind)
theorem ZnK {a b c d:Rat} (h1:a≤b) (h2:c≤d):lowL (a - c) [a - d,b - c,b - d]=a - d:=
 ZhA (.inr (by simp)) (by grind) (by simp only [List.mem_cons,List.mem_nil_iff,or_false];rintro q (rfl|rfl|rfl)<;>grind)
theorem Zmp {a b c d:Rat} (h1:a≤b) (h2:c≤d):highL (a - c) [a - d,b - c,b - d]=b - c:=
 ZeC (.inr (by simp)) (by grind) (by simp only [List.mem_cons,List.mem_nil_iff,or_false];rintro q (rfl|rfl|rfl)<;>grind)
theorem Zhe (x:RV):slo x x=x.q:=by
 by_cases h:sgd x x
 ·exact if_pos h
 ·rw [slo,if_neg h]
  have hg:¬ x.good:=fun g=>h ⟨g,g,Rat.le_refl⟩
  exact(if_neg (show ¬ q.good x.s x.a x.d from hg)).symm
theorem Zhj (x:RV):shi x x=x.q:=by
 by_cases h:sgd x x
 ·exact if_pos h
 ·rw [shi,if_neg h]
  have hg:¬ x.good:=fun g=>h ⟨g,g,Rat.le_refl⟩
  exact(if_neg (show ¬ q.good x.s x.a x.d from hg)).symm
theorem ZhG {x:RV} {r u:Rat} (h2:sle r u) (hx:x.z≤268435456) (hr:qs r≤268435456) (hu:qs u≤268435456) (k:∀ ya yb,ya=mulLo x.q x.q r u→yb=mulHi x.q x.q r u→sle ya yb→qs ya≤x.z+qs r+qs u+2→qs yb≤x.z+qs r+qs u+2→K (pair (cn ya) (cn yb))):Ask 18 [pair x x,pair (cn r) (cn u),fv 19] K:=by
 have hxq:=x.z1
 have hs:=Zcb 1073741824 (by decide) 19 (· * ·) x x (cn r) (cn u) (by omega) (by omega) (by rw [cn_z];omega) (by rw [cn_z];omega) (fun p q hp hq K k=>by
  have h1:qs p≤x.z+1:=by rw [Zhe,Zhj] at hp;rcases hp with rfl|rfl<;>omega
  have h3:qs q≤268435456:=by rw [Zy h2,Zz h2] at hq;rcases hq with rfl|rfl<;>omega
  refine Za2 (x:=cn p) (y:=cn q) (by rw [cn_z];omega) (by rw [cn_z];omega) fun r e z=>k r (by simpa only [cn_q] using e) ?_
  simp only [cn_z] at z;omega)
 rw [Zhe,Zhj,Zy h2,Zz h2] at hs
 obtain⟨z1,z2⟩:=Zfu (a:=x.q) (b:=x.q) (c:=r) (d:=u) (B:=x.z+1) (C:=qs r+qs u) (by omega) (by omega) (by omega) (by omega)
 exact use hs rfl (k _ _ rfl rfl (Rat.le_trans (ZdS Rat.le_refl Rat.le_refl Rat.le_refl h2).1 (ZdS Rat.le_refl Rat.le_refl Rat.le_refl h2).2) (Nat.le_trans z1 (by omega)) (Nat.le_trans z2 (by omega)))
theorem ZoV {p q r u:Rat} (h1:sle p q) (h2:sle r u) (hp:qs p≤268435456) (hq:qs q≤268435456) (hr:qs r≤268435456) (hu:qs u≤268435456) (k:∀ ya yb,ya=p+r→yb=q+u→sle ya yb→qs ya≤qs p+qs q+qs r+qs u+20→qs yb≤qs p+qs q+qs r+qs u+20→K (pair (cn ya) (cn yb))):Ask 18 [pair (cn p) (cn q),pair (cn r) (cn u),fv 12] K:=by
 have hs:=Zcb 1073741824 (by decide) 12 (· + ·) (cn p) (cn q) (cn r) (cn u) (by rw [cn_z];omega) (by rw [cn_z];omega) (by rw [cn_z];omega) (by rw [cn_z];omega) (fun a b ha hb K k=>by
  have h3:qs a≤268435456:=by rw [Zy h1,Zz h1] at ha;rcases ha with rfl|rfl<;>assumption
  have h4:qs b≤268435456:=by rw [Zy h2,Zz h2] at hb;rcases hb with rfl|rfl<;>assumption
  refine ZbQ (x:=cn a) (y:=cn b) (by rw [cn_z];omega) (by rw [cn_z];omega) fun r e z=>k r (by simpa only [cn_q] using e) ?_
  simp only [cn_z] at z;omega)
 rw [Zy h1,Zz h1,Zy h2,Zz h2] at hs
 simp only [ZnL h1 h2,Zmq h1 h2] at hs
 have z1:=ZU p r
 have z2:=ZU q u
 exact use hs rfl (k _ _ rfl rfl (by unfold sle at*;grind) (by omega) (by omega))
theorem ZoU {p q r u:Rat} (h1:sle p q) (h2:sle r u) (hp:qs p≤268435456) (hq:qs q≤268435456) (hr:qs r≤268435456) (hu:qs u≤268435456) (k:∀ ya yb,ya=p - u→yb=q - r→sle ya yb→qs ya≤qs p+qs q+qs r+qs u+20→qs yb≤qs p+qs q+qs r+qs u+20→K (pair (cn ya) (cn yb))):Ask 18 [pair (cn p) (cn q),pair (cn r) (cn u),fv 20] K:=by
 have hs:=Zcb 1073741824 (by decide) 20 (· - ·) (cn p) (cn q) (cn r) (cn u) (by rw [cn_z];omega) (by rw [cn_z];omega) (by rw [cn_z];omega) (by rw [cn_z];omega) (fun a b ha hb K k=>by
  have h3:qs a≤268435456:=by rw [Zy h1,Zz h1] at ha;rcases ha with rfl|rfl<;>assumption
  have h4:qs b≤268435456:=by rw [Zy h2,Zz h2] at hb;rcases hb with rfl|rfl<;>assumption
  refine ZbP (x:=cn a) (y:=cn b) (by rw [cn_z];omega) (by rw [cn_z];omega) fun r e z=>k r (by simpa only [cn_q] using e) ?_
  simp only [cn_z] at z;omega)
 rw [Zy h1,Zz h1,Zy h2,Zz h2] at hs
 simp only [ZnK h1 h2,Zmp h1 h2] at hs
 have z1:=Zag p u
 have z2:=Zag q r
 exact use hs rfl (k _ _ rfl rfl (by unfold sle at*;grind) (by omega) (by omega))
theorem ZnS {x y:RV} (hx:x.z≤3145760) (hy:y.z≤3145760) (k:∀ ya yb,ya=(cs3 (slo x y) (shi x y)).1→yb=(cs3 (slo x y) (shi x y)).2→sle ya yb→qs ya≤4*(x.z+y.z+8)+34→qs yb≤4*(x.z+y.z+8)+34→K (pair (cn ya) (cn yb))):Ask 15 [pair x y] K:=by
 refine ZiK (by omega) (by omega) fun ya yb ha hb=> ?_
 have hz1:=ZaA x y
 have hz2:=ZaB x y
 rw [cn_z] at hz1 hz2
 obtain⟨z1,z2⟩:=Zn7 (l:=slo x y) (h:=shi x y) (B:=x.z+y.z+8) (by omega) (by omega) (by omega)
 have e:=Zk4 (ZcO x y)
 have ha:ya=(cs3 (slo x y) (shi x y)).1:=by rw [← e,ha];exact(Zk3 _ _).symm
 have hb:yb=(cs3 (slo x y) (shi x y)).2:=by rw [← e,hb];exact(Zh1 _ _).symm
 have hle:sle (cs3 (slo x y) (shi x y)).1 (cs3 (slo x y) (shi x y)).2:=Rat.le_trans (Zd1 _ _).1 (Zd1 _ _).2
 exact k ya yb ha hb (by rw [ha,hb];exact hle) (by rw [ha];exact z1) (by rw [hb];exact z2)
theorem ZnR {x y:RV} (hx:x.z≤1048576) (hy:y.z≤1048576) (k:∀ ya yb,ya=(sn3 (slo x y) (shi x y)).1→yb=(sn3 (slo x y) (shi x y)).2→sle ya yb→qs ya≤4*(x.z+y.z+8)+34→qs yb≤4*(x.z+y.z+8)+34→K (pair (cn ya) (cn yb))):Ask 16 [pair x y] K:=by
 refine Zml (by omega) (by omega) fun ya yb ha hb=> ?_
 have hz1:=ZaA x y
 have hz2:=ZaB x y
 rw [cn_z] at hz1 hz2
 obtain⟨z1,z2⟩:=Znr (l:=slo x y) (h:=shi x y) (B:=x.z+y.z+8) (by omega) (by omega) (by omega)
 have e:=Zjz (ZcO x y)
 have ha:ya=(sn3 (slo x y) (shi x y)).1:=by rw [← e,ha];exact(Ze6 _ _).1.symm
 have hb:yb=(sn3 (slo x y) (shi x y)).2:=by rw [← e,hb];exact(Ze6 _ _).2.symm
 have hle:sle (sn3 (slo x y) (shi x y)).1 (sn3 (slo x y) (shi x y)).2:=Rat.le_trans (ZdG _ _).1 (ZdG _ _).2
 exact k ya yb ha hb (by rw [ha,hb];exact hle) (by rw [ha];exact z1) (by rw [hb];exact z2)
end
end Go.Proofs.YtncoimmjjfmhdaaGreatDoor.eng
namespace Go.Proofs.YtncoimmjjfmhdaaGreatDoor.eng
open Go.RowKit num mem seg q held ratA ratB ratC ratD ratE vars ratF trq prf
section
variable {K : AV → Prop}
def csT (x y:RV):Rat×Rat:=cs3 (slo x y) (shi x y)
def snT (x y:RV):Rat×Rat:=sn3 (slo x y) (shi x y)
def uAt (c s:Rat×Rat) (p:RV×RV):Rat×Rat:=(mulLo p.1.q p.1.q c.1 c.2 - mulHi p.2.q p.2.q s.1 s.2,mulHi p.1.q p.1.q c.1 c.2 - mulLo p.2.q p.2.q s.1 s.2)
def vAt (c s:Rat×Rat) (p:RV×RV):Rat×Rat:=(mulLo p.1.q p.1.q s.1 s.2+mulLo p.2.q p.2.q c.1 c.2,mulHi p.1.q p.1.q s.1 s.2+mulHi p.2.q p.2.q c.1 c.2)
theorem Zhx {a r u:Rat} (h:sle r u):mulLo a a r u≤mulHi a a r u:=Rat.le_trans (ZdS Rat.le_refl Rat.le_refl Rat.le_refl h).1 (ZdS Rat.le_refl Rat.le_refl Rat.le_refl h).2
theorem ZmK {c s:Rat×Rat} (hc:sle c.1 c.2) (hs:sle s.1 s.2) (p:RV×RV):sle (uAt c s p).1 (uAt c s p).2:=by
 have h1:=Zhx (a:=p.1.q) hc
 have h2:=Zhx (a:=p.2.q) hs
 unfold sle uAt;simp only;grind
theorem ZmJ {c s:Rat×Rat} (hc:sle c.1 c.2) (hs:sle s.1 s.2) (p:RV×RV):sle (vAt c s p).1 (vAt c s p).2:=by
 have h1:=Zhx (a:=p.1.q) hs
 have h2:=Zhx (a:=p.2.q) hc
 unfold sle vAt;simp only;grind
theorem Zo4 {c s:Rat×Rat} {B C:Nat} (h1:qs c.1≤C) (h2:qs c.2≤C) (h3:qs s.1≤C) (h4:qs s.2≤C) {p:RV×RV} (h5:p.1.z+1≤B) (h6:p.2.z+1≤B):qs (uAt c s p).1≤2*(B+C)+3∧qs (uAt c s p).2≤2*(B+C)+3:=by
 have hx:=p.1.z1;have hy:=p.2.z1
 obtain⟨a1,a2⟩:=Zfu (a:=p.1.q) (b:=p.1.q) (c:=c.1) (d:=c.2) (B:=B) (C:=C) (by omega) (by omega) h1 h2
 obtain⟨b1,b2⟩:=Zfu (a:=p.2.q) (b:=p.2.q) (c:=s.1) (d:=s.2) (B:=B) (C:=C) (by omega) (by omega) h3 h4
 have k1:=Zag (mulLo p.1.q p.1.q c.1 c.2) (mulHi p.2.q p.2.q s.1 s.2)
 have k2:=Zag (mulHi p.1.q p.1.q c.1 c.2) (mulLo p.2.q p.2.q s.1 s.2)
 unfold uAt;exact⟨by simp only;omega,by simp only;omega⟩
theorem Zo3 {c s:Rat×Rat} {B C:Nat} (h1:qs c.1≤C) (h2:qs c.2≤C) (h3:qs s.1≤C) (h4:qs s.2≤C) {p:RV×RV} (h5:p.1.z+1≤B) (h6:p.2.z+1≤B):qs (vAt c s p).1≤2*(B+C)+3∧qs (vAt c s p).2≤2*(B+C)+3:=by
 have hx:=p.1.z1;have hy:=p.2.z1
 obtain⟨a1,a2⟩:=Zfu (a:=p.1.q) (b:=p.1.q) (c:=s.1) (d:=s.2) (B:=B) (C:=C) (by omega) (by omega) h3 h4
 obtain⟨b1,b2⟩:=Zfu (a:=p.2.q) (b:=p.2.q) (c:=c.1) (d:=c.2) (B:=B) (C:=C) (by omega) (by omega) h1 h2
 have k1:=ZU (mulLo p.1.q p.1.q s.1 s.2) (mulLo p.2.q p.2.q c.1 c.2)
 have k2:=ZU (mulHi p.1.q p.1.q s.1 s.2) (mulHi p.2.q p.2.q c.1 c.2)
 unfold vAt;exact⟨by simp only;omega,by simp only;omega⟩
def jn (f:Nat→Rat×Rat):Nat→Rat×Rat
 |0=>f 0
 |i+1=>(minQ (jn f i).1 (f i).1,maxQ (jn f i).2 (f i).2)
def jR (f:Nat→Rat×Rat):Nat→RV×RV
 |0=>(z0,z0)
 |i+1=>(cn (jn f (i+1)).1,cn (jn f (i+1)).2)
theorem ZkJ {f:Nat→Rat×Rat} (hf:∀ i,sle (f i).1 (f i).2):∀ i,sle (jn f i).1 (jn f i).2
 |0=>hf 0
 |i+1=>by have h1:=ZkJ hf i;have h2:=hf i;unfold jn sle minQ maxQ at*;grind
theorem jn_z {f:Nat→Rat×Rat} {B:Nat} (hf:∀ i,qs (f i).1≤B∧qs (f i).2≤B):∀ i,qs (jn f i).1≤B∧qs (jn f i).2≤B
 |0=>hf 0
 |i+1=>by
  have h1:=jn_z hf i;have h2:=hf i
  unfold jn minQ maxQ
  constructor<;>(simp only;split)<;>omega
theorem Zc5 (a:Rat):minQ a a=a:=by unfold minQ;split<;>rfl
theorem Zc6 (a:Rat):maxQ a a=a:=by unfold maxQ;split<;>rfl
theorem jn_1 (f:Nat→Rat×Rat):jn f 1=f 0:=by unfold jn;exact Prod.ext (Zc5 _) (Zc6 _)
theorem Zmo (f:Nat→Rat×Rat) {i:Nat} (h:0< i):jR f i=(cn (jn f i).1,cn (jn f i).2):=by
 obtain⟨m,rfl⟩:∃ m,i=m+1:=⟨i - 1,by omega⟩
 rfl
theorem jR_z {f:Nat→Rat×Rat} {B:Nat} (hf:∀ i,qs (f i).1≤B∧qs (f i).2≤B) (i:Nat):(jR f i).1.z≤B∧(jR f i).2.z≤B:=by
 cases i with
 |zero=>exact⟨by show z0.z≤B;rw [z0z];omega,by show z0.z≤B;rw [z0z];omega⟩
 |succ i=>have:=jn_z hf (i+1);exact⟨by show (cn _).z≤B;rw [cn_z];exact this.1,by show (cn _).z≤B;rw [cn_z];exact this.2⟩
def ptAt (l:List (RV×RV)) (i:Nat):RV×RV:=(l[i]?).getD (z0,z0)
theorem ZjZ {l:List (RV×RV)} {i:Nat} {p:RV×RV} (h:l[i]? =some p):ptAt l i=p:=by simp [ptAt,h]
theorem ZmS {l:List (RV×RV)} {B:Nat} (hl:∀ p,p∈l→p.1.z≤B∧p.2.z≤B) (i:Nat):(ptAt l i).1.z≤B∧(ptAt l i).2.z≤B:=by
 unfold ptAt
 cases h:l[i]? with
 |none=>exact⟨by show z0.z≤B;rw [z0z];omega,by show z0.z≤B;rw [z0z];omega⟩
 |some p=>exact hl p (List.mem_of_getElem? h)
def uF (l:List (RV×RV)) (x y:RV) (i:Nat):Rat×Rat:=uAt (csT x y) (snT x y) (ptAt l i)
def vF (l:List (RV×RV)) (x y:RV) (i:Nat):Rat×Rat:=vAt (csT x y) (snT x y) (ptAt l i)
theorem ZhZ (x y:RV):sle (csT x y).1 (csT x y).2:=Rat.le_trans (Zd1 _ _).1 (Zd1 _ _).2
theorem Zhd (x y:RV):sle (snT x y).1 (snT x y).2:=Rat.le_trans (ZdG _ _).1 (ZdG _ _).2
theorem Zod {x y:RV} (hx:x.z≤1048576) (hy:y.z≤1048576):(qs (csT x y).1≤16777216∧qs (csT x y).2≤16777216)∧qs (snT x y).1≤16777216∧qs (snT x y).2≤16777216:=by
 have hz1:=ZaA x y
 have hz2:=ZaB x y
 rw [cn_z] at hz1 hz2
 obtain⟨z1,z2⟩:=Zn7 (l:=slo x y) (h:=shi x y) (B:=x.z+y.z+8) (by omega) (by omega) (by omega)
 obtain⟨z3,z4⟩:=Znr (l:=slo x y) (h:=shi x y) (B:=x.z+y.z+8) (by omega) (by omega) (by omega)
 exact⟨⟨Nat.le_trans z1 (by omega),Nat.le_trans z2 (by omega)⟩,Nat.le_trans z3 (by omega),Nat.le_trans z4 (by omega)⟩
theorem uF_z {l:List (RV×RV)} {x y:RV} (hl:∀ p,p∈l→p.1.z≤1048576∧p.2.z≤1048576) (hx:x.z≤1048576) (hy:y.z≤1048576) (i:Nat):qs (uF l x y i).1≤67108864∧qs (uF l x y i).2≤67108864:=by
 obtain⟨⟨h1,h2⟩,h3,h4⟩:=Zod hx hy
 obtain⟨h5,h6⟩:=ZmS hl i
 obtain⟨a1,a2⟩:=Zo4 h1 h2 h3 h4 (p:=ptAt l i) (B:=1048577) (by omega) (by omega)
 exact⟨Nat.le_trans a1 (by decide),Nat.le_trans a2 (by decide)⟩
theorem vF_z {l:List (RV×RV)} {x y:RV} (hl:∀ p,p∈l→p.1.z≤1048576∧p.2.z≤1048576) (hx:x.z≤1048576) (hy:y.z≤1048576) (i:Nat):qs (vF l x y i).1≤67108864∧qs (vF l x y i).2≤67108864:=by
 obtain⟨⟨h1,h2⟩,h3,h4⟩:=Zod hx hy
 obtain⟨h5,h6⟩:=ZmS hl i
 obtain⟨a1,a2⟩:=Zo3 h1 h2 h3 h4 (p:=ptAt l i) (B:=1048577) (by omega) (by omega)
 exact⟨Nat.le_trans a1 (by decide),Nat.le_trans a2 (by decide)⟩
noncomputable def tBx (l:List (RV×RV)) (x y:RV):(RV×RV)×(RV×RV):=if convE 64 l=0 then (jR (uF l x y) l.length,jR (vF l x y) l.length) else ((z0,z0),(z0,z0))
set_option maxHeartbeats 2000000 in
theorem ZgV (l:List (RV×RV)) (x y:RV) (hl:∀ p,p∈l→p.1.z≤1048576∧p.2.z≤1048576) (hn:l.length≤1048576) (hx:x.z≤1048576) (hy:y.z≤1048576):Spec Tryz.prog Tab 9 [.val (.one (.d (.list (List.map rdv l)))),pair x y] (.tup [.agg [.d (.v (.bool ((tBx l x y).1.1).s)),.d (.v (.string ((tBx l x y).1.1).a)),.d (.v (.string ((tBx l x y).1.1).d)),.d (.v (.bool ((tBx l x y).2.1).s)),.d (.v (.string ((tBx l x y).2.1).a)),.d (.v (.string ((tBx l x y).2.1).d)),.d (.v (.bool ((tBx l x y).1.2).s)),.d (.v (.string ((tBx l x y).1.2).a)),.d (.v (.string ((tBx l x y).1.2).d)),.d (.v (.bool ((tBx l x y).2.2).s)),.d (.v (.string ((tBx l x y).2.2).a)),.d (.v (.string ((tBx l x y).2.2).d))],.one (.d (.v (.int .i64 (convE 64 l))))]):=by
 have hL:(List.map rdv l).length=l.length:=List.length_map ..
 have hl1:∀ p,p∈l→p.1.z≤67108864∧p.2.z≤67108864:=fun p hp=>⟨Nat.le_trans (hl p hp).1 (by decide),Nat.le_trans (hl p hp).2 (by decide)⟩
 have hUl:∀ i,sle (uF l x y i).1 (uF l x y i).2:=fun i=>ZmK (ZhZ x y) (Zhd x y) _
 have hVl:∀ i,sle (vF l x y i).1 (vF l x y i).2:=fun i=>ZmJ (ZhZ x y) (Zhd x y) _
 refine Zh Tryz.func9 rfl rfl Tryz.ntmps9 rfl (by kernel_rfl) rfl rfl ?_
 refine ZeA (l:=l) (by assumption) (by omega) (fun n18 hk_18_1=> ?_)
 refine⟨fun e1=> ?_,fun e1=> ?_⟩
 ·have f20:n18≠0:=Zdx e1
  refine Eq.trans (b:= .tup [.agg [.d (.v (.bool z0.s)),.d (.v (.string z0.a)),.d (.v (.string z0.d)),.d (.v (.bool z0.s)),.d (.v (.string z0.a)),.d (.v (.string z0.d)),.d (.v (.bool z0.s)),.d (.v (.string z0.a)),.d (.v (.string z0.d)),.d (.v (.bool z0.s)),.d (.v (.string z0.a)),.d (.v (.string z0.d))],.one (.d (.v (.int .i64 (n18))))]) ?_ rfl
  rw [show tBx l x y=((z0,z0),(z0,z0)) from if_neg (by rw [← hk_18_1];exact f20),hk_18_1]
 ·have f20:¬ (n18≠0):=fun hh=>hh (Zdy e1)
  refine ZoP (x:=x) (y:=y) (by omega) (by omega) (fun ya24 yb24 hk_24_2 hk_24_3 hk_24_4 hk_24_5 hk_24_6=> ?_)
  refine ZoO (x:=x) (y:=y) (by omega) (by omega) (fun ya26 yb26 hk_26_2 hk_26_3 hk_26_4 hk_26_5 hk_26_6=> ?_)
  refine⟨by kernel_rfl,?_⟩
  refine⟨Nat,fun i=> [(4,.val (.one (.ptr 4 0))),(7,.val (.one (.ptr 7 0))),(8,.val (.one (.ptr 8 0))),(9,.val (.one (.ptr 9 0))),(10,.val (.one (.ptr 10 0))),(27,.val (.one (.d (.list (List.map rdv l))))),(28,int ((List.map rdv l).length:Int)),(29,int (i:Int))],
   fun i=> [(4,.var 36 [.d (.v (.bool z0.s)),.d (.v (.string z0.a)),.d (.v (.string z0.d)),.d (.v (.bool z0.s)),.d (.v (.string z0.a)),.d (.v (.string z0.d)),.d (.v (.bool z0.s)),.d (.v (.string z0.a)),.d (.v (.string z0.d)),.d (.v (.bool z0.s)),.d (.v (.string z0.a)),.d (.v (.string z0.d))]),(7,.var 28 [.d (.v (.bool (cn ya24).s)),.d (.v (.string (cn ya24).a)),.d (.v (.string (cn ya24).d)),.d (.v (.bool (cn yb24).s)),.d (.v (.string (cn yb24).a)),.d (.v (.string (cn yb24).d))]),(8,.var 28 [.d (.v (.bool (cn ya26).s)),.d (.v (.string (cn ya26).a)),.d (.v (.string (cn ya26).d)),.d (.v (.bool (cn yb26).s)),.d (.v (.string (cn yb26).a)),.d (.v (.string (cn yb26).d))]),(9,.var 28 [.d (.v (.bool ((jR (uF l x y) i).1).s)),.d (.v (.string ((jR (uF l x y) i).1).a)),.d (.v (.string ((jR (uF l x y) i).1).d)),.d (.v (.bool ((jR (uF l x y) i).2).s)),.d (.v (.string ((jR (uF l x y) i).2).a)),.d (.v (.string ((jR (uF l x y) i).2).d))]),(10,.var 28 [.d (.v (.bool ((jR (vF l x y) i).1).s)),.d (.v (.string ((jR (vF l x y) i).1).a)),.d (.v (.string ((jR (vF l x y) i).1).d)),.d (.v (.bool ((jR (vF l x y) i).2).s)),.d (.v (.string ((jR (vF l x y) i).2).a)),.d (.v (.string ((jR (vF l x y) i).2).d))])],fun i=>i≤l.length,fun i=>l.length - i,0,?_,Nat.zero_le _,fun i hs=> ?_⟩
  ·constructor<;>(repeat' (first|exact rfl|exact True.intro|exact⟨_,_,rfl⟩|exact(by decide)|apply And.intro))
   all_goals first|exact congrArg (fun n:Int=>D.v (.int .i64 n)) (by omega)|exact congrArg (fun n:Int=>D.v (.int .i64 n)) (by rw [wrap64 _ (by omega) (by omega)];omega)|(simp;done)
  have hju:=jR_z (uF_z hl hx hy) i
  have hjv:=jR_z (vF_z hl hx hy) i
  have hju1:=hju.1
  have hju2:=hju.2
  have hjv1:=hjv.1
  have hjv2:=hjv.2
  refine⟨fun e2=> ?_,fun e2=> ?_⟩
  ·have f30:(i:Int)< ((List.map rdv l).length:Int):=of_decide_eq_true e2
   refine Z9 (l:=l) (i:=i) (by first|omega|exact Nat.mod_lt _ (by omega)) fun x32 hx32=> ?_
   have hzx32:=hl x32 (List.mem_of_getElem? hx32)
   have hzax32:=hzx32.1
   have hzbx32:=hzx32.2
   refine k_ix i [D.v (.bool x32.1.s),D.v (.string x32.1.a),D.v (.string x32.1.d),D.v (.bool x32.2.s),D.v (.string x32.2.a),D.v (.string x32.2.d)] (by first|rfl|omega|(rw [wrap64 _ (by omega) (by omega)];omega)|(rw [wrap64 _ (by omega) (by omega)];split<;>omega)) (Zw hx32) rfl ?_
   refine ZfD (x:=x32.1) (by omega) (fun q36 hk_36_1 hk_36_2=> ?_)
   simp only [cn_z] at hk_36_2
   have s36:sle q36 q36:=Rat.le_refl
   refine ZfD (x:=x32.2) (by omega) (fun q39 hk_39_1 hk_39_2=> ?_)
   simp only [cn_z] at hk_39_2
   have s39:sle q39 q39:=Rat.le_refl
   refine⟨by kernel_rfl,?_⟩
   refine ZhF (p:=q36) (q:=q36) (r:=ya24) (u:=yb24) (by assumption) (by assumption) (by omega) (by omega) (by omega) (by omega) (fun ya42 yb42 hk_42_2 hk_42_3 hk_42_4 hk_42_5 hk_42_6=> ?_)
   refine ZhF (p:=q39) (q:=q39) (r:=ya26) (u:=yb26) (by assumption) (by assumption) (by omega) (by omega) (by omega) (by omega) (fun ya45 yb45 hk_45_2 hk_45_3 hk_45_4 hk_45_5 hk_45_6=> ?_)
   refine ZoN (p:=ya42) (q:=yb42) (r:=ya45) (u:=yb45) (by assumption) (by assumption) (by omega) (by omega) (by omega) (by omega) (fun ya46 yb46 hk_46_2 hk_46_3 hk_46_4 hk_46_5 hk_46_6=> ?_)
   have hxp:ptAt l i=x32:=ZjZ hx32
   have hu1:ya46=(uF l x y i).1:=by unfold uF uAt;rw [hxp];subst_vars;rfl
   have hu2:yb46=(uF l x y i).2:=by unfold uF uAt;rw [hxp];subst_vars;rfl
   have hu0:=hk_46_4
   refine⟨by kernel_rfl,?_⟩
   refine ZhF (p:=q36) (q:=q36) (r:=ya26) (u:=yb26) (by assumption) (by assumption) (by omega) (by omega) (by omega) (by omega) (fun ya49 yb49 hk_49_2 hk_49_3 hk_49_4 hk_49_5 hk_49_6=> ?_)
   refine ZhF (p:=q39) (q:=q39) (r:=ya24) (u:=yb24) (by assumption) (by assumption) (by omega) (by omega) (by omega) (by omega) (fun ya52 yb52 hk_52_2 hk_52_3 hk_52_4 hk_52_5 hk_52_6=> ?_)
   refine ZoQ (p:=ya49) (q:=yb49) (r:=ya52) (u:=yb52) (by assumption) (by assumption) (by omega) (by omega) (by omega) (by omega) (fun ya53 yb53 hk_53_2 hk_53_3 hk_53_4 hk_53_5 hk_53_6=> ?_)
   have hv1:ya53=(vF l x y i).1:=by unfold vF vAt;rw [hxp];subst_vars;rfl
   have hv2:yb53=(vF l x y i).2:=by unfold vF vAt;rw [hxp];subst_vars;rfl
   have hv0:=hk_53_4
   refine⟨by kernel_rfl,?_⟩
   refine⟨fun e3=> ?_,fun e3=> ?_⟩
   ·have f55:(i:Int)=0:=ZeO e3
    refine⟨by kernel_rfl,?_⟩
    refine Za1 (x:=cn ya46) (y:=cn yb46) (z:=cn ya46) (t:=cn yb46) (by simp only [cn_z];omega) (by simp only [cn_z];omega) (by simp only [cn_z];omega) (by simp only [cn_z];omega) (fun p60 q60 hk_60_2 hk_60_3 hk_60_4 hk_60_5=> ?_)
    try simp only [cn_q] at hk_60_2
    try simp only [cn_q] at hk_60_3
    simp only [cn_z] at hk_60_4
    simp only [cn_z] at hk_60_5
    refine Za1 (x:=cn ya53) (y:=cn yb53) (z:=cn ya53) (t:=cn yb53) (by simp only [cn_z];omega) (by simp only [cn_z];omega) (by simp only [cn_z];omega) (by simp only [cn_z];omega) (fun p63 q63 hk_63_2 hk_63_3 hk_63_4 hk_63_5=> ?_)
    try simp only [cn_q] at hk_63_2
    try simp only [cn_q] at hk_63_3
    simp only [cn_z] at hk_63_4
    simp only [cn_z] at hk_63_5
    refine⟨by kernel_rfl,?_⟩
    have hi0:i=0:=by omega
    have ju1:(jn (uF l x y) (i+1)).1=p60:=by rw [hk_60_2,Zy hu0,Zc5,hu1,hi0];exact congrArg Prod.fst (jn_1 _)
    have ju2:(jn (uF l x y) (i+1)).2=q60:=by rw [hk_60_3,Zz hu0,Zc6,hu2,hi0];exact congrArg Prod.snd (jn_1 _)
    have jv1:(jn (vF l x y) (i+1)).1=p63:=by rw [hk_63_2,Zy hv0,Zc5,hv1,hi0];exact congrArg Prod.fst (jn_1 _)
    have jv2:(jn (vF l x y) (i+1)).2=q63:=by rw [hk_63_3,Zz hv0,Zc6,hv2,hi0];exact congrArg Prod.snd (jn_1 _)
    refine⟨i+1,by omega,by simp only;omega,?_⟩
    constructor<;>(repeat' (first|exact rfl|exact True.intro|apply And.intro))
    all_goals first
     |exact congrArg (fun q:Rat=>D.v (.bool (cn q).s)) (Eq.symm ju1)
     |exact congrArg (fun q:Rat=>D.v (.bool (cn q).s)) ju1
     |exact congrArg (fun q:Rat=>D.v (.string (cn q).a)) (Eq.symm ju1)
     |exact congrArg (fun q:Rat=>D.v (.string (cn q).a)) ju1
     |exact congrArg (fun q:Rat=>D.v (.string (cn q).d)) (Eq.symm ju1)
     |exact congrArg (fun q:Rat=>D.v (.string (cn q).d)) ju1
     |exact congrArg (fun q:Rat=>D.v (.bool (cn q).s)) (Eq.symm ju2)
     |exact congrArg (fun q:Rat=>D.v (.bool (cn q).s)) ju2
     |exact congrArg (fun q:Rat=>D.v (.string (cn q).a)) (Eq.symm ju2)
     |exact congrArg (fun q:Rat=>D.v (.string (cn q).a)) ju2
     |exact congrArg (fun q:Rat=>D.v (.string (cn q).d)) (Eq.symm ju2)
     |exact congrArg (fun q:Rat=>D.v (.string (cn q).d)) ju2
     |exact congrArg (fun q:Rat=>D.v (.bool (cn q).s)) (Eq.symm jv1)
     |exact congrArg (fun q:Rat=>D.v (.bool (cn q).s)) jv1
     |exact congrArg (fun q:Rat=>D.v (.string (cn q).a)) (Eq.symm jv1)
     |exact congrArg (fun q:Rat=>D.v (.string (cn q).a)) jv1
     |exact congrArg (fun q:Rat=>D.v (.string (cn q).d)) (Eq.symm jv1)
     |exact congrArg (fun q:Rat=>D.v (.string (cn q).d)) jv1
     |exact congrArg (fun q:Rat=>D.v (.bool (cn q).s)) (Eq.symm jv2)
     |exact congrArg (fun q:Rat=>D.v (.bool (cn q).s)) jv2
     |exact congrArg (fun q:Rat=>D.v (.string (cn q).a)) (Eq.symm jv2)
     |exact congrArg (fun q:Rat=>D.v (.string (cn q).a)) jv2
     |exact congrArg (fun q:Rat=>D.v (.string (cn q).d)) (Eq.symm jv2)
     |exact congrArg (fun q:Rat=>D.v (.string (cn q).d)) jv2
     |exact congrArg (fun n:Int=>D.v (.int .i64 n)) (by rw [wrap64 _ (by omega) (by omega)];omega)
     |exact congrArg (fun n:Int=>D.v (.int .i64 n)) (by omega)
   ·have f55:¬ ((i:Int)=0):=ZeP e3
    refine Za1 (x:=(jR (uF l x y) i).1) (y:=(jR (uF l x y) i).2) (z:=cn ya46) (t:=cn yb46) (by omega) (by omega) (by simp only [cn_z];omega) (by simp only [cn_z];omega) (fun p60 q60 hk_60_2 hk_60_3 hk_60_4 hk_60_5=> ?_)
    try simp only [cn_q] at hk_60_2
    try simp only [cn_q] at hk_60_3
    simp only [cn_z] at hk_60_4
    simp only [cn_z] at hk_60_5
    refine Za1 (x:=(jR (vF l x y) i).1) (y:=(jR (vF l x y) i).2) (z:=cn ya53) (t:=cn yb53) (by omega) (by omega) (by simp only [cn_z];omega) (by simp only [cn_z];omega) (fun p63 q63 hk_63_2 hk_63_3 hk_63_4 hk_63_5=> ?_)
    try simp only [cn_q] at hk_63_2
    try simp only [cn_q] at hk_63_3
    simp only [cn_z] at hk_63_4
    simp only [cn_z] at hk_63_5
    refine⟨by kernel_rfl,?_⟩
    have gu:=Zmo (uF l x y) (i:=i) (by omega)
    have gv:=Zmo (vF l x y) (i:=i) (by omega)
    have ju1:(jn (uF l x y) (i+1)).1=p60:=by rw [hk_60_2,gu,Zy (ZkJ hUl i),Zy hu0,hu1];rfl
    have ju2:(jn (uF l x y) (i+1)).2=q60:=by rw [hk_60_3,gu,Zz (ZkJ hUl i),Zz hu0,hu2];rfl
    have jv1:(jn (vF l x y) (i+1)).1=p63:=by rw [hk_63_2,gv,Zy (ZkJ hVl i),Zy hv0,hv1];rfl
    have jv2:(jn (vF l x y) (i+1)).2=q63:=by rw [hk_63_3,gv,Zz (ZkJ hVl i),Zz hv0,hv2];rfl
    refine⟨i+1,by omega,by simp only;omega,?_⟩
    constructor<;>(repeat' (first|exact rfl|exact True.intro|apply And.intro))
    all_goals first
     |exact congrArg (fun q:Rat=>D.v (.bool (cn q).s)) (Eq.symm ju1)
     |exact congrArg (fun q:Rat=>D.v (.bool (cn q).s)) ju1
     |exact congrArg (fun q:Rat=>D.v (.string (cn q).a)) (Eq.symm ju1)
     |exact congrArg (fun q:Rat=>D.v (.string (cn q).a)) ju1
     |exact congrArg (fun q:Rat=>D.v (.string (cn q).d)) (Eq.symm ju1)
     |exact congrArg (fun q:Rat=>D.v (.string (cn q).d)) ju1
     |exact congrArg (fun q:Rat=>D.v (.bool (cn q).s)) (Eq.symm ju2)
     |exact congrArg (fun q:Rat=>D.v (.bool (cn q).s)) ju2
     |exact congrArg (fun q:Rat=>D.v (.string (cn q).a)) (Eq.symm ju2)
     |exact congrArg (fun q:Rat=>D.v (.string (cn q).a)) ju2
     |exact congrArg (fun q:Rat=>D.v (.string (cn q).d)) (Eq.symm ju2)
     |exact congrArg (fun q:Rat=>D.v (.string (cn q).d)) ju2
     |exact congrArg (fun q:Rat=>D.v (.bool (cn q).s)) (Eq.symm jv1)
     |exact congrArg (fun q:Rat=>D.v (.bool (cn q).s)) jv1
     |exact congrArg (fun q:Rat=>D.v (.string (cn q).a)) (Eq.symm jv1)
     |exact congrArg (fun q:Rat=>D.v (.string (cn q).a)) jv1
     |exact congrArg (fun q:Rat=>D.v (.string (cn q).d)) (Eq.symm jv1)
     |exact congrArg (fun q:Rat=>D.v (.string (cn q).d)) jv1
     |exact congrArg (fun q:Rat=>D.v (.bool (cn q).s)) (Eq.symm jv2)
     |exact congrArg (fun q:Rat=>D.v (.bool (cn q).s)) jv2
     |exact congrArg (fun q:Rat=>D.v (.string (cn q).a)) (Eq.symm jv2)
     |exact congrArg (fun q:Rat=>D.v (.string (cn q).a)) jv2
     |exact congrArg (fun q:Rat=>D.v (.string (cn q).d)) (Eq.symm jv2)
     |exact congrArg (fun q:Rat=>D.v (.string (cn q).d)) jv2
     |exact congrArg (fun n:Int=>D.v (.int .i64 n)) (by rw [wrap64 _ (by omega) (by omega)];omega)
     |exact congrArg (fun n:Int=>D.v (.int .i64 n)) (by omega)
  ·have f30:¬ ((i:Int)< ((List.map rdv l).length:Int)):=of_decide_eq_false e2
   refine Eq.trans (b:= .tup [.agg [.d (.v (.bool ((jR (uF l x y) i).1).s)),.d (.v (.string ((jR (uF l x y) i).1).a)),.d (.v (.string ((jR (uF l x y) i).1).d)),.d (.v (.bool ((jR (vF l x y) i).1).s)),.d (.v (.string ((jR (vF l x y) i).1).a)),.d (.v (.string ((jR (vF l x y) i).1).d)),.d (.v (.bool ((jR (uF l x y) i).2).s)),.d (.v (.string ((jR (uF l x y) i).2).a)),.d (.v (.string ((jR (uF l x y) i).2).d)),.d (.v (.bool ((jR (vF l x y) i).2).s)),.d (.v (.string ((jR (vF l x y) i).2).a)),.d (.v (.string ((jR (vF l x y) i).2).d))],.one (.d (.v (.int .i64 (0))))]) ?_ rfl
   obtain rfl:i=l.length:=by omega
   rw [show tBx l x y=(jR (uF l x y) l.length,jR (vF l x y) l.length) from if_pos (by omega),show convE 64 l=0 from by omega]
end
end Go.Proofs.YtncoimmjjfmhdaaGreatDoor.eng
namespace Go.Proofs.YtncoimmjjfmhdaaGreatDoor.eng
open Go.RowKit num mem seg q held ratA ratB ratC ratD ratE vars ratF trq prf
section
variable {K : AV → Prop}
open poly (Pt)
def mvP (x y:RV) (p:RV×RV):RV×RV:=(cn (p.1.q+x.q),cn (p.2.q+y.q))
def alP (l:List (RV×RV)) (x y:RV) (i:Nat):List (RV×RV):=l++(l.take i).map (mvP x y)
theorem Zca (l:List (RV×RV)) (x y:RV) {i:Nat} (h:i≤l.length):(alP l x y i).length=l.length+i:=by simp only [alP,List.length_append,List.length_map,List.length_take];omega
theorem Zi1 (l:List (RV×RV)) (x y:RV):alP l x y 0=l:=by simp [alP]
theorem Zh9 {l:List (RV×RV)} {x y:RV} {i:Nat} {p:RV×RV} (h:l[i]? =some p):alP l x y (i+1)=alP l x y i++ [mvP x y p]:=by
 unfold alP;rw [List.take_add_one,h,List.map_append,List.append_assoc];rfl
theorem Zo1 {l:List (RV×RV)} {x y:RV} (hl:∀ p,p∈l→p.1.z≤1048576∧p.2.z≤1048576) (hx:x.z≤1048576) (hy:y.z≤1048576) (i:Nat):∀ p,p∈alP l x y i→p.1.z≤16777216∧p.2.z≤16777216:=by
 intro p hp
 rcases List.mem_append.1 hp with h|h
 ·have:=hl p h;omega
 ·obtain⟨r,hr,rfl⟩:=List.mem_map.1 h
  have h1:=hl r (List.mem_of_mem_take hr)
  have a1:=r.1.z1;have a2:=r.2.z1;have a3:=x.z1;have a4:=y.z1
  have b1:=ZU r.1.q x.q;have b2:=ZU r.2.q y.q
  unfold mvP;simp only [cn_z];omega
noncomputable def aOut (l:List (RV×RV)) (x y:RV):List Pt:=if convE 64 l=0 then hOut (alP l x y l.length) else []
noncomputable def aErr (l:List (RV×RV)) (x y:RV):Int:=if convE 64 l=0 then hErr (alP l x y l.length) else convE 64 l
set_option maxHeartbeats 2000000 in
theorem Zd9 (l:List (RV×RV)) (x y:RV) (hl:∀ p,p∈l→p.1.z≤1048576∧p.2.z≤1048576) (hn:l.length≤1048576) (hx:x.z≤1048576) (hy:y.z≤1048576):Spec Tryz.prog Tab 5 [.val (.one (.d (.list (List.map rdv l)))),pair x y] (.tup [.one (.d (.list (List.map ptD (aOut l x y)))),.one (.d (.v (.int .i64 (aErr l x y))))]):=by
 have hL:(List.map rdv l).length=l.length:=List.length_map ..
 have hl1:∀ p,p∈l→p.1.z≤67108864∧p.2.z≤67108864:=fun p hp=>⟨Nat.le_trans (hl p hp).1 (by decide),Nat.le_trans (hl p hp).2 (by decide)⟩
 refine Zh Tryz.func5 rfl rfl Tryz.ntmps5 rfl (by kernel_rfl) rfl rfl ?_
 refine ZeA (l:=l) (by assumption) (by omega) (fun n11 hk_11_1=> ?_)
 refine⟨fun e1=> ?_,fun e1=> ?_⟩
 ·have f13:n11≠0:=Zdx e1
  refine Eq.trans (b:= .tup [.one (.d (.list ([]))),.one (.d (.v (.int .i64 (n11))))]) ?_ rfl
  rw [show aOut l x y= [] from if_neg (by rw [← hk_11_1];exact f13),show aErr l x y=convE 64 l from if_neg (by rw [← hk_11_1];exact f13),hk_11_1]
  rfl
 ·have f13:¬ (n11≠0):=fun hh=>hh (Zdy e1)
  have hc:convE 64 l=0:=by omega
  obtain⟨c1,c2,_⟩:=ZbX.1 hc
  have hne:List.map rdv l≠ []:=fun h=>by rw [List.map_eq_nil_iff] at h;subst h;simp at c2
  refine⟨⟨(by omega),(by intro r hr;simp at hr),(Zhz fun _=>rfl),(by show (0+(List.map rdv l).length)*80≤_;omega),(by show 0+(List.map rdv l).length≤_;omega)⟩,?_⟩
  refine⟨Nat,fun i=> [(3,.val (.one (.ptr 3 0))),(7,.val (.one (.row 17 0))),(18,.val (.one (.d (.list (List.map rdv l))))),(19,int ((List.map rdv l).length:Int)),(20,int (i:Int))],
   fun i=> [(3,.var 26 [.d (.v (.bool x.s)),.d (.v (.string x.a)),.d (.v (.string x.d)),.d (.v (.bool y.s)),.d (.v (.string y.a)),.d (.v (.string y.d))]),(17,.row 26 6 0 (List.map rdv (alP l x y i)) true)],fun i=>i≤l.length,fun i=>l.length - i,0,?_,Nat.zero_le _,fun i hs=> ?_⟩
  ·constructor<;>(repeat' (first|exact rfl|exact True.intro|exact⟨_,_,rfl⟩|exact(by decide)|apply And.intro))
   all_goals first
    |(rw [Zi1];done)
    |(rw [Zi1];rfl)
  have hX:(List.map rdv (alP l x y i)).length=l.length+i:=by rw [List.length_map,Zca l x y hs]
  refine⟨fun e2=> ?_,fun e2=> ?_⟩
  ·have f21:(i:Int)< ((List.map rdv l).length:Int):=of_decide_eq_true e2
   refine Z9 (l:=l) (i:=i) (by first|omega|exact Nat.mod_lt _ (by omega)) fun x22 hx22=> ?_
   have hzx22:=hl x22 (List.mem_of_getElem? hx22)
   have hzax22:=hzx22.1
   have hzbx22:=hzx22.2
   refine k_ix i [D.v (.bool x22.1.s),D.v (.string x22.1.a),D.v (.string x22.1.d),D.v (.bool x22.2.s),D.v (.string x22.2.a),D.v (.string x22.2.d)] (by first|rfl|omega|(rw [wrap64 _ (by omega) (by omega)];omega)|(rw [wrap64 _ (by omega) (by omega)];split<;>omega)) (Zw hx22) rfl ?_
   refine ZmX (x:=x22.1) (y:=x22.2) (z:=x) (t:=y) (by omega) (by omega) (by omega) (by omega) (fun p27 q27 hk_27_2 hk_27_3 hk_27_4 hk_27_5=> ?_)
   simp only [cn_z] at hk_27_4
   simp only [cn_z] at hk_27_5
   refine⟨⟨row1 rfl,(by show ((List.map rdv (alP l x y i)).length+1)*80≤_;omega),(by show ((List.map rdv (alP l x y i)).length+1)≤_;omega)⟩,?_⟩
   obtain rfl:p27=x22.1.q+x.q:=hk_27_2
   obtain rfl:q27=x22.2.q+y.q:=hk_27_3
   refine⟨i+1,by omega,by simp only;omega,?_⟩
   constructor<;>(repeat' (first|exact rfl|exact True.intro|apply And.intro))
   all_goals first
    |(rw [Zh9 hx22,List.map_append];rfl)
    |exact congrArg (fun n:Int=>D.v (.int .i64 n)) (by rw [wrap64 _ (by omega) (by omega)];omega)
    |exact congrArg (fun n:Int=>D.v (.int .i64 n)) (by omega)
  ·have f21:¬ ((i:Int)< ((List.map rdv l).length:Int)):=of_decide_eq_false e2
   obtain rfl:i=l.length:=by omega
   refine use (ZlA (alP l x y l.length) (Zo1 hl hx hy _) (by rw [Zca _ _ _ (Nat.le_refl _)];omega)) rfl ?_
   refine Eq.trans (b:= .tup [.one (.d (.list (List.map ptD (hOut (alP l x y l.length))))),.one (.d (.v (.int .i64 (hErr (alP l x y l.length)))))]) ?_ rfl
   rw [show aOut l x y=hOut (alP l x y l.length) from if_pos hc,show aErr l x y=hErr (alP l x y l.length) from if_pos hc]
theorem ZgQ (l:List (RV×RV)) (hp:0< l.length) (hn:l.length≤1048576):SpecR Tryz.prog Tab 11 [.val (.one (.d (.list (List.map rdv l))))] 26 6 (List.map rdv l):=by
 have hL:(List.map rdv l).length=l.length:=List.length_map ..
 have hne:List.map rdv l≠ []:=fun h=>by rw [List.map_eq_nil_iff] at h;subst h;simp at hp
 refine Zm8 Tryz.func11 rfl rfl Tryz.ntmps11 rfl (by kernel_rfl) rfl rfl ?_
 refine⟨_,⟨⟨_,Tryz.underlying22⟩,hne,rfl⟩,?_⟩
 refine⟨fun e=>absurd e (by decide),fun _=> ?_⟩
 refine⟨⟨(by omega),(by intro r hr;simp at hr),(Zhz fun _=>rfl),(by show (0+(List.map rdv l).length)*80≤_;omega),(by show 0+(List.map rdv l).length≤_;omega)⟩,?_⟩
 exact rfl
end
end Go.Proofs.YtncoimmjjfmhdaaGreatDoor.eng
