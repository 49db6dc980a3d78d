/- Joined by wip/bundle.py: XEngQ1 XEngQ2 XEngQ3 XEngQ4. -/
import Derived.Test.YtbgokkfhohodgaaGreatDoorGrpA
import Derived.Test.YtbgokkfhohodgaaGreatDoorGrp8
import Derived.Test.YtbgokkfhohodgaaGreatDoorGrpS
set_option maxRecDepth 100000
namespace Go.Proofs.YtbgokkfhohodgaaGreatDoor.eng
open Go.RowKit num mem seg q held ratA ratB ratC ratD ratE vars ratF natC natD natI dec natJ natK refA refC refD refE refF refG refH refI
def bz (n:Nat):Nat:=(enc n).size
theorem ZlV {n k:Nat}:bz n≤k↔n< 256 ^ k:=Zj
theorem ZfD {a b:Nat} (h:a≤b):bz a≤bz b:=Z7 h
theorem Zj1 (s:ByteArray):bz (nv s)≤s.size:=ZI s
abbrev nst (n:Nat):AV:=str (enc n)
theorem nv_one:nv ⟨#[1]⟩=1:=by decide
section
variable {K : AV → Prop} {a b : ByteArray} {n m : Nat}
theorem ZgW (a:ByteArray):Spec Tryz.prog Tab 80 [str a] (nst (nv a)):=
 Zn (Zr Tryz.func80 rfl rfl) rfl rfl fun w _=>(Zd2 a w).mono fun _ _ h=>⟨h.1,h.2 ▸ Below.refl _ _⟩
theorem Zbk (n:Nat) (ha:nv a=n) (k:K (nst n)):Ask 80 [str a] K:=by subst ha;exact use (ZgW a) rfl k
theorem ZdH (a b:ByteArray) (ha:a.size≤140737488355328) (hb:b.size≤140737488355328):Spec Tryz.prog Tab 186 [str a,str b] (int (cmpN (nv a) (nv b))):=
 Zn (Zr Tryz.func186 rfl rfl) rfl rfl fun w _=>(Zak a b w ha hb).mono fun _ _ h=>⟨h.1,h.2 ▸ Below.refl _ _⟩
theorem Zg8 (n m:Nat) (ha:nv a=n) (hb:nv b=m) (za:a.size≤140737488355328) (zb:b.size≤140737488355328) (k:∀ c,c=cmpN n m→K (int c)):Ask 186 [str a,str b] K:=by
 subst ha hb;exact use (ZdH a b za zb) rfl (k _ rfl)
theorem ZgS (a b:ByteArray) (ha:a.size≤35184372088832) (hb:b.size≤35184372088832):Spec Tryz.prog Tab 81 [str a,str b] (nst (nv a+nv b)):=
 Zn (Zr Tryz.func81 rfl rfl) rfl rfl fun w _=>(Zav a b w ha hb).mono fun _ _ h=>h
theorem ZY (n m:Nat) (ha:nv a=n) (hb:nv b=m) (za:a.size≤35184372088832) (zb:b.size≤35184372088832) (k:K (nst (n+m))):Ask 81 [str a,str b] K:=by
 subst ha hb;exact use (ZgS a b za zb) rfl k
theorem ZgU (a b:ByteArray) (ha:a.size≤35184372088832) (hb:b.size≤35184372088832) (h:nv b≤nv a):Spec Tryz.prog Tab 187 [str a,str b] (nst (nv a - nv b)):=
 Zn (Zr Tryz.func187 rfl rfl) rfl rfl fun w _=>(Zd1 a b w ha hb h).mono fun _ _ h=>h
theorem Ziw (n m:Nat) (ha:nv a=n) (hb:nv b=m) (h:m≤n) (za:a.size≤35184372088832) (zb:b.size≤35184372088832) (k:K (nst (n - m))):Ask 187 [str a,str b] K:=by
 subst ha hb;exact use (ZgU a b za zb h) rfl k
theorem Ze9 (a b:ByteArray) (ha:a.size≤17592186044416) (hb:b.size≤17592186044416) (h:0< nv b):Spec Tryz.prog Tab 143 [str a,str b] (two (nst (nv a / nv b)) (nst (nv a % nv b))):=
 Zn (Zr Tryz.func143 rfl rfl) rfl rfl fun w _=>(Zjc a b w ha hb h).mono fun _ _ h=>h
theorem Zgb (n m:Nat) (ha:nv a=n) (hb:nv b=m) (h:0< m) (za:a.size≤17592186044416) (zb:b.size≤17592186044416) (k:K (two (nst (n / m)) (nst (n % m)))):Ask 143 [str a,str b] K:=by
 subst ha hb;exact use (Ze9 a b za zb h) rfl k
theorem ZhS (a:ByteArray) (i:Nat) (ha:a.size≤140737488355328) (hi:i≤1152921504606846976):Spec Tryz.prog Tab 82 [str a,int (i:Int)] (int ((nv a / 2 ^ i % 2:Nat):Int)):=
 Zn (Zr Tryz.func82 rfl rfl) rfl rfl fun w _=>(ZfE a i w ha hi).mono fun _ _ h=>⟨h.1,h.2 ▸ Below.refl _ _⟩
theorem Zb0 (n i:Nat) {j:Int} (ha:nv a=n) (hj:j=(i:Int)) (za:a.size≤140737488355328) (hi:i≤1152921504606846976) (k:K (int ((n / 2 ^ i % 2:Nat):Int))):Ask 82 [str a,int j] K:=by
 subst ha hj;exact use (ZhS a i za hi) rfl k
theorem Zek (a:ByteArray) (ha:a.size≤35184372088832):Spec Tryz.prog Tab 83 [str a] (nst (nv a / 2)):=
 Zn (Zr Tryz.func83 rfl rfl) rfl rfl fun w _=>(Zhb a w ha).mono fun _ _ h=>h
theorem Z8 (n:Nat) (ha:nv a=n) (za:a.size≤35184372088832) (k:K (nst (n / 2))):Ask 83 [str a] K:=by
 subst ha;exact use (Zek a za) rfl k
end
end Go.Proofs.YtbgokkfhohodgaaGreatDoor.eng
namespace Go.Proofs.YtbgokkfhohodgaaGreatDoor.eng
open Go.RowKit num mem seg q held ratA ratB ratC ratD ratE vars ratF natC natD natI
theorem Zdo {x y:Nat} (hx:x % 2=0) (hy:y % 2=1):Nat.gcd (x / 2) y=Nat.gcd x y:=by
 have e:x=2*(x / 2):=by omega
 have hc:Nat.Coprime 2 y:=by
  rw [Nat.coprime_iff_gcd_eq_one,Nat.gcd_rec,hy];rfl
 conv=>rhs;rw [e]
 exact(Nat.Coprime.gcd_mul_left_cancel (x / 2) hc).symm
theorem Zhe {x y:Nat} (hx:x % 2=1) (hy:y % 2=0):Nat.gcd x (y / 2)=Nat.gcd x y:=by
 rw [Nat.gcd_comm,Zdo hy hx,Nat.gcd_comm]
theorem ZdU {x y:Nat} (hx:x % 2=0) (hy:y % 2=0):2*Nat.gcd (x / 2) (y / 2)=Nat.gcd x y:=by
 rw [← Nat.gcd_mul_left]
 congr 1<;>omega
theorem Zgg {x y:Nat} (h:y≤x):Nat.gcd (x - y) y=Nat.gcd x y:=by
 conv=>rhs;rw [show x=(x - y)+y by omega]
 simp
theorem ZjS {x y:Nat} (h:x≤y):Nat.gcd (y - x) x=Nat.gcd x y:=by
 rw [Zgg h,Nat.gcd_comm]
theorem Zfh {t n k:Nat} (h:2 ^ t≤n) (hn:bz n≤k):t< 8*k:=by
 have h1:=ZlV.1 hn
 rw [show (256:Nat)=2 ^ 8 from rfl,← Nat.pow_mul] at h1
 exact(Nat.pow_lt_pow_iff_right (by decide:1< 2)).1 (Nat.lt_of_le_of_lt h h1)
theorem ZdL (x t:Nat):2 ^ (t+1)*x=2 ^ t*(2*x):=by rw [Nat.pow_succ,Nat.mul_assoc]
theorem ZiZ {a b:Nat}:0≤cmpN a b↔b≤a:=by
 unfold cmpN
 split
 ·omega
 ·split<;>omega
section
variable {K : AV → Prop} {a b : ByteArray} {n m : Nat}
theorem ZdP {ox oy:Operand} {s:ByteArray} (n:Nat) (hs:s=enc n) (k1:n=0→K (bool true)) (k0:n≠0→K (bool false)):AskB .eql 9 ox oy (.string s) (.string ⟨#[]⟩) K:=
 Zai (fun h=>k1 (ZaK.1 (by rw [← hs];exact h))) (fun h=>k0 (fun h0=>h (by rw [hs];exact ZaK.2 h0)))
theorem ZjQ {ox oy:Operand} {s:ByteArray} (n:Nat) (hs:s=enc n) (k1:n=0→K (bool false)) (k0:n≠0→K (bool true)):AskB .neq 9 ox oy (.string s) (.string ⟨#[]⟩) K:=
 Zbl (fun h=>k1 (ZaK.1 (by rw [← hs];exact h))) (fun h=>k0 (fun h0=>h (by rw [hs];exact ZaK.2 h0)))
set_option maxHeartbeats 1000000 in
theorem Zeq (a b:ByteArray) (ha:a.size≤17592186044416) (hb:b.size≤17592186044416):Spec Tryz.prog Tab 142 [str a,str b] (nst (Nat.gcd (nv a) (nv b))):=by
 have za:=Nat.le_trans (Zj1 a) ha
 have zb:=Nat.le_trans (Zj1 b) hb
 generalize hA:nv a=A at*
 generalize hB:nv b=B at*
 have zs:∀ x,x≤A→(enc x).size≤17592186044416:=fun x h=>Nat.le_trans (ZfD h) za
 have zt:∀ x,x≤B→(enc x).size≤17592186044416:=fun x h=>Nat.le_trans (ZfD h) zb
 refine Zy Tryz.func142 rfl rfl Tryz.ntmps142 rfl (by kernel_rfl) rfl rfl ?_
 refine Zbk A hA ?_
 refine Zbk B hB ?_
 refine ZdP A rfl (fun e1=> ?_) (fun e1=> ?_)
 ·refine⟨fun _=> ?_,fun e=>by simp at e⟩
  refine ZY A B (Za A) (Za B) (by have:=zs A (Nat.le_refl _);omega) (by have:=zt B (Nat.le_refl _);omega) ?_
  refine Eq.trans (b:=nst (A+B)) ?_ rfl
  rw [e1,Nat.gcd_zero_left,Nat.zero_add]
 refine ZdP B rfl (fun e2=> ?_) (fun e2=> ?_)
 ·refine⟨fun _=> ?_,fun e=>by simp at e⟩
  refine ZY A B (Za A) (Za B) (by have:=zs A (Nat.le_refl _);omega) (by have:=zt B (Nat.le_refl _);omega) ?_
  refine Eq.trans (b:=nst (A+B)) ?_ rfl
  rw [e2,Nat.gcd_zero_right,Nat.add_zero]
 refine⟨fun e=>by simp at e,fun _=> ?_⟩
 refine⟨Nat×Nat×Nat,fun s=> [(0,nst s.1),(1,nst s.2.1),(5,int (s.2.2:Int))],fun _=> [],
  fun s=>0< s.1∧0< s.2.1∧s.2.1≤B∧2 ^ s.2.2*s.1≤A∧2 ^ s.2.2*Nat.gcd s.1 s.2.1=Nat.gcd A B,fun s=>s.1,(A,B,0),?_,⟨Nat.pos_of_ne_zero e1,Nat.pos_of_ne_zero e2,Nat.le_refl _,by simp,by simp⟩,fun s hs=> ?_⟩
 ·constructor<;>(repeat' (first|exact rfl|exact True.intro|apply And.intro))
 obtain⟨x,y,t⟩:=s
 obtain⟨h1,h2,h3,h4,h5⟩:=hs
 simp only at h1 h2 h3 h4 h5
 have hp:=Nat.two_pow_pos t
 have hxA:x≤A:=Nat.le_trans (Nat.le_mul_of_pos_left x hp) h4
 have htA:2 ^ t≤A:=Nat.le_trans (Nat.le_mul_of_pos_right _ h1) h4
 have ht:=Zfh htA za
 have zx:=zs x hxA
 have zy:=zt y h3
 refine Zb0 x 0 (Za x) rfl (Nat.le_trans zx (by decide)) (by omega) ?_
 refine Zb0 y 0 (Za y) rfl (Nat.le_trans zy (by decide)) (by omega) ?_
 rw [Nat.pow_zero,Nat.div_one,Nat.div_one]
 have hw:IntKind.i64.wrap (((x % 2:Nat):Int)+((y % 2:Nat):Int))=((x % 2+y % 2:Nat):Int):=by rw [wrap64 _ (by omega) (by omega)];omega
 refine⟨fun e=> ?_,fun e=> ?_⟩
 ·have e':x % 2+y % 2=0:=by
   have:(IntKind.i64.wrap (((x % 2:Nat):Int)+((y % 2:Nat):Int))==0)=true:=e
   rw [hw] at this;simp at this;omega
  refine Z8 x (Za x) (Nat.le_trans zx (by decide)) ?_
  refine Z8 y (Za y) (Nat.le_trans zy (by decide)) ?_
  refine⟨(x / 2,y / 2,t+1),⟨by simp only;omega,by simp only;omega,by simp only;omega,?_,?_⟩,by simp only;omega,?_⟩
  ·simp only
   rw [ZdL,show 2*(x / 2)=x by omega];exact h4
  ·simp only
   rw [ZdL,ZdU (by omega) (by omega)];exact h5
  constructor<;>(repeat' (first|exact rfl|exact True.intro|apply And.intro))
  all_goals exact congrArg (fun n:Int=>D.v (.int .i64 n)) (show ((t+1:Nat):Int)=IntKind.i64.wrap ((t:Int)+1) by rw [wrap64 _ (by omega) (by omega)];omega)
 ·have e':x % 2=1∨y % 2=1:=by
   have:(IntKind.i64.wrap (((x % 2:Nat):Int)+((y % 2:Nat):Int))==0)=false:=e
   rw [hw] at this;simp at this;omega
  generalize hM:max A B=M at*
  have zm:∀ x,x≤M→(enc x).size≤17592186044416:=fun x h=>by
   rcases Nat.le_total A B with h'|h'
   ·exact zt x (by omega)
   ·exact zs x (by omega)
  refine⟨Nat×Nat,fun s=> [(0,nst s.1),(1,nst s.2),(5,int (t:Int))],fun _=> [],
   fun s=>0< s.2∧s.1≤M∧s.2≤M∧(s.1 % 2=1∨s.2 % 2=1)∧2 ^ t*Nat.gcd s.1 s.2=Nat.gcd A B,fun s=>s.1+s.2,(x,y),?_,⟨h2,by simp only;omega,by simp only;omega,e',h5⟩,fun s hs=> ?_⟩
  ·constructor<;>(repeat' (first|exact rfl|exact True.intro|apply And.intro))
  obtain⟨u,v⟩:=s
  obtain⟨g1,g2,g3,g4,g5⟩:=hs
  simp only at g1 g2 g3 g4 g5
  have zu:=zm u g2
  have zv:=zm v g3
  refine ZjQ u rfl (fun e1=> ?_) (fun e1=> ?_)
  ·refine⟨fun e=>by simp at e,fun _=> ?_⟩
   subst e1
   rw [Nat.gcd_zero_left] at g5
   have hG:Nat.gcd A B≤A:=Nat.gcd_le_left _ (by omega)
   refine⟨Nat,fun i=> [(1,nst (2 ^ i*v)),(57,int (t:Int)),(58,int (i:Int))],fun _=> [],fun i=>i≤t,fun i=>t - i,0,?_,Nat.zero_le _,fun i hi=> ?_⟩
   ·constructor<;>(repeat' (first|exact rfl|exact True.intro|apply And.intro))
    all_goals exact congrArg (fun n:Nat=>D.v (.string (enc n))) (show 2 ^ 0*v=v by simp)
   refine⟨fun e=> ?_,fun e=> ?_⟩
   ·have hlt:i< t:=by have:=of_decide_eq_true e;omega
    have hle:2 ^ i*v≤A:=Nat.le_trans (Nat.mul_le_mul_right v (Nat.pow_le_pow_right (by decide) hi)) (by rw [g5];exact hG)
    have zz:=zs _ hle
    refine ZY (2 ^ i*v) (2 ^ i*v) (Za _) (Za _) (Nat.le_trans zz (by decide)) (Nat.le_trans zz (by decide)) ?_
    have hwi:IntKind.i64.wrap ((i:Int)+1)=((i+1:Nat):Int):=by rw [wrap64 _ (by omega) (by omega)];omega
    refine⟨i+1,hlt,by simp only;omega,?_⟩
    constructor<;>(repeat' (first|exact rfl|exact True.intro|apply And.intro))
    all_goals first
     |exact congrArg (fun n:Int=>D.v (.int .i64 n)) hwi.symm
     |exact congrArg (fun n:Nat=>D.v (.string (enc n))) (show 2 ^ (i+1)*v=2 ^ i*v+2 ^ i*v by rw [ZdL,Nat.mul_left_comm];omega)
   ·have hge:i=t:=by have:=of_decide_eq_false e;omega
    subst hge
    refine Eq.trans (b:=nst (2 ^ i*v)) ?_ rfl
    rw [g5]
  ·refine⟨fun _=> ?_,fun e=>by simp at e⟩
   refine Zb0 u 0 (Za u) rfl (Nat.le_trans zu (by decide)) (by omega) ?_
   rw [Nat.pow_zero,Nat.div_one]
   refine⟨fun e2=> ?_,fun e2=> ?_⟩
   ·have hu:u % 2=0:=by
     have:(((u % 2:Nat):Int)==0)=true:=e2
     simp at this;omega
    refine Z8 u (Za u) (Nat.le_trans zu (by decide)) ?_
    refine⟨(u / 2,v),⟨g1,by simp only;omega,g3,.inr (by simp only;omega),by simp only;rw [Zdo hu (by omega)];exact g5⟩,by simp only;omega,?_⟩
    constructor<;>(repeat' (first|exact rfl|exact True.intro|apply And.intro))
   ·have hu:u % 2=1:=by
     have:(((u % 2:Nat):Int)==0)=false:=e2
     simp at this;omega
    refine Zb0 v 0 (Za v) rfl (Nat.le_trans zv (by decide)) (by omega) ?_
    rw [Nat.pow_zero,Nat.div_one]
    refine⟨fun e3=> ?_,fun e3=> ?_⟩
    ·have hv:v % 2=0:=by
      have:(((v % 2:Nat):Int)==0)=true:=e3
      simp at this;omega
     refine Z8 v (Za v) (Nat.le_trans zv (by decide)) ?_
     refine⟨(u,v / 2),⟨by simp only;omega,g2,by simp only;omega,.inl hu,by simp only;rw [Zhe hu hv];exact g5⟩,by simp only;omega,?_⟩
     constructor<;>(repeat' (first|exact rfl|exact True.intro|apply And.intro))
    ·have hv:v % 2=1:=by
      have:(((v % 2:Nat):Int)==0)=false:=e3
      simp at this;omega
     refine Zg8 u v (Za u) (Za v) (Nat.le_trans zu (by decide)) (Nat.le_trans zv (by decide)) fun c hc=> ?_
     refine⟨fun e4=> ?_,fun e4=> ?_⟩
     ·have hle:v≤u:=ZiZ.1 (by rw [← hc];exact of_decide_eq_true e4)
      refine Ziw u v (Za u) (Za v) hle (Nat.le_trans zu (by decide)) (Nat.le_trans zv (by decide)) ?_
      refine⟨(u - v,v),⟨g1,by simp only;omega,g3,.inr hv,by simp only;rw [Zgg hle];exact g5⟩,by simp only;omega,?_⟩
      constructor<;>(repeat' (first|exact rfl|exact True.intro|apply And.intro))
     ·have hle:u≤v:=Nat.le_of_not_le (fun h=>of_decide_eq_false e4 (by rw [hc];exact ZiZ.2 h))
      refine Ziw v u (Za v) (Za u) hle (Nat.le_trans zv (by decide)) (Nat.le_trans zu (by decide)) ?_
      refine⟨(v - u,u),⟨by simp only;omega,by simp only;omega,g2,.inr hu,by simp only;rw [ZjS hle];exact g5⟩,by simp only;omega,?_⟩
      constructor<;>(repeat' (first|exact rfl|exact True.intro|apply And.intro))
theorem Zix (n m:Nat) (ha:nv a=n) (hb:nv b=m) (za:a.size≤17592186044416) (zb:b.size≤17592186044416) (k:K (nst (Nat.gcd n m))):Ask 142 [str a,str b] K:=by
 subst ha hb;exact use (Zeq a b za zb) rfl k
end
end Go.Proofs.YtbgokkfhohodgaaGreatDoor.eng
namespace Go.Proofs.YtbgokkfhohodgaaGreatDoor.eng
open Go.RowKit num mem seg q held ratA ratB ratC ratD ratE vars ratF natC natD natI
def Fr (r:RV) (p:Rat):Prop:=0< nv r.d∧mkRat (sg r.s (nv r.a)) (nv r.d)=p
theorem RV.z_of {s:Bool} {a d:ByteArray} {k:Nat} (h1:a.size≤k) (h2:d.size≤k):(RV.mk s a d).z≤k:=by unfold RV.z;simp only;omega
theorem ZkE {r:RV} {p:Rat} (h:Fr r p):nv r.a=0↔p=0:=by
 obtain⟨h1,h2⟩:=h
 rw [← h2]
 constructor
 ·intro e;rw [e];cases r.s<;>simp [sg,Rat.zero_mkRat]
 ·intro e
  rw [Rat.mkRat_eq_zero (by omega)] at e
  unfold sg at e
  split at e<;>omega
end Go.Proofs.YtbgokkfhohodgaaGreatDoor.eng
namespace Go.Proofs.YtbgokkfhohodgaaGreatDoor.eng
open Go.RowKit num mem seg q held ratA ratB ratC ratD ratE vars ratF natC natD natI
section
variable {K : AV → Prop} {a b : ByteArray} {x y r t : RV} {p q : Rat}
theorem cn_0:cn 0=⟨false,⟨#[]⟩,⟨#[1]⟩⟩:=by
 unfold cn
 rw [show (0:Rat).num=0 from rfl,show (0:Rat).den=1 from rfl,show (0:Int).natAbs=0 from rfl,ZB,enc_one];rfl
theorem Zjd (r:RV) (p:Rat) (h:Fr r p) (hr:r.z≤4398046511104):Spec Tryz.prog Tab 84 [rat r] (rat (cn p)):=by
 obtain⟨h1,h2⟩:=ZK (x:=r) (Nat.le_refl _)
 have n1:=Zj1 r.a
 have n2:=Zj1 r.d
 refine Zy Tryz.func84 rfl rfl Tryz.ntmps84 rfl (by kernel_rfl) rfl rfl ?_
 refine Zbk (nv r.a) rfl ?_
 refine ZdP (nv r.a) rfl (fun e1=> ?_) (fun e1=> ?_)
 ·refine⟨fun _=> ?_,fun e=>by simp at e⟩
  refine Eq.trans (b:=rat ⟨false,⟨#[]⟩,⟨#[1]⟩⟩) ?_ rfl
  rw [(ZkE h).1 e1,cn_0]
 ·refine⟨fun e=>by simp at e,fun _=> ?_⟩
  have hG:0< Nat.gcd (nv r.a) (nv r.d):=Nat.gcd_pos_of_pos_right _ h.1
  have zg:bz (Nat.gcd (nv r.a) (nv r.d))≤bz (nv r.d):=ZfD (Nat.gcd_le_right _ h.1)
  refine Zix (nv r.a) (nv r.d) rfl rfl (Nat.le_trans h1 (by omega)) (Nat.le_trans h2 (by omega)) ?_
  refine Zgb (nv r.a) (Nat.gcd (nv r.a) (nv r.d)) rfl (Za _) hG (Nat.le_trans h1 (by omega)) (Nat.le_trans zg (by omega)) ?_
  refine Zgb (nv r.d) (Nat.gcd (nv r.a) (nv r.d)) rfl (Za _) hG (Nat.le_trans h2 (by omega)) (Nat.le_trans zg (by omega)) ?_
  refine Eq.trans (b:=rat ⟨r.s,enc (nv r.a / Nat.gcd (nv r.a) (nv r.d)),enc (nv r.d / Nat.gcd (nv r.a) (nv r.d))⟩) ?_ rfl
  have hs:=Zky (s:=r.s) (n:=nv r.a) (d:=nv r.d) (by omega) h.1
  rw [h.2] at hs
  obtain⟨a1,a2,a3⟩:=Zc2 hs
  rw [a1,a2,a3]
theorem Zdl (h:Fr r p) (hr:r.z≤4398046511104) (k:K (rat (cn p))):Ask 84 [rat r] K:=use (Zjd r p h hr) rfl k
end
end Go.Proofs.YtbgokkfhohodgaaGreatDoor.eng
