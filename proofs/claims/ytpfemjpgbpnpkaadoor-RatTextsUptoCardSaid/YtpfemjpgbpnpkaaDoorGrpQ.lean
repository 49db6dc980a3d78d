/- Joined by wip/bundle.py: XEngQ1 XEngQ2 XEngQ3 XEngQ4. -/
import Derived.Test.YtpfemjpgbpnpkaaDoorEngFl
import Derived.Test.YtpfemjpgbpnpkaaDoorGrpR
import Derived.Test.YtpfemjpgbpnpkaaDoorEngL
set_option maxRecDepth 100000
namespace Go.Proofs.YtpfemjpgbpnpkaaDoor.eng
open Go.RowKit num mem seg q held ratA ratB ratC ratD ratE vars ratF natC natD natI dec natJ natK refA refC refD refE refF refG refH refI
def bz (n:Nat):Nat:=(enc n).size
theorem ZjK {n k:Nat}:bz n≤k↔n< 256 ^ k:=Zg
theorem Ze7 {a b:Nat} (h:a≤b):bz a≤bz b:=Zan h
theorem Zir (s:ByteArray):bz (nv s)≤s.size:=ZI s
abbrev nst (n:Nat):AV:=str (enc n)
theorem nv_one:nv ⟨#[1]⟩=1:=by decide
theorem ZiB:nv ⟨#[]⟩=0:=by decide
section
variable {K : AV → Prop} {a b : ByteArray} {n m : Nat}
theorem Zf5 (a:ByteArray):Spec Tryd.prog Tab 40 [str a] (nst (nv a)):=
 Zs (Zw Tryd.func40 rfl rfl) rfl rfl fun w _=>(Zbu a w).mono fun _ _ h=>⟨h.1,h.2 ▸ Below.refl _ _⟩
theorem Zcm (n:Nat) (ha:nv a=n) (k:K (nst n)):Ask 40 [str a] K:=by subst ha;exact use (Zf5 a) rfl k
theorem Zdq (a b:ByteArray) (ha:a.size≤140737488355328) (hb:b.size≤140737488355328):Spec Tryd.prog Tab 96 [str a,str b] (int (cmpN (nv a) (nv b))):=
 Zs (Zw Tryd.func96 rfl rfl) rfl rfl fun w _=>(Zah a b w ha hb).mono fun _ _ h=>⟨h.1,h.2 ▸ Below.refl _ _⟩
theorem Zgh (n m:Nat) (ha:nv a=n) (hb:nv b=m) (za:a.size≤140737488355328) (zb:b.size≤140737488355328) (k:∀ c,c=cmpN n m→K (int c)):Ask 96 [str a,str b] K:=by
 subst ha hb;exact use (Zdq a b za zb) rfl (k _ rfl)
theorem Zf3 (a b:ByteArray) (ha:a.size≤35184372088832) (hb:b.size≤35184372088832):Spec Tryd.prog Tab 76 [str a,str b] (nst (nv a+nv b)):=
 Zs (Zw Tryd.func76 rfl rfl) rfl rfl fun w _=>(Z8 a b w ha hb).mono fun _ _ h=>h
theorem Ze1 (n m:Nat) (ha:nv a=n) (hb:nv b=m) (za:a.size≤35184372088832) (zb:b.size≤35184372088832) (k:K (nst (n+m))):Ask 76 [str a,str b] K:=by
 subst ha hb;exact use (Zf3 a b za zb) rfl k
theorem Zf4 (a b:ByteArray) (ha:a.size≤35184372088832) (hb:b.size≤35184372088832) (h:nv b≤nv a):Spec Tryd.prog Tab 97 [str a,str b] (nst (nv a - nv b)):=
 Zs (Zw Tryd.func97 rfl rfl) rfl rfl fun w _=>(ZdG a b w ha hb h).mono fun _ _ h=>h
theorem Zha (n m:Nat) (ha:nv a=n) (hb:nv b=m) (h:m≤n) (za:a.size≤35184372088832) (zb:b.size≤35184372088832) (k:K (nst (n - m))):Ask 97 [str a,str b] K:=by
 subst ha hb;exact use (Zf4 a b za zb h) rfl k
theorem ZeN (a b:ByteArray) (ha:a.size≤17592186044416) (hb:b.size≤17592186044416) (h:0< nv b):Spec Tryd.prog Tab 79 [str a,str b] (two (nst (nv a / nv b)) (nst (nv a % nv b))):=
 Zs (Zw Tryd.func79 rfl rfl) rfl rfl fun w _=>(ZhK a b w ha hb h).mono fun _ _ h=>h
theorem Zfz (n m:Nat) (ha:nv a=n) (hb:nv b=m) (h:0< m) (za:a.size≤17592186044416) (zb:b.size≤17592186044416) (k:K (two (nst (n / m)) (nst (n % m)))):Ask 79 [str a,str b] K:=by
 subst ha hb;exact use (ZeN a b za zb h) rfl k
theorem ZgJ (a:ByteArray) (i:Nat) (ha:a.size≤140737488355328) (hi:i≤1152921504606846976):Spec Tryd.prog Tab 94 [str a,int (i:Int)] (int ((nv a / 2 ^ i % 2:Nat):Int)):=
 Zs (Zw Tryd.func94 rfl rfl) rfl rfl fun w _=>(Zfb a i w ha hi).mono fun _ _ h=>⟨h.1,h.2 ▸ Below.refl _ _⟩
theorem Zfy (n i:Nat) {j:Int} (ha:nv a=n) (hj:j=(i:Int)) (za:a.size≤140737488355328) (hi:i≤1152921504606846976) (k:K (int ((n / 2 ^ i % 2:Nat):Int))):Ask 94 [str a,int j] K:=by
 subst ha hj;exact use (ZgJ a i za hi) rfl k
theorem ZdZ (a:ByteArray) (ha:a.size≤35184372088832):Spec Tryd.prog Tab 95 [str a] (nst (nv a / 2)):=
 Zs (Zw Tryd.func95 rfl rfl) rfl rfl fun w _=>(Zgk a w ha).mono fun _ _ h=>h
theorem Zbo (n:Nat) (ha:nv a=n) (za:a.size≤35184372088832) (k:K (nst (n / 2))):Ask 95 [str a] K:=by
 subst ha;exact use (ZdZ a za) rfl k
theorem Zay (a:ByteArray) (ha:a.size≤17592186044416):Spec Tryd.prog Tab 14 [str a] (str (dec (nv a))):=
 Zs (Zw Tryd.func14 rfl rfl) rfl rfl fun w _=>(Zfj a w ha).mono fun _ _ h=>h
theorem Zdp (s:ByteArray) (hs:s.size≤2000):Spec Tryd.prog Tab 47 [str s] (two (str (readS s)) (int (readE s))):=
 Zs (Zw Tryd.func47 rfl rfl) rfl rfl fun w _=>(Zff s w hs).mono fun _ _ h=>h
end
end Go.Proofs.YtpfemjpgbpnpkaaDoor.eng
namespace Go.Proofs.YtpfemjpgbpnpkaaDoor.eng
open Go.RowKit num mem seg q held ratA ratB ratC ratD ratE vars ratF natC natD natI
theorem Zc1 {x y:Nat} (hx:x % 2=0) (hy:y % 2=1):Nat.gcd (x / 2) y=Nat.gcd x y:=by
 have e:x=2*(x / 2):=by omega
 have hc:Nat.Coprime 2 y:=by
  rw [Nat.coprime_iff_gcd_eq_one,Nat.gcd_rec,hy];rfl
 conv=>rhs;rw [e]
 exact(Nat.Coprime.gcd_mul_left_cancel (x / 2) hc).symm
theorem Zgn {x y:Nat} (hx:x % 2=1) (hy:y % 2=0):Nat.gcd x (y / 2)=Nat.gcd x y:=by
 rw [Nat.gcd_comm,Zc1 hy hx,Nat.gcd_comm]
theorem ZdC {x y:Nat} (hx:x % 2=0) (hy:y % 2=0):2*Nat.gcd (x / 2) (y / 2)=Nat.gcd x y:=by
 rw [← Nat.gcd_mul_left]
 congr 1<;>omega
theorem ZfC {x y:Nat} (h:y≤x):Nat.gcd (x - y) y=Nat.gcd x y:=by
 conv=>rhs;rw [show x=(x - y)+y by omega]
 simp
theorem Zij {x y:Nat} (h:x≤y):Nat.gcd (y - x) x=Nat.gcd x y:=by
 rw [ZfC h,Nat.gcd_comm]
theorem ZeU {t n k:Nat} (h:2 ^ t≤n) (hn:bz n≤k):t< 8*k:=by
 have h1:=ZjK.1 hn
 rw [show (256:Nat)=2 ^ 8 from rfl,← Nat.pow_mul] at h1
 exact(Nat.pow_lt_pow_iff_right (by decide:1< 2)).1 (Nat.lt_of_le_of_lt h h1)
theorem Zdt (x t:Nat):2 ^ (t+1)*x=2 ^ t*(2*x):=by rw [Nat.pow_succ,Nat.mul_assoc]
theorem Zhu {a b:Nat}:0≤cmpN a b↔b≤a:=by
 unfold cmpN
 split
 ·omega
 ·split<;>omega
section
variable {K : AV → Prop} {a b : ByteArray} {n m : Nat}
theorem ZdA {ox oy:Operand} {s:ByteArray} (n:Nat) (hs:s=enc n) (k1:n=0→K (bool true)) (k0:n≠0→K (bool false)):AskB .eql 9 ox oy (.string s) (.string ⟨#[]⟩) K:=
 Zu (fun h=>k1 (ZaD.1 (by rw [← hs];exact h))) (fun h=>k0 (fun h0=>h (by rw [hs];exact ZaD.2 h0)))
theorem Zig {ox oy:Operand} {s:ByteArray} (n:Nat) (hs:s=enc n) (k1:n=0→K (bool false)) (k0:n≠0→K (bool true)):AskB .neq 9 ox oy (.string s) (.string ⟨#[]⟩) K:=
 ZW (fun h=>k1 (ZaD.1 (by rw [← hs];exact h))) (fun h=>k0 (fun h0=>h (by rw [hs];exact ZaD.2 h0)))
set_option maxHeartbeats 1000000 in
theorem Zd3 (a b:ByteArray) (ha:a.size≤17592186044416) (hb:b.size≤17592186044416):Spec Tryd.prog Tab 66 [str a,str b] (nst (Nat.gcd (nv a) (nv b))):=by
 have za:=Nat.le_trans (Zir a) ha
 have zb:=Nat.le_trans (Zir b) hb
 generalize hA:nv a=A at*
 generalize hB:nv b=B at*
 have zs:∀ x,x≤A→(enc x).size≤17592186044416:=fun x h=>Nat.le_trans (Ze7 h) za
 have zt:∀ x,x≤B→(enc x).size≤17592186044416:=fun x h=>Nat.le_trans (Ze7 h) zb
 refine Zap Tryd.func66 rfl rfl Tryd.ntmps66 rfl (by kernel_rfl) rfl rfl ?_
 refine Zcm A hA ?_
 refine Zcm B hB ?_
 refine ZdA A rfl (fun e1=> ?_) (fun e1=> ?_)
 ·refine⟨fun _=> ?_,fun e=>by simp at e⟩
  refine Ze1 A B (Zc A) (Zc B) (by have:=zs A (Nat.le_refl _);omega) (by have:=zt B (Nat.le_refl _);omega) ?_
  refine Eq.trans (b:=nst (A+B)) ?_ rfl
  rw [e1,Nat.gcd_zero_left,Nat.zero_add]
 refine ZdA B rfl (fun e2=> ?_) (fun e2=> ?_)
 ·refine⟨fun _=> ?_,fun e=>by simp at e⟩
  refine Ze1 A B (Zc A) (Zc B) (by have:=zs A (Nat.le_refl _);omega) (by have:=zt B (Nat.le_refl _);omega) ?_
  refine Eq.trans (b:=nst (A+B)) ?_ rfl
  rw [e2,Nat.gcd_zero_right,Nat.add_zero]
 refine⟨fun e=>by simp at e,fun _=> ?_⟩
 refine⟨Nat×Nat×Nat,fun s=> [(0,nst s.1),(1,nst s.2.1),(5,int (s.2.2:Int))],fun _=> [],
  fun s=>0< s.1∧0< s.2.1∧s.2.1≤B∧2 ^ s.2.2*s.1≤A∧2 ^ s.2.2*Nat.gcd s.1 s.2.1=Nat.gcd A B,fun s=>s.1,(A,B,0),?_,⟨Nat.pos_of_ne_zero e1,Nat.pos_of_ne_zero e2,Nat.le_refl _,by simp,by simp⟩,fun s hs=> ?_⟩
 ·constructor<;>(repeat' (first|exact rfl|exact True.intro|apply And.intro))
 obtain⟨x,y,t⟩:=s
 obtain⟨h1,h2,h3,h4,h5⟩:=hs
 simp only at h1 h2 h3 h4 h5
 have hp:=Nat.two_pow_pos t
 have hxA:x≤A:=Nat.le_trans (Nat.le_mul_of_pos_left x hp) h4
 have htA:2 ^ t≤A:=Nat.le_trans (Nat.le_mul_of_pos_right _ h1) h4
 have ht:=ZeU htA za
 have zx:=zs x hxA
 have zy:=zt y h3
 refine Zfy x 0 (Zc x) rfl (Nat.le_trans zx (by decide)) (by omega) ?_
 refine Zfy y 0 (Zc y) rfl (Nat.le_trans zy (by decide)) (by omega) ?_
 rw [Nat.pow_zero,Nat.div_one,Nat.div_one]
 have hw:IntKind.i64.wrap (((x % 2:Nat):Int)+((y % 2:Nat):Int))=((x % 2+y % 2:Nat):Int):=by rw [wrap64 _ (by omega) (by omega)];omega
 refine⟨fun e=> ?_,fun e=> ?_⟩
 ·have e':x % 2+y % 2=0:=by
   have:(IntKind.i64.wrap (((x % 2:Nat):Int)+((y % 2:Nat):Int))==0)=true:=e
   rw [hw] at this;simp at this;omega
  refine Zbo x (Zc x) (Nat.le_trans zx (by decide)) ?_
  refine Zbo y (Zc y) (Nat.le_trans zy (by decide)) ?_
  refine⟨(x / 2,y / 2,t+1),⟨by simp only;omega,by simp only;omega,by simp only;omega,?_,?_⟩,by simp only;omega,?_⟩
  ·simp only
   rw [Zdt,show 2*(x / 2)=x by omega];exact h4
  ·simp only
   rw [Zdt,ZdC (by omega) (by omega)];exact h5
  constructor<;>(repeat' (first|exact rfl|exact True.intro|apply And.intro))
  all_goals exact congrArg (fun n:Int=>D.v (.int .i64 n)) (show ((t+1:Nat):Int)=IntKind.i64.wrap ((t:Int)+1) by rw [wrap64 _ (by omega) (by omega)];omega)
 ·have e':x % 2=1∨y % 2=1:=by
   have:(IntKind.i64.wrap (((x % 2:Nat):Int)+((y % 2:Nat):Int))==0)=false:=e
   rw [hw] at this;simp at this;omega
  generalize hM:max A B=M at*
  have zm:∀ x,x≤M→(enc x).size≤17592186044416:=fun x h=>by
   rcases Nat.le_total A B with h'|h'
   ·exact zt x (by omega)
   ·exact zs x (by omega)
  refine⟨Nat×Nat,fun s=> [(0,nst s.1),(1,nst s.2),(5,int (t:Int))],fun _=> [],
   fun s=>0< s.2∧s.1≤M∧s.2≤M∧(s.1 % 2=1∨s.2 % 2=1)∧2 ^ t*Nat.gcd s.1 s.2=Nat.gcd A B,fun s=>s.1+s.2,(x,y),?_,⟨h2,by simp only;omega,by simp only;omega,e',h5⟩,fun s hs=> ?_⟩
  ·constructor<;>(repeat' (first|exact rfl|exact True.intro|apply And.intro))
  obtain⟨u,v⟩:=s
  obtain⟨g1,g2,g3,g4,g5⟩:=hs
  simp only at g1 g2 g3 g4 g5
  have zu:=zm u g2
  have zv:=zm v g3
  refine Zig u rfl (fun e1=> ?_) (fun e1=> ?_)
  ·refine⟨fun e=>by simp at e,fun _=> ?_⟩
   subst e1
   rw [Nat.gcd_zero_left] at g5
   have hG:Nat.gcd A B≤A:=Nat.gcd_le_left _ (by omega)
   refine⟨Nat,fun i=> [(1,nst (2 ^ i*v)),(57,int (t:Int)),(58,int (i:Int))],fun _=> [],fun i=>i≤t,fun i=>t - i,0,?_,Nat.zero_le _,fun i hi=> ?_⟩
   ·constructor<;>(repeat' (first|exact rfl|exact True.intro|apply And.intro))
    all_goals exact congrArg (fun n:Nat=>D.v (.string (enc n))) (show 2 ^ 0*v=v by simp)
   refine⟨fun e=> ?_,fun e=> ?_⟩
   ·have hlt:i< t:=by have:=of_decide_eq_true e;omega
    have hle:2 ^ i*v≤A:=Nat.le_trans (Nat.mul_le_mul_right v (Nat.pow_le_pow_right (by decide) hi)) (by rw [g5];exact hG)
    have zz:=zs _ hle
    refine Ze1 (2 ^ i*v) (2 ^ i*v) (Zc _) (Zc _) (Nat.le_trans zz (by decide)) (Nat.le_trans zz (by decide)) ?_
    have hwi:IntKind.i64.wrap ((i:Int)+1)=((i+1:Nat):Int):=by rw [wrap64 _ (by omega) (by omega)];omega
    refine⟨i+1,hlt,by simp only;omega,?_⟩
    constructor<;>(repeat' (first|exact rfl|exact True.intro|apply And.intro))
    all_goals first
     |exact congrArg (fun n:Int=>D.v (.int .i64 n)) hwi.symm
     |exact congrArg (fun n:Nat=>D.v (.string (enc n))) (show 2 ^ (i+1)*v=2 ^ i*v+2 ^ i*v by rw [Zdt,Nat.mul_left_comm];omega)
   ·have hge:i=t:=by have:=of_decide_eq_false e;omega
    subst hge
    refine Eq.trans (b:=nst (2 ^ i*v)) ?_ rfl
    rw [g5]
  ·refine⟨fun _=> ?_,fun e=>by simp at e⟩
   refine Zfy u 0 (Zc u) rfl (Nat.le_trans zu (by decide)) (by omega) ?_
   rw [Nat.pow_zero,Nat.div_one]
   refine⟨fun e2=> ?_,fun e2=> ?_⟩
   ·have hu:u % 2=0:=by
     have:(((u % 2:Nat):Int)==0)=true:=e2
     simp at this;omega
    refine Zbo u (Zc u) (Nat.le_trans zu (by decide)) ?_
    refine⟨(u / 2,v),⟨g1,by simp only;omega,g3,.inr (by simp only;omega),by simp only;rw [Zc1 hu (by omega)];exact g5⟩,by simp only;omega,?_⟩
    constructor<;>(repeat' (first|exact rfl|exact True.intro|apply And.intro))
   ·have hu:u % 2=1:=by
     have:(((u % 2:Nat):Int)==0)=false:=e2
     simp at this;omega
    refine Zfy v 0 (Zc v) rfl (Nat.le_trans zv (by decide)) (by omega) ?_
    rw [Nat.pow_zero,Nat.div_one]
    refine⟨fun e3=> ?_,fun e3=> ?_⟩
    ·have hv:v % 2=0:=by
      have:(((v % 2:Nat):Int)==0)=true:=e3
      simp at this;omega
     refine Zbo v (Zc v) (Nat.le_trans zv (by decide)) ?_
     refine⟨(u,v / 2),⟨by simp only;omega,g2,by simp only;omega,.inl hu,by simp only;rw [Zgn hu hv];exact g5⟩,by simp only;omega,?_⟩
     constructor<;>(repeat' (first|exact rfl|exact True.intro|apply And.intro))
    ·have hv:v % 2=1:=by
      have:(((v % 2:Nat):Int)==0)=false:=e3
      simp at this;omega
     refine Zgh u v (Zc u) (Zc v) (Nat.le_trans zu (by decide)) (Nat.le_trans zv (by decide)) fun c hc=> ?_
     refine⟨fun e4=> ?_,fun e4=> ?_⟩
     ·have hle:v≤u:=Zhu.1 (by rw [← hc];exact of_decide_eq_true e4)
      refine Zha u v (Zc u) (Zc v) hle (Nat.le_trans zu (by decide)) (Nat.le_trans zv (by decide)) ?_
      refine⟨(u - v,v),⟨g1,by simp only;omega,g3,.inr hv,by simp only;rw [ZfC hle];exact g5⟩,by simp only;omega,?_⟩
      constructor<;>(repeat' (first|exact rfl|exact True.intro|apply And.intro))
     ·have hle:u≤v:=Nat.le_of_not_le (fun h=>of_decide_eq_false e4 (by rw [hc];exact Zhu.2 h))
      refine Zha v u (Zc v) (Zc u) hle (Nat.le_trans zv (by decide)) (Nat.le_trans zu (by decide)) ?_
      refine⟨(v - u,u),⟨by simp only;omega,by simp only;omega,g2,.inr hu,by simp only;rw [Zij hle];exact g5⟩,by simp only;omega,?_⟩
      constructor<;>(repeat' (first|exact rfl|exact True.intro|apply And.intro))
theorem Zem (n m:Nat) (ha:nv a=n) (hb:nv b=m) (za:a.size≤17592186044416) (zb:b.size≤17592186044416) (k:K (nst (Nat.gcd n m))):Ask 66 [str a,str b] K:=by
 subst ha hb;exact use (Zd3 a b za zb) rfl k
end
end Go.Proofs.YtpfemjpgbpnpkaaDoor.eng
namespace Go.Proofs.YtpfemjpgbpnpkaaDoor.eng
open Go.RowKit num mem seg q held ratA ratB ratC ratD ratE vars ratF natC natD natI
def Fr (r:RV) (p:Rat):Prop:=0< nv r.d∧mkRat (sg r.s (nv r.a)) (nv r.d)=p
theorem ZjI (p:Rat):Fr (cn p) p:=⟨by show 0< nv (enc p.den);rw [Zc];exact p.den_pos,by show mkRat (sg (decide (p.num< 0)) (nv (enc p.num.natAbs))) (nv (enc p.den))=p;rw [Zc,Zc,Zfq,Rat.mkRat_self]⟩
theorem RV.z_of {s:Bool} {a d:ByteArray} {k:Nat} (h1:a.size≤k) (h2:d.size≤k):(RV.mk s a d).z≤k:=by unfold RV.z;simp only;omega
theorem Zi2 {r:RV} {p:Rat} (h:Fr r p):nv r.a=0↔p=0:=by
 obtain⟨h1,h2⟩:=h
 rw [← h2]
 constructor
 ·intro e;rw [e];cases r.s<;>simp [sg,Rat.zero_mkRat]
 ·intro e
  rw [Rat.mkRat_eq_zero (by omega)] at e
  unfold sg at e
  split at e<;>omega
end Go.Proofs.YtpfemjpgbpnpkaaDoor.eng
namespace Go.Proofs.YtpfemjpgbpnpkaaDoor.eng
open Go.RowKit num mem seg q held ratA ratB ratC ratD ratE vars ratF natC natD natI
section
variable {K : AV → Prop} {a b : ByteArray} {x y r t : RV} {p q : Rat}
theorem Zc8 {n:Nat}:enc n=⟨#[1]⟩↔n=1:=by
 rw [← enc_one];exact Zc9
set_option maxHeartbeats 1000000 in
theorem ZhM (x:RV) (hx:x.z≤4398046511104):Spec Tryd.prog Tab 39 [rat x] (bool (decide x.good)):=by
 obtain⟨s,a,d⟩:=x
 obtain⟨za,zd⟩:=ZeC hx
 simp only at za zd
 have bad:¬ RV.good ⟨s,a,d⟩→bool (decide (RV.good ⟨s,a,d⟩))=bool false:=fun h=>by rw [decide_eq_false h]
 refine Zap Tryd.func39 rfl rfl Tryd.ntmps39 rfl (by kernel_rfl) rfl rfl ?_
 refine Zcm (nv a) rfl ?_
 refine ZW (fun (e1:enc (nv a)=a)=> ?_) (fun (e1:¬ enc (nv a)=a)=> ?_)
 ·refine Zcm (nv d) rfl ?_
  refine ZW (fun (e2:enc (nv d)=d)=> ?_) (fun (e2:¬ enc (nv d)=d)=> ?_)
  ·refine Zu (fun (e3:d=⟨#[]⟩)=> ?_) (fun (e3:¬ d=⟨#[]⟩)=> ?_)
   ·refine⟨by kernel_rfl,?_⟩
    refine⟨fun _=> ?_,fun e=>by simp at e⟩
    refine bad (fun h=> ?_)
    have h1:0< nv d:=h.2.2.1
    rw [e3,ZiB] at h1;omega
   ·refine⟨by kernel_rfl,?_⟩
    refine⟨fun e=>by simp at e,fun _=> ?_⟩
    have hd0:0< nv d:=by
     rcases Nat.eq_zero_or_pos (nv d) with h|h
     ·rw [h,Zy] at e2;exact absurd e2.symm e3
     ·exact h
    refine Zu (fun (e4:a=⟨#[]⟩)=> ?_) (fun (e4:¬ a=⟨#[]⟩)=> ?_)
    ·refine⟨fun _=> ?_,fun e=>by simp at e⟩
     have ha0:nv a=0:=by rw [e4,ZiB]
     have hg:RV.good ⟨s,a,d⟩↔s=false∧d=⟨#[1]⟩:=by
      constructor
      ·intro h
       have h4:nv a=0→s=false:=h.2.2.2.1
       have h5:Nat.gcd (nv a) (nv d)=1:=h.2.2.2.2
       rw [ha0,Nat.gcd_zero_left] at h5
       exact⟨h4 ha0,by rw [← e2,h5,enc_one]⟩
      ·rintro⟨h1,h2⟩
       exact⟨e1,e2,hd0,fun _=>h1,by show Nat.gcd (nv a) (nv d)=1;rw [ha0,Nat.gcd_zero_left,h2,nv_one]⟩
     cases s with
     |true=>
      refine bad (fun h=> ?_)
      have:=(hg.1 h).1;simp at this
     |false=>
      refine Zu (fun (e5:d=⟨#[1]⟩)=> ?_) (fun (e5:¬ d=⟨#[1]⟩)=> ?_)
      ·refine Eq.trans (b:=bool true) ?_ rfl
       rw [decide_eq_true (hg.2 ⟨rfl,e5⟩)]
      ·exact bad (fun h=>e5 (hg.1 h).2)
    ·refine⟨fun e=>by simp at e,fun _=> ?_⟩
     have ha0:nv a≠0:=fun h=>by rw [h,Zy] at e1;exact e4 e1.symm
     have hg:RV.good ⟨s,a,d⟩↔Nat.gcd (nv a) (nv d)=1:=⟨fun h=>h.2.2.2.2,fun h=>⟨e1,e2,hd0,fun h0=>absurd h0 ha0,h⟩⟩
     refine Zem (nv a) (nv d) rfl rfl (Nat.le_trans za (by decide)) (Nat.le_trans zd (by decide)) ?_
     refine Zu (fun (e5:enc (Nat.gcd (nv a) (nv d))=⟨#[1]⟩)=> ?_) (fun (e5:¬ enc (Nat.gcd (nv a) (nv d))=⟨#[1]⟩)=> ?_)
     ·refine Eq.trans (b:=bool true) ?_ rfl
      rw [decide_eq_true (hg.2 (Zc8.1 e5))]
     ·exact bad (fun h=>e5 (Zc8.2 (hg.1 h)))
  ·refine⟨by kernel_rfl,?_⟩
   refine⟨fun _=> ?_,fun e=>by simp at e⟩
   exact bad (fun h=>e2 h.2.1)
 ·refine⟨by kernel_rfl,?_⟩
  refine⟨fun _=> ?_,fun e=>by simp at e⟩
  exact bad (fun h=>e1 h.1)
theorem ZiE (hx:x.z≤4398046511104) (k:∀ b,b=decide x.good→K (bool b)):Ask 39 [rat x] K:=use (ZhM x hx) rfl (k _ rfl)
theorem cn_0:cn 0=⟨false,⟨#[]⟩,⟨#[1]⟩⟩:=by
 unfold cn
 rw [show (0:Rat).num=0 from rfl,show (0:Rat).den=1 from rfl,show (0:Int).natAbs=0 from rfl,Zy,enc_one];rfl
theorem RV.bad_q {x:RV} (h:¬ x.good):x.q=0:=by
 unfold RV.q qv
 exact if_neg h
theorem Ziv (x:RV) (hx:x.z≤4398046511104):Spec Tryd.prog Tab 13 [rat x] (rat (cn x.q)):=by
 refine Zap Tryd.func13 rfl rfl Tryd.ntmps13 rfl (by kernel_rfl) rfl rfl ?_
 by_cases hg:x.good
 ·refine ZiE hx fun b hb=> ?_
  rw [decide_eq_true hg] at hb
  subst hb
  refine⟨fun e=>by simp at e,fun _=> ?_⟩
  refine Eq.trans (b:=rat x) ?_ rfl
  rw [← RV.good_cn hg]
 ·refine ZiE hx fun b hb=> ?_
  rw [decide_eq_false hg] at hb
  subst hb
  refine⟨fun _=> ?_,fun e=>by simp at e⟩
  refine Eq.trans (b:=rat ⟨false,⟨#[]⟩,⟨#[1]⟩⟩) ?_ rfl
  rw [RV.bad_q hg,cn_0]
theorem ZjH (hx:x.z≤4398046511104) (k:∀ r p,p=x.q→r=cn p→Fr r p→r.z≤x.z+1→K (rat r)):Ask 13 [rat x] K:=
 use (Ziv x hx) rfl (k _ _ rfl rfl (ZjI _) (by rw [cn_z];exact x.z1))
theorem ZhL (r:RV) (p:Rat) (h:Fr r p) (hr:r.z≤4398046511104):Spec Tryd.prog Tab 48 [rat r] (rat (cn p)):=by
 obtain⟨h1,h2⟩:=ZeC (x:=r) (Nat.le_refl _)
 have n1:=Zir r.a
 have n2:=Zir r.d
 refine Zap Tryd.func48 rfl rfl Tryd.ntmps48 rfl (by kernel_rfl) rfl rfl ?_
 refine Zcm (nv r.a) rfl ?_
 refine ZdA (nv r.a) rfl (fun e1=> ?_) (fun e1=> ?_)
 ·refine⟨fun _=> ?_,fun e=>by simp at e⟩
  refine Eq.trans (b:=rat ⟨false,⟨#[]⟩,⟨#[1]⟩⟩) ?_ rfl
  rw [(Zi2 h).1 e1,cn_0]
 ·refine⟨fun e=>by simp at e,fun _=> ?_⟩
  have hG:0< Nat.gcd (nv r.a) (nv r.d):=Nat.gcd_pos_of_pos_right _ h.1
  have zg:bz (Nat.gcd (nv r.a) (nv r.d))≤bz (nv r.d):=Ze7 (Nat.gcd_le_right _ h.1)
  refine Zem (nv r.a) (nv r.d) rfl rfl (Nat.le_trans h1 (by omega)) (Nat.le_trans h2 (by omega)) ?_
  refine Zfz (nv r.a) (Nat.gcd (nv r.a) (nv r.d)) rfl (Zc _) hG (Nat.le_trans h1 (by omega)) (Nat.le_trans zg (by omega)) ?_
  refine Zfz (nv r.d) (Nat.gcd (nv r.a) (nv r.d)) rfl (Zc _) hG (Nat.le_trans h2 (by omega)) (Nat.le_trans zg (by omega)) ?_
  refine Eq.trans (b:=rat ⟨r.s,enc (nv r.a / Nat.gcd (nv r.a) (nv r.d)),enc (nv r.d / Nat.gcd (nv r.a) (nv r.d))⟩) ?_ rfl
  have hs:=ZiX (s:=r.s) (n:=nv r.a) (d:=nv r.d) (by omega) h.1
  rw [h.2] at hs
  obtain⟨a1,a2,a3⟩:=Zi0 hs
  rw [a1,a2,a3]
theorem ZfA (h:Fr r p) (hr:r.z≤4398046511104) (k:K (rat (cn p))):Ask 48 [rat r] K:=use (ZhL r p h hr) rfl k
end
end Go.Proofs.YtpfemjpgbpnpkaaDoor.eng
