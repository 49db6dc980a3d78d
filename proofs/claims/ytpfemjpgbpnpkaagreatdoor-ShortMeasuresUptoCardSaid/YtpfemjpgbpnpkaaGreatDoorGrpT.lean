/- Joined by wip/bundle.py: XTrq XEngTurn. -/
import Derived.Test.YtpfemjpgbpnpkaaGreatDoorQ
import Derived.Test.YtpfemjpgbpnpkaaGreatDoorEngU
set_option maxRecDepth 100000
namespace Go.Proofs.YtpfemjpgbpnpkaaGreatDoor.trq
open q
def tq (h:Bool) (p:Rat):Rat:=if h then ((0:Int):Rat) else p
def cosq (h:Bool) (p:Rat):Rat:=if h then ((-1:Int):Rat) else (((1:Int):Rat) - p*p) / (((1:Int):Rat)+p*p)
def sinq (p:Rat):Rat:=(p+p) / (((1:Int):Rat)+p*p)
theorem Zh8 (p:Rat):((1:Int):Rat)+p*p≠0:=by
 have h0:0≤p*p:=by
  rcases Rat.le_total (a:=0) (b:=p) with h|h
  ·exact Rat.mul_nonneg h h
  ·have h':0≤-p:=by have:=Rat.neg_le_neg h;simpa using this
   have:=Rat.mul_nonneg h' h'
   rwa [Rat.neg_mul,Rat.mul_neg,Rat.neg_neg] at this
 intro h
 have h1:(1:Rat)+0≤1+p*p:=Rat.add_le_add_left.2 h0
 rw [Rat.intCast_one] at h
 rw [h] at h1
 exact absurd h1 (by decide+kernel)
def oppH (q:Rat):Bool:=decide (q=0)
def oppQ (q:Rat):Rat:=if q=0 then ((0:Int):Rat) else ((-1:Int):Rat) / q
def tofH (c:Rat):Bool:=decide (((1:Int):Rat)+c=0)
def tofQ (c s:Rat):Rat:=if ((1:Int):Rat)+c=0 then ((0:Int):Rat) else s / (((1:Int):Rat)+c)
def thnH (h g:Bool) (p q:Rat):Bool:=if h then (if g then false else oppH q) else if g then oppH p else decide (((1:Int):Rat) - p*q=0)
def thnQ (h g:Bool) (p q:Rat):Rat:=if h then (if g then ((0:Int):Rat) else oppQ q) else if g then oppQ p else if ((1:Int):Rat) - p*q=0 then ((0:Int):Rat) else (p+q) / (((1:Int):Rat) - p*q)
theorem ZdK (p:Rat):cosq false p*(1+p*p)=1 - p*p∧sinq p*(1+p*p)=2*p∧1+p*p≠0:=by
 have h:=Zh8 p
 simp only [Rat.intCast_one] at h
 refine⟨?_,?_,h⟩
 ·unfold cosq;simp only [Bool.false_eq_true,if_false,Rat.intCast_one];grind
 ·unfold sinq;simp only [Rat.intCast_one];grind
theorem Zdf:sinq ((0:Int):Rat)=0:=by decide+kernel
theorem ZeJ (p:Rat):cosq true p=-1:=by unfold cosq;simp only [if_true];decide+kernel
theorem ZeQ (p:Rat):tq true p=((0:Int):Rat):=rfl
theorem Zbe (p:Rat):tq false p=p:=rfl
theorem ZhD {c s r:Rat} (h:1+c≠0) (e:r*(1+c)=s):tofH c=false∧tofQ c s=r:=by
 unfold tofH tofQ
 simp only [Rat.intCast_one]
 rw [if_neg h]
 exact⟨decide_eq_false h,by grind⟩
theorem Zes {c s:Rat} (h:1+c=0):tofH c=true∧tofQ c s=((0:Int):Rat):=by
 unfold tofH tofQ
 simp only [Rat.intCast_one]
 rw [if_pos h]
 exact⟨decide_eq_true h,rfl⟩
theorem Znu {c s q:Rat} (h1:c*(1+q*q)=- (1 - q*q)) (h2:s*(1+q*q)=- (2*q)) (h3:1+q*q≠0):tofH c=oppH q∧tofQ c s=oppQ q:=by
 by_cases hq:q=0
 ·have:1+c=0:=by grind
  have e:=Zes (s:=s) this
  unfold oppH oppQ
  rw [if_pos hq]
  exact⟨e.1.trans (decide_eq_true hq).symm,e.2⟩
 ·have h:1+c≠0:=by grind
  have e:=ZhD (s:=s) (r:=(-1) / q) h (by grind)
  unfold oppH oppQ
  rw [if_neg hq]
  refine⟨e.1.trans (decide_eq_false hq).symm,e.2.trans ?_⟩
  congr 1
theorem Zqg (h g:Bool) (p q:Rat):
  tofH (cosq h p*cosq g q - sinq (tq h p)*sinq (tq g q))=thnH h g p q∧
  tofQ (cosq h p*cosq g q - sinq (tq h p)*sinq (tq g q)) (sinq (tq h p)*cosq g q+cosq h p*sinq (tq g q))=thnQ h g p q:=by
 obtain⟨a1,a2,a3⟩:=ZdK p
 obtain⟨b1,b2,b3⟩:=ZdK q
 cases h<;>cases g<;>simp only [ZeQ,Zbe,ZeJ,Zdf]
 ·show _=decide _∧_=(if _ then _ else _)
  simp only [Rat.intCast_one]
  by_cases hz:1 - p*q=0
  ·rw [if_pos hz]
   have e:=Zes (c:=cosq false p*cosq false q - sinq p*sinq q) (s:=sinq p*cosq false q+cosq false p*sinq q) (by grind)
   exact⟨e.1.trans (decide_eq_true hz).symm,e.2⟩
  ·rw [if_neg hz]
   have e:=ZhD (c:=cosq false p*cosq false q - sinq p*sinq q) (s:=sinq p*cosq false q+cosq false p*sinq q) (r:=(p+q) / (1 - p*q)) (by grind) (by grind)
   exact⟨e.1.trans (decide_eq_false hz).symm,e.2⟩
 ·exact Znu (by grind) (by grind) a3
 ·exact Znu (by grind) (by grind) b3
 ·exact ZhD (r:=((0:Int):Rat)) (by grind) (by rw [Rat.intCast_zero];grind)
theorem ZqX (h:Bool) (p:Rat):thnH h false p 0=h∧thnQ h false p 0=tq h p:=by
 cases h
 ·unfold thnH thnQ tq
  simp only [Bool.false_eq_true,if_false,Rat.intCast_one,Rat.mul_zero]
  exact⟨by decide+kernel,by rw [if_neg (by decide+kernel)];grind⟩
 ·unfold thnH thnQ tq oppH oppQ
  simp
end Go.Proofs.YtpfemjpgbpnpkaaGreatDoor.trq
namespace Go.Proofs.YtpfemjpgbpnpkaaGreatDoor.eng
open Go.RowKit num mem seg q held ratA ratB ratC ratD ratE vars ratF trq
section
variable {x y : RV} {h g : Bool} {K : AV → Prop}
theorem Zq1 (x:RV) (hx:x.z≤4398046511104):Spec Tryz.prog Tab 123 [rat x] (turn false (cn x.q)):=by
 refine Za Tryz.func123 rfl rfl Tryz.ntmps123 rfl (by kernel_rfl) rfl rfl ?_
 refine Zo9 (by omega) fun q1 h1 z1=> ?_
 try simp only [cn_q] at h1
 refine Eq.trans (b:=turn false (cn _)) ?_ rfl
 rw [h1]
theorem Zip (hx:x.z≤4398046511104) (k:∀ q,q=x.q→(cn q).z≤x.z+1→K (turn false (cn q))):Ask 123 [rat x] K:=
 use (Zq1 x hx) rfl (k _ rfl (by have:=x.z1;rw [cn_z];omega))
theorem ZlP  :Spec Tryz.prog Tab 131 [] (turn true (cn ((0:Int):Rat))):=by
 refine Za Tryz.func131 rfl rfl Tryz.ntmps131 rfl (by kernel_rfl) rfl rfl ?_
 refine k_of (0) (by omega) (by omega) fun q1 h1 z1=> ?_
 refine Eq.trans (b:=turn true (cn _)) ?_ rfl
 rw [h1]
theorem Zhb (k:∀ q,q=((0:Int):Rat)→(cn q).z≤8→K (turn true (cn q))):Ask 131 [] K:=
 use ZlP rfl (k _ rfl (by have:=Zaq (n:=0) (by decide) (by decide);rw [cn_z];omega))
theorem ZnC (h:Bool) (x:RV) (hx:x.z≤4398046511104):Spec Tryz.prog Tab 213 [turn h x] (turn h (cn (tq h x.q))):=by
 refine Za Tryz.func213 rfl rfl Tryz.ntmps213 rfl (by kernel_rfl) rfl rfl ?_
 refine⟨fun e1=> ?_,fun e1=> ?_⟩
 ·subst e1
  refine Zhb fun q2 h2 z2=> ?_
  refine Eq.trans (b:=turn _ (cn _)) ?_ rfl
  subst_vars;rfl
 ·subst e1
  refine Zip (by omega) fun q3 h3 z3=> ?_
  try simp only [cn_q] at h3
  refine Eq.trans (b:=turn _ (cn _)) ?_ rfl
  subst_vars;rfl
theorem tq_z (h:Bool) (x:RV):(cn (tq h x.q)).z≤x.z+8:=by
 rw [cn_z];unfold tq;split
 ·have:=Zaq (n:=0) (by decide) (by decide);omega
 ·have:=x.z1;omega
theorem ZcH (hx:x.z≤4398046511104) (k:∀ q,q=tq h x.q→(cn q).z≤x.z+8→K (turn h (cn q))):Ask 213 [turn h x] K:=
 use (ZnC h x hx) rfl (k _ rfl (tq_z h x))
theorem ZnD (h:Bool) (x:RV) (hx:x.z≤68719476736):Spec Tryz.prog Tab 126 [turn h x] (rat (cn (cosq h x.q))):=by
 refine Za Tryz.func126 rfl rfl Tryz.ntmps126 rfl (by kernel_rfl) rfl rfl ?_
 refine ZcH (by omega) fun q1 h1 z1=> ?_
 try simp only [cn_q] at h1
 refine⟨fun e2=> ?_,fun e2=> ?_⟩
 ·subst e2
  refine k_of (-1) (by omega) (by omega) fun q3 h3 z3=> ?_
  refine Eq.trans (b:=rat (cn _)) ?_ rfl
  subst_vars;rfl
 ·subst e2
  refine Zbb (by omega) (by omega) fun q4 h4 z4=> ?_
  try simp only [cn_q] at h4
  refine k_of (1) (by omega) (by omega) fun q5 h5 z5=> ?_
  refine ZcW (by omega) (by omega) fun q6 h6 z6=> ?_
  try simp only [cn_q] at h6
  refine k_of (1) (by omega) (by omega) fun q7 h7 z7=> ?_
  refine ZcC (by omega) (by omega) fun q8 h8 z8=> ?_
  try simp only [cn_q] at h8
  refine Zhd (by omega) (by omega) (by subst_vars;simp only [cn_q];exact Zh8 _) fun q9 h9 z9=> ?_
  try simp only [cn_q] at h9
  refine⟨by kernel_rfl,?_⟩
  refine Eq.trans (b:=rat (cn _)) ?_ rfl
  subst_vars;rfl
theorem ZnA (h:Bool) (x:RV) (hx:x.z≤68719476736):Spec Tryz.prog Tab 127 [turn h x] (rat (cn (sinq (tq h x.q)))):=by
 refine Za Tryz.func127 rfl rfl Tryz.ntmps127 rfl (by kernel_rfl) rfl rfl ?_
 refine ZcH (by omega) fun q1 h1 z1=> ?_
 try simp only [cn_q] at h1
 refine ZcC (by omega) (by omega) fun q2 h2 z2=> ?_
 try simp only [cn_q] at h2
 refine k_of (1) (by omega) (by omega) fun q3 h3 z3=> ?_
 refine Zbb (by omega) (by omega) fun q4 h4 z4=> ?_
 try simp only [cn_q] at h4
 refine ZcC (by omega) (by omega) fun q5 h5 z5=> ?_
 try simp only [cn_q] at h5
 refine Zhd (by omega) (by omega) (by subst_vars;simp only [cn_q];exact Zh8 _) fun q6 h6 z6=> ?_
 try simp only [cn_q] at h6
 refine⟨by kernel_rfl,?_⟩
 refine Eq.trans (b:=rat (cn _)) ?_ rfl
 subst_vars;rfl
theorem ZkO:qs ((1:Int):Rat)≤8:=Zaq (by decide) (by decide)
theorem Zwc:qs ((-1:Int):Rat)≤8:=Zaq (by decide) (by decide)
theorem qs_0:qs ((0:Int):Rat)≤8:=Zaq (by decide) (by decide)
theorem Zoj (h:Bool) (p:Rat):qs (cosq h p)≤4*qs p+30:=by
 unfold cosq
 split
 ·have:=Zwc;omega
 ·have h1:=Zt p p
  have h2:=ZZ ((1:Int):Rat) (p*p)
  have h3:=ZC ((1:Int):Rat) (p*p)
  have h4:=ZaQ (((1:Int):Rat) - p*p) (((1:Int):Rat)+p*p)
  have:=ZkO
  omega
theorem Zoh (p:Rat):qs (sinq p)≤4*qs p+30:=by
 unfold sinq
 have h1:=Zt p p
 have h2:=ZC p p
 have h3:=ZC ((1:Int):Rat) (p*p)
 have h4:=ZaQ (p+p) (((1:Int):Rat)+p*p)
 have:=ZkO
 omega
theorem ZtP (hx:x.z≤68719476736) (k:∀ q,q=cosq h x.q→(cn q).z≤4*x.z+34→K (rat (cn q))):Ask 126 [turn h x] K:=
 use (ZnD h x hx) rfl (k _ rfl (by have:=Zoj h x.q;have:=x.z1;rw [cn_z];omega))
theorem ZtN (hx:x.z≤68719476736) (k:∀ q,q=sinq (tq h x.q)→(cn q).z≤4*x.z+70→K (rat (cn q))):Ask 127 [turn h x] K:=
 use (ZnA h x hx) rfl (k _ rfl (by have h1:=Zoh (tq h x.q);have h2:=tq_z h x;rw [cn_z] at h2 ⊢;omega))
theorem ZnB (h:Bool) (x:RV) (hx:x.z≤68719476736):Spec Tryz.prog Tab 307 [turn h x] (turn (oppH x.q) (cn (oppQ x.q))):=by
 refine Za Tryz.func307 rfl rfl Tryz.ntmps307 rfl (by kernel_rfl) rfl rfl ?_
 refine k_of (-1) (by omega) (by omega) fun q1 h1 z1=> ?_
 refine Zfp (by omega) (by omega) (fun gn q2 h2 z2=> ?_) (fun gz=> ?_)
 ·try simp only [cn_q] at gn h2
  refine⟨by kernel_rfl,?_⟩
  refine⟨fun e=>by simp at e,fun _=> ?_⟩
  refine Zip (by omega) fun q3 h3 z3=> ?_
  try simp only [cn_q] at h3
  refine Eq.trans (b:=turn _ (cn _)) ?_ rfl
  unfold oppH oppQ
  first
   |(rw [decide_eq_true (Decidable.not_not.1 gz),if_pos (Decidable.not_not.1 gz)];subst_vars;rfl)
   |(rw [decide_eq_false gn,if_neg gn];subst_vars;rfl)
 ·try simp only [cn_q] at gz
  refine⟨by kernel_rfl,?_⟩
  refine⟨fun _=> ?_,fun e=>by simp at e⟩
  refine Zhb fun q4 h4 z4=> ?_
  refine Eq.trans (b:=turn _ (cn _)) ?_ rfl
  unfold oppH oppQ
  first
   |(rw [decide_eq_true (Decidable.not_not.1 gz),if_pos (Decidable.not_not.1 gz)];subst_vars;rfl)
   |(rw [decide_eq_false gn,if_neg gn];subst_vars;rfl)
theorem Zji (p:Rat):qs (oppQ p)≤qs p+9:=by
 unfold oppQ
 split
 ·have:=qs_0;omega
 ·have:=ZaQ ((-1:Int):Rat) p;have:=Zwc;omega
theorem ZtO (hx:x.z≤68719476736) (k:∀ b q,b=oppH x.q→q=oppQ x.q→(cn q).z≤x.z+10→K (turn b (cn q))):Ask 307 [turn h x] K:=
 use (ZnB h x hx) rfl (k _ _ rfl rfl (by have:=Zji x.q;have:=x.z1;rw [cn_z];omega))
theorem ZlO (h g:Bool) (x y:RV) (hx:x.z≤17179869184) (hy:y.z≤17179869184):Spec Tryz.prog Tab 266 [turn h x,turn g y] (turn (thnH h g x.q y.q) (cn (thnQ h g x.q y.q))):=by
 cases h<;>cases g
 ·refine Za Tryz.func266 rfl rfl Tryz.ntmps266 rfl (by kernel_rfl) rfl rfl ?_
  refine ZcH (by omega) fun q1 h1 z1=> ?_
  try simp only [cn_q] at h1
  refine ZcH (by omega) fun q2 h2 z2=> ?_
  try simp only [cn_q] at h2
  refine⟨by kernel_rfl,?_⟩
  refine⟨fun e=>by simp at e,fun _=> ?_⟩
  refine⟨fun e=>by simp at e,fun _=> ?_⟩
  refine⟨fun e=>by simp at e,fun _=> ?_⟩
  refine ZcC (by omega) (by omega) fun q3 h3 z3=> ?_
  try simp only [cn_q] at h3
  refine k_of (1) (by omega) (by omega) fun q4 h4 z4=> ?_
  refine Zbb (by omega) (by omega) fun q5 h5 z5=> ?_
  try simp only [cn_q] at h5
  refine ZcW (by omega) (by omega) fun q6 h6 z6=> ?_
  try simp only [cn_q] at h6
  refine Zfp (by omega) (by omega) (fun gn q7 h7 z7=> ?_) (fun gz=> ?_)
  ·try simp only [cn_q] at gn h7
   refine⟨by kernel_rfl,?_⟩
   refine⟨fun e=>by simp at e,fun _=> ?_⟩
   refine Zip (by omega) fun q8 h8 z8=> ?_
   try simp only [cn_q] at h8
   refine Eq.trans (b:=turn _ (cn _)) ?_ rfl
   unfold thnH thnQ
   simp only [Bool.false_eq_true,if_false]
   first
    |(rw [decide_eq_true (by subst_vars;exact Decidable.not_not.1 gz),if_pos (by subst_vars;exact Decidable.not_not.1 gz)];subst_vars;rfl)
    |(rw [decide_eq_false (by subst_vars;exact gn),if_neg (by subst_vars;exact gn)];subst_vars;rfl)
  ·try simp only [cn_q] at gz
   refine⟨by kernel_rfl,?_⟩
   refine⟨fun _=> ?_,fun e=>by simp at e⟩
   refine Zhb fun q9 h9 z9=> ?_
   refine Eq.trans (b:=turn _ (cn _)) ?_ rfl
   unfold thnH thnQ
   simp only [Bool.false_eq_true,if_false]
   first
    |(rw [decide_eq_true (by subst_vars;exact Decidable.not_not.1 gz),if_pos (by subst_vars;exact Decidable.not_not.1 gz)];subst_vars;rfl)
    |(rw [decide_eq_false (by subst_vars;exact gn),if_neg (by subst_vars;exact gn)];subst_vars;rfl)
 ·refine Za Tryz.func266 rfl rfl Tryz.ntmps266 rfl (by kernel_rfl) rfl rfl ?_
  refine ZcH (by omega) fun q1 h1 z1=> ?_
  try simp only [cn_q] at h1
  refine ZcH (by omega) fun q2 h2 z2=> ?_
  try simp only [cn_q] at h2
  refine⟨by kernel_rfl,?_⟩
  refine⟨fun e=>by simp at e,fun _=> ?_⟩
  refine⟨fun e=>by simp at e,fun _=> ?_⟩
  refine⟨fun _=> ?_,fun e=>by simp at e⟩
  refine ZtO (by omega) fun b3 q3 e3 h3 z3=> ?_
  try simp only [cn_q] at e3 h3
  refine Eq.trans (b:=turn _ (cn _)) ?_ rfl
  subst_vars;rfl
 ·refine Za Tryz.func266 rfl rfl Tryz.ntmps266 rfl (by kernel_rfl) rfl rfl ?_
  refine ZcH (by omega) fun q1 h1 z1=> ?_
  try simp only [cn_q] at h1
  refine ZcH (by omega) fun q2 h2 z2=> ?_
  try simp only [cn_q] at h2
  refine⟨by kernel_rfl,?_⟩
  refine⟨fun e=>by simp at e,fun _=> ?_⟩
  refine⟨fun _=> ?_,fun e=>by simp at e⟩
  refine ZtO (by omega) fun b3 q3 e3 h3 z3=> ?_
  try simp only [cn_q] at e3 h3
  refine Eq.trans (b:=turn _ (cn _)) ?_ rfl
  subst_vars;rfl
 ·refine Za Tryz.func266 rfl rfl Tryz.ntmps266 rfl (by kernel_rfl) rfl rfl ?_
  refine ZcH (by omega) fun q1 h1 z1=> ?_
  try simp only [cn_q] at h1
  refine ZcH (by omega) fun q2 h2 z2=> ?_
  try simp only [cn_q] at h2
  refine⟨by kernel_rfl,?_⟩
  refine⟨fun _=> ?_,fun e=>by simp at e⟩
  refine k_of (0) (by omega) (by omega) fun q3 h3 z3=> ?_
  refine Zip (by omega) fun q4 h4 z4=> ?_
  try simp only [cn_q] at h4
  refine Eq.trans (b:=turn _ (cn _)) ?_ rfl
  subst_vars;rfl
theorem Zxw (n:Int) (h1:-9223372036854775808≤n) (h2:n≤9223372036854775807):Spec Tryz.prog Tab 99 [int n] (rat (cn (n:Rat))):=by
 refine Za Tryz.func99 rfl rfl Tryz.ntmps99 rfl (by kernel_rfl) rfl rfl ?_
 refine k_of _ (by omega) (by omega) fun q1 h1 z1=> ?_
 refine Eq.trans (b:=rat (cn _)) ?_ rfl
 subst_vars;rfl
theorem k_I (n:Int) (h1:-9223372036854775808≤n) (h2:n≤9223372036854775807) (k:∀ q,q=(n:Rat)→(cn q).z≤8→K (rat (cn q))):Ask 99 [int n] K:=
 use (Zxw n h1 h2) rfl (k _ rfl (by have:=Zaq h1 h2;rw [cn_z];omega))
theorem ZiS (x y:RV) (hx:x.z≤17179869184) (hy:y.z≤17179869184):Spec Tryz.prog Tab 40 [rat x,rat y] (turn (tofH x.q) (cn (tofQ x.q y.q))):=by
 refine Za Tryz.func40 rfl rfl Tryz.ntmps40 rfl (by kernel_rfl) rfl rfl ?_
 refine k_I (1) (by omega) (by omega) fun q1 h1 z1=> ?_
 refine ZcC (by omega) (by omega) fun q2 h2 z2=> ?_
 try simp only [cn_q] at h2
 refine Zfp (by omega) (by omega) (fun gn q3 h3 z3=> ?_) (fun gz=> ?_)
 ·try simp only [cn_q] at gn h3
  refine⟨by kernel_rfl,?_⟩
  refine⟨fun e=>by simp at e,fun _=> ?_⟩
  refine Eq.trans (b:=turn _ (cn _)) ?_ rfl
  unfold tofH tofQ
  first
   |(rw [decide_eq_true (by subst_vars;exact Decidable.not_not.1 gz),if_pos (by subst_vars;exact Decidable.not_not.1 gz)];subst_vars;rfl)
   |(rw [decide_eq_false (by subst_vars;exact gn),if_neg (by subst_vars;exact gn)];subst_vars;rfl)
 ·try simp only [cn_q] at gz
  refine⟨by kernel_rfl,?_⟩
  refine⟨fun _=> ?_,fun e=>by simp at e⟩
  refine k_I (0) (by omega) (by omega) fun q4 h4 z4=> ?_
  refine Eq.trans (b:=turn _ (cn _)) ?_ rfl
  unfold tofH tofQ
  first
   |(rw [decide_eq_true (by subst_vars;exact Decidable.not_not.1 gz),if_pos (by subst_vars;exact Decidable.not_not.1 gz)];subst_vars;rfl)
   |(rw [decide_eq_false (by subst_vars;exact gn),if_neg (by subst_vars;exact gn)];subst_vars;rfl)
theorem Zus (p q:Rat):qs (tofQ p q)≤qs p+qs q+30:=by
 unfold tofQ
 have:=qs_0
 split
 ·omega
 ·have h1:=ZC ((1:Int):Rat) p
  have h2:=ZaQ q (((1:Int):Rat)+p)
  have:=ZkO
  omega
theorem Zpm (hx:x.z≤17179869184) (hy:y.z≤17179869184) (k:∀ b q,b=tofH x.q→q=tofQ x.q y.q→(cn q).z≤x.z+y.z+32→K (turn b (cn q))):Ask 40 [rat x,rat y] K:=
 use (ZiS x y hx hy) rfl (k _ _ rfl rfl (by have:=Zus x.q y.q;have:=x.z1;have:=y.z1;rw [cn_z];omega))
theorem Zut (h g:Bool) (p q:Rat):qs (thnQ h g p q)≤2*qs p+2*qs q+30:=by
 unfold thnQ
 have:=qs_0
 have:=Zji p
 have:=Zji q
 have h1:=Zt p q
 have h2:=ZZ ((1:Int):Rat) (p*q)
 have h3:=ZC p q
 have h4:=ZaQ (p+q) (((1:Int):Rat) - p*q)
 have:=ZkO
 split
 ·split<;>omega
 ·split
  ·omega
  ·split<;>omega
theorem ZuQ (hx:x.z≤17179869184) (hy:y.z≤17179869184) (k:∀ b q,b=thnH h g x.q y.q→q=thnQ h g x.q y.q→(cn q).z≤2*x.z+2*y.z+34→K (turn b (cn q))):Ask 266 [turn h x,turn g y] K:=
 use (ZlO h g x y hx hy) rfl (k _ _ rfl rfl (by have:=Zut h g x.q y.q;have:=x.z1;have:=y.z1;rw [cn_z];omega))
theorem ZmU (h:Bool) (x:RV):Spec Tryz.prog Tab 39 [turn h x,turn h x] (bool true):=by
 refine Za Tryz.func39 rfl rfl Tryz.ntmps39 rfl (by kernel_rfl) rfl rfl ?_
 refine Zei rfl ?_
 refine Za8 rfl ?_
 refine Eq.trans (b:=bool _) ?_ rfl
 rfl
theorem Zu7 (K1:K (bool true)):Ask 39 [turn h x,turn h x] K:=use (ZmU h x) rfl K1
theorem Zl4 (n m:Int) (h1:-9223372036854775808≤n) (h2:n≤9223372036854775807) (h3:-9223372036854775808≤m) (h4:m≤9223372036854775807):Spec Tryz.prog Tab 151 [int n,int m] (two (rat (quotR (n:Rat) (m:Rat))) (int (quotE (m:Rat)))):=by
 refine Zk (Zm Tryz.func151 rfl rfl) rfl rfl fun w hT=> ?_
 refine(ZhY n m w h1 h2 h3 h4 hT).mono fun e w' ⟨u,c,f,k,he,hi,hb⟩=> ?_
 refine⟨he.trans ?_,hb⟩
 rcases hi with ⟨h5,rfl,rfl,rfl,rfl⟩|⟨h5,rfl,hi⟩
 ·simp only [quotR,quotE,if_pos h5,z0]
 ·obtain⟨rfl,rfl,rfl⟩:=ZfT hi
  simp only [quotR,quotE,if_neg h5]
theorem ZwE (n m:Int) (h1:-9223372036854775808≤n) (h2:n≤9223372036854775807) (h3:-9223372036854775808≤m) (h4:m≤9223372036854775807) (h0:(m:Rat)≠0) (k:∀ q,q=(n:Rat) / (m:Rat)→(cn q).z≤17→K (two (rat (cn q)) (int 0))):Ask 151 [int n,int m] K:=
 use (by have:=Zl4 n m h1 h2 h3 h4;simp only [quotR,quotE,if_neg h0] at this;exact this) rfl (k _ rfl (by have:=ZaQ (n:Rat) (m:Rat);have:=Zaq h1 h2;have:=Zaq h3 h4;rw [cn_z];omega))
theorem ZgU:Spec Tryz.prog Tab 125 [] (bool true):=
 Zk (Zm Tryz.func125 rfl rfl) rfl rfl fun w hT=>ZhW w hT
theorem Zmo (K1:K (bool true)):Ask 125 [] K:=use ZgU rfl K1
theorem ZrN (n m:Int) (h1:-9223372036854775808≤n) (h2:n≤9223372036854775807) (h3:-9223372036854775808≤m) (h4:m≤9223372036854775807) (hm:(m:Rat)≠0):Spec Tryz.prog Tab 124 [int n,int m] (rat (cn ((n:Rat) / (m:Rat)))):=by
 refine Za Tryz.func124 rfl rfl Tryz.ntmps124 rfl (by kernel_rfl) rfl rfl ?_
 refine ZwE _ _ (by omega) (by omega) (by omega) (by omega) hm fun q1 h1 z1=> ?_
 refine Eq.trans (b:=rat (cn _)) ?_ rfl
 subst_vars;rfl
theorem ZuT (n m:Int) (h1:-9223372036854775808≤n) (h2:n≤9223372036854775807) (h3:-9223372036854775808≤m) (h4:m≤9223372036854775807) (h0:(m:Rat)≠0) (k:∀ q,q=(n:Rat) / (m:Rat)→(cn q).z≤17→K (rat (cn q))):Ask 124 [int n,int m] K:=
 use (ZrN n m h1 h2 h3 h4 h0) rfl (k _ rfl (by have:=ZaQ (n:Rat) (m:Rat);have:=Zaq h1 h2;have:=Zaq h3 h4;rw [cn_z];omega))
theorem ZfM  :Spec Tryz.prog Tab 32 [] (bool true):=by
 refine Za Tryz.func32 rfl rfl Tryz.ntmps32 rfl (by kernel_rfl) rfl rfl ?_
 refine ZuT (1) (2) (by omega) (by omega) (by omega) (by omega) (by decide+kernel) fun q1 h1 z1=> ?_
 refine Zip (by omega) fun q2 h2 z2=> ?_
 try simp only [cn_q] at h2
 refine Zmo ?_
 refine ZtP (by omega) fun q3 h3 z3=> ?_
 try simp only [cn_q] at h3
 refine ZuT (3) (5) (by omega) (by omega) (by omega) (by omega) (by decide+kernel) fun q4 h4 z4=> ?_
 refine Za8 (by subst_vars;exact congrArg cn (by decide+kernel)) ?_
 refine ZtN (by omega) fun q6 h6 z6=> ?_
 try simp only [cn_q] at h6
 refine ZuT (4) (5) (by omega) (by omega) (by omega) (by omega) (by decide+kernel) fun q7 h7 z7=> ?_
 refine Za8 (by subst_vars;exact congrArg cn (by decide+kernel)) ?_
 refine Eq.trans (b:=bool _) ?_ rfl
 rfl
theorem ZjI (K1:K (bool true)):Ask 32 [] K:=use ZfM rfl K1
theorem Zmq (H:h=g) (X:x=y) (K1:K (bool true)):Ask 39 [turn h x,turn g y] K:=by subst H X;exact Zu7 K1
end
end Go.Proofs.YtpfemjpgbpnpkaaGreatDoor.eng
