/- Joined by wip/bundle.py: XTrq XEngTurn. -/
import Derived.Test.YtpfemjpgbpnpkaaGreatDoorQ
import Derived.Test.YtpfemjpgbpnpkaaGreatDoorEngU
set_option maxRecDepth 100000
namespace Go.Proofs.YtpfemjpgbpnpkaaGreatDoor.trq
open q
def tq (h:Bool) (p:Rat):Rat:=if h then ((0:Int):Rat) else p
def cosq (h:Bool) (p:Rat):Rat:=if h then ((-1:Int):Rat) else (((1:Int):Rat) - p*p) / (((1:Int):Rat)+p*p)
def sinq (p:Rat):Rat:=(p+p) / (((1:Int):Rat)+p*p)
theorem Ze8 (p:Rat):((1:Int):Rat)+p*p≠0:=by
 have h0:0≤p*p:=by
  rcases Rat.le_total (a:=0) (b:=p) with h|h
  ·exact Rat.mul_nonneg h h
  ·have h':0≤-p:=by have:=Rat.neg_le_neg h;simpa using this
   have:=Rat.mul_nonneg h' h'
   rwa [Rat.neg_mul,Rat.mul_neg,Rat.neg_neg] at this
 intro h
 have h1:(1:Rat)+0≤1+p*p:=Rat.add_le_add_left.2 h0
 rw [Rat.intCast_one] at h
 rw [h] at h1
 exact absurd h1 (by decide+kernel)
def oppH (q:Rat):Bool:=decide (q=0)
def oppQ (q:Rat):Rat:=if q=0 then ((0:Int):Rat) else ((-1:Int):Rat) / q
def tofH (c:Rat):Bool:=decide (((1:Int):Rat)+c=0)
def tofQ (c s:Rat):Rat:=if ((1:Int):Rat)+c=0 then ((0:Int):Rat) else s / (((1:Int):Rat)+c)
def thnH (h g:Bool) (p q:Rat):Bool:=if h then (if g then false else oppH q) else if g then oppH p else decide (((1:Int):Rat) - p*q=0)
def thnQ (h g:Bool) (p q:Rat):Rat:=if h then (if g then ((0:Int):Rat) else oppQ q) else if g then oppQ p else if ((1:Int):Rat) - p*q=0 then ((0:Int):Rat) else (p+q) / (((1:Int):Rat) - p*q)
theorem Zce (p:Rat):cosq false p*(1+p*p)=1 - p*p∧sinq p*(1+p*p)=2*p∧1+p*p≠0:=by
 have h:=Ze8 p
 simp only [Rat.intCast_one] at h
 refine⟨?_,?_,h⟩
 ·unfold cosq;simp only [Bool.false_eq_true,if_false,Rat.intCast_one];grind
 ·unfold sinq;simp only [Rat.intCast_one];grind
theorem ZbV:sinq ((0:Int):Rat)=0:=by decide+kernel
theorem ZcS (p:Rat):cosq true p=-1:=by unfold cosq;simp only [if_true];decide+kernel
theorem ZcW (p:Rat):tq true p=((0:Int):Rat):=rfl
theorem ZaC (p:Rat):tq false p=p:=rfl
theorem ZeM {c s r:Rat} (h:1+c≠0) (e:r*(1+c)=s):tofH c=false∧tofQ c s=r:=by
 unfold tofH tofQ
 simp only [Rat.intCast_one]
 rw [if_neg h]
 exact⟨decide_eq_false h,by grind⟩
theorem ZcJ {c s:Rat} (h:1+c=0):tofH c=true∧tofQ c s=((0:Int):Rat):=by
 unfold tofH tofQ
 simp only [Rat.intCast_one]
 rw [if_pos h]
 exact⟨decide_eq_true h,rfl⟩
theorem ZiT {c s q:Rat} (h1:c*(1+q*q)=- (1 - q*q)) (h2:s*(1+q*q)=- (2*q)) (h3:1+q*q≠0):tofH c=oppH q∧tofQ c s=oppQ q:=by
 by_cases hq:q=0
 ·have:1+c=0:=by grind
  have e:=ZcJ (s:=s) this
  unfold oppH oppQ
  rw [if_pos hq]
  exact⟨e.1.trans (decide_eq_true hq).symm,e.2⟩
 ·have h:1+c≠0:=by grind
  have e:=ZeM (s:=s) (r:=(-1) / q) h (by grind)
  unfold oppH oppQ
  rw [if_neg hq]
  refine⟨e.1.trans (decide_eq_false hq).symm,e.2.trans ?_⟩
  congr 1
theorem ZkJ (h g:Bool) (p q:Rat):
  tofH (cosq h p*cosq g q - sinq (tq h p)*sinq (tq g q))=thnH h g p q∧
  tofQ (cosq h p*cosq g q - sinq (tq h p)*sinq (tq g q)) (sinq (tq h p)*cosq g q+cosq h p*sinq (tq g q))=thnQ h g p q:=by
 obtain⟨a1,a2,a3⟩:=Zce p
 obtain⟨b1,b2,b3⟩:=Zce q
 cases h<;>cases g<;>simp only [ZcW,ZaC,ZcS,ZbV]
 ·show _=decide _∧_=(if _ then _ else _)
  simp only [Rat.intCast_one]
  by_cases hz:1 - p*q=0
  ·rw [if_pos hz]
   have e:=ZcJ (c:=cosq false p*cosq false q - sinq p*sinq q) (s:=sinq p*cosq false q+cosq false p*sinq q) (by grind)
   exact⟨e.1.trans (decide_eq_true hz).symm,e.2⟩
  ·rw [if_neg hz]
   have e:=ZeM (c:=cosq false p*cosq false q - sinq p*sinq q) (s:=sinq p*cosq false q+cosq false p*sinq q) (r:=(p+q) / (1 - p*q)) (by grind) (by grind)
   exact⟨e.1.trans (decide_eq_false hz).symm,e.2⟩
 ·exact ZiT (by grind) (by grind) a3
 ·exact ZiT (by grind) (by grind) b3
 ·exact ZeM (r:=((0:Int):Rat)) (by grind) (by rw [Rat.intCast_zero];grind)
theorem Zk9 (h:Bool) (p:Rat):thnH h false p 0=h∧thnQ h false p 0=tq h p:=by
 cases h
 ·unfold thnH thnQ tq
  simp only [Bool.false_eq_true,if_false,Rat.intCast_one,Rat.mul_zero]
  exact⟨by decide+kernel,by rw [if_neg (by decide+kernel)];grind⟩
 ·unfold thnH thnQ tq oppH oppQ
  simp
end Go.Proofs.YtpfemjpgbpnpkaaGreatDoor.trq
namespace Go.Proofs.YtpfemjpgbpnpkaaGreatDoor.eng
open Go.RowKit num mem seg q held ratA ratB ratC ratD ratE vars ratF trq
section
variable {x y : RV} {h g : Bool} {K : AV → Prop}
theorem Zlb (x:RV) (hx:x.z≤4398046511104):Spec Tryz.prog Tab 123 [rat x] (turn false (cn x.q)):=by
 refine Za Tryz.func123 rfl rfl Tryz.ntmps123 rfl (by kernel_rfl) rfl rfl ?_
 refine Zos (by omega) fun q1 h1 z1=> ?_
 try simp only [cn_q] at h1
 refine Eq.trans (b:=turn false (cn _)) ?_ rfl
 rw [h1]
theorem Zib (hx:x.z≤4398046511104) (k:∀ q,q=x.q→(cn q).z≤x.z+1→K (turn false (cn q))):Ask 123 [rat x] K:=
 use (Zlb x hx) rfl (k _ rfl (by have:=x.z1;rw [cn_z];omega))
theorem ZhK  :Spec Tryz.prog Tab 131 [] (turn true (cn ((0:Int):Rat))):=by
 refine Za Tryz.func131 rfl rfl Tryz.ntmps131 rfl (by kernel_rfl) rfl rfl ?_
 refine k_of (0) (by omega) (by omega) fun q1 h1 z1=> ?_
 refine Eq.trans (b:=turn true (cn _)) ?_ rfl
 rw [h1]
theorem Zgl (k:∀ q,q=((0:Int):Rat)→(cn q).z≤8→K (turn true (cn q))):Ask 131 [] K:=
 use ZhK rfl (k _ rfl (by have:=Zbb (n:=0) (by decide) (by decide);rw [cn_z];omega))
theorem Zi0 (h:Bool) (x:RV) (hx:x.z≤4398046511104):Spec Tryz.prog Tab 213 [turn h x] (turn h (cn (tq h x.q))):=by
 refine Za Tryz.func213 rfl rfl Tryz.ntmps213 rfl (by kernel_rfl) rfl rfl ?_
 refine⟨fun e1=> ?_,fun e1=> ?_⟩
 ·subst e1
  refine Zgl fun q2 h2 z2=> ?_
  refine Eq.trans (b:=turn _ (cn _)) ?_ rfl
  subst_vars;rfl
 ·subst e1
  refine Zib (by omega) fun q3 h3 z3=> ?_
  try simp only [cn_q] at h3
  refine Eq.trans (b:=turn _ (cn _)) ?_ rfl
  subst_vars;rfl
theorem tq_z (h:Bool) (x:RV):(cn (tq h x.q)).z≤x.z+8:=by
 rw [cn_z];unfold tq;split
 ·have:=Zbb (n:=0) (by decide) (by decide);omega
 ·have:=x.z1;omega
theorem Zbx (hx:x.z≤4398046511104) (k:∀ q,q=tq h x.q→(cn q).z≤x.z+8→K (turn h (cn q))):Ask 213 [turn h x] K:=
 use (Zi0 h x hx) rfl (k _ rfl (tq_z h x))
theorem Zi1 (h:Bool) (x:RV) (hx:x.z≤68719476736):Spec Tryz.prog Tab 126 [turn h x] (rat (cn (cosq h x.q))):=by
 refine Za Tryz.func126 rfl rfl Tryz.ntmps126 rfl (by kernel_rfl) rfl rfl ?_
 refine Zbx (by omega) fun q1 h1 z1=> ?_
 try simp only [cn_q] at h1
 refine⟨fun e2=> ?_,fun e2=> ?_⟩
 ·subst e2
  refine k_of (-1) (by omega) (by omega) fun q3 h3 z3=> ?_
  refine Eq.trans (b:=rat (cn _)) ?_ rfl
  subst_vars;rfl
 ·subst e2
  refine Zew (by omega) (by omega) fun q4 h4 z4=> ?_
  try simp only [cn_q] at h4
  refine k_of (1) (by omega) (by omega) fun q5 h5 z5=> ?_
  refine Zic (by omega) (by omega) fun q6 h6 z6=> ?_
  try simp only [cn_q] at h6
  refine k_of (1) (by omega) (by omega) fun q7 h7 z7=> ?_
  refine Zgq (by omega) (by omega) fun q8 h8 z8=> ?_
  try simp only [cn_q] at h8
  refine ZnF (by omega) (by omega) (by subst_vars;simp only [cn_q];exact Ze8 _) fun q9 h9 z9=> ?_
  try simp only [cn_q] at h9
  refine⟨by kernel_rfl,?_⟩
  refine Eq.trans (b:=rat (cn _)) ?_ rfl
  subst_vars;rfl
theorem ZiY (h:Bool) (x:RV) (hx:x.z≤68719476736):Spec Tryz.prog Tab 127 [turn h x] (rat (cn (sinq (tq h x.q)))):=by
 refine Za Tryz.func127 rfl rfl Tryz.ntmps127 rfl (by kernel_rfl) rfl rfl ?_
 refine Zbx (by omega) fun q1 h1 z1=> ?_
 try simp only [cn_q] at h1
 refine Zgq (by omega) (by omega) fun q2 h2 z2=> ?_
 try simp only [cn_q] at h2
 refine k_of (1) (by omega) (by omega) fun q3 h3 z3=> ?_
 refine Zew (by omega) (by omega) fun q4 h4 z4=> ?_
 try simp only [cn_q] at h4
 refine Zgq (by omega) (by omega) fun q5 h5 z5=> ?_
 try simp only [cn_q] at h5
 refine ZnF (by omega) (by omega) (by subst_vars;simp only [cn_q];exact Ze8 _) fun q6 h6 z6=> ?_
 try simp only [cn_q] at h6
 refine⟨by kernel_rfl,?_⟩
 refine Eq.trans (b:=rat (cn _)) ?_ rfl
 subst_vars;rfl
theorem Zjw:qs ((1:Int):Rat)≤8:=Zbb (by decide) (by decide)
theorem Zoa:qs ((-1:Int):Rat)≤8:=Zbb (by decide) (by decide)
theorem qs_0:qs ((0:Int):Rat)≤8:=Zbb (by decide) (by decide)
theorem ZjA (h:Bool) (p:Rat):qs (cosq h p)≤4*qs p+30:=by
 unfold cosq
 split
 ·have:=Zoa;omega
 ·have h1:=Zx p p
  have h2:=Zar ((1:Int):Rat) (p*p)
  have h3:=ZM ((1:Int):Rat) (p*p)
  have h4:=Zb0 (((1:Int):Rat) - p*p) (((1:Int):Rat)+p*p)
  have:=Zjw
  omega
theorem Zjv (p:Rat):qs (sinq p)≤4*qs p+30:=by
 unfold sinq
 have h1:=Zx p p
 have h2:=ZM p p
 have h3:=ZM ((1:Int):Rat) (p*p)
 have h4:=Zb0 (p+p) (((1:Int):Rat)+p*p)
 have:=Zjw
 omega
theorem Zor (hx:x.z≤68719476736) (k:∀ q,q=cosq h x.q→(cn q).z≤4*x.z+34→K (rat (cn q))):Ask 126 [turn h x] K:=
 use (Zi1 h x hx) rfl (k _ rfl (by have:=ZjA h x.q;have:=x.z1;rw [cn_z];omega))
theorem Zoq (hx:x.z≤68719476736) (k:∀ q,q=sinq (tq h x.q)→(cn q).z≤4*x.z+70→K (rat (cn q))):Ask 127 [turn h x] K:=
 use (ZiY h x hx) rfl (k _ rfl (by have h1:=Zjv (tq h x.q);have h2:=tq_z h x;rw [cn_z] at h2 ⊢;omega))
theorem ZiZ (h:Bool) (x:RV) (hx:x.z≤68719476736):Spec Tryz.prog Tab 307 [turn h x] (turn (oppH x.q) (cn (oppQ x.q))):=by
 refine Za Tryz.func307 rfl rfl Tryz.ntmps307 rfl (by kernel_rfl) rfl rfl ?_
 refine k_of (-1) (by omega) (by omega) fun q1 h1 z1=> ?_
 refine Zj7 (by omega) (by omega) (fun gn q2 h2 z2=> ?_) (fun gz=> ?_)
 ·try simp only [cn_q] at gn h2
  refine⟨by kernel_rfl,?_⟩
  refine⟨fun e=>by simp at e,fun _=> ?_⟩
  refine Zib (by omega) fun q3 h3 z3=> ?_
  try simp only [cn_q] at h3
  refine Eq.trans (b:=turn _ (cn _)) ?_ rfl
  unfold oppH oppQ
  first
   |(rw [decide_eq_true (Decidable.not_not.1 gz),if_pos (Decidable.not_not.1 gz)];subst_vars;rfl)
   |(rw [decide_eq_false gn,if_neg gn];subst_vars;rfl)
 ·try simp only [cn_q] at gz
  refine⟨by kernel_rfl,?_⟩
  refine⟨fun _=> ?_,fun e=>by simp at e⟩
  refine Zgl fun q4 h4 z4=> ?_
  refine Eq.trans (b:=turn _ (cn _)) ?_ rfl
  unfold oppH oppQ
  first
   |(rw [decide_eq_true (Decidable.not_not.1 gz),if_pos (Decidable.not_not.1 gz)];subst_vars;rfl)
   |(rw [decide_eq_false gn,if_neg gn];subst_vars;rfl)
theorem Zf1 (p:Rat):qs (oppQ p)≤qs p+9:=by
 unfold oppQ
 split
 ·have:=qs_0;omega
 ·have:=Zb0 ((-1:Int):Rat) p;have:=Zoa;omega
theorem ZmV (hx:x.z≤68719476736) (k:∀ b q,b=oppH x.q→q=oppQ x.q→(cn q).z≤x.z+10→K (turn b (cn q))):Ask 307 [turn h x] K:=
 use (ZiZ h x hx) rfl (k _ _ rfl rfl (by have:=Zf1 x.q;have:=x.z1;rw [cn_z];omega))
theorem ZhJ (h g:Bool) (x y:RV) (hx:x.z≤17179869184) (hy:y.z≤17179869184):Spec Tryz.prog Tab 266 [turn h x,turn g y] (turn (thnH h g x.q y.q) (cn (thnQ h g x.q y.q))):=by
 cases h<;>cases g
 ·refine Za Tryz.func266 rfl rfl Tryz.ntmps266 rfl (by kernel_rfl) rfl rfl ?_
  refine Zbx (by omega) fun q1 h1 z1=> ?_
  try simp only [cn_q] at h1
  refine Zbx (by omega) fun q2 h2 z2=> ?_
  try simp only [cn_q] at h2
  refine⟨by kernel_rfl,?_⟩
  refine⟨fun e=>by simp at e,fun _=> ?_⟩
  refine⟨fun e=>by simp at e,fun _=> ?_⟩
  refine⟨fun e=>by simp at e,fun _=> ?_⟩
  refine Zgq (by omega) (by omega) fun q3 h3 z3=> ?_
  try simp only [cn_q] at h3
  refine k_of (1) (by omega) (by omega) fun q4 h4 z4=> ?_
  refine Zew (by omega) (by omega) fun q5 h5 z5=> ?_
  try simp only [cn_q] at h5
  refine Zic (by omega) (by omega) fun q6 h6 z6=> ?_
  try simp only [cn_q] at h6
  refine Zj7 (by omega) (by omega) (fun gn q7 h7 z7=> ?_) (fun gz=> ?_)
  ·try simp only [cn_q] at gn h7
   refine⟨by kernel_rfl,?_⟩
   refine⟨fun e=>by simp at e,fun _=> ?_⟩
   refine Zib (by omega) fun q8 h8 z8=> ?_
   try simp only [cn_q] at h8
   refine Eq.trans (b:=turn _ (cn _)) ?_ rfl
   unfold thnH thnQ
   simp only [Bool.false_eq_true,if_false]
   first
    |(rw [decide_eq_true (by subst_vars;exact Decidable.not_not.1 gz),if_pos (by subst_vars;exact Decidable.not_not.1 gz)];subst_vars;rfl)
    |(rw [decide_eq_false (by subst_vars;exact gn),if_neg (by subst_vars;exact gn)];subst_vars;rfl)
  ·try simp only [cn_q] at gz
   refine⟨by kernel_rfl,?_⟩
   refine⟨fun _=> ?_,fun e=>by simp at e⟩
   refine Zgl fun q9 h9 z9=> ?_
   refine Eq.trans (b:=turn _ (cn _)) ?_ rfl
   unfold thnH thnQ
   simp only [Bool.false_eq_true,if_false]
   first
    |(rw [decide_eq_true (by subst_vars;exact Decidable.not_not.1 gz),if_pos (by subst_vars;exact Decidable.not_not.1 gz)];subst_vars;rfl)
    |(rw [decide_eq_false (by subst_vars;exact gn),if_neg (by subst_vars;exact gn)];subst_vars;rfl)
 ·refine Za Tryz.func266 rfl rfl Tryz.ntmps266 rfl (by kernel_rfl) rfl rfl ?_
  refine Zbx (by omega) fun q1 h1 z1=> ?_
  try simp only [cn_q] at h1
  refine Zbx (by omega) fun q2 h2 z2=> ?_
  try simp only [cn_q] at h2
  refine⟨by kernel_rfl,?_⟩
  refine⟨fun e=>by simp at e,fun _=> ?_⟩
  refine⟨fun e=>by simp at e,fun _=> ?_⟩
  refine⟨fun _=> ?_,fun e=>by simp at e⟩
  refine ZmV (by omega) fun b3 q3 e3 h3 z3=> ?_
  try simp only [cn_q] at e3 h3
  refine Eq.trans (b:=turn _ (cn _)) ?_ rfl
  subst_vars;rfl
 ·refine Za Tryz.func266 rfl rfl Tryz.ntmps266 rfl (by kernel_rfl) rfl rfl ?_
  refine Zbx (by omega) fun q1 h1 z1=> ?_
  try simp only [cn_q] at h1
  refine Zbx (by omega) fun q2 h2 z2=> ?_
  try simp only [cn_q] at h2
  refine⟨by kernel_rfl,?_⟩
  refine⟨fun e=>by simp at e,fun _=> ?_⟩
  refine⟨fun _=> ?_,fun e=>by simp at e⟩
  refine ZmV (by omega) fun b3 q3 e3 h3 z3=> ?_
  try simp only [cn_q] at e3 h3
  refine Eq.trans (b:=turn _ (cn _)) ?_ rfl
  subst_vars;rfl
 ·refine Za Tryz.func266 rfl rfl Tryz.ntmps266 rfl (by kernel_rfl) rfl rfl ?_
  refine Zbx (by omega) fun q1 h1 z1=> ?_
  try simp only [cn_q] at h1
  refine Zbx (by omega) fun q2 h2 z2=> ?_
  try simp only [cn_q] at h2
  refine⟨by kernel_rfl,?_⟩
  refine⟨fun _=> ?_,fun e=>by simp at e⟩
  refine k_of (0) (by omega) (by omega) fun q3 h3 z3=> ?_
  refine Zib (by omega) fun q4 h4 z4=> ?_
  try simp only [cn_q] at h4
  refine Eq.trans (b:=turn _ (cn _)) ?_ rfl
  subst_vars;rfl
theorem Znn (h g:Bool) (p q:Rat):qs (thnQ h g p q)≤2*qs p+2*qs q+30:=by
 unfold thnQ
 have:=qs_0
 have:=Zf1 p
 have:=Zf1 q
 have h1:=Zx p q
 have h2:=Zar ((1:Int):Rat) (p*q)
 have h3:=ZM p q
 have h4:=Zb0 (p+q) (((1:Int):Rat) - p*q)
 have:=Zjw
 split
 ·split<;>omega
 ·split
  ·omega
  ·split<;>omega
theorem ZnB (hx:x.z≤17179869184) (hy:y.z≤17179869184) (k:∀ b q,b=thnH h g x.q y.q→q=thnQ h g x.q y.q→(cn q).z≤2*x.z+2*y.z+34→K (turn b (cn q))):Ask 266 [turn h x,turn g y] K:=
 use (ZhJ h g x y hx hy) rfl (k _ _ rfl rfl (by have:=Znn h g x.q y.q;have:=x.z1;have:=y.z1;rw [cn_z];omega))
end
end Go.Proofs.YtpfemjpgbpnpkaaGreatDoor.eng
