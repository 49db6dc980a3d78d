/- Joined by wip/bundle.py: XTrq XEngTurn. -/
import Derived.Test.YtpejadencgfnnaaGreatDoorQ
import Derived.Test.YtpejadencgfnnaaGreatDoorEngU
namespace Go.Proofs.YtpejadencgfnnaaGreatDoor.trq
open q
def tq (h:Bool) (p:Rat):Rat:=if h then ((0:Int):Rat) else p
def cosq (h:Bool) (p:Rat):Rat:=if h then ((-1:Int):Rat) else (((1:Int):Rat) - p*p) / (((1:Int):Rat)+p*p)
def sinq (p:Rat):Rat:=(p+p) / (((1:Int):Rat)+p*p)
def circ (h:Bool) (p:Rat):Rat:=if h then ((-1:Int):Rat) else ((2:Int):Rat) / (((1:Int):Rat)+(p+((0:Int):Rat))*(p+((0:Int):Rat))) - ((1:Int):Rat)
theorem ZeN (p:Rat):((1:Int):Rat)+p*p≠0:=by
 have h0:0≤p*p:=by
  rcases Rat.le_total (a:=0) (b:=p) with h|h
  ·exact Rat.mul_nonneg h h
  ·have h':0≤-p:=by have:=Rat.neg_le_neg h;simpa using this
   have:=Rat.mul_nonneg h' h'
   rwa [Rat.neg_mul,Rat.mul_neg,Rat.neg_neg] at this
 intro h
 have h1:(1:Rat)+0≤1+p*p:=Rat.add_le_add_left.2 h0
 rw [Rat.intCast_one] at h
 rw [h] at h1
 exact absurd h1 (by decide+kernel)
def oppH (q:Rat):Bool:=decide (q=0)
def oppQ (q:Rat):Rat:=if q=0 then ((0:Int):Rat) else ((-1:Int):Rat) / q
def tofH (c:Rat):Bool:=decide (((1:Int):Rat)+c=0)
def tofQ (c s:Rat):Rat:=if ((1:Int):Rat)+c=0 then ((0:Int):Rat) else s / (((1:Int):Rat)+c)
def thnH (h g:Bool) (p q:Rat):Bool:=if h then (if g then false else oppH q) else if g then oppH p else decide (((1:Int):Rat) - p*q=0)
def thnQ (h g:Bool) (p q:Rat):Rat:=if h then (if g then ((0:Int):Rat) else oppQ q) else if g then oppQ p else if ((1:Int):Rat) - p*q=0 then ((0:Int):Rat) else (p+q) / (((1:Int):Rat) - p*q)
theorem Za3 (p:Rat):cosq false p*(1+p*p)=1 - p*p∧sinq p*(1+p*p)=2*p∧1+p*p≠0:=by
 have h:=ZeN p
 simp only [Rat.intCast_one] at h
 refine⟨?_,?_,h⟩
 ·unfold cosq;simp only [Bool.false_eq_true,if_false,Rat.intCast_one];grind
 ·unfold sinq;simp only [Rat.intCast_one];grind
theorem Zco:sinq ((0:Int):Rat)=0:=by decide+kernel
theorem ZdE (p:Rat):cosq true p=-1:=by unfold cosq;simp only [if_true];decide+kernel
theorem ZdH (p:Rat):tq true p=((0:Int):Rat):=rfl
theorem ZaI (p:Rat):tq false p=p:=rfl
theorem Zgd {c s r:Rat} (h:1+c≠0) (e:r*(1+c)=s):tofH c=false∧tofQ c s=r:=by
 unfold tofH tofQ
 simp only [Rat.intCast_one]
 rw [if_neg h]
 exact⟨decide_eq_false h,by grind⟩
theorem Zds {c s:Rat} (h:1+c=0):tofH c=true∧tofQ c s=((0:Int):Rat):=by
 unfold tofH tofQ
 simp only [Rat.intCast_one]
 rw [if_pos h]
 exact⟨decide_eq_true h,rfl⟩
theorem ZlR {c s q:Rat} (h1:c*(1+q*q)=- (1 - q*q)) (h2:s*(1+q*q)=- (2*q)) (h3:1+q*q≠0):tofH c=oppH q∧tofQ c s=oppQ q:=by
 by_cases hq:q=0
 ·have:1+c=0:=by grind
  have e:=Zds (s:=s) this
  unfold oppH oppQ
  rw [if_pos hq]
  exact⟨e.1.trans (decide_eq_true hq).symm,e.2⟩
 ·have h:1+c≠0:=by grind
  have e:=Zgd (s:=s) (r:=(-1) / q) h (by grind)
  unfold oppH oppQ
  rw [if_neg hq]
  refine⟨e.1.trans (decide_eq_false hq).symm,e.2.trans ?_⟩
  congr 1
theorem Zor (h g:Bool) (p q:Rat):
  tofH (cosq h p*cosq g q - sinq (tq h p)*sinq (tq g q))=thnH h g p q∧
  tofQ (cosq h p*cosq g q - sinq (tq h p)*sinq (tq g q)) (sinq (tq h p)*cosq g q+cosq h p*sinq (tq g q))=thnQ h g p q:=by
 obtain⟨a1,a2,a3⟩:=Za3 p
 obtain⟨b1,b2,b3⟩:=Za3 q
 cases h<;>cases g<;>simp only [ZdH,ZaI,ZdE,Zco]
 ·show _=decide _∧_=(if _ then _ else _)
  simp only [Rat.intCast_one]
  by_cases hz:1 - p*q=0
  ·rw [if_pos hz]
   have e:=Zds (c:=cosq false p*cosq false q - sinq p*sinq q) (s:=sinq p*cosq false q+cosq false p*sinq q) (by grind)
   exact⟨e.1.trans (decide_eq_true hz).symm,e.2⟩
  ·rw [if_neg hz]
   have e:=Zgd (c:=cosq false p*cosq false q - sinq p*sinq q) (s:=sinq p*cosq false q+cosq false p*sinq q) (r:=(p+q) / (1 - p*q)) (by grind) (by grind)
   exact⟨e.1.trans (decide_eq_false hz).symm,e.2⟩
 ·exact ZlR (by grind) (by grind) a3
 ·exact ZlR (by grind) (by grind) b3
 ·exact Zgd (r:=((0:Int):Rat)) (by grind) (by rw [Rat.intCast_zero];grind)
theorem ZoV (h:Bool) (p:Rat):thnH h false p 0=h∧thnQ h false p 0=tq h p:=by
 cases h
 ·unfold thnH thnQ tq
  simp only [Bool.false_eq_true,if_false,Rat.intCast_one,Rat.mul_zero]
  exact⟨by decide+kernel,by rw [if_neg (by decide+kernel)];grind⟩
 ·unfold thnH thnQ tq oppH oppQ
  simp
end Go.Proofs.YtpejadencgfnnaaGreatDoor.trq
namespace Go.Proofs.YtpejadencgfnnaaGreatDoor.eng
open Go.RowKit num mem seg q held ratA ratB ratC ratD ratE vars ratF trq
section
variable {x y : RV} {h g : Bool} {K : AV → Prop}
set_option maxRecDepth 100000 in
theorem ZoX (x:RV) (hx:x.z≤4398046511104):Spec Tryz.prog Tab 171 [rat x] (turn false (cn x.q)):=by
 refine Za Tryz.func171 rfl rfl Tryz.ntmps171 rfl (by kernel_rfl) rfl rfl ?_
 refine ZqZ (by omega) fun q1 h1 z1=> ?_
 try simp only [cn_q] at h1
 refine Eq.trans (b:=turn false (cn _)) ?_ rfl
 rw [h1]
theorem ZgZ (hx:x.z≤4398046511104) (k:∀ q,q=x.q→(cn q).z≤x.z+1→K (turn false (cn q))):Ask 171 [rat x] K:=
 use (ZoX x hx) rfl (k _ rfl (by have:=x.z1;rw [cn_z];omega))
set_option maxRecDepth 100000 in
theorem Zke  :Spec Tryz.prog Tab 178 [] (turn true (cn ((0:Int):Rat))):=by
 refine Za Tryz.func178 rfl rfl Tryz.ntmps178 rfl (by kernel_rfl) rfl rfl ?_
 refine k_of (0) (by omega) (by omega) fun q1 h1 z1=> ?_
 refine Eq.trans (b:=turn true (cn _)) ?_ rfl
 rw [h1]
theorem Zh9 (k:∀ q,q=((0:Int):Rat)→(cn q).z≤8→K (turn true (cn q))):Ask 178 [] K:=
 use Zke rfl (k _ rfl (by have:=Zau (n:=0) (by decide) (by decide);rw [cn_z];omega))
set_option maxRecDepth 100000 in
theorem ZlY (h:Bool) (x:RV) (hx:x.z≤4398046511104):Spec Tryz.prog Tab 239 [turn h x] (turn h (cn (tq h x.q))):=by
 refine Za Tryz.func239 rfl rfl Tryz.ntmps239 rfl (by kernel_rfl) rfl rfl ?_
 refine⟨fun e1=> ?_,fun e1=> ?_⟩
 ·subst e1
  refine Zh9 fun q2 h2 z2=> ?_
  refine Eq.trans (b:=turn _ (cn _)) ?_ rfl
  subst_vars;rfl
 ·subst e1
  refine ZgZ (by omega) fun q3 h3 z3=> ?_
  try simp only [cn_q] at h3
  refine Eq.trans (b:=turn _ (cn _)) ?_ rfl
  subst_vars;rfl
theorem tq_z (h:Bool) (x:RV):(cn (tq h x.q)).z≤x.z+8:=by
 rw [cn_z];unfold tq;split
 ·have:=Zau (n:=0) (by decide) (by decide);omega
 ·have:=x.z1;omega
theorem Zb3 (hx:x.z≤4398046511104) (k:∀ q,q=tq h x.q→(cn q).z≤x.z+8→K (turn h (cn q))):Ask 239 [turn h x] K:=
 use (ZlY h x hx) rfl (k _ rfl (tq_z h x))
set_option maxRecDepth 100000 in
theorem ZlZ (h:Bool) (x:RV) (hx:x.z≤68719476736):Spec Tryz.prog Tab 174 [turn h x] (rat (cn (cosq h x.q))):=by
 refine Za Tryz.func174 rfl rfl Tryz.ntmps174 rfl (by kernel_rfl) rfl rfl ?_
 refine Zb3 (by omega) fun q1 h1 z1=> ?_
 try simp only [cn_q] at h1
 refine⟨fun e2=> ?_,fun e2=> ?_⟩
 ·subst e2
  refine k_of (-1) (by omega) (by omega) fun q3 h3 z3=> ?_
  refine Eq.trans (b:=rat (cn _)) ?_ rfl
  subst_vars;rfl
 ·subst e2
  refine Zbu (by omega) (by omega) fun q4 h4 z4=> ?_
  try simp only [cn_q] at h4
  refine k_of (1) (by omega) (by omega) fun q5 h5 z5=> ?_
  refine Zer (by omega) (by omega) fun q6 h6 z6=> ?_
  try simp only [cn_q] at h6
  refine k_of (1) (by omega) (by omega) fun q7 h7 z7=> ?_
  refine Zdp (by omega) (by omega) fun q8 h8 z8=> ?_
  try simp only [cn_q] at h8
  refine ZpY (by omega) (by omega) (by subst_vars;simp only [cn_q];exact ZeN _) fun q9 h9 z9=> ?_
  try simp only [cn_q] at h9
  refine⟨by kernel_rfl,?_⟩
  refine Eq.trans (b:=rat (cn _)) ?_ rfl
  subst_vars;rfl
set_option maxRecDepth 100000 in
theorem ZlW (h:Bool) (x:RV) (hx:x.z≤68719476736):Spec Tryz.prog Tab 175 [turn h x] (rat (cn (sinq (tq h x.q)))):=by
 refine Za Tryz.func175 rfl rfl Tryz.ntmps175 rfl (by kernel_rfl) rfl rfl ?_
 refine Zb3 (by omega) fun q1 h1 z1=> ?_
 try simp only [cn_q] at h1
 refine Zdp (by omega) (by omega) fun q2 h2 z2=> ?_
 try simp only [cn_q] at h2
 refine k_of (1) (by omega) (by omega) fun q3 h3 z3=> ?_
 refine Zbu (by omega) (by omega) fun q4 h4 z4=> ?_
 try simp only [cn_q] at h4
 refine Zdp (by omega) (by omega) fun q5 h5 z5=> ?_
 try simp only [cn_q] at h5
 refine ZpY (by omega) (by omega) (by subst_vars;simp only [cn_q];exact ZeN _) fun q6 h6 z6=> ?_
 try simp only [cn_q] at h6
 refine⟨by kernel_rfl,?_⟩
 refine Eq.trans (b:=rat (cn _)) ?_ rfl
 subst_vars;rfl
theorem ZgB:qs ((1:Int):Rat)≤8:=Zau (by decide) (by decide)
theorem ZrE:qs ((-1:Int):Rat)≤8:=Zau (by decide) (by decide)
theorem qs_0:qs ((0:Int):Rat)≤8:=Zau (by decide) (by decide)
theorem ZmK (h:Bool) (p:Rat):qs (cosq h p)≤4*qs p+30:=by
 unfold cosq
 split
 ·have:=ZrE;omega
 ·have h1:=Zq p p
  have h2:=ZQ ((1:Int):Rat) (p*p)
  have h3:=Zv ((1:Int):Rat) (p*p)
  have h4:=Zbe (((1:Int):Rat) - p*p) (((1:Int):Rat)+p*p)
  have:=ZgB
  omega
theorem ZmI (p:Rat):qs (sinq p)≤4*qs p+30:=by
 unfold sinq
 have h1:=Zq p p
 have h2:=Zv p p
 have h3:=Zv ((1:Int):Rat) (p*p)
 have h4:=Zbe (p+p) (((1:Int):Rat)+p*p)
 have:=ZgB
 omega
theorem ZqW (hx:x.z≤68719476736) (k:∀ q,q=cosq h x.q→(cn q).z≤4*x.z+34→K (rat (cn q))):Ask 174 [turn h x] K:=
 use (ZlZ h x hx) rfl (k _ rfl (by have:=ZmK h x.q;have:=x.z1;rw [cn_z];omega))
theorem Zjy (hx:x.z≤68719476736) (k:∀ q,q=sinq (tq h x.q)→(cn q).z≤4*x.z+70→K (rat (cn q))):Ask 175 [turn h x] K:=
 use (ZlW h x hx) rfl (k _ rfl (by have h1:=ZmI (tq h x.q);have h2:=tq_z h x;rw [cn_z] at h2 ⊢;omega))
set_option maxRecDepth 100000 in
theorem ZlX (h:Bool) (x:RV) (hx:x.z≤68719476736):Spec Tryz.prog Tab 291 [turn h x] (turn (oppH x.q) (cn (oppQ x.q))):=by
 refine Za Tryz.func291 rfl rfl Tryz.ntmps291 rfl (by kernel_rfl) rfl rfl ?_
 refine k_of (-1) (by omega) (by omega) fun q1 h1 z1=> ?_
 refine ZnG (by omega) (by omega) (fun gn q2 h2 z2=> ?_) (fun gz=> ?_)
 ·try simp only [cn_q] at gn h2
  refine⟨by kernel_rfl,?_⟩
  refine⟨fun e=>by simp at e,fun _=> ?_⟩
  refine ZgZ (by omega) fun q3 h3 z3=> ?_
  try simp only [cn_q] at h3
  refine Eq.trans (b:=turn _ (cn _)) ?_ rfl
  unfold oppH oppQ
  first
   |(rw [decide_eq_true (Decidable.not_not.1 gz),if_pos (Decidable.not_not.1 gz)];subst_vars;rfl)
   |(rw [decide_eq_false gn,if_neg gn];subst_vars;rfl)
 ·try simp only [cn_q] at gz
  refine⟨by kernel_rfl,?_⟩
  refine⟨fun _=> ?_,fun e=>by simp at e⟩
  refine Zh9 fun q4 h4 z4=> ?_
  refine Eq.trans (b:=turn _ (cn _)) ?_ rfl
  unfold oppH oppQ
  first
   |(rw [decide_eq_true (Decidable.not_not.1 gz),if_pos (Decidable.not_not.1 gz)];subst_vars;rfl)
   |(rw [decide_eq_false gn,if_neg gn];subst_vars;rfl)
theorem ZhN (p:Rat):qs (oppQ p)≤qs p+9:=by
 unfold oppQ
 split
 ·have:=qs_0;omega
 ·have:=Zbe ((-1:Int):Rat) p;have:=ZrE;omega
theorem ZqV (hx:x.z≤68719476736) (k:∀ b q,b=oppH x.q→q=oppQ x.q→(cn q).z≤x.z+10→K (turn b (cn q))):Ask 291 [turn h x] K:=
 use (ZlX h x hx) rfl (k _ _ rfl rfl (by have:=ZhN x.q;have:=x.z1;rw [cn_z];omega))
set_option maxRecDepth 100000 in
theorem Zkd (h g:Bool) (x y:RV) (hx:x.z≤17179869184) (hy:y.z≤17179869184):Spec Tryz.prog Tab 266 [turn h x,turn g y] (turn (thnH h g x.q y.q) (cn (thnQ h g x.q y.q))):=by
 cases h<;>cases g
 ·refine Za Tryz.func266 rfl rfl Tryz.ntmps266 rfl (by kernel_rfl) rfl rfl ?_
  refine Zb3 (by omega) fun q1 h1 z1=> ?_
  try simp only [cn_q] at h1
  refine Zb3 (by omega) fun q2 h2 z2=> ?_
  try simp only [cn_q] at h2
  refine⟨by kernel_rfl,?_⟩
  refine⟨fun e=>by simp at e,fun _=> ?_⟩
  refine⟨fun e=>by simp at e,fun _=> ?_⟩
  refine⟨fun e=>by simp at e,fun _=> ?_⟩
  refine Zdp (by omega) (by omega) fun q3 h3 z3=> ?_
  try simp only [cn_q] at h3
  refine k_of (1) (by omega) (by omega) fun q4 h4 z4=> ?_
  refine Zbu (by omega) (by omega) fun q5 h5 z5=> ?_
  try simp only [cn_q] at h5
  refine Zer (by omega) (by omega) fun q6 h6 z6=> ?_
  try simp only [cn_q] at h6
  refine ZnG (by omega) (by omega) (fun gn q7 h7 z7=> ?_) (fun gz=> ?_)
  ·try simp only [cn_q] at gn h7
   refine⟨by kernel_rfl,?_⟩
   refine⟨fun e=>by simp at e,fun _=> ?_⟩
   refine ZgZ (by omega) fun q8 h8 z8=> ?_
   try simp only [cn_q] at h8
   refine Eq.trans (b:=turn _ (cn _)) ?_ rfl
   unfold thnH thnQ
   simp only [Bool.false_eq_true,if_false]
   first
    |(rw [decide_eq_true (by subst_vars;exact Decidable.not_not.1 gz),if_pos (by subst_vars;exact Decidable.not_not.1 gz)];subst_vars;rfl)
    |(rw [decide_eq_false (by subst_vars;exact gn),if_neg (by subst_vars;exact gn)];subst_vars;rfl)
  ·try simp only [cn_q] at gz
   refine⟨by kernel_rfl,?_⟩
   refine⟨fun _=> ?_,fun e=>by simp at e⟩
   refine Zh9 fun q9 h9 z9=> ?_
   refine Eq.trans (b:=turn _ (cn _)) ?_ rfl
   unfold thnH thnQ
   simp only [Bool.false_eq_true,if_false]
   first
    |(rw [decide_eq_true (by subst_vars;exact Decidable.not_not.1 gz),if_pos (by subst_vars;exact Decidable.not_not.1 gz)];subst_vars;rfl)
    |(rw [decide_eq_false (by subst_vars;exact gn),if_neg (by subst_vars;exact gn)];subst_vars;rfl)
 ·refine Za Tryz.func266 rfl rfl Tryz.ntmps266 rfl (by kernel_rfl) rfl rfl ?_
  refine Zb3 (by omega) fun q1 h1 z1=> ?_
  try simp only [cn_q] at h1
  refine Zb3 (by omega) fun q2 h2 z2=> ?_
  try simp only [cn_q] at h2
  refine⟨by kernel_rfl,?_⟩
  refine⟨fun e=>by simp at e,fun _=> ?_⟩
  refine⟨fun e=>by simp at e,fun _=> ?_⟩
  refine⟨fun _=> ?_,fun e=>by simp at e⟩
  refine ZqV (by omega) fun b3 q3 e3 h3 z3=> ?_
  try simp only [cn_q] at e3 h3
  refine Eq.trans (b:=turn _ (cn _)) ?_ rfl
  subst_vars;rfl
 ·refine Za Tryz.func266 rfl rfl Tryz.ntmps266 rfl (by kernel_rfl) rfl rfl ?_
  refine Zb3 (by omega) fun q1 h1 z1=> ?_
  try simp only [cn_q] at h1
  refine Zb3 (by omega) fun q2 h2 z2=> ?_
  try simp only [cn_q] at h2
  refine⟨by kernel_rfl,?_⟩
  refine⟨fun e=>by simp at e,fun _=> ?_⟩
  refine⟨fun _=> ?_,fun e=>by simp at e⟩
  refine ZqV (by omega) fun b3 q3 e3 h3 z3=> ?_
  try simp only [cn_q] at e3 h3
  refine Eq.trans (b:=turn _ (cn _)) ?_ rfl
  subst_vars;rfl
 ·refine Za Tryz.func266 rfl rfl Tryz.ntmps266 rfl (by kernel_rfl) rfl rfl ?_
  refine Zb3 (by omega) fun q1 h1 z1=> ?_
  try simp only [cn_q] at h1
  refine Zb3 (by omega) fun q2 h2 z2=> ?_
  try simp only [cn_q] at h2
  refine⟨by kernel_rfl,?_⟩
  refine⟨fun _=> ?_,fun e=>by simp at e⟩
  refine k_of (0) (by omega) (by omega) fun q3 h3 z3=> ?_
  refine ZgZ (by omega) fun q4 h4 z4=> ?_
  try simp only [cn_q] at h4
  refine Eq.trans (b:=turn _ (cn _)) ?_ rfl
  subst_vars;rfl
theorem Zss (p:Rat):circ false p=((2:Int):Rat) / (((1:Int):Rat)+p*p) - ((1:Int):Rat):=by unfold circ;simp only [Bool.false_eq_true,if_false,Rat.intCast_zero,Rat.add_zero]
theorem Zf2 (h:Bool) (p:Rat):circ h p=cosq h p:=by
 cases h
 ·rw [Zss]
  show _=(((1:Int):Rat) - p*p) / (((1:Int):Rat)+p*p)
  have h0:=ZeN p
  simp only [Rat.intCast_one] at h0 ⊢
  have h2:((2:Int):Rat)=1+1:=by decide+kernel
  rw [h2]
  grind
 ·rfl
theorem ZrD (h g:Bool) (p q:Rat):qs (thnQ h g p q)≤2*qs p+2*qs q+30:=by
 unfold thnQ
 have:=qs_0
 have:=ZhN p
 have:=ZhN q
 have h1:=Zq p q
 have h2:=ZQ ((1:Int):Rat) (p*q)
 have h3:=Zv p q
 have h4:=Zbe (p+q) (((1:Int):Rat) - p*q)
 have:=ZgB
 split
 ·split<;>omega
 ·split
  ·omega
  ·split<;>omega
theorem ZrW (hx:x.z≤17179869184) (hy:y.z≤17179869184) (k:∀ b q,b=thnH h g x.q y.q→q=thnQ h g x.q y.q→(cn q).z≤2*x.z+2*y.z+34→K (turn b (cn q))):Ask 266 [turn h x,turn g y] K:=
 use (Zkd h g x y hx hy) rfl (k _ _ rfl rfl (by have:=ZrD h g x.q y.q;have:=x.z1;have:=y.z1;rw [cn_z];omega))
theorem Zku (n m:Int) (h1:-9223372036854775808≤n) (h2:n≤9223372036854775807) (h3:-9223372036854775808≤m) (h4:m≤9223372036854775807):Spec Tryz.prog Tab 237 [int n,int m] (two (rat (quotR (n:Rat) (m:Rat))) (int (quotE (m:Rat)))):=by
 refine Zn (Zr Tryz.func237 rfl rfl) rfl rfl fun w hT=> ?_
 refine(ZmF n m w h1 h2 h3 h4 hT).mono fun e w' ⟨u,c,f,k,he,hi,hb⟩=> ?_
 refine⟨he.trans ?_,hb⟩
 rcases hi with ⟨h5,rfl,rfl,rfl,rfl⟩|⟨h5,rfl,hi⟩
 ·simp only [quotR,quotE,if_pos h5,z0]
 ·obtain⟨rfl,rfl,rfl⟩:=Zes hi
  simp only [quotR,quotE,if_neg h5]
theorem z0_q:z0.q=0:=by
 have:¬ q.good false ⟨#[]⟩ ⟨#[]⟩:=by decide+kernel
 show qv false ⟨#[]⟩ ⟨#[]⟩=0
 unfold qv
 rw [if_neg this]
theorem z0_z:z0.z=0:=rfl
end
end Go.Proofs.YtpejadencgfnnaaGreatDoor.eng
