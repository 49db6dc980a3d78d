/- Joined by wip/bundle.py: XTrq XEngTurn. -/
import Derived.Test.YtncoimmjjfmhdaaGreatDoorQ
import Derived.Test.YtncoimmjjfmhdaaGreatDoorEngU
set_option maxRecDepth 100000
namespace Go.Proofs.YtncoimmjjfmhdaaGreatDoor.trq
open q
def tq (h:Bool) (p:Rat):Rat:=if h then ((0:Int):Rat) else p
def cosq (h:Bool) (p:Rat):Rat:=if h then ((-1:Int):Rat) else (((1:Int):Rat) - p*p) / (((1:Int):Rat)+p*p)
def sinq (p:Rat):Rat:=(p+p) / (((1:Int):Rat)+p*p)
def circ (h:Bool) (p:Rat):Rat:=if h then ((-1:Int):Rat) else ((2:Int):Rat) / (((1:Int):Rat)+(p+((0:Int):Rat))*(p+((0:Int):Rat))) - ((1:Int):Rat)
def sirc (h:Bool) (p:Rat):Rat:=if h then ((0:Int):Rat) else (p+((0:Int):Rat))*(((2:Int):Rat) / (((1:Int):Rat)+(p+((0:Int):Rat))*(p+((0:Int):Rat))))
theorem Zfq (p:Rat):((1:Int):Rat)+p*p≠0:=by
 have h0:0≤p*p:=by
  rcases Rat.le_total (a:=0) (b:=p) with h|h
  ·exact Rat.mul_nonneg h h
  ·have h':0≤-p:=by have:=Rat.neg_le_neg h;simpa using this
   have:=Rat.mul_nonneg h' h'
   rwa [Rat.neg_mul,Rat.mul_neg,Rat.neg_neg] at this
 intro h
 have h1:(1:Rat)+0≤1+p*p:=Rat.add_le_add_left.2 h0
 rw [Rat.intCast_one] at h
 rw [h] at h1
 exact absurd h1 (by decide+kernel)
theorem ZcB (p:Rat):cosq false p*(1+p*p)=1 - p*p∧sinq p*(1+p*p)=2*p∧1+p*p≠0:=by
 have h:=Zfq p
 simp only [Rat.intCast_one] at h
 refine⟨?_,?_,h⟩
 ·unfold cosq;simp only [Bool.false_eq_true,if_false,Rat.intCast_one];grind
 ·unfold sinq;simp only [Rat.intCast_one];grind
theorem Zhg:sinq ((0:Int):Rat)=0:=by decide+kernel
theorem Zmw (p:Rat):cosq true p=-1:=by unfold cosq;simp only [if_true];decide+kernel
theorem Znm (p:Rat):tq true p=((0:Int):Rat):=rfl
theorem Zg6 (p:Rat):tq false p=p:=rfl
end Go.Proofs.YtncoimmjjfmhdaaGreatDoor.trq
namespace Go.Proofs.YtncoimmjjfmhdaaGreatDoor.eng
open Go.RowKit num mem seg q held ratA ratB ratC ratD ratE vars ratF trq
section
variable {x y : RV} {h g : Bool} {K : AV → Prop}
theorem ZlD (x:RV) (hx:x.z≤4398046511104):Spec Tryz.prog Tab 84 [rat x] (turn false (cn x.q)):=by
 refine Zh Tryz.func84 rfl rfl Tryz.ntmps84 rfl (by kernel_rfl) rfl rfl ?_
 refine ZmZ (by omega) fun q1 h1 z1=> ?_
 try simp only [cn_q] at h1
 refine Eq.trans (b:=turn false (cn _)) ?_ rfl
 rw [h1]
theorem ZnN (hx:x.z≤4398046511104) (k:∀ q,q=x.q→(cn q).z≤x.z+1→K (turn false (cn q))):Ask 84 [rat x] K:=
 use (ZlD x hx) rfl (k _ rfl (by have:=x.z1;rw [cn_z];omega))
theorem Zif  :Spec Tryz.prog Tab 157 [] (turn true (cn ((0:Int):Rat))):=by
 refine Zh Tryz.func157 rfl rfl Tryz.ntmps157 rfl (by kernel_rfl) rfl rfl ?_
 refine k_of (0) (by omega) (by omega) fun q1 h1 z1=> ?_
 refine Eq.trans (b:=turn true (cn _)) ?_ rfl
 rw [h1]
theorem ZnO (k:∀ q,q=((0:Int):Rat)→(cn q).z≤8→K (turn true (cn q))):Ask 157 [] K:=
 use Zif rfl (k _ rfl (by have:=Zau (n:=0) (by decide) (by decide);rw [cn_z];omega))
theorem Zjm (h:Bool) (x:RV) (hx:x.z≤4398046511104):Spec Tryz.prog Tab 131 [turn h x] (turn h (cn (tq h x.q))):=by
 refine Zh Tryz.func131 rfl rfl Tryz.ntmps131 rfl (by kernel_rfl) rfl rfl ?_
 refine⟨fun e1=> ?_,fun e1=> ?_⟩
 ·subst e1
  refine ZnO fun q2 h2 z2=> ?_
  refine Eq.trans (b:=turn _ (cn _)) ?_ rfl
  subst_vars;rfl
 ·subst e1
  refine ZnN (by omega) fun q3 h3 z3=> ?_
  try simp only [cn_q] at h3
  refine Eq.trans (b:=turn _ (cn _)) ?_ rfl
  subst_vars;rfl
theorem tq_z (h:Bool) (x:RV):(cn (tq h x.q)).z≤x.z+8:=by
 rw [cn_z];unfold tq;split
 ·have:=Zau (n:=0) (by decide) (by decide);omega
 ·have:=x.z1;omega
theorem ZoJ (hx:x.z≤4398046511104) (k:∀ q,q=tq h x.q→(cn q).z≤x.z+8→K (turn h (cn q))):Ask 131 [turn h x] K:=
 use (Zjm h x hx) rfl (k _ rfl (tq_z h x))
theorem Zjl (h:Bool) (x:RV) (hx:x.z≤68719476736):Spec Tryz.prog Tab 83 [turn h x] (rat (cn (sinq (tq h x.q)))):=by
 refine Zh Tryz.func83 rfl rfl Tryz.ntmps83 rfl (by kernel_rfl) rfl rfl ?_
 refine ZoJ (by omega) fun q1 h1 z1=> ?_
 try simp only [cn_q] at h1
 refine ZbQ (by omega) (by omega) fun q2 h2 z2=> ?_
 try simp only [cn_q] at h2
 refine k_of (1) (by omega) (by omega) fun q3 h3 z3=> ?_
 refine Za2 (by omega) (by omega) fun q4 h4 z4=> ?_
 try simp only [cn_q] at h4
 refine ZbQ (by omega) (by omega) fun q5 h5 z5=> ?_
 try simp only [cn_q] at h5
 refine ZnU (by omega) (by omega) (by subst_vars;simp only [cn_q];exact Zfq _) fun q6 h6 z6=> ?_
 try simp only [cn_q] at h6
 refine⟨by kernel_rfl,?_⟩
 refine Eq.trans (b:=rat (cn _)) ?_ rfl
 subst_vars;rfl
theorem Zhn:qs ((1:Int):Rat)≤8:=Zau (by decide) (by decide)
theorem Zo6:qs ((-1:Int):Rat)≤8:=Zau (by decide) (by decide)
theorem qs_0:qs ((0:Int):Rat)≤8:=Zau (by decide) (by decide)
theorem qs_2:qs ((2:Int):Rat)≤8:=Zau (by decide) (by decide)
theorem Zny (p:Rat):qs (sinq p)≤4*qs p+30:=by
 unfold sinq
 have h1:=ZJ p p
 have h2:=ZU p p
 have h3:=ZU ((1:Int):Rat) (p*p)
 have h4:=Zch (p+p) (((1:Int):Rat)+p*p)
 have:=Zhn
 omega
theorem ZmY (hx:x.z≤68719476736) (k:∀ q,q=sinq (tq h x.q)→(cn q).z≤4*x.z+70→K (rat (cn q))):Ask 83 [turn h x] K:=
 use (Zjl h x hx) rfl (k _ rfl (by have h1:=Zny (tq h x.q);have h2:=tq_z h x;rw [cn_z] at h2 ⊢;omega))
theorem Zo2 (n:Int) (h1:-9223372036854775808≤n) (h2:n≤9223372036854775807):Spec Tryz.prog Tab 7 [int n] (rat (cn (n:Rat))):=by
 refine Zh Tryz.func7 rfl rfl Tryz.ntmps7 rfl (by kernel_rfl) rfl rfl ?_
 refine k_of _ (by omega) (by omega) fun q1 h1 z1=> ?_
 refine Eq.trans (b:=rat (cn _)) ?_ rfl
 subst_vars;rfl
theorem k_I (n:Int) (h1:-9223372036854775808≤n) (h2:n≤9223372036854775807) (k:∀ q,q=(n:Rat)→(cn q).z≤8→K (rat (cn q))):Ask 7 [int n] K:=
 use (Zo2 n h1 h2) rfl (k _ rfl (by have:=Zau h1 h2;rw [cn_z];omega))
theorem ZiA (x:RV) (hx:x.z≤68719476736):Spec Tryz.prog Tab 46 [rat x] (rat (cn x.q)):=by
 refine Zh Tryz.func46 rfl rfl Tryz.ntmps46 rfl (by kernel_rfl) rfl rfl ?_
 refine k_I (0) (by omega) (by omega) fun q1 h1 z1=> ?_
 refine ZbQ (by omega) (by omega) fun q2 h2 z2=> ?_
 try simp only [cn_q] at h2
 refine⟨by kernel_rfl,?_⟩
 refine Eq.trans (b:=rat (cn _)) ?_ rfl
 subst_vars;simp only [Rat.intCast_zero,Rat.add_zero]
theorem Zgz (hx:x.z≤68719476736) (k:∀ q,q=x.q→(cn q).z≤x.z+1→K (rat (cn q))):Ask 46 [rat x] K:=
 use (ZiA x hx) rfl (k _ rfl (by have:=x.z1;rw [cn_z];omega))
theorem ZeL (p:Rat):circ false p=((2:Int):Rat) / (((1:Int):Rat)+p*p) - ((1:Int):Rat):=by unfold circ;simp only [Bool.false_eq_true,if_false,Rat.intCast_zero,Rat.add_zero]
theorem Zek (p:Rat):sirc false p=p*(((2:Int):Rat) / (((1:Int):Rat)+p*p)):=by unfold sirc;simp only [Bool.false_eq_true,if_false,Rat.intCast_zero,Rat.add_zero]
theorem ZnA (h:Bool) (p:Rat):qs (circ h p)≤2*qs p+60:=by
 cases h
 ·rw [ZeL]
  have h1:=ZJ p p
  have h3:=ZU ((1:Int):Rat) (p*p)
  have h4:=Zch ((2:Int):Rat) (((1:Int):Rat)+p*p)
  have h5:=Zag (((2:Int):Rat) / (((1:Int):Rat)+p*p)) ((1:Int):Rat)
  have:=Zhn;have:=qs_2
  omega
 ·have:=Zo6
  show qs ((-1:Int):Rat)≤_
  omega
theorem Znx (h:Bool) (p:Rat):qs (sirc h p)≤3*qs p+60:=by
 cases h
 ·rw [Zek]
  have h1:=ZJ p p
  have h3:=ZU ((1:Int):Rat) (p*p)
  have h4:=Zch ((2:Int):Rat) (((1:Int):Rat)+p*p)
  have h5:=ZJ p (((2:Int):Rat) / (((1:Int):Rat)+p*p))
  have:=Zhn;have:=qs_2
  omega
 ·have:=qs_0
  show qs ((0:Int):Rat)≤_
  omega
theorem Zf0 (h:Bool) (x:RV) (hx:x.z≤68719476736):Spec Tryz.prog Tab 49 [turn h x] (two (rat (cn (circ h x.q))) (rat (cn (sirc h x.q)))):=by
 refine Zh Tryz.func49 rfl rfl Tryz.ntmps49 rfl (by kernel_rfl) rfl rfl ?_
 refine⟨fun e1=> ?_,fun e1=> ?_⟩
 ·subst e1
  refine k_I (-1) (by omega) (by omega) fun q2 h2 z2=> ?_
  refine k_I (0) (by omega) (by omega) fun q3 h3 z3=> ?_
  refine Eq.trans (b:=two (rat (cn _)) (rat (cn _))) ?_ rfl
  first
   |(subst_vars;rfl)
   |(rw [ZeL,Zek];subst_vars;rfl)
 ·subst e1
  refine Zgz (by omega) fun q4 h4 z4=> ?_
  try simp only [cn_q] at h4
  refine k_I (2) (by omega) (by omega) fun q5 h5 z5=> ?_
  refine k_I (1) (by omega) (by omega) fun q6 h6 z6=> ?_
  refine Za2 (by omega) (by omega) fun q7 h7 z7=> ?_
  try simp only [cn_q] at h7
  refine ZbQ (by omega) (by omega) fun q8 h8 z8=> ?_
  try simp only [cn_q] at h8
  refine ZnU (by omega) (by omega) (by subst_vars;simp only [cn_q];exact Zfq _) fun q9 h9 z9=> ?_
  try simp only [cn_q] at h9
  refine⟨by kernel_rfl,?_⟩
  refine k_I (1) (by omega) (by omega) fun q10 h10 z10=> ?_
  refine ZbP (by omega) (by omega) fun q11 h11 z11=> ?_
  try simp only [cn_q] at h11
  refine Za2 (by omega) (by omega) fun q12 h12 z12=> ?_
  try simp only [cn_q] at h12
  refine⟨by kernel_rfl,?_⟩
  refine Eq.trans (b:=two (rat (cn _)) (rat (cn _))) ?_ rfl
  first
   |(subst_vars;rfl)
   |(rw [ZeL,Zek];subst_vars;rfl)
theorem ZbR (hx:x.z≤68719476736) (k:∀ p q,p=circ h x.q→q=sirc h x.q→(cn p).z≤2*x.z+62→(cn q).z≤3*x.z+63→K (two (rat (cn p)) (rat (cn q)))):Ask 49 [turn h x] K:=
 use (Zf0 h x hx) rfl (k _ _ rfl rfl (by have:=ZnA h x.q;have:=x.z1;rw [cn_z];omega) (by have:=Znx h x.q;have:=x.z1;rw [cn_z];omega))
theorem ZeM (h:Bool) (p:Rat):circ h p=cosq h p:=by
 cases h
 ·rw [ZeL]
  show _=(((1:Int):Rat) - p*p) / (((1:Int):Rat)+p*p)
  have h0:=Zfq p
  simp only [Rat.intCast_one] at h0 ⊢
  have h2:((2:Int):Rat)=1+1:=by decide+kernel
  rw [h2]
  grind
 ·rfl
theorem Zhf (h:Bool) (p:Rat):sirc h p=sinq (tq h p):=by
 cases h
 ·rw [Zek]
  show _=(p+p) / (((1:Int):Rat)+p*p)
  have h0:=Zfq p
  simp only [Rat.intCast_one] at h0 ⊢
  have h2:((2:Int):Rat)=1+1:=by decide+kernel
  rw [h2]
  grind
 ·exact Zhg.symm
theorem Ziv (n m:Int) (h1:-9223372036854775808≤n) (h2:n≤9223372036854775807) (h3:-9223372036854775808≤m) (h4:m≤9223372036854775807):Spec Tryz.prog Tab 76 [int n,int m] (two (rat (quotR (n:Rat) (m:Rat))) (int (quotE (m:Rat)))):=by
 refine ZB (Zu Tryz.func76 rfl rfl) rfl rfl fun w hT=> ?_
 refine(Zfh n m w h1 h2 h3 h4 hT).mono fun e w' ⟨u,c,f,k,he,hi,hb⟩=> ?_
 refine⟨he.trans ?_,hb⟩
 rcases hi with ⟨h5,rfl,rfl,rfl,rfl⟩|⟨h5,rfl,hi⟩
 ·simp only [quotR,quotE,if_pos h5,z0]
 ·obtain⟨rfl,rfl,rfl⟩:=ZfF hi
  simp only [quotR,quotE,if_neg h5]
theorem ZoT (n m:Int) (h1:-9223372036854775808≤n) (h2:n≤9223372036854775807) (h3:-9223372036854775808≤m) (h4:m≤9223372036854775807) (h0:(m:Rat)≠0) (k:∀ q,q=(n:Rat) / (m:Rat)→(cn q).z≤17→K (two (rat (cn q)) (int 0))):Ask 76 [int n,int m] K:=
 use (by have:=Ziv n m h1 h2 h3 h4;simp only [quotR,quotE,if_neg h0] at this;exact this) rfl (k _ rfl (by have:=Zch (n:Rat) (m:Rat);have:=Zau h1 h2;have:=Zau h3 h4;rw [cn_z];omega))
theorem Zen:Spec Tryz.prog Tab 32 [] (bool true):=
 ZB (Zu Tryz.func32 rfl rfl) rfl rfl fun w hT=>Zff w hT
theorem ZiJ (K1:K (bool true)):Ask 32 [] K:=use Zen rfl K1
end
end Go.Proofs.YtncoimmjjfmhdaaGreatDoor.eng
