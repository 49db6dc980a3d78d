/- Joined by wip/bundle.py: XTrq XEngTurn. -/
import Derived.Test.YtiekmbmgpachpaaGreatDoorQ
import Derived.Test.YtiekmbmgpachpaaGreatDoorEngU
set_option maxRecDepth 100000
namespace Go.Proofs.YtiekmbmgpachpaaGreatDoor.trq
open q
def tq (h:Bool) (p:Rat):Rat:=if h then ((0:Int):Rat) else p
def cosq (h:Bool) (p:Rat):Rat:=if h then ((-1:Int):Rat) else (((1:Int):Rat) - p*p) / (((1:Int):Rat)+p*p)
def sinq (p:Rat):Rat:=(p+p) / (((1:Int):Rat)+p*p)
theorem ZnY (p:Rat):((1:Int):Rat)+p*p≠0:=by
 have h0:0≤p*p:=by
  rcases Rat.le_total (a:=0) (b:=p) with h|h
  ·exact Rat.mul_nonneg h h
  ·have h':0≤-p:=by have:=Rat.neg_le_neg h;simpa using this
   have:=Rat.mul_nonneg h' h'
   rwa [Rat.neg_mul,Rat.mul_neg,Rat.neg_neg] at this
 intro h
 have h1:(1:Rat)+0≤1+p*p:=Rat.add_le_add_left.2 h0
 rw [Rat.intCast_one] at h
 rw [h] at h1
 exact absurd h1 (by decide+kernel)
end Go.Proofs.YtiekmbmgpachpaaGreatDoor.trq
namespace Go.Proofs.YtiekmbmgpachpaaGreatDoor.eng
open Go.RowKit num mem seg q held ratA ratB ratC ratD ratE vars ratF trq
section
variable {x y : RV} {h g : Bool} {K : AV → Prop}
theorem Zmm (x:RV) (hx:x.z≤4398046511104):Spec Tryz.prog Tab 15 [rat x] (turn false (cn x.q)):=by
 refine Zd Tryz.func15 rfl rfl Tryz.ntmps15 rfl (by kernel_rfl) rfl rfl ?_
 refine Zbz (by omega) fun q1 h1 z1=> ?_
 try simp only [cn_q] at h1
 refine Eq.trans (b:=turn false (cn _)) ?_ rfl
 rw [h1]
theorem Zrv (hx:x.z≤4398046511104) (k:∀ q,q=x.q→(cn q).z≤x.z+1→K (turn false (cn q))):Ask 15 [rat x] K:=
 use (Zmm x hx) rfl (k _ rfl (by have:=x.z1;rw [cn_z];omega))
theorem ZiP  :Spec Tryz.prog Tab 138 [] (turn true (cn ((0:Int):Rat))):=by
 refine Zd Tryz.func138 rfl rfl Tryz.ntmps138 rfl (by kernel_rfl) rfl rfl ?_
 refine k_of (0) (by omega) (by omega) fun q1 h1 z1=> ?_
 refine Eq.trans (b:=turn true (cn _)) ?_ rfl
 rw [h1]
theorem Zo2 (k:∀ q,q=((0:Int):Rat)→(cn q).z≤8→K (turn true (cn q))):Ask 138 [] K:=
 use ZiP rfl (k _ rfl (by have:=Zat (n:=0) (by decide) (by decide);rw [cn_z];omega))
theorem Zj3 (h:Bool) (x:RV) (hx:x.z≤4398046511104):Spec Tryz.prog Tab 122 [turn h x] (turn h (cn (tq h x.q))):=by
 refine Zd Tryz.func122 rfl rfl Tryz.ntmps122 rfl (by kernel_rfl) rfl rfl ?_
 refine⟨fun e1=> ?_,fun e1=> ?_⟩
 ·subst e1
  refine Zo2 fun q2 h2 z2=> ?_
  refine Eq.trans (b:=turn _ (cn _)) ?_ rfl
  subst_vars;rfl
 ·subst e1
  refine Zrv (by omega) fun q3 h3 z3=> ?_
  try simp only [cn_q] at h3
  refine Eq.trans (b:=turn _ (cn _)) ?_ rfl
  subst_vars;rfl
theorem tq_z (h:Bool) (x:RV):(cn (tq h x.q)).z≤x.z+8:=by
 rw [cn_z];unfold tq;split
 ·have:=Zat (n:=0) (by decide) (by decide);omega
 ·have:=x.z1;omega
theorem Zn1 (hx:x.z≤4398046511104) (k:∀ q,q=tq h x.q→(cn q).z≤x.z+8→K (turn h (cn q))):Ask 122 [turn h x] K:=
 use (Zj3 h x hx) rfl (k _ rfl (tq_z h x))
theorem Zj4 (h:Bool) (x:RV) (hx:x.z≤68719476736):Spec Tryz.prog Tab 123 [turn h x] (rat (cn (cosq h x.q))):=by
 refine Zd Tryz.func123 rfl rfl Tryz.ntmps123 rfl (by kernel_rfl) rfl rfl ?_
 refine Zn1 (by omega) fun q1 h1 z1=> ?_
 try simp only [cn_q] at h1
 refine⟨fun e2=> ?_,fun e2=> ?_⟩
 ·subst e2
  refine k_of (-1) (by omega) (by omega) fun q3 h3 z3=> ?_
  refine Eq.trans (b:=rat (cn _)) ?_ rfl
  subst_vars;rfl
 ·subst e2
  refine ZaL (by omega) (by omega) fun q4 h4 z4=> ?_
  try simp only [cn_q] at h4
  refine k_of (1) (by omega) (by omega) fun q5 h5 z5=> ?_
  refine Zjk (by omega) (by omega) fun q6 h6 z6=> ?_
  try simp only [cn_q] at h6
  refine k_of (1) (by omega) (by omega) fun q7 h7 z7=> ?_
  refine Zcj (by omega) (by omega) fun q8 h8 z8=> ?_
  try simp only [cn_q] at h8
  refine Zjl (by omega) (by omega) (by subst_vars;simp only [cn_q];exact ZnY _) fun q9 h9 z9=> ?_
  try simp only [cn_q] at h9
  refine⟨by kernel_rfl,?_⟩
  refine Eq.trans (b:=rat (cn _)) ?_ rfl
  subst_vars;rfl
theorem Zj2 (h:Bool) (x:RV) (hx:x.z≤68719476736):Spec Tryz.prog Tab 92 [turn h x] (rat (cn (sinq (tq h x.q)))):=by
 refine Zd Tryz.func92 rfl rfl Tryz.ntmps92 rfl (by kernel_rfl) rfl rfl ?_
 refine Zn1 (by omega) fun q1 h1 z1=> ?_
 try simp only [cn_q] at h1
 refine Zcj (by omega) (by omega) fun q2 h2 z2=> ?_
 try simp only [cn_q] at h2
 refine k_of (1) (by omega) (by omega) fun q3 h3 z3=> ?_
 refine ZaL (by omega) (by omega) fun q4 h4 z4=> ?_
 try simp only [cn_q] at h4
 refine Zcj (by omega) (by omega) fun q5 h5 z5=> ?_
 try simp only [cn_q] at h5
 refine Zjl (by omega) (by omega) (by subst_vars;simp only [cn_q];exact ZnY _) fun q6 h6 z6=> ?_
 try simp only [cn_q] at h6
 refine⟨by kernel_rfl,?_⟩
 refine Eq.trans (b:=rat (cn _)) ?_ rfl
 subst_vars;rfl
theorem ZnU:qs ((1:Int):Rat)≤8:=Zat (by decide) (by decide)
theorem Zrp:qs ((-1:Int):Rat)≤8:=Zat (by decide) (by decide)
theorem qs_0:qs ((0:Int):Rat)≤8:=Zat (by decide) (by decide)
theorem ZkG (h:Bool) (p:Rat):qs (cosq h p)≤4*qs p+30:=by
 unfold cosq
 split
 ·have:=Zrp;omega
 ·have h1:=ZT p p
  have h2:=Zby ((1:Int):Rat) (p*p)
  have h3:=Z8 ((1:Int):Rat) (p*p)
  have h4:=ZcZ (((1:Int):Rat) - p*p) (((1:Int):Rat)+p*p)
  have:=ZnU
  omega
theorem ZkD (p:Rat):qs (sinq p)≤4*qs p+30:=by
 unfold sinq
 have h1:=ZT p p
 have h2:=Z8 p p
 have h3:=Z8 ((1:Int):Rat) (p*p)
 have h4:=ZcZ (p+p) (((1:Int):Rat)+p*p)
 have:=ZnU
 omega
theorem Zqq (hx:x.z≤68719476736) (k:∀ q,q=cosq h x.q→(cn q).z≤4*x.z+34→K (rat (cn q))):Ask 123 [turn h x] K:=
 use (Zj4 h x hx) rfl (k _ rfl (by have:=ZkG h x.q;have:=x.z1;rw [cn_z];omega))
theorem Zqp (hx:x.z≤68719476736) (k:∀ q,q=sinq (tq h x.q)→(cn q).z≤4*x.z+70→K (rat (cn q))):Ask 92 [turn h x] K:=
 use (Zj2 h x hx) rfl (k _ rfl (by have h1:=ZkD (tq h x.q);have h2:=tq_z h x;rw [cn_z] at h2 ⊢;omega))
theorem Zi3 (n m:Int) (h1:-9223372036854775808≤n) (h2:n≤9223372036854775807) (h3:-9223372036854775808≤m) (h4:m≤9223372036854775807):Spec Tryz.prog Tab 22 [int n,int m] (two (rat (quotR (n:Rat) (m:Rat))) (int (quotE (m:Rat)))):=by
 refine Zp (Zm Tryz.func22 rfl rfl) rfl rfl fun w hT=> ?_
 refine(Zky n m w h1 h2 h3 h4 hT).mono fun e w' ⟨u,c,f,k,he,hi,hb⟩=> ?_
 refine⟨he.trans ?_,hb⟩
 rcases hi with ⟨h5,rfl,rfl,rfl,rfl⟩|⟨h5,rfl,hi⟩
 ·simp only [quotR,quotE,if_pos h5,z0]
 ·obtain⟨rfl,rfl,rfl⟩:=Zdg hi
  simp only [quotR,quotE,if_neg h5]
theorem Zh7 (n m:Int) (h1:-9223372036854775808≤n) (h2:n≤9223372036854775807) (h3:-9223372036854775808≤m) (h4:m≤9223372036854775807) (h0:(m:Rat)≠0) (k:∀ q,q=(n:Rat) / (m:Rat)→(cn q).z≤17→K (two (rat (cn q)) (int 0))):Ask 22 [int n,int m] K:=
 use (by have:=Zi3 n m h1 h2 h3 h4;simp only [quotR,quotE,if_neg h0] at this;exact this) rfl (k _ rfl (by have:=ZcZ (n:Rat) (m:Rat);have:=Zat h1 h2;have:=Zat h3 h4;rw [cn_z];omega))
end
end Go.Proofs.YtiekmbmgpachpaaGreatDoor.eng
