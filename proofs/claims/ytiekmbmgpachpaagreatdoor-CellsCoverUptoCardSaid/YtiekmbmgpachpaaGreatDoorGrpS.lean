/- Joined by wip/bundle.py: XEngL XEngSpan XEngAro XEngSpan2 XEngSweep XEngBound. -/
import Derived.Test.YtiekmbmgpachpaaGreatDoorEngU
import Derived.Test.YtiekmbmgpachpaaGreatDoorGrpT
set_option maxRecDepth 100000
namespace Go.Proofs.YtiekmbmgpachpaaGreatDoor.eng
open Go.RowKit num mem seg q held ratA ratB ratC ratD ratE vars ratF
def rd (x:RV):List D:= [.v (.bool x.s),.v (.string x.a),.v (.string x.d)]
section
variable {K : AV → Prop}
theorem k_at {xs:List (List D)} {m:Int} {n:Nat} (cs:List D) (h0:0≤m) (h:xs[m.toNat]? =some cs) (hl:cs.length=n) (k:K (.val (.one (.ref cs)))):
  ∃ r,(∃ cs,0≤m∧xs[m.toNat]? =some cs∧cs.length=n∧r= .val (.one (.ref cs)))∧K r:=⟨_,⟨cs,h0,h,hl,rfl⟩,k⟩
theorem wrap64 (n:Int) (h1:-9223372036854775808≤n) (h2:n≤9223372036854775807):IntKind.i64.wrap n=n:=by
 unfold IntKind.wrap
 simp [IntKind.signed,IntKind.bits]
 split<;>omega
end
def lowF (m a:Rat):Rat:=if a< m then a else m
def highF (m a:Rat):Rat:=if m< a then a else m
def lowL (q:Rat) (l:List Rat):Rat:=l.foldl lowF q
def highL (q:Rat) (l:List Rat):Rat:=l.foldl highF q
theorem ZhZ (l:List Rat):∀ q,lowL q l=q∨lowL q l∈l:=by
 induction l with
 |nil=>intro q;exact .inl rfl
 |cons a l ih=>
  intro q
  show lowL (lowF q a) l=q∨lowL (lowF q a) l∈a :: l
  rcases ih (lowF q a) with h|h
  ·rw [h];unfold lowF;split
   ·exact .inr List.mem_cons_self
   ·exact .inl rfl
  ·exact .inr (List.mem_cons_of_mem _ h)
theorem ZeK (l:List Rat):∀ q,lowL q l≤q∧∀ a,a∈l→lowL q l≤a:=by
 induction l with
 |nil=>intro q;exact⟨Rat.le_refl,fun a h=>by simp at h⟩
 |cons a l ih=>
  intro q
  obtain⟨h1,h2⟩:=ih (lowF q a)
  have h3:lowF q a≤q∧lowF q a≤a:=by
   unfold lowF;split
   ·rename_i h;exact⟨Rat.le_of_lt h,Rat.le_refl⟩
   ·rename_i h;exact⟨Rat.le_refl,Rat.not_lt.1 h⟩
  refine⟨Rat.le_trans h1 h3.1,fun b hb=> ?_⟩
  rcases List.mem_cons.1 hb with rfl|hb
  ·exact Rat.le_trans h1 h3.2
  ·exact h2 b hb
theorem ZfU (l:List Rat):∀ q,highL q l=q∨highL q l∈l:=by
 induction l with
 |nil=>intro q;exact .inl rfl
 |cons a l ih=>
  intro q
  show highL (highF q a) l=q∨highL (highF q a) l∈a :: l
  rcases ih (highF q a) with h|h
  ·rw [h];unfold highF;split
   ·exact .inr List.mem_cons_self
   ·exact .inl rfl
  ·exact .inr (List.mem_cons_of_mem _ h)
theorem ZcJ (l:List Rat):∀ q,q≤highL q l∧∀ a,a∈l→a≤highL q l:=by
 induction l with
 |nil=>intro q;exact⟨Rat.le_refl,fun a h=>by simp at h⟩
 |cons a l ih=>
  intro q
  obtain⟨h1,h2⟩:=ih (highF q a)
  have h3:q≤highF q a∧a≤highF q a:=by
   unfold highF;split
   ·rename_i h;exact⟨Rat.le_of_lt h,Rat.le_refl⟩
   ·rename_i h;exact⟨Rat.le_refl,Rat.not_lt.1 h⟩
  refine⟨Rat.le_trans h3.1 h1,fun b hb=> ?_⟩
  rcases List.mem_cons.1 hb with rfl|hb
  ·exact Rat.le_trans h3.2 h1
  ·exact h2 b hb
end Go.Proofs.YtiekmbmgpachpaaGreatDoor.eng
namespace Go.Proofs.YtiekmbmgpachpaaGreatDoor.eng
open Go.RowKit num mem seg q held ratA ratB ratC ratD ratE vars ratF trq
section
variable {x y z t : RV} {h g : Bool} {K : AV → Prop}
def sgd (x y:RV):Prop:=x.good∧y.good∧x.q≤y.q
instance (x y:RV):Decidable (sgd x y):=inferInstanceAs (Decidable (x.good∧y.good∧x.q≤y.q))
def slo (x y:RV):Rat:=if sgd x y then x.q else ((0:Int):Rat)
def shi (x y:RV):Rat:=if sgd x y then y.q else ((0:Int):Rat)
theorem Zrh (x y:RV):(cn (slo x y)).z≤x.z+8:=by
 rw [cn_z];unfold slo;split
 ·have:=x.z1;omega
 ·have:=qs_0;omega
theorem Zrk (x y:RV):(cn (shi x y)).z≤y.z+8:=by
 rw [cn_z];unfold shi;split
 ·have:=y.z1;omega
 ·have:=qs_0;omega
theorem Zri (h:sgd x y):cn (slo x y)=x:=by rw [slo,if_pos h];exact(RV.good_cn h.1).symm
theorem Zrl (h:sgd x y):cn (shi x y)=y:=by rw [shi,if_pos h];exact(RV.good_cn h.2.1).symm
theorem Zrj (h:¬ sgd x y):slo x y=((0:Int):Rat):=if_neg h
theorem Zrm (h:¬ sgd x y):shi x y=((0:Int):Rat):=if_neg h
theorem ZnN {p q:Rat}:sgd (cn p) (cn q)↔p≤q:=by
 unfold sgd;rw [cn_q,cn_q];exact⟨fun h=>h.2.2,fun h=>⟨ZlX p,ZlX q,h⟩⟩
theorem ZnL {p q:Rat} (h:p≤q):slo (cn p) (cn q)=p:=by rw [slo,if_pos (ZnN.2 h),cn_q]
theorem ZnM {p q:Rat} (h:p≤q):shi (cn p) (cn q)=q:=by rw [shi,if_pos (ZnN.2 h),cn_q]
def hasQ (l h a:Rat):Bool:=decide (l≤a)&&decide (a≤h)
theorem dle (p q:Rat):decide (cmpQ p q≤0)=decide (p≤q):=decide_eq_decide.2 (ZiA p q)
theorem hl (a b c:Rat) (h:a< b):hasQ a c b=decide (b≤c):=by simp [hasQ,Rat.le_of_lt h]
theorem he (a b c:Rat) (h:a=b):hasQ a c b=decide (b≤c):=by simp [hasQ,h]
theorem hg (a b c:Rat) (h:b< a):hasQ a c b=false:=by simp [hasQ,Rat.not_le.2 h]
theorem ZiZ (x y:RV) (hx:x.z≤1099511627776) (hy:y.z≤1099511627776):Spec Tryz.prog Tab 87 [pair x y] (bool (decide (sgd x y))):=by
 refine Zd Tryz.func87 rfl rfl Tryz.ntmps87 rfl (by kernel_rfl) rfl rfl ?_
 refine Zh8 (by omega) (fun g1=> ?_) (fun g1=> ?_)
 ·skip
  refine Zh8 (by omega) (fun g2=> ?_) (fun g2=> ?_)
  ·skip
   refine Zbu (by omega) (by omega) fun n3 h3=> ?_
   try simp only [cn_q] at h3
   refine Eq.trans (b:=bool _) ?_ rfl
   subst h3;rw [dle];exact congrArg bool (decide_eq_decide.2 ⟨fun h=>h.2.2,fun h=>⟨g1,g2,h⟩⟩)
  ·skip
   refine Eq.trans (b:=bool _) ?_ rfl
   exact congrArg bool (decide_eq_false fun h=>g2 h.2.1)
 ·skip
  refine Eq.trans (b:=bool _) ?_ rfl
  exact congrArg bool (decide_eq_false fun h=>g1 h.1)
theorem Zo3 (hx:x.z≤1099511627776) (hy:y.z≤1099511627776) (k:∀ b,b=decide (sgd x y)→K (bool b)):Ask 87 [pair x y] K:=
 use (ZiZ x y hx hy) rfl (k _ rfl)
theorem Zlh (hx:x.z≤1099511627776) (hy:y.z≤1099511627776) (k1:sgd x y→K (bool true)) (k0:¬ sgd x y→K (bool false)):Ask 87 [pair x y] K:=
 Zo3 hx hy fun b e=>by
  by_cases H:sgd x y
  ·rw [decide_eq_true H] at e;subst e;exact k1 H
  ·rw [decide_eq_false H] at e;subst e;exact k0 H
theorem ZhD (x:RV) (hx:x.z≤4398046511104):Spec Tryz.prog Tab 11 [rat x] (pair (cn x.q) (cn x.q)):=by
 refine Zd Tryz.func11 rfl rfl Tryz.ntmps11 rfl (by kernel_rfl) rfl rfl ?_
 refine Zbz (by omega) fun q1 h1 z1=> ?_
 try simp only [cn_q] at h1
 refine Eq.trans (b:=pair (cn _) (cn _)) ?_ rfl
 subst_vars;rfl
theorem Zrw (hx:x.z≤4398046511104) (k:∀ q,q=x.q→(cn q).z≤x.z+1→K (pair (cn q) (cn q))):Ask 11 [rat x] K:=
 use (ZhD x hx) rfl (k _ rfl (by have:=x.z1;rw [cn_z];omega))
theorem Zkm (x y:RV) (hx:x.z≤1099511627776) (hy:y.z≤1099511627776):Spec Tryz.prog Tab 42 [pair x y] (pair (cn (slo x y)) (cn (shi x y))):=by
 refine Zd Tryz.func42 rfl rfl Tryz.ntmps42 rfl (by kernel_rfl) rfl rfl ?_
 refine Zlh (by omega) (by omega) (fun g1=> ?_) (fun g1=> ?_)
 ·skip
  refine⟨fun e=>by simp at e,fun _=> ?_⟩
  refine Eq.trans (b:=pair _ _) ?_ rfl
  rw [Zri g1,Zrl g1]
 ·skip
  refine⟨fun _=> ?_,fun e=>by simp at e⟩
  refine k_of (0) (by omega) (by omega) fun q2 h2 z2=> ?_
  refine Zrw (by omega) fun q3 h3 z3=> ?_
  try simp only [cn_q] at h3
  refine Eq.trans (b:=pair (cn _) (cn _)) ?_ rfl
  rw [Zrj g1,Zrm g1];subst_vars;rfl
theorem Zqu (hx:x.z≤1099511627776) (hy:y.z≤1099511627776) (k:∀ p q,p=slo x y→q=shi x y→(cn p).z≤x.z+8→(cn q).z≤y.z+8→K (pair (cn p) (cn q))):Ask 42 [pair x y] K:=
 use (Zkm x y hx hy) rfl (k _ _ rfl rfl (Zrh x y) (Zrk x y))
theorem ZiY (x y:RV) (hx:x.z≤1099511627776) (hy:y.z≤1099511627776):Spec Tryz.prog Tab 75 [rat x,rat y] (if y.q< x.q then two (pair z0 z0) (int 9) else two (pair (cn x.q) (cn y.q)) (int 0)):=by
 refine Zd Tryz.func75 rfl rfl Tryz.ntmps75 rfl (by kernel_rfl) rfl rfl ?_
 refine Zbu (by omega) (by omega) fun n1 h1=> ?_
 try simp only [cn_q] at h1
 refine⟨fun e2=> ?_,fun e2=> ?_⟩
 ·skip
  refine Eq.trans (b:=two (pair z0 z0) (int 9)) ?_ rfl
  rw [if_pos (by subst h1;exact(Zco _ _).1 (of_decide_eq_true e2))]
 ·skip
  refine Zbz (by omega) fun q3 h3 z3=> ?_
  try simp only [cn_q] at h3
  refine Zbz (by omega) fun q4 h4 z4=> ?_
  try simp only [cn_q] at h4
  refine⟨by kernel_rfl,?_⟩
  refine Eq.trans (b:=two (pair (cn _) (cn _)) (int 0)) ?_ rfl
  rw [if_neg (by subst h1;exact fun h=>of_decide_eq_false e2 ((Zco _ _).2 h))];subst_vars;rfl
theorem Zb2 (hx:x.z≤1099511627776) (hy:y.z≤1099511627776) (k1:y.q< x.q→K (two (pair z0 z0) (int 9))) (k0:¬ y.q< x.q→∀ p q,p=x.q→q=y.q→(cn p).z≤x.z+1→(cn q).z≤y.z+1→K (two (pair (cn p) (cn q)) (int 0))):Ask 75 [rat x,rat y] K:=by
 have hs:=ZiY x y hx hy
 by_cases H:y.q< x.q
 ·rw [if_pos H] at hs;exact use hs rfl (k1 H)
 ·rw [if_neg H] at hs;exact use hs rfl (k0 H _ _ rfl rfl (by have:=x.z1;rw [cn_z];omega) (by have:=y.z1;rw [cn_z];omega))
theorem Zkl (x y z:RV) (hx:x.z≤1099511627776) (hy:y.z≤1099511627776) (hz:z.z≤1099511627776):Spec Tryz.prog Tab 37 [pair x y,rat z] (bool (hasQ (slo x y) (shi x y) z.q)):=by
 refine Zd Tryz.func37 rfl rfl Tryz.ntmps37 rfl (by kernel_rfl) rfl rfl ?_
 refine Zqu (by omega) (by omega) fun p1 q1 e1 h1 y1 z1=> ?_
 try simp only [cn_q] at e1 h1
 refine ZqH (by omega) (by omega) (fun g2=> ?_) (fun g2=> ?_) (fun g2=> ?_)
 ·try simp only [cn_q] at g2
  refine Zbu (by omega) (by omega) fun n3 h3=> ?_
  try simp only [cn_q] at h3
  refine Eq.trans (b:=bool _) ?_ rfl
  subst_vars
  first
   |(rw [hl _ _ _ (by assumption),dle])
   |(rw [he _ _ _ (by assumption),dle])
   |(rw [hg _ _ _ (by assumption)])
   |(rw [he _ _ _ rfl,dle])
   |(simp_all [dle,hasQ,Rat.le_refl])
 ·try simp only [cn_q] at g2
  refine Zbu (by omega) (by omega) fun n4 h4=> ?_
  try simp only [cn_q] at h4
  refine Eq.trans (b:=bool _) ?_ rfl
  subst_vars
  first
   |(rw [hl _ _ _ (by assumption),dle])
   |(rw [he _ _ _ (by assumption),dle])
   |(rw [hg _ _ _ (by assumption)])
   |(rw [he _ _ _ rfl,dle])
   |(simp_all [dle,hasQ,Rat.le_refl])
 ·try simp only [cn_q] at g2
  refine Eq.trans (b:=bool _) ?_ rfl
  subst_vars
  first
   |(rw [hl _ _ _ (by assumption),dle])
   |(rw [he _ _ _ (by assumption),dle])
   |(rw [hg _ _ _ (by assumption)])
   |(rw [he _ _ _ rfl,dle])
   |(simp_all [dle,hasQ,Rat.le_refl])
theorem Zn4 (hx:x.z≤1099511627776) (hy:y.z≤1099511627776) (hz:z.z≤1099511627776) (k:∀ b,b=hasQ (slo x y) (shi x y) z.q→K (bool b)):Ask 37 [pair x y,rat z] K:=
 use (Zkl x y z hx hy hz) rfl (k _ rfl)
theorem hl' (a b c:Rat) (h:a< b):hasQ b c a=false:=hg _ _ _ h
end
end Go.Proofs.YtiekmbmgpachpaaGreatDoor.eng
namespace Go.Proofs.YtiekmbmgpachpaaGreatDoor.eng
open Go.RowKit num mem seg q held ratA ratB ratC ratD ratE vars ratF trq
section
variable {x y z t : RV} {K : AV → Prop}
def fv (g:FuncId):AV:= .val (.one (.d (.v (.func (.func g) #[] #[]))))
end
end Go.Proofs.YtiekmbmgpachpaaGreatDoor.eng
namespace Go.Proofs.YtiekmbmgpachpaaGreatDoor.eng
open Go.RowKit num mem seg q held ratA ratB ratC ratD ratE vars ratF trq
section
variable {x y z t : RV} {K : AV → Prop}
end
end Go.Proofs.YtiekmbmgpachpaaGreatDoor.eng
namespace Go.Proofs.YtiekmbmgpachpaaGreatDoor.eng
open Go.RowKit num mem seg q held ratA ratB ratC ratD ratE vars ratF trq
section
variable {x y z t u v w : RV} {K : AV → Prop}
theorem ZjU (x y z t:RV) (hx:x.z≤1099511627776) (hy:y.z≤1099511627776) (hz:z.z≤1099511627776) (ht:t.z≤1099511627776):Spec Tryz.prog Tab 24 [pair x y,pair z t] (pair (cn (x.q+z.q)) (cn (y.q+t.q))):=by
 refine Zd Tryz.func24 rfl rfl Tryz.ntmps24 rfl (by kernel_rfl) rfl rfl ?_
 refine Zcj (by omega) (by omega) fun q1 h1 z1=> ?_
 try simp only [cn_q] at h1
 refine Zcj (by omega) (by omega) fun q2 h2 z2=> ?_
 try simp only [cn_q] at h2
 refine⟨by kernel_rfl,?_⟩
 refine Eq.trans (b:=pair (cn _) (cn _)) ?_ rfl
 subst_vars;rfl
theorem ZfP (hx:x.z≤1099511627776) (hy:y.z≤1099511627776) (hz:z.z≤1099511627776) (ht:t.z≤1099511627776) (k:∀ p q,p=x.q+z.q→q=y.q+t.q→(cn p).z≤x.z+z.z+3→(cn q).z≤y.z+t.z+3→K (pair (cn p) (cn q))):Ask 24 [pair x y,pair z t] K:=
 use (ZjU x y z t hx hy hz ht) rfl (k _ _ rfl rfl (by have:=Z8 x.q z.q;have:=x.z1;have:=y.z1;have:=z.z1;have:=t.z1;rw [cn_z];omega) (by have:=Z8 y.q t.q;have:=x.z1;have:=y.z1;have:=z.z1;have:=t.z1;rw [cn_z];omega))
theorem ZjS (x y z t:RV) (hx:x.z≤1099511627776) (hy:y.z≤1099511627776) (hz:z.z≤1099511627776) (ht:t.z≤1099511627776):Spec Tryz.prog Tab 102 [pair x y,pair z t] (pair (cn (x.q - z.q)) (cn (y.q - t.q))):=by
 refine Zd Tryz.func102 rfl rfl Tryz.ntmps102 rfl (by kernel_rfl) rfl rfl ?_
 refine Zjk (by omega) (by omega) fun q1 h1 z1=> ?_
 try simp only [cn_q] at h1
 refine Zjk (by omega) (by omega) fun q2 h2 z2=> ?_
 try simp only [cn_q] at h2
 refine⟨by kernel_rfl,?_⟩
 refine Eq.trans (b:=pair (cn _) (cn _)) ?_ rfl
 subst_vars;rfl
theorem Zh4 (hx:x.z≤1099511627776) (hy:y.z≤1099511627776) (hz:z.z≤1099511627776) (ht:t.z≤1099511627776) (k:∀ p q,p=x.q - z.q→q=y.q - t.q→(cn p).z≤x.z+z.z+3→(cn q).z≤y.z+t.z+3→K (pair (cn p) (cn q))):Ask 102 [pair x y,pair z t] K:=
 use (ZjS x y z t hx hy hz ht) rfl (k _ _ rfl rfl (by have:=Zby x.q z.q;have:=x.z1;have:=y.z1;have:=z.z1;have:=t.z1;rw [cn_z];omega) (by have:=Zby y.q t.q;have:=x.z1;have:=y.z1;have:=z.z1;have:=t.z1;rw [cn_z];omega))
end
end Go.Proofs.YtiekmbmgpachpaaGreatDoor.eng
namespace Go.Proofs.YtiekmbmgpachpaaGreatDoor.eng
open Go.RowKit num mem seg q held ratA ratB ratC ratD ratE vars ratF trq
section
variable {x y z t : RV} {K : AV → Prop}
def rdv (p:RV×RV):List D:=rd p.1++rd p.2
def vecs (l:List (RV×RV)):AV:= .val (.one (.d (.list (l.map rdv))))
def xsQ (l:List (RV×RV)):List Rat:=l.map fun p=>p.1.q
def ysQ (l:List (RV×RV)):List Rat:=l.map fun p=>p.2.q
end
end Go.Proofs.YtiekmbmgpachpaaGreatDoor.eng
