/- Joined by wip/bundle.py: XEngL XEngSpan XEngAro XEngSpan2 XEngSweep XEngBound. -/
import Derived.Test.YtgkofgfiifgioaaGreatDoorQGrpT
set_option maxRecDepth 100000
namespace Go.Proofs.YtgkofgfiifgioaaGreatDoor.eng
open Go.RowKit num mem seg q held ratA ratB ratC ratD ratE vars ratF
def rd (x:RV):List D:= [.v (.bool x.s),.v (.string x.a),.v (.string x.d)]
def rats (l:List Rat):AV:= .val (.one (.d (.list (l.map fun q=>rd (cn q)))))
section
variable {K : AV → Prop}
theorem k_at {xs:List (List D)} {m:Int} {n:Nat} (cs:List D) (h0:0≤m) (h:xs[m.toNat]? =some cs) (hl:cs.length=n) (k:K (.val (.one (.ref cs)))):
  ∃ r,(∃ cs,0≤m∧xs[m.toNat]? =some cs∧cs.length=n∧r= .val (.one (.ref cs)))∧K r:=⟨_,⟨cs,h0,h,hl,rfl⟩,k⟩
theorem ZpU {l:List Rat} {m:Int} {i:Nat} {q:Rat} (hm:m=(i:Int)) (h:l[i]? =some q):(l.map fun q=>rd (cn q))[m.toNat]? =some (rd (cn q)):=by
 subst hm
 rw [Int.toNat_natCast,List.getElem?_map,h];rfl
theorem Zsh {l:List Rat} {m:Int} (i:Nat) (q:Rat) (hm:m=(i:Int)) (h:l[i]? =some q) (k:K (.val (.one (.ref (rd (cn q)))))):
  ∃ r,(∃ cs,0≤m∧(l.map fun q=>rd (cn q))[m.toNat]? =some cs∧cs.length=3∧r= .val (.one (.ref cs)))∧K r:=k_at _ ω (ZpU hm h) rfl k
theorem wrap64 (n:Int) (h1:-9223372036854775808≤n) (h2:n≤9223372036854775807):IntKind.i64.wrap n=n:=by
 unfold IntKind.wrap
 simp [IntKind.signed,IntKind.bits]
 split<;>omega
theorem ωf {P:Prop} (h:P:=by first|rfl|omega|(rw [wrap64 _ ω ω];omega)|(rw [wrap64 _ ω ω];split<;>omega)):P:=h
theorem ωw {P:Prop} (h:P:=by rw [wrap64 _ ω ω];omega):P:=h
theorem ωg {P:Prop} (h:P:=by first|rfl|assumption|omega|(rw [wrap64 _ ω ω];omega)|(rw [wrap64 _ ω ω];done)):P:=h
theorem ωh {P:Prop} (h:P:=by first|rfl|omega|(rw [wrap64 _ ω ω];omega)):P:=h
theorem ωa {a b:Int} (h:a=b:=by omega):D.v (.int .i64 a)=D.v (.int .i64 b):=congrArg (fun n:Int=>D.v (.int .i64 n)) h
theorem ωb {a b:Int} (h:a=b:=by rw [wrap64 _ ω ω];omega):D.v (.int .i64 a)=D.v (.int .i64 b):=congrArg (fun n:Int=>D.v (.int .i64 n)) h
theorem ωe {P:Prop} (h:P:=by
 constructor<;>(repeat' (first|exact rfl|exact True.intro|exact⟨_,_,rfl⟩|exact ωd|apply And.intro))
 all_goals first|exact congrArg (fun n:Int=>D.v (.int .i64 n)) ω|exact congrArg (fun n:Int=>D.v (.int .i64 n)) (by rw [wrap64 _ ω ω];omega)|(simp;done)):P:=h
end
def lowF (m a:Rat):Rat:=if a< m then a else m
def highF (m a:Rat):Rat:=if m< a then a else m
def lowL (q:Rat) (l:List Rat):Rat:=l.foldl lowF q
def highL (q:Rat) (l:List Rat):Rat:=l.foldl highF q
theorem ZcY (l:List Rat):∀ q,lowL q l=q∨lowL q l∈l:=by
 induction l with
 |nil=>intro q;exact .inl rfl
 |cons a l ih=>
  intro q
  show lowL (lowF q a) l=q∨lowL (lowF q a) l∈a :: l
  rcases ih (lowF q a) with h|h
  ·rw [h];unfold lowF;split
   ·exact .inr List.mem_cons_self
   ·exact .inl rfl
  ·exact .inr (List.mem_cons_of_mem _ h)
theorem ZbF (l:List Rat):∀ q,lowL q l≤q∧∀ a,a∈l→lowL q l≤a:=by
 induction l with
 |nil=>intro q;exact⟨Rat.le_refl,fun a h=>by simp at h⟩
 |cons a l ih=>
  intro q
  obtain⟨h1,h2⟩:=ih (lowF q a)
  have h3:lowF q a≤q∧lowF q a≤a:=by
   unfold lowF;split
   ·rename_i h;exact⟨Rat.le_of_lt h,Rat.le_refl⟩
   ·rename_i h;exact⟨Rat.le_refl,Rat.not_lt.1 h⟩
  refine⟨Rat.le_trans h1 h3.1,fun b hb=> ?_⟩
  rcases List.mem_cons.1 hb with rfl|hb
  ·exact Rat.le_trans h1 h3.2
  ·exact h2 b hb
theorem Zdw (l:List Rat):∀ q,highL q l=q∨highL q l∈l:=by
 induction l with
 |nil=>intro q;exact .inl rfl
 |cons a l ih=>
  intro q
  show highL (highF q a) l=q∨highL (highF q a) l∈a :: l
  rcases ih (highF q a) with h|h
  ·rw [h];unfold highF;split
   ·exact .inr List.mem_cons_self
   ·exact .inl rfl
  ·exact .inr (List.mem_cons_of_mem _ h)
theorem ZaI (l:List Rat):∀ q,q≤highL q l∧∀ a,a∈l→a≤highL q l:=by
 induction l with
 |nil=>intro q;exact⟨Rat.le_refl,fun a h=>by simp at h⟩
 |cons a l ih=>
  intro q
  obtain⟨h1,h2⟩:=ih (highF q a)
  have h3:q≤highF q a∧a≤highF q a:=by
   unfold highF;split
   ·rename_i h;exact⟨Rat.le_of_lt h,Rat.le_refl⟩
   ·rename_i h;exact⟨Rat.le_refl,Rat.not_lt.1 h⟩
  refine⟨Rat.le_trans h3.1 h1,fun b hb=> ?_⟩
  rcases List.mem_cons.1 hb with rfl|hb
  ·exact Rat.le_trans h3.2 h1
  ·exact h2 b hb
open trq
section
variable {x y z t : RV} {h g : Bool} {K : AV → Prop}
def sgd (x y:RV):Prop:=x.good∧y.good∧x.q≤y.q
instance (x y:RV):Decidable (sgd x y):=inferInstanceAs (Decidable (x.good∧y.good∧x.q≤y.q))
def slo (x y:RV):Rat:=if sgd x y then x.q else ((0:Int):Rat)
def shi (x y:RV):Rat:=if sgd x y then y.q else ((0:Int):Rat)
theorem ZfB (x y:RV):slo x y≤shi x y:=by
 unfold slo shi;split
 ·rename_i h;exact h.2.2
 ·exact Rat.le_refl
theorem ZfA (x y:RV):(cn (slo x y)).z≤x.z+8:=by
 rw [cn_z];unfold slo;split
 ·have:=x.z1;omega
 ·have:=qs_0;omega
theorem ZfE (x y:RV):(cn (shi x y)).z≤y.z+8:=by
 rw [cn_z];unfold shi;split
 ·have:=y.z1;omega
 ·have:=qs_0;omega
theorem Zta (h:sgd x y):cn (slo x y)=x:=by rw [slo,if_pos h];exact(RV.good_cn h.1).symm
theorem Ztc (h:sgd x y):cn (shi x y)=y:=by rw [shi,if_pos h];exact(RV.good_cn h.2.1).symm
theorem Ztb (h:¬ sgd x y):slo x y=((0:Int):Rat):=if_neg h
theorem Ztd (h:¬ sgd x y):shi x y=((0:Int):Rat):=if_neg h
theorem Zou {p q:Rat}:sgd (cn p) (cn q)↔p≤q:=by
 unfold sgd;rw [cn_q,cn_q];exact⟨fun h=>h.2.2,fun h=>⟨Zmn p,Zmn q,h⟩⟩
theorem Zai {p q:Rat} (h:p≤q):slo (cn p) (cn q)=p:=by rw [slo,if_pos (Zou.2 h),cn_q]
theorem Zaj {p q:Rat} (h:p≤q):shi (cn p) (cn q)=q:=by rw [shi,if_pos (Zou.2 h),cn_q]
theorem ZrK (p q:Rat):qs (minQ p q)≤qs p+qs q:=by unfold minQ;split<;>omega
theorem ZrL (p q:Rat):qs (maxQ p q)≤qs p+qs q:=by unfold maxQ;split<;>omega
def hasQ (l h a:Rat):Bool:=decide (l≤a)&&decide (a≤h)
theorem dle (p q:Rat):decide (cmpQ p q≤0)=decide (p≤q):=decide_eq_decide.2 (Zmq p q)
theorem hl (a b c:Rat) (h:a< b):hasQ a c b=decide (b≤c):=by simp [hasQ,Rat.le_of_lt h]
theorem he (a b c:Rat) (h:a=b):hasQ a c b=decide (b≤c):=by simp [hasQ,h]
theorem hg (a b c:Rat) (h:b< a):hasQ a c b=false:=by simp [hasQ,Rat.not_le.2 h]
theorem Zjn (x y:RV) (hx:x.z≤1099511627776) (hy:y.z≤1099511627776):Spec Tryz.prog Tab 125 [pair x y] (bool (decide (sgd x y))):=by
 refine Zh Tryz.func125 rfl rfl Tryz.ntmps125 rfl ωr rfl rfl ?_
 refine Zit ω (fun g1=> ?_) (fun g1=> ?_)
 ·skip
  refine Zit ω (fun g2=> ?_) (fun g2=> ?_)
  ·skip
   refine ZcO ω ω fun n3 h3=> ?_
   try simp only [cn_q] at h3
   refine Eq.trans (b:=bool _) ?_ rfl
   subst h3;rw [dle];exact congrArg bool (decide_eq_decide.2 ⟨fun h=>h.2.2,fun h=>⟨g1,g2,h⟩⟩)
  ·skip
   refine Eq.trans (b:=bool _) ?_ rfl
   exact congrArg bool (decide_eq_false fun h=>g2 h.2.1)
 ·skip
  refine Eq.trans (b:=bool _) ?_ rfl
  exact congrArg bool (decide_eq_false fun h=>g1 h.1)
theorem Zqj (hx:x.z≤1099511627776) (hy:y.z≤1099511627776) (k:∀ b,b=decide (sgd x y)→K (bool b)):Ask 125 [pair x y] K:=
 use (Zjn x y hx hy) rfl (k _ rfl)
theorem Zlv (hx:x.z≤1099511627776) (hy:y.z≤1099511627776) (k1:sgd x y→K (bool true)) (k0:¬ sgd x y→K (bool false)):Ask 125 [pair x y] K:=
 Zqj hx hy fun b e=>by
  by_cases H:sgd x y
  ·rw [decide_eq_true H] at e;subst e;exact k1 H
  ·rw [decide_eq_false H] at e;subst e;exact k0 H
theorem Zh5 (x:RV) (hx:x.z≤4398046511104):Spec Tryz.prog Tab 61 [rat x] (pair (cn x.q) (cn x.q)):=by
 refine Zh Tryz.func61 rfl rfl Tryz.ntmps61 rfl ωr rfl rfl ?_
 refine Zbw ω fun q1 h1 z1=> ?_
 try simp only [cn_q] at h1
 refine Eq.trans (b:=pair (cn _) (cn _)) ?_ rfl
 subst_vars;rfl
theorem ZjE (hx:x.z≤4398046511104) (k:∀ q,q=x.q→(cn q).z≤x.z+1→K (pair (cn q) (cn q))):Ask 61 [rat x] K:=
 use (Zh5 x hx) rfl (k _ rfl (by have:=x.z1;rw [cn_z];omega))
theorem Zkx (x y:RV) (hx:x.z≤1099511627776) (hy:y.z≤1099511627776):Spec Tryz.prog Tab 57 [pair x y] (pair (cn (slo x y)) (cn (shi x y))):=by
 refine Zh Tryz.func57 rfl rfl Tryz.ntmps57 rfl ωr rfl rfl ?_
 refine Zlv ω ω (fun g1=> ?_) (fun g1=> ?_)
 ·skip
  refine⟨fun e=>by simp at e,fun _=> ?_⟩
  refine Eq.trans (b:=pair _ _) ?_ rfl
  rw [Zta g1,Ztc g1]
 ·skip
  refine⟨fun _=> ?_,fun e=>by simp at e⟩
  refine k_of (0) ω ω fun q2 h2 z2=> ?_
  refine ZjE ω fun q3 h3 z3=> ?_
  try simp only [cn_q] at h3
  refine Eq.trans (b:=pair (cn _) (cn _)) ?_ rfl
  rw [Ztb g1,Ztd g1];subst_vars;rfl
theorem Zir (hx:x.z≤1099511627776) (hy:y.z≤1099511627776) (k:∀ p q,p=slo x y→q=shi x y→(cn p).z≤x.z+8→(cn q).z≤y.z+8→K (pair (cn p) (cn q))):Ask 57 [pair x y] K:=
 use (Zkx x y hx hy) rfl (k _ _ rfl rfl (ZfA x y) (ZfE x y))
theorem Zjl (x y:RV) (hx:x.z≤1099511627776) (hy:y.z≤1099511627776):Spec Tryz.prog Tab 91 [rat x,rat y] (if y.q< x.q then two (pair z0 z0) (int 9) else two (pair (cn x.q) (cn y.q)) (int 0)):=by
 refine Zh Tryz.func91 rfl rfl Tryz.ntmps91 rfl ωr rfl rfl ?_
 refine ZcO ω ω fun n1 h1=> ?_
 try simp only [cn_q] at h1
 refine⟨fun e2=> ?_,fun e2=> ?_⟩
 ·skip
  refine Eq.trans (b:=two (pair z0 z0) (int 9)) ?_ rfl
  rw [if_pos (by subst h1;exact(ZbM _ _).1 (of_decide_eq_true e2))]
 ·skip
  refine Zbw ω fun q3 h3 z3=> ?_
  try simp only [cn_q] at h3
  refine Zbw ω fun q4 h4 z4=> ?_
  try simp only [cn_q] at h4
  refine⟨ωr,?_⟩
  refine Eq.trans (b:=two (pair (cn _) (cn _)) (int 0)) ?_ rfl
  rw [if_neg (by subst h1;exact fun h=>of_decide_eq_false e2 ((ZbM _ _).2 h))];subst_vars;rfl
theorem Zb8 (hx:x.z≤1099511627776) (hy:y.z≤1099511627776) (k1:y.q< x.q→K (two (pair z0 z0) (int 9))) (k0:¬ y.q< x.q→∀ p q,p=x.q→q=y.q→(cn p).z≤x.z+1→(cn q).z≤y.z+1→K (two (pair (cn p) (cn q)) (int 0))):Ask 91 [rat x,rat y] K:=by
 have hs:=Zjl x y hx hy
 by_cases H:y.q< x.q
 ·rw [if_pos H] at hs;exact use hs rfl (k1 H)
 ·rw [if_neg H] at hs;exact use hs rfl (k0 H _ _ rfl rfl (by have:=x.z1;rw [cn_z];omega) (by have:=y.z1;rw [cn_z];omega))
theorem Zjm (x y z t:RV) (hx:x.z≤1099511627776) (hy:y.z≤1099511627776) (hz:z.z≤1099511627776) (ht:t.z≤1099511627776):Spec Tryz.prog Tab 54 [pair x y,pair z t] (pair (cn (minQ (slo x y) (slo z t))) (cn (maxQ (shi x y) (shi z t)))):=by
 refine Zh Tryz.func54 rfl rfl Tryz.ntmps54 rfl ωr rfl rfl ?_
 refine Zir ω ω fun p1 q1 e1 h1 y1 z1=> ?_
 try simp only [cn_q] at e1 h1
 refine Zir ω ω fun p2 q2 e2 h2 y2 z2=> ?_
 try simp only [cn_q] at e2 h2
 refine⟨ωr,?_⟩
 refine ZnS ω ω fun q3 h3 z3=> ?_
 try simp only [cn_q] at h3
 refine ZnT ω ω fun q4 h4 z4=> ?_
 try simp only [cn_q] at h4
 refine⟨ωr,?_⟩
 refine Eq.trans (b:=pair (cn _) (cn _)) ?_ rfl
 subst_vars;rfl
theorem Zdt (hx:x.z≤1099511627776) (hy:y.z≤1099511627776) (hz:z.z≤1099511627776) (ht:t.z≤1099511627776) (k:∀ p q,p=minQ (slo x y) (slo z t)→q=maxQ (shi x y) (shi z t)→(cn p).z≤x.z+z.z+20→(cn q).z≤y.z+t.z+20→K (pair (cn p) (cn q))):Ask 54 [pair x y,pair z t] K:=
 use (Zjm x y z t hx hy hz ht) rfl (k _ _ rfl rfl (by have h1:=ZfA x y;have h2:=ZfA z t;have h3:=ZfE x y;have h4:=ZfE z t;have:=ZrK (slo x y) (slo z t);rw [cn_z] at*;omega) (by have h1:=ZfA x y;have h2:=ZfA z t;have h3:=ZfE x y;have h4:=ZfE z t;have:=ZrL (shi x y) (shi z t);rw [cn_z] at*;omega))
theorem Zkw (x y z:RV) (hx:x.z≤1099511627776) (hy:y.z≤1099511627776) (hz:z.z≤1099511627776):Spec Tryz.prog Tab 19 [pair x y,rat z] (bool (hasQ (slo x y) (shi x y) z.q)):=by
 refine Zh Tryz.func19 rfl rfl Tryz.ntmps19 rfl ωr rfl rfl ?_
 refine Zir ω ω fun p1 q1 e1 h1 y1 z1=> ?_
 try simp only [cn_q] at e1 h1
 refine Zsr ω ω (fun g2=> ?_) (fun g2=> ?_) (fun g2=> ?_)
 ·try simp only [cn_q] at g2
  refine ZcO ω ω fun n3 h3=> ?_
  try simp only [cn_q] at h3
  refine Eq.trans (b:=bool _) ?_ rfl
  subst_vars
  first
   |(rw [hl _ _ _ ωs,dle])
   |(rw [he _ _ _ ωs,dle])
   |(rw [hg _ _ _ ωs])
   |(rw [he _ _ _ rfl,dle])
   |(simp_all [dle,hasQ,Rat.le_refl])
 ·try simp only [cn_q] at g2
  refine ZcO ω ω fun n4 h4=> ?_
  try simp only [cn_q] at h4
  refine Eq.trans (b:=bool _) ?_ rfl
  subst_vars
  first
   |(rw [hl _ _ _ ωs,dle])
   |(rw [he _ _ _ ωs,dle])
   |(rw [hg _ _ _ ωs])
   |(rw [he _ _ _ rfl,dle])
   |(simp_all [dle,hasQ,Rat.le_refl])
 ·try simp only [cn_q] at g2
  refine Eq.trans (b:=bool _) ?_ rfl
  subst_vars
  first
   |(rw [hl _ _ _ ωs,dle])
   |(rw [he _ _ _ ωs,dle])
   |(rw [hg _ _ _ ωs])
   |(rw [he _ _ _ rfl,dle])
   |(simp_all [dle,hasQ,Rat.le_refl])
theorem ZcI (hx:x.z≤1099511627776) (hy:y.z≤1099511627776) (hz:z.z≤1099511627776) (k:∀ b,b=hasQ (slo x y) (shi x y) z.q→K (bool b)):Ask 19 [pair x y,rat z] K:=
 use (Zkw x y z hx hy hz) rfl (k _ rfl)
def meetQ (a b c d:Rat):Bool:=decide (a≤d)&&decide (c≤b)
theorem ml (a b c d:Rat) (h:a< d):meetQ a b c d=decide (c≤b):=by simp [meetQ,Rat.le_of_lt h]
theorem hl' (a b c:Rat) (h:a< b):hasQ b c a=false:=hg _ _ _ h
end
section
variable {x y z t : RV} {K : AV → Prop}
theorem Zqc (m a:Rat):minQ m a=lowF m a:=by
 unfold minQ lowF
 by_cases h:m≤a
 ·rw [if_pos h,if_neg (Rat.not_lt.2 h)]
 ·rw [if_neg h,if_pos (Rat.not_le.1 h)]
theorem ZnJ (m a:Rat):maxQ m a=highF m a:=by
 unfold maxQ highF
 by_cases h:a≤m
 ·rw [if_pos h,if_neg (Rat.not_lt.2 h)]
 ·rw [if_neg h,if_pos (Rat.not_le.1 h)]
theorem ZfJ (q0:Rat) (l:List Rat) (hz:∀ q,q∈q0 :: l→qs q≤2199023255552) (hn:l.length≤1099511627776):Spec Tryz.prog Tab 126 [rats (q0 :: l)] (pair (cn (lowL q0 l)) (cn (highL q0 l))):=by
 refine Zh Tryz.func126 rfl rfl Tryz.ntmps126 rfl ωr rfl rfl ?_
 refine Zsh 0 q0 rfl rfl ?_
 have hz0:(cn q0).z≤2199023255552:=by rw [cn_z];exact hz q0 (by simp)
 refine ZjE ω fun q1 h1 z1=> ?_
 simp only [cn_q] at h1
 refine⟨rats l,⟨ω,by simp;omega,?_,rfl⟩,?_⟩
 ·intro row hr
  simp only [List.mem_map] at hr
  obtain⟨q,_,rfl⟩:=hr
  rfl
 refine⟨Nat×Rat×Rat,fun s=> [(11,rats l),(12,int (((l.map fun q=>rd (cn q)).length:Nat):Int)),(13,int (s.1:Int)),(3,.val (.one (.ptr 3 0))),(2,.val (.one (.ptr 2 0)))],
  fun s=> [(2,.var 40 [.d (.v (.bool false)),.d (.v (.string ⟨#[]⟩)),.d (.v (.string ⟨#[]⟩)),.d (.v (.bool false)),.d (.v (.string ⟨#[]⟩)),.d (.v (.string ⟨#[]⟩))]),(3,.var 40 (rc (cn s.2.1)++rc (cn s.2.2)))],
  fun s=>s.1≤l.length∧qs s.2.1≤2199023255552∧qs s.2.2≤2199023255552∧(l.drop s.1).foldl lowF s.2.1=lowL q0 l∧(l.drop s.1).foldl highF s.2.2=highL q0 l,
  fun s=>l.length - s.1,(0,q1,q1),?_,⟨Nat.zero_le _,by subst h1;exact hz0,by subst h1;exact hz0,by subst h1;rfl,by subst h1;rfl⟩,fun s hs=> ?_⟩
 ·constructor<;>(repeat' (first|exact rfl|exact True.intro|apply And.intro))
 obtain⟨i,lo,hi⟩:=s
 obtain⟨h1,h2,h3,h4,h5⟩:=hs
 simp only at h1 h2 h3 h4 h5
 refine⟨fun e=> ?_,fun e=> ?_⟩
 ·have hlt:i< l.length:=by have:=of_decide_eq_true e;rw [List.length_map] at this;omega
  obtain⟨a,ha⟩:∃ a,l[i]? =some a:=⟨_,List.getElem?_eq_getElem hlt⟩
  have hza:=hz a (List.mem_cons_of_mem _ (List.mem_of_getElem? ha))
  have hdrop:l.drop i=a :: l.drop (i+1):=by
   rw [List.drop_eq_getElem_cons hlt]
   rw [List.getElem?_eq_getElem hlt] at ha
   rw [Option.some.inj ha]
  rw [hdrop,List.foldl_cons] at h4 h5
  have hw:IntKind.i64.wrap ((i:Int)+1)=((i+1:Nat):Int):=by rw [wrap64 _ ω ω];omega
  have zl:(cn lo).z≤2199023255552:=by rw [cn_z];exact h2
  have zh:(cn hi).z≤2199023255552:=by rw [cn_z];exact h3
  have za:(cn a).z≤2199023255552:=by rw [cn_z];exact hza
  refine Zsh i a rfl ha ?_
  refine ZnS (x:=cn lo) (y:=cn a) ω ω fun r1 f1 w1=> ?_
  simp only [cn_q] at f1
  refine ZnT (x:=cn hi) (y:=cn a) ω ω fun r2 f2 w2=> ?_
  simp only [cn_q] at f2
  refine⟨ωr,?_⟩
  rw [Zqc] at f1
  rw [ZnJ] at f2
  refine⟨(i+1,r1,r2),⟨hlt,?_,?_,?_,?_⟩,by simp only;omega,?_⟩
  ·subst f1;simp only [lowF];split<;>assumption
  ·subst f2;simp only [highF];split<;>assumption
  ·subst f1;exact h4
  ·subst f2;exact h5
  ·constructor<;>(repeat' (first|exact rfl|exact True.intro|apply And.intro))
   all_goals exact congrArg (fun n:Int=>D.v (.int .i64 n)) hw.symm
 ·have hge:l.length≤i:=by have:=of_decide_eq_false e;rw [List.length_map] at this;omega
  refine Eq.trans (b:=pair (cn lo) (cn hi)) ?_ rfl
  rw [List.drop_eq_nil_of_le hge] at h4 h5
  rw [← h4,← h5];rfl
theorem ZoM {q0 m:Rat} {l:List Rat} (h1:m=q0∨m∈l) (h2:m≤q0) (h3:∀ a,a∈l→m≤a):lowL q0 l=m:=by
 refine Rat.le_antisymm ?_ ?_
 ·rcases h1 with rfl|h1
  ·exact(ZbF l _).1
  ·exact(ZbF l q0).2 _ h1
 ·rcases ZcY l q0 with h|h
  ·rw [h];exact h2
  ·exact h3 _ h
theorem ZlG {q0 m:Rat} {l:List Rat} (h1:m=q0∨m∈l) (h2:q0≤m) (h3:∀ a,a∈l→a≤m):highL q0 l=m:=by
 refine Rat.le_antisymm ?_ ?_
 ·rcases Zdw l q0 with h|h
  ·rw [h];exact h2
  ·exact h3 _ h
 ·rcases h1 with rfl|h1
  ·exact(ZaI l _).1
  ·exact(ZaI l q0).2 _ h1
theorem ZeY {q0:Rat} {l:List Rat} {B:Nat} (hz:∀ q,q∈q0 :: l→qs q≤B):qs (lowL q0 l)≤B:=by
 rcases ZcY l q0 with h|h
 ·rw [h];exact hz _ (by simp)
 ·exact hz _ (List.mem_cons_of_mem _ h)
theorem ZcZ {q0:Rat} {l:List Rat} {B:Nat} (hz:∀ q,q∈q0 :: l→qs q≤B):qs (highL q0 l)≤B:=by
 rcases Zdw l q0 with h|h
 ·rw [h];exact hz _ (by simp)
 ·exact hz _ (List.mem_cons_of_mem _ h)
theorem Zlw (B:Nat) (hB:B≤2199023255552) (q0:Rat) (l:List Rat) {v:List (List D)} (hv:v=(q0 :: l).map fun q=>rd (cn q)) (hz:∀ q,q∈q0 :: l→qs q≤B) (hn:l.length≤1099511627776)
  (k:∀ p q,p=lowL q0 l→q=highL q0 l→(cn p).z≤B→(cn q).z≤B→K (pair (cn p) (cn q))):Ask 126 [.val (.one (.d (.list v)))] K:=by
 subst hv
 exact use (ZfJ q0 l (fun q h=>Nat.le_trans (hz q h) hB) hn) rfl (k _ _ rfl rfl (by rw [cn_z];exact ZeY hz) (by rw [cn_z];exact ZcZ hz))
def fv (g:FuncId):AV:= .val (.one (.d (.v (.func (.func g) #[] #[]))))
end
section
variable {x y z t : RV} {K : AV → Prop}
def sqLo (a b:Rat):Rat:=if hasQ a b ((0:Int):Rat)=true then ((0:Int):Rat) else lowL (a*a) [b*b]
def sqHi (a b:Rat):Rat:=highL (a*a) [b*b]
theorem Zm5 (x y:RV) (hx:x.z≤68719476736) (hy:y.z≤68719476736):Spec Tryz.prog Tab 58 [pair x y] (pair (cn (sqLo (slo x y) (shi x y))) (cn (sqHi (slo x y) (shi x y)))):=by
 refine Zh Tryz.func58 rfl rfl Tryz.ntmps58 rfl ωr rfl rfl ?_
 refine Zir ω ω fun p1 q1 e1 h1 y1 z1=> ?_
 try simp only [cn_q] at e1 h1
 refine Za8 ω ω fun q2 h2 z2=> ?_
 try simp only [cn_q] at h2
 refine Za8 ω ω fun q3 h3 z3=> ?_
 try simp only [cn_q] at h3
 refine Zlw 1099511627776 ωd q2 [q3] rfl (by intro q hq;simp only [List.mem_cons,List.mem_nil_iff,or_false] at hq;rcases hq with rfl|rfl<;>(simp only [cn_z] at*;omega)) (by simp) fun p4 q4 e4 h4 y4 z4=> ?_
 refine⟨ωr,?_⟩
 refine k_of (0) ω ω fun q5 h5 z5=> ?_
 refine ZcI ω ω ω fun b6 h6=> ?_
 try rw [Zai (by subst_vars;exact ZfB _ _),Zaj (by subst_vars;exact ZfB _ _),cn_q] at h6
 refine⟨ωr,?_⟩
 refine⟨fun e7=> ?_,fun e7=> ?_⟩
 ·skip
  refine k_of (0) ω ω fun q8 h8 z8=> ?_
  refine Eq.trans (b:=pair (cn _) (cn _)) ?_ rfl
  unfold sqLo sqHi
  subst_vars
  first
   |rw [if_pos (Eq.symm ωs)]
   |rw [if_neg (ne_true_of_eq_false (Eq.symm ωs))]
 ·skip
  refine Eq.trans (b:=pair (cn _) (cn _)) ?_ rfl
  unfold sqLo sqHi
  subst_vars
  first
   |rw [if_pos (Eq.symm ωs)]
   |rw [if_neg (ne_true_of_eq_false (Eq.symm ωs))]
theorem sq_z (x y:RV):∀ q,q∈slo x y*slo x y :: [shi x y*shi x y]→qs q≤2*x.z+2*y.z+20:=by
 have h1:=ZfA x y
 have h2:=ZfE x y
 rw [cn_z] at h1 h2
 have:=Z2 (slo x y) (slo x y)
 have:=Z2 (shi x y) (shi x y)
 intro q h
 simp only [List.mem_cons,List.mem_nil_iff,or_false] at h
 rcases h with rfl|rfl<;>omega
theorem Zto (hx:x.z≤68719476736) (hy:y.z≤68719476736) (k:∀ p q,p=sqLo (slo x y) (shi x y)→q=sqHi (slo x y) (shi x y)→(cn p).z≤2*x.z+2*y.z+20→(cn q).z≤2*x.z+2*y.z+20→K (pair (cn p) (cn q))):Ask 58 [pair x y] K:=
 use (Zm5 x y hx hy) rfl (k _ _ rfl rfl (by rw [cn_z];unfold sqLo;split;(have:=qs_0;omega);exact ZeY (sq_z x y)) (by rw [cn_z];exact ZcZ (sq_z x y)))
end
section
variable {x y z t u v w : RV} {K : AV → Prop}
theorem Zj3 (x y z t:RV) (hx:x.z≤1099511627776) (hy:y.z≤1099511627776) (hz:z.z≤1099511627776) (ht:t.z≤1099511627776):Spec Tryz.prog Tab 93 [pair x y,pair z t] (pair (cn (x.q+z.q)) (cn (y.q+t.q))):=by
 refine Zh Tryz.func93 rfl rfl Tryz.ntmps93 rfl ωr rfl rfl ?_
 refine Za9 ω ω fun q1 h1 z1=> ?_
 try simp only [cn_q] at h1
 refine Za9 ω ω fun q2 h2 z2=> ?_
 try simp only [cn_q] at h2
 refine⟨ωr,?_⟩
 refine Eq.trans (b:=pair (cn _) (cn _)) ?_ rfl
 subst_vars;rfl
theorem Zls (hx:x.z≤1099511627776) (hy:y.z≤1099511627776) (hz:z.z≤1099511627776) (ht:t.z≤1099511627776) (k:∀ p q,p=x.q+z.q→q=y.q+t.q→(cn p).z≤x.z+z.z+3→(cn q).z≤y.z+t.z+3→K (pair (cn p) (cn q))):Ask 93 [pair x y,pair z t] K:=
 use (Zj3 x y z t hx hy hz ht) rfl (k _ _ rfl rfl (by have:=ZaF x.q z.q;have:=x.z1;have:=y.z1;have:=z.z1;have:=t.z1;rw [cn_z];omega) (by have:=ZaF y.q t.q;have:=x.z1;have:=y.z1;have:=z.z1;have:=t.z1;rw [cn_z];omega))
theorem Zj2 (x y z t:RV) (hx:x.z≤1099511627776) (hy:y.z≤1099511627776) (hz:z.z≤1099511627776) (ht:t.z≤1099511627776):Spec Tryz.prog Tab 257 [pair x y,pair z t] (pair (cn (x.q - z.q)) (cn (y.q - t.q))):=by
 refine Zh Tryz.func257 rfl rfl Tryz.ntmps257 rfl ωr rfl rfl ?_
 refine Zb6 ω ω fun q1 h1 z1=> ?_
 try simp only [cn_q] at h1
 refine Zb6 ω ω fun q2 h2 z2=> ?_
 try simp only [cn_q] at h2
 refine⟨ωr,?_⟩
 refine Eq.trans (b:=pair (cn _) (cn _)) ?_ rfl
 subst_vars;rfl
theorem ZoP (hx:x.z≤1099511627776) (hy:y.z≤1099511627776) (hz:z.z≤1099511627776) (ht:t.z≤1099511627776) (k:∀ p q,p=x.q - z.q→q=y.q - t.q→(cn p).z≤x.z+z.z+3→(cn q).z≤y.z+t.z+3→K (pair (cn p) (cn q))):Ask 257 [pair x y,pair z t] K:=
 use (Zj2 x y z t hx hy hz ht) rfl (k _ _ rfl rfl (by have:=Zbv x.q z.q;have:=x.z1;have:=y.z1;have:=z.z1;have:=t.z1;rw [cn_z];omega) (by have:=Zbv y.q t.q;have:=x.z1;have:=y.z1;have:=z.z1;have:=t.z1;rw [cn_z];omega))
end
section
variable {x y z t : RV} {K : AV → Prop}
def rdv (p:RV×RV):List D:=rd p.1++rd p.2
def vecs (l:List (RV×RV)):AV:= .val (.one (.d (.list (l.map rdv))))
def xsQ (l:List (RV×RV)):List Rat:=l.map fun p=>p.1.q
def ysQ (l:List (RV×RV)):List Rat:=l.map fun p=>p.2.q
end
