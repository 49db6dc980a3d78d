/- Joined by wip/bundle.py: XEngL XEngSpan XEngAro XEngSpan2. -/
import Derived.Test.YtbgokkfhohodgaaGreatDoorEngU
import Derived.Test.YtbgokkfhohodgaaGreatDoorGrpT
set_option maxRecDepth 100000
namespace Go.Proofs.YtbgokkfhohodgaaGreatDoor.eng
open Go.RowKit num mem seg q held ratA ratB ratC ratD ratE vars ratF
def rd (x:RV):List D:= [.v (.bool x.s),.v (.string x.a),.v (.string x.d)]
def rats (l:List Rat):AV:= .val (.one (.d (.list (l.map fun q=>rd (cn q)))))
section
variable {K : AV → Prop}
theorem k_at {xs:List (List D)} {m:Int} {n:Nat} (cs:List D) (h0:0≤m) (h:xs[m.toNat]? =some cs) (hl:cs.length=n) (k:K (.val (.one (.ref cs)))):
  ∃ r,(∃ cs,0≤m∧xs[m.toNat]? =some cs∧cs.length=n∧r= .val (.one (.ref cs)))∧K r:=⟨_,⟨cs,h0,h,hl,rfl⟩,k⟩
theorem Zkt {l:List Rat} {m:Int} {i:Nat} {q:Rat} (hm:m=(i:Int)) (h:l[i]? =some q):(l.map fun q=>rd (cn q))[m.toNat]? =some (rd (cn q)):=by
 subst hm
 rw [Int.toNat_natCast,List.getElem?_map,h];rfl
theorem Zlj {l:List Rat} {m:Int} (i:Nat) (q:Rat) (hm:m=(i:Int)) (h:l[i]? =some q) (k:K (.val (.one (.ref (rd (cn q)))))):
  ∃ r,(∃ cs,0≤m∧(l.map fun q=>rd (cn q))[m.toNat]? =some cs∧cs.length=3∧r= .val (.one (.ref cs)))∧K r:=k_at _ (by omega) (Zkt hm h) rfl k
theorem wrap64 (n:Int) (h1:-9223372036854775808≤n) (h2:n≤9223372036854775807):IntKind.i64.wrap n=n:=by
 unfold IntKind.wrap
 simp [IntKind.signed,IntKind.bits]
 split<;>omega
end
def lowF (m a:Rat):Rat:=if a< m then a else m
def highF (m a:Rat):Rat:=if m< a then a else m
def lowL (q:Rat) (l:List Rat):Rat:=l.foldl lowF q
def highL (q:Rat) (l:List Rat):Rat:=l.foldl highF q
theorem ZjL (l:List Rat):∀ q,lowL q l=q∨lowL q l∈l:=by
 induction l with
 |nil=>intro q;exact .inl rfl
 |cons a l ih=>
  intro q
  show lowL (lowF q a) l=q∨lowL (lowF q a) l∈a :: l
  rcases ih (lowF q a) with h|h
  ·rw [h];unfold lowF;split
   ·exact .inr List.mem_cons_self
   ·exact .inl rfl
  ·exact .inr (List.mem_cons_of_mem _ h)
theorem ZiE (l:List Rat):∀ q,highL q l=q∨highL q l∈l:=by
 induction l with
 |nil=>intro q;exact .inl rfl
 |cons a l ih=>
  intro q
  show highL (highF q a) l=q∨highL (highF q a) l∈a :: l
  rcases ih (highF q a) with h|h
  ·rw [h];unfold highF;split
   ·exact .inr List.mem_cons_self
   ·exact .inl rfl
  ·exact .inr (List.mem_cons_of_mem _ h)
end Go.Proofs.YtbgokkfhohodgaaGreatDoor.eng
namespace Go.Proofs.YtbgokkfhohodgaaGreatDoor.eng
open Go.RowKit num mem seg q held ratA ratB ratC ratD ratE vars ratF trq
section
variable {x y z t : RV} {h g : Bool} {K : AV → Prop}
def sgd (x y:RV):Prop:=x.good∧y.good∧x.q≤y.q
instance (x y:RV):Decidable (sgd x y):=inferInstanceAs (Decidable (x.good∧y.good∧x.q≤y.q))
def slo (x y:RV):Rat:=if sgd x y then x.q else ((0:Int):Rat)
def shi (x y:RV):Rat:=if sgd x y then y.q else ((0:Int):Rat)
theorem ZhF (x y:RV):slo x y≤shi x y:=by
 unfold slo shi;split
 ·rename_i h;exact h.2.2
 ·exact Rat.le_refl
theorem Zko (x y:RV):(cn (slo x y)).z≤x.z+8:=by
 rw [cn_z];unfold slo;split
 ·have:=x.z1;omega
 ·have:=qs_0;omega
theorem Zkp (x y:RV):(cn (shi x y)).z≤y.z+8:=by
 rw [cn_z];unfold shi;split
 ·have:=y.z1;omega
 ·have:=qs_0;omega
theorem ZhG (h:sgd x y):cn (slo x y)=x:=by rw [slo,if_pos h];exact(RV.good_cn h.1).symm
theorem ZhJ (h:sgd x y):cn (shi x y)=y:=by rw [shi,if_pos h];exact(RV.good_cn h.2.1).symm
theorem ZgI (h:¬ sgd x y):slo x y=((0:Int):Rat):=if_neg h
theorem ZgK (h:¬ sgd x y):shi x y=((0:Int):Rat):=if_neg h
theorem ZhK {p q:Rat}:sgd (cn p) (cn q)↔p≤q:=by
 unfold sgd;rw [cn_q,cn_q];exact⟨fun h=>h.2.2,fun h=>⟨ZiV p,ZiV q,h⟩⟩
theorem Zee {p q:Rat} (h:p≤q):slo (cn p) (cn q)=p:=by rw [slo,if_pos (ZhK.2 h),cn_q]
theorem Zeg {p q:Rat} (h:p≤q):shi (cn p) (cn q)=q:=by rw [shi,if_pos (ZhK.2 h),cn_q]
def hasQ (l h a:Rat):Bool:=decide (l≤a)&&decide (a≤h)
theorem dle (p q:Rat):decide (cmpQ p q≤0)=decide (p≤q):=decide_eq_decide.2 (Zgv p q)
theorem hl (a b c:Rat) (h:a< b):hasQ a c b=decide (b≤c):=by simp [hasQ,Rat.le_of_lt h]
theorem he (a b c:Rat) (h:a=b):hasQ a c b=decide (b≤c):=by simp [hasQ,h]
theorem hg (a b c:Rat) (h:b< a):hasQ a c b=false:=by simp [hasQ,Rat.not_le.2 h]
theorem ZgN (x y:RV) (hx:x.z≤1099511627776) (hy:y.z≤1099511627776):Spec Tryz.prog Tab 72 [pair x y] (bool (decide (sgd x y))):=by
 refine Zy Tryz.func72 rfl rfl Tryz.ntmps72 rfl (by kernel_rfl) rfl rfl ?_
 refine Zcc (by omega) (fun g1=> ?_) (fun g1=> ?_)
 ·skip
  refine Zcc (by omega) (fun g2=> ?_) (fun g2=> ?_)
  ·skip
   refine ZM (by omega) (by omega) fun n3 h3=> ?_
   try simp only [cn_q] at h3
   refine Eq.trans (b:=bool _) ?_ rfl
   subst h3;rw [dle];exact congrArg bool (decide_eq_decide.2 ⟨fun h=>h.2.2,fun h=>⟨g1,g2,h⟩⟩)
  ·skip
   refine Eq.trans (b:=bool _) ?_ rfl
   exact congrArg bool (decide_eq_false fun h=>g2 h.2.1)
 ·skip
  refine Eq.trans (b:=bool _) ?_ rfl
  exact congrArg bool (decide_eq_false fun h=>g1 h.1)
theorem ZkD (hx:x.z≤1099511627776) (hy:y.z≤1099511627776) (k:∀ b,b=decide (sgd x y)→K (bool b)):Ask 72 [pair x y] K:=
 use (ZgN x y hx hy) rfl (k _ rfl)
theorem ZcF (hx:x.z≤1099511627776) (hy:y.z≤1099511627776) (k1:sgd x y→K (bool true)) (k0:¬ sgd x y→K (bool false)):Ask 72 [pair x y] K:=
 ZkD hx hy fun b e=>by
  by_cases H:sgd x y
  ·rw [decide_eq_true H] at e;subst e;exact k1 H
  ·rw [decide_eq_false H] at e;subst e;exact k0 H
theorem Zjk (x:RV) (hx:x.z≤4398046511104):Spec Tryz.prog Tab 73 [rat x] (pair (cn x.q) (cn x.q)):=by
 refine Zy Tryz.func73 rfl rfl Tryz.ntmps73 rfl (by kernel_rfl) rfl rfl ?_
 refine Zit (by omega) fun q1 h1 z1=> ?_
 try simp only [cn_q] at h1
 refine Eq.trans (b:=pair (cn _) (cn _)) ?_ rfl
 subst_vars;rfl
theorem ZkC (hx:x.z≤4398046511104) (k:∀ q,q=x.q→(cn q).z≤x.z+1→K (pair (cn q) (cn q))):Ask 73 [rat x] K:=
 use (Zjk x hx) rfl (k _ rfl (by have:=x.z1;rw [cn_z];omega))
theorem ZhN (x y:RV) (hx:x.z≤1099511627776) (hy:y.z≤1099511627776):Spec Tryz.prog Tab 134 [pair x y] (pair (cn (slo x y)) (cn (shi x y))):=by
 refine Zy Tryz.func134 rfl rfl Tryz.ntmps134 rfl (by kernel_rfl) rfl rfl ?_
 refine ZcF (by omega) (by omega) (fun g1=> ?_) (fun g1=> ?_)
 ·skip
  refine⟨fun e=>by simp at e,fun _=> ?_⟩
  refine Eq.trans (b:=pair _ _) ?_ rfl
  rw [ZhG g1,ZhJ g1]
 ·skip
  refine⟨fun _=> ?_,fun e=>by simp at e⟩
  refine k_of (0) (by omega) (by omega) fun q2 h2 z2=> ?_
  refine ZkC (by omega) fun q3 h3 z3=> ?_
  try simp only [cn_q] at h3
  refine Eq.trans (b:=pair (cn _) (cn _)) ?_ rfl
  rw [ZgI g1,ZgK g1];subst_vars;rfl
theorem Zkd (hx:x.z≤1099511627776) (hy:y.z≤1099511627776) (k:∀ p q,p=slo x y→q=shi x y→(cn p).z≤x.z+8→(cn q).z≤y.z+8→K (pair (cn p) (cn q))):Ask 134 [pair x y] K:=
 use (ZhN x y hx hy) rfl (k _ _ rfl rfl (Zko x y) (Zkp x y))
theorem ZgM (x y:RV) (hx:x.z≤1099511627776) (hy:y.z≤1099511627776):Spec Tryz.prog Tab 132 [rat x,rat y] (if y.q< x.q then two (pair z0 z0) (int 9) else two (pair (cn x.q) (cn y.q)) (int 0)):=by
 refine Zy Tryz.func132 rfl rfl Tryz.ntmps132 rfl (by kernel_rfl) rfl rfl ?_
 refine ZM (by omega) (by omega) fun n1 h1=> ?_
 try simp only [cn_q] at h1
 refine⟨fun e2=> ?_,fun e2=> ?_⟩
 ·skip
  refine Eq.trans (b:=two (pair z0 z0) (int 9)) ?_ rfl
  rw [if_pos (by subst h1;exact(ZfC _ _).1 (of_decide_eq_true e2))]
 ·skip
  refine Zit (by omega) fun q3 h3 z3=> ?_
  try simp only [cn_q] at h3
  refine Zit (by omega) fun q4 h4 z4=> ?_
  try simp only [cn_q] at h4
  refine⟨by kernel_rfl,?_⟩
  refine Eq.trans (b:=two (pair (cn _) (cn _)) (int 0)) ?_ rfl
  rw [if_neg (by subst h1;exact fun h=>of_decide_eq_false e2 ((ZfC _ _).2 h))];subst_vars;rfl
theorem Za1 (hx:x.z≤1099511627776) (hy:y.z≤1099511627776) (k1:y.q< x.q→K (two (pair z0 z0) (int 9))) (k0:¬ y.q< x.q→∀ p q,p=x.q→q=y.q→(cn p).z≤x.z+1→(cn q).z≤y.z+1→K (two (pair (cn p) (cn q)) (int 0))):Ask 132 [rat x,rat y] K:=by
 have hs:=ZgM x y hx hy
 by_cases H:y.q< x.q
 ·rw [if_pos H] at hs;exact use hs rfl (k1 H)
 ·rw [if_neg H] at hs;exact use hs rfl (k0 H _ _ rfl rfl (by have:=x.z1;rw [cn_z];omega) (by have:=y.z1;rw [cn_z];omega))
theorem ZhM (x y z:RV) (hx:x.z≤1099511627776) (hy:y.z≤1099511627776) (hz:z.z≤1099511627776):Spec Tryz.prog Tab 68 [pair x y,rat z] (bool (hasQ (slo x y) (shi x y) z.q)):=by
 refine Zy Tryz.func68 rfl rfl Tryz.ntmps68 rfl (by kernel_rfl) rfl rfl ?_
 refine Zkd (by omega) (by omega) fun p1 q1 e1 h1 y1 z1=> ?_
 try simp only [cn_q] at e1 h1
 refine Zlo (by omega) (by omega) (fun g2=> ?_) (fun g2=> ?_) (fun g2=> ?_)
 ·try simp only [cn_q] at g2
  refine ZM (by omega) (by omega) fun n3 h3=> ?_
  try simp only [cn_q] at h3
  refine Eq.trans (b:=bool _) ?_ rfl
  subst_vars
  first
   |(rw [hl _ _ _ (by assumption),dle])
   |(rw [he _ _ _ (by assumption),dle])
   |(rw [hg _ _ _ (by assumption)])
   |(rw [he _ _ _ rfl,dle])
   |(simp_all [dle,hasQ,Rat.le_refl])
 ·try simp only [cn_q] at g2
  refine ZM (by omega) (by omega) fun n4 h4=> ?_
  try simp only [cn_q] at h4
  refine Eq.trans (b:=bool _) ?_ rfl
  subst_vars
  first
   |(rw [hl _ _ _ (by assumption),dle])
   |(rw [he _ _ _ (by assumption),dle])
   |(rw [hg _ _ _ (by assumption)])
   |(rw [he _ _ _ rfl,dle])
   |(simp_all [dle,hasQ,Rat.le_refl])
 ·try simp only [cn_q] at g2
  refine Eq.trans (b:=bool _) ?_ rfl
  subst_vars
  first
   |(rw [hl _ _ _ (by assumption),dle])
   |(rw [he _ _ _ (by assumption),dle])
   |(rw [hg _ _ _ (by assumption)])
   |(rw [he _ _ _ rfl,dle])
   |(simp_all [dle,hasQ,Rat.le_refl])
theorem Ziu (hx:x.z≤1099511627776) (hy:y.z≤1099511627776) (hz:z.z≤1099511627776) (k:∀ b,b=hasQ (slo x y) (shi x y) z.q→K (bool b)):Ask 68 [pair x y,rat z] K:=
 use (ZhM x y z hx hy hz) rfl (k _ rfl)
theorem hl' (a b c:Rat) (h:a< b):hasQ b c a=false:=hg _ _ _ h
theorem ZbY {p q:Rat}:0≤sgnQ (q - p)↔p≤q:=by
 have h1:0≤sgnQ (q - p)↔0≤(q - p).num:=by
  unfold sgnQ
  by_cases h0:(q - p).num=0
  ·rw [if_pos h0,h0]
  ·rw [if_neg h0]
   by_cases h2:(q - p).num< 0
   ·rw [if_pos h2];omega
   ·rw [if_neg h2];omega
 rw [h1,Rat.num_nonneg]
 constructor<;>intro h<;>grind
theorem Zhp (x y:RV) (hx:x.z≤1099511627776) (hy:y.z≤1099511627776):Spec Tryz.prog Tab 18 [pair x y] (pair (cn (slo x y)) (cn (shi x y))):=by
 refine Zy Tryz.func18 rfl rfl Tryz.ntmps18 rfl (by kernel_rfl) rfl rfl ?_
 refine Zcc (by omega) (fun g1=> ?_) (fun g1=> ?_)
 ·skip
  refine Zcc (by omega) (fun g2=> ?_) (fun g2=> ?_)
  ·skip
   refine ZlN (by omega) (by omega) fun q3 h3 z3=> ?_
   try simp only [cn_q] at h3
   refine ZcE (by omega) fun n4 h4=> ?_
   try simp only [cn_q] at h4
   refine⟨fun e5=> ?_,fun e5=> ?_⟩
   ·skip
    first
     |(refine Eq.trans (b:=pair (cn _) (cn _)) ?_ rfl
       have H:¬ sgd x y:=fun h=>by first|exact g1 h.1|exact g2 h.2.1|(subst h4;subst h3;exact of_decide_eq_false e5 (ZbY.2 h.2.2))
       rw [ZgI H,ZgK H];subst_vars;rfl)
     |(refine Eq.trans (b:=pair _ _) ?_ rfl
       have H:sgd x y:=⟨g1,g2,by subst h4;subst h3;exact ZbY.1 (of_decide_eq_true e5)⟩
       rw [ZhG H,ZhJ H])
   ·skip
    refine k_I (0) (by omega) (by omega) fun q6 h6 z6=> ?_
    refine k_I (0) (by omega) (by omega) fun q7 h7 z7=> ?_
    first
     |(refine Eq.trans (b:=pair (cn _) (cn _)) ?_ rfl
       have H:¬ sgd x y:=fun h=>by first|exact g1 h.1|exact g2 h.2.1|(subst h4;subst h3;exact of_decide_eq_false e5 (ZbY.2 h.2.2))
       rw [ZgI H,ZgK H];subst_vars;rfl)
     |(refine Eq.trans (b:=pair _ _) ?_ rfl
       have H:sgd x y:=⟨g1,g2,by subst h4;subst h3;exact ZbY.1 (of_decide_eq_true e5)⟩
       rw [ZhG H,ZhJ H])
  ·skip
   refine⟨fun e=>by simp at e,fun _=> ?_⟩
   refine k_I (0) (by omega) (by omega) fun q8 h8 z8=> ?_
   refine k_I (0) (by omega) (by omega) fun q9 h9 z9=> ?_
   first
    |(refine Eq.trans (b:=pair (cn _) (cn _)) ?_ rfl
      have H:¬ sgd x y:=fun h=>by first|exact g1 h.1|exact g2 h.2.1|(subst h4;subst h3;exact of_decide_eq_false e5 (ZbY.2 h.2.2))
      rw [ZgI H,ZgK H];subst_vars;rfl)
    |(refine Eq.trans (b:=pair _ _) ?_ rfl
      have H:sgd x y:=⟨g1,g2,by subst h4;subst h3;exact ZbY.1 (of_decide_eq_true e5)⟩
      rw [ZhG H,ZhJ H])
 ·skip
  refine⟨fun e=>by simp at e,fun _=> ?_⟩
  refine k_I (0) (by omega) (by omega) fun q10 h10 z10=> ?_
  refine k_I (0) (by omega) (by omega) fun q11 h11 z11=> ?_
  first
   |(refine Eq.trans (b:=pair (cn _) (cn _)) ?_ rfl
     have H:¬ sgd x y:=fun h=>by first|exact g1 h.1|exact g2 h.2.1|(subst h4;subst h3;exact of_decide_eq_false e5 (ZbY.2 h.2.2))
     rw [ZgI H,ZgK H];subst_vars;rfl)
   |(refine Eq.trans (b:=pair _ _) ?_ rfl
     have H:sgd x y:=⟨g1,g2,by subst h4;subst h3;exact ZbY.1 (of_decide_eq_true e5)⟩
     rw [ZhG H,ZhJ H])
end
end Go.Proofs.YtbgokkfhohodgaaGreatDoor.eng
namespace Go.Proofs.YtbgokkfhohodgaaGreatDoor.eng
open Go.RowKit num mem seg q held ratA ratB ratC ratD ratE vars ratF trq
section
variable {x y z t : RV} {K : AV → Prop}
theorem Zkz (m a:Rat):minQ m a=lowF m a:=by
 unfold minQ lowF
 by_cases h:m≤a
 ·rw [if_pos h,if_neg (Rat.not_lt.2 h)]
 ·rw [if_neg h,if_pos (Rat.not_le.1 h)]
theorem ZjI (m a:Rat):maxQ m a=highF m a:=by
 unfold maxQ highF
 by_cases h:a≤m
 ·rw [if_pos h,if_neg (Rat.not_lt.2 h)]
 ·rw [if_neg h,if_pos (Rat.not_le.1 h)]
theorem Zei (q0:Rat) (l:List Rat) (hz:∀ q,q∈q0 :: l→qs q≤2199023255552) (hn:l.length≤1099511627776):Spec Tryz.prog Tab 163 [rats (q0 :: l)] (pair (cn (lowL q0 l)) (cn (highL q0 l))):=by
 refine Zy Tryz.func163 rfl rfl Tryz.ntmps163 rfl (by kernel_rfl) rfl rfl ?_
 refine Zlj 0 q0 rfl rfl ?_
 have hz0:(cn q0).z≤2199023255552:=by rw [cn_z];exact hz q0 (by simp)
 refine ZkC (by omega) fun q1 h1 z1=> ?_
 simp only [cn_q] at h1
 refine⟨rats l,⟨by omega,by simp;omega,?_,rfl⟩,?_⟩
 ·intro row hr
  simp only [List.mem_map] at hr
  obtain⟨q,_,rfl⟩:=hr
  rfl
 refine⟨Nat×Rat×Rat,fun s=> [(11,rats l),(12,int (((l.map fun q=>rd (cn q)).length:Nat):Int)),(13,int (s.1:Int)),(3,.val (.one (.ptr 3 0))),(2,.val (.one (.ptr 2 0)))],
  fun s=> [(2,.var 55 [.d (.v (.bool false)),.d (.v (.string ⟨#[]⟩)),.d (.v (.string ⟨#[]⟩)),.d (.v (.bool false)),.d (.v (.string ⟨#[]⟩)),.d (.v (.string ⟨#[]⟩))]),(3,.var 55 (rc (cn s.2.1)++rc (cn s.2.2)))],
  fun s=>s.1≤l.length∧qs s.2.1≤2199023255552∧qs s.2.2≤2199023255552∧(l.drop s.1).foldl lowF s.2.1=lowL q0 l∧(l.drop s.1).foldl highF s.2.2=highL q0 l,
  fun s=>l.length - s.1,(0,q1,q1),?_,⟨Nat.zero_le _,by subst h1;exact hz0,by subst h1;exact hz0,by subst h1;rfl,by subst h1;rfl⟩,fun s hs=> ?_⟩
 ·constructor<;>(repeat' (first|exact rfl|exact True.intro|apply And.intro))
 obtain⟨i,lo,hi⟩:=s
 obtain⟨h1,h2,h3,h4,h5⟩:=hs
 simp only at h1 h2 h3 h4 h5
 refine⟨fun e=> ?_,fun e=> ?_⟩
 ·have hlt:i< l.length:=by have:=of_decide_eq_true e;rw [List.length_map] at this;omega
  obtain⟨a,ha⟩:∃ a,l[i]? =some a:=⟨_,List.getElem?_eq_getElem hlt⟩
  have hza:=hz a (List.mem_cons_of_mem _ (List.mem_of_getElem? ha))
  have hdrop:l.drop i=a :: l.drop (i+1):=by
   rw [List.drop_eq_getElem_cons hlt]
   rw [List.getElem?_eq_getElem hlt] at ha
   rw [Option.some.inj ha]
  rw [hdrop,List.foldl_cons] at h4 h5
  have hw:IntKind.i64.wrap ((i:Int)+1)=((i+1:Nat):Int):=by rw [wrap64 _ (by omega) (by omega)];omega
  have zl:(cn lo).z≤2199023255552:=by rw [cn_z];exact h2
  have zh:(cn hi).z≤2199023255552:=by rw [cn_z];exact h3
  have za:(cn a).z≤2199023255552:=by rw [cn_z];exact hza
  refine Zlj i a rfl ha ?_
  refine ZlQ (x:=cn lo) (y:=cn a) (by omega) (by omega) fun r1 f1 w1=> ?_
  simp only [cn_q] at f1
  refine ZiA (x:=cn hi) (y:=cn a) (by omega) (by omega) fun r2 f2 w2=> ?_
  simp only [cn_q] at f2
  refine⟨by kernel_rfl,?_⟩
  rw [Zkz] at f1
  rw [ZjI] at f2
  refine⟨(i+1,r1,r2),⟨hlt,?_,?_,?_,?_⟩,by simp only;omega,?_⟩
  ·subst f1;simp only [lowF];split<;>assumption
  ·subst f2;simp only [highF];split<;>assumption
  ·subst f1;exact h4
  ·subst f2;exact h5
  ·constructor<;>(repeat' (first|exact rfl|exact True.intro|apply And.intro))
   all_goals exact congrArg (fun n:Int=>D.v (.int .i64 n)) hw.symm
 ·have hge:l.length≤i:=by have:=of_decide_eq_false e;rw [List.length_map] at this;omega
  refine Eq.trans (b:=pair (cn lo) (cn hi)) ?_ rfl
  rw [List.drop_eq_nil_of_le hge] at h4 h5
  rw [← h4,← h5];rfl
theorem Zin {q0:Rat} {l:List Rat} {B:Nat} (hz:∀ q,q∈q0 :: l→qs q≤B):qs (lowL q0 l)≤B:=by
 rcases ZjL l q0 with h|h
 ·rw [h];exact hz _ (by simp)
 ·exact hz _ (List.mem_cons_of_mem _ h)
theorem Zge {q0:Rat} {l:List Rat} {B:Nat} (hz:∀ q,q∈q0 :: l→qs q≤B):qs (highL q0 l)≤B:=by
 rcases ZiE l q0 with h|h
 ·rw [h];exact hz _ (by simp)
 ·exact hz _ (List.mem_cons_of_mem _ h)
theorem Ziv (B:Nat) (hB:B≤2199023255552) (q0:Rat) (l:List Rat) {v:List (List D)} (hv:v=(q0 :: l).map fun q=>rd (cn q)) (hz:∀ q,q∈q0 :: l→qs q≤B) (hn:l.length≤1099511627776)
  (k:∀ p q,p=lowL q0 l→q=highL q0 l→(cn p).z≤B→(cn q).z≤B→K (pair (cn p) (cn q))):Ask 163 [.val (.one (.d (.list v)))] K:=by
 subst hv
 exact use (Zei q0 l (fun q h=>Nat.le_trans (hz q h) hB) hn) rfl (k _ _ rfl rfl (by rw [cn_z];exact Zin hz) (by rw [cn_z];exact Zge hz))
end
end Go.Proofs.YtbgokkfhohodgaaGreatDoor.eng
namespace Go.Proofs.YtbgokkfhohodgaaGreatDoor.eng
open Go.RowKit num mem seg q held ratA ratB ratC ratD ratE vars ratF trq
section
variable {x y z t : RV} {K : AV → Prop}
def sqLo (a b:Rat):Rat:=if hasQ a b ((0:Int):Rat)=true then ((0:Int):Rat) else lowL (a*a) [b*b]
def sqHi (a b:Rat):Rat:=highL (a*a) [b*b]
theorem Zjj (x y:RV) (hx:x.z≤68719476736) (hy:y.z≤68719476736):Spec Tryz.prog Tab 133 [pair x y] (pair (cn (sqLo (slo x y) (shi x y))) (cn (sqHi (slo x y) (shi x y)))):=by
 refine Zy Tryz.func133 rfl rfl Tryz.ntmps133 rfl (by kernel_rfl) rfl rfl ?_
 refine Zkd (by omega) (by omega) fun p1 q1 e1 h1 y1 z1=> ?_
 try simp only [cn_q] at e1 h1
 refine Ziz (by omega) (by omega) fun q2 h2 z2=> ?_
 try simp only [cn_q] at h2
 refine Ziz (by omega) (by omega) fun q3 h3 z3=> ?_
 try simp only [cn_q] at h3
 refine Ziv 1099511627776 (by decide) q2 [q3] rfl (by intro q hq;simp only [List.mem_cons,List.mem_nil_iff,or_false] at hq;rcases hq with rfl|rfl<;>(simp only [cn_z] at*;omega)) (by simp) fun p4 q4 e4 h4 y4 z4=> ?_
 refine⟨by kernel_rfl,?_⟩
 refine k_of (0) (by omega) (by omega) fun q5 h5 z5=> ?_
 refine Ziu (by omega) (by omega) (by omega) fun b6 h6=> ?_
 try rw [Zee (by subst_vars;exact ZhF _ _),Zeg (by subst_vars;exact ZhF _ _),cn_q] at h6
 refine⟨by kernel_rfl,?_⟩
 refine⟨fun e7=> ?_,fun e7=> ?_⟩
 ·skip
  refine k_of (0) (by omega) (by omega) fun q8 h8 z8=> ?_
  refine Eq.trans (b:=pair (cn _) (cn _)) ?_ rfl
  unfold sqLo sqHi
  subst_vars
  first
   |rw [if_pos (Eq.symm (by assumption))]
   |rw [if_neg (ne_true_of_eq_false (Eq.symm (by assumption)))]
 ·skip
  refine Eq.trans (b:=pair (cn _) (cn _)) ?_ rfl
  unfold sqLo sqHi
  subst_vars
  first
   |rw [if_pos (Eq.symm (by assumption))]
   |rw [if_neg (ne_true_of_eq_false (Eq.symm (by assumption)))]
theorem sq_z (x y:RV):∀ q,q∈slo x y*slo x y :: [shi x y*shi x y]→qs q≤2*x.z+2*y.z+20:=by
 have h1:=Zko x y
 have h2:=Zkp x y
 rw [cn_z] at h1 h2
 have:=Zcw (slo x y) (slo x y)
 have:=Zcw (shi x y) (shi x y)
 intro q h
 simp only [List.mem_cons,List.mem_nil_iff,or_false] at h
 rcases h with rfl|rfl<;>omega
theorem ZlO (hx:x.z≤68719476736) (hy:y.z≤68719476736) (k:∀ p q,p=sqLo (slo x y) (shi x y)→q=sqHi (slo x y) (shi x y)→(cn p).z≤2*x.z+2*y.z+20→(cn q).z≤2*x.z+2*y.z+20→K (pair (cn p) (cn q))):Ask 133 [pair x y] K:=
 use (Zjj x y hx hy) rfl (k _ _ rfl rfl (by rw [cn_z];unfold sqLo;split;(have:=qs_0;omega);exact Zin (sq_z x y)) (by rw [cn_z];exact Zge (sq_z x y)))
theorem ZcW  :Spec Tryz.prog Tab 67 [] (bool true):=by
 refine Zy Tryz.func67 rfl rfl Tryz.ntmps67 rfl (by kernel_rfl) rfl rfl ?_
 refine Zg9 (-1) (2) (by omega) (by omega) (by omega) (by omega) (by decide+kernel) fun q1 h1 z1=> ?_
 refine Zg9 (2) (1) (by omega) (by omega) (by omega) (by omega) (by decide+kernel) fun q2 h2 z2=> ?_
 refine Za1 (by omega) (by omega) (fun g3=>absurd g3 (by subst_vars;simp only [cn_q];decide+kernel)) (fun g3 p3 q3 e3 h3 y3 z3=> ?_)
 try simp only [cn_q] at g3 e3 h3
 refine Zg7 ?_
 refine ZcF (by omega) (by omega) (fun g4=> ?_) (fun g4=>absurd (ZhK.2 (by subst_vars;decide+kernel)) g4)
 refine ZlO (by omega) (by omega) fun p5 q5 e5 h5 y5 z5=> ?_
 try simp only [cn_q] at e5 h5
 refine Zg9 (0) (1) (by omega) (by omega) (by omega) (by omega) (by decide+kernel) fun q6 h6 z6=> ?_
 refine Zg9 (4) (1) (by omega) (by omega) (by omega) (by omega) (by decide+kernel) fun q7 h7 z7=> ?_
 refine ZeF (by subst_vars;exact⟨congrArg cn (by rw [Zee (by decide+kernel),Zeg (by decide+kernel)];decide+kernel),congrArg cn (by rw [Zee (by decide+kernel),Zeg (by decide+kernel)];decide+kernel)⟩) ?_
 exact rfl
theorem Zfo (K1:K (bool true)):Ask 67 [] K:=use ZcW rfl K1
end
end Go.Proofs.YtbgokkfhohodgaaGreatDoor.eng
