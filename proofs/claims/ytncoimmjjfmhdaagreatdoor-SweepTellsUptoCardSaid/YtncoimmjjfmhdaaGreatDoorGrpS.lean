/- Joined by wip/bundle.py: XEngL XEngSpan XEngAro XEngSpan2 XEngSweep XEngBound. -/
import Derived.Test.YtncoimmjjfmhdaaGreatDoorEngU
import Derived.Test.YtncoimmjjfmhdaaGreatDoorGrpT
set_option maxRecDepth 100000
namespace Go.Proofs.YtncoimmjjfmhdaaGreatDoor.eng
open Go.RowKit num mem seg q held ratA ratB ratC ratD ratE vars ratF
def rd (x:RV):List D:= [.v (.bool x.s),.v (.string x.a),.v (.string x.d)]
def rats (l:List Rat):AV:= .val (.one (.d (.list (l.map fun q=>rd (cn q)))))
section
variable {K : AV → Prop}
theorem k_at {xs:List (List D)} {m:Int} {n:Nat} (cs:List D) (h0:0≤m) (h:xs[m.toNat]? =some cs) (hl:cs.length=n) (k:K (.val (.one (.ref cs)))):
  ∃ r,(∃ cs,0≤m∧xs[m.toNat]? =some cs∧cs.length=n∧r= .val (.one (.ref cs)))∧K r:=⟨_,⟨cs,h0,h,hl,rfl⟩,k⟩
theorem Znv {l:List Rat} {m:Int} {i:Nat} {q:Rat} (hm:m=(i:Int)) (h:l[i]? =some q):(l.map fun q=>rd (cn q))[m.toNat]? =some (rd (cn q)):=by
 subst hm
 rw [Int.toNat_natCast,List.getElem?_map,h];rfl
theorem ZkD {l:List Rat} {m:Int} (i:Nat) (q:Rat) (hm:m=(i:Int)) (h:l[i]? =some q) (k:K (.val (.one (.ref (rd (cn q)))))):
  ∃ r,(∃ cs,0≤m∧(l.map fun q=>rd (cn q))[m.toNat]? =some cs∧cs.length=3∧r= .val (.one (.ref cs)))∧K r:=k_at _ (by omega) (Znv hm h) rfl k
theorem wrap64 (n:Int) (h1:-9223372036854775808≤n) (h2:n≤9223372036854775807):IntKind.i64.wrap n=n:=by
 unfold IntKind.wrap
 simp [IntKind.signed,IntKind.bits]
 split<;>omega
end
def lowF (m a:Rat):Rat:=if a< m then a else m
def highF (m a:Rat):Rat:=if m< a then a else m
def lowL (q:Rat) (l:List Rat):Rat:=l.foldl lowF q
def highL (q:Rat) (l:List Rat):Rat:=l.foldl highF q
theorem Zf1 (q0:Rat) (l:List Rat) (hz:∀ q,q∈q0 :: l→qs q≤4398046511104) (hn:l.length≤1099511627776):Spec Tryz.prog Tab 21 [rats (q0 :: l)] (pair (cn (lowL q0 (q0 :: l))) (cn (highL q0 (q0 :: l)))):=by
 refine Zh Tryz.func21 rfl rfl Tryz.ntmps21 rfl (by kernel_rfl) rfl rfl ?_
 refine ZkD 0 q0 rfl rfl ?_
 refine ZkD 0 q0 rfl rfl ?_
 refine⟨by kernel_rfl,?_⟩
 refine⟨Nat×Rat×Rat,fun s=> [(13,rats (q0 :: l)),(14,int ((((q0 :: l).map fun q=>rd (cn q)).length:Nat):Int)),(15,int (s.1:Int)),(3,.val (.one (.ptr 3 0))),(2,.val (.one (.ptr 2 0)))],
  fun s=> [(2,.var 28 [.d (.v (.bool false)),.d (.v (.string ⟨#[]⟩)),.d (.v (.string ⟨#[]⟩)),.d (.v (.bool false)),.d (.v (.string ⟨#[]⟩)),.d (.v (.string ⟨#[]⟩))]),(3,.var 28 (rc (cn s.2.1)++rc (cn s.2.2)))],
  fun s=>s.1≤(q0 :: l).length∧qs s.2.1≤4398046511104∧qs s.2.2≤4398046511104∧((q0 :: l).drop s.1).foldl lowF s.2.1=lowL q0 (q0 :: l)∧((q0 :: l).drop s.1).foldl highF s.2.2=highL q0 (q0 :: l),
  fun s=>(q0 :: l).length - s.1,(0,q0,q0),?_,⟨Nat.zero_le _,hz q0 (by simp),hz q0 (by simp),rfl,rfl⟩,fun s hs=> ?_⟩
 ·constructor<;>(repeat' (first|exact rfl|exact True.intro|apply And.intro))
 obtain⟨i,lo,hi⟩:=s
 obtain⟨h1,h2,h3,h4,h5⟩:=hs
 simp only at h1 h2 h3 h4 h5
 refine⟨fun e=> ?_,fun e=> ?_⟩
 ·have hlt:i< (q0 :: l).length:=by have:=of_decide_eq_true e;rw [List.length_map] at this;omega
  obtain⟨a,ha⟩:∃ a,(q0 :: l)[i]? =some a:=⟨_,List.getElem?_eq_getElem hlt⟩
  have hza:=hz a (List.mem_of_getElem? ha)
  have hdrop:(q0 :: l).drop i=a :: (q0 :: l).drop (i+1):=by
   rw [List.drop_eq_getElem_cons hlt]
   rw [List.getElem?_eq_getElem hlt] at ha
   rw [Option.some.inj ha]
  rw [hdrop,List.foldl_cons] at h4 h5
  have hw:IntKind.i64.wrap ((i:Int)+1)=((i+1:Nat):Int):=by rw [wrap64 _ (by omega) (by simp at hlt;omega)];omega
  have hend:∀ lo' hi',lo'=lowF lo a→hi'=highF hi a→(i+1≤(q0 :: l).length∧qs lo'≤4398046511104∧qs hi'≤4398046511104∧((q0 :: l).drop (i+1)).foldl lowF lo'=lowL q0 (q0 :: l)∧((q0 :: l).drop (i+1)).foldl highF hi'=highL q0 (q0 :: l)):=by
   intro lo' hi' e1 e2
   subst e1 e2
   refine⟨hlt,?_,?_,h4,h5⟩
   ·unfold lowF;split<;>assumption
   ·unfold highF;split<;>assumption
  refine ZkD i a rfl ha ?_
  refine Zbj (by rw [cn_z];exact hza) (by rw [cn_z];exact h2) fun n1 c1=> ?_
  simp only [cn_q] at c1
  refine⟨fun e1=> ?_,fun e1=> ?_⟩
  ·have e1':a< lo:=(ZgP _ _).1 (by rw [← c1];exact of_decide_eq_true e1)
   refine Zbj (by rw [cn_z];exact hza) (by rw [cn_z];exact h3) fun n2 c2=> ?_
   simp only [cn_q] at c2
   refine⟨fun e2=> ?_,fun e2=> ?_⟩
   ·have e2':hi< a:=(Zdi _ _).1 (by rw [← c2];exact of_decide_eq_true e2)
    refine⟨(i+1,a,a),hend a a (by rw [lowF,if_pos e1']) (by rw [highF,if_pos e2']),by simp only;omega,?_⟩
    constructor<;>(repeat' (first|exact rfl|exact True.intro|apply And.intro))
    all_goals exact congrArg (fun n:Int=>D.v (.int .i64 n)) hw.symm
   ·have e2':¬ hi< a:=fun h=>of_decide_eq_false e2 (by rw [c2];exact(Zdi _ _).2 h)
    refine⟨(i+1,a,hi),hend a hi (by rw [lowF,if_pos e1']) (by rw [highF,if_neg e2']),by simp only;omega,?_⟩
    constructor<;>(repeat' (first|exact rfl|exact True.intro|apply And.intro))
    all_goals exact congrArg (fun n:Int=>D.v (.int .i64 n)) hw.symm
  ·have e1':¬ a< lo:=fun h=>of_decide_eq_false e1 (by rw [c1];exact(ZgP _ _).2 h)
   refine Zbj (by rw [cn_z];exact hza) (by rw [cn_z];exact h3) fun n2 c2=> ?_
   simp only [cn_q] at c2
   refine⟨fun e2=> ?_,fun e2=> ?_⟩
   ·have e2':hi< a:=(Zdi _ _).1 (by rw [← c2];exact of_decide_eq_true e2)
    refine⟨(i+1,lo,a),hend lo a (by rw [lowF,if_neg e1']) (by rw [highF,if_pos e2']),by simp only;omega,?_⟩
    constructor<;>(repeat' (first|exact rfl|exact True.intro|apply And.intro))
    all_goals exact congrArg (fun n:Int=>D.v (.int .i64 n)) hw.symm
   ·have e2':¬ hi< a:=fun h=>of_decide_eq_false e2 (by rw [c2];exact(Zdi _ _).2 h)
    refine⟨(i+1,lo,hi),hend lo hi (by rw [lowF,if_neg e1']) (by rw [highF,if_neg e2']),by simp only;omega,?_⟩
    constructor<;>(repeat' (first|exact rfl|exact True.intro|apply And.intro))
    all_goals exact congrArg (fun n:Int=>D.v (.int .i64 n)) hw.symm
 ·have hge:(q0 :: l).length≤i:=by have:=of_decide_eq_false e;rw [List.length_map] at this;omega
  refine Eq.trans (b:=pair (cn lo) (cn hi)) ?_ rfl
  rw [List.drop_eq_nil_of_le hge] at h4 h5
  rw [← h4,← h5];rfl
theorem ZkH (q0:Rat) (l:List Rat) {v:List (List D)} (hv:v=(q0 :: l).map fun q=>rd (cn q)) (hz:∀ q,q∈q0 :: l→qs q≤4398046511104) (hn:l.length≤1099511627776) {K:AV→Prop}
  (k:∀ p q,p=lowL q0 (q0 :: l)→q=highL q0 (q0 :: l)→K (pair (cn p) (cn q))):Ask 21 [.val (.one (.d (.list v)))] K:=by
 subst hv
 exact use (Zf1 q0 l hz hn) rfl (k _ _ rfl rfl)
theorem Zcw (l:List Rat):∀ q,lowL q l=q∨lowL q l∈l:=by
 induction l with
 |nil=>intro q;exact .inl rfl
 |cons a l ih=>
  intro q
  show lowL (lowF q a) l=q∨lowL (lowF q a) l∈a :: l
  rcases ih (lowF q a) with h|h
  ·rw [h];unfold lowF;split
   ·exact .inr List.mem_cons_self
   ·exact .inl rfl
  ·exact .inr (List.mem_cons_of_mem _ h)
theorem Zb4 (l:List Rat):∀ q,lowL q l≤q∧∀ a,a∈l→lowL q l≤a:=by
 induction l with
 |nil=>intro q;exact⟨Rat.le_refl,fun a h=>by simp at h⟩
 |cons a l ih=>
  intro q
  obtain⟨h1,h2⟩:=ih (lowF q a)
  have h3:lowF q a≤q∧lowF q a≤a:=by
   unfold lowF;split
   ·rename_i h;exact⟨Rat.le_of_lt h,Rat.le_refl⟩
   ·rename_i h;exact⟨Rat.le_refl,Rat.not_lt.1 h⟩
  refine⟨Rat.le_trans h1 h3.1,fun b hb=> ?_⟩
  rcases List.mem_cons.1 hb with rfl|hb
  ·exact Rat.le_trans h1 h3.2
  ·exact h2 b hb
theorem Zc7 (l:List Rat):∀ q,highL q l=q∨highL q l∈l:=by
 induction l with
 |nil=>intro q;exact .inl rfl
 |cons a l ih=>
  intro q
  show highL (highF q a) l=q∨highL (highF q a) l∈a :: l
  rcases ih (highF q a) with h|h
  ·rw [h];unfold highF;split
   ·exact .inr List.mem_cons_self
   ·exact .inl rfl
  ·exact .inr (List.mem_cons_of_mem _ h)
theorem ZaO (l:List Rat):∀ q,q≤highL q l∧∀ a,a∈l→a≤highL q l:=by
 induction l with
 |nil=>intro q;exact⟨Rat.le_refl,fun a h=>by simp at h⟩
 |cons a l ih=>
  intro q
  obtain⟨h1,h2⟩:=ih (highF q a)
  have h3:q≤highF q a∧a≤highF q a:=by
   unfold highF;split
   ·rename_i h;exact⟨Rat.le_of_lt h,Rat.le_refl⟩
   ·rename_i h;exact⟨Rat.le_refl,Rat.not_lt.1 h⟩
  refine⟨Rat.le_trans h3.1 h1,fun b hb=> ?_⟩
  rcases List.mem_cons.1 hb with rfl|hb
  ·exact Rat.le_trans h3.2 h1
  ·exact h2 b hb
end Go.Proofs.YtncoimmjjfmhdaaGreatDoor.eng
namespace Go.Proofs.YtncoimmjjfmhdaaGreatDoor.eng
open Go.RowKit num mem seg q held ratA ratB ratC ratD ratE vars ratF trq
section
variable {x y z t : RV} {h g : Bool} {K : AV → Prop}
def sgd (x y:RV):Prop:=x.good∧y.good∧x.q≤y.q
instance (x y:RV):Decidable (sgd x y):=inferInstanceAs (Decidable (x.good∧y.good∧x.q≤y.q))
def slo (x y:RV):Rat:=if sgd x y then x.q else ((0:Int):Rat)
def shi (x y:RV):Rat:=if sgd x y then y.q else ((0:Int):Rat)
theorem ZcO (x y:RV):slo x y≤shi x y:=by
 unfold slo shi;split
 ·rename_i h;exact h.2.2
 ·exact Rat.le_refl
theorem ZaA (x y:RV):(cn (slo x y)).z≤x.z+8:=by
 rw [cn_z];unfold slo;split
 ·have:=x.z1;omega
 ·have:=qs_0;omega
theorem ZaB (x y:RV):(cn (shi x y)).z≤y.z+8:=by
 rw [cn_z];unfold shi;split
 ·have:=y.z1;omega
 ·have:=qs_0;omega
theorem Zjw (h:sgd x y):cn (slo x y)=x:=by rw [slo,if_pos h];exact(RV.good_cn h.1).symm
theorem ZjB (h:sgd x y):cn (shi x y)=y:=by rw [shi,if_pos h];exact(RV.good_cn h.2.1).symm
theorem Zjx (h:¬ sgd x y):slo x y=((0:Int):Rat):=if_neg h
theorem ZjC (h:¬ sgd x y):shi x y=((0:Int):Rat):=if_neg h
theorem ZmN {p q:Rat}:sgd (cn p) (cn q)↔p≤q:=by
 unfold sgd;rw [cn_q,cn_q];exact⟨fun h=>h.2.2,fun h=>⟨Zlb p,Zlb q,h⟩⟩
theorem Zy {p q:Rat} (h:p≤q):slo (cn p) (cn q)=p:=by rw [slo,if_pos (ZmN.2 h),cn_q]
theorem Zz {p q:Rat} (h:p≤q):shi (cn p) (cn q)=q:=by rw [shi,if_pos (ZmN.2 h),cn_q]
theorem Zor (p q:Rat):qs (minQ p q)≤qs p+qs q:=by unfold minQ;split<;>omega
theorem Zos (p q:Rat):qs (maxQ p q)≤qs p+qs q:=by unfold maxQ;split<;>omega
def hasQ (l h a:Rat):Bool:=decide (l≤a)&&decide (a≤h)
theorem dle (p q:Rat):decide (cmpQ p q≤0)=decide (p≤q):=decide_eq_decide.2 (Zh4 p q)
theorem hl (a b c:Rat) (h:a< b):hasQ a c b=decide (b≤c):=by simp [hasQ,Rat.le_of_lt h]
theorem he (a b c:Rat) (h:a=b):hasQ a c b=decide (b≤c):=by simp [hasQ,h]
theorem hg (a b c:Rat) (h:b< a):hasQ a c b=false:=by simp [hasQ,Rat.not_le.2 h]
theorem Zip (x y:RV) (hx:x.z≤1099511627776) (hy:y.z≤1099511627776):Spec Tryz.prog Tab 132 [pair x y] (bool (decide (sgd x y))):=by
 refine Zh Tryz.func132 rfl rfl Tryz.ntmps132 rfl (by kernel_rfl) rfl rfl ?_
 refine Zcx (by omega) (fun g1=> ?_) (fun g1=> ?_)
 ·skip
  refine Zcx (by omega) (fun g2=> ?_) (fun g2=> ?_)
  ·skip
   refine Zbj (by omega) (by omega) fun n3 h3=> ?_
   try simp only [cn_q] at h3
   refine Eq.trans (b:=bool _) ?_ rfl
   subst h3;rw [dle];exact congrArg bool (decide_eq_decide.2 ⟨fun h=>h.2.2,fun h=>⟨g1,g2,h⟩⟩)
  ·skip
   refine Eq.trans (b:=bool _) ?_ rfl
   exact congrArg bool (decide_eq_false fun h=>g2 h.2.1)
 ·skip
  refine Eq.trans (b:=bool _) ?_ rfl
  exact congrArg bool (decide_eq_false fun h=>g1 h.1)
theorem ZnP (hx:x.z≤1099511627776) (hy:y.z≤1099511627776) (k:∀ b,b=decide (sgd x y)→K (bool b)):Ask 132 [pair x y] K:=
 use (Zip x y hx hy) rfl (k _ rfl)
theorem ZkB (hx:x.z≤1099511627776) (hy:y.z≤1099511627776) (k1:sgd x y→K (bool true)) (k0:¬ sgd x y→K (bool false)):Ask 132 [pair x y] K:=
 ZnP hx hy fun b e=>by
  by_cases H:sgd x y
  ·rw [decide_eq_true H] at e;subst e;exact k1 H
  ·rw [decide_eq_false H] at e;subst e;exact k0 H
theorem ZlN (x:RV) (hx:x.z≤4398046511104):Spec Tryz.prog Tab 36 [rat x] (pair (cn x.q) (cn x.q)):=by
 refine Zh Tryz.func36 rfl rfl Tryz.ntmps36 rfl (by kernel_rfl) rfl rfl ?_
 refine ZmZ (by omega) fun q1 h1 z1=> ?_
 try simp only [cn_q] at h1
 refine Eq.trans (b:=pair (cn _) (cn _)) ?_ rfl
 subst_vars;rfl
theorem ZfD (hx:x.z≤4398046511104) (k:∀ q,q=x.q→(cn q).z≤x.z+1→K (pair (cn q) (cn q))):Ask 36 [rat x] K:=
 use (ZlN x hx) rfl (k _ rfl (by have:=x.z1;rw [cn_z];omega))
theorem ZjI (x y:RV) (hx:x.z≤1099511627776) (hy:y.z≤1099511627776):Spec Tryz.prog Tab 87 [pair x y] (pair (cn (slo x y)) (cn (shi x y))):=by
 refine Zh Tryz.func87 rfl rfl Tryz.ntmps87 rfl (by kernel_rfl) rfl rfl ?_
 refine ZkB (by omega) (by omega) (fun g1=> ?_) (fun g1=> ?_)
 ·skip
  refine⟨fun e=>by simp at e,fun _=> ?_⟩
  refine Eq.trans (b:=pair _ _) ?_ rfl
  rw [Zjw g1,ZjB g1]
 ·skip
  refine⟨fun _=> ?_,fun e=>by simp at e⟩
  refine k_of (0) (by omega) (by omega) fun q2 h2 z2=> ?_
  refine ZfD (by omega) fun q3 h3 z3=> ?_
  try simp only [cn_q] at h3
  refine Eq.trans (b:=pair (cn _) (cn _)) ?_ rfl
  rw [Zjx g1,ZjC g1];subst_vars;rfl
theorem Zbl (hx:x.z≤1099511627776) (hy:y.z≤1099511627776) (k:∀ p q,p=slo x y→q=shi x y→(cn p).z≤x.z+8→(cn q).z≤y.z+8→K (pair (cn p) (cn q))):Ask 87 [pair x y] K:=
 use (ZjI x y hx hy) rfl (k _ _ rfl rfl (ZaA x y) (ZaB x y))
theorem ZjJ (x y z t:RV) (hx:x.z≤1099511627776) (hy:y.z≤1099511627776) (hz:z.z≤1099511627776) (ht:t.z≤1099511627776):Spec Tryz.prog Tab 39 [pair x y,pair z t] (pair (cn (slo x y+slo z t)) (cn (shi x y+shi z t))):=by
 refine Zh Tryz.func39 rfl rfl Tryz.ntmps39 rfl (by kernel_rfl) rfl rfl ?_
 refine Zbl (by omega) (by omega) fun p1 q1 e1 h1 y1 z1=> ?_
 try simp only [cn_q] at e1 h1
 refine Zbl (by omega) (by omega) fun p2 q2 e2 h2 y2 z2=> ?_
 try simp only [cn_q] at e2 h2
 refine⟨by kernel_rfl,?_⟩
 refine ZbQ (by omega) (by omega) fun q3 h3 z3=> ?_
 try simp only [cn_q] at h3
 refine ZbQ (by omega) (by omega) fun q4 h4 z4=> ?_
 try simp only [cn_q] at h4
 refine⟨by kernel_rfl,?_⟩
 refine Eq.trans (b:=pair (cn _) (cn _)) ?_ rfl
 subst_vars;rfl
theorem ZjF (x y z t:RV) (hx:x.z≤1099511627776) (hy:y.z≤1099511627776) (hz:z.z≤1099511627776) (ht:t.z≤1099511627776):Spec Tryz.prog Tab 37 [pair x y,pair z t] (pair (cn (slo x y - shi z t)) (cn (shi x y - slo z t))):=by
 refine Zh Tryz.func37 rfl rfl Tryz.ntmps37 rfl (by kernel_rfl) rfl rfl ?_
 refine Zbl (by omega) (by omega) fun p1 q1 e1 h1 y1 z1=> ?_
 try simp only [cn_q] at e1 h1
 refine Zbl (by omega) (by omega) fun p2 q2 e2 h2 y2 z2=> ?_
 try simp only [cn_q] at e2 h2
 refine⟨by kernel_rfl,?_⟩
 refine ZbP (by omega) (by omega) fun q3 h3 z3=> ?_
 try simp only [cn_q] at h3
 refine ZbP (by omega) (by omega) fun q4 h4 z4=> ?_
 try simp only [cn_q] at h4
 refine⟨by kernel_rfl,?_⟩
 refine Eq.trans (b:=pair (cn _) (cn _)) ?_ rfl
 subst_vars;rfl
theorem Zio (x y z t:RV) (hx:x.z≤1099511627776) (hy:y.z≤1099511627776) (hz:z.z≤1099511627776) (ht:t.z≤1099511627776):Spec Tryz.prog Tab 40 [pair x y,pair z t] (pair (cn (minQ (slo x y) (slo z t))) (cn (maxQ (shi x y) (shi z t)))):=by
 refine Zh Tryz.func40 rfl rfl Tryz.ntmps40 rfl (by kernel_rfl) rfl rfl ?_
 refine Zbl (by omega) (by omega) fun p1 q1 e1 h1 y1 z1=> ?_
 try simp only [cn_q] at e1 h1
 refine Zbl (by omega) (by omega) fun p2 q2 e2 h2 y2 z2=> ?_
 try simp only [cn_q] at e2 h2
 refine⟨by kernel_rfl,?_⟩
 refine ZoR (by omega) (by omega) fun q3 h3 z3=> ?_
 try simp only [cn_q] at h3
 refine ZoS (by omega) (by omega) fun q4 h4 z4=> ?_
 try simp only [cn_q] at h4
 refine⟨by kernel_rfl,?_⟩
 refine Eq.trans (b:=pair (cn _) (cn _)) ?_ rfl
 subst_vars;rfl
theorem ZoM (hx:x.z≤1099511627776) (hy:y.z≤1099511627776) (hz:z.z≤1099511627776) (ht:t.z≤1099511627776) (k:∀ p q,p=slo x y+slo z t→q=shi x y+shi z t→(cn p).z≤x.z+z.z+20→(cn q).z≤y.z+t.z+20→K (pair (cn p) (cn q))):Ask 39 [pair x y,pair z t] K:=
 use (ZjJ x y z t hx hy hz ht) rfl (k _ _ rfl rfl (by have h1:=ZaA x y;have h2:=ZaA z t;have h3:=ZaB x y;have h4:=ZaB z t;have:=ZU (slo x y) (slo z t);rw [cn_z] at*;omega) (by have h1:=ZaA x y;have h2:=ZaA z t;have h3:=ZaB x y;have h4:=ZaB z t;have:=ZU (shi x y) (shi z t);rw [cn_z] at*;omega))
theorem ZoK (hx:x.z≤1099511627776) (hy:y.z≤1099511627776) (hz:z.z≤1099511627776) (ht:t.z≤1099511627776) (k:∀ p q,p=slo x y - shi z t→q=shi x y - slo z t→(cn p).z≤x.z+t.z+20→(cn q).z≤y.z+z.z+20→K (pair (cn p) (cn q))):Ask 37 [pair x y,pair z t] K:=
 use (ZjF x y z t hx hy hz ht) rfl (k _ _ rfl rfl (by have h1:=ZaA x y;have h2:=ZaA z t;have h3:=ZaB x y;have h4:=ZaB z t;have:=Zag (slo x y) (shi z t);rw [cn_z] at*;omega) (by have h1:=ZaA x y;have h2:=ZaA z t;have h3:=ZaB x y;have h4:=ZaB z t;have:=Zag (shi x y) (slo z t);rw [cn_z] at*;omega))
theorem Za1 (hx:x.z≤1099511627776) (hy:y.z≤1099511627776) (hz:z.z≤1099511627776) (ht:t.z≤1099511627776) (k:∀ p q,p=minQ (slo x y) (slo z t)→q=maxQ (shi x y) (shi z t)→(cn p).z≤x.z+z.z+20→(cn q).z≤y.z+t.z+20→K (pair (cn p) (cn q))):Ask 40 [pair x y,pair z t] K:=
 use (Zio x y z t hx hy hz ht) rfl (k _ _ rfl rfl (by have h1:=ZaA x y;have h2:=ZaA z t;have h3:=ZaB x y;have h4:=ZaB z t;have:=Zor (slo x y) (slo z t);rw [cn_z] at*;omega) (by have h1:=ZaA x y;have h2:=ZaA z t;have h3:=ZaB x y;have h4:=ZaB z t;have:=Zos (shi x y) (shi z t);rw [cn_z] at*;omega))
theorem ZjH (x y z:RV) (hx:x.z≤1099511627776) (hy:y.z≤1099511627776) (hz:z.z≤1099511627776):Spec Tryz.prog Tab 85 [pair x y,rat z] (bool (hasQ (slo x y) (shi x y) z.q)):=by
 refine Zh Tryz.func85 rfl rfl Tryz.ntmps85 rfl (by kernel_rfl) rfl rfl ?_
 refine Zbl (by omega) (by omega) fun p1 q1 e1 h1 y1 z1=> ?_
 try simp only [cn_q] at e1 h1
 refine Zm1 (by omega) (by omega) (fun g2=> ?_) (fun g2=> ?_) (fun g2=> ?_)
 ·try simp only [cn_q] at g2
  refine Zbj (by omega) (by omega) fun n3 h3=> ?_
  try simp only [cn_q] at h3
  refine Eq.trans (b:=bool _) ?_ rfl
  subst_vars
  first
   |(rw [hl _ _ _ (by assumption),dle])
   |(rw [he _ _ _ (by assumption),dle])
   |(rw [hg _ _ _ (by assumption)])
   |(rw [he _ _ _ rfl,dle])
   |(simp_all [dle,hasQ,Rat.le_refl])
 ·try simp only [cn_q] at g2
  refine Zbj (by omega) (by omega) fun n4 h4=> ?_
  try simp only [cn_q] at h4
  refine Eq.trans (b:=bool _) ?_ rfl
  subst_vars
  first
   |(rw [hl _ _ _ (by assumption),dle])
   |(rw [he _ _ _ (by assumption),dle])
   |(rw [hg _ _ _ (by assumption)])
   |(rw [he _ _ _ rfl,dle])
   |(simp_all [dle,hasQ,Rat.le_refl])
 ·try simp only [cn_q] at g2
  refine Eq.trans (b:=bool _) ?_ rfl
  subst_vars
  first
   |(rw [hl _ _ _ (by assumption),dle])
   |(rw [he _ _ _ (by assumption),dle])
   |(rw [hg _ _ _ (by assumption)])
   |(rw [he _ _ _ rfl,dle])
   |(simp_all [dle,hasQ,Rat.le_refl])
theorem ZkA (hx:x.z≤1099511627776) (hy:y.z≤1099511627776) (hz:z.z≤1099511627776) (k:∀ b,b=hasQ (slo x y) (shi x y) z.q→K (bool b)):Ask 85 [pair x y,rat z] K:=
 use (ZjH x y z hx hy hz) rfl (k _ rfl)
theorem hl' (a b c:Rat) (h:a< b):hasQ b c a=false:=hg _ _ _ h
theorem ZmF (x y z:RV) (hx:x.z≤1099511627776) (hy:y.z≤1099511627776) (hz:z.z≤1099511627776):Spec Tryz.prog Tab 50 [pair x y,rat z] (bool (hasQ x.q y.q z.q)):=by
 refine Zh Tryz.func50 rfl rfl Tryz.ntmps50 rfl (by kernel_rfl) rfl rfl ?_
 refine Zm1 (by omega) (by omega) (fun g1=> ?_) (fun g1=> ?_) (fun g1=> ?_)
 ·try simp only [cn_q] at g1
  refine Eq.trans (b:=bool _) ?_ rfl
  subst_vars
  first
   |(rw [hl _ _ _ (by assumption),dle])
   |(rw [he _ _ _ (Eq.symm (by assumption)),dle])
   |(rw [hg _ _ _ (by assumption)])
 ·try simp only [cn_q] at g1
  refine Zbj (by omega) (by omega) fun n2 h2=> ?_
  try simp only [cn_q] at h2
  refine Eq.trans (b:=bool _) ?_ rfl
  subst_vars
  first
   |(rw [hl _ _ _ (by assumption),dle])
   |(rw [he _ _ _ (Eq.symm (by assumption)),dle])
   |(rw [hg _ _ _ (by assumption)])
 ·try simp only [cn_q] at g1
  refine Zbj (by omega) (by omega) fun n3 h3=> ?_
  try simp only [cn_q] at h3
  refine Eq.trans (b:=bool _) ?_ rfl
  subst_vars
  first
   |(rw [hl _ _ _ (by assumption),dle])
   |(rw [he _ _ _ (Eq.symm (by assumption)),dle])
   |(rw [hg _ _ _ (by assumption)])
theorem Zmm (hx:x.z≤1099511627776) (hy:y.z≤1099511627776) (hz:z.z≤1099511627776) (k:∀ b,b=hasQ x.q y.q z.q→K (bool b)):Ask 50 [pair x y,rat z] K:=
 use (ZmF x y z hx hy hz) rfl (k _ rfl)
theorem Zce {p q:Rat}:0≤sgnQ (q - p)↔p≤q:=by
 have h1:0≤sgnQ (q - p)↔0≤(q - p).num:=by
  unfold sgnQ
  by_cases h0:(q - p).num=0
  ·rw [if_pos h0,h0]
  ·rw [if_neg h0]
   by_cases h2:(q - p).num< 0
   ·rw [if_pos h2];omega
   ·rw [if_neg h2];omega
 rw [h1,Rat.num_nonneg]
 constructor<;>intro h<;>grind
theorem Zi5 (x y:RV) (hx:x.z≤1099511627776) (hy:y.z≤1099511627776):Spec Tryz.prog Tab 48 [pair x y] (pair (cn (slo x y)) (cn (shi x y))):=by
 refine Zh Tryz.func48 rfl rfl Tryz.ntmps48 rfl (by kernel_rfl) rfl rfl ?_
 refine Zcx (by omega) (fun g1=> ?_) (fun g1=> ?_)
 ·skip
  refine Zcx (by omega) (fun g2=> ?_) (fun g2=> ?_)
  ·skip
   refine ZbP (by omega) (by omega) fun q3 h3 z3=> ?_
   try simp only [cn_q] at h3
   refine ZfC (by omega) fun n4 h4=> ?_
   try simp only [cn_q] at h4
   refine⟨fun e5=> ?_,fun e5=> ?_⟩
   ·skip
    first
     |(refine Eq.trans (b:=pair (cn _) (cn _)) ?_ rfl
       have H:¬ sgd x y:=fun h=>by first|exact g1 h.1|exact g2 h.2.1|(subst h4;subst h3;exact of_decide_eq_false e5 (Zce.2 h.2.2))
       rw [Zjx H,ZjC H];subst_vars;rfl)
     |(refine Eq.trans (b:=pair _ _) ?_ rfl
       have H:sgd x y:=⟨g1,g2,by subst h4;subst h3;exact Zce.1 (of_decide_eq_true e5)⟩
       rw [Zjw H,ZjB H])
   ·skip
    refine k_I (0) (by omega) (by omega) fun q6 h6 z6=> ?_
    refine k_I (0) (by omega) (by omega) fun q7 h7 z7=> ?_
    first
     |(refine Eq.trans (b:=pair (cn _) (cn _)) ?_ rfl
       have H:¬ sgd x y:=fun h=>by first|exact g1 h.1|exact g2 h.2.1|(subst h4;subst h3;exact of_decide_eq_false e5 (Zce.2 h.2.2))
       rw [Zjx H,ZjC H];subst_vars;rfl)
     |(refine Eq.trans (b:=pair _ _) ?_ rfl
       have H:sgd x y:=⟨g1,g2,by subst h4;subst h3;exact Zce.1 (of_decide_eq_true e5)⟩
       rw [Zjw H,ZjB H])
  ·skip
   refine⟨fun e=>by simp at e,fun _=> ?_⟩
   refine k_I (0) (by omega) (by omega) fun q8 h8 z8=> ?_
   refine k_I (0) (by omega) (by omega) fun q9 h9 z9=> ?_
   first
    |(refine Eq.trans (b:=pair (cn _) (cn _)) ?_ rfl
      have H:¬ sgd x y:=fun h=>by first|exact g1 h.1|exact g2 h.2.1|(subst h4;subst h3;exact of_decide_eq_false e5 (Zce.2 h.2.2))
      rw [Zjx H,ZjC H];subst_vars;rfl)
    |(refine Eq.trans (b:=pair _ _) ?_ rfl
      have H:sgd x y:=⟨g1,g2,by subst h4;subst h3;exact Zce.1 (of_decide_eq_true e5)⟩
      rw [Zjw H,ZjB H])
 ·skip
  refine⟨fun e=>by simp at e,fun _=> ?_⟩
  refine k_I (0) (by omega) (by omega) fun q10 h10 z10=> ?_
  refine k_I (0) (by omega) (by omega) fun q11 h11 z11=> ?_
  first
   |(refine Eq.trans (b:=pair (cn _) (cn _)) ?_ rfl
     have H:¬ sgd x y:=fun h=>by first|exact g1 h.1|exact g2 h.2.1|(subst h4;subst h3;exact of_decide_eq_false e5 (Zce.2 h.2.2))
     rw [Zjx H,ZjC H];subst_vars;rfl)
   |(refine Eq.trans (b:=pair _ _) ?_ rfl
     have H:sgd x y:=⟨g1,g2,by subst h4;subst h3;exact Zce.1 (of_decide_eq_true e5)⟩
     rw [Zjw H,ZjB H])
theorem Zez (hx:x.z≤1099511627776) (hy:y.z≤1099511627776) (k:∀ p q,p=slo x y→q=shi x y→(cn p).z≤x.z+8→(cn q).z≤y.z+8→K (pair (cn p) (cn q))):Ask 48 [pair x y] K:=
 use (Zi5 x y hx hy) rfl (k _ _ rfl rfl (ZaA x y) (ZaB x y))
end
end Go.Proofs.YtncoimmjjfmhdaaGreatDoor.eng
namespace Go.Proofs.YtncoimmjjfmhdaaGreatDoor.eng
open Go.RowKit num mem seg q held ratA ratB ratC ratD ratE vars ratF trq
section
variable {x y z t : RV} {K : AV → Prop}
theorem Zbq (m a:Rat):minQ m a=lowF m a:=by
 unfold minQ lowF
 by_cases h:m≤a
 ·rw [if_pos h,if_neg (Rat.not_lt.2 h)]
 ·rw [if_neg h,if_pos (Rat.not_le.1 h)]
theorem Zaj (m a:Rat):maxQ m a=highF m a:=by
 unfold maxQ highF
 by_cases h:a≤m
 ·rw [if_pos h,if_neg (Rat.not_lt.2 h)]
 ·rw [if_neg h,if_pos (Rat.not_le.1 h)]
theorem Zkl (q:Rat):lowF q q=q:=by unfold lowF;split<;>rfl
theorem ZiL (q:Rat):highF q q=q:=by unfold highF;split<;>rfl
theorem Zfa (q0:Rat) (l:List Rat) (hz:∀ q,q∈q0 :: l→qs q≤2199023255552) (hn:l.length≤1099511627776):Spec Tryz.prog Tab 88 [rats (q0 :: l)] (pair (cn (lowL q0 l)) (cn (highL q0 l))):=by
 refine Zh Tryz.func88 rfl rfl Tryz.ntmps88 rfl (by kernel_rfl) rfl rfl ?_
 refine ZkD 0 q0 rfl rfl ?_
 have hz0:(cn q0).z≤2199023255552:=by rw [cn_z];exact hz q0 (by simp)
 refine ZfD (by omega) fun q1 h1 z1=> ?_
 simp only [cn_q] at h1
 refine⟨rats l,⟨by omega,by simp;omega,?_,rfl⟩,?_⟩
 ·intro row hr
  simp only [List.mem_map] at hr
  obtain⟨q,_,rfl⟩:=hr
  rfl
 refine⟨Nat×Rat×Rat,fun s=> [(11,rats l),(12,int (((l.map fun q=>rd (cn q)).length:Nat):Int)),(13,int (s.1:Int)),(3,.val (.one (.ptr 3 0))),(2,.val (.one (.ptr 2 0)))],
  fun s=> [(2,.var 28 [.d (.v (.bool false)),.d (.v (.string ⟨#[]⟩)),.d (.v (.string ⟨#[]⟩)),.d (.v (.bool false)),.d (.v (.string ⟨#[]⟩)),.d (.v (.string ⟨#[]⟩))]),(3,.var 28 (rc (cn s.2.1)++rc (cn s.2.2)))],
  fun s=>s.1≤l.length∧qs s.2.1≤2199023255552∧qs s.2.2≤2199023255552∧(l.drop s.1).foldl lowF s.2.1=lowL q0 l∧(l.drop s.1).foldl highF s.2.2=highL q0 l,
  fun s=>l.length - s.1,(0,q1,q1),?_,⟨Nat.zero_le _,by subst h1;exact hz0,by subst h1;exact hz0,by subst h1;rfl,by subst h1;rfl⟩,fun s hs=> ?_⟩
 ·constructor<;>(repeat' (first|exact rfl|exact True.intro|apply And.intro))
 obtain⟨i,lo,hi⟩:=s
 obtain⟨h1,h2,h3,h4,h5⟩:=hs
 simp only at h1 h2 h3 h4 h5
 refine⟨fun e=> ?_,fun e=> ?_⟩
 ·have hlt:i< l.length:=by have:=of_decide_eq_true e;rw [List.length_map] at this;omega
  obtain⟨a,ha⟩:∃ a,l[i]? =some a:=⟨_,List.getElem?_eq_getElem hlt⟩
  have hza:=hz a (List.mem_cons_of_mem _ (List.mem_of_getElem? ha))
  have hdrop:l.drop i=a :: l.drop (i+1):=by
   rw [List.drop_eq_getElem_cons hlt]
   rw [List.getElem?_eq_getElem hlt] at ha
   rw [Option.some.inj ha]
  rw [hdrop,List.foldl_cons] at h4 h5
  have hw:IntKind.i64.wrap ((i:Int)+1)=((i+1:Nat):Int):=by rw [wrap64 _ (by omega) (by omega)];omega
  have zl:(cn lo).z≤2199023255552:=by rw [cn_z];exact h2
  have zh:(cn hi).z≤2199023255552:=by rw [cn_z];exact h3
  have za:(cn a).z≤2199023255552:=by rw [cn_z];exact hza
  refine ZkD i a rfl ha ?_
  refine ZoR (x:=cn lo) (y:=cn a) (by omega) (by omega) fun r1 f1 w1=> ?_
  simp only [cn_q] at f1
  refine ZoS (x:=cn hi) (y:=cn a) (by omega) (by omega) fun r2 f2 w2=> ?_
  simp only [cn_q] at f2
  refine⟨by kernel_rfl,?_⟩
  rw [Zbq] at f1
  rw [Zaj] at f2
  refine⟨(i+1,r1,r2),⟨hlt,?_,?_,?_,?_⟩,by simp only;omega,?_⟩
  ·subst f1;simp only [lowF];split<;>assumption
  ·subst f2;simp only [highF];split<;>assumption
  ·subst f1;exact h4
  ·subst f2;exact h5
  ·constructor<;>(repeat' (first|exact rfl|exact True.intro|apply And.intro))
   all_goals exact congrArg (fun n:Int=>D.v (.int .i64 n)) hw.symm
 ·have hge:l.length≤i:=by have:=of_decide_eq_false e;rw [List.length_map] at this;omega
  refine Eq.trans (b:=pair (cn lo) (cn hi)) ?_ rfl
  rw [List.drop_eq_nil_of_le hge] at h4 h5
  rw [← h4,← h5];rfl
theorem ZhA {q0 m:Rat} {l:List Rat} (h1:m=q0∨m∈l) (h2:m≤q0) (h3:∀ a,a∈l→m≤a):lowL q0 l=m:=by
 refine Rat.le_antisymm ?_ ?_
 ·rcases h1 with rfl|h1
  ·exact(Zb4 l _).1
  ·exact(Zb4 l q0).2 _ h1
 ·rcases Zcw l q0 with h|h
  ·rw [h];exact h2
  ·exact h3 _ h
theorem ZeC {q0 m:Rat} {l:List Rat} (h1:m=q0∨m∈l) (h2:q0≤m) (h3:∀ a,a∈l→a≤m):highL q0 l=m:=by
 refine Rat.le_antisymm ?_ ?_
 ·rcases Zc7 l q0 with h|h
  ·rw [h];exact h2
  ·exact h3 _ h
 ·rcases h1 with rfl|h1
  ·exact(ZaO l _).1
  ·exact(ZaO l q0).2 _ h1
theorem ZhB (q0:Rat) (l:List Rat):lowL q0 (q0 :: l)=lowL q0 l:=by show lowL (lowF q0 q0) l=_;rw [Zkl]
theorem ZfI (q0:Rat) (l:List Rat):highL q0 (q0 :: l)=highL q0 l:=by show highL (highF q0 q0) l=_;rw [ZiL]
theorem Zbt {q0:Rat} {l:List Rat} {B:Nat} (hz:∀ q,q∈q0 :: l→qs q≤B):qs (lowL q0 l)≤B:=by
 rcases Zcw l q0 with h|h
 ·rw [h];exact hz _ (by simp)
 ·exact hz _ (List.mem_cons_of_mem _ h)
theorem ZaN {q0:Rat} {l:List Rat} {B:Nat} (hz:∀ q,q∈q0 :: l→qs q≤B):qs (highL q0 l)≤B:=by
 rcases Zc7 l q0 with h|h
 ·rw [h];exact hz _ (by simp)
 ·exact hz _ (List.mem_cons_of_mem _ h)
theorem ZfE (B:Nat) (hB:B≤2199023255552) (q0:Rat) (l:List Rat) {v:List (List D)} (hv:v=(q0 :: l).map fun q=>rd (cn q)) (hz:∀ q,q∈q0 :: l→qs q≤B) (hn:l.length≤1099511627776)
  (k:∀ p q,p=lowL q0 l→q=highL q0 l→(cn p).z≤B→(cn q).z≤B→K (pair (cn p) (cn q))):Ask 88 [.val (.one (.d (.list v)))] K:=by
 subst hv
 exact use (Zfa q0 l (fun q h=>Nat.le_trans (hz q h) hB) hn) rfl (k _ _ rfl rfl (by rw [cn_z];exact Zbt hz) (by rw [cn_z];exact ZaN hz))
theorem ZdU (B:Nat) (hB:B≤2199023255552) (q0:Rat) (l:List Rat) {v:List (List D)} (hv:v=(q0 :: l).map fun q=>rd (cn q)) (hz:∀ q,q∈q0 :: l→qs q≤B) (hn:l.length≤1099511627776)
  (k:∀ p q,p=lowL q0 l→q=highL q0 l→(cn p).z≤B→(cn q).z≤B→K (pair (cn p) (cn q))):Ask 21 [.val (.one (.d (.list v)))] K:=by
 refine ZkH q0 l hv (fun q h=>Nat.le_trans (hz q h) (Nat.le_trans hB (by decide))) hn fun p q e h=> ?_
 rw [ZhB] at e
 rw [ZfI] at h
 exact k p q e h (by rw [cn_z,e];exact Zbt hz) (by rw [cn_z,h];exact ZaN hz)
def fv (g:FuncId):AV:= .val (.one (.d (.v (.func (.func g) #[] #[]))))
theorem Zcb (B:Nat) (hB:B≤2199023255552) (g:FuncId) (F:Rat→Rat→Rat) (x y z t:RV) (hx:x.z≤1099511627776) (hy:y.z≤1099511627776) (hz:z.z≤1099511627776) (ht:t.z≤1099511627776)
  (hg:∀ p q,(p=slo x y∨p=shi x y)→(q=slo z t∨q=shi z t)→∀ K:AV→Prop,(∀ r,r=F p q→qs r≤B→K (rat (cn r)))→Ask g [rat (cn p),rat (cn q)] K):
  Spec Tryz.prog Tab 18 [pair x y,pair z t,fv g] (pair (cn (lowL (F (slo x y) (slo z t)) [F (slo x y) (shi z t),F (shi x y) (slo z t),F (shi x y) (shi z t)])) (cn (highL (F (slo x y) (slo z t)) [F (slo x y) (shi z t),F (shi x y) (slo z t),F (shi x y) (shi z t)]))):=by
 refine Zh Tryz.func18 rfl rfl Tryz.ntmps18 rfl (by kernel_rfl) rfl rfl ?_
 refine Zez (by omega) (by omega) fun p1 q1 e1 h1 y1 z1=> ?_
 refine Zez (by omega) (by omega) fun p2 q2 e2 h2 y2 z2=> ?_
 refine⟨by kernel_rfl,?_⟩
 refine hg p1 p2 (.inl e1) (.inl e2) _ fun r1 f1 b1=> ?_
 refine hg p1 q2 (.inl e1) (.inr h2) _ fun r2 f2 b2=> ?_
 refine hg q1 p2 (.inr h1) (.inl e2) _ fun r3 f3 b3=> ?_
 refine hg q1 q2 (.inr h1) (.inr h2) _ fun r4 f4 b4=> ?_
 refine ZdU B hB r1 [r2,r3,r4] rfl (by simp only [List.mem_cons,List.mem_nil_iff,or_false];rintro q (rfl|rfl|rfl|rfl)<;>assumption) (by simp) fun p q e h y3 z3=> ?_
 refine⟨by kernel_rfl,?_⟩
 refine Eq.trans (b:=pair (cn _) (cn _)) ?_ rfl
 subst_vars;rfl
end
end Go.Proofs.YtncoimmjjfmhdaaGreatDoor.eng
namespace Go.Proofs.YtncoimmjjfmhdaaGreatDoor.eng
open Go.RowKit num mem seg q held ratA ratB ratC ratD ratE vars ratF trq
section
variable {x y z t : RV} {K : AV → Prop}
def mulLo (a b c d:Rat):Rat:=lowL (a*c) [a*d,b*c,b*d]
def mulHi (a b c d:Rat):Rat:=highL (a*c) [a*d,b*c,b*d]
def sqLo (a b:Rat):Rat:=if hasQ a b ((0:Int):Rat)=true then ((0:Int):Rat) else lowL (a*a) [b*b]
def sqHi (a b:Rat):Rat:=highL (a*a) [b*b]
theorem ZjG (x y z t:RV) (hx:x.z≤68719476736) (hy:y.z≤68719476736) (hz:z.z≤68719476736) (ht:t.z≤68719476736):Spec Tryz.prog Tab 38 [pair x y,pair z t] (pair (cn (mulLo (slo x y) (shi x y) (slo z t) (shi z t))) (cn (mulHi (slo x y) (shi x y) (slo z t) (shi z t)))):=by
 refine Zh Tryz.func38 rfl rfl Tryz.ntmps38 rfl (by kernel_rfl) rfl rfl ?_
 refine Zbl (by omega) (by omega) fun p1 q1 e1 h1 y1 z1=> ?_
 try simp only [cn_q] at e1 h1
 refine Zbl (by omega) (by omega) fun p2 q2 e2 h2 y2 z2=> ?_
 try simp only [cn_q] at e2 h2
 refine⟨by kernel_rfl,?_⟩
 refine Za2 (by omega) (by omega) fun q3 h3 z3=> ?_
 try simp only [cn_q] at h3
 refine Za2 (by omega) (by omega) fun q4 h4 z4=> ?_
 try simp only [cn_q] at h4
 refine Za2 (by omega) (by omega) fun q5 h5 z5=> ?_
 try simp only [cn_q] at h5
 refine Za2 (by omega) (by omega) fun q6 h6 z6=> ?_
 try simp only [cn_q] at h6
 refine ZfE 1099511627776 (by decide) q3 [q4,q5,q6] rfl (by intro q hq;simp only [List.mem_cons,List.mem_nil_iff,or_false] at hq;rcases hq with rfl|rfl|rfl|rfl<;>(simp only [cn_z] at*;omega)) (by simp) fun p7 q7 e7 h7 y7 z7=> ?_
 refine⟨by kernel_rfl,?_⟩
 refine Eq.trans (b:=pair (cn _) (cn _)) ?_ rfl
 subst_vars;rfl
theorem ZoB (hq:∀ q,q∈ [slo x y,shi x y]→qs q≤x.z+y.z+8) (hr:∀ q,q∈ [slo z t,shi z t]→qs q≤z.z+t.z+8):∀ q,q∈slo x y*slo z t :: [slo x y*shi z t,shi x y*slo z t,shi x y*shi z t]→qs q≤x.z+y.z+z.z+t.z+20:=by
 have h1:=hq _ (by simp:slo x y∈_)
 have h2:=hq _ (by simp:shi x y∈_)
 have h3:=hr _ (by simp:slo z t∈_)
 have h4:=hr _ (by simp:shi z t∈_)
 intro q h
 simp only [List.mem_cons,List.mem_nil_iff,or_false] at h
 rcases h with rfl|rfl|rfl|rfl
 ·have:=ZJ (slo x y) (slo z t);omega
 ·have:=ZJ (slo x y) (shi z t);omega
 ·have:=ZJ (shi x y) (slo z t);omega
 ·have:=ZJ (shi x y) (shi z t);omega
theorem ZhR (x y:RV):∀ q,q∈ [slo x y,shi x y]→qs q≤x.z+y.z+8:=by
 intro q h
 have h1:=ZaA x y
 have h2:=ZaB x y
 rw [cn_z] at h1 h2
 simp only [List.mem_cons,List.mem_nil_iff,or_false] at h
 rcases h with rfl|rfl<;>omega
theorem ZoL (hx:x.z≤68719476736) (hy:y.z≤68719476736) (hz:z.z≤68719476736) (ht:t.z≤68719476736) (k:∀ p q,p=mulLo (slo x y) (shi x y) (slo z t) (shi z t)→q=mulHi (slo x y) (shi x y) (slo z t) (shi z t)→(cn p).z≤x.z+y.z+z.z+t.z+20→(cn q).z≤x.z+y.z+z.z+t.z+20→K (pair (cn p) (cn q))):Ask 38 [pair x y,pair z t] K:=
 use (ZjG x y z t hx hy hz ht) rfl (k _ _ rfl rfl (by rw [cn_z];exact Zbt (ZoB (ZhR x y) (ZhR z t))) (by rw [cn_z];exact ZaN (ZoB (ZhR x y) (ZhR z t))))
theorem ZlM (x y:RV) (hx:x.z≤68719476736) (hy:y.z≤68719476736):Spec Tryz.prog Tab 80 [pair x y] (pair (cn (sqLo (slo x y) (shi x y))) (cn (sqHi (slo x y) (shi x y)))):=by
 refine Zh Tryz.func80 rfl rfl Tryz.ntmps80 rfl (by kernel_rfl) rfl rfl ?_
 refine Zbl (by omega) (by omega) fun p1 q1 e1 h1 y1 z1=> ?_
 try simp only [cn_q] at e1 h1
 refine Za2 (by omega) (by omega) fun q2 h2 z2=> ?_
 try simp only [cn_q] at h2
 refine Za2 (by omega) (by omega) fun q3 h3 z3=> ?_
 try simp only [cn_q] at h3
 refine ZfE 1099511627776 (by decide) q2 [q3] rfl (by intro q hq;simp only [List.mem_cons,List.mem_nil_iff,or_false] at hq;rcases hq with rfl|rfl<;>(simp only [cn_z] at*;omega)) (by simp) fun p4 q4 e4 h4 y4 z4=> ?_
 refine⟨by kernel_rfl,?_⟩
 refine k_of (0) (by omega) (by omega) fun q5 h5 z5=> ?_
 refine ZkA (by omega) (by omega) (by omega) fun b6 h6=> ?_
 try rw [Zy (by subst_vars;exact ZcO _ _),Zz (by subst_vars;exact ZcO _ _),cn_q] at h6
 refine⟨by kernel_rfl,?_⟩
 refine⟨fun e7=> ?_,fun e7=> ?_⟩
 ·skip
  refine k_of (0) (by omega) (by omega) fun q8 h8 z8=> ?_
  refine Eq.trans (b:=pair (cn _) (cn _)) ?_ rfl
  unfold sqLo sqHi
  subst_vars
  first
   |rw [if_pos (Eq.symm (by assumption))]
   |rw [if_neg (ne_true_of_eq_false (Eq.symm (by assumption)))]
 ·skip
  refine Eq.trans (b:=pair (cn _) (cn _)) ?_ rfl
  unfold sqLo sqHi
  subst_vars
  first
   |rw [if_pos (Eq.symm (by assumption))]
   |rw [if_neg (ne_true_of_eq_false (Eq.symm (by assumption)))]
theorem sq_z (x y:RV):∀ q,q∈slo x y*slo x y :: [shi x y*shi x y]→qs q≤2*x.z+2*y.z+20:=by
 have h1:=ZaA x y
 have h2:=ZaB x y
 rw [cn_z] at h1 h2
 have:=ZJ (slo x y) (slo x y)
 have:=ZJ (shi x y) (shi x y)
 intro q h
 simp only [List.mem_cons,List.mem_nil_iff,or_false] at h
 rcases h with rfl|rfl<;>omega
theorem Zpd (hx:x.z≤68719476736) (hy:y.z≤68719476736) (k:∀ p q,p=sqLo (slo x y) (shi x y)→q=sqHi (slo x y) (shi x y)→(cn p).z≤2*x.z+2*y.z+20→(cn q).z≤2*x.z+2*y.z+20→K (pair (cn p) (cn q))):Ask 80 [pair x y] K:=
 use (ZlM x y hx hy) rfl (k _ _ rfl rfl (by rw [cn_z];unfold sqLo;split;(have:=qs_0;omega);exact Zbt (sq_z x y)) (by rw [cn_z];exact ZaN (sq_z x y)))
end
end Go.Proofs.YtncoimmjjfmhdaaGreatDoor.eng
namespace Go.Proofs.YtncoimmjjfmhdaaGreatDoor.eng
open Go.RowKit num mem seg q held ratA ratB ratC ratD ratE vars ratF trq
section
variable {x y z t u v w : RV} {K : AV → Prop}
theorem Zjf (x y z t:RV) (hx:x.z≤1099511627776) (hy:y.z≤1099511627776) (hz:z.z≤1099511627776) (ht:t.z≤1099511627776):Spec Tryz.prog Tab 28 [pair x y,pair z t] (pair (cn (x.q+z.q)) (cn (y.q+t.q))):=by
 refine Zh Tryz.func28 rfl rfl Tryz.ntmps28 rfl (by kernel_rfl) rfl rfl ?_
 refine ZbQ (by omega) (by omega) fun q1 h1 z1=> ?_
 try simp only [cn_q] at h1
 refine ZbQ (by omega) (by omega) fun q2 h2 z2=> ?_
 try simp only [cn_q] at h2
 refine⟨by kernel_rfl,?_⟩
 refine Eq.trans (b:=pair (cn _) (cn _)) ?_ rfl
 subst_vars;rfl
theorem ZmX (hx:x.z≤1099511627776) (hy:y.z≤1099511627776) (hz:z.z≤1099511627776) (ht:t.z≤1099511627776) (k:∀ p q,p=x.q+z.q→q=y.q+t.q→(cn p).z≤x.z+z.z+3→(cn q).z≤y.z+t.z+3→K (pair (cn p) (cn q))):Ask 28 [pair x y,pair z t] K:=
 use (Zjf x y z t hx hy hz ht) rfl (k _ _ rfl rfl (by have:=ZU x.q z.q;have:=x.z1;have:=y.z1;have:=z.z1;have:=t.z1;rw [cn_z];omega) (by have:=ZU y.q t.q;have:=x.z1;have:=y.z1;have:=z.z1;have:=t.z1;rw [cn_z];omega))
theorem Zje (x y z t:RV) (hx:x.z≤1099511627776) (hy:y.z≤1099511627776) (hz:z.z≤1099511627776) (ht:t.z≤1099511627776):Spec Tryz.prog Tab 146 [pair x y,pair z t] (pair (cn (x.q - z.q)) (cn (y.q - t.q))):=by
 refine Zh Tryz.func146 rfl rfl Tryz.ntmps146 rfl (by kernel_rfl) rfl rfl ?_
 refine ZbP (by omega) (by omega) fun q1 h1 z1=> ?_
 try simp only [cn_q] at h1
 refine ZbP (by omega) (by omega) fun q2 h2 z2=> ?_
 try simp only [cn_q] at h2
 refine⟨by kernel_rfl,?_⟩
 refine Eq.trans (b:=pair (cn _) (cn _)) ?_ rfl
 subst_vars;rfl
theorem ZmW (hx:x.z≤1099511627776) (hy:y.z≤1099511627776) (hz:z.z≤1099511627776) (ht:t.z≤1099511627776) (k:∀ p q,p=x.q - z.q→q=y.q - t.q→(cn p).z≤x.z+z.z+3→(cn q).z≤y.z+t.z+3→K (pair (cn p) (cn q))):Ask 146 [pair x y,pair z t] K:=
 use (Zje x y z t hx hy hz ht) rfl (k _ _ rfl rfl (by have:=Zag x.q z.q;have:=x.z1;have:=y.z1;have:=z.z1;have:=t.z1;rw [cn_z];omega) (by have:=Zag y.q t.q;have:=x.z1;have:=y.z1;have:=z.z1;have:=t.z1;rw [cn_z];omega))
theorem Zob (x y z t:RV) (hx:x.z≤1099511627776) (hy:y.z≤1099511627776) (hz:z.z≤1099511627776) (ht:t.z≤1099511627776):Spec Tryz.prog Tab 92 [pair x y,pair z t] (pair (cn (z.q - x.q)) (cn (t.q - y.q))):=by
 refine Zh Tryz.func92 rfl rfl Tryz.ntmps92 rfl (by kernel_rfl) rfl rfl ?_
 refine ZbP (by omega) (by omega) fun q1 h1 z1=> ?_
 try simp only [cn_q] at h1
 refine ZbP (by omega) (by omega) fun q2 h2 z2=> ?_
 try simp only [cn_q] at h2
 refine⟨by kernel_rfl,?_⟩
 refine Eq.trans (b:=pair (cn _) (cn _)) ?_ rfl
 subst_vars;rfl
theorem k_RV (hx:x.z≤1099511627776) (hy:y.z≤1099511627776) (hz:z.z≤1099511627776) (ht:t.z≤1099511627776) (k:∀ p q,p=z.q - x.q→q=t.q - y.q→(cn p).z≤x.z+z.z+3→(cn q).z≤y.z+t.z+3→K (pair (cn p) (cn q))):Ask 92 [pair x y,pair z t] K:=
 use (Zob x y z t hx hy hz ht) rfl (k _ _ rfl rfl (by have:=Zag z.q x.q;have:=x.z1;have:=y.z1;have:=z.z1;have:=t.z1;rw [cn_z];omega) (by have:=Zag t.q y.q;have:=x.z1;have:=y.z1;have:=z.z1;have:=t.z1;rw [cn_z];omega))
end
end Go.Proofs.YtncoimmjjfmhdaaGreatDoor.eng
namespace Go.Proofs.YtncoimmjjfmhdaaGreatDoor.eng
open Go.RowKit num mem seg q held ratA ratB ratC ratD ratE vars ratF trq
section
variable {x y z t : RV} {K : AV → Prop}
def rdv (p:RV×RV):List D:=rd p.1++rd p.2
def vecs (l:List (RV×RV)):AV:= .val (.one (.d (.list (l.map rdv))))
end
end Go.Proofs.YtncoimmjjfmhdaaGreatDoor.eng
