/- Contract: timing.Profile. -/
import Derived.Test.YtbgokkfhohodgaaDoorEngTim
import Derived.Test.YtbgokkfhohodgaaDoorGrpS
namespace Go.Proofs.YtbgokkfhohodgaaDoor.eng
open Go.RowKit num mem seg q held ratA ratB ratC ratD ratE vars ratF natC natD natI sub32
section
variable {x y z t : RV} {K : AV → Prop}
theorem ZgU {q:Rat}:sgnQ q< 0↔q< 0:=by
 rw [← Zdg];unfold sgnQ
 by_cases h:q.num=0
 ·rw [if_pos h];omega
 ·rw [if_neg h];by_cases h2:q.num< 0
  ·rw [if_pos h2];omega
  ·rw [if_neg h2];omega
theorem Zdh {q:Rat}:sgnQ q≤0↔q≤0:=by
 have:=Zdf q
 rw [← Rat.not_lt,← this];omega
theorem ZiP (s a f:Rat):1≤needN s a f∧needN s a f≤51:=by unfold needN;exact ZhR _ 50 1
def chL (f s a:Rat) (n:Nat):List Rat:=(capsL s a n).map fun c=>f / sumL (capsL s a n)*c
theorem Zbo (f s a:Rat) (n:Nat):(chL f s a n).length=n:=by rw [chL,List.length_map,Zy]
theorem ZkA {f s a:Rat} {n i:Nat} (h:i< n):(chL f s a n)[i]? =some (f / sumL (capsL s a n)*capQ s a n (i+1)):=by rw [chL,List.getElem?_map,Zb9 h];rfl
theorem ZdI {f s a:Rat} {n i:Nat} (h:i< n):(chL f s a n).take (i+1)=(chL f s a n).take i++ [f / sumL (capsL s a n)*capQ s a n (i+1)]:=by
 rw [List.take_add_one,ZkA h];rfl
theorem ZbN {f s a:Rat} {t:Int} (h:f< 0∨s≤0∨a≤0∨t< 0∨50< t):profE f s a t=1:=by unfold profE;rw [if_pos h]
theorem Zb5 {f s a:Rat} {t:Int} (h:¬ (f< 0∨s≤0∨a≤0∨t< 0∨50< t)) (h2:50< needN s a f∨(0< t∧t< (needN s a f:Int))):profE f s a t=19:=by unfold profE;rw [if_neg h,if_pos h2]
theorem Zds {f s a:Rat} {t:Int} (h:¬ (f< 0∨s≤0∨a≤0∨t< 0∨50< t)) (h2:¬ (50< needN s a f∨(0< t∧t< (needN s a f:Int)))):profE f s a t=0:=by unfold profE;rw [if_neg h,if_neg h2]
theorem Zfu {f s a:Rat} {t e:Int} (h:profE f s a t=e) (he:e≠0):two (rats (profL f s a t)) (int (profE f s a t))=two (rats []) (int e):=by
 unfold profL
 rw [h,if_neg he]
theorem Zhe {f s a:Rat} {t:Int} (h:profE f s a t=0):two (rats (profL f s a t)) (int (profE f s a t))=two (rats (chL f s a (profN f s a t))) (int 0):=by
 unfold profL chL
 rw [h,if_pos rfl]
set_option maxHeartbeats 4000000 in
set_option maxRecDepth 100000 in
theorem Zd2 (f s a:RV) (t:Int) (h1:-9223372036854775808≤t) (h2:t≤9223372036854775807) (hf:f.z≤16777216) (hs:s.z≤16777216) (ha:a.z≤16777216):
  Spec Tryd.prog Tab 7 [rat f,rat s,rat a,int t] (two (rats (profL f.q s.q a.q t)) (int (profE f.q s.q a.q t))):=by
 have bad:(f.q< 0∨s.q≤0∨a.q≤0∨t< 0∨50< t)→two (rats (profL f.q s.q a.q t)) (int (profE f.q s.q a.q t))=two (rats []) (int 1):=fun h=>Zfu (ZbN h) (by decide)
 refine Zk Tryd.func7 rfl rfl Tryd.ntmps7 rfl (by kernel_rfl) rfl rfl ?_
 refine ZhB (by omega) fun n1 g1=> ?_
 refine fork (fun e1=> ?_) (fun e1=> ?_)
 ·refine⟨fun _=> ?_,fun e=>by simp at e⟩
  exact bad (.inl (ZgU.1 (by rw [← g1];exact of_decide_eq_true e1)))
 have c1:¬ f.q< 0:=fun h=>of_decide_eq_false e1 (by rw [g1];exact ZgU.2 h)
 refine ZhB (by omega) fun n2 g2=> ?_
 refine fork (fun e2=> ?_) (fun e2=> ?_)
 ·refine⟨fun _=> ?_,fun e=>by simp at e⟩
  exact bad (.inr (.inl (Zdh.1 (by rw [← g2];exact of_decide_eq_true e2))))
 have c2:¬ s.q≤0:=fun h=>of_decide_eq_false e2 (by rw [g2];exact Zdh.2 h)
 refine ZhB (by omega) fun n3 g3=> ?_
 refine fork (fun e3=> ?_) (fun e3=> ?_)
 ·refine⟨fun _=> ?_,fun e=>by simp at e⟩
  exact bad (.inr (.inr (.inl (Zdh.1 (by rw [← g3];exact of_decide_eq_true e3)))))
 have c3:¬ a.q≤0:=fun h=>of_decide_eq_false e3 (by rw [g3];exact Zdh.2 h)
 refine fork (fun e4=> ?_) (fun e4=> ?_)
 ·refine⟨fun _=> ?_,fun e=>by simp at e⟩
  exact bad (.inr (.inr (.inr (.inl (of_decide_eq_true e4)))))
 have c4:¬ t< 0:=of_decide_eq_false e4
 refine⟨fun e5=> ?_,fun e5=> ?_⟩
 ·exact bad (.inr (.inr (.inr (.inr (of_decide_eq_true e5)))))
 have c5:¬ 50< t:=of_decide_eq_false e5
 have c:¬ (f.q< 0∨s.q≤0∨a.q≤0∨t< 0∨50< t):=by
  rintro(h|h|h|h|h)
  ·exact c1 h
  ·exact c2 h
  ·exact c3 h
  ·exact c4 h
  ·exact c5 h
 refine Zkk (by omega) (by omega) (by omega) ?_
 have late:(50< needN s.q a.q f.q∨(0< t∧t< (needN s.q a.q f.q:Int)))→two (rats (profL f.q s.q a.q t)) (int (profE f.q s.q a.q t))=two (rats []) (int 19):=fun h=>Zfu (Zb5 c h) (by decide)
 obtain⟨r1,r2⟩:=ZiP s.q a.q f.q
 have nI:¬ 50< needN s.q a.q f.q→needI s.q a.q f.q=(needN s.q a.q f.q:Int):=fun h=>by unfold needI;rw [if_pos (by omega)]
 have nJ:needI s.q a.q f.q< 0↔50< needN s.q a.q f.q:=by unfold needI;split<;>omega
 refine fork (fun e6=> ?_) (fun e6=> ?_)
 ·refine⟨fun _=> ?_,fun e=>by simp at e⟩
  exact late (.inl (nJ.1 (of_decide_eq_true e6)))
 have c6:¬ 50< needN s.q a.q f.q:=fun h=>of_decide_eq_false e6 (nJ.2 h)
 have hnI:=nI c6
 generalize needI s.q a.q f.q=m at*
 subst hnI
 have goal:∀ {X:Prop},(¬ (0< t∧t< (needN s.q a.q f.q:Int))→X)→(¬ (0< t∧t< (needN s.q a.q f.q:Int)))→X:=fun h1 h2=>h1 h2
 have hN:¬ (0< t∧t< (needN s.q a.q f.q:Int))→(if t >(needN s.q a.q f.q:Int) then t else (needN s.q a.q f.q:Int))=(profN f.q s.q a.q t:Int)∧profN f.q s.q a.q t≤50∧0< profN f.q s.q a.q t:=by
  intro h
  unfold profN
  constructor
  ·split<;>omega
  ·omega
 refine fork (fun e7=> ?_) (fun e7=> ?_)
 ·refine⟨fun e8=> ?_,fun e8=> ?_⟩
  ·exact late (.inr ⟨of_decide_eq_true e7,of_decide_eq_true e8⟩)
  refine goal ?_ (fun h=>of_decide_eq_false e8 h.2)
  clear e7 e8
  intro c7
  have w1:=(hN c7).1
  have w2:=(hN c7).2.1
  have w3:=(hN c7).2.2
  have hres:=Zhe (Zds c (fun h=>h.elim c6 c7))
  let N:=profN f.q s.q a.q t
  change _=two (rats (chL f.q s.q a.q N)) (int 0) at hres
  change _=(N:Int) at w1
  change N≤50 at w2
  change 0< N at w3
  clear_value N
  have hpos:=Zaw (Rat.not_le.1 c2) (Rat.not_le.1 c3) w3
  refine ZeZ N w1 w2 (by omega) (by omega) fun q1 g4 z1=> ?_
  refine Zkl (by omega) (by omega) (by rw [cn_q,g4];exact fun h=>Rat.ne_of_gt hpos h) fun q2 g5 z2=> ?_
  rw [cn_q,g4] at g5
  refine⟨by kernel_rfl,?_⟩
  refine⟨Nat,fun i=> [(5,.val (.one (.ptr 5 0))),(6,.val (.one (.ptr 6 0))),(10,int (N:Int)),(11,.val (.one (.ptr 11 0))),(13,.val (.one (.row 83 0))),(14,int ((i:Int)+1))],
   fun i=> [(5,.var 23 (rc s)),(6,.var 23 (rc a)),(11,.var 23 (rc (cn q2))),(83,.row 23 3 0 (((chL f.q s.q a.q N).take i).map fun q=>rd (cn q)) true)],
   fun i=>i≤N,fun i=>N - i,0,?_,Nat.zero_le _,fun i hi=> ?_⟩
  ·constructor<;>(repeat' (first|exact rfl|exact True.intro|exact⟨_,_,rfl⟩|exact(by decide:0< 3)|apply And.intro))
   all_goals exact congrArg (fun n:Int=>D.v (.int .i64 n)) w1.symm
  refine⟨fun e=> ?_,fun e=> ?_⟩
  ·have hlt:i< N:=by have:=of_decide_eq_true e;omega
   have hw:IntKind.i64.wrap (IntKind.i64.wrap ((N:Int)+1) - ((i:Int)+1))=(N:Int)+1 - ((i+1:Nat):Int):=by rw [wrap64 ((N:Int)+1) (by omega) (by omega),wrap64 _ (by omega) (by omega)];omega
   have hc:(if IntKind.i64.wrap (IntKind.i64.wrap ((N:Int)+1) - ((i:Int)+1))< (i:Int)+1 then IntKind.i64.wrap (IntKind.i64.wrap ((N:Int)+1) - ((i:Int)+1)) else (i:Int)+1)=min ((i+1:Nat):Int) ((N:Int)+1 - ((i+1:Nat):Int)):=by rw [hw];split<;>omega
   have hlen:((chL f.q s.q a.q N).take i).length≤50:=by rw [List.length_take];omega
   refine k_of (if IntKind.i64.wrap (IntKind.i64.wrap ((N:Int)+1) - ((i:Int)+1))< (i:Int)+1 then IntKind.i64.wrap (IntKind.i64.wrap ((N:Int)+1) - ((i:Int)+1)) else (i:Int)+1) (by rw [hc];omega) (by rw [hc];omega) fun q3 g6 z3=> ?_
   rw [hc] at g6
   refine ZhE (by omega) (by omega) fun q4 g7 z4=> ?_
   refine ZjO (by omega) (by omega) fun q5 g8 z5=> ?_
   refine ZhE (by omega) (by omega) fun q6 g9 z6=> ?_
   have hq:(chL f.q s.q a.q N).take (i+1)=(chL f.q s.q a.q N).take i++ [q6]:=by
    rw [ZdI hlt]
    simp only [cn_q] at g6 g7 g8 g9
    rw [g9,g8,g7,g6,g5];rfl
   refine⟨⟨Zb3 [q6],?_,?_⟩,?_⟩
   ·simp only [List.length_map,List.length_cons,List.length_nil];omega
   ·simp only [List.length_map,List.length_cons,List.length_nil];omega
   refine⟨by kernel_rfl,?_⟩
   refine⟨i+1,hlt,by simp only;omega,?_⟩
   constructor<;>(repeat' (first|exact rfl|exact True.intro|apply And.intro))
   all_goals first
    |exact congrArg (fun n:Int=>D.v (.int .i64 n)) (show ((i+1:Nat):Int)+1=IntKind.i64.wrap ((i:Int)+1+1) by rw [wrap64 _ (by omega) (by omega)];omega)
    |(rw [hq,List.map_append];exact rfl)
  ·have hge:i=N:=by have:=of_decide_eq_false e;omega
   subst hge
   refine Eq.trans hres ?_
   refine Eq.trans (b:=two (rats ((chL f.q s.q a.q i).take i)) (int 0)) ?_ rfl
   rw [List.take_of_length_le (by rw [Zbo];omega)]
 ·refine⟨fun e=>by simp at e,fun _=> ?_⟩
  refine goal ?_ (fun h=>of_decide_eq_false e7 h.1)
  clear e7
  intro c7
  have w1:=(hN c7).1
  have w2:=(hN c7).2.1
  have w3:=(hN c7).2.2
  have hres:=Zhe (Zds c (fun h=>h.elim c6 c7))
  let N:=profN f.q s.q a.q t
  change _=two (rats (chL f.q s.q a.q N)) (int 0) at hres
  change _=(N:Int) at w1
  change N≤50 at w2
  change 0< N at w3
  clear_value N
  have hpos:=Zaw (Rat.not_le.1 c2) (Rat.not_le.1 c3) w3
  refine ZeZ N w1 w2 (by omega) (by omega) fun q1 g4 z1=> ?_
  refine Zkl (by omega) (by omega) (by rw [cn_q,g4];exact fun h=>Rat.ne_of_gt hpos h) fun q2 g5 z2=> ?_
  rw [cn_q,g4] at g5
  refine⟨by kernel_rfl,?_⟩
  refine⟨Nat,fun i=> [(5,.val (.one (.ptr 5 0))),(6,.val (.one (.ptr 6 0))),(10,int (N:Int)),(11,.val (.one (.ptr 11 0))),(13,.val (.one (.row 83 0))),(14,int ((i:Int)+1))],
   fun i=> [(5,.var 23 (rc s)),(6,.var 23 (rc a)),(11,.var 23 (rc (cn q2))),(83,.row 23 3 0 (((chL f.q s.q a.q N).take i).map fun q=>rd (cn q)) true)],
   fun i=>i≤N,fun i=>N - i,0,?_,Nat.zero_le _,fun i hi=> ?_⟩
  ·constructor<;>(repeat' (first|exact rfl|exact True.intro|exact⟨_,_,rfl⟩|exact(by decide:0< 3)|apply And.intro))
   all_goals exact congrArg (fun n:Int=>D.v (.int .i64 n)) w1.symm
  refine⟨fun e=> ?_,fun e=> ?_⟩
  ·have hlt:i< N:=by have:=of_decide_eq_true e;omega
   have hw:IntKind.i64.wrap (IntKind.i64.wrap ((N:Int)+1) - ((i:Int)+1))=(N:Int)+1 - ((i+1:Nat):Int):=by rw [wrap64 ((N:Int)+1) (by omega) (by omega),wrap64 _ (by omega) (by omega)];omega
   have hc:(if IntKind.i64.wrap (IntKind.i64.wrap ((N:Int)+1) - ((i:Int)+1))< (i:Int)+1 then IntKind.i64.wrap (IntKind.i64.wrap ((N:Int)+1) - ((i:Int)+1)) else (i:Int)+1)=min ((i+1:Nat):Int) ((N:Int)+1 - ((i+1:Nat):Int)):=by rw [hw];split<;>omega
   have hlen:((chL f.q s.q a.q N).take i).length≤50:=by rw [List.length_take];omega
   refine k_of (if IntKind.i64.wrap (IntKind.i64.wrap ((N:Int)+1) - ((i:Int)+1))< (i:Int)+1 then IntKind.i64.wrap (IntKind.i64.wrap ((N:Int)+1) - ((i:Int)+1)) else (i:Int)+1) (by rw [hc];omega) (by rw [hc];omega) fun q3 g6 z3=> ?_
   rw [hc] at g6
   refine ZhE (by omega) (by omega) fun q4 g7 z4=> ?_
   refine ZjO (by omega) (by omega) fun q5 g8 z5=> ?_
   refine ZhE (by omega) (by omega) fun q6 g9 z6=> ?_
   have hq:(chL f.q s.q a.q N).take (i+1)=(chL f.q s.q a.q N).take i++ [q6]:=by
    rw [ZdI hlt]
    simp only [cn_q] at g6 g7 g8 g9
    rw [g9,g8,g7,g6,g5];rfl
   refine⟨⟨Zb3 [q6],?_,?_⟩,?_⟩
   ·simp only [List.length_map,List.length_cons,List.length_nil];omega
   ·simp only [List.length_map,List.length_cons,List.length_nil];omega
   refine⟨by kernel_rfl,?_⟩
   refine⟨i+1,hlt,by simp only;omega,?_⟩
   constructor<;>(repeat' (first|exact rfl|exact True.intro|apply And.intro))
   all_goals first
    |exact congrArg (fun n:Int=>D.v (.int .i64 n)) (show ((i+1:Nat):Int)+1=IntKind.i64.wrap ((i:Int)+1+1) by rw [wrap64 _ (by omega) (by omega)];omega)
    |(rw [hq,List.map_append];exact rfl)
  ·have hge:i=N:=by have:=of_decide_eq_false e;omega
   subst hge
   refine Eq.trans hres ?_
   refine Eq.trans (b:=two (rats ((chL f.q s.q a.q i).take i)) (int 0)) ?_ rfl
   rw [List.take_of_length_le (by rw [Zbo];omega)]
end
end Go.Proofs.YtbgokkfhohodgaaDoor.eng
