/- Joined by wip/bundle.py: XPolyB XPolyC XApartA XApartB XApartC XApartT. -/
import Derived.Test.YtiekmbmgpachpaaGreatDoorWg
import Derived.Test.YtiekmbmgpachpaaGreatDoorGrpP
import Derived.Test.YtiekmbmgpachpaaGreatDoorGrpGr
import Derived.Test.YtiekmbmgpachpaaGreatDoorGrpH
set_option maxRecDepth 100000
namespace Go.Proofs.YtiekmbmgpachpaaGreatDoor.eng
open Go.RowKit num mem seg q held ratA ratB ratC ratD ratE vars ratF
section
variable {K : AV → Prop}
theorem ZmT {l:List (RV×RV)} (hl:∀ p,p∈l→p.1.z≤67108864∧p.2.z≤67108864) (i:Nat):qs (pts l i).1≤67108865∧qs (pts l i).2≤67108865:=by
 unfold pts
 cases h:l[i]? with
 |none=>simp only [Option.getD_none,z0q];exact⟨by decide+kernel,by decide+kernel⟩
 |some p=>
  simp only [Option.getD_some]
  have:=hl p (List.mem_of_getElem? h)
  have a:=p.1.z1;have b:=p.2.z1
  omega
theorem ZhH {f : Nat → Rat} {B : Nat} (h : ∀ i, qs (f i) ≤ B) : ∀ n, qs (poly.sumTo f n) ≤ n * (B + 1) + 8
  | 0 => by show qs (0 : Rat) ≤ _; have : qs (0 : Rat) ≤ 8 := by decide +kernel
            omega
  | n + 1 => by
    have := ZhH h n; have := h n; have := Z8 (poly.sumTo f n) (f n)
    show qs (poly.sumTo f n + f n) ≤ _
    rw [Nat.add_mul]; omega
theorem Zrq {a b:poly.Pt} {B:Nat} (ha:qs a.1≤B∧qs a.2≤B) (hb:qs b.1≤B∧qs b.2≤B):qs (poly.cr a b)≤4*B+4:=by
 unfold poly.cr
 have:=ZT a.1 b.2;have:=ZT a.2 b.1;have:=Zby (a.1*b.2) (a.2*b.1)
 omega
open Classical in
noncomputable def areaQ (l:List (RV×RV)):Rat:=if convE 64 l=0 then ((1:Int):Rat) / ((2:Int):Rat)*poly.ringSum (pts l) l.length else 0
theorem Zi9 (l:List (RV×RV)) (hl:∀ p,p∈l→p.1.z≤67108864∧p.2.z≤67108864) (hn:l.length≤1073741824):Spec Tryz.prog Tab 20 [.val (.one (.d (.list (List.map rdv l))))] (rat (cn (areaQ l))):=by
 have hL:(List.map rdv l).length=l.length:=List.length_map ..
 refine Zd Tryz.func20 rfl rfl Tryz.ntmps20 rfl (by kernel_rfl) rfl rfl ?_
 refine k_of (0) (by omega) (by omega) fun q8 h8 z8=> ?_
 simp only [cn_z] at z8
 refine ZcI (l:=l) (by assumption) (by omega) (fun n10 hk_10_1=> ?_)
 refine⟨fun e1=> ?_,fun e1=> ?_⟩
 ·have f11:n10≠0:=Zhe e1
  refine Eq.trans (b:=rat (cn q8)) ?_ rfl
  rw [h8,areaQ,if_neg (by omega)];rfl
 ·have f11:¬ (n10≠0):=fun hh=>hh (Zhf e1)
  have hc:convE 64 l=0:=by omega
  obtain⟨c1,c2,_⟩:=Z6.1 hc
  obtain rfl:q8=0:=by rw [h8];rfl
  refine⟨Nat,fun i=> [(0,.val (.one (.d (.list (List.map rdv l))))),(2,.val (.one (.ptr 2 0))),(3,.val (.one (.ptr 3 0))),(13,.val (.one (.d (.list (List.map rdv l))))),(14,int ((List.map rdv l).length:Int)),(15,int (i:Int))],
   fun i=> [(2,.var 27 [.d (.v (.bool z0.s)),.d (.v (.string z0.a)),.d (.v (.string z0.d))]),(3,.var 27 [.d (.v (.bool (cn (poly.sumTo (fun i=>poly.cr (pts l i) (pts l ((i+1) % l.length))) i)).s)),.d (.v (.string (cn (poly.sumTo (fun i=>poly.cr (pts l i) (pts l ((i+1) % l.length))) i)).a)),.d (.v (.string (cn (poly.sumTo (fun i=>poly.cr (pts l i) (pts l ((i+1) % l.length))) i)).d))])],fun i=>i≤l.length,fun i=>l.length - i,0,?_,Nat.zero_le _,fun i hs=> ?_⟩
  ·constructor<;>(repeat' (first|exact rfl|exact True.intro|exact⟨_,_,rfl⟩|exact(by decide)|apply And.intro))
   all_goals first|exact congrArg (fun n:Int=>D.v (.int .i64 n)) (by omega)|exact congrArg (fun n:Int=>D.v (.int .i64 n)) (by rw [wrap64 _ (by omega) (by omega)];omega)|(simp;done)
  have hq:=ZhH (f:=(fun i=>poly.cr (pts l i) (pts l ((i+1) % l.length)))) (B:=268435464) (fun j=>Nat.le_trans (Zrq (ZmT hl j) (ZmT hl _)) (by decide)) i
  have hq2:i*(268435464+1)≤64*(268435464+1):=Nat.mul_le_mul_right _ (by omega)
  refine⟨fun e2=> ?_,fun e2=> ?_⟩
  ·have f16:(i:Int)< ((List.map rdv l).length:Int):=of_decide_eq_true e2
   obtain⟨x18,hx18⟩:∃ vv,l[i]? =some vv:=⟨_,List.getElem?_eq_getElem (by first|omega|exact Nat.mod_lt _ (by omega))⟩
   have hzx18:=hl x18 (List.mem_of_getElem? hx18)
   have hpx18:=Za4 hx18
   refine k_ix i [D.v (.bool x18.1.s),D.v (.string x18.1.a),D.v (.string x18.1.d),D.v (.bool x18.2.s),D.v (.string x18.2.a),D.v (.string x18.2.d)] (by first|rfl|omega|(rw [wrap64 _ (by omega) (by omega)];omega)) (Zj hx18) rfl ?_
   refine Zdd (i+1) l.length (by first|rfl|omega|(rw [wrap64 _ (by omega) (by omega)];omega)) (by first|rfl|omega|(rw [wrap64 _ (by omega) (by omega)];omega)) (by omega) ?_
   obtain⟨x28,hx28⟩:∃ vv,l[((i+1) % l.length)]? =some vv:=⟨_,List.getElem?_eq_getElem (by first|omega|exact Nat.mod_lt _ (by omega))⟩
   have hzx28:=hl x28 (List.mem_of_getElem? hx28)
   have hpx28:=Za4 hx28
   refine k_ix ((i+1) % l.length) [D.v (.bool x28.1.s),D.v (.string x28.1.a),D.v (.string x28.1.d),D.v (.bool x28.2.s),D.v (.string x28.2.a),D.v (.string x28.2.d)] (by first|rfl|omega|(rw [wrap64 _ (by omega) (by omega)];omega)) (Zj hx28) rfl ?_
   refine Zh5 (x:=x18.1) (y:=x18.2) (z:=x28.1) (t:=x28.2) (by omega) (by omega) (by omega) (by omega) (fun q30 hk_30_1 hk_30_2=> ?_)
   simp only [cn_z] at hk_30_2
   refine Zcj (x:=cn (poly.sumTo (fun i=>poly.cr (pts l i) (pts l ((i+1) % l.length))) i)) (y:=cn q30) (by simp only [cn_z];omega) (by simp only [cn_z];omega) fun q31 h31 z31=> ?_
   simp only [cn_z] at z31
   simp only [cn_q] at h31
   refine⟨by kernel_rfl,?_⟩
   obtain rfl:q31=poly.sumTo (fun i=>poly.cr (pts l i) (pts l ((i+1) % l.length))) (i+1):=by
    rw [h31,hk_30_1];show _=poly.sumTo (fun i=>poly.cr (pts l i) (pts l ((i+1) % l.length))) i+poly.cr (pts l i) (pts l ((i+1) % l.length));rw [hpx18,hpx28];rfl
   refine⟨i+1,by omega,by simp only;omega,?_⟩
   constructor<;>(repeat' (first|exact rfl|exact True.intro|apply And.intro))
   all_goals first
    |exact congrArg (fun n:Int=>D.v (.int .i64 n)) (by rw [wrap64 _ (by omega) (by omega)];omega)
    |exact congrArg (fun n:Int=>D.v (.int .i64 n)) (by omega)
  ·have f16:¬ ((i:Int)< ((List.map rdv l).length:Int)):=of_decide_eq_false e2
   refine Zh7  1 2 (by omega) (by omega) (by omega) (by omega) (by decide+kernel) (fun q34 hk_34_1 hk_34_2=> ?_)
   simp only [cn_z] at hk_34_2
   refine ZaL (x:=cn q34) (y:=cn (poly.sumTo (fun i=>poly.cr (pts l i) (pts l ((i+1) % l.length))) i)) (by simp only [cn_z];omega) (by simp only [cn_z];omega) fun q39 h39 z39=> ?_
   simp only [cn_z] at z39
   simp only [cn_q] at h39
   refine Eq.trans (b:=rat (cn q39)) ?_ rfl
   rw [h39,hk_34_1,areaQ,if_pos hc,show l.length=i by omega];rfl
theorem Zo5 {l:List (RV×RV)} (hl:∀ p,p∈l→p.1.z≤67108864∧p.2.z≤67108864) (hn:l.length≤1073741824) (k:∀ q,q=areaQ l→K (rat (cn q))):Ask 20 [vecs l] K:=use (Zi9 l hl hn) rfl (k _ rfl)
end
end Go.Proofs.YtiekmbmgpachpaaGreatDoor.eng
namespace Go.Proofs.YtiekmbmgpachpaaGreatDoor.eng
open Go.RowKit num mem seg q held ratA ratB ratC ratD ratE vars ratF
section
variable {K : AV → Prop}
theorem Zm6 (m a:Rat):lowF m a=minQ m a:=by
 unfold lowF minQ
 by_cases h:a< m
 ·rw [if_pos h,if_neg (Rat.not_le.2 h)]
 ·rw [if_neg h,if_pos (Rat.not_lt.1 h)]
theorem Zlr (m a:Rat):highF m a=maxQ m a:=by
 unfold highF maxQ
 by_cases h:m< a
 ·rw [if_pos h,if_neg (Rat.not_le.2 h)]
 ·rw [if_neg h,if_pos (Rat.not_lt.1 h)]
theorem ZfI (q a:Rat) (l:List Rat):lowL q (l++ [a])=minQ (lowL q l) a:=by unfold lowL;rw [List.foldl_append,← Zm6];rfl
theorem Zd2 (q a:Rat) (l:List Rat):highL q (l++ [a])=maxQ (highL q l) a:=by unfold highL;rw [List.foldl_append,← Zlr];rfl
theorem Zos {l:List (RV×RV)} {i:Nat} {p:RV×RV} (h:l[i]? =some p):xsQ (l.take (i+1))=xsQ (l.take i)++ [p.1.q]∧ysQ (l.take (i+1))=ysQ (l.take i)++ [p.2.q]:=by
 rw [List.take_add_one,h];simp [xsQ,ysQ]
theorem ZkF {B:Nat} {l:List Rat}:∀ {q:Rat},qs q≤B→(∀ a,a∈l→qs a≤B)→qs (lowL q l)≤B:=by
 induction l with
 |nil=>intro q h _;exact h
 |cons a l ih=>
  intro q h h2
  show qs (lowL (lowF q a) l)≤B
  exact ih (by unfold lowF;split;exact h2 a (by simp);exact h) fun b hb=>h2 b (by simp [hb])
theorem ZhI {B:Nat} {l:List Rat}:∀ {q:Rat},qs q≤B→(∀ a,a∈l→qs a≤B)→qs (highL q l)≤B:=by
 induction l with
 |nil=>intro q h _;exact h
 |cons a l ih=>
  intro q h h2
  show qs (highL (highF q a) l)≤B
  exact ih (by unfold highF;split;exact h2 a (by simp);exact h) fun b hb=>h2 b (by simp [hb])
theorem xs_z {l:List (RV×RV)} {B:Nat} (hl:∀ p,p∈l→p.1.z≤B∧p.2.z≤B) (i:Nat):(∀ a,a∈xsQ (l.take i)→qs a≤B+1)∧∀ a,a∈ysQ (l.take i)→qs a≤B+1:=by
 constructor<;>intro a ha<;>obtain⟨p,hp,rfl⟩:=List.mem_map.1 ha<;>have:=hl p (List.mem_of_mem_take hp)
 ·have:=p.1.z1;omega
 ·have:=p.2.z1;omega
theorem Zi8  :Spec Tryz.prog Tab 17 [.val (.one (.d (.list (List.map rdv ([]:List (RV×RV))))))] (box (cn 0) (cn 0) (cn 0) (cn 0)):=by
 have h0:=z0q
 refine Zd Tryz.func17 rfl rfl Tryz.ntmps17 rfl (by kernel_rfl) rfl rfl ?_
 refine ZfP (x:=z0) (y:=z0) (z:=z0) (t:=z0) (by simp only [z0z];omega) (by simp only [z0z];omega) (by simp only [z0z];omega) (by simp only [z0z];omega) (fun p10 q10 hk_10_2 hk_10_3 hk_10_4 hk_10_5=> ?_)
 simp only [cn_z,z0z] at hk_10_4
 simp only [cn_z,z0z] at hk_10_5
 refine⟨fun e1=> ?_,fun e1=> ?_⟩
 ·have f13:((List.map rdv ([]:List (RV×RV))).length:Int)=0:=ZaN e1
  refine Eq.trans (b:=box (cn p10) (cn q10) (cn p10) (cn q10)) ?_ rfl
  obtain rfl:p10=0:=by rw [hk_10_2,z0q,Rat.add_zero]
  obtain rfl:q10=0:=by rw [hk_10_3,z0q,Rat.add_zero]
  rfl
 ·have f13:¬ (((List.map rdv ([]:List (RV×RV))).length:Int)=0):=ZaO e1
  exfalso
  exact f13 rfl
theorem Zo4 {l:List (RV×RV)} (h:l= []) (k:K (box (cn 0) (cn 0) (cn 0) (cn 0))):Ask 17 [vecs l] K:=by subst h;exact use Zi8 rfl k
set_option maxHeartbeats 1000000 in
theorem ZkL (p0:RV×RV) (l:List (RV×RV)) (hl:∀ p,p∈p0 :: l→p.1.z≤67108864∧p.2.z≤67108864) (hn:(p0 :: l).length≤1073741824):Spec Tryz.prog Tab 17 [.val (.one (.d (.list (List.map rdv (p0 :: l)))))] (box (cn (lowL p0.1.q (xsQ l))) (cn (lowL p0.2.q (ysQ l))) (cn (highL p0.1.q (xsQ l))) (cn (highL p0.2.q (ysQ l)))):=by
 have hL:(List.map rdv l).length=l.length:=List.length_map ..
 have hL0:(List.map rdv (p0 :: l)).length=l.length+1:=by simp
 have hn0:(p0 :: l).length=l.length+1:=rfl
 have hp00:=hl p0 (by simp)
 refine Zd Tryz.func17 rfl rfl Tryz.ntmps17 rfl (by kernel_rfl) rfl rfl ?_
 refine ZfP (x:=z0) (y:=z0) (z:=z0) (t:=z0) (by simp only [z0z];omega) (by simp only [z0z];omega) (by simp only [z0z];omega) (by simp only [z0z];omega) (fun p10 q10 hk_10_2 hk_10_3 hk_10_4 hk_10_5=> ?_)
 simp only [cn_z,z0z] at hk_10_4
 simp only [cn_z,z0z] at hk_10_5
 refine⟨fun e1=> ?_,fun e1=> ?_⟩
 ·have f13:((List.map rdv (p0 :: l)).length:Int)=0:=ZaN e1
  exfalso
  omega
 ·have f13:¬ (((List.map rdv (p0 :: l)).length:Int)=0):=ZaO e1
  refine k_ix 0 [D.v (.bool p0.1.s),D.v (.string p0.1.a),D.v (.string p0.1.d),D.v (.bool p0.2.s),D.v (.string p0.2.a),D.v (.string p0.2.d)] (by first|rfl|omega|(rw [wrap64 _ (by omega) (by omega)];omega)) (Zj rfl) rfl ?_
  refine ZfP (x:=p0.1) (y:=p0.2) (z:=cn p10) (t:=cn q10) (by omega) (by omega) (by simp only [cn_z];omega) (by simp only [cn_z];omega) (fun p21 q21 hk_21_2 hk_21_3 hk_21_4 hk_21_5=> ?_)
  try simp only [cn_q] at hk_21_2
  try simp only [cn_q] at hk_21_3
  simp only [cn_z] at hk_21_4
  simp only [cn_z] at hk_21_5
  refine⟨by kernel_rfl,?_⟩
  refine Zoa 1 (List.map rdv l) (by first|omega|(simp;omega)|simp) (by first|rfl|omega|(rw [wrap64 _ (by omega) (by omega)];omega)) (ZeJ fun _=>rfl) (rfl) ?_
  have hz0:p10=0∧q10=0:=by rw [hk_10_2,hk_10_3,z0q,Rat.add_zero];exact⟨rfl,rfl⟩
  obtain rfl:p21=p0.1.q:=by rw [hk_21_2,hz0.1,Rat.add_zero]
  obtain rfl:q21=p0.2.q:=by rw [hk_21_3,hz0.2,Rat.add_zero]
  refine⟨Nat,fun i=> [(2,.val (.one (.ptr 2 0))),(5,.val (.one (.ptr 5 0))),(26,.val (.one (.d (.list (List.map rdv l))))),(27,int ((List.map rdv l).length:Int)),(28,int (i:Int))],
   fun i=> [(2,.var 38 [.d (.v (.bool z0.s)),.d (.v (.string z0.a)),.d (.v (.string z0.d)),.d (.v (.bool z0.s)),.d (.v (.string z0.a)),.d (.v (.string z0.d)),.d (.v (.bool z0.s)),.d (.v (.string z0.a)),.d (.v (.string z0.d)),.d (.v (.bool z0.s)),.d (.v (.string z0.a)),.d (.v (.string z0.d))]),(5,.var 38 [.d (.v (.bool (cn (lowL p0.1.q (xsQ (l.take i)))).s)),.d (.v (.string (cn (lowL p0.1.q (xsQ (l.take i)))).a)),.d (.v (.string (cn (lowL p0.1.q (xsQ (l.take i)))).d)),.d (.v (.bool (cn (lowL p0.2.q (ysQ (l.take i)))).s)),.d (.v (.string (cn (lowL p0.2.q (ysQ (l.take i)))).a)),.d (.v (.string (cn (lowL p0.2.q (ysQ (l.take i)))).d)),.d (.v (.bool (cn (highL p0.1.q (xsQ (l.take i)))).s)),.d (.v (.string (cn (highL p0.1.q (xsQ (l.take i)))).a)),.d (.v (.string (cn (highL p0.1.q (xsQ (l.take i)))).d)),.d (.v (.bool (cn (highL p0.2.q (ysQ (l.take i)))).s)),.d (.v (.string (cn (highL p0.2.q (ysQ (l.take i)))).a)),.d (.v (.string (cn (highL p0.2.q (ysQ (l.take i)))).d))])],fun i=>i≤l.length,fun i=>l.length - i,0,?_,Nat.zero_le _,fun i hs=> ?_⟩
  ·constructor<;>(repeat' (first|exact rfl|exact True.intro|exact⟨_,_,rfl⟩|exact(by decide)|apply And.intro))
   all_goals first|exact congrArg (fun n:Int=>D.v (.int .i64 n)) (by omega)|exact congrArg (fun n:Int=>D.v (.int .i64 n)) (by rw [wrap64 _ (by omega) (by omega)];omega)|(simp;done)
  have hz2:=xs_z (B:=67108864) (l:=l) (fun p hp=>hl p (by simp [hp])) i
  have hp0:=hl p0 (by simp)
  have z1:=p0.1.z1
  have z2:=p0.2.z1
  have b1:=ZkF (B:=67108865) (q:=p0.1.q) (by omega) hz2.1
  have b2:=ZkF (B:=67108865) (q:=p0.2.q) (by omega) hz2.2
  have b3:=ZhI (B:=67108865) (q:=p0.1.q) (by omega) hz2.1
  have b4:=ZhI (B:=67108865) (q:=p0.2.q) (by omega) hz2.2
  refine⟨fun e2=> ?_,fun e2=> ?_⟩
  ·have f29:(i:Int)< ((List.map rdv l).length:Int):=of_decide_eq_true e2
   obtain⟨x30,hx30⟩:∃ vv,l[i]? =some vv:=⟨_,List.getElem?_eq_getElem (by first|omega|exact Nat.mod_lt _ (by omega))⟩
   have hzx30:=hl x30 (List.mem_cons_of_mem _ (List.mem_of_getElem? hx30))
   refine k_ix i [D.v (.bool x30.1.s),D.v (.string x30.1.a),D.v (.string x30.1.d),D.v (.bool x30.2.s),D.v (.string x30.2.a),D.v (.string x30.2.d)] (by first|rfl|omega|(rw [wrap64 _ (by omega) (by omega)];omega)) (Zj hx30) rfl ?_
   refine ZqC (x:=cn (lowL p0.1.q (xsQ (l.take i)))) (y:=x30.1) (by simp only [cn_z];omega) (by omega) fun q37 h37 z37=> ?_
   simp only [cn_z] at z37
   simp only [cn_q] at h37
   refine ZqC (x:=cn (lowL p0.2.q (ysQ (l.take i)))) (y:=x30.2) (by simp only [cn_z];omega) (by omega) fun q43 h43 z43=> ?_
   simp only [cn_z] at z43
   simp only [cn_q] at h43
   refine⟨by kernel_rfl,?_⟩
   refine ZqE (x:=cn (highL p0.1.q (xsQ (l.take i)))) (y:=x30.1) (by simp only [cn_z];omega) (by omega) fun q51 h51 z51=> ?_
   simp only [cn_z] at z51
   simp only [cn_q] at h51
   refine ZqE (x:=cn (highL p0.2.q (ysQ (l.take i)))) (y:=x30.2) (by simp only [cn_z];omega) (by omega) fun q57 h57 z57=> ?_
   simp only [cn_z] at z57
   simp only [cn_q] at h57
   refine⟨by kernel_rfl,?_⟩
   have hxs:=Zos hx30
   obtain rfl:q37=lowL p0.1.q (xsQ (l.take (i+1))):=by rw [h37,hxs.1,ZfI]
   obtain rfl:q43=lowL p0.2.q (ysQ (l.take (i+1))):=by rw [h43,hxs.2,ZfI]
   obtain rfl:q51=highL p0.1.q (xsQ (l.take (i+1))):=by rw [h51,hxs.1,Zd2]
   obtain rfl:q57=highL p0.2.q (ysQ (l.take (i+1))):=by rw [h57,hxs.2,Zd2]
   refine⟨i+1,by omega,by simp only;omega,?_⟩
   constructor<;>(repeat' (first|exact rfl|exact True.intro|apply And.intro))
   all_goals first
    |exact congrArg (fun n:Int=>D.v (.int .i64 n)) (by rw [wrap64 _ (by omega) (by omega)];omega)
    |exact congrArg (fun n:Int=>D.v (.int .i64 n)) (by omega)
  ·have f29:¬ ((i:Int)< ((List.map rdv l).length:Int)):=of_decide_eq_false e2
   refine Eq.trans (b:=box (cn (lowL p0.1.q (xsQ (l.take i)))) (cn (lowL p0.2.q (ysQ (l.take i)))) (cn (highL p0.1.q (xsQ (l.take i)))) (cn (highL p0.2.q (ysQ (l.take i))))) ?_ rfl
   rw [List.take_of_length_le (show l.length≤i by omega)]
theorem Zqz {p0:RV×RV} {l:List (RV×RV)} (hl:∀ p,p∈p0 :: l→p.1.z≤67108864∧p.2.z≤67108864) (hn:(p0 :: l).length≤1073741824) (k:∀ p q r u,p=lowL p0.1.q (xsQ l)→q=lowL p0.2.q (ysQ l)→r=highL p0.1.q (xsQ l)→u=highL p0.2.q (ysQ l)→K (box (cn p) (cn q) (cn r) (cn u))):Ask 17 [vecs (p0 :: l)] K:=use (ZkL p0 l hl hn) rfl (k _ _ _ _ rfl rfl rfl rfl)
def bx1:List (RV×RV)→Rat
 | []=>0
 |p :: l=>lowL p.1.q (xsQ l)
def bx2:List (RV×RV)→Rat
 | []=>0
 |p :: l=>lowL p.2.q (ysQ l)
def bx3:List (RV×RV)→Rat
 | []=>0
 |p :: l=>highL p.1.q (xsQ l)
def bx4:List (RV×RV)→Rat
 | []=>0
 |p :: l=>highL p.2.q (ysQ l)
theorem Zde {l:List (RV×RV)} (hl:∀ p,p∈l→p.1.z≤67108864∧p.2.z≤67108864) (hn:l.length≤1073741824) (k:∀ p q r u,p=bx1 l→q=bx2 l→r=bx3 l→u=bx4 l→K (box (cn p) (cn q) (cn r) (cn u))):Ask 17 [vecs l] K:=by
 cases l with
 |nil=>exact Zo4 rfl (k _ _ _ _ rfl rfl rfl rfl)
 |cons p l=>exact Zqz hl hn k
def cvl (m:List (Rat×Rat)):List (RV×RV):=m.map fun p=>(cn p.1,cn p.2)
theorem ZlR (m:List (Rat×Rat)):pts (cvl m)=fun i=>(m[i]?).getD (0,0):=by
 funext i
 unfold pts cvl
 rw [List.getElem?_map]
 cases m[i]? with
 |none=>simp [z0q]
 |some p=>simp [cn_q]
theorem Znk {P:Nat→poly.Pt} {n:Nat} (h:((List.range n).all fun i=>(List.range n).all fun k=>decide (k< 2)||decide (0< poly.ori (P i) (P ((i+1) % n)) (P ((i+k) % n))))=true):poly.Edges P n:=by
 intro i k hi h2 hk
 rw [List.all_eq_true] at h
 have:=h i (List.mem_range.2 hi)
 rw [List.all_eq_true] at this
 have:=this k (List.mem_range.2 hk)
 simp only [Bool.or_eq_true,decide_eq_true_eq] at this
 rcases this with h3|h3
 ·omega
 ·exact h3
theorem Zq4 {m:List (Rat×Rat)} {B:Nat} (h:(m.all fun p=>decide (qs p.1≤B)&&decide (qs p.2≤B))=true):∀ p,p∈cvl m→p.1.z≤B∧p.2.z≤B:=by
 intro p hp
 obtain⟨q,hq,rfl⟩:=List.mem_map.1 hp
 have:=List.all_eq_true.1 h q hq
 simpa [cn_z] using this
def sqL (x y s:Int):List (Rat×Rat):= [((x:Rat),(y:Rat)),(((x+s:Int):Rat),(y:Rat)),(((x+s:Int):Rat),((y+s:Int):Rat)),((x:Rat),((y+s:Int):Rat))]
theorem sq2:areaQ (cvl (sqL 0 0 2))=4∧convE 64 (cvl (sqL 0 0 2))=0:=by
 have h:convE 64 (cvl (sqL 0 0 2))=0:=Z6.2 ⟨by decide,by decide,by rw [ZlR];exact Znk (by decide+kernel)⟩
 refine⟨?_,h⟩
 rw [areaQ,if_pos h,ZlR]
 decide+kernel
end
end Go.Proofs.YtiekmbmgpachpaaGreatDoor.eng
namespace Go.Proofs.YtiekmbmgpachpaaGreatDoor.eng
open Go.RowKit num mem seg q held ratA ratB ratC ratD ratE vars ratF
section
variable {K : AV → Prop}
noncomputable def bothE (a b:List (RV×RV)):Int:=if convE 64 a=0 then convE 64 b else convE 64 a
theorem ZeY {a b:List (RV×RV)}:bothE a b=0↔convE 64 a=0∧convE 64 b=0:=by
 unfold bothE
 by_cases h:convE 64 a=0<;>simp [h]
def outN (P:Nat→poly.Pt) (n i:Nat):poly.Pt:=((P ((i+1) % n)).2 - (P i).2,-((P ((i+1) % n)).1 - (P i).1))
def farTo (P:Nat→poly.Pt) (n:Nat) (Q:Nat→poly.Pt) (i k:Nat):Bool:=(List.range k).all fun j=>decide (0< (outN P n i).1*((Q j).1 - (P i).1)+(outN P n i).2*((Q j).2 - (P i).2))
theorem Zd9 (P:Nat→poly.Pt) (n:Nat) (Q:Nat→poly.Pt) (i k:Nat):farTo P n Q i (k+1)=(farTo P n Q i k&&decide (0< (outN P n i).1*((Q k).1 - (P i).1)+(outN P n i).2*((Q k).2 - (P i).2))):=by simp [farTo,List.range_succ]
def bey (a b:List (RV×RV)):Option Nat:=(List.range a.length).find? fun i=>farTo (pts a) a.length (pts b) i b.length
def beyV (a b:List (RV×RV)):RV×RV:=match bey a b with
 |some i=>(cn (outN (pts a) a.length i).1,cn (outN (pts a) a.length i).2)
 |none=>(z0,z0)
theorem Zjy {n:Nat} {p:Nat→Bool} {i:Nat} (hi:i< n) (h:∀ j,j< i→p j=false) (hp:p i=true):(List.range n).find? p=some i:=by
 rw [List.find?_range_eq_some]
 exact⟨hp,List.mem_range.2 hi,fun j hj=>by rw [h j hj];rfl⟩
theorem ZlI {n:Nat} {p:Nat→Bool} (h:∀ j,j< n→p j=false):(List.range n).find? p=none:=by
 rw [List.find?_eq_none]
 intro x hx;rw [h x (List.mem_range.1 hx)];exact Bool.false_ne_true
theorem Zrc {a b:List (RV×RV)} (ha:∀ p,p∈a→p.1.z≤67108864∧p.2.z≤67108864):(beyV a b).1.z≤134217740∧(beyV a b).2.z≤134217740:=by
 unfold beyV
 split
 ·rename_i i _
  have h1:=ZmT ha i;have h2:=ZmT ha ((i+1) % a.length)
  have:=Zby (pts a ((i+1) % a.length)).2 (pts a i).2;have:=Zby (pts a ((i+1) % a.length)).1 (pts a i).1;have:=Zfs ((pts a ((i+1) % a.length)).1 - (pts a i).1)
  simp only [cn_z,outN];omega
 ·exact⟨Nat.zero_le _,Nat.zero_le _⟩
theorem Zl5 (a b:List (RV×RV)) (ha:∀ p,p∈a→p.1.z≤67108864∧p.2.z≤67108864) (hb:∀ p,p∈b→p.1.z≤67108864∧p.2.z≤67108864) (hna:a.length≤1073741824) (hnb:b.length≤1073741824):Spec Tryz.prog Tab 59 [.val (.one (.d (.list (List.map rdv a)))),.val (.one (.d (.list (List.map rdv b))))] (int (bothE a b)):=by
 refine Zd Tryz.func59 rfl rfl Tryz.ntmps59 rfl (by kernel_rfl) rfl rfl ?_
 refine ZcI (l:=a) (by assumption) (by omega) (fun n7 hk_7_1=> ?_)
 refine⟨fun e1=> ?_,fun e1=> ?_⟩
 ·have f9:n7≠0:=Zhe e1
  refine Eq.trans (b:=int n7) ?_ rfl
  rw [bothE,if_neg (by omega)];exact congrArg int (by omega)
 ·have f9:¬ (n7≠0):=fun hh=>hh (Zhf e1)
  refine ZcI (l:=b) (by assumption) (by omega) (fun n12 hk_12_1=> ?_)
  refine Eq.trans (b:=int n12) ?_ rfl
  rw [bothE,if_pos (by omega)];exact congrArg int (by omega)
theorem ZqJ {a b:List (RV×RV)} (ha:∀ p,p∈a→p.1.z≤67108864∧p.2.z≤67108864) (hb:∀ p,p∈b→p.1.z≤67108864∧p.2.z≤67108864) (hna:a.length≤1073741824) (hnb:b.length≤1073741824) (k:∀ n,n=bothE a b→K (int n)):Ask 59 [vecs a,vecs b] K:=use (Zl5 a b ha hb hna hnb) rfl (k _ rfl)
set_option maxHeartbeats 2000000 in
theorem Zhg (a b:List (RV×RV)) (ha:∀ p,p∈a→p.1.z≤67108864∧p.2.z≤67108864) (hb:∀ p,p∈b→p.1.z≤67108864∧p.2.z≤67108864) (hna:a.length≤1073741824) (hnb:b.length≤1073741824):Spec Tryz.prog Tab 60 [.val (.one (.d (.list (List.map rdv a)))),.val (.one (.d (.list (List.map rdv b))))] (.tup [.agg [.d (.v (.bool ((beyV a b).1).s)),.d (.v (.string ((beyV a b).1).a)),.d (.v (.string ((beyV a b).1).d)),.d (.v (.bool ((beyV a b).2).s)),.d (.v (.string ((beyV a b).2).a)),.d (.v (.string ((beyV a b).2).d))],.one (.d (.v (.bool ((bey a b).isSome))))]):=by
 have hLa:(List.map rdv a).length=a.length:=List.length_map ..
 have hLb:(List.map rdv b).length=b.length:=List.length_map ..
 refine Zd Tryz.func60 rfl rfl Tryz.ntmps60 rfl (by kernel_rfl) rfl rfl ?_
 refine⟨Nat,fun i=> [(0,.val (.one (.d (.list (List.map rdv a))))),(1,.val (.one (.d (.list (List.map rdv b))))),(4,.val (.one (.ptr 4 0))),(13,.val (.one (.d (.list (List.map rdv a))))),(14,int ((List.map rdv a).length:Int)),(15,int (i:Int))],
  fun i=> [(4,.var 36 [.d (.v (.bool z0.s)),.d (.v (.string z0.a)),.d (.v (.string z0.d)),.d (.v (.bool z0.s)),.d (.v (.string z0.a)),.d (.v (.string z0.d))])],fun i=>i≤a.length∧∀ i',i'< i→farTo (pts a) a.length (pts b) i' b.length=false,fun i=>a.length - i,0,?_,⟨Nat.zero_le _,fun i' h=>absurd h (Nat.not_lt_zero _)⟩,fun i hs=> ?_⟩
 ·constructor<;>(repeat' (first|exact rfl|exact True.intro|exact⟨_,_,rfl⟩|exact(by decide)|apply And.intro))
  all_goals first|exact congrArg (fun n:Int=>D.v (.int .i64 n)) (by omega)|exact congrArg (fun n:Int=>D.v (.int .i64 n)) (by rw [wrap64 _ (by omega) (by omega)];omega)|(simp;done)
 obtain⟨hi,h1⟩:=hs
 refine⟨fun e1=> ?_,fun e1=> ?_⟩
 ·have f16:(i:Int)< ((List.map rdv a).length:Int):=of_decide_eq_true e1
  obtain⟨x18,hx18⟩:∃ vv,a[i]? =some vv:=⟨_,List.getElem?_eq_getElem (by first|omega|exact Nat.mod_lt _ (by omega))⟩
  have hzx18:=ha x18 (List.mem_of_getElem? hx18)
  have hpx18:=Za4 hx18
  refine k_ix i [D.v (.bool x18.1.s),D.v (.string x18.1.a),D.v (.string x18.1.d),D.v (.bool x18.2.s),D.v (.string x18.2.a),D.v (.string x18.2.d)] (by first|rfl|omega|(rw [wrap64 _ (by omega) (by omega)];omega)) (Zj hx18) rfl ?_
  refine Zdd (i+1) a.length (by first|rfl|omega|(rw [wrap64 _ (by omega) (by omega)];omega)) (by first|rfl|omega|(rw [wrap64 _ (by omega) (by omega)];omega)) (by omega) ?_
  obtain⟨x26,hx26⟩:∃ vv,a[((i+1) % a.length)]? =some vv:=⟨_,List.getElem?_eq_getElem (by first|omega|exact Nat.mod_lt _ (by omega))⟩
  have hzx26:=ha x26 (List.mem_of_getElem? hx26)
  have hpx26:=Za4 hx26
  refine k_ix ((i+1) % a.length) [D.v (.bool x26.1.s),D.v (.string x26.1.a),D.v (.string x26.1.d),D.v (.bool x26.2.s),D.v (.string x26.2.a),D.v (.string x26.2.d)] (by first|rfl|omega|(rw [wrap64 _ (by omega) (by omega)];omega)) (Zj hx26) rfl ?_
  refine Zh4 (x:=x26.1) (y:=x26.2) (z:=x18.1) (t:=x18.2) (by omega) (by omega) (by omega) (by omega) (fun p29 q29 hk_29_2 hk_29_3 hk_29_4 hk_29_5=> ?_)
  simp only [cn_z] at hk_29_4
  simp only [cn_z] at hk_29_5
  refine⟨by kernel_rfl,?_⟩
  refine ZdG (x:=cn p29) (by simp only [cn_z];omega) fun q34 h34 z34=> ?_
  simp only [cn_z] at z34
  simp only [cn_q] at h34
  refine⟨by kernel_rfl,?_⟩
  refine⟨Nat,fun k=> [(0,.val (.one (.d (.list (List.map rdv a))))),(1,.val (.one (.d (.list (List.map rdv b))))),(4,.val (.one (.ptr 4 0))),(7,.val (.one (.ptr 7 0))),(9,.val (.one (.ptr 9 0))),(10,bool (farTo (pts a) a.length (pts b) i k)),(13,.val (.one (.d (.list (List.map rdv a))))),(14,int ((List.map rdv a).length:Int)),(15,int (i:Int)),(36,.val (.one (.d (.list (List.map rdv b))))),(37,int ((List.map rdv b).length:Int)),(38,int (k:Int))],
   fun k=> [(4,.var 36 [.d (.v (.bool z0.s)),.d (.v (.string z0.a)),.d (.v (.string z0.d)),.d (.v (.bool z0.s)),.d (.v (.string z0.a)),.d (.v (.string z0.d))]),(7,.var 36 [.d (.v (.bool x18.1.s)),.d (.v (.string x18.1.a)),.d (.v (.string x18.1.d)),.d (.v (.bool x18.2.s)),.d (.v (.string x18.2.a)),.d (.v (.string x18.2.d))]),(9,.var 36 [.d (.v (.bool (cn q29).s)),.d (.v (.string (cn q29).a)),.d (.v (.string (cn q29).d)),.d (.v (.bool (cn q34).s)),.d (.v (.string (cn q34).a)),.d (.v (.string (cn q34).d))])],fun k=>k≤b.length,fun k=>b.length - k,0,?_,Nat.zero_le _,fun k hs=> ?_⟩
  ·constructor<;>(repeat' (first|exact rfl|exact True.intro|exact⟨_,_,rfl⟩|exact(by decide)|apply And.intro))
   all_goals first|exact congrArg (fun n:Int=>D.v (.int .i64 n)) (by omega)|exact congrArg (fun n:Int=>D.v (.int .i64 n)) (by rw [wrap64 _ (by omega) (by omega)];omega)|(simp;done)
  refine⟨fun e2=> ?_,fun e2=> ?_⟩
  ·have f39:(k:Int)< ((List.map rdv b).length:Int):=of_decide_eq_true e2
   obtain⟨x40,hx40⟩:∃ vv,b[k]? =some vv:=⟨_,List.getElem?_eq_getElem (by first|omega|exact Nat.mod_lt _ (by omega))⟩
   have hzx40:=hb x40 (List.mem_of_getElem? hx40)
   have hpx40:=Za4 hx40
   refine k_ix k [D.v (.bool x40.1.s),D.v (.string x40.1.a),D.v (.string x40.1.d),D.v (.bool x40.2.s),D.v (.string x40.2.a),D.v (.string x40.2.d)] (by first|rfl|omega|(rw [wrap64 _ (by omega) (by omega)];omega)) (Zj hx40) rfl ?_
   refine fork (fun e3=> ?_) (fun e3=> ?_)
   ·have f43:farTo (pts a) a.length (pts b) i k=true:=e3
    refine Zh4 (x:=x40.1) (y:=x40.2) (z:=x18.1) (t:=x18.2) (by omega) (by omega) (by omega) (by omega) (fun p47 q47 hk_47_2 hk_47_3 hk_47_4 hk_47_5=> ?_)
    simp only [cn_z] at hk_47_4
    simp only [cn_z] at hk_47_5
    refine Zqo (x:=cn q29) (y:=cn q34) (z:=cn p47) (t:=cn q47) (by simp only [cn_z];omega) (by simp only [cn_z];omega) (by simp only [cn_z];omega) (by simp only [cn_z];omega) (fun q48 hk_48_1 hk_48_2=> ?_)
    try simp only [cn_q] at hk_48_1
    simp only [cn_z] at hk_48_2
    refine Zdc (x:=cn q48) (by simp only [cn_z];omega) fun n49 h49=> ?_
    simp only [cn_q] at h49
    refine⟨by kernel_rfl,?_⟩
    have hfar:farTo (pts a) a.length (pts b) i (k+1)=(decide (n49 >0)):=by
     rw [Zd9,f43]
     rw [Bool.true_and];refine decide_eq_decide.2 ((ZnQ h49).trans ?_).symm;rw [hk_48_1,hk_47_2,hk_47_3,h34];unfold outN;rw [hpx18,hpx26,hpx40,hk_29_2,hk_29_3]
    refine⟨k+1,by omega,by simp only;omega,?_⟩
    constructor<;>(repeat' (first|exact rfl|exact True.intro|apply And.intro))
    all_goals first
     |exact congrArg (fun b=>D.v (.bool b)) hfar
     |exact congrArg (fun n:Int=>D.v (.int .i64 n)) (by rw [wrap64 _ (by omega) (by omega)];omega)
     |exact congrArg (fun n:Int=>D.v (.int .i64 n)) (by omega)
   ·have f43:¬ (farTo (pts a) a.length (pts b) i k=true):=fun hh=>by rw [hh] at e3;exact Bool.noConfusion e3
    refine⟨by kernel_rfl,?_⟩
    have hfar:farTo (pts a) a.length (pts b) i (k+1)=false:=by rw [Zd9,Bool.eq_false_iff.2 f43];rfl
    refine⟨k+1,by omega,by simp only;omega,?_⟩
    constructor<;>(repeat' (first|exact rfl|exact True.intro|apply And.intro))
    all_goals first
     |exact congrArg (fun b=>D.v (.bool b)) hfar
     |exact congrArg (fun n:Int=>D.v (.int .i64 n)) (by rw [wrap64 _ (by omega) (by omega)];omega)
     |exact congrArg (fun n:Int=>D.v (.int .i64 n)) (by omega)
  ·have f39:¬ ((k:Int)< ((List.map rdv b).length:Int)):=of_decide_eq_false e2
   have hk2:b.length=k:=by omega
   refine⟨fun e4=> ?_,fun e4=> ?_⟩
   ·have f53:farTo (pts a) a.length (pts b) i k=true:=e4
    refine Eq.trans (b:= .tup [.agg [.d (.v (.bool (cn q29).s)),.d (.v (.string (cn q29).a)),.d (.v (.string (cn q29).d)),.d (.v (.bool (cn q34).s)),.d (.v (.string (cn q34).a)),.d (.v (.string (cn q34).d))],.one (.d (.v (.bool (true))))]) ?_ rfl
    have he:bey a b=some i:=Zjy (by omega) h1 (by rw [hk2];exact f53)
    have hv:beyV a b=(cn q29,cn q34):=by
     simp only [beyV,he];unfold outN;rw [hpx18,hpx26,h34];subst_vars;rfl
    rw [he,hv];rfl
   ·have f53:¬ (farTo (pts a) a.length (pts b) i k=true):=fun hh=>by rw [hh] at e4;exact Bool.noConfusion e4
    have hno:farTo (pts a) a.length (pts b) i b.length=false:=by rw [hk2];exact Bool.eq_false_iff.2 f53
    refine⟨i+1,⟨by omega,fun i' g=>by
     by_cases e:i'=i
     ·subst e;exact hno
     ·exact h1 i' (by omega)⟩,by simp only;omega,?_⟩
    constructor<;>(repeat' (first|exact rfl|exact True.intro|apply And.intro))
    all_goals first
     |exact congrArg (fun n:Int=>D.v (.int .i64 n)) (by rw [wrap64 _ (by omega) (by omega)];omega)
     |exact congrArg (fun n:Int=>D.v (.int .i64 n)) (by omega)
 ·have f16:¬ ((i:Int)< ((List.map rdv a).length:Int)):=of_decide_eq_false e1
  refine Eq.trans (b:= .tup [.agg [.d (.v (.bool z0.s)),.d (.v (.string z0.a)),.d (.v (.string z0.d)),.d (.v (.bool z0.s)),.d (.v (.string z0.a)),.d (.v (.string z0.d))],.one (.d (.v (.bool (false))))]) ?_ rfl
  have he:bey a b=none:=ZlI fun j hj=>h1 j (by omega)
  have hv:beyV a b=(z0,z0):=by simp only [beyV,he]
  rw [he,hv];rfl
theorem ZqK {a b:List (RV×RV)} (ha:∀ p,p∈a→p.1.z≤67108864∧p.2.z≤67108864) (hb:∀ p,p∈b→p.1.z≤67108864∧p.2.z≤67108864) (hna:a.length≤1073741824) (hnb:b.length≤1073741824) (k:(beyV a b).1.z≤134217740→(beyV a b).2.z≤134217740→K (two (pair (beyV a b).1 (beyV a b).2) (bool (bey a b).isSome))):Ask 60 [vecs a,vecs b] K:=use (Zhg a b ha hb hna hnb) rfl (k (Zrc ha).1 (Zrc ha).2)
noncomputable def meetB (a b:List (RV×RV)):Bool:=bothE a b==0&&((bey a b).isNone&&(bey b a).isNone)
theorem Zk5 (a b:List (RV×RV)) (ha:∀ p,p∈a→p.1.z≤67108864∧p.2.z≤67108864) (hb:∀ p,p∈b→p.1.z≤67108864∧p.2.z≤67108864) (hna:a.length≤1073741824) (hnb:b.length≤1073741824):Spec Tryz.prog Tab 21 [.val (.one (.d (.list (List.map rdv a)))),.val (.one (.d (.list (List.map rdv b))))] (.tup [.one (.d (.v (.bool (meetB a b)))),.one (.d (.v (.int .i64 (bothE a b))))]):=by
 have hLa:(List.map rdv a).length=a.length:=List.length_map ..
 have hLb:(List.map rdv b).length=b.length:=List.length_map ..
 refine Zd Tryz.func21 rfl rfl Tryz.ntmps21 rfl (by kernel_rfl) rfl rfl ?_
 refine ZqJ (a:=a) (b:=b) (by assumption) (by assumption) (by omega) (by omega) (fun n13 hk_13_1=> ?_)
 refine⟨fun e1=> ?_,fun e1=> ?_⟩
 ·have f15:n13≠0:=Zhe e1
  refine Eq.trans (b:= .tup [.one (.d (.v (.bool (false)))),.one (.d (.v (.int .i64 (n13))))]) ?_ rfl
  subst hk_13_1
  rw [show meetB a b=false from by unfold meetB;rw [beq_false_of_ne f15];rfl]
 ·have f15:¬ (n13≠0):=fun hh=>hh (Zhf e1)
  refine ZqK (a:=a) (b:=b) (by assumption) (by assumption) (by omega) (by omega) (fun hk_20_0 hk_20_1=> ?_)
  refine ZqK (a:=b) (b:=a) (by assumption) (by assumption) (by omega) (by omega) (fun hk_26_0 hk_26_1=> ?_)
  refine fork (fun e2=> ?_) (fun e2=> ?_)
  ·refine Eq.trans (b:= .tup [.one (.d (.v (.bool (!((bey b a).isSome))))),.one (.d (.v (.int .i64 (0))))]) ?_ rfl
   have hb0:bothE a b=0:=by omega
   have hm:meetB a b=(!((bey b a).isSome)):=by
    unfold meetB;rw [hb0];revert e2;cases bey a b<;>cases bey b a<;>intro e2<;>first|rfl|(simp at e2)
   rw [hm,hb0]
  ·refine Eq.trans (b:= .tup [.one (.d (.v (.bool (false)))),.one (.d (.v (.int .i64 (0))))]) ?_ rfl
   have hb0:bothE a b=0:=by omega
   have hm:meetB a b=(false):=by
    unfold meetB;rw [hb0];revert e2;cases bey a b<;>cases bey b a<;>intro e2<;>first|rfl|(simp at e2)
   rw [hm,hb0]
end
end Go.Proofs.YtiekmbmgpachpaaGreatDoor.eng
namespace Go.Proofs.YtiekmbmgpachpaaGreatDoor.eng
open Go.RowKit num mem seg q held ratA ratB ratC ratD ratE vars ratF
section
variable {K : AV → Prop}
theorem ZdL (x y z t:RV) (hx:x.z≤67108864) (hy:y.z≤67108864) (hz:z.z≤67108864) (ht:t.z≤67108864) (b:Bool) (hb:b=true↔bxOk x y z t):Spec Tryz.prog Tab 72 [box x y z t] (bool b):=by
 refine Zd Tryz.func72 rfl rfl Tryz.ntmps72 rfl (by kernel_rfl) rfl rfl ?_
 refine Zbu (x:=x) (y:=z) (by omega) (by omega) fun n9 h9=> ?_
 refine fork (fun e1=> ?_) (fun e1=> ?_)
 ·have f11:x.q≤z.q:=(ZcB h9).1 (of_decide_eq_true e1)
  refine Zbu (x:=y) (y:=t) (by omega) (by omega) fun n18 h18=> ?_
  refine Eq.trans (b:=bool (decide (n18≤0))) ?_ rfl
  have e:b=(decide (n18≤0)):=by
   cases b with
   |true=>exact(decide_eq_true ((ZcB h18).2 (hb.1 rfl).2)).symm
   |false=>exact(decide_eq_false fun hh=>Bool.noConfusion (hb.2 ⟨f11,(ZcB h18).1 hh⟩)).symm
  rw [e]
 ·have f11:¬ (x.q≤z.q):=fun hh=>of_decide_eq_false e1 ((ZcB h9).2 hh)
  refine Eq.trans (b:=bool false) ?_ rfl
  have e:b=false:=by
   cases b with
   |true=>exact absurd (hb.1 rfl).1 f11
   |false=>rfl
  rw [e]
theorem ZfO {x y z t:RV} (hx:x.z≤67108864) (hy:y.z≤67108864) (hz:z.z≤67108864) (ht:t.z≤67108864) (k1:bxOk x y z t→K (bool true)) (k0:¬ bxOk x y z t→K (bool false)):Ask 72 [box x y z t] K:=by
 by_cases h:bxOk x y z t
 ·exact use (ZdL x y z t hx hy hz ht true ⟨fun _=>h,fun _=>rfl⟩) rfl (k1 h)
 ·exact use (ZdL x y z t hx hy hz ht false ⟨fun e=>Bool.noConfusion e,fun e=>absurd e h⟩) rfl (k0 h)
instance (x y z t:RV):Decidable (bxOk x y z t):=inferInstanceAs (Decidable (x.q≤z.q∧y.q≤t.q))
def bxMeet (x y z t x2 y2 z2 t2:RV):Prop:=bxOk x y z t∧bxOk x2 y2 z2 t2∧x.q≤z2.q∧x2.q≤z.q∧y.q≤t2.q∧y2.q≤t.q
instance (x y z t x2 y2 z2 t2:RV):Decidable (bxMeet x y z t x2 y2 z2 t2):=inferInstanceAs (Decidable (_∧_∧_∧_∧_∧_))
set_option maxHeartbeats 1000000 in
theorem Zeg (x y z t x2 y2 z2 t2:RV) (hx:x.z≤67108864) (hy:y.z≤67108864) (hz:z.z≤67108864) (ht:t.z≤67108864) (hx2:x2.z≤67108864) (hy2:y2.z≤67108864) (hz2:z2.z≤67108864) (ht2:t2.z≤67108864):Spec Tryz.prog Tab 32 [box x y z t,box x2 y2 z2 t2] (bool (decide (bxMeet x y z t x2 y2 z2 t2))):=by
 refine Zd Tryz.func32 rfl rfl Tryz.ntmps32 rfl (by kernel_rfl) rfl rfl ?_
 refine ZfO (by omega) (by omega) (by omega) (by omega) (fun f6=> ?_) (fun f6=> ?_)
 ·refine ZfO (by omega) (by omega) (by omega) (by omega) (fun f9=> ?_) (fun f9=> ?_)
  ·refine Zbu (x:=x) (y:=z2) (by omega) (by omega) fun n18 h18=> ?_
   refine fork (fun e1=> ?_) (fun e1=> ?_)
   ·have f21:x.q≤z2.q:=(ZcB h18).1 (of_decide_eq_true e1)
    refine Zbu (x:=x2) (y:=z) (by omega) (by omega) fun n28 h28=> ?_
    refine fork (fun e2=> ?_) (fun e2=> ?_)
    ·have f31:x2.q≤z.q:=(ZcB h28).1 (of_decide_eq_true e2)
     refine Zbu (x:=y) (y:=t2) (by omega) (by omega) fun n38 h38=> ?_
     refine fork (fun e3=> ?_) (fun e3=> ?_)
     ·have f41:y.q≤t2.q:=(ZcB h38).1 (of_decide_eq_true e3)
      refine Zbu (x:=y2) (y:=t) (by omega) (by omega) fun n48 h48=> ?_
      refine Eq.trans (b:=bool (decide (n48≤0))) ?_ rfl
      rw [show decide (bxMeet x y z t x2 y2 z2 t2)=(decide (n48≤0)) from decide_eq_decide.2 ⟨fun ⟨_,_,_,_,_,m6⟩=>(ZcB h48).2 m6,fun hh=>⟨f6,f9,f21,f31,f41,(ZcB h48).1 hh⟩⟩]
     ·have f41:¬ (y.q≤t2.q):=fun hh=>of_decide_eq_false e3 ((ZcB h38).2 hh)
      refine Eq.trans (b:=bool false) ?_ rfl
      rw [show decide (bxMeet x y z t x2 y2 z2 t2)=false from decide_eq_false fun ⟨m1,m2,m3,m4,m5,m6⟩=>by first|exact f41 m1|exact f41 m2|exact f41 m3|exact f41 m4|exact f41 m5|exact f41 m6]
    ·have f31:¬ (x2.q≤z.q):=fun hh=>of_decide_eq_false e2 ((ZcB h28).2 hh)
     refine Eq.trans (b:=bool false) ?_ rfl
     rw [show decide (bxMeet x y z t x2 y2 z2 t2)=false from decide_eq_false fun ⟨m1,m2,m3,m4,m5,m6⟩=>by first|exact f31 m1|exact f31 m2|exact f31 m3|exact f31 m4|exact f31 m5|exact f31 m6]
   ·have f21:¬ (x.q≤z2.q):=fun hh=>of_decide_eq_false e1 ((ZcB h18).2 hh)
    refine Eq.trans (b:=bool false) ?_ rfl
    rw [show decide (bxMeet x y z t x2 y2 z2 t2)=false from decide_eq_false fun ⟨m1,m2,m3,m4,m5,m6⟩=>by first|exact f21 m1|exact f21 m2|exact f21 m3|exact f21 m4|exact f21 m5|exact f21 m6]
  ·refine Eq.trans (b:=bool false) ?_ rfl
   rw [show decide (bxMeet x y z t x2 y2 z2 t2)=false from decide_eq_false fun ⟨m1,m2,m3,m4,m5,m6⟩=>by first|exact f9 m1|exact f9 m2|exact f9 m3|exact f9 m4|exact f9 m5|exact f9 m6]
 ·refine Eq.trans (b:=bool false) ?_ rfl
  rw [show decide (bxMeet x y z t x2 y2 z2 t2)=false from decide_eq_false fun ⟨m1,m2,m3,m4,m5,m6⟩=>by first|exact f6 m1|exact f6 m2|exact f6 m3|exact f6 m4|exact f6 m5|exact f6 m6]
end
end Go.Proofs.YtiekmbmgpachpaaGreatDoor.eng
namespace Go.Proofs.YtiekmbmgpachpaaGreatDoor.eng
open Go.RowKit num mem seg q held ratA ratB ratC ratD ratE vars ratF
section
variable {K : AV → Prop}
instance (a b p:poly.Pt) (s:Rat):Decidable (poly.onB a b p s):=by unfold poly.onB;infer_instance
instance (a b c d:poly.Pt):Decidable (poly.Cross a b c d):=by unfold poly.Cross;infer_instance
end
end Go.Proofs.YtiekmbmgpachpaaGreatDoor.eng
namespace Go.Proofs.YtiekmbmgpachpaaGreatDoor.eng
open Go.RowKit num mem seg q held ratA ratB ratC ratD ratE vars ratF
section
variable {K : AV → Prop}
theorem Zf0 {P Q:Nat→poly.Pt} {n i m:Nat}:farTo P n Q i m=true↔∀ j,j< m→poly.ori (P i) (P ((i+1) % n)) (Q j)< 0:=by
 unfold farTo
 rw [List.all_eq_true]
 have e:∀ j,(outN P n i).1*((Q j).1 - (P i).1)+(outN P n i).2*((Q j).2 - (P i).2)=- poly.ori (P i) (P ((i+1) % n)) (Q j):=fun j=>by unfold outN poly.ori;grind
 constructor
 ·intro h j hj
  have:=of_decide_eq_true (h j (List.mem_range.2 hj))
  rw [e] at this;grind
 ·intro h j hj
  have:=h j (List.mem_range.1 hj)
  exact decide_eq_true (by rw [e];grind)
theorem ZeZ {a b:List (RV×RV)}:(bey a b).isSome=true↔poly.Beyond (pts a) a.length (pts b) b.length:=by
 unfold bey poly.Beyond
 rw [List.find?_isSome]
 constructor
 ·rintro⟨i,h1,h2⟩;exact⟨i,List.mem_range.1 h1,Zf0.1 h2⟩
 ·rintro⟨i,h1,h2⟩;exact⟨i,List.mem_range.2 h1,Zf0.2 h2⟩
theorem Zj0 {a b:List (RV×RV)} (ca:convE 64 a=0) (cb:convE 64 b=0):poly.Touch (pts a) a.length (pts b) b.length↔¬ (bey a b).isSome=true∧¬ (bey b a).isSome=true:=by
 obtain⟨_,a3,aE⟩:=Z6.1 ca
 obtain⟨_,b3,bE⟩:=Z6.1 cb
 rw [ZeZ,ZeZ];exact poly.touch_iff aE bE (by omega) (by omega)
theorem Zk4 {l:List (RV×RV)} {p:RV×RV} (h:p∈l):∃ i,i< l.length∧pts l i=(p.1.q,p.2.q):=by
 obtain⟨i,hi,e⟩:=List.mem_iff_getElem.1 h
 exact⟨i,hi,Za4 (by rw [List.getElem?_eq_getElem hi,e])⟩
theorem Zqj {a b:List (RV×RV)} (h0:bothE a b=0):meetB a b=true↔poly.Touch (pts a) a.length (pts b) b.length:=by
 obtain⟨ca,cb⟩:=ZeY.1 h0
 rw [Zj0 ca cb]
 unfold meetB
 rw [h0]
 cases bey a b<;>cases bey b a<;>simp
end
end Go.Proofs.YtiekmbmgpachpaaGreatDoor.eng
