/- Joined by wip/bundle.py: XPolyB XPolyC. -/
import Derived.Test.YtgkofgfiifgioaaGreatDoorQGrpP
set_option maxRecDepth 100000
namespace Go.Proofs.YtgkofgfiifgioaaGreatDoor.eng
open Go.RowKit num mem seg q held ratA ratB ratC ratD ratE vars ratF
section
variable {K : AV → Prop}
theorem ZrP {l:List (RV×RV)} (hl:∀ p,p∈l→p.1.z≤67108864∧p.2.z≤67108864) (i:Nat):qs (pts l i).1≤67108865∧qs (pts l i).2≤67108865:=by
 unfold pts
 cases h:l[i]? with
 |none=>simp only [Option.getD_none,z0q];exact⟨by decide+kernel,by decide+kernel⟩
 |some p=>
  simp only [Option.getD_some]
  have:=hl p (List.mem_of_getElem? h)
  have a:=p.1.z1;have b:=p.2.z1
  omega
theorem Zia {f:Nat→Rat} {B:Nat} (h:∀ i,qs (f i)≤B):∀ n,qs (poly.sumTo f n)≤n*(B+1)+8
 |0=>by
   show qs (0:Rat)≤_;have:qs (0:Rat)≤8:=by decide+kernel
   omega
 |n+1=>by
  have:=Zia h n;have:=h n;have:=ZaF (poly.sumTo f n) (f n)
  show qs (poly.sumTo f n+f n)≤_
  rw [Nat.add_mul];omega
theorem Ztg {a b:poly.Pt} {B:Nat} (ha:qs a.1≤B∧qs a.2≤B) (hb:qs b.1≤B∧qs b.2≤B):qs (poly.cr a b)≤4*B+4:=by
 unfold poly.cr
 have:=Z2 a.1 b.2;have:=Z2 a.2 b.1;have:=Zbv (a.1*b.2) (a.2*b.1)
 omega
open Classical in
noncomputable def areaQ (l:List (RV×RV)):Rat:=if convE 64 l=0 then ((1:Int):Rat) / ((2:Int):Rat)*poly.ringSum (pts l) l.length else 0
theorem Zjx (l:List (RV×RV)) (hl:∀ p,p∈l→p.1.z≤67108864∧p.2.z≤67108864) (hn:l.length≤1073741824):Spec Tryz.prog Tab 36 [.val (.one (.d (.list (List.map rdv l))))] (rat (cn (areaQ l))):=by
 have hL:(List.map rdv l).length=l.length:=List.length_map ..
 refine Zh Tryz.func36 rfl rfl Tryz.ntmps36 rfl ωr rfl rfl ?_
 refine k_of (0) ω ω fun q8 h8 z8=> ?_
 simp only [cn_z] at z8
 refine ZnV (l:=l) ωs ω (fun n10 hk_10_1=> ?_)
 refine⟨fun e1=> ?_,fun e1=> ?_⟩
 ·have f11:n10≠0:=Zoi e1
  refine Eq.trans (b:=rat (cn q8)) ?_ rfl
  rw [h8,areaQ,if_neg ω];rfl
 ·have f11:¬ (n10≠0):=fun hh=>hh (Zoj e1)
  have hc:convE 64 l=0:=ω
  obtain⟨c1,c2,_⟩:=ZiS.1 hc
  obtain rfl:q8=0:=by rw [h8];rfl
  refine⟨Nat,fun i=> [(0,.val (.one (.d (.list (List.map rdv l))))),(2,.val (.one (.ptr 2 0))),(3,.val (.one (.ptr 3 0))),(13,.val (.one (.d (.list (List.map rdv l))))),(14,int ((List.map rdv l).length:Int)),(15,int (i:Int))],
   fun i=> [(2,.var 25 [.d (.v (.bool z0.s)),.d (.v (.string z0.a)),.d (.v (.string z0.d))]),(3,.var 25 [.d (.v (.bool (cn (poly.sumTo (fun i=>poly.cr (pts l i) (pts l ((i+1) % l.length))) i)).s)),.d (.v (.string (cn (poly.sumTo (fun i=>poly.cr (pts l i) (pts l ((i+1) % l.length))) i)).a)),.d (.v (.string (cn (poly.sumTo (fun i=>poly.cr (pts l i) (pts l ((i+1) % l.length))) i)).d))])],fun i=>i≤l.length,fun i=>l.length - i,0,?_,Nat.zero_le _,fun i hs=> ?_⟩
  ·exact ωe
  have hq:=Zia (f:=(fun i=>poly.cr (pts l i) (pts l ((i+1) % l.length)))) (B:=268435464) (fun j=>Nat.le_trans (Ztg (ZrP hl j) (ZrP hl _)) ωd) i
  have hq2:i*(268435464+1)≤64*(268435464+1):=Nat.mul_le_mul_right _ ω
  refine⟨fun e2=> ?_,fun e2=> ?_⟩
  ·have f16:(i:Int)< ((List.map rdv l).length:Int):=of_decide_eq_true e2
   obtain⟨x18,hx18⟩:∃ vv,l[i]? =some vv:=⟨_,List.getElem?_eq_getElem ωm⟩
   have hzx18:=hl x18 (List.mem_of_getElem? hx18)
   have hpx18:=ZfQ hx18
   refine k_ix i [D.v (.bool x18.1.s),D.v (.string x18.1.a),D.v (.string x18.1.d),D.v (.bool x18.2.s),D.v (.string x18.2.a),D.v (.string x18.2.d)] ωh (Zl hx18) rfl ?_
   refine Zf6 (i+1) l.length ωh ωh ω ?_
   obtain⟨x28,hx28⟩:∃ vv,l[((i+1) % l.length)]? =some vv:=⟨_,List.getElem?_eq_getElem ωm⟩
   have hzx28:=hl x28 (List.mem_of_getElem? hx28)
   have hpx28:=ZfQ hx28
   refine k_ix ((i+1) % l.length) [D.v (.bool x28.1.s),D.v (.string x28.1.a),D.v (.string x28.1.d),D.v (.bool x28.2.s),D.v (.string x28.2.a),D.v (.string x28.2.d)] ωh (Zl hx28) rfl ?_
   refine Zip (x:=x18.1) (y:=x18.2) (z:=x28.1) (t:=x28.2) ω ω ω ω (fun q30 hk_30_1 hk_30_2=> ?_)
   simp only [cn_z] at hk_30_2
   refine Za9 (x:=cn (poly.sumTo (fun i=>poly.cr (pts l i) (pts l ((i+1) % l.length))) i)) (y:=cn q30) ωz ωz fun q31 h31 z31=> ?_
   simp only [cn_z] at z31
   simp only [cn_q] at h31
   refine⟨ωr,?_⟩
   obtain rfl:q31=poly.sumTo (fun i=>poly.cr (pts l i) (pts l ((i+1) % l.length))) (i+1):=by
    rw [h31,hk_30_1];show _=poly.sumTo (fun i=>poly.cr (pts l i) (pts l ((i+1) % l.length))) i+poly.cr (pts l i) (pts l ((i+1) % l.length));rw [hpx18,hpx28];rfl
   refine⟨i+1,ω,by simp only;omega,?_⟩
   constructor<;>(repeat' (first|exact rfl|exact True.intro|apply And.intro))
   all_goals first
    |exact ωb
    |exact ωa
  ·have f16:¬ ((i:Int)< ((List.map rdv l).length:Int)):=of_decide_eq_false e2
   refine Zis  1 2 ω ω ω ω ωk (fun q34 hk_34_1 hk_34_2=> ?_)
   simp only [cn_z] at hk_34_2
   refine Za8 (x:=cn q34) (y:=cn (poly.sumTo (fun i=>poly.cr (pts l i) (pts l ((i+1) % l.length))) i)) ωz ωz fun q39 h39 z39=> ?_
   simp only [cn_z] at z39
   simp only [cn_q] at h39
   refine Eq.trans (b:=rat (cn q39)) ?_ rfl
   rw [h39,hk_34_1,areaQ,if_pos hc,show l.length=i by omega];rfl
theorem Zqm {l:List (RV×RV)} (hl:∀ p,p∈l→p.1.z≤67108864∧p.2.z≤67108864) (hn:l.length≤1073741824) (k:∀ q,q=areaQ l→K (rat (cn q))):Ask 36 [vecs l] K:=use (Zjx l hl hn) rfl (k _ rfl)
end
section
variable {K : AV → Prop}
theorem ZnL (m a:Rat):lowF m a=minQ m a:=by
 unfold lowF minQ
 by_cases h:a< m
 ·rw [if_pos h,if_neg (Rat.not_le.2 h)]
 ·rw [if_neg h,if_pos (Rat.not_lt.1 h)]
theorem ZlH (m a:Rat):highF m a=maxQ m a:=by
 unfold highF maxQ
 by_cases h:m< a
 ·rw [if_pos h,if_neg (Rat.not_le.2 h)]
 ·rw [if_neg h,if_pos (Rat.not_lt.1 h)]
theorem Zf1 (q a:Rat) (l:List Rat):lowL q (l++ [a])=minQ (lowL q l) a:=by unfold lowL;rw [List.foldl_append,← ZnL];rfl
theorem Zek (q a:Rat) (l:List Rat):highL q (l++ [a])=maxQ (highL q l) a:=by unfold highL;rw [List.foldl_append,← ZlH];rfl
theorem Zpp {l:List (RV×RV)} {i:Nat} {p:RV×RV} (h:l[i]? =some p):xsQ (l.take (i+1))=xsQ (l.take i)++ [p.1.q]∧ysQ (l.take (i+1))=ysQ (l.take i)++ [p.2.q]:=by
 rw [List.take_add_one,h];simp [xsQ,ysQ]
theorem ZkQ {B:Nat} {l:List Rat}:∀ {q:Rat},qs q≤B→(∀ a,a∈l→qs a≤B)→qs (lowL q l)≤B:=by
 induction l with
 |nil=>intro q h _;exact h
 |cons a l ih=>
  intro q h h2
  show qs (lowL (lowF q a) l)≤B
  exact ih (by unfold lowF;split;exact h2 a (by simp);exact h) fun b hb=>h2 b (by simp [hb])
theorem Zib {B:Nat} {l:List Rat}:∀ {q:Rat},qs q≤B→(∀ a,a∈l→qs a≤B)→qs (highL q l)≤B:=by
 induction l with
 |nil=>intro q h _;exact h
 |cons a l ih=>
  intro q h h2
  show qs (highL (highF q a) l)≤B
  exact ih (by unfold highF;split;exact h2 a (by simp);exact h) fun b hb=>h2 b (by simp [hb])
theorem xs_z {l:List (RV×RV)} {B:Nat} (hl:∀ p,p∈l→p.1.z≤B∧p.2.z≤B) (i:Nat):(∀ a,a∈xsQ (l.take i)→qs a≤B+1)∧∀ a,a∈ysQ (l.take i)→qs a≤B+1:=by
 constructor<;>intro a ha<;>obtain⟨p,hp,rfl⟩:=List.mem_map.1 ha<;>have:=hl p (List.mem_of_mem_take hp)
 ·have:=p.1.z1;omega
 ·have:=p.2.z1;omega
theorem Zjw  :Spec Tryz.prog Tab 35 [.val (.one (.d (.list (List.map rdv ([]:List (RV×RV))))))] (box (cn 0) (cn 0) (cn 0) (cn 0)):=by
 have h0:=z0q
 refine Zh Tryz.func35 rfl rfl Tryz.ntmps35 rfl ωr rfl rfl ?_
 refine Zls (x:=z0) (y:=z0) (z:=z0) (t:=z0) (by simp only [z0z];omega) (by simp only [z0z];omega) (by simp only [z0z];omega) (by simp only [z0z];omega) (fun p10 q10 hk_10_2 hk_10_3 hk_10_4 hk_10_5=> ?_)
 simp only [cn_z,z0z] at hk_10_4
 simp only [cn_z,z0z] at hk_10_5
 refine⟨fun e1=> ?_,fun e1=> ?_⟩
 ·have f13:((List.map rdv ([]:List (RV×RV))).length:Int)=0:=ZL e1
  refine Eq.trans (b:=box (cn p10) (cn q10) (cn p10) (cn q10)) ?_ rfl
  obtain rfl:p10=0:=by rw [hk_10_2,z0q,Rat.add_zero]
  obtain rfl:q10=0:=by rw [hk_10_3,z0q,Rat.add_zero]
  rfl
 ·have f13:¬ (((List.map rdv ([]:List (RV×RV))).length:Int)=0):=ZM e1
  exfalso
  exact f13 rfl
theorem Zql {l:List (RV×RV)} (h:l= []) (k:K (box (cn 0) (cn 0) (cn 0) (cn 0))):Ask 35 [vecs l] K:=by subst h;exact use Zjw rfl k
set_option maxHeartbeats 1000000 in
theorem ZkU (p0:RV×RV) (l:List (RV×RV)) (hl:∀ p,p∈p0 :: l→p.1.z≤67108864∧p.2.z≤67108864) (hn:(p0 :: l).length≤1073741824):Spec Tryz.prog Tab 35 [.val (.one (.d (.list (List.map rdv (p0 :: l)))))] (box (cn (lowL p0.1.q (xsQ l))) (cn (lowL p0.2.q (ysQ l))) (cn (highL p0.1.q (xsQ l))) (cn (highL p0.2.q (ysQ l)))):=by
 have hL:(List.map rdv l).length=l.length:=List.length_map ..
 have hL0:(List.map rdv (p0 :: l)).length=l.length+1:=by simp
 have hn0:(p0 :: l).length=l.length+1:=rfl
 have hp00:=hl p0 (by simp)
 refine Zh Tryz.func35 rfl rfl Tryz.ntmps35 rfl ωr rfl rfl ?_
 refine Zls (x:=z0) (y:=z0) (z:=z0) (t:=z0) (by simp only [z0z];omega) (by simp only [z0z];omega) (by simp only [z0z];omega) (by simp only [z0z];omega) (fun p10 q10 hk_10_2 hk_10_3 hk_10_4 hk_10_5=> ?_)
 simp only [cn_z,z0z] at hk_10_4
 simp only [cn_z,z0z] at hk_10_5
 refine⟨fun e1=> ?_,fun e1=> ?_⟩
 ·have f13:((List.map rdv (p0 :: l)).length:Int)=0:=ZL e1
  exfalso
  omega
 ·have f13:¬ (((List.map rdv (p0 :: l)).length:Int)=0):=ZM e1
  refine k_ix 0 [D.v (.bool p0.1.s),D.v (.string p0.1.a),D.v (.string p0.1.d),D.v (.bool p0.2.s),D.v (.string p0.2.a),D.v (.string p0.2.d)] ωh (Zl rfl) rfl ?_
  refine Zls (x:=p0.1) (y:=p0.2) (z:=cn p10) (t:=cn q10) ω ω ωz ωz (fun p21 q21 hk_21_2 hk_21_3 hk_21_4 hk_21_5=> ?_)
  try simp only [cn_q] at hk_21_2
  try simp only [cn_q] at hk_21_3
  simp only [cn_z] at hk_21_4
  simp only [cn_z] at hk_21_5
  refine⟨ωr,?_⟩
  refine Zsp 1 (List.map rdv l) (by first|omega|(simp;omega)|simp) ωh (Zik fun _=>rfl) (rfl) ?_
  have hz0:p10=0∧q10=0:=by rw [hk_10_2,hk_10_3,z0q,Rat.add_zero];exact⟨rfl,rfl⟩
  obtain rfl:p21=p0.1.q:=by rw [hk_21_2,hz0.1,Rat.add_zero]
  obtain rfl:q21=p0.2.q:=by rw [hk_21_3,hz0.2,Rat.add_zero]
  refine⟨Nat,fun i=> [(2,.val (.one (.ptr 2 0))),(5,.val (.one (.ptr 5 0))),(26,.val (.one (.d (.list (List.map rdv l))))),(27,int ((List.map rdv l).length:Int)),(28,int (i:Int))],
   fun i=> [(2,.var 77 [.d (.v (.bool z0.s)),.d (.v (.string z0.a)),.d (.v (.string z0.d)),.d (.v (.bool z0.s)),.d (.v (.string z0.a)),.d (.v (.string z0.d)),.d (.v (.bool z0.s)),.d (.v (.string z0.a)),.d (.v (.string z0.d)),.d (.v (.bool z0.s)),.d (.v (.string z0.a)),.d (.v (.string z0.d))]),(5,.var 77 [.d (.v (.bool (cn (lowL p0.1.q (xsQ (l.take i)))).s)),.d (.v (.string (cn (lowL p0.1.q (xsQ (l.take i)))).a)),.d (.v (.string (cn (lowL p0.1.q (xsQ (l.take i)))).d)),.d (.v (.bool (cn (lowL p0.2.q (ysQ (l.take i)))).s)),.d (.v (.string (cn (lowL p0.2.q (ysQ (l.take i)))).a)),.d (.v (.string (cn (lowL p0.2.q (ysQ (l.take i)))).d)),.d (.v (.bool (cn (highL p0.1.q (xsQ (l.take i)))).s)),.d (.v (.string (cn (highL p0.1.q (xsQ (l.take i)))).a)),.d (.v (.string (cn (highL p0.1.q (xsQ (l.take i)))).d)),.d (.v (.bool (cn (highL p0.2.q (ysQ (l.take i)))).s)),.d (.v (.string (cn (highL p0.2.q (ysQ (l.take i)))).a)),.d (.v (.string (cn (highL p0.2.q (ysQ (l.take i)))).d))])],fun i=>i≤l.length,fun i=>l.length - i,0,?_,Nat.zero_le _,fun i hs=> ?_⟩
  ·exact ωe
  have hz2:=xs_z (B:=67108864) (l:=l) (fun p hp=>hl p (by simp [hp])) i
  have hp0:=hl p0 (by simp)
  have z1:=p0.1.z1
  have z2:=p0.2.z1
  have b1:=ZkQ (B:=67108865) (q:=p0.1.q) ω hz2.1
  have b2:=ZkQ (B:=67108865) (q:=p0.2.q) ω hz2.2
  have b3:=Zib (B:=67108865) (q:=p0.1.q) ω hz2.1
  have b4:=Zib (B:=67108865) (q:=p0.2.q) ω hz2.2
  refine⟨fun e2=> ?_,fun e2=> ?_⟩
  ·have f29:(i:Int)< ((List.map rdv l).length:Int):=of_decide_eq_true e2
   obtain⟨x30,hx30⟩:∃ vv,l[i]? =some vv:=⟨_,List.getElem?_eq_getElem ωm⟩
   have hzx30:=hl x30 (List.mem_cons_of_mem _ (List.mem_of_getElem? hx30))
   refine k_ix i [D.v (.bool x30.1.s),D.v (.string x30.1.a),D.v (.string x30.1.d),D.v (.bool x30.2.s),D.v (.string x30.2.a),D.v (.string x30.2.d)] ωh (Zl hx30) rfl ?_
   refine ZnS (x:=cn (lowL p0.1.q (xsQ (l.take i)))) (y:=x30.1) ωz ω fun q37 h37 z37=> ?_
   simp only [cn_z] at z37
   simp only [cn_q] at h37
   refine ZnS (x:=cn (lowL p0.2.q (ysQ (l.take i)))) (y:=x30.2) ωz ω fun q43 h43 z43=> ?_
   simp only [cn_z] at z43
   simp only [cn_q] at h43
   refine⟨ωr,?_⟩
   refine ZnT (x:=cn (highL p0.1.q (xsQ (l.take i)))) (y:=x30.1) ωz ω fun q51 h51 z51=> ?_
   simp only [cn_z] at z51
   simp only [cn_q] at h51
   refine ZnT (x:=cn (highL p0.2.q (ysQ (l.take i)))) (y:=x30.2) ωz ω fun q57 h57 z57=> ?_
   simp only [cn_z] at z57
   simp only [cn_q] at h57
   refine⟨ωr,?_⟩
   have hxs:=Zpp hx30
   obtain rfl:q37=lowL p0.1.q (xsQ (l.take (i+1))):=by rw [h37,hxs.1,Zf1]
   obtain rfl:q43=lowL p0.2.q (ysQ (l.take (i+1))):=by rw [h43,hxs.2,Zf1]
   obtain rfl:q51=highL p0.1.q (xsQ (l.take (i+1))):=by rw [h51,hxs.1,Zek]
   obtain rfl:q57=highL p0.2.q (ysQ (l.take (i+1))):=by rw [h57,hxs.2,Zek]
   refine⟨i+1,ω,by simp only;omega,?_⟩
   constructor<;>(repeat' (first|exact rfl|exact True.intro|apply And.intro))
   all_goals first
    |exact ωb
    |exact ωa
  ·have f29:¬ ((i:Int)< ((List.map rdv l).length:Int)):=of_decide_eq_false e2
   refine Eq.trans (b:=box (cn (lowL p0.1.q (xsQ (l.take i)))) (cn (lowL p0.2.q (ysQ (l.take i)))) (cn (highL p0.1.q (xsQ (l.take i)))) (cn (highL p0.2.q (ysQ (l.take i))))) ?_ rfl
   rw [List.take_of_length_le (show l.length≤i by omega)]
theorem Zsj {p0:RV×RV} {l:List (RV×RV)} (hl:∀ p,p∈p0 :: l→p.1.z≤67108864∧p.2.z≤67108864) (hn:(p0 :: l).length≤1073741824) (k:∀ p q r u,p=lowL p0.1.q (xsQ l)→q=lowL p0.2.q (ysQ l)→r=highL p0.1.q (xsQ l)→u=highL p0.2.q (ysQ l)→K (box (cn p) (cn q) (cn r) (cn u))):Ask 35 [vecs (p0 :: l)] K:=use (ZkU p0 l hl hn) rfl (k _ _ _ _ rfl rfl rfl rfl)
def bx1:List (RV×RV)→Rat
 | []=>0
 |p :: l=>lowL p.1.q (xsQ l)
def bx2:List (RV×RV)→Rat
 | []=>0
 |p :: l=>lowL p.2.q (ysQ l)
def bx3:List (RV×RV)→Rat
 | []=>0
 |p :: l=>highL p.1.q (xsQ l)
def bx4:List (RV×RV)→Rat
 | []=>0
 |p :: l=>highL p.2.q (ysQ l)
theorem Zqk {l:List (RV×RV)} (hl:∀ p,p∈l→p.1.z≤67108864∧p.2.z≤67108864) (hn:l.length≤1073741824) (k:∀ p q r u,p=bx1 l→q=bx2 l→r=bx3 l→u=bx4 l→K (box (cn p) (cn q) (cn r) (cn u))):Ask 35 [vecs l] K:=by
 cases l with
 |nil=>exact Zql rfl (k _ _ _ _ rfl rfl rfl rfl)
 |cons p l=>exact Zsj hl hn k
def cvl (m:List (Rat×Rat)):List (RV×RV):=m.map fun p=>(cn p.1,cn p.2)
theorem Zmg (m:List (Rat×Rat)):pts (cvl m)=fun i=>(m[i]?).getD (0,0):=by
 funext i
 unfold pts cvl
 rw [List.getElem?_map]
 cases m[i]? with
 |none=>simp [z0q]
 |some p=>simp [cn_q]
theorem Zn3 {P:Nat→poly.Pt} {n:Nat} (h:((List.range n).all fun i=>(List.range n).all fun k=>decide (k< 2)||decide (0< poly.ori (P i) (P ((i+1) % n)) (P ((i+k) % n))))=true):poly.Edges P n:=by
 intro i k hi h2 hk
 rw [List.all_eq_true] at h
 have:=h i (List.mem_range.2 hi)
 rw [List.all_eq_true] at this
 have:=this k (List.mem_range.2 hk)
 simp only [Bool.or_eq_true,decide_eq_true_eq] at this
 rcases this with h3|h3
 ·omega
 ·exact h3
theorem ZsL {m:List (Rat×Rat)} {B:Nat} (h:(m.all fun p=>decide (qs p.1≤B)&&decide (qs p.2≤B))=true):∀ p,p∈cvl m→p.1.z≤B∧p.2.z≤B:=by
 intro p hp
 obtain⟨q,hq,rfl⟩:=List.mem_map.1 hp
 have:=List.all_eq_true.1 h q hq
 simpa [cn_z] using this
def sqL (x y s:Int):List (Rat×Rat):= [((x:Rat),(y:Rat)),(((x+s:Int):Rat),(y:Rat)),(((x+s:Int):Rat),((y+s:Int):Rat)),((x:Rat),((y+s:Int):Rat))]
theorem sq2:areaQ (cvl (sqL 0 0 2))=4∧convE 64 (cvl (sqL 0 0 2))=0:=by
 have h:convE 64 (cvl (sqL 0 0 2))=0:=ZiS.2 ⟨ωd,ωd,by rw [Zmg];exact Zn3 ωk⟩
 refine⟨?_,h⟩
 rw [areaQ,if_pos h,Zmg]
 decide+kernel
end
