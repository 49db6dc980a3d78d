/- Joined by wip/bundle.py: XHulE XHulF XHulG. -/
import Derived.Test.YtncoimmjjfmhdaaGreatDoorGrpHb
set_option maxRecDepth 100000
namespace Go.Proofs.YtncoimmjjfmhdaaGreatDoor.eng
open Go.RowKit num mem seg q held ratA ratB ratC ratD ratE vars ratF prf
section
variable {K : AV → Prop}
open poly (Pt ori)
open hull (pos sub firstF firstP wf wnext wrapGo wrapL d2)
theorem ZmG (x y z t:RV) (hx:x.z≤67108864) (hy:y.z≤67108864) (hz:z.z≤67108864) (ht:t.z≤67108864):Spec Tryz.prog Tab 103 [pair x y,pair z t] (bool (decide (x.q=z.q∧y.q=t.q))):=by
 refine Zh Tryz.func103 rfl rfl Tryz.ntmps103 rfl (by kernel_rfl) rfl rfl ?_
 refine ZbP (x:=x) (y:=z) (by omega) (by omega) fun q9 h9 z9=> ?_
 simp only [cn_z] at z9
 refine ZfC (x:=cn q9) (by simp only [cn_z];omega) fun n10 h10=> ?_
 simp only [cn_q] at h10
 refine fork (fun e1=> ?_) (fun e1=> ?_)
 ·have f12:q9=0:=(ZcP h10).1 (ZeO e1)
  refine ZbP (x:=y) (y:=t) (by omega) (by omega) fun q17 h17 z17=> ?_
  simp only [cn_z] at z17
  refine ZfC (x:=cn q17) (by simp only [cn_z];omega) fun n18 h18=> ?_
  simp only [cn_q] at h18
  refine Eq.trans (b:=bool (n18==0)) ?_ rfl
  rw [show decide (x.q=z.q∧y.q=t.q)=(n18==0) from by
   rw [Bool.eq_iff_iff];simp only [decide_eq_true_eq,beq_iff_eq]
   exact⟨fun h=>(ZcP h18).2 (by rw [h17,h.2,Rat.sub_self]),fun h=>⟨by have:=(ZcP h18).1 h;grind,by have:=(ZcP h18).1 h;grind⟩⟩]
 ·have f12:¬ (q9=0):=fun hh=>ZeP e1 ((ZcP h10).2 hh)
  refine Eq.trans (b:=bool false) ?_ rfl
  rw [decide_eq_false fun h=>f12 (by rw [h9,h.1,Rat.sub_self])]
theorem Zm2 {p q:Pt} (hp:okV p) (hq:okV q) (k:∀ b,b=decide (p=q)→K (bool b)):Ask 103 [pair (cn p.1) (cn p.2),pair (cn q.1) (cn q.2)] K:=
 use (ZmG (cn p.1) (cn p.2) (cn q.1) (cn q.2) hp.1 hp.2 hq.1 hq.2) rfl (k _ (by
  simp only [cn_q]
  rw [Bool.eq_iff_iff];simp only [decide_eq_true_eq]
  exact⟨fun h=>Prod.ext h.1 h.2,fun h=>by rw [h];exact⟨rfl,rfl⟩⟩))
def fstN (L:List Pt) (i:Nat):Pt:=(L.take i).foldl firstF ((L[0]?).getD (0,0))
theorem Zm6 {L:List Pt} {x:Pt} (h:L[0]? =some x):x=fstN L 0:=by simp [fstN,h]
theorem ZhK (L:List Pt):fstN L L.length=firstP L:=by unfold fstN hull.firstP;rw [List.take_length]
theorem ZfL {L:List Pt} {i:Nat} {x:Pt} (h:L[i]? =some x):fstN L (i+1)=firstF (fstN L i) x:=by
 unfold fstN;rw [List.take_add_one,h,List.foldl_append];rfl
theorem ZeF {L:List Pt} {i:Nat} {x:Pt} (h:L[i]? =some x) (hc:x.1< (fstN L i).1∨(x.1=(fstN L i).1∧x.2< (fstN L i).2)):x=fstN L (i+1):=by rw [ZfL h];exact(if_pos hc).symm
theorem ZgG {L:List Pt} {i:Nat} {x:Pt} (h:L[i]? =some x) (hc:¬ (x.1< (fstN L i).1∨(x.1=(fstN L i).1∧x.2< (fstN L i).2))):fstN L (i+1)=fstN L i:=by rw [ZfL h];exact if_neg hc
theorem Zcy {L:List Pt} (h0:0< L.length):∀ i,i≤L.length→fstN L i∈L
 |0,_=>by
  have h:L[0]? =some (L[0]'h0):=List.getElem?_eq_getElem h0
  rw [← Zm6 h];exact List.getElem_mem _
 |i+1,hi=>by
  have h:L[i]? =some (L[i]'(by omega)):=List.getElem?_eq_getElem (by omega)
  by_cases hc:(L[i]'(by omega)).1< (fstN L i).1∨((L[i]'(by omega)).1=(fstN L i).1∧(L[i]'(by omega)).2< (fstN L i).2)
  ·rw [← ZeF h hc];exact List.getElem_mem _
  ·rw [ZgG h hc];exact Zcy h0 i (by omega)
theorem ZiR (L:List Pt) (hL:∀ p,p∈L→okV p) (hn:L.length≤1048576) (h0:0< L.length):Spec Tryz.prog Tab 102 [.val (.one (.d (.list (List.map ptD L))))] (pair (cn (firstP L).1) (cn (firstP L).2)):=by
 have hLl:(List.map ptD L).length=L.length:=List.length_map ..
 refine Zh Tryz.func102 rfl rfl Tryz.ntmps102 rfl (by kernel_rfl) rfl rfl ?_
 refine Z9 (l:=L) (i:=0) (by first|omega|exact Nat.mod_lt _ (by omega)) fun x8 hx8=> ?_
 have hzx8:=hL x8 (List.mem_of_getElem? hx8)
 have hzax8:=hzx8.1
 have hzbx8:=hzx8.2
 refine k_ix 0 [D.v (.bool (cn x8.1).s),D.v (.string (cn x8.1).a),D.v (.string (cn x8.1).d),D.v (.bool (cn x8.2).s),D.v (.string (cn x8.2).a),D.v (.string (cn x8.2).d)] (by first|rfl|omega|(rw [wrap64 _ (by omega) (by omega)];omega)|(rw [wrap64 _ (by omega) (by omega)];split<;>omega)) (Zw hx8) rfl ?_
 obtain rfl:x8=fstN L 0:=Zm6 hx8
 refine⟨Nat,fun i=> [(2,.val (.one (.ptr 2 0))),(3,.val (.one (.ptr 3 0))),(10,.val (.one (.d (.list (List.map ptD L))))),(11,int ((List.map ptD L).length:Int)),(12,int (i:Int))],
  fun i=> [(2,.var 26 [.d (.v (.bool z0.s)),.d (.v (.string z0.a)),.d (.v (.string z0.d)),.d (.v (.bool z0.s)),.d (.v (.string z0.a)),.d (.v (.string z0.d))]),(3,.var 26 [.d (.v (.bool (cn (fstN L i).1).s)),.d (.v (.string (cn (fstN L i).1).a)),.d (.v (.string (cn (fstN L i).1).d)),.d (.v (.bool (cn (fstN L i).2).s)),.d (.v (.string (cn (fstN L i).2).a)),.d (.v (.string (cn (fstN L i).2).d))])],fun i=>i≤L.length,fun i=>L.length - i,0,?_,Nat.zero_le _,fun i hs=> ?_⟩
 ·constructor<;>(repeat' (first|exact rfl|exact True.intro|exact⟨_,_,rfl⟩|exact(by decide)|apply And.intro))
  all_goals first|exact congrArg (fun n:Int=>D.v (.int .i64 n)) (by omega)|exact congrArg (fun n:Int=>D.v (.int .i64 n)) (by rw [wrap64 _ (by omega) (by omega)];omega)|(simp;done)
 have hf1:=(hL _ (Zcy h0 i hs)).1
 have hf2:=(hL _ (Zcy h0 i hs)).2
 refine⟨fun e1=> ?_,fun e1=> ?_⟩
 ·have f13:(i:Int)< ((List.map ptD L).length:Int):=of_decide_eq_true e1
  refine Z9 (l:=L) (i:=i) (by first|omega|exact Nat.mod_lt _ (by omega)) fun x14 hx14=> ?_
  have hzx14:=hL x14 (List.mem_of_getElem? hx14)
  have hzax14:=hzx14.1
  have hzbx14:=hzx14.2
  refine k_ix i [D.v (.bool (cn x14.1).s),D.v (.string (cn x14.1).a),D.v (.string (cn x14.1).d),D.v (.bool (cn x14.2).s),D.v (.string (cn x14.2).a),D.v (.string (cn x14.2).d)] (by first|rfl|omega|(rw [wrap64 _ (by omega) (by omega)];omega)|(rw [wrap64 _ (by omega) (by omega)];split<;>omega)) (Zw hx14) rfl ?_
  refine Zbj (x:=cn x14.1) (y:=cn (fstN L i).1) (by simp only [cn_z];omega) (by simp only [cn_z];omega) fun n20 h20=> ?_
  simp only [cn_q] at h20
  refine fork (fun e2=> ?_) (fun e2=> ?_)
  ·have f23:x14.1< (fstN L i).1:=(Zk2 h20).1 (of_decide_eq_true e2)
   refine⟨fun _=> ?_,fun e=>absurd e (by decide)⟩
   obtain rfl:x14=fstN L (i+1):=ZeF hx14 (.inl f23)
   refine⟨i+1,by omega,by simp only;omega,?_⟩
   constructor<;>(repeat' (first|exact rfl|exact True.intro|apply And.intro))
   all_goals first
    |exact congrArg (fun n:Int=>D.v (.int .i64 n)) (by rw [wrap64 _ (by omega) (by omega)];omega)
    |exact congrArg (fun n:Int=>D.v (.int .i64 n)) (by omega)
  ·have f23:¬ (x14.1< (fstN L i).1):=fun hh=>of_decide_eq_false e2 ((Zk2 h20).2 hh)
   refine fork (fun e3=> ?_) (fun e3=> ?_)
   ·have f26:x14.1=(fstN L i).1:=(Zdh h20).1 (ZeO e3)
    refine Zbj (x:=cn x14.2) (y:=cn (fstN L i).2) (by simp only [cn_z];omega) (by simp only [cn_z];omega) fun n31 h31=> ?_
    simp only [cn_q] at h31
    refine⟨fun e4=> ?_,fun e4=> ?_⟩
    ·have f34:x14.2< (fstN L i).2:=(Zk2 h31).1 (of_decide_eq_true e4)
     obtain rfl:x14=fstN L (i+1):=ZeF hx14 (.inr ⟨f26,f34⟩)
     refine⟨i+1,by omega,by simp only;omega,?_⟩
     constructor<;>(repeat' (first|exact rfl|exact True.intro|apply And.intro))
     all_goals first
      |exact congrArg (fun n:Int=>D.v (.int .i64 n)) (by rw [wrap64 _ (by omega) (by omega)];omega)
      |exact congrArg (fun n:Int=>D.v (.int .i64 n)) (by omega)
    ·have f34:¬ (x14.2< (fstN L i).2):=fun hh=>of_decide_eq_false e4 ((Zk2 h31).2 hh)
     have hst:fstN L (i+1)=fstN L i:=ZgG hx14 (by rintro(g|⟨g,g2⟩);exact f23 g;exact f34 g2)
     refine⟨i+1,by omega,by simp only;omega,?_⟩
     constructor<;>(repeat' (first|exact rfl|exact True.intro|apply And.intro))
     all_goals first
      |exact congrArg (fun v:Pt=>D.v (.bool (cn (v).1).s)) hst.symm
      |exact congrArg (fun v:Pt=>D.v (.string (cn (v).1).a)) hst.symm
      |exact congrArg (fun v:Pt=>D.v (.string (cn (v).1).d)) hst.symm
      |exact congrArg (fun v:Pt=>D.v (.bool (cn (v).2).s)) hst.symm
      |exact congrArg (fun v:Pt=>D.v (.string (cn (v).2).a)) hst.symm
      |exact congrArg (fun v:Pt=>D.v (.string (cn (v).2).d)) hst.symm
      |exact congrArg (fun v:Pt=>D.v (.bool (cn (v).1).s)) hst
      |exact congrArg (fun v:Pt=>D.v (.string (cn (v).1).a)) hst
      |exact congrArg (fun v:Pt=>D.v (.string (cn (v).1).d)) hst
      |exact congrArg (fun v:Pt=>D.v (.bool (cn (v).2).s)) hst
      |exact congrArg (fun v:Pt=>D.v (.string (cn (v).2).a)) hst
      |exact congrArg (fun v:Pt=>D.v (.string (cn (v).2).d)) hst
      |exact congrArg (fun n:Int=>D.v (.int .i64 n)) (by rw [wrap64 _ (by omega) (by omega)];omega)
      |exact congrArg (fun n:Int=>D.v (.int .i64 n)) (by omega)
   ·have f26:¬ (x14.1=(fstN L i).1):=fun hh=>ZeP e3 ((Zdh h20).2 hh)
    refine⟨fun e=>absurd e (by decide),fun _=> ?_⟩
    have hst:fstN L (i+1)=fstN L i:=ZgG hx14 (by rintro(g|⟨g,g2⟩);exact f23 g;exact f26 g)
    refine⟨i+1,by omega,by simp only;omega,?_⟩
    constructor<;>(repeat' (first|exact rfl|exact True.intro|apply And.intro))
    all_goals first
     |exact congrArg (fun v:Pt=>D.v (.bool (cn (v).1).s)) hst.symm
     |exact congrArg (fun v:Pt=>D.v (.string (cn (v).1).a)) hst.symm
     |exact congrArg (fun v:Pt=>D.v (.string (cn (v).1).d)) hst.symm
     |exact congrArg (fun v:Pt=>D.v (.bool (cn (v).2).s)) hst.symm
     |exact congrArg (fun v:Pt=>D.v (.string (cn (v).2).a)) hst.symm
     |exact congrArg (fun v:Pt=>D.v (.string (cn (v).2).d)) hst.symm
     |exact congrArg (fun v:Pt=>D.v (.bool (cn (v).1).s)) hst
     |exact congrArg (fun v:Pt=>D.v (.string (cn (v).1).a)) hst
     |exact congrArg (fun v:Pt=>D.v (.string (cn (v).1).d)) hst
     |exact congrArg (fun v:Pt=>D.v (.bool (cn (v).2).s)) hst
     |exact congrArg (fun v:Pt=>D.v (.string (cn (v).2).a)) hst
     |exact congrArg (fun v:Pt=>D.v (.string (cn (v).2).d)) hst
     |exact congrArg (fun n:Int=>D.v (.int .i64 n)) (by rw [wrap64 _ (by omega) (by omega)];omega)
     |exact congrArg (fun n:Int=>D.v (.int .i64 n)) (by omega)
 ·have f13:¬ ((i:Int)< ((List.map ptD L).length:Int)):=of_decide_eq_false e1
  refine Eq.trans (b:=pair (cn (fstN L i).1) (cn (fstN L i).2)) ?_ rfl
  obtain rfl:i=L.length:=by omega
  rw [ZhK]
end
end Go.Proofs.YtncoimmjjfmhdaaGreatDoor.eng
namespace Go.Proofs.YtncoimmjjfmhdaaGreatDoor.eng
open Go.RowKit num mem seg q held ratA ratB ratC ratD ratE vars ratF prf
section
variable {K : AV → Prop}
open poly (Pt ori)
open hull (pos sub firstF firstP wf wnext wrapGo wrapL d2)
def atN (L:List Pt):Nat→Pt
 |0=>firstP L
 |i+1=>wnext L (atN L i)
def wst (L:List Pt) (a:Pt) (j:Nat):Pt×Bool:=(L.take j).foldl (wf a) (a,false)
def osN (L:List Pt) (i:Nat):List Pt:=(List.range i).map (atN L)
theorem Zj3 (L:List Pt) (i:Nat):(osN L i).length=i:=by simp [osN]
theorem Zl4 (L:List Pt) (i:Nat):osN L (i+1)=osN L i++ [atN L i]:=by simp [osN,List.range_succ]
theorem Zl5 (L:List Pt) (i:Nat):(osN L (i+1))[0]? =some (atN L 0):=by simp [osN]
theorem Zi8 (L:List Pt) (i:Nat):atN L (i+1)=(wst L (atN L i) L.length).1:=by unfold wst;rw [List.take_length];rfl
theorem Zec {L:List Pt} {a x:Pt} {j:Nat} (h:L[j]? =some x):wst L a (j+1)=wf a (wst L a j) x:=by unfold wst;rw [List.take_add_one,h,List.foldl_append];rfl
theorem Zg3 {L:List Pt} {a x:Pt} {j:Nat} (h:L[j]? =some x) (e:x=a):wst L a (j+1)=wst L a j:=by rw [Zec h];exact if_pos e
theorem Zeb {L:List Pt} {a x:Pt} {j:Nat} (h:L[j]? =some x) (e:¬ x=a) (hc:(wst L a j).2=false∨ori a (wst L a j).1 x< 0∨(ori a (wst L a j).1 x=0∧d2 a (wst L a j).1< d2 a x)):wst L a (j+1)=(x,true):=by
 rw [Zec h];unfold hull.wf;rw [if_neg e,if_pos hc]
theorem Zi7 {L:List Pt} {a x:Pt} {j:Nat} (h:L[j]? =some x) (e:¬ x=a) (hc:¬ ((wst L a j).2=false∨ori a (wst L a j).1 x< 0∨(ori a (wst L a j).1 x=0∧d2 a (wst L a j).1< d2 a x))):wst L a (j+1)=wst L a j:=by
 rw [Zec h];unfold hull.wf;rw [if_neg e,if_neg hc]
theorem Zed {L:List Pt} {a:Pt} (ha:a∈L):∀ j,j≤L.length→(wst L a j).1∈L
 |0,_=>ha
 |j+1,hj=>by
  have h:L[j]? =some (L[j]'(by omega)):=List.getElem?_eq_getElem (by omega)
  by_cases e:L[j]'(by omega)=a
  ·rw [Zg3 h e];exact Zed ha j (by omega)
  ·by_cases hc:(wst L a j).2=false∨ori a (wst L a j).1 (L[j]'(by omega))< 0∨(ori a (wst L a j).1 (L[j]'(by omega))=0∧d2 a (wst L a j).1< d2 a (L[j]'(by omega)))
   ·rw [Zeb h e hc];exact List.getElem_mem _
   ·rw [Zi7 h e hc];exact Zed ha j (by omega)
theorem ZeQ {L:List Pt} (h0:0< L.length):∀ i,atN L i∈L
 |0=>by show firstP L∈L;rw [← ZhK];exact Zcy h0 _ (Nat.le_refl _)
 |i+1=>by rw [Zi8];exact Zed (ZeQ h0 i) _ (Nat.le_refl _)
theorem ZnX (L:List Pt):∀ (k m i:Nat),k≤m→(∀ j,0< j→j< k→atN L (i+j)≠firstP L)→(k=m∨(0< k∧atN L (i+k)=firstP L))→wrapGo L (firstP L) m (atN L i)=(List.range k).map fun j=>atN L (i+j)
 |0,m,i,_,_,h2=>by
  obtain rfl:m=0:=by rcases h2 with h|⟨h,_⟩<;>omega
  rfl
 |k+1,0,i,h,_,_=>by omega
 |k+1,m+1,i,h,h1,h2=>by
  rw [hull.wrapGo,List.range_succ_eq_map,List.map_cons,List.map_map]
  congr 1
  by_cases hs:atN L (i+1)=firstP L
  ·have hk:k=0:=by
    rcases Nat.eq_zero_or_pos k with e|e
    ·exact e
    ·exact absurd hs (h1 1 (by omega) (by omega))
   subst hk
   exact(if_pos hs).trans rfl
  ·refine(if_neg hs).trans ?_
   have ih:=ZnX L k m (i+1) (by omega) (fun j j1 j2=>by rw [show i+1+j=i+(j+1) by omega];exact h1 (j+1) (by omega) (by omega)) (by
    rcases h2 with g|⟨_,g⟩
    ·exact .inl (by omega)
    ·rcases Nat.eq_zero_or_pos k with e|e
     ·subst e;exact absurd g hs
     ·exact .inr ⟨e,by rw [show i+1+k=i+(k+1) by omega];exact g⟩)
   refine Eq.trans ih (List.map_congr_left fun j _=> ?_)
   show atN L (i+1+j)=atN L (i+(j+1))
   rw [show i+1+j=i+(j+1) by omega]
theorem Zi9 {L:List Pt} {i:Nat} (hi:i< L.length) (h1:∀ j,0< j→j≤i→atN L j≠firstP L) (h2:atN L (i+1)=firstP L):wrapL L=osN L (i+1):=by
 unfold hull.wrapL
 rw [if_neg (fun e=>by rw [e] at hi;simp at hi)]
 have:=ZnX L (i+1) L.length 0 (by omega) (fun j j1 j2=>by rw [Nat.zero_add];exact h1 j j1 (by omega)) (.inr ⟨by omega,by rw [Nat.zero_add];exact h2⟩)
 simp only [Nat.zero_add] at this
 exact this
theorem Zjb {L:List Pt} (h0:0< L.length) (h1:∀ j,0< j→j≤L.length→atN L j≠firstP L):wrapL L=osN L L.length:=by
 unfold hull.wrapL
 rw [if_neg (fun e=>by rw [e] at h0;simp at h0)]
 have:=ZnX L L.length L.length 0 (Nat.le_refl _) (fun j j1 j2=>by rw [Nat.zero_add];exact h1 j j1 (by omega)) (.inl rfl)
 simp only [Nat.zero_add] at this
 exact this
set_option maxHeartbeats 4000000 in
theorem Zlx (L:List Pt) (hL:∀ p,p∈L→okV p) (hn:L.length≤1048576):Spec Tryz.prog Tab 47 [.val (.one (.d (.list (List.map ptD L))))] (.val (.one (.d (.list (List.map ptD (wrapL L)))))):=by
 have hLl:(List.map ptD L).length=L.length:=List.length_map ..
 refine Zh Tryz.func47 rfl rfl Tryz.ntmps47 rfl (by kernel_rfl) rfl rfl ?_
 refine⟨fun e1=> ?_,fun e1=> ?_⟩
 ·have f12:((List.map ptD L).length:Int)=0:=ZeO e1
  refine Eq.trans (b:= .val (.one (.d (.list ([]))))) ?_ rfl
  obtain rfl:L= []:=List.length_eq_zero_iff.1 (by omega)
  rfl
 ·have f12:¬ (((List.map ptD L).length:Int)=0):=ZeP e1
  have h0:0< L.length:=by omega
  refine use (ZiR L hL (by omega) h0) rfl ?_
  refine⟨Nat,fun i=> [(0,.val (.one (.d (.list (List.map ptD L))))),(3,.val (.one (.ptr 3 0))),(4,.val (.one (.row 22 0))),(16,int ((List.map ptD L).length:Int)),(17,int (i:Int))],
   fun i=> [(3,.var 26 [.d (.v (.bool (cn (atN L i).1).s)),.d (.v (.string (cn (atN L i).1).a)),.d (.v (.string (cn (atN L i).1).d)),.d (.v (.bool (cn (atN L i).2).s)),.d (.v (.string (cn (atN L i).2).a)),.d (.v (.string (cn (atN L i).2).d))]),(22,.row 26 6 0 (List.map ptD (osN L i)) true)],fun i=>i≤L.length∧∀ j,0< j→j≤i→atN L j≠firstP L,fun i=>L.length - i,0,?_,⟨Nat.zero_le _,fun j j1 j2=>by omega⟩,fun i hs=> ?_⟩
  ·constructor<;>(repeat' (first|exact rfl|exact True.intro|exact⟨_,_,rfl⟩|exact(by decide)|apply And.intro))
   all_goals first|exact congrArg (fun n:Int=>D.v (.int .i64 n)) (by omega)|exact congrArg (fun n:Int=>D.v (.int .i64 n)) (by rw [wrap64 _ (by omega) (by omega)];omega)|(simp;done)
  obtain⟨g1,g2⟩:=hs
  have ho1:=hL _ (ZeQ h0 i)
  have ho2:=ho1.1
  have ho3:=ho1.2
  have ho0:=hL _ (ZeQ h0 0)
  have hat:=Zi8 L i
  have hOs:(List.map ptD (osN L i)).length=i:=by rw [List.length_map,Zj3]
  have hOt:(List.map ptD (osN L (i+1))).length=i+1:=by rw [List.length_map,Zj3]
  refine⟨fun e2=> ?_,fun e2=> ?_⟩
  ·have f18:(i:Int)< ((List.map ptD L).length:Int):=of_decide_eq_true e2
   refine⟨⟨row1 rfl,(by show ((List.map ptD (osN L i)).length+1)*80≤_;omega),(by show ((List.map ptD (osN L i)).length+1)≤_;omega)⟩,?_⟩
   refine⟨Nat,fun j=> [(0,.val (.one (.d (.list (List.map ptD L))))),(3,.val (.one (.ptr 3 0))),(4,.val (.one (.row 22 0))),(5,.val (.one (.ptr 5 0))),(6,bool ((wst L (atN L i) j).2)),(16,int ((List.map ptD L).length:Int)),(17,int (i:Int)),(24,.val (.one (.d (.list (List.map ptD L))))),(25,int ((List.map ptD L).length:Int)),(26,int (j:Int))],
    fun j=> [(3,.var 26 [.d (.v (.bool (cn (atN L i).1).s)),.d (.v (.string (cn (atN L i).1).a)),.d (.v (.string (cn (atN L i).1).d)),.d (.v (.bool (cn (atN L i).2).s)),.d (.v (.string (cn (atN L i).2).a)),.d (.v (.string (cn (atN L i).2).d))]),(5,.var 26 [.d (.v (.bool (cn ((wst L (atN L i) j).1).1).s)),.d (.v (.string (cn ((wst L (atN L i) j).1).1).a)),.d (.v (.string (cn ((wst L (atN L i) j).1).1).d)),.d (.v (.bool (cn ((wst L (atN L i) j).1).2).s)),.d (.v (.string (cn ((wst L (atN L i) j).1).2).a)),.d (.v (.string (cn ((wst L (atN L i) j).1).2).d))]),(22,.row 26 6 0 (List.map ptD (osN L (i+1))) true)],fun j=>j≤L.length,fun j=>L.length - j,0,?_,Nat.zero_le _,fun j hs=> ?_⟩
   ·constructor<;>(repeat' (first|exact rfl|exact True.intro|exact⟨_,_,rfl⟩|exact(by decide)|apply And.intro))
    all_goals first
     |(rw [Zl4,List.map_append];rfl)
   have hw1:=hL _ (Zed (ZeQ h0 i) j hs)
   have hw2:=hw1.1
   have hw3:=hw1.2
   refine⟨fun e3=> ?_,fun e3=> ?_⟩
   ·have f27:(j:Int)< ((List.map ptD L).length:Int):=of_decide_eq_true e3
    refine Z9 (l:=L) (i:=j) (by first|omega|exact Nat.mod_lt _ (by omega)) fun x28 hx28=> ?_
    have hzx28:=hL x28 (List.mem_of_getElem? hx28)
    have hzax28:=hzx28.1
    have hzbx28:=hzx28.2
    refine k_ix j [D.v (.bool (cn x28.1).s),D.v (.string (cn x28.1).a),D.v (.string (cn x28.1).d),D.v (.bool (cn x28.2).s),D.v (.string (cn x28.2).a),D.v (.string (cn x28.2).d)] (by first|rfl|omega|(rw [wrap64 _ (by omega) (by omega)];omega)|(rw [wrap64 _ (by omega) (by omega)];split<;>omega)) (Zw hx28) rfl ?_
    refine Zm2 (p:=x28) (q:=(atN L i)) (by assumption) (by assumption) fun b32 h32=> ?_
    refine⟨fun e4=> ?_,fun e4=> ?_⟩
    ·have f32:x28=(atN L i):=of_decide_eq_true (h32.symm.trans e4)
     have hst:=Zg3 hx28 f32
     refine⟨j+1,by omega,by simp only;omega,?_⟩
     constructor<;>(repeat' (first|exact rfl|exact True.intro|apply And.intro))
     all_goals first
      |exact congrArg (fun v:Pt×Bool=>D.v (.bool (cn (v.1).1).s)) hst
      |exact congrArg (fun v:Pt×Bool=>D.v (.string (cn (v.1).1).a)) hst
      |exact congrArg (fun v:Pt×Bool=>D.v (.string (cn (v.1).1).d)) hst
      |exact congrArg (fun v:Pt×Bool=>D.v (.bool (cn (v.1).2).s)) hst
      |exact congrArg (fun v:Pt×Bool=>D.v (.string (cn (v.1).2).a)) hst
      |exact congrArg (fun v:Pt×Bool=>D.v (.string (cn (v.1).2).d)) hst
      |exact congrArg (fun v:Pt×Bool=>D.v (.bool (cn (v.1).1).s)) hst.symm
      |exact congrArg (fun v:Pt×Bool=>D.v (.string (cn (v.1).1).a)) hst.symm
      |exact congrArg (fun v:Pt×Bool=>D.v (.string (cn (v.1).1).d)) hst.symm
      |exact congrArg (fun v:Pt×Bool=>D.v (.bool (cn (v.1).2).s)) hst.symm
      |exact congrArg (fun v:Pt×Bool=>D.v (.string (cn (v.1).2).a)) hst.symm
      |exact congrArg (fun v:Pt×Bool=>D.v (.string (cn (v.1).2).d)) hst.symm
      |exact congrArg (fun v:Pt×Bool=>D.v (.bool v.2)) hst
      |exact congrArg (fun v:Pt×Bool=>D.v (.bool v.2)) hst.symm
      |exact congrArg (fun n:Int=>D.v (.int .i64 n)) (by rw [wrap64 _ (by omega) (by omega)];omega)
      |exact congrArg (fun n:Int=>D.v (.int .i64 n)) (by omega)
    ·have f32:¬ (x28=(atN L i)):=of_decide_eq_false (h32.symm.trans e4)
     refine ZkG (x:=cn (atN L i).1) (y:=cn (atN L i).2) (z:=cn ((wst L (atN L i) j).1).1) (t:=cn ((wst L (atN L i) j).1).2) (u:=cn x28.1) (v:=cn x28.2) (by simp only [cn_z];omega) (by simp only [cn_z];omega) (by simp only [cn_z];omega) (by simp only [cn_z];omega) (by simp only [cn_z];omega) (by simp only [cn_z];omega) (fun n36 hk_36_1=> ?_)
     try simp only [cn_q] at hk_36_1
     refine fork (fun e5=> ?_) (fun e5=> ?_)
     ·refine⟨by kernel_rfl,?_⟩
      refine⟨fun _=> ?_,fun e=>absurd e (by decide)⟩
      have hst:=Zeb hx28 f32 (.inl (by simpa using e5))
      refine⟨j+1,by omega,by simp only;omega,?_⟩
      constructor<;>(repeat' (first|exact rfl|exact True.intro|apply And.intro))
      all_goals first
       |exact congrArg (fun v:Pt×Bool=>D.v (.bool (cn (v.1).1).s)) hst
       |exact congrArg (fun v:Pt×Bool=>D.v (.string (cn (v.1).1).a)) hst
       |exact congrArg (fun v:Pt×Bool=>D.v (.string (cn (v.1).1).d)) hst
       |exact congrArg (fun v:Pt×Bool=>D.v (.bool (cn (v.1).2).s)) hst
       |exact congrArg (fun v:Pt×Bool=>D.v (.string (cn (v.1).2).a)) hst
       |exact congrArg (fun v:Pt×Bool=>D.v (.string (cn (v.1).2).d)) hst
       |exact congrArg (fun v:Pt×Bool=>D.v (.bool (cn (v.1).1).s)) hst.symm
       |exact congrArg (fun v:Pt×Bool=>D.v (.string (cn (v.1).1).a)) hst.symm
       |exact congrArg (fun v:Pt×Bool=>D.v (.string (cn (v.1).1).d)) hst.symm
       |exact congrArg (fun v:Pt×Bool=>D.v (.bool (cn (v.1).2).s)) hst.symm
       |exact congrArg (fun v:Pt×Bool=>D.v (.string (cn (v.1).2).a)) hst.symm
       |exact congrArg (fun v:Pt×Bool=>D.v (.string (cn (v.1).2).d)) hst.symm
       |exact congrArg (fun v:Pt×Bool=>D.v (.bool v.2)) hst
       |exact congrArg (fun v:Pt×Bool=>D.v (.bool v.2)) hst.symm
       |exact congrArg (fun n:Int=>D.v (.int .i64 n)) (by rw [wrap64 _ (by omega) (by omega)];omega)
       |exact congrArg (fun n:Int=>D.v (.int .i64 n)) (by omega)
     ·refine fork (fun e6=> ?_) (fun e6=> ?_)
      ·have f43:((((wst L (atN L i) j).1).1) - ((atN L i).1))*(x28.2 - ((atN L i).2)) - ((((wst L (atN L i) j).1).2) - ((atN L i).2))*(x28.1 - ((atN L i).1))< 0:=(ZmO hk_36_1).1 (of_decide_eq_true e6)
       refine⟨by kernel_rfl,?_⟩
       refine⟨fun _=> ?_,fun e=>absurd e (by decide)⟩
       have hst:=Zeb hx28 f32 (.inr (.inl f43))
       refine⟨j+1,by omega,by simp only;omega,?_⟩
       constructor<;>(repeat' (first|exact rfl|exact True.intro|apply And.intro))
       all_goals first
        |exact congrArg (fun v:Pt×Bool=>D.v (.bool (cn (v.1).1).s)) hst
        |exact congrArg (fun v:Pt×Bool=>D.v (.string (cn (v.1).1).a)) hst
        |exact congrArg (fun v:Pt×Bool=>D.v (.string (cn (v.1).1).d)) hst
        |exact congrArg (fun v:Pt×Bool=>D.v (.bool (cn (v.1).2).s)) hst
        |exact congrArg (fun v:Pt×Bool=>D.v (.string (cn (v.1).2).a)) hst
        |exact congrArg (fun v:Pt×Bool=>D.v (.string (cn (v.1).2).d)) hst
        |exact congrArg (fun v:Pt×Bool=>D.v (.bool (cn (v.1).1).s)) hst.symm
        |exact congrArg (fun v:Pt×Bool=>D.v (.string (cn (v.1).1).a)) hst.symm
        |exact congrArg (fun v:Pt×Bool=>D.v (.string (cn (v.1).1).d)) hst.symm
        |exact congrArg (fun v:Pt×Bool=>D.v (.bool (cn (v.1).2).s)) hst.symm
        |exact congrArg (fun v:Pt×Bool=>D.v (.string (cn (v.1).2).a)) hst.symm
        |exact congrArg (fun v:Pt×Bool=>D.v (.string (cn (v.1).2).d)) hst.symm
        |exact congrArg (fun v:Pt×Bool=>D.v (.bool v.2)) hst
        |exact congrArg (fun v:Pt×Bool=>D.v (.bool v.2)) hst.symm
        |exact congrArg (fun n:Int=>D.v (.int .i64 n)) (by rw [wrap64 _ (by omega) (by omega)];omega)
        |exact congrArg (fun n:Int=>D.v (.int .i64 n)) (by omega)
      ·have f43:¬ (((((wst L (atN L i) j).1).1) - ((atN L i).1))*(x28.2 - ((atN L i).2)) - ((((wst L (atN L i) j).1).2) - ((atN L i).2))*(x28.1 - ((atN L i).1))< 0):=fun hh=>of_decide_eq_false e6 ((ZmO hk_36_1).2 hh)
       refine fork (fun e7=> ?_) (fun e7=> ?_)
       ·have f46:((((wst L (atN L i) j).1).1) - ((atN L i).1))*(x28.2 - ((atN L i).2)) - ((((wst L (atN L i) j).1).2) - ((atN L i).2))*(x28.1 - ((atN L i).1))=0:=(ZcP hk_36_1).1 (ZeO e7)
        refine k_RV (x:=cn (atN L i).1) (y:=cn (atN L i).2) (z:=cn x28.1) (t:=cn x28.2) (by simp only [cn_z];omega) (by simp only [cn_z];omega) (by simp only [cn_z];omega) (by simp only [cn_z];omega) (fun p49 q49 hk_49_2 hk_49_3 hk_49_4 hk_49_5=> ?_)
        try simp only [cn_q] at hk_49_2
        try simp only [cn_q] at hk_49_3
        simp only [cn_z] at hk_49_4
        simp only [cn_z] at hk_49_5
        refine k_RV (x:=cn (atN L i).1) (y:=cn (atN L i).2) (z:=cn x28.1) (t:=cn x28.2) (by simp only [cn_z];omega) (by simp only [cn_z];omega) (by simp only [cn_z];omega) (by simp only [cn_z];omega) (fun p52 q52 hk_52_2 hk_52_3 hk_52_4 hk_52_5=> ?_)
        try simp only [cn_q] at hk_52_2
        try simp only [cn_q] at hk_52_3
        simp only [cn_z] at hk_52_4
        simp only [cn_z] at hk_52_5
        refine Zm3 (x:=cn p49) (y:=cn q49) (z:=cn p52) (t:=cn q52) (by simp only [cn_z];omega) (by simp only [cn_z];omega) (by simp only [cn_z];omega) (by simp only [cn_z];omega) (fun q53 hk_53_1 hk_53_2=> ?_)
        try simp only [cn_q] at hk_53_1
        simp only [cn_z] at hk_53_2
        refine k_RV (x:=cn (atN L i).1) (y:=cn (atN L i).2) (z:=cn ((wst L (atN L i) j).1).1) (t:=cn ((wst L (atN L i) j).1).2) (by simp only [cn_z];omega) (by simp only [cn_z];omega) (by simp only [cn_z];omega) (by simp only [cn_z];omega) (fun p56 q56 hk_56_2 hk_56_3 hk_56_4 hk_56_5=> ?_)
        try simp only [cn_q] at hk_56_2
        try simp only [cn_q] at hk_56_3
        simp only [cn_z] at hk_56_4
        simp only [cn_z] at hk_56_5
        refine k_RV (x:=cn (atN L i).1) (y:=cn (atN L i).2) (z:=cn ((wst L (atN L i) j).1).1) (t:=cn ((wst L (atN L i) j).1).2) (by simp only [cn_z];omega) (by simp only [cn_z];omega) (by simp only [cn_z];omega) (by simp only [cn_z];omega) (fun p59 q59 hk_59_2 hk_59_3 hk_59_4 hk_59_5=> ?_)
        try simp only [cn_q] at hk_59_2
        try simp only [cn_q] at hk_59_3
        simp only [cn_z] at hk_59_4
        simp only [cn_z] at hk_59_5
        refine Zm3 (x:=cn p56) (y:=cn q56) (z:=cn p59) (t:=cn q59) (by simp only [cn_z];omega) (by simp only [cn_z];omega) (by simp only [cn_z];omega) (by simp only [cn_z];omega) (fun q60 hk_60_1 hk_60_2=> ?_)
        try simp only [cn_q] at hk_60_1
        simp only [cn_z] at hk_60_2
        refine Zbj (x:=cn q53) (y:=cn q60) (by simp only [cn_z];omega) (by simp only [cn_z];omega) fun n61 h61=> ?_
        simp only [cn_q] at h61
        refine⟨by kernel_rfl,?_⟩
        refine⟨fun e8=> ?_,fun e8=> ?_⟩
        ·have f64:q60< q53:=(Zn8 h61).1 (of_decide_eq_true e8)
         have hd1:q53=d2 (atN L i) x28:=by unfold hull.d2;rw [hk_53_1,hk_49_2,hk_49_3,hk_52_2,hk_52_3]
         have hd2:q60=d2 (atN L i) (wst L (atN L i) j).1:=by unfold hull.d2;rw [hk_60_1,hk_56_2,hk_56_3,hk_59_2,hk_59_3]
         have hst:=Zeb hx28 f32 (.inr (.inr ⟨f46,by rw [← hd1,← hd2];exact f64⟩))
         refine⟨j+1,by omega,by simp only;omega,?_⟩
         constructor<;>(repeat' (first|exact rfl|exact True.intro|apply And.intro))
         all_goals first
          |exact congrArg (fun v:Pt×Bool=>D.v (.bool (cn (v.1).1).s)) hst
          |exact congrArg (fun v:Pt×Bool=>D.v (.string (cn (v.1).1).a)) hst
          |exact congrArg (fun v:Pt×Bool=>D.v (.string (cn (v.1).1).d)) hst
          |exact congrArg (fun v:Pt×Bool=>D.v (.bool (cn (v.1).2).s)) hst
          |exact congrArg (fun v:Pt×Bool=>D.v (.string (cn (v.1).2).a)) hst
          |exact congrArg (fun v:Pt×Bool=>D.v (.string (cn (v.1).2).d)) hst
          |exact congrArg (fun v:Pt×Bool=>D.v (.bool (cn (v.1).1).s)) hst.symm
          |exact congrArg (fun v:Pt×Bool=>D.v (.string (cn (v.1).1).a)) hst.symm
          |exact congrArg (fun v:Pt×Bool=>D.v (.string (cn (v.1).1).d)) hst.symm
          |exact congrArg (fun v:Pt×Bool=>D.v (.bool (cn (v.1).2).s)) hst.symm
          |exact congrArg (fun v:Pt×Bool=>D.v (.string (cn (v.1).2).a)) hst.symm
          |exact congrArg (fun v:Pt×Bool=>D.v (.string (cn (v.1).2).d)) hst.symm
          |exact congrArg (fun v:Pt×Bool=>D.v (.bool v.2)) hst
          |exact congrArg (fun v:Pt×Bool=>D.v (.bool v.2)) hst.symm
          |exact congrArg (fun n:Int=>D.v (.int .i64 n)) (by rw [wrap64 _ (by omega) (by omega)];omega)
          |exact congrArg (fun n:Int=>D.v (.int .i64 n)) (by omega)
        ·have f64:¬ (q60< q53):=fun hh=>of_decide_eq_false e8 ((Zn8 h61).2 hh)
         have hd1:q53=d2 (atN L i) x28:=by unfold hull.d2;rw [hk_53_1,hk_49_2,hk_49_3,hk_52_2,hk_52_3]
         have hd2:q60=d2 (atN L i) (wst L (atN L i) j).1:=by unfold hull.d2;rw [hk_60_1,hk_56_2,hk_56_3,hk_59_2,hk_59_3]
         have hst:=Zi7 hx28 f32 (by rintro(g|g|⟨_,g⟩);rw [g] at e5;simp at e5;exact f43 g;rw [← hd1,← hd2] at g;exact f64 g)
         refine⟨j+1,by omega,by simp only;omega,?_⟩
         constructor<;>(repeat' (first|exact rfl|exact True.intro|apply And.intro))
         all_goals first
          |exact congrArg (fun v:Pt×Bool=>D.v (.bool (cn (v.1).1).s)) hst
          |exact congrArg (fun v:Pt×Bool=>D.v (.string (cn (v.1).1).a)) hst
          |exact congrArg (fun v:Pt×Bool=>D.v (.string (cn (v.1).1).d)) hst
          |exact congrArg (fun v:Pt×Bool=>D.v (.bool (cn (v.1).2).s)) hst
          |exact congrArg (fun v:Pt×Bool=>D.v (.string (cn (v.1).2).a)) hst
          |exact congrArg (fun v:Pt×Bool=>D.v (.string (cn (v.1).2).d)) hst
          |exact congrArg (fun v:Pt×Bool=>D.v (.bool (cn (v.1).1).s)) hst.symm
          |exact congrArg (fun v:Pt×Bool=>D.v (.string (cn (v.1).1).a)) hst.symm
          |exact congrArg (fun v:Pt×Bool=>D.v (.string (cn (v.1).1).d)) hst.symm
          |exact congrArg (fun v:Pt×Bool=>D.v (.bool (cn (v.1).2).s)) hst.symm
          |exact congrArg (fun v:Pt×Bool=>D.v (.string (cn (v.1).2).a)) hst.symm
          |exact congrArg (fun v:Pt×Bool=>D.v (.string (cn (v.1).2).d)) hst.symm
          |exact congrArg (fun v:Pt×Bool=>D.v (.bool v.2)) hst
          |exact congrArg (fun v:Pt×Bool=>D.v (.bool v.2)) hst.symm
          |exact congrArg (fun n:Int=>D.v (.int .i64 n)) (by rw [wrap64 _ (by omega) (by omega)];omega)
          |exact congrArg (fun n:Int=>D.v (.int .i64 n)) (by omega)
       ·have f46:¬ (((((wst L (atN L i) j).1).1) - ((atN L i).1))*(x28.2 - ((atN L i).2)) - ((((wst L (atN L i) j).1).2) - ((atN L i).2))*(x28.1 - ((atN L i).1))=0):=fun hh=>ZeP e7 ((ZcP hk_36_1).2 hh)
        refine⟨by kernel_rfl,?_⟩
        refine⟨fun e=>absurd e (by decide),fun _=> ?_⟩
        have hst:=Zi7 hx28 f32 (by rintro(g|g|⟨g,_⟩);rw [g] at e5;simp at e5;exact f43 g;exact f46 g)
        refine⟨j+1,by omega,by simp only;omega,?_⟩
        constructor<;>(repeat' (first|exact rfl|exact True.intro|apply And.intro))
        all_goals first
         |exact congrArg (fun v:Pt×Bool=>D.v (.bool (cn (v.1).1).s)) hst
         |exact congrArg (fun v:Pt×Bool=>D.v (.string (cn (v.1).1).a)) hst
         |exact congrArg (fun v:Pt×Bool=>D.v (.string (cn (v.1).1).d)) hst
         |exact congrArg (fun v:Pt×Bool=>D.v (.bool (cn (v.1).2).s)) hst
         |exact congrArg (fun v:Pt×Bool=>D.v (.string (cn (v.1).2).a)) hst
         |exact congrArg (fun v:Pt×Bool=>D.v (.string (cn (v.1).2).d)) hst
         |exact congrArg (fun v:Pt×Bool=>D.v (.bool (cn (v.1).1).s)) hst.symm
         |exact congrArg (fun v:Pt×Bool=>D.v (.string (cn (v.1).1).a)) hst.symm
         |exact congrArg (fun v:Pt×Bool=>D.v (.string (cn (v.1).1).d)) hst.symm
         |exact congrArg (fun v:Pt×Bool=>D.v (.bool (cn (v.1).2).s)) hst.symm
         |exact congrArg (fun v:Pt×Bool=>D.v (.string (cn (v.1).2).a)) hst.symm
         |exact congrArg (fun v:Pt×Bool=>D.v (.string (cn (v.1).2).d)) hst.symm
         |exact congrArg (fun v:Pt×Bool=>D.v (.bool v.2)) hst
         |exact congrArg (fun v:Pt×Bool=>D.v (.bool v.2)) hst.symm
         |exact congrArg (fun n:Int=>D.v (.int .i64 n)) (by rw [wrap64 _ (by omega) (by omega)];omega)
         |exact congrArg (fun n:Int=>D.v (.int .i64 n)) (by omega)
   ·have f27:¬ ((j:Int)< ((List.map ptD L).length:Int)):=of_decide_eq_false e3
    have hjL:j=L.length:=by omega
    rw [← hjL] at hat
    refine k_at_own' 0 (by first|rfl|omega|(rw [wrap64 _ (by omega) (by omega)];omega)|(rw [wrap64 _ (by omega) (by omega)];split<;>omega)) (by first|omega|(simp only [List.length_set];omega)|(simp;omega)) ?_
    refine Zcp [D.v (.bool (cn (atN L 0).1).s),D.v (.string (cn (atN L 0).1).a),D.v (.string (cn (atN L 0).1).d),D.v (.bool (cn (atN L 0).2).s),D.v (.string (cn (atN L 0).2).a),D.v (.string (cn (atN L 0).2).d)] _ (Zw (Zl5 L i)) rfl rfl ?_
    refine Zm2 (p:=((wst L (atN L i) j).1)) (q:=(atN L 0)) (by assumption) (by assumption) fun b72 h72=> ?_
    refine⟨by kernel_rfl,?_⟩
    refine⟨fun e9=> ?_,fun e9=> ?_⟩
    ·have f72:((wst L (atN L i) j).1)=(atN L 0):=of_decide_eq_true (h72.symm.trans e9)
     refine Eq.trans (b:= .val (.one (.d (.list (List.map ptD (osN L (i+1))))))) ?_ rfl
     rw [Zi9 (by omega) g2 (hat.trans f72)]
    ·have f72:¬ (((wst L (atN L i) j).1)=(atN L 0)):=of_decide_eq_false (h72.symm.trans e9)
     refine⟨i+1,⟨by omega,fun j j1 j2=>by
      by_cases ej:j=i+1
      ·rw [ej];exact fun h=>f72 (hat.symm.trans h)
      ·exact g2 j j1 (by omega)⟩,by simp only;omega,?_⟩
     constructor<;>(repeat' (first|exact rfl|exact True.intro|apply And.intro))
     all_goals first
      |exact congrArg (fun v:Pt=>D.v (.bool (cn (v).1).s)) hat
      |exact congrArg (fun v:Pt=>D.v (.string (cn (v).1).a)) hat
      |exact congrArg (fun v:Pt=>D.v (.string (cn (v).1).d)) hat
      |exact congrArg (fun v:Pt=>D.v (.bool (cn (v).2).s)) hat
      |exact congrArg (fun v:Pt=>D.v (.string (cn (v).2).a)) hat
      |exact congrArg (fun v:Pt=>D.v (.string (cn (v).2).d)) hat
      |exact congrArg (fun v:Pt=>D.v (.bool (cn (v).1).s)) hat.symm
      |exact congrArg (fun v:Pt=>D.v (.string (cn (v).1).a)) hat.symm
      |exact congrArg (fun v:Pt=>D.v (.string (cn (v).1).d)) hat.symm
      |exact congrArg (fun v:Pt=>D.v (.bool (cn (v).2).s)) hat.symm
      |exact congrArg (fun v:Pt=>D.v (.string (cn (v).2).a)) hat.symm
      |exact congrArg (fun v:Pt=>D.v (.string (cn (v).2).d)) hat.symm
      |exact congrArg (fun n:Int=>D.v (.int .i64 n)) (by rw [wrap64 _ (by omega) (by omega)];omega)
      |exact congrArg (fun n:Int=>D.v (.int .i64 n)) (by omega)
  ·have f18:¬ ((i:Int)< ((List.map ptD L).length:Int)):=of_decide_eq_false e2
   refine Eq.trans (b:= .val (.one (.d (.list (List.map ptD (osN L i)))))) ?_ rfl
   obtain rfl:i=L.length:=by omega
   rw [Zjb h0 g2]
end
end Go.Proofs.YtncoimmjjfmhdaaGreatDoor.eng
namespace Go.Proofs.YtncoimmjjfmhdaaGreatDoor.eng
open Go.RowKit num mem seg q held ratA ratB ratC ratD ratE vars ratF prf
section
variable {K : AV → Prop}
open poly (Pt)
open hull (wrapL)
theorem Zi6 (l:List (RV×RV)) (hl:∀ p,p∈l→p.1.z≤16777216∧p.2.z≤16777216) (hn:l.length≤1048576):Spec Tryz.prog Tab 13 [.val (.one (.d (.list (List.map rdv l))))] (.tup [.one (.d (.list (List.map ptD (hOut l)))),.one (.d (.v (.int .i64 (hErr l))))]):=by
 have hL:(List.map rdv l).length=l.length:=List.length_map ..
 have hql:=Zep l
 refine Zh Tryz.func13 rfl rfl Tryz.ntmps13 rfl (by kernel_rfl) rfl rfl ?_
 refine⟨fun e1=> ?_,fun e1=> ?_⟩
 ·have f10:((List.map rdv l).length:Int) >64:=of_decide_eq_true e1
  refine Eq.trans (b:= .tup [.one (.d (.list ([]))),.one (.d (.v (.int .i64 (2))))]) ?_ rfl
  rw [ZhI (by omega),ZhJ (by omega)]
  rfl
 ·have f10:¬ (((List.map rdv l).length:Int) >64):=of_decide_eq_false e1
  refine⟨Nat,fun i=> [(4,.val (.one (.row 26 0))),(11,.val (.one (.d (.list (List.map rdv l))))),(12,int ((List.map rdv l).length:Int)),(13,int (i:Int))],
   fun i=> [(26,.row 26 6 0 (List.map ptD ((qpts l).take i)) true)],fun i=>i≤l.length,fun i=>l.length - i,0,?_,Nat.zero_le _,fun i hs=> ?_⟩
  ·constructor<;>(repeat' (first|exact rfl|exact True.intro|exact⟨_,_,rfl⟩|exact(by decide)|apply And.intro))
   all_goals first|exact congrArg (fun n:Int=>D.v (.int .i64 n)) (by omega)|exact congrArg (fun n:Int=>D.v (.int .i64 n)) (by rw [wrap64 _ (by omega) (by omega)];omega)|(simp;done)
  have hX:(List.map ptD ((qpts l).take i)).length=i:=by rw [List.length_map,List.length_take];omega
  refine⟨fun e2=> ?_,fun e2=> ?_⟩
  ·have f14:(i:Int)< ((List.map rdv l).length:Int):=of_decide_eq_true e2
   refine Z9 (l:=l) (i:=i) (by first|omega|exact Nat.mod_lt _ (by omega)) fun x15 hx15=> ?_
   have hzx15:=hl x15 (List.mem_of_getElem? hx15)
   have hzax15:=hzx15.1
   have hzbx15:=hzx15.2
   refine k_ix i [D.v (.bool x15.1.s),D.v (.string x15.1.a),D.v (.string x15.1.d),D.v (.bool x15.2.s),D.v (.string x15.2.a),D.v (.string x15.2.d)] (by first|rfl|omega|(rw [wrap64 _ (by omega) (by omega)];omega)|(rw [wrap64 _ (by omega) (by omega)];split<;>omega)) (Zw hx15) rfl ?_
   refine Zgz (x:=x15.1) (by omega) (fun q20 hk_20_1 hk_20_2=> ?_)
   simp only [cn_z] at hk_20_2
   refine Zgz (x:=x15.2) (by omega) (fun q23 hk_23_1 hk_23_2=> ?_)
   simp only [cn_z] at hk_23_2
   refine⟨⟨row1 rfl,(by show ((List.map ptD ((qpts l).take i)).length+1)*80≤_;omega),(by show ((List.map ptD ((qpts l).take i)).length+1)≤_;omega)⟩,?_⟩
   refine⟨by kernel_rfl,?_⟩
   obtain rfl:q20=x15.1.q:=by rw [hk_20_1]
   obtain rfl:q23=x15.2.q:=by rw [hk_23_1]
   have hqx:(qpts l)[i]? =some (x15.1.q,x15.2.q):=by unfold qpts;rw [List.getElem?_map,hx15];rfl
   refine⟨i+1,by omega,by simp only;omega,?_⟩
   constructor<;>(repeat' (first|exact rfl|exact True.intro|apply And.intro))
   all_goals first
    |(rw [List.take_add_one,hqx,List.map_append];rfl)
    |exact congrArg (fun n:Int=>D.v (.int .i64 n)) (by rw [wrap64 _ (by omega) (by omega)];omega)
    |exact congrArg (fun n:Int=>D.v (.int .i64 n)) (by omega)
  ·have f14:¬ ((i:Int)< ((List.map rdv l).length:Int)):=of_decide_eq_false e2
   obtain rfl:i=l.length:=by omega
   have hW:=Zlx (qpts l) (ZjY hl) (by omega)
   have eW:List.map ptD ((qpts l).take l.length)=List.map ptD (qpts l):=by rw [← hql,List.take_length]
   rw [← eW] at hW
   refine use hW rfl ?_
   have hWl:(List.map ptD (wrapL (qpts l))).length=(wrapL (qpts l)).length:=List.length_map ..
   refine⟨fun e3=> ?_,fun e3=> ?_⟩
   ·have f32:((List.map ptD (wrapL (qpts l))).length:Int)< 3:=of_decide_eq_true e3
    refine Eq.trans (b:= .tup [.one (.d (.list ([]))),.one (.d (.v (.int .i64 (3))))]) ?_ rfl
    rw [ZeD (by omega),ZeE (by omega) (by omega)]
    rfl
   ·have f32:¬ (((List.map ptD (wrapL (qpts l))).length:Int)< 3):=of_decide_eq_false e3
    refine Eq.trans (b:= .tup [.one (.d (.list (List.map ptD (wrapL (qpts l))))),.one (.d (.v (.int .i64 (0))))]) ?_ rfl
    rw [ZgC (by omega) (by omega),ZgD (by omega) (by omega)]
end
end Go.Proofs.YtncoimmjjfmhdaaGreatDoor.eng
