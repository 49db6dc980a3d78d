/- gantlaw1.SweepTells returns true. Printed by wip/gp_swt.py. -/
import Derived.Test.YtncoimmjjfmhdaaGreatDoorGrpSw
import Derived.Test.YtncoimmjjfmhdaaGreatDoorLawHul
set_option maxRecDepth 100000
namespace Go.Proofs.YtncoimmjjfmhdaaGreatDoor.eng
open Go.RowKit num mem seg q held ratA ratB ratC ratD ratE vars ratF trq prf
section
variable {K : AV → Prop}
open poly (Pt)
theorem ZbK (x:RV):Spec Tryz.prog Tab 17 [rat x] (pair x x):=by
 refine Zh Tryz.func17 rfl rfl Tryz.ntmps17 rfl (by kernel_rfl) rfl rfl ?_
 exact rfl
theorem ZnB (m:List (Rat×Rat)) (a:Rat):qpts (alP (cvl m) (cn a) z0 (cvl m).length)=m++m.map fun p=>(p.1+a,p.2+0):=by
 unfold qpts alP mvP cvl
 rw [List.take_length,List.map_append,List.map_map,List.map_map,List.map_map]
 congr 1
 ·conv=>rhs;rw [← List.map_id m]
  refine List.map_congr_left fun p _=> ?_
  simp only [Function.comp,cn_q,id]
 ·refine List.map_congr_left fun p _=> ?_
  simp only [Function.comp,cn_q,z0q]
theorem al_c:(aOut (cvl (sqL 0 0 1)) (cn ((2:Int):Rat)) z0).length=4∧aErr (cvl (sqL 0 0 1)) (cn ((2:Int):Rat)) z0=0:=by
 have hc:convE 64 (cvl (sqL 0 0 1))=0:=ZbX.2 ⟨by decide,by decide,by rw [ZgM];exact ZhT (by decide+kernel)⟩
 have hl:(alP (cvl (sqL 0 0 1)) (cn ((2:Int):Rat)) z0 (cvl (sqL 0 0 1)).length).length=8:=by rw [Zca _ _ _ (Nat.le_refl _)];rfl
 have hw:(hull.wrapL (qpts (alP (cvl (sqL 0 0 1)) (cn ((2:Int):Rat)) z0 (cvl (sqL 0 0 1)).length))).length=4:=by rw [ZnB];decide+kernel
 rw [show aOut (cvl (sqL 0 0 1)) (cn ((2:Int):Rat)) z0=hOut _ from if_pos hc,show aErr (cvl (sqL 0 0 1)) (cn ((2:Int):Rat)) z0=hErr _ from if_pos hc,ZgC (by rw [hl];decide) (by rw [hw];decide),ZgD (by rw [hl];decide) (by rw [hw];decide)]
 exact⟨hw,rfl⟩
theorem ZnT {L M:List Pt} (e:L=M) (hn:L.length≤1048576) (k:K (bool true)):Ask 14 [.val (.one (.d (.list (List.map ptD L)))),.val (.one (.d (.list (List.map ptD M))))] K:=by
 subst e;exact use (ZiS L hn) rfl k
def flT (f:Nat→Rat×Rat) (n:Nat):List Rat:=(List.range n).flatMap fun i=> [(f i).1,(f i).2]
theorem Zbg (f:Nat→Rat×Rat) (n:Nat):flT f (n+1)=flT f n++ [(f n).1,(f n).2]:=by simp [flT,List.range_succ]
theorem ZeG (f:Nat→Rat×Rat):∀ n,(flT f n).length=2*n
 |0=>rfl
 |n+1=>by rw [Zbg,List.length_append,ZeG f n];simp;omega
theorem ZkT {f:Nat→Rat×Rat} {B:Nat} (hf:∀ i,qs (f i).1≤B∧qs (f i).2≤B):∀ n q,q∈flT f n→qs q≤B
 |0,q,h=>by simp [flT] at h
 |n+1,q,h=>by
  rw [Zbg] at h
  rcases List.mem_append.1 h with h|h
  ·exact ZkT hf n q h
  ·simp only [List.mem_cons,List.not_mem_nil,or_false] at h
   rcases h with rfl|rfl
   ·exact(hf n).1
   ·exact(hf n).2
theorem ZkU {f:Nat→Rat×Rat} (hf:∀ i,sle (f i).1 (f i).2):∀ n,lowL (f 0).1 (flT f n)=(jn f n).1
 |0=>rfl
 |n+1=>by
  have ih:=ZkU hf n
  have h:=hf n
  rw [Zbg]
  unfold lowL at ih ⊢
  rw [List.foldl_append,ih]
  show lowF (lowF (jn f n).1 (f n).1) (f n).2=minQ (jn f n).1 (f n).1
  rw [← Zbq,← Zbq]
  unfold sle minQ at*;grind
theorem ZhM {f:Nat→Rat×Rat} (hf:∀ i,sle (f i).1 (f i).2):∀ n,highL (f 0).1 (flT f (n+1))=(jn f (n+1)).2
 |0=>by
  have h:=hf 0
  show highF (highF (f 0).1 (f 0).1) (f 0).2=maxQ (f 0).2 (f 0).2
  rw [← Zaj,← Zaj]
  unfold sle maxQ at*;grind
 |n+1=>by
  have ih:=ZhM hf n
  have h:=hf (n+1)
  rw [Zbg]
  unfold highL at ih ⊢
  rw [List.foldl_append,ih]
  show highF (highF (jn f (n+1)).2 (f (n+1)).1) (f (n+1)).2=maxQ (jn f (n+1)).2 (f (n+1)).2
  rw [← Zaj,← Zaj]
  unfold sle maxQ at*;grind
theorem ZkI {f:Nat→Rat×Rat} {n:Nat} (h0:0< n) (hf:∀ i,sle (f i).1 (f i).2) (hz:∀ i,qs (f i).1≤67108864∧qs (f i).2≤67108864) (hn:n≤1048576) (k:∀ p q,p=(jn f n).1→q=(jn f n).2→K (pair (cn p) (cn q))):Ask 21 [.val (.one (.d (.list (List.map rdc (flT f n)))))] K:=by
 obtain⟨m,rfl⟩:∃ m,n=m+1:=⟨n - 1,by omega⟩
 have h2:=ZeG f (m+1)
 obtain⟨r,hr⟩:∃ r,flT f (m+1)=(f 0).1 :: r:=by
  unfold flT;rw [List.range_succ_eq_map];exact⟨_,rfl⟩
 have hlo:=ZkU hf (m+1)
 have hhi:=ZhM hf m
 have hq:=ZkT hz (m+1)
 rw [hr] at hlo hhi hq h2
 rw [hr]
 rw [ZhB] at hlo
 rw [ZfI] at hhi
 exact ZdU 67108864 (by decide) (f 0).1 r rfl hq (by simp at h2;omega) fun p q hp hq _ _=>k p q (hp.trans hlo) (hq.trans hhi)
set_option maxHeartbeats 8000000 in
theorem ZcF (l:List (RV×RV)) (x y u v:RV) (hl:∀ p,p∈l→p.1.z≤1048576∧p.2.z≤1048576) (hn:l.length≤1048576) (hx:x.z≤1048576) (hy:y.z≤1048576) (hu:u.z≤1048576) (hv:v.z≤1048576):Spec Tryz.prog Tab 3 [.val (.one (.d (.list (List.map rdv l)))),pair x y,pair u v] (bool true):=by
 have hL:(List.map rdv l).length=l.length:=List.length_map ..
 have hl1:∀ p,p∈l→p.1.z≤67108864∧p.2.z≤67108864:=fun p hp=>⟨Nat.le_trans (hl p hp).1 (by decide),Nat.le_trans (hl p hp).2 (by decide)⟩
 have hUl:∀ i,sle (uF l u v i).1 (uF l u v i).2:=fun i=>ZmK (ZhZ u v) (Zhd u v) _
 have hVl:∀ i,sle (vF l u v i).1 (vF l u v i).2:=fun i=>ZmJ (ZhZ u v) (Zhd u v) _
 have hUz:=uF_z (l:=l) hl hu hv
 have hVz:=vF_z (l:=l) hl hu hv
 refine Zm7 [83] Tryz.func3 rfl rfl Tryz.ntmps3 rfl (by kernel_rfl) rfl rfl ?_
 refine use (ZcH 0 0 1 (by decide) (by decide) (by decide)) rfl ?_
 refine k_I (2) (by omega) (by omega) fun q32 h32 z32=> ?_
 simp only [cn_z] at z32
 obtain rfl:q32=((2:Int):Rat):=h32
 refine use (Zd9 (cvl (sqL 0 0 1)) (cn ((2:Int):Rat)) z0 (Zo0 (by decide+kernel)) (by decide) (by rw [cn_z];exact Nat.le_trans (Zau (n:=2) (by omega) (by omega)) (by decide)) (by rw [z0z];omega)) rfl ?_
 obtain⟨ac1,ac2⟩:=al_c
 have ac3:(List.map ptD (aOut (cvl (sqL 0 0 1)) (cn ((2:Int):Rat)) z0)).length=4:=by rw [List.length_map,ac1]
 refine fork (fun e1=> ?_) (fun e1=> ?_)
 ·have f39:aErr (cvl (sqL 0 0 1)) (cn ((2:Int):Rat)) z0≠0:=Zdx e1
  exfalso
  exact f39 ac2
 ·have f39:¬ (aErr (cvl (sqL 0 0 1)) (cn ((2:Int):Rat)) z0≠0):=fun hh=>hh (Zdy e1)
  refine fork (fun e2=> ?_) (fun e2=> ?_)
  ·have f44:((List.map ptD (aOut (cvl (sqL 0 0 1)) (cn ((2:Int):Rat)) z0)).length:Int)≠4:=Zdx e2
   exfalso
   omega
  ·have f44:¬ (((List.map ptD (aOut (cvl (sqL 0 0 1)) (cn ((2:Int):Rat)) z0)).length:Int)≠4):=fun hh=>hh (Zdy e2)
   refine Zgy   ?_
   refine⟨fun e=>absurd e (by decide),fun _=> ?_⟩
   refine use (Zd9 l x y hl hn hx hy) rfl ?_
   refine use (ZgV l u v hl hn hu hv) rfl ?_
   refine ZnV (l:=l) (by assumption) (by omega) 64 (fun n61 hk_61_1=> ?_)
   refine⟨fun e3=> ?_,fun e3=> ?_⟩
   ·have f63:n61≠0:=Zdx e3
    have htB:tBx l u v=((z0,z0),(z0,z0)):=if_neg (by rw [← hk_61_1];exact f63)
    refine fork (fun e4=> ?_) (fun e4=> ?_)
    ·have f67:aErr l x y=n61:=ZeO e4
     refine fork (fun e5=> ?_) (fun e5=> ?_)
     ·have f72:convE 64 l=n61:=ZeO e5
      refine fork (fun e6=> ?_) (fun e6=> ?_)
      ·have f77:((List.map ptD (aOut l x y)).length:Int)=0:=ZeO e6
       refine Zc4 (show (tBx l u v).1.1=z0∧(tBx l u v).2.1=z0∧(tBx l u v).1.2=z0∧(tBx l u v).2.2=z0 from by rw [htB];exact⟨rfl,rfl,rfl,rfl⟩) ?_
       refine Eq.trans (b:=bool true) ?_ rfl
       rfl
      ·have f77:¬ (((List.map ptD (aOut l x y)).length:Int)=0):=ZeP e6
       exfalso
       exact f77 (by rw [show aOut l x y= [] from if_neg (by rw [← hk_61_1];exact f63)];rfl)
     ·have f72:¬ (convE 64 l=n61):=ZeP e5
      exfalso
      exact f72 hk_61_1.symm
    ·have f67:¬ (aErr l x y=n61):=ZeP e4
     exfalso
     exact f67 (by rw [hk_61_1];exact if_neg (by rw [← hk_61_1];exact f63))
   ·have f63:¬ (n61≠0):=fun hh=>hh (Zdy e3)
    have hc:convE 64 l=0:=by omega
    obtain⟨c1,c2,_⟩:=ZbX.1 hc
    have htC:tBx l u v=((cn (jn (uF l u v) l.length).1,cn (jn (uF l u v) l.length).2),(cn (jn (vF l u v) l.length).1,cn (jn (vF l u v) l.length).2)):=by rw [show tBx l u v=(jR (uF l u v) l.length,jR (vF l u v) l.length) from if_pos hc,Zmo _ (by omega),Zmo _ (by omega)]
    refine useN (ZgQ l (by omega) (by omega)) ?_
    refine⟨Nat,fun i=> [(0,.val (.one (.d (.list (List.map rdv l))))),(4,.val (.one (.ptr 4 0))),(5,.val (.one (.ptr 5 0))),(9,.val (.one (.d (.list (List.map ptD (aOut l x y)))))),(10,int (aErr l x y)),(11,.val (.one (.ptr 11 0))),(12,int (convE 64 l)),(14,.val (.one (.row 83 0))),(84,.val (.one (.d (.list (List.map rdv l))))),(85,int ((List.map rdv l).length:Int)),(86,int (i:Int))],
     fun i=> [(4,.var 26 [.d (.v (.bool x.s)),.d (.v (.string x.a)),.d (.v (.string x.d)),.d (.v (.bool y.s)),.d (.v (.string y.a)),.d (.v (.string y.d))]),(5,.var 28 [.d (.v (.bool u.s)),.d (.v (.string u.a)),.d (.v (.string u.d)),.d (.v (.bool v.s)),.d (.v (.string v.a)),.d (.v (.string v.d))]),(11,.var 36 [.d (.v (.bool ((tBx l u v).1.1).s)),.d (.v (.string ((tBx l u v).1.1).a)),.d (.v (.string ((tBx l u v).1.1).d)),.d (.v (.bool ((tBx l u v).2.1).s)),.d (.v (.string ((tBx l u v).2.1).a)),.d (.v (.string ((tBx l u v).2.1).d)),.d (.v (.bool ((tBx l u v).1.2).s)),.d (.v (.string ((tBx l u v).1.2).a)),.d (.v (.string ((tBx l u v).1.2).d)),.d (.v (.bool ((tBx l u v).2.2).s)),.d (.v (.string ((tBx l u v).2.2).a)),.d (.v (.string ((tBx l u v).2.2).d))]),(83,.row 26 6 0 (List.map rdv (alP l x y i)) true)],fun i=>i≤l.length,fun i=>l.length - i,0,?_,Nat.zero_le _,fun i hs=> ?_⟩
    ·constructor<;>(repeat' (first|exact rfl|exact True.intro|exact⟨_,_,rfl⟩|exact(by decide)|apply And.intro))
     all_goals first
      |(rw [Zi1];done)
      |(rw [Zi1];rfl)
      |exact congrArg (List.map rdv) (Zi1 l x y)
      |exact congrArg (List.map rdv) (Zi1 l x y).symm
    have hX:(List.map rdv (alP l x y i)).length=l.length+i:=by rw [List.length_map,Zca l x y hs]
    refine⟨fun e8=> ?_,fun e8=> ?_⟩
    ·have f87:(i:Int)< ((List.map rdv l).length:Int):=of_decide_eq_true e8
     refine Z9 (l:=l) (i:=i) (by first|omega|exact Nat.mod_lt _ (by omega)) fun x88 hx88=> ?_
     have hzx88:=hl x88 (List.mem_of_getElem? hx88)
     have hzax88:=hzx88.1
     have hzbx88:=hzx88.2
     refine k_ix i [D.v (.bool x88.1.s),D.v (.string x88.1.a),D.v (.string x88.1.d),D.v (.bool x88.2.s),D.v (.string x88.2.a),D.v (.string x88.2.d)] (by first|rfl|omega|(rw [wrap64 _ (by omega) (by omega)];omega)|(rw [wrap64 _ (by omega) (by omega)];split<;>omega)) (Zw hx88) rfl ?_
     refine ZbQ (x:=x88.1) (y:=x) (by omega) (by omega) fun q95 h95 z95=> ?_
     simp only [cn_z] at z95
     refine ZbQ (x:=x88.2) (y:=y) (by omega) (by omega) fun q100 h100 z100=> ?_
     simp only [cn_z] at z100
     refine⟨⟨row1 rfl,(by show ((List.map rdv (alP l x y i)).length+1)*80≤_;omega),(by show ((List.map rdv (alP l x y i)).length+1)≤_;omega)⟩,?_⟩
     refine⟨by kernel_rfl,?_⟩
     obtain rfl:q95=x88.1.q+x.q:=h95
     obtain rfl:q100=x88.2.q+y.q:=h100
     refine⟨i+1,by omega,by simp only;omega,?_⟩
     constructor<;>(repeat' (first|exact rfl|exact True.intro|apply And.intro))
     all_goals first
      |(rw [Zh9 hx88,List.map_append];rfl)
      |exact congrArg (fun n:Int=>D.v (.int .i64 n)) (by rw [wrap64 _ (by omega) (by omega)];omega)
      |exact congrArg (fun n:Int=>D.v (.int .i64 n)) (by omega)
    ·have f87:¬ ((i:Int)< ((List.map rdv l).length:Int)):=of_decide_eq_false e8
     obtain rfl:i=l.length:=by omega
     refine use (Zi6 (alP l x y l.length) (Zo1 hl hx hy _) (by rw [Zca _ _ _ (Nat.le_refl _)];omega)) rfl ?_
     refine fork (fun e9=> ?_) (fun e9=> ?_)
     ·have f113:aErr l x y≠hErr (alP l x y l.length):=Zdx e9
      exfalso
      exact f113 (if_pos hc)
     ·have f113:¬ (aErr l x y≠hErr (alP l x y l.length)):=fun hh=>hh (Zdy e9)
      refine ZnT (L:=aOut l x y) (M:=hOut (alP l x y l.length)) (if_pos hc) (by have:=Zmr (alP l x y l.length);have:=Zca l x y (Nat.le_refl l.length);rw [show aOut l x y=hOut (alP l x y l.length) from if_pos hc];omega) ?_
      refine⟨fun e10=> ?_,fun e10=> ?_⟩
      ·have f122:convE 64 l≠0:=Zdx e10
       exfalso
       exact f122 hc
      ·have f122:¬ (convE 64 l≠0):=fun hh=>hh (Zdy e10)
       refine ZnS (x:=u) (y:=v) (by omega) (by omega) fun ya124 yb124 ea124 eb124 le124 za124 zb124=> ?_
       refine ZnR (x:=u) (y:=v) (by omega) (by omega) fun ya126 yb126 ea126 eb126 le126 za126 zb126=> ?_
       refine⟨by kernel_rfl,?_⟩
       refine⟨Nat,fun i=> [(11,.val (.one (.ptr 11 0))),(19,.val (.one (.ptr 19 0))),(20,.val (.one (.ptr 20 0))),(21,.val (.one (.row 165 0))),(22,.val (.one (.row 172 0))),(23,fv 17),(127,.val (.one (.d (.list (List.map rdv l))))),(128,int ((List.map rdv l).length:Int)),(129,int (i:Int))],
        fun i=> [(11,.var 36 [.d (.v (.bool ((tBx l u v).1.1).s)),.d (.v (.string ((tBx l u v).1.1).a)),.d (.v (.string ((tBx l u v).1.1).d)),.d (.v (.bool ((tBx l u v).2.1).s)),.d (.v (.string ((tBx l u v).2.1).a)),.d (.v (.string ((tBx l u v).2.1).d)),.d (.v (.bool ((tBx l u v).1.2).s)),.d (.v (.string ((tBx l u v).1.2).a)),.d (.v (.string ((tBx l u v).1.2).d)),.d (.v (.bool ((tBx l u v).2.2).s)),.d (.v (.string ((tBx l u v).2.2).a)),.d (.v (.string ((tBx l u v).2.2).d))]),(19,.var 28 [.d (.v (.bool (cn ya124).s)),.d (.v (.string (cn ya124).a)),.d (.v (.string (cn ya124).d)),.d (.v (.bool (cn yb124).s)),.d (.v (.string (cn yb124).a)),.d (.v (.string (cn yb124).d))]),(20,.var 28 [.d (.v (.bool (cn ya126).s)),.d (.v (.string (cn ya126).a)),.d (.v (.string (cn ya126).d)),.d (.v (.bool (cn yb126).s)),.d (.v (.string (cn yb126).a)),.d (.v (.string (cn yb126).d))]),(165,.row 24 3 0 (List.map rdc (flT (uF l u v) i)) true),(172,.row 24 3 0 (List.map rdc (flT (vF l u v) i)) true)],fun i=>i≤l.length,fun i=>l.length - i,0,?_,Nat.zero_le _,fun i hs=> ?_⟩
       ·constructor<;>(repeat' (first|exact rfl|exact True.intro|exact⟨_,_,rfl⟩|exact(by decide)|apply And.intro))
        all_goals first|exact congrArg (fun n:Int=>D.v (.int .i64 n)) (by omega)|exact congrArg (fun n:Int=>D.v (.int .i64 n)) (by rw [wrap64 _ (by omega) (by omega)];omega)|(simp;done)
       have hX1:(List.map rdc (flT (uF l u v) i)).length=2*i:=by rw [List.length_map,ZeG]
       have hX2:(List.map rdc (flT (vF l u v) i)).length=2*i:=by rw [List.length_map,ZeG]
       refine⟨fun e11=> ?_,fun e11=> ?_⟩
       ·have f130:(i:Int)< ((List.map rdv l).length:Int):=of_decide_eq_true e11
        refine Z9 (l:=l) (i:=i) (by first|omega|exact Nat.mod_lt _ (by omega)) fun x131 hx131=> ?_
        have hzx131:=hl x131 (List.mem_of_getElem? hx131)
        have hzax131:=hzx131.1
        have hzbx131:=hzx131.2
        refine k_ix i [D.v (.bool x131.1.s),D.v (.string x131.1.a),D.v (.string x131.1.d),D.v (.bool x131.2.s),D.v (.string x131.2.a),D.v (.string x131.2.d)] (by first|rfl|omega|(rw [wrap64 _ (by omega) (by omega)];omega)|(rw [wrap64 _ (by omega) (by omega)];split<;>omega)) (Zw hx131) rfl ?_
        refine use (ZbK x131.1) rfl ?_
        refine ZhG (x:=x131.1) (r:=ya124) (u:=yb124) (by assumption) (by omega) (by omega) (by omega) fun ya138 yb138 ea138 eb138 le138 za138 zb138=> ?_
        refine use (ZbK x131.2) rfl ?_
        refine ZhG (x:=x131.2) (r:=ya126) (u:=yb126) (by assumption) (by omega) (by omega) (by omega) fun ya144 yb144 ea144 eb144 le144 za144 zb144=> ?_
        refine ZoU (p:=ya138) (q:=yb138) (r:=ya144) (u:=yb144) (by assumption) (by assumption) (by omega) (by omega) (by omega) (by omega) fun ya145 yb145 ea145 eb145 le145 za145 zb145=> ?_
        refine⟨by kernel_rfl,?_⟩
        refine use (ZbK x131.1) rfl ?_
        refine ZhG (x:=x131.1) (r:=ya126) (u:=yb126) (by assumption) (by omega) (by omega) (by omega) fun ya151 yb151 ea151 eb151 le151 za151 zb151=> ?_
        refine use (ZbK x131.2) rfl ?_
        refine ZhG (x:=x131.2) (r:=ya124) (u:=yb124) (by assumption) (by omega) (by omega) (by omega) fun ya157 yb157 ea157 eb157 le157 za157 zb157=> ?_
        refine ZoV (p:=ya151) (q:=yb151) (r:=ya157) (u:=yb157) (by assumption) (by assumption) (by omega) (by omega) (by omega) (by omega) fun ya158 yb158 ea158 eb158 le158 za158 zb158=> ?_
        refine⟨by kernel_rfl,?_⟩
        refine⟨⟨rown (by simp),(by show ((List.map rdc (flT (uF l u v) i)).length+2)*40≤_;omega),(by show ((List.map rdc (flT (uF l u v) i)).length+2)≤_;omega)⟩,?_⟩
        refine⟨⟨rown (by simp),(by show ((List.map rdc (flT (vF l u v) i)).length+2)*40≤_;omega),(by show ((List.map rdc (flT (vF l u v) i)).length+2)≤_;omega)⟩,?_⟩
        refine⟨by kernel_rfl,?_⟩
        have hxp:ptAt l i=x131:=ZjZ hx131
        have hu1:ya145=(uF l u v i).1:=by unfold uF uAt;rw [hxp];subst_vars;rfl
        have hu2:yb145=(uF l u v i).2:=by unfold uF uAt;rw [hxp];subst_vars;rfl
        have hv1:ya158=(vF l u v i).1:=by unfold vF vAt;rw [hxp];subst_vars;rfl
        have hv2:yb158=(vF l u v i).2:=by unfold vF vAt;rw [hxp];subst_vars;rfl
        refine⟨i+1,by omega,by simp only;omega,?_⟩
        constructor<;>(repeat' (first|exact rfl|exact True.intro|apply And.intro))
        all_goals first
         |(rw [Zbg,List.map_append,← hu1,← hu2];rfl)
         |(rw [Zbg,List.map_append,← hv1,← hv2];rfl)
         |exact congrArg (fun n:Int=>D.v (.int .i64 n)) (by rw [wrap64 _ (by omega) (by omega)];omega)
         |exact congrArg (fun n:Int=>D.v (.int .i64 n)) (by omega)
       ·have f130:¬ ((i:Int)< ((List.map rdv l).length:Int)):=of_decide_eq_false e11
        obtain rfl:i=l.length:=by omega
        refine ZkI (f:=uF l u v) (n:=l.length) (by omega) hUl hUz (by omega) fun p175 q175 ep175 eq175=> ?_
        refine ZkI (f:=vF l u v) (n:=l.length) (by omega) hVl hVz (by omega) fun p177 q177 ep177 eq177=> ?_
        refine Zc4 (show (tBx l u v).1.1=cn p175∧(tBx l u v).2.1=cn p177∧(tBx l u v).1.2=cn q175∧(tBx l u v).2.2=cn q177 from by rw [htC,ep175,ep177,eq175,eq177];exact⟨rfl,rfl,rfl,rfl⟩) ?_
        refine Eq.trans (b:=bool true) ?_ rfl
        rfl
theorem sweepTells_walk (v0:Value) (l:List (RV×RV)) (s10:Bool) (a10 d10:ByteArray) (s11:Bool) (a11 d11:ByteArray) (s20:Bool) (a20 d20:ByteArray) (s21:Bool) (a21 d21:ByteArray) (N:Nat) (w:World) (_:1≤N) (hN:N≤1048576)
  (h0:Den w (fun b=>b< w.heap.size) v0 (.list (l.map rdv))) (l1:l.length≤N) (l2:∀ x,x∈l→x.1.z≤N∧x.2.z≤N)
  (b1:a10.size≤N) (b2:d10.size≤N) (b3:a11.size≤N) (b4:d11.size≤N) (b5:a20.size≤N) (b6:d20.size≤N) (b7:a21.size≤N) (b8:d21.size≤N) (hT:Tab w):
  Calls Tryz.prog 3 #[v0,.agg #[.bool s10,.string a10,.string d10,.bool s11,.string a11,.string d11],.agg #[.bool s20,.string a20,.string d20,.bool s21,.string a21,.string d21]] w fun e w'=>e= .returned (.bool true)∧Below w.heap.size w w':=
 Zdw (I:=fun b=>b< w.heap.size) (ZcF l ⟨s10,a10,d10⟩ ⟨s11,a11,d11⟩ ⟨s20,a20,d20⟩ ⟨s21,a21,d21⟩ (fun x hx=>⟨Nat.le_trans (l2 x hx).1 hN,Nat.le_trans (l2 x hx).2 hN⟩) (Nat.le_trans l1 hN) (by unfold RV.z;simp only;omega) (by unfold RV.z;simp only;omega) (by unfold RV.z;simp only;omega) (by unfold RV.z;simp only;omega)) rfl hT (fun _ h=>h)
  ((Zgk (vs:= [pair ⟨s10,a10,d10⟩ ⟨s11,a11,d11⟩,pair ⟨s20,a20,d20⟩ ⟨s21,a21,d21⟩]) rfl).cons (show DenAV _ _ _ _ v0 (.val (.one (.d (.list _)))) from h0))
end
end Go.Proofs.YtncoimmjjfmhdaaGreatDoor.eng
