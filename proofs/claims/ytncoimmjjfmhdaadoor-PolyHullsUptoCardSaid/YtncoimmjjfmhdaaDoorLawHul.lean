/- gantlaw1.PolyHulls. Printed by wip/gp_hull.py. -/
import Derived.Test.YtncoimmjjfmhdaaDoorGrpHc
set_option maxRecDepth 100000
namespace Go.Proofs.YtncoimmjjfmhdaaDoor.eng
open Go.RowKit num mem seg q held ratA ratB ratC ratD ratE vars ratF prf
section
variable {K : AV → Prop}
open poly (Pt)
theorem Zg0 (L:List Pt) (hn:L.length≤1048576):Spec Tryd.prog Tab 8 [.val (.one (.d (.list (List.map ptD L)))),.val (.one (.d (.list (List.map ptD L))))] (bool true):=by
 have hLl:(List.map ptD L).length=L.length:=List.length_map ..
 refine Zt Tryd.func8 rfl rfl Tryd.ntmps8 rfl (by kernel_rfl) rfl rfl ?_
 refine⟨fun e1=> ?_,fun e1=> ?_⟩
 ·have f10:((List.map ptD L).length:Int)≠((List.map ptD L).length:Int):=Zk6 e1
  exfalso
  exact f10 rfl
 ·have f10:¬ (((List.map ptD L).length:Int)≠((List.map ptD L).length:Int)):=fun hh=>hh (Zk7 e1)
  refine⟨Nat,fun i=> [(0,.val (.one (.d (.list (List.map ptD L))))),(1,.val (.one (.d (.list (List.map ptD L))))),(12,int ((List.map ptD L).length:Int)),(13,int (i:Int))],
   fun i=> [],fun i=>i≤L.length,fun i=>L.length - i,0,?_,Nat.zero_le _,fun i hs=> ?_⟩
  ·constructor<;>(repeat' (first|exact rfl|exact True.intro|exact⟨_,_,rfl⟩|exact(by decide)|apply And.intro))
   all_goals first|exact congrArg (fun n:Int=>D.v (.int .i64 n)) (by omega)|exact congrArg (fun n:Int=>D.v (.int .i64 n)) (by rw [wrap64 _ (by omega) (by omega)];omega)|(simp;done)
  refine⟨fun e2=> ?_,fun e2=> ?_⟩
  ·have f14:(i:Int)< ((List.map ptD L).length:Int):=of_decide_eq_true e2
   refine Zan (l:=L) (i:=i) (by first|omega|exact Nat.mod_lt _ (by omega)) fun x18 hx18=> ?_
   refine k_ix i [D.v (.bool (cn x18.1).s),D.v (.string (cn x18.1).a),D.v (.string (cn x18.1).d),D.v (.bool (cn x18.2).s),D.v (.string (cn x18.2).a),D.v (.string (cn x18.2).d)] (by first|rfl|omega|(rw [wrap64 _ (by omega) (by omega)];omega)|(rw [wrap64 _ (by omega) (by omega)];split<;>omega)) (ZD hx18) rfl ?_
   refine k_ix i [D.v (.bool (cn x18.1).s),D.v (.string (cn x18.1).a),D.v (.string (cn x18.1).d),D.v (.bool (cn x18.2).s),D.v (.string (cn x18.2).a),D.v (.string (cn x18.2).d)] (by first|rfl|omega|(rw [wrap64 _ (by omega) (by omega)];omega)|(rw [wrap64 _ (by omega) (by omega)];split<;>omega)) (ZD hx18) rfl ?_
   refine Zfh ⟨rfl,rfl⟩ ?_
   refine⟨by kernel_rfl,?_⟩
   refine⟨fun e=>absurd e (by decide),fun _=> ?_⟩
   refine⟨i+1,by omega,by simp only;omega,?_⟩
   constructor<;>(repeat' (first|exact rfl|exact True.intro|apply And.intro))
   all_goals first
    |exact congrArg (fun n:Int=>D.v (.int .i64 n)) (by rw [wrap64 _ (by omega) (by omega)];omega)
    |exact congrArg (fun n:Int=>D.v (.int .i64 n)) (by omega)
  ·have f14:¬ ((i:Int)< ((List.map ptD L).length:Int)):=of_decide_eq_false e2
   refine Eq.trans (b:=bool true) ?_ rfl
   rfl
theorem ZjO (l:List (RV×RV)):(hOut l).length≤64∨(hOut l).length≤l.length:=by
 unfold hOut
 split
 ·exact .inl (by simp)
 ·right
  have:(hull.wrapL (qpts l)).length≤(qpts l).length:=by
   unfold hull.wrapL
   split
   ·simp
   ·have key:∀ (n:Nat) (a:Pt),(hull.wrapGo (qpts l) (hull.firstP (qpts l)) n a).length≤n:=by
     intro n
     induction n with
     |zero=>intro a;exact Nat.le_refl _
     |succ n ih=>
      intro a
      rw [hull.wrapGo]
      split
      ·simp
      ·have:=ih (hull.wnext (qpts l) a);simp only [List.length_cons];omega
    exact key _ _
  rwa [Zdu] at this
theorem ZcF (l:List (RV×RV)) (hl:∀ p,p∈l→p.1.z≤1048576∧p.2.z≤1048576) (hn:l.length≤1048576):Spec Tryd.prog Tab 3 [.val (.one (.d (.list (List.map rdv l))))] (bool true):=by
 have hl1:∀ p,p∈l→p.1.z≤16777216∧p.2.z≤16777216:=fun p hp=>⟨Nat.le_trans (hl p hp).1 (by decide),Nat.le_trans (hl p hp).2 (by decide)⟩
 have hol:=ZjO l
 refine Zt Tryd.func3 rfl rfl Tryd.ntmps3 rfl (by kernel_rfl) rfl rfl ?_
 refine Zfg   ?_
 refine⟨fun e=>absurd e (by decide),fun _=> ?_⟩
 refine use (Zi6 l hl1 (by omega)) rfl ?_
 refine use (Zhd l hl1 (by omega)) rfl ?_
 refine fork (fun e1=> ?_) (fun e1=> ?_)
 ·have f22:hErr l=hErr l:=Zg8 e1
  refine use (Zg0 (hOut l) (by omega)) rfl ?_
  refine Eq.trans (b:=bool true) ?_ rfl
  rfl
 ·have f22:¬ (hErr l=hErr l):=Zg9 e1
  exfalso
  exact f22 rfl
theorem polyHulls_walk (v0:Value) (l:List (RV×RV)) (N:Nat) (w:World) (_:1≤N) (hN:N≤1048576)
  (h0:Den w (fun b=>b< w.heap.size) v0 (.list (l.map rdv))) (l1:l.length≤N) (l2:∀ x,x∈l→x.1.z≤N∧x.2.z≤N) (hT:Tab w):
  Calls Tryd.prog 3 #[v0] w fun e w'=>e= .returned (.bool true)∧Below w.heap.size w w':=
 ZcI (I:=fun b=>b< w.heap.size) (ZcF l (fun x hx=>⟨Nat.le_trans (l2 x hx).1 hN,Nat.le_trans (l2 x hx).2 hN⟩) (Nat.le_trans l1 hN)) rfl hT (fun _ h=>h)
  (Rel2.nil.cons (show DenAV _ _ _ _ v0 (.val (.one (.d (.list _)))) from h0))
end
end Go.Proofs.YtncoimmjjfmhdaaDoor.eng
