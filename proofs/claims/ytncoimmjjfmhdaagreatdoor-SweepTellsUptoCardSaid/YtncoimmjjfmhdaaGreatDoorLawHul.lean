/- gantlaw1.PolyHulls. Printed by wip/gp_hull.py. -/
import Derived.Test.YtncoimmjjfmhdaaGreatDoorGrpHc
namespace Go.Proofs.YtncoimmjjfmhdaaGreatDoor.eng
open Go.RowKit num mem seg q held ratA ratB ratC ratD ratE vars ratF prf
section
variable {K : AV → Prop}
open poly (Pt)
set_option maxRecDepth 100000 in
theorem ZiS (L:List Pt) (hn:L.length≤1048576):Spec Tryz.prog Tab 14 [.val (.one (.d (.list (List.map ptD L)))),.val (.one (.d (.list (List.map ptD L))))] (bool true):=by
 have hLl:(List.map ptD L).length=L.length:=List.length_map ..
 refine Zh Tryz.func14 rfl rfl Tryz.ntmps14 rfl (by kernel_rfl) rfl rfl ?_
 refine⟨fun e1=> ?_,fun e1=> ?_⟩
 ·have f10:((List.map ptD L).length:Int)≠((List.map ptD L).length:Int):=Zdx e1
  exfalso
  exact f10 rfl
 ·have f10:¬ (((List.map ptD L).length:Int)≠((List.map ptD L).length:Int)):=fun hh=>hh (Zdy e1)
  refine⟨Nat,fun i=> [(0,.val (.one (.d (.list (List.map ptD L))))),(1,.val (.one (.d (.list (List.map ptD L))))),(12,int ((List.map ptD L).length:Int)),(13,int (i:Int))],
   fun i=> [],fun i=>i≤L.length,fun i=>L.length - i,0,?_,Nat.zero_le _,fun i hs=> ?_⟩
  ·constructor<;>(repeat' (first|exact rfl|exact True.intro|exact⟨_,_,rfl⟩|exact(by decide)|apply And.intro))
   all_goals first|exact congrArg (fun n:Int=>D.v (.int .i64 n)) (by omega)|exact congrArg (fun n:Int=>D.v (.int .i64 n)) (by rw [wrap64 _ (by omega) (by omega)];omega)|(simp;done)
  refine⟨fun e2=> ?_,fun e2=> ?_⟩
  ·have f14:(i:Int)< ((List.map ptD L).length:Int):=of_decide_eq_true e2
   refine Z9 (l:=L) (i:=i) (by first|omega|exact Nat.mod_lt _ (by omega)) fun x18 hx18=> ?_
   refine k_ix i [D.v (.bool (cn x18.1).s),D.v (.string (cn x18.1).a),D.v (.string (cn x18.1).d),D.v (.bool (cn x18.2).s),D.v (.string (cn x18.2).a),D.v (.string (cn x18.2).d)] (by first|rfl|omega|(rw [wrap64 _ (by omega) (by omega)];omega)|(rw [wrap64 _ (by omega) (by omega)];split<;>omega)) (Zw hx18) rfl ?_
   refine k_ix i [D.v (.bool (cn x18.1).s),D.v (.string (cn x18.1).a),D.v (.string (cn x18.1).d),D.v (.bool (cn x18.2).s),D.v (.string (cn x18.2).a),D.v (.string (cn x18.2).d)] (by first|rfl|omega|(rw [wrap64 _ (by omega) (by omega)];omega)|(rw [wrap64 _ (by omega) (by omega)];split<;>omega)) (Zw hx18) rfl ?_
   refine ZgA ⟨rfl,rfl⟩ ?_
   refine⟨by kernel_rfl,?_⟩
   refine⟨fun e=>absurd e (by decide),fun _=> ?_⟩
   refine⟨i+1,by omega,by simp only;omega,?_⟩
   constructor<;>(repeat' (first|exact rfl|exact True.intro|apply And.intro))
   all_goals first
    |exact congrArg (fun n:Int=>D.v (.int .i64 n)) (by rw [wrap64 _ (by omega) (by omega)];omega)
    |exact congrArg (fun n:Int=>D.v (.int .i64 n)) (by omega)
  ·have f14:¬ ((i:Int)< ((List.map ptD L).length:Int)):=of_decide_eq_false e2
   refine Eq.trans (b:=bool true) ?_ rfl
   rfl
theorem Zmr (l:List (RV×RV)):(hOut l).length≤64∨(hOut l).length≤l.length:=by
 unfold hOut
 split
 ·exact .inl (by simp)
 ·right
  have:(hull.wrapL (qpts l)).length≤(qpts l).length:=by
   unfold hull.wrapL
   split
   ·simp
   ·have key:∀ (n:Nat) (a:Pt),(hull.wrapGo (qpts l) (hull.firstP (qpts l)) n a).length≤n:=by
     intro n
     induction n with
     |zero=>intro a;exact Nat.le_refl _
     |succ n ih=>
      intro a
      rw [hull.wrapGo]
      split
      ·simp
      ·have:=ih (hull.wnext (qpts l) a);simp only [List.length_cons];omega
    exact key _ _
  rwa [Zep] at this
end
end Go.Proofs.YtncoimmjjfmhdaaGreatDoor.eng
