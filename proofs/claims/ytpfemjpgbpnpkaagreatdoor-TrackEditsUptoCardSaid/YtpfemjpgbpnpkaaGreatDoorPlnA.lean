/- Contracts: planned tracks: timing.Plan; gantref3.Planned. Printed by wip/gp_plan.py. -/
import Derived.Test.YtpfemjpgbpnpkaaGreatDoorGrp4
namespace Go.Proofs.YtpfemjpgbpnpkaaGreatDoor.eng
open Go.RowKit num mem seg q held ratA ratB ratC ratD ratE vars ratF trq
section
variable {K : AV → Prop}
set_option maxHeartbeats 4000000 in
set_option maxRecDepth 100000 in
theorem Zqx (l:List (Int×List Rat)) (hn:l.length≤1048576) (hr:∀ x,x∈l→x.2.length≤1048576):Spec Tryz.prog Tab 73 [.val (.one (.d (.list (List.map keyC l)))),.val (.one (.d (.list (List.map keyC l))))] (bool true):=by
 have hLl:(List.map keyC l).length=l.length:=List.length_map ..
 refine Za Tryz.func73 rfl rfl Tryz.ntmps73 rfl (by kernel_rfl) rfl rfl ?_
 refine⟨fun e1=> ?_,fun e1=> ?_⟩
 ·have f11:((List.map keyC l).length:Int)≠((List.map keyC l).length:Int):=Zv e1
  exfalso
  exact f11 rfl
 ·have f11:¬ (((List.map keyC l).length:Int)≠((List.map keyC l).length:Int)):=fun hh=>hh (Zw e1)
  refine⟨Nat,fun i=> [(0,.val (.one (.d (.list (List.map keyC l))))),(1,.val (.one (.d (.list (List.map keyC l))))),(13,int ((List.map keyC l).length:Int)),(14,int (i:Int))],
   fun i=> [],fun i=>i≤l.length,fun i=>l.length - i,0,?_,Nat.zero_le _,fun i hs=> ?_⟩
  ·constructor<;>(repeat' (first|exact rfl|exact True.intro|exact⟨_,_,rfl⟩|exact(by decide)|apply And.intro))
   all_goals first|exact congrArg (fun n:Int=>D.v (.int .i64 n)) (by omega)|exact congrArg (fun n:Int=>D.v (.int .i64 n)) (by rw [wrap64 _ (by omega) (by omega)];omega)|(simp;done)
  refine⟨fun e2=> ?_,fun e2=> ?_⟩
  ·have f15:(i:Int)< ((List.map keyC l).length:Int):=of_decide_eq_true e2
   refine Zc (l:=l) (i:=i) (by first|omega|exact Nat.mod_lt _ (by omega)) fun x19 hx19=> ?_
   have hrx19:=hr x19 (List.mem_of_getElem? hx19)
   have hLx19:(List.map rdc x19.2).length=x19.2.length:=List.length_map ..
   refine k_ix i [D.v (.int .i64 (x19.1)),D.list (List.map rdc x19.2)] (by first|rfl|omega|(rw [wrap64 _ (by omega) (by omega)];omega)|(rw [wrap64 _ (by omega) (by omega)];split<;>omega)) (Zb hx19) rfl ?_
   refine k_ix i [D.v (.int .i64 (x19.1)),D.list (List.map rdc x19.2)] (by first|rfl|omega|(rw [wrap64 _ (by omega) (by omega)];omega)|(rw [wrap64 _ (by omega) (by omega)];split<;>omega)) (Zb hx19) rfl ?_
   refine fork (fun e3=> ?_) (fun e3=> ?_)
   ·have f28:x19.1≠x19.1:=Zv e3
    exfalso
    exact f28 rfl
   ·have f28:¬ (x19.1≠x19.1):=fun hh=>hh (Zw e3)
    refine k_ix i [D.v (.int .i64 (x19.1)),D.list (List.map rdc x19.2)] (by first|rfl|omega|(rw [wrap64 _ (by omega) (by omega)];omega)|(rw [wrap64 _ (by omega) (by omega)];split<;>omega)) (Zb hx19) rfl ?_
    refine k_ix i [D.v (.int .i64 (x19.1)),D.list (List.map rdc x19.2)] (by first|rfl|omega|(rw [wrap64 _ (by omega) (by omega)];omega)|(rw [wrap64 _ (by omega) (by omega)];split<;>omega)) (Zb hx19) rfl ?_
    refine⟨by kernel_rfl,?_⟩
    refine⟨fun e4=> ?_,fun e4=> ?_⟩
    ·have f42:((List.map rdc x19.2).length:Int)≠((List.map rdc x19.2).length:Int):=Zv e4
     exfalso
     exact f42 rfl
    ·have f42:¬ (((List.map rdc x19.2).length:Int)≠((List.map rdc x19.2).length:Int)):=fun hh=>hh (Zw e4)
     refine k_ix i [D.v (.int .i64 (x19.1)),D.list (List.map rdc x19.2)] (by first|rfl|omega|(rw [wrap64 _ (by omega) (by omega)];omega)|(rw [wrap64 _ (by omega) (by omega)];split<;>omega)) (Zb hx19) rfl ?_
     refine⟨Nat,fun k=> [(0,.val (.one (.d (.list (List.map keyC l))))),(1,.val (.one (.d (.list (List.map keyC l))))),(5,int (i:Int)),(13,int ((List.map keyC l).length:Int)),(14,int (i:Int)),(29,.val (.one (.d (.list (List.map keyC l))))),(30,int (i:Int)),(31,.val (.one (.ref [D.v (.int .i64 (x19.1)),D.list (List.map rdc x19.2)]))),(32,.val (.one (.ref [D.list (List.map rdc x19.2)]))),(33,.val (.one (.d (.list (List.map rdc x19.2))))),(34,int ((List.map rdc x19.2).length:Int)),(35,.val (.one (.d (.list (List.map keyC l))))),(36,int (i:Int)),(37,.val (.one (.ref [D.v (.int .i64 (x19.1)),D.list (List.map rdc x19.2)]))),(38,.val (.one (.ref [D.list (List.map rdc x19.2)]))),(39,.val (.one (.d (.list (List.map rdc x19.2))))),(40,int ((List.map rdc x19.2).length:Int)),(41,bool (((List.map rdc x19.2).length:Int) !=((List.map rdc x19.2).length:Int))),(48,int ((List.map rdc x19.2).length:Int)),(49,int (k:Int))],
      fun k=> [],fun k=>k≤x19.2.length,fun k=>x19.2.length - k,0,?_,Nat.zero_le _,fun k hs=> ?_⟩
     ·constructor<;>(repeat' (first|exact rfl|exact True.intro|exact⟨_,_,rfl⟩|exact(by decide)|apply And.intro))
      all_goals first|exact congrArg (fun n:Int=>D.v (.int .i64 n)) (by omega)|exact congrArg (fun n:Int=>D.v (.int .i64 n)) (by rw [wrap64 _ (by omega) (by omega)];omega)|(simp;done)
     refine⟨fun e5=> ?_,fun e5=> ?_⟩
     ·have f50:(k:Int)< ((List.map rdc x19.2).length:Int):=of_decide_eq_true e5
      refine k_ix i [D.v (.int .i64 (x19.1)),D.list (List.map rdc x19.2)] (by first|rfl|omega|(rw [wrap64 _ (by omega) (by omega)];omega)|(rw [wrap64 _ (by omega) (by omega)];split<;>omega)) (Zb hx19) rfl ?_
      refine Zc (l:=x19.2) (i:=k) (by first|omega|exact Nat.mod_lt _ (by omega)) fun x58 hx58=> ?_
      refine k_ix k [D.v (.bool (cn x58).s),D.v (.string (cn x58).a),D.v (.string (cn x58).d)] (by first|rfl|omega|(rw [wrap64 _ (by omega) (by omega)];omega)|(rw [wrap64 _ (by omega) (by omega)];split<;>omega)) (Zb hx58) rfl ?_
      refine k_ix i [D.v (.int .i64 (x19.1)),D.list (List.map rdc x19.2)] (by first|rfl|omega|(rw [wrap64 _ (by omega) (by omega)];omega)|(rw [wrap64 _ (by omega) (by omega)];split<;>omega)) (Zb hx19) rfl ?_
      refine k_ix k [D.v (.bool (cn x58).s),D.v (.string (cn x58).a),D.v (.string (cn x58).d)] (by first|rfl|omega|(rw [wrap64 _ (by omega) (by omega)];omega)|(rw [wrap64 _ (by omega) (by omega)];split<;>omega)) (Zb hx58) rfl ?_
      refine ZbR rfl ?_
      refine⟨by kernel_rfl,?_⟩
      refine⟨fun e=>absurd e (by decide),fun _=> ?_⟩
      refine⟨k+1,by omega,by simp only;omega,?_⟩
      constructor<;>(repeat' (first|exact rfl|exact True.intro|apply And.intro))
      all_goals first
       |exact congrArg (fun n:Int=>D.v (.int .i64 n)) (by rw [wrap64 _ (by omega) (by omega)];omega)
       |exact congrArg (fun n:Int=>D.v (.int .i64 n)) (by omega)
     ·have f50:¬ ((k:Int)< ((List.map rdc x19.2).length:Int)):=of_decide_eq_false e5
      refine⟨i+1,by omega,by simp only;omega,?_⟩
      constructor<;>(repeat' (first|exact rfl|exact True.intro|apply And.intro))
      all_goals first
       |exact congrArg (fun n:Int=>D.v (.int .i64 n)) (by rw [wrap64 _ (by omega) (by omega)];omega)
       |exact congrArg (fun n:Int=>D.v (.int .i64 n)) (by omega)
  ·have f15:¬ ((i:Int)< ((List.map keyC l).length:Int)):=of_decide_eq_false e2
   refine Eq.trans (b:=bool true) ?_ rfl
   rfl
theorem Zfs {u v:List (List D)} (l:List (Int×List Rat)) (hu:u=List.map keyC l) (hv:v=List.map keyC l) (hn:l.length≤1048576) (hr:∀ x,x∈l→x.2.length≤1048576) (k:K (bool true)):Ask 73 [.val (.one (.d (.list u))),.val (.one (.d (.list v)))] K:=by
 subst hu hv;exact use (Zqx l hn hr) rfl k
end
end Go.Proofs.YtpfemjpgbpnpkaaGreatDoor.eng
