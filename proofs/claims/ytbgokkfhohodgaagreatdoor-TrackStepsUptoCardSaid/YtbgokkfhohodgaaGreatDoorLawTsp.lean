/- Contracts of track.Each; gantlaw3.TrackSteps: it returns true. Printed by wip/gp_tsp.py. -/
import Derived.Test.YtbgokkfhohodgaaGreatDoorGrp5
import Derived.Test.YtbgokkfhohodgaaGreatDoorGrpg
set_option maxRecDepth 100000
namespace Go.Proofs.YtbgokkfhohodgaaGreatDoor.eng
open Go.RowKit num mem seg q held ratA ratB ratC ratD ratE vars ratF argopen
section
variable {K : AV → Prop}
def cntT (t:List (Int×List RV)):Nat:=
 match t[0]?,t[t.length - 1]? with
 |some x,some y=>(y.1 - x.1+1).toNat
 |_,_=>0
def tk0 (t:List (Int×List RV)):Int:=
 match t[0]? with
 |some x=>x.1
 |none=>0
def stepD (t:List (Int×List RV)) (i:Nat):List D:= [.v (.int .i64 (tk0 t+(i:Int))),.list (List.map rdc (atL t (tk0 t+(i:Int))))]
def stepsT (t:List (Int×List RV)):List (List D):=(List.range (cntT t)).map (stepD t)
theorem ZaH (t:List (Int×List RV)):(stepsT t).length=cntT t:=by simp [stepsT]
theorem Zdd {t:List (Int×List RV)} {i:Nat} (h:i< cntT t):(stepsT t)[i]? =some (stepD t i):=by simp [stepsT,h]
theorem ZhN {t:List (Int×List RV)} {i:Nat} {ds:List D} (h:(stepsT t)[i]? =some ds):i< cntT t∧ds=stepD t i:=by
 have h1:i< cntT t:=by have:=(List.getElem?_eq_some_iff.1 h).1;rwa [ZaH] at this
 rw [Zdd h1] at h
 exact⟨h1,(Option.some.inj h).symm⟩
theorem ZlD {t:List (Int×List RV)} {x y:Int×List RV} (hx:t[0]? =some x) (hy:t[t.length - 1]? =some y):cntT t=(y.1 - x.1+1).toNat:=by simp only [cntT,hx,hy]
theorem ZhF {t:List (Int×List RV)} {x:Int×List RV} (hx:t[0]? =some x):tk0 t=x.1:=by simp only [tk0,hx]
theorem Zi6 {t:List (Int×List RV)} (ht:tz t) (h:t.length≠0) {G:Prop} (k:∀ x y:Int×List RV,t[0]? =some x→t[t.length - 1]? =some y→(-9223372036854775808≤x.1∧x.1≤9223372036854775807)→(-9223372036854775808≤y.1∧y.1≤9223372036854775807)→
  tk0 t=x.1→cntT t=(y.1 - x.1+1).toNat→G):G:=by
 have h1:0< t.length:=by omega
 have h2:t.length - 1< t.length:=by omega
 have e1:=List.getElem?_eq_getElem h1
 have e2:=List.getElem?_eq_getElem h2
 exact k _ _ e1 e2 (ht.2 _ (List.getElem_mem h1)).1 (ht.2 _ (List.getElem_mem h2)).1 (ZhF e1) (ZlD e1 e2)
theorem Zcp {t:List (Int×List RV)} (h:t.length=0):cntT t=0:=by
 have:t= []:=List.eq_nil_of_length_eq_zero h
 subst this;rfl
set_option maxHeartbeats 2000000 in
theorem ZfS (t:List (Int×List RV)) (ht:tz t):SeqSpec Tryz.prog Tab 60 [[D.list (List.map keyD t)]] (stepsT t):=by
 have hL:(List.map keyD t).length=t.length:=List.length_map ..
 have hT:=ht.1
 refine fn_Y [27] Tryz.func60 rfl rfl Tryz.ntmps60 rfl (by kernel_rfl) rfl fun l=> ?_
 refine⟨fun e1=> ?_,fun e1=> ?_⟩
 ·have f6:((List.map keyD t).length:Int)=0:=Zcf e1
  exact .inl (congrArg some (by rw [ZaH];first|exact(Zcp (by omega)).symm|omega))
 ·have f6:¬ (((List.map keyD t).length:Int)=0):=Zcg e1
  refine Zi6 ht (by omega) fun x y hx hy bx by_ he hc=> ?_
  refine ZM (l:=t) (i:=0) (by first|omega|exact Nat.mod_lt _ (by omega)) fun x8 hx8=> ?_
  have hv8:x8.1=x.1:=congrArg Prod.fst (Option.some.inj (hx8.symm.trans hx))
  refine k_ix 0 [D.v (.int .i64 (x8.1)),D.list (List.map rd x8.2)] (by first|rfl|omega|(rw [wrap64 _ (by omega) (by omega)];omega)|(rw [wrap64 _ (by omega) (by omega)];split<;>omega)) (Zp hx8) rfl ?_
  refine⟨Nat,fun i=> [(0,.val (.one (.d (.v (.func (.yield l) #[] #[]))))),(1,.val (.one (.ref [D.list (List.map keyD t)]))),(3,int (x.1+(i:Int)))],
   fun i=> [],fun i=>some i,fun i=>i≤cntT t,fun i=>cntT t - i,0,?_,rfl,Nat.zero_le _,fun i hs=> ?_⟩
  ·constructor<;>(repeat' (first|exact rfl|exact True.intro|exact⟨_,_,rfl⟩|exact(by decide)|apply And.intro))
   all_goals first
    |exact congrArg (fun n:Int=>D.v (.int .i64 n)) (by rw [hv8];simp;done)
    |(simp;done)
  refine ZM (l:=t) (i:=(t.length - 1)) (by first|omega|exact Nat.mod_lt _ (by omega)) fun x16 hx16=> ?_
  have hv16:x16.1=y.1:=congrArg Prod.fst (Option.some.inj (hx16.symm.trans hy))
  refine k_ix (t.length - 1) [D.v (.int .i64 (x16.1)),D.list (List.map rd x16.2)] (by first|rfl|omega|(rw [wrap64 _ (by omega) (by omega)];omega)|(rw [wrap64 _ (by omega) (by omega)];split<;>omega)) (Zp hx16) rfl ?_
  refine⟨fun e2=> ?_,fun e2=> ?_⟩
  ·have f19:(x.1+(i:Int))≤x16.1:=of_decide_eq_true e2
   refine⟨rfl,?_⟩
   refine Zmv (t:=t) ((x.1+(i:Int))) rfl ht (by omega) ?_
   refine⟨rfl,by kernel_rfl,rfl,i, [D.v (.int .i64 ((x.1+(i:Int)))),D.list (List.map rdc (atL t (x.1+(i:Int))))],rfl,(by rw [Zdd (by omega)];simp only [stepD,he]),rfl,?_,?_⟩
   ·refine⟨fun e3=> ?_,fun e3=> ?_⟩
    ·have f32:(x.1+(i:Int))=9223372036854775807:=Zcf e3
     exact .inl (congrArg some (by rw [ZaH];first|exact(Zcp (by omega)).symm|omega))
    ·have f32:¬ ((x.1+(i:Int))=9223372036854775807):=Zcg e3
     refine⟨i+1,by omega,by simp only;omega,rfl,?_⟩
     constructor<;>(repeat' (first|exact rfl|exact True.intro|apply And.intro))
     all_goals first
      |exact congrArg (fun n:Int=>D.v (.int .i64 n)) (by rw [wrap64 _ (by omega) (by omega)];omega)
      |exact congrArg (fun n:Int=>D.v (.int .i64 n)) (by omega)
   ·refine⟨fun _=> ?_,fun e=>absurd e (by decide)⟩
    exact .inr rfl
  ·have f19:¬ ((x.1+(i:Int))≤x16.1):=of_decide_eq_false e2
   exact .inl (congrArg some (by rw [ZaH];first|exact(Zcp (by omega)).symm|omega))
def tkl (t:List (Int×List RV)):Int:=
 match t[t.length - 1]? with
 |some x=>x.1
 |none=>0
theorem ZhE {t:List (Int×List RV)} {x:Int×List RV} (hx:t[t.length - 1]? =some x):tkl t=x.1:=by simp only [tkl,hx]
theorem ZmC {t:List (Int×List RV)} (ht:tz t):(t.length=0∧cntT t=0)∨(0< t.length∧-9223372036854775808≤tk0 t∧tk0 t≤9223372036854775807∧-9223372036854775808≤tkl t∧tkl t≤9223372036854775807∧cntT t=(tkl t - tk0 t+1).toNat):=by
 by_cases h:t.length=0
 ·exact .inl ⟨h,Zcp h⟩
 ·refine Zi6 ht h fun x y hx hy bx by_ he hc=> .inr ⟨by omega,?_⟩
  rw [ZhE hy,he]
  exact⟨bx.1,bx.2,by_.1,by_.2,hc⟩
theorem ZgK {t:List (Int×List RV)} {ds:List D} (h:ds∈stepsT t):ds.length=2:=by
 obtain⟨i,_,rfl⟩:=List.mem_map.1 h
 rfl
theorem Zhp (t:List (Int×List RV)):Spec Tryz.prog Tab 13 [.val (.one (.d (.list (List.map keyD t))))] (.val (.one (.d (.fn 60 [[D.list (List.map keyD t)]])))):=by
 refine Ze Tryz.func13 rfl rfl Tryz.ntmps13 rfl (by kernel_rfl) rfl rfl ?_
 refine⟨[(1,.val (.one (.ref [D.list (List.map keyD t)])))], [],?_,?_⟩
 ·constructor<;>(repeat' (first|exact rfl|exact True.intro|exact⟨_,_,rfl⟩|exact(by decide)|apply And.intro))
 refine Eq.trans (b:= .val (.one (.d (.fn 60 [[D.list (List.map keyD t)]])))) ?_ rfl
 rfl
set_option maxHeartbeats 8000000 in
theorem Zcu (t:List (Int×List RV)) (ht:tz t):Spec Tryz.prog Tab 4 [.val (.one (.d (.list (List.map keyD t))))] (bool true):=by
 have hL:(List.map keyD t).length=t.length:=List.length_map ..
 have hT:=ht.1
 have hE:=ZmC ht
 refine fn_R Tryz.func4 rfl rfl Tryz.ntmps4 rfl (by kernel_rfl) rfl rfl ?_
 refine Zko ?_
 refine⟨fun e=>absurd e (by decide),fun _=> ?_⟩
 refine use (Zhp t) rfl ?_
 refine⟨by kernel_rfl,60, [[D.list (List.map keyD t)]],stepsT t, [(1,.val (.one (.ptr 1 0))),(2,.val (.one (.ptr 2 0))),(3,.val (.one (.ptr 3 0))),(9,.val (.one (.d (.fn 60 [[D.list (List.map keyD t)]]))))],
  Nat,fun i=> [(1,.var 35 [.d (.list (List.map keyD t))]),(2,.var 4 [.d (.v (.bool false))]),(3,.var 3 [.d (.v (.int .i64 ((i:Int))))])],fun i k=>i=k∧k< 100,0,rfl,(ZfS t ht),(fun ds h=>ZgK h),Zl6 (by kernel_rfl),?_,⟨rfl,by decide⟩,fun i k ds hds hs=> ?_,fun i hs=> ?_⟩
 ·constructor<;>(repeat' (first|exact rfl|exact True.intro|exact⟨_,_,rfl⟩|exact(by decide)|apply And.intro))
  all_goals first
   |exact congrArg (fun n:Int=>D.v (.int .i64 n)) (by rw [wrap64 _ (by omega) (by omega)];omega)
   |exact congrArg (fun n:Int=>D.v (.int .i64 n)) (by omega)
   |(simp;done)
 ·obtain⟨rfl,hk⟩:=hs
  obtain⟨hlt,rfl⟩:=ZhN hds
  have hw36:IntKind.i64.wrap ((tk0 t+(i:Int)) - (i:Int))=tk0 t:=by rw [wrap64 _ (by omega) (by omega)];omega
  have hw48:IntKind.i64.wrap ((i:Int)+1)=(i:Int)+1:=wrap64 _ (by omega) (by omega)
  refine fork (fun e1=> ?_) (fun e1=> ?_)
  ·have f15:((List.map keyD t).length:Int)=0:=Zcf e1
   exfalso
   omega
  ·have f15:¬ (((List.map keyD t).length:Int)=0):=Zcg e1
   refine ZM (l:=t) (i:=(t.length - 1)) (by first|omega|exact Nat.mod_lt _ (by omega)) fun x21 hx21=> ?_
   have hv21:x21.1=tkl t:=(ZhE hx21).symm
   refine k_ix (t.length - 1) [D.v (.int .i64 (x21.1)),D.list (List.map rd x21.2)] (by first|rfl|omega|(rw [wrap64 _ (by omega) (by omega)];omega)|(rw [wrap64 _ (by omega) (by omega)];split<;>omega)) (Zp hx21) rfl ?_
   refine fork (fun e2=> ?_) (fun e2=> ?_)
   ·have f26:(tk0 t+(i:Int)) >x21.1:=of_decide_eq_true e2
    exfalso
    omega
   ·have f26:¬ ((tk0 t+(i:Int)) >x21.1):=of_decide_eq_false e2
    refine ZM (l:=t) (i:=0) (by first|omega|exact Nat.mod_lt _ (by omega)) fun x31 hx31=> ?_
    have hv31:x31.1=tk0 t:=(ZhF hx31).symm
    refine k_ix 0 [D.v (.int .i64 (x31.1)),D.list (List.map rd x31.2)] (by first|rfl|omega|(rw [wrap64 _ (by omega) (by omega)];omega)|(rw [wrap64 _ (by omega) (by omega)];split<;>omega)) (Zp hx31) rfl ?_
    refine fork (fun e3=> ?_) (fun e3=> ?_)
    ·have f36:IntKind.i64.wrap ((tk0 t+(i:Int)) - (i:Int))≠x31.1:=Zc3 e3
     exfalso
     rw [hw36] at f36;omega
    ·have f36:¬ (IntKind.i64.wrap ((tk0 t+(i:Int)) - (i:Int))≠x31.1):=fun hh=>hh (Zc4 e3)
     refine Znb (t:=t) ((tk0 t+(i:Int))) rfl ht (by omega) ?_
     refine Zmy (atL t (tk0 t+(i:Int))) rfl (fun q hq=>Nat.le_trans ((ZlJ ht (by omega)).1 q hq) (by decide)) (Nat.le_trans (ZlJ ht (by omega)).2 (by decide)) ?_
     refine Zgl (l:=atL t (tk0 t+(i:Int))) (m:=atL t (tk0 t+(i:Int))) rfl rfl rfl (Nat.le_trans (ZlJ ht (by omega)).2 (by decide)) ?_
     refine⟨by kernel_rfl,?_⟩
     refine⟨fun e=>absurd e (by decide),fun _=> ?_⟩
     refine⟨fun e4=> ?_,fun e4=> ?_⟩
     ·have f48:IntKind.i64.wrap ((i:Int)+1)=100:=Zcf e4
      refine⟨[(1,.var 35 [.d (.list (List.map keyD t))]),(2,.var 4 [.d (.v (.bool (true)))]),(3,.var 3 [.d (.v (.int .i64 (IntKind.i64.wrap ((i:Int)+1))))])],?_,?_⟩
      ·constructor<;>(repeat' (first|exact rfl|exact True.intro|exact⟨_,_,rfl⟩|exact(by decide)|apply And.intro))
       all_goals first
        |exact congrArg (fun n:Int=>D.v (.int .i64 n)) (by rw [wrap64 _ (by omega) (by omega)];omega)
        |exact congrArg (fun n:Int=>D.v (.int .i64 n)) (by omega)
        |(simp;done)
      ·refine Eq.trans (b:=bool true) ?_ rfl
       rfl
     ·have f48:¬ (IntKind.i64.wrap ((i:Int)+1)=100):=Zcg e4
      rw [hw48] at f48
      refine⟨i+1,⟨rfl,by omega⟩,?_⟩
      constructor<;>(repeat' (first|exact rfl|exact True.intro|exact⟨_,_,rfl⟩|exact(by decide)|apply And.intro))
      all_goals first
       |exact congrArg (fun n:Int=>D.v (.int .i64 n)) (by rw [wrap64 _ (by omega) (by omega)];omega)
       |exact congrArg (fun n:Int=>D.v (.int .i64 n)) (by omega)
       |(simp;done)
 ·obtain⟨hi,hk⟩:=hs
  rw [ZaH] at hi hk
  refine fork (fun e5=> ?_) (fun e5=> ?_)
  ·have f52:((List.map keyD t).length:Int)=0:=Zcf e5
   refine fork (fun e6=> ?_) (fun e6=> ?_)
   ·have f56:(i:Int)=0:=Zcf e6
    refine⟨by kernel_rfl,?_⟩
    refine Eq.trans (b:=bool true) ?_ rfl
    rfl
   ·have f56:¬ ((i:Int)=0):=Zcg e6
    exfalso
    omega
  ·have f52:¬ (((List.map keyD t).length:Int)=0):=Zcg e5
   refine fork (fun e7=> ?_) (fun e7=> ?_)
   ·have f60:((List.map keyD t).length:Int) >0:=of_decide_eq_true e7
    refine ZM (l:=t) (i:=0) (by first|omega|exact Nat.mod_lt _ (by omega)) fun x62 hx62=> ?_
    have hv62:x62.1=tk0 t:=(ZhF hx62).symm
    refine k_ix 0 [D.v (.int .i64 (x62.1)),D.list (List.map rd x62.2)] (by first|rfl|omega|(rw [wrap64 _ (by omega) (by omega)];omega)|(rw [wrap64 _ (by omega) (by omega)];split<;>omega)) (Zp hx62) rfl ?_
    refine ZM (l:=t) (i:=(t.length - 1)) (by first|omega|exact Nat.mod_lt _ (by omega)) fun x69 hx69=> ?_
    have hv69:x69.1=tkl t:=(ZhE hx69).symm
    refine k_ix (t.length - 1) [D.v (.int .i64 (x69.1)),D.list (List.map rd x69.2)] (by first|rfl|omega|(rw [wrap64 _ (by omega) (by omega)];omega)|(rw [wrap64 _ (by omega) (by omega)];split<;>omega)) (Zp hx69) rfl ?_
    refine fork (fun e8=> ?_) (fun e8=> ?_)
    ·have f73:x62.1 >x69.1:=of_decide_eq_true e8
     refine fork (fun e9=> ?_) (fun e9=> ?_)
     ·have f77:(i:Int)=0:=Zcf e9
      refine⟨by kernel_rfl,?_⟩
      refine Eq.trans (b:=bool true) ?_ rfl
      rfl
     ·have f77:¬ ((i:Int)=0):=Zcg e9
      exfalso
      omega
    ·have f73:¬ (x62.1 >x69.1):=of_decide_eq_false e8
     refine k_ix 0 [D.v (.int .i64 (x62.1)),D.list (List.map rd x62.2)] (by first|rfl|omega|(rw [wrap64 _ (by omega) (by omega)];omega)|(rw [wrap64 _ (by omega) (by omega)];split<;>omega)) (Zp hx62) rfl ?_
     refine k_ix (t.length - 1) [D.v (.int .i64 (x69.1)),D.list (List.map rd x69.2)] (by first|rfl|omega|(rw [wrap64 _ (by omega) (by omega)];omega)|(rw [wrap64 _ (by omega) (by omega)];split<;>omega)) (Zp hx69) rfl ?_
     refine fork (fun e10=> ?_) (fun e10=> ?_)
     ·have f90:x62.1≤x69.1:=of_decide_eq_true e10
      refine k_ix (t.length - 1) [D.v (.int .i64 (x69.1)),D.list (List.map rd x69.2)] (by first|rfl|omega|(rw [wrap64 _ (by omega) (by omega)];omega)|(rw [wrap64 _ (by omega) (by omega)];split<;>omega)) (Zp hx69) rfl ?_
      refine k_ix 0 [D.v (.int .i64 (x62.1)),D.list (List.map rd x62.2)] (by first|rfl|omega|(rw [wrap64 _ (by omega) (by omega)];omega)|(rw [wrap64 _ (by omega) (by omega)];split<;>omega)) (Zp hx62) rfl ?_
      refine⟨by kernel_rfl,?_⟩
      refine Eq.trans (b:=bool (IntKind.i64.wrap (x69.1 - x62.1)==IntKind.i64.wrap ((i:Int) - 1))) ?_ rfl
      rw [wrap64 _ (by omega) (by omega),wrap64 _ (by omega) (by omega)]
      have e:x69.1 - x62.1=(i:Int) - 1:=by omega
      rw [e]
      simp
     ·have f90:¬ (x62.1≤x69.1):=of_decide_eq_false e10
      exfalso
      omega
   ·have f60:¬ (((List.map keyD t).length:Int) >0):=of_decide_eq_false e7
    exfalso
    omega
theorem trackSteps_walk (v0:Value) (l0:List (Int×List RV)) (N:Nat) (w:World) (_:1≤N) (hN:N≤1048576) (h0:Den w (fun b=>b< w.heap.size) v0 (.list (l0.map keyD))) (u0:trackZ l0 N) (hT:Tab w):
  Calls Tryz.prog 4 #[v0] w fun e w'=>e= .returned (.bool true)∧Below w.heap.size w w':=
 Zc2 (I:=fun b=>b< w.heap.size) (Zcu l0 (ZmY u0 hN)) rfl hT (fun _ h=>h)
  ((Zii (vs:= []) rfl).cons (show DenAV _ _ _ _ v0 (.val (.one (.d (.list _)))) from h0))
end
end Go.Proofs.YtbgokkfhohodgaaGreatDoor.eng
