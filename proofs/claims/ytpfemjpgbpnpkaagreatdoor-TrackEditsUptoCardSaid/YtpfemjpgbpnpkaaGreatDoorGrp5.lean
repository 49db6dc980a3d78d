/- Joined by wip/bundle.py: XEdtA XLawTck XLawTat XEdtR. -/
import Derived.Test.YtpfemjpgbpnpkaaGreatDoorPlnA
import Derived.Test.YtpfemjpgbpnpkaaGreatDoorEdt0
import Derived.Test.YtpfemjpgbpnpkaaGreatDoorGrp3
import Derived.Test.YtpfemjpgbpnpkaaGreatDoorGrp2
import Derived.Test.YtpfemjpgbpnpkaaGreatDoorGrpX
import Derived.Test.YtpfemjpgbpnpkaaGreatDoorOpenA
set_option maxRecDepth 100000
namespace Go.Proofs.YtpfemjpgbpnpkaaGreatDoor.eng
open Go.RowKit num mem seg q held ratA ratB ratC ratD ratE vars ratF argopen trq
section
variable {K : AV → Prop}
def tz1 (t:List (Int×List RV)):Prop:=t.length≤1048576∧∀ k,k∈t→(-9223372036854775808≤k.1∧k.1≤9223372036854775807)∧k.2.length≤1048576∧∀ x,x∈k.2→x.z≤1048576
theorem Zbd {t:List (Int×List RV)} (h:tz1 t):tz t:=⟨h.1,fun k hk=>⟨(h.2 k hk).1,(h.2 k hk).2.1,fun x hx=>Nat.le_trans ((h.2 k hk).2.2 x hx) (by decide)⟩⟩
theorem ZgF {t u:List (Int×List RV)} (h:tz1 t) (g:tz1 u) (hl:t.length≤60) (gl:u.length≤60):tz1 (t++u):=by
 refine⟨by rw [List.length_append];omega,fun k hk=> ?_⟩
 rcases List.mem_append.1 hk with a|a
 ·exact h.2 k a
 ·exact g.2 k a
theorem ZvQ {t:List (Int×List RV)} (h:tz1 t):tz (t.map gcK):=by
 refine⟨by rw [List.length_map];exact h.1,fun k hk=> ?_⟩
 obtain⟨y,hy,rfl⟩:=List.mem_map.1 hk
 refine⟨(h.2 y hy).1,by show (((qsL y.2).map cn)).length≤_;rw [ZtY];exact(h.2 y hy).2.1,fun x hx=> ?_⟩
 obtain⟨q,hq,rfl⟩:=List.mem_map.1 (show x∈(qsL y.2).map cn from hx)
 obtain⟨z,hz,rfl⟩:=List.mem_map.1 (show q∈List.map RV.q y.2 from hq)
 have:=z.z1
 have:=(h.2 y hy).2.2 z hz
 rw [cn_z];omega
theorem ZeF {t:List (Int×List RV)} {i:Nat} {x:Int×List RV} (h:t[i]? =some x):List.map keyC (List.map gdK (t.take (i+1)))=List.map keyC (List.map gdK (t.take i))++ [keyC (gdK x)]:=by
 rw [List.take_add_one,h,List.map_append,List.map_append];rfl
theorem keysG (l:List (Int×List RV)):List.map keyC (List.map gdK l)=List.map keyD (l.map gcK):=by
 rw [Zr6,show List.map cnK (List.map gdK l)=l.map gcK from by rw [List.map_map];rfl]
theorem len60 {A:ArmV} {t:List (Int×List RV)} (h:trackE A t=0):t.length≤60:=by have:=(Zcn h).2.2.1;omega
def fuAV {α:Type} (d:Nat) (f:List D):List α→AV
 | []=> .val (.one (.full [f]))
 |_ :: _=> .val (.one (.row d 0))
def fuOb {α:Type} (T n:Nat) (g:α→List D) (d:Nat) (f:List D):List α→List (Nat×Ob)
 | []=> []
 |m :: M=> [(d,.row T n 0 ([f]++List.map g (m :: M)) true)]
def iD (n:Int):List D:= [.v (.int .i64 n)]
theorem Zpi {A:ArmV} {t u:List (Int×List RV)} {v:List (List D)} (hv:v=List.map keyC (List.map gdK t)++List.map keyC (List.map gdK u)) (hA:A.ok) (ht:tz1 t) (hu:tz1 u) (hl:t.length≤60) (gl:u.length≤60) (k:∀ n,n=trackE A (t++u)→K (int n)):Ask 164 [.val (.agg [.d (.v (.string A.name)),.d (.v (.bool A.bx.s)),.d (.v (.string A.bx.a)),.d (.v (.string A.bx.d)),.d (.v (.bool A.by'.s)),.d (.v (.string A.by'.a)),.d (.v (.string A.by'.d)),.d (.v (.bool (A.bh))),.d (.v (.bool A.bt.s)),.d (.v (.string A.bt.a)),.d (.v (.string A.bt.d)),.d (.list (List.map lk A.links))]),.val (.one (.d (.list v)))] K:=by
 subst hv
 rw [show List.map keyC (List.map gdK t)++List.map keyC (List.map gdK u)=List.map keyD ((t++u).map gcK) from by rw [keysG,keysG,List.map_append,List.map_append]]
 exact use (ZfL A _ hA (ZvQ (ZgF ht hu hl gl))) rfl (k _ (ZqT A _))
theorem Zi2 (t:List (Int×List RV)) (ht:tz1 t):Spec Tryz.prog Tab 165 [.val (.one (.d (.list (List.map keyD t))))] (.val (.one (.d (.list (List.map keyC (List.map gdK t)))))):=by
 have hLt:(List.map keyD t).length=t.length:=List.length_map ..
 have ht1:=ht.1
 refine Za Tryz.func165 rfl rfl Tryz.ntmps165 rfl (by kernel_rfl) rfl rfl ?_
 refine⟨Nat,fun i=> [(3,.val (.one (.row 20 0))),(6,.val (.one (.d (.list (List.map keyD t))))),(7,int ((List.map keyD t).length:Int)),(8,int (i:Int))],
  fun i=> [(20,.row 123 2 0 (List.map keyC (List.map gdK (t.take i))) true)],fun i=>i≤t.length,fun i=>t.length - i,0,?_,Nat.zero_le _,fun i hs=> ?_⟩
 ·constructor<;>(repeat' (first|exact rfl|exact True.intro|exact⟨_,_,rfl⟩|exact(by decide)|apply And.intro))
  all_goals first|exact congrArg (fun n:Int=>D.v (.int .i64 n)) (by omega)|exact congrArg (fun n:Int=>D.v (.int .i64 n)) (by rw [wrap64 _ (by omega) (by omega)];omega)|(simp;done)
 have hT:(List.map keyC (List.map gdK (t.take i))).length≤1048576:=by rw [List.length_map,List.length_map,List.length_take];omega
 refine⟨fun e1=> ?_,fun e1=> ?_⟩
 ·have f9:(i:Int)< ((List.map keyD t).length:Int):=of_decide_eq_true e1
  refine Zc (l:=t) (i:=i) (by first|omega|exact Nat.mod_lt _ (by omega)) fun x10 hx10=> ?_
  have hzx10:=ht.2 x10 (List.mem_of_getElem? hx10)
  refine k_ix i [D.v (.int .i64 (x10.1)),D.list (List.map rd x10.2)] (by first|rfl|omega|(rw [wrap64 _ (by omega) (by omega)];omega)|(rw [wrap64 _ (by omega) (by omega)];split<;>omega)) (Zb hx10) rfl ?_
  refine Zcv (l:=x10.2) (fun x hx=>Nat.le_trans (hzx10.2.2 x hx) (by decide)) hzx10.2.1 ?_
  refine⟨⟨row1 rfl,(by show ((List.map keyC (List.map gdK (t.take i))).length+1)*32≤_;omega),(by show ((List.map keyC (List.map gdK (t.take i))).length+1)≤_;omega)⟩,?_⟩
  refine⟨by kernel_rfl,?_⟩
  refine⟨i+1,by omega,by simp only;omega,?_⟩
  constructor<;>(repeat' (first|exact rfl|exact True.intro|apply And.intro))
  all_goals first
   |(rw [ZeF hx10];rfl)
   |exact congrArg (fun n:Int=>D.v (.int .i64 n)) (by rw [wrap64 _ (by omega) (by omega)];omega)
   |exact congrArg (fun n:Int=>D.v (.int .i64 n)) (by omega)
 ·have f9:¬ ((i:Int)< ((List.map keyD t).length:Int)):=of_decide_eq_false e1
  refine Eq.trans (b:= .val (.one (.d (.list (List.map keyC (List.map gdK (t.take i))))))) ?_ rfl
  rw [List.take_of_length_le (by omega)]
theorem ZhF (t:List (Int×List RV)) (ht:tz1 t):SpecR Tryz.prog Tab 165 [.val (.one (.d (.list (List.map keyD t))))] 123 2 (List.map keyC (List.map gdK t)):=by
 have hLt:(List.map keyD t).length=t.length:=List.length_map ..
 have ht1:=ht.1
 refine Zlh Tryz.func165 rfl rfl Tryz.ntmps165 rfl (by kernel_rfl) rfl rfl ?_
 refine⟨Nat,fun i=> [(3,.val (.one (.row 20 0))),(6,.val (.one (.d (.list (List.map keyD t))))),(7,int ((List.map keyD t).length:Int)),(8,int (i:Int))],
  fun i=> [(20,.row 123 2 0 (List.map keyC (List.map gdK (t.take i))) true)],fun i=>i≤t.length,fun i=>t.length - i,0,?_,Nat.zero_le _,fun i hs=> ?_⟩
 ·constructor<;>(repeat' (first|exact rfl|exact True.intro|exact⟨_,_,rfl⟩|exact(by decide)|apply And.intro))
  all_goals first|exact congrArg (fun n:Int=>D.v (.int .i64 n)) (by omega)|exact congrArg (fun n:Int=>D.v (.int .i64 n)) (by rw [wrap64 _ (by omega) (by omega)];omega)|(simp;done)
 have hT:(List.map keyC (List.map gdK (t.take i))).length≤1048576:=by rw [List.length_map,List.length_map,List.length_take];omega
 refine⟨fun e1=> ?_,fun e1=> ?_⟩
 ·have f9:(i:Int)< ((List.map keyD t).length:Int):=of_decide_eq_true e1
  refine Zc (l:=t) (i:=i) (by first|omega|exact Nat.mod_lt _ (by omega)) fun x10 hx10=> ?_
  have hzx10:=ht.2 x10 (List.mem_of_getElem? hx10)
  refine k_ix i [D.v (.int .i64 (x10.1)),D.list (List.map rd x10.2)] (by first|rfl|omega|(rw [wrap64 _ (by omega) (by omega)];omega)|(rw [wrap64 _ (by omega) (by omega)];split<;>omega)) (Zb hx10) rfl ?_
  refine Zcv (l:=x10.2) (fun x hx=>Nat.le_trans (hzx10.2.2 x hx) (by decide)) hzx10.2.1 ?_
  refine⟨⟨row1 rfl,(by show ((List.map keyC (List.map gdK (t.take i))).length+1)*32≤_;omega),(by show ((List.map keyC (List.map gdK (t.take i))).length+1)≤_;omega)⟩,?_⟩
  refine⟨by kernel_rfl,?_⟩
  refine⟨i+1,by omega,by simp only;omega,?_⟩
  constructor<;>(repeat' (first|exact rfl|exact True.intro|apply And.intro))
  all_goals first
   |(rw [ZeF hx10];rfl)
   |exact congrArg (fun n:Int=>D.v (.int .i64 n)) (by rw [wrap64 _ (by omega) (by omega)];omega)
   |exact congrArg (fun n:Int=>D.v (.int .i64 n)) (by omega)
 ·have f9:¬ ((i:Int)< ((List.map keyD t).length:Int)):=of_decide_eq_false e1
  have hfin:Ob.row 123 2 0 (List.map keyC (List.map gdK (t.take i))) true=Ob.row 123 2 0 (List.map keyC (List.map gdK t)) true:=by rw [List.take_of_length_le (by omega)]
  exact hfin
theorem Zsa {t:List (Int×List RV)} (ht:tz1 t) (k:K (.val (.one (.d (.list (List.map keyC (List.map gdK t))))))):Ask 165 [.val (.one (.d (.list (List.map keyD t))))] K:=use (Zi2 t ht) rfl k
theorem Zio {t:List (Int×List RV)} (ht:tz1 t) (k:K (.new 123 2 (List.map keyC (List.map gdK t)))):Ask 165 [.val (.one (.d (.list (List.map keyD t))))] K:=useN (ZhF t ht) k
set_option maxHeartbeats 4000000 in
theorem ZmQ (A:ArmV) (t u:List (Int×List RV)) (hA:A.ok) (ht:tz1 t) (hu:tz1 u):Spec Tryz.prog Tab 69 [.val (.agg [.d (.v (.string A.name)),.d (.v (.bool A.bx.s)),.d (.v (.string A.bx.a)),.d (.v (.string A.bx.d)),.d (.v (.bool A.by'.s)),.d (.v (.string A.by'.a)),.d (.v (.string A.by'.d)),.d (.v (.bool (A.bh))),.d (.v (.bool A.bt.s)),.d (.v (.string A.bt.a)),.d (.v (.string A.bt.d)),.d (.list (List.map lk A.links))]),.val (.one (.d (.list (List.map keyD t)))),.val (.one (.d (.list (List.map keyD u))))] (.tup [.one (.d (.list (List.map keyC (joinV A t u)))),.one (.d (.v (.int .i64 (joinE A t u))))]):=by
 have hA2:=hA
 refine Za Tryz.func69 rfl rfl Tryz.ntmps69 rfl (by kernel_rfl) rfl rfl ?_
 refine⟨Nat,fun i=> [(1,.val (.one (.d (.list (List.map keyD t))))),(2,.val (.one (.d (.list (List.map keyD u))))),(3,.val (.one (.ptr 3 0))),(15,.val (.one (.full ([[D.list (List.map keyD t)], [D.list (List.map keyD u)]])))),(16,int 2),(17,int (i:Int))],
  fun i=> [(3,.var 32 [.d (.v (.string A.name)),.d (.v (.bool A.bx.s)),.d (.v (.string A.bx.a)),.d (.v (.string A.bx.d)),.d (.v (.bool A.by'.s)),.d (.v (.string A.by'.a)),.d (.v (.string A.by'.d)),.d (.v (.bool (A.bh))),.d (.v (.bool A.bt.s)),.d (.v (.string A.bt.a)),.d (.v (.string A.bt.d)),.d (.list (List.map lk A.links))])],fun i=>i≤2∧(0< i→trackE A t=0)∧(1< i→trackE A u=0),fun i=>2 - i,0,?_,⟨Nat.zero_le _,fun h=>absurd h (by decide),fun h=>absurd h (by decide)⟩,fun i hs=> ?_⟩
 ·constructor<;>(repeat' (first|exact rfl|exact True.intro|exact⟨_,_,rfl⟩|exact(by decide)|apply And.intro))
  all_goals first|exact congrArg (fun n:Int=>D.v (.int .i64 n)) (by omega)|exact congrArg (fun n:Int=>D.v (.int .i64 n)) (by rw [wrap64 _ (by omega) (by omega)];omega)|(simp;done)
 obtain⟨g1,h1,h2⟩:=hs
 refine⟨fun e1=> ?_,fun e1=> ?_⟩
 ·have f18:(i:Int)< 2:=of_decide_eq_true e1
  rcases (show i=0∨i=1 by omega) with rfl|rfl
  ·refine k_ix 0 [D.list (List.map keyD t)] (by first|rfl|omega|(rw [wrap64 _ (by omega) (by omega)];omega)|(rw [wrap64 _ (by omega) (by omega)];split<;>omega)) rfl rfl ?_
   refine ZdA (A:=A) (t:=t) (by assumption) (Zbd ht) fun n23 hk_23_1=> ?_
   refine⟨fun e2=> ?_,fun e2=> ?_⟩
   ·have f25:n23≠0:=Zv e2
    refine Eq.trans (b:= .tup [.one (.d (.list ([]))),.one (.d (.v (.int .i64 (n23))))]) ?_ rfl
    have hno:¬ trackE A t=0:=by rw [← hk_23_1];exact f25
    have hE:=ZjO (u:=u) hno
    rw [Zcw (by rw [hE];exact hno),hE,← hk_23_1]
    all_goals rfl
   ·have f25:¬ (n23≠0):=fun hh=>hh (Zw e2)
    refine⟨0+1,⟨by omega,fun _=>by rw [← hk_23_1];exact Classical.not_not.1 f25,fun h=>absurd h (by decide)⟩,by simp only;omega,?_⟩
    constructor<;>(repeat' (first|exact rfl|exact True.intro|apply And.intro))
    all_goals first
     |exact congrArg (fun n:Int=>D.v (.int .i64 n)) (by rw [wrap64 _ (by omega) (by omega)];omega)
     |exact congrArg (fun n:Int=>D.v (.int .i64 n)) (by omega)
  ·have ht0:=h1 (by decide)
   refine k_ix 1 [D.list (List.map keyD u)] (by first|rfl|omega|(rw [wrap64 _ (by omega) (by omega)];omega)|(rw [wrap64 _ (by omega) (by omega)];split<;>omega)) rfl rfl ?_
   refine ZdA (A:=A) (t:=u) (by assumption) (Zbd hu) fun n23 hk_23_1=> ?_
   refine⟨fun e3=> ?_,fun e3=> ?_⟩
   ·have f25:n23≠0:=Zv e3
    refine Eq.trans (b:= .tup [.one (.d (.list ([]))),.one (.d (.v (.int .i64 (n23))))]) ?_ rfl
    have hno:¬ trackE A u=0:=by rw [← hk_23_1];exact f25
    have hE:=ZjN ht0 hno
    rw [Zcw (by rw [hE];exact hno),hE,← hk_23_1]
    all_goals rfl
   ·have f25:¬ (n23≠0):=fun hh=>hh (Zw e3)
    refine⟨1+1,⟨by omega,fun _=>ht0,fun _=>by rw [← hk_23_1];exact Classical.not_not.1 f25⟩,by simp only;omega,?_⟩
    constructor<;>(repeat' (first|exact rfl|exact True.intro|apply And.intro))
    all_goals first
     |exact congrArg (fun n:Int=>D.v (.int .i64 n)) (by rw [wrap64 _ (by omega) (by omega)];omega)
     |exact congrArg (fun n:Int=>D.v (.int .i64 n)) (by omega)
 ·have f18:¬ ((i:Int)< 2):=of_decide_eq_false e1
  have ht0:=h1 (by omega)
  have hu0:=h2 (by omega)
  refine Zio (t:=t) ht ?_
  refine Zsa (t:=u) hu ?_
  refine⟨⟨(Zbk fun _=>rfl),(by show ((List.map keyC (List.map gdK t)).length+(List.map keyC (List.map gdK u)).length)*32≤_;(simp only [List.length_map];have:=len60 ht0;have:=len60 hu0;omega)),(by show ((List.map keyC (List.map gdK t)).length+(List.map keyC (List.map gdK u)).length)≤_;(simp only [List.length_map];have:=len60 ht0;have:=len60 hu0;omega))⟩,?_⟩
  refine Zpi (A:=A) (t:=t) (u:=u) rfl (by assumption) ht hu (len60 ht0) (len60 hu0) fun n35 hk_35_1=> ?_
  refine⟨fun e4=> ?_,fun e4=> ?_⟩
  ·have f37:n35≠0:=Zv e4
   refine Eq.trans (b:= .tup [.one (.d (.list ([]))),.one (.d (.v (.int .i64 (n35))))]) ?_ rfl
   have hE:=Zfu ht0 hu0
   have hno:¬ trackE A (t++u)=0:=by rw [← hk_35_1];exact f37
   rw [Zcw (by rw [hE];exact hno),hE,← hk_35_1]
   all_goals rfl
  ·have f37:¬ (n35≠0):=fun hh=>hh (Zw e4)
   refine Eq.trans (b:= .tup [.one (.d (.list (List.map keyC (List.map gdK t)++List.map keyC (List.map gdK u)))),.one (.d (.v (.int .i64 (0))))]) ?_ rfl
   have hE:=Zfu ht0 hu0
   have hE0:joinE A t u=0:=by rw [hE,← hk_35_1];exact Classical.not_not.1 f37
   rw [Zhg hE0,hE0,List.map_append,List.map_append]
   all_goals rfl
theorem Zu1 {A:ArmV} {t u:List (Int×List RV)} (hA:A.ok) (ht:tz1 t) (hu:tz1 u) (k:∀ n,n=joinE A t u→K (.tup [.one (.d (.list (List.map keyC (joinV A t u)))),.one (.d (.v (.int .i64 n)))])):Ask 69 [.val (.agg [.d (.v (.string A.name)),.d (.v (.bool A.bx.s)),.d (.v (.string A.bx.a)),.d (.v (.string A.bx.d)),.d (.v (.bool A.by'.s)),.d (.v (.string A.by'.a)),.d (.v (.string A.by'.d)),.d (.v (.bool (A.bh))),.d (.v (.bool A.bt.s)),.d (.v (.string A.bt.a)),.d (.v (.string A.bt.d)),.d (.list (List.map lk A.links))]),.val (.one (.d (.list (List.map keyD t)))),.val (.one (.d (.list (List.map keyD u))))] K:=use (ZmQ A t u hA ht hu) rfl (k _ rfl)
set_option maxHeartbeats 8000000 in
theorem Zqu (A:ArmV) (t:List (Int×List RV)) (s e:Int) (hA:A.ok) (ht:tz1 t) (hs:-9223372036854775808≤s∧s≤9223372036854775807) (he:-9223372036854775808≤e∧e≤9223372036854775807):Spec Tryz.prog Tab 70 [.val (.agg [.d (.v (.string A.name)),.d (.v (.bool A.bx.s)),.d (.v (.string A.bx.a)),.d (.v (.string A.bx.d)),.d (.v (.bool A.by'.s)),.d (.v (.string A.by'.a)),.d (.v (.string A.by'.d)),.d (.v (.bool (A.bh))),.d (.v (.bool A.bt.s)),.d (.v (.string A.bt.a)),.d (.v (.string A.bt.d)),.d (.list (List.map lk A.links))]),.val (.one (.d (.list (List.map keyD t)))),int s,int e] (.tup [.one (.d (.list (List.map keyC (tcV A t s e)))),.one (.d (.v (.int .i64 (tcE A t s e))))]):=by
 have hA2:=hA
 have hLt:(List.map keyD t).length=t.length:=List.length_map ..
 refine Za Tryz.func70 rfl rfl Tryz.ntmps70 rfl (by kernel_rfl) rfl rfl ?_
 refine ZdA (A:=A) (t:=t) (by assumption) (Zbd ht) fun n16 hk_16_1=> ?_
 refine⟨fun e1=> ?_,fun e1=> ?_⟩
 ·have f18:n16≠0:=Zv e1
  refine Eq.trans (b:= .tup [.one (.d (.list ([]))),.one (.d (.v (.int .i64 (n16))))]) ?_ rfl
  have hno:¬ trackE A t=0:=by rw [← hk_16_1];exact f18
  obtain⟨e1,e2⟩:=Znx (s:=s) (e:=e) hno
  rw [e1,e2,← hk_16_1]
  all_goals rfl
 ·have f18:¬ (n16≠0):=fun hh=>hh (Zw e1)
  have ht0:trackE A t=0:=by rw [← hk_16_1];exact Classical.not_not.1 f18
  refine fork (fun e2=> ?_) (fun e2=> ?_)
  ·have f22:s< 0:=of_decide_eq_true e2
   refine⟨fun _=> ?_,fun e=>absurd e (by decide)⟩
   refine Eq.trans (b:= .tup [.one (.d (.list ([]))),.one (.d (.v (.int .i64 (1))))]) ?_ rfl
   obtain⟨e1,e2⟩:=Zbf (s:=s) (e:=e) ht0
   have hE:=ZmH (t:=t) (show cutBad s e by unfold cutBad;omega)
   rw [e1,e2,Zcj (by rw [hE];decide),hE]
   all_goals rfl
  ·have f22:¬ (s< 0):=of_decide_eq_false e2
   refine fork (fun e3=> ?_) (fun e3=> ?_)
   ·have f27:e≤s:=of_decide_eq_true e3
    refine⟨fun _=> ?_,fun e=>absurd e (by decide)⟩
    refine Eq.trans (b:= .tup [.one (.d (.list ([]))),.one (.d (.v (.int .i64 (1))))]) ?_ rfl
    obtain⟨e1,e2⟩:=Zbf (s:=s) (e:=e) ht0
    have hE:=ZmH (t:=t) (show cutBad s e by unfold cutBad;omega)
    rw [e1,e2,Zcj (by rw [hE];decide),hE]
    all_goals rfl
   ·have f27:¬ (e≤s):=of_decide_eq_false e3
    refine⟨fun e4=> ?_,fun e4=> ?_⟩
    ·have f30:e >2000:=of_decide_eq_true e4
     refine Eq.trans (b:= .tup [.one (.d (.list ([]))),.one (.d (.v (.int .i64 (1))))]) ?_ rfl
     obtain⟨e1,e2⟩:=Zbf (s:=s) (e:=e) ht0
     have hE:=ZmH (t:=t) (show cutBad s e by unfold cutBad;omega)
     rw [e1,e2,Zcj (by rw [hE];decide),hE]
     all_goals rfl
    ·have f30:¬ (e >2000):=of_decide_eq_false e4
     have hb:¬ cutBad s e:=by unfold cutBad;omega
     have ht1:=len60 ht0
     refine Zsl (t:=t) (s) rfl (Zbd ht) hs ?_
     refine⟨Nat×List (Int×List Rat),fun (i,M)=> [(1,.val (.one (.d (.list (List.map keyD t))))),(2,int s),(3,int e),(11,fuAV 61 [D.v (.int .i64 s),D.list (List.map rdc (atL t s))] M),(37,.val (.one (.d (.list (List.map keyD t))))),(38,int ((List.map keyD t).length:Int)),(39,int (i:Int))],
      fun (i,M)=> []++fuOb 123 2 keyC 61 [D.v (.int .i64 s),D.list (List.map rdc (atL t s))] M,fun (i,M)=>i≤t.length∧M=List.map gdK (cutK (t.take i) s e),fun (i,M)=>t.length - i,(0, []),?_,⟨Nat.zero_le _,rfl⟩,fun s hs=> ?_⟩
     ·constructor<;>(repeat' (first|exact rfl|exact True.intro|exact⟨_,_,rfl⟩|exact(by decide)|apply And.intro))
      all_goals first|exact congrArg (fun n:Int=>D.v (.int .i64 n)) (by omega)|exact congrArg (fun n:Int=>D.v (.int .i64 n)) (by rw [wrap64 _ (by omega) (by omega)];omega)|(simp;done)
     obtain⟨i,M⟩:=s
     obtain⟨g1,hM⟩:=hs
     try simp only at g1 hM
     have hMl:M.length≤i:=by rw [hM,List.length_map];exact Nat.le_trans (Zhp _ s e) (by rw [List.length_take];omega)
     have hMe:M.length=(cutK (t.take i) s e).length:=by rw [hM,List.length_map]
     refine⟨fun e5=> ?_,fun e5=> ?_⟩
     ·have f40:(i:Int)< ((List.map keyD t).length:Int):=of_decide_eq_true e5
      rcases M with _|⟨m,M⟩
      ·simp only [List.length_nil,List.length_cons] at hMe
       refine Zc (l:=t) (i:=i) (by first|omega|exact Nat.mod_lt _ (by omega)) fun x41 hx41=> ?_
       have hzx41:=ht.2 x41 (List.mem_of_getElem? hx41)
       have hxx41:=hx41
       refine k_ix i [D.v (.int .i64 (x41.1)),D.list (List.map rd x41.2)] (by first|rfl|omega|(rw [wrap64 _ (by omega) (by omega)];omega)|(rw [wrap64 _ (by omega) (by omega)];split<;>omega)) (Zb hx41) rfl ?_
       refine fork (fun e6=> ?_) (fun e6=> ?_)
       ·have f47:x41.1 >s:=of_decide_eq_true e6
        refine⟨fun e7=> ?_,fun e7=> ?_⟩
        ·have f52:x41.1< e:=of_decide_eq_true e7
         refine Zcv (l:=x41.2) (fun x hx=>Nat.le_trans (hzx41.2.2 x hx) (by decide)) hzx41.2.1 ?_
         refine⟨⟨Nat.zero_lt_succ _,row1 rfl,row1 rfl,(by show (1+1)*32≤_;omega),(by show 1+1≤_;omega)⟩,?_⟩
         refine⟨by kernel_rfl,?_⟩
         refine⟨(i+1, [gdK x41]),⟨by omega,by rw [Zhq hx41 (by omega),List.map_append,← hM];rfl⟩,by simp only;omega,?_⟩
         constructor<;>(repeat' (first|exact rfl|exact True.intro|apply And.intro))
         all_goals first
          |(simp [keyC,gdK];done)
          |exact congrArg (fun n:Int=>D.v (.int .i64 n)) (by rw [wrap64 _ (by omega) (by omega)];omega)
          |exact congrArg (fun n:Int=>D.v (.int .i64 n)) (by omega)
        ·have f52:¬ (x41.1< e):=of_decide_eq_false e7
         refine⟨(i+1, []),⟨by omega,by rw [Zbq hx41 (by omega)];exact hM⟩,by simp only;omega,?_⟩
         constructor<;>(repeat' (first|exact rfl|exact True.intro|apply And.intro))
         all_goals first
          |(simp [keyC,gdK];done)
          |exact congrArg (fun n:Int=>D.v (.int .i64 n)) (by rw [wrap64 _ (by omega) (by omega)];omega)
          |exact congrArg (fun n:Int=>D.v (.int .i64 n)) (by omega)
       ·have f47:¬ (x41.1 >s):=of_decide_eq_false e6
        refine⟨fun e=>absurd e (by decide),fun _=> ?_⟩
        refine⟨(i+1, []),⟨by omega,by rw [Zbq hx41 (by omega)];exact hM⟩,by simp only;omega,?_⟩
        constructor<;>(repeat' (first|exact rfl|exact True.intro|apply And.intro))
        all_goals first
         |(simp [keyC,gdK];done)
         |exact congrArg (fun n:Int=>D.v (.int .i64 n)) (by rw [wrap64 _ (by omega) (by omega)];omega)
         |exact congrArg (fun n:Int=>D.v (.int .i64 n)) (by omega)
      ·simp only [List.length_nil,List.length_cons] at hMe
       have hT:([[D.v (.int .i64 (s)),D.list (List.map rdc (atL t s))]]++List.map keyC (m :: M)).length≤1048580:=by simp only [List.length_append,List.length_cons,List.length_nil,List.length_map] at hMl ⊢;omega
       refine Zc (l:=t) (i:=i) (by first|omega|exact Nat.mod_lt _ (by omega)) fun x41 hx41=> ?_
       have hzx41:=ht.2 x41 (List.mem_of_getElem? hx41)
       have hxx41:=hx41
       refine k_ix i [D.v (.int .i64 (x41.1)),D.list (List.map rd x41.2)] (by first|rfl|omega|(rw [wrap64 _ (by omega) (by omega)];omega)|(rw [wrap64 _ (by omega) (by omega)];split<;>omega)) (Zb hx41) rfl ?_
       refine fork (fun e8=> ?_) (fun e8=> ?_)
       ·have f47:x41.1 >s:=of_decide_eq_true e8
        refine⟨fun e9=> ?_,fun e9=> ?_⟩
        ·have f52:x41.1< e:=of_decide_eq_true e9
         refine Zcv (l:=x41.2) (fun x hx=>Nat.le_trans (hzx41.2.2 x hx) (by decide)) hzx41.2.1 ?_
         refine⟨⟨row1 rfl,(by show (([[D.v (.int .i64 (s)),D.list (List.map rdc (atL t s))]]++List.map keyC (m :: M)).length+1)*32≤_;omega),(by show (([[D.v (.int .i64 (s)),D.list (List.map rdc (atL t s))]]++List.map keyC (m :: M)).length+1)≤_;omega)⟩,?_⟩
         refine⟨by kernel_rfl,?_⟩
         refine⟨(i+1,(m :: M)++ [gdK x41]),⟨by omega,by rw [Zhq hx41 (by omega),List.map_append,← hM];rfl⟩,by simp only;omega,?_⟩
         constructor<;>(repeat' (first|exact rfl|exact True.intro|apply And.intro))
         all_goals first
          |(simp [keyC,gdK];done)
          |exact congrArg (fun n:Int=>D.v (.int .i64 n)) (by rw [wrap64 _ (by omega) (by omega)];omega)
          |exact congrArg (fun n:Int=>D.v (.int .i64 n)) (by omega)
        ·have f52:¬ (x41.1< e):=of_decide_eq_false e9
         refine⟨(i+1,(m :: M)),⟨by omega,by rw [Zbq hx41 (by omega)];exact hM⟩,by simp only;omega,?_⟩
         constructor<;>(repeat' (first|exact rfl|exact True.intro|apply And.intro))
         all_goals first
          |(simp [keyC,gdK];done)
          |exact congrArg (fun n:Int=>D.v (.int .i64 n)) (by rw [wrap64 _ (by omega) (by omega)];omega)
          |exact congrArg (fun n:Int=>D.v (.int .i64 n)) (by omega)
       ·have f47:¬ (x41.1 >s):=of_decide_eq_false e8
        refine⟨fun e=>absurd e (by decide),fun _=> ?_⟩
        refine⟨(i+1,(m :: M)),⟨by omega,by rw [Zbq hx41 (by omega)];exact hM⟩,by simp only;omega,?_⟩
        constructor<;>(repeat' (first|exact rfl|exact True.intro|apply And.intro))
        all_goals first
         |(simp [keyC,gdK];done)
         |exact congrArg (fun n:Int=>D.v (.int .i64 n)) (by rw [wrap64 _ (by omega) (by omega)];omega)
         |exact congrArg (fun n:Int=>D.v (.int .i64 n)) (by omega)
     ·have f40:¬ ((i:Int)< ((List.map keyD t).length:Int)):=of_decide_eq_false e5
      have hi:i=t.length:=by omega
      rw [List.take_of_length_le (by omega)] at hM hMe
      rcases M with _|⟨m,M⟩
      ·simp only [List.length_nil,List.length_cons] at hMe
       refine Zsl (t:=t) (e) rfl (Zbd ht) he ?_
       refine⟨⟨Nat.zero_lt_succ _,row1 rfl,row1 rfl,(by show (1+1)*32≤_;omega),(by show 1+1≤_;omega)⟩,?_⟩
       refine⟨fun e10=> ?_,fun e10=> ?_⟩
       ·have f73:(([[D.v (.int .i64 (s)),D.list (List.map rdc (atL t s))]]++ [[D.v (.int .i64 (e)),D.list (List.map rdc (atL t e))]]).length:Int) >60:=of_decide_eq_true e10
        refine Eq.trans (b:= .tup [.one (.d (.list ([]))),.one (.d (.v (.int .i64 (2))))]) ?_ rfl
        obtain⟨e1,e2⟩:=Zbf (s:=s) (e:=e) ht0
        simp only [List.length_append,List.length_cons,List.length_nil,List.length_map] at f73
        have hE:=ZsI hb (show 60< (cutK t s e).length+2 by omega)
        rw [e1,e2,Zcj (by rw [hE];decide),hE]
        all_goals rfl
       ·have f73:¬ ((([[D.v (.int .i64 (s)),D.list (List.map rdc (atL t s))]]++ [[D.v (.int .i64 (e)),D.list (List.map rdc (atL t e))]]).length:Int) >60):=of_decide_eq_false e10
        refine Eq.trans (b:= .tup [.one (.d (.list ([[D.v (.int .i64 (s)),D.list (List.map rdc (atL t s))]]++ [[D.v (.int .i64 (e)),D.list (List.map rdc (atL t e))]]))),.one (.d (.v (.int .i64 (0))))]) ?_ rfl
        obtain⟨e1,e2⟩:=Zbf (s:=s) (e:=e) ht0
        simp only [List.length_append,List.length_cons,List.length_nil,List.length_map] at f73
        have hE:=ZsJ hb (show ¬ 60< (cutK t s e).length+2 by omega)
        rw [e1,e2,ZiH hE,hE,cutT,← hM]
        rfl
        all_goals rfl
      ·simp only [List.length_nil,List.length_cons] at hMe
       have hT:([[D.v (.int .i64 (s)),D.list (List.map rdc (atL t s))]]++List.map keyC (m :: M)).length≤1048580:=by simp only [List.length_append,List.length_cons,List.length_nil,List.length_map] at hMl ⊢;omega
       refine Zsl (t:=t) (e) rfl (Zbd ht) he ?_
       refine⟨⟨row1 rfl,(by show (([[D.v (.int .i64 (s)),D.list (List.map rdc (atL t s))]]++List.map keyC (m :: M)).length+1)*32≤_;omega),(by show (([[D.v (.int .i64 (s)),D.list (List.map rdc (atL t s))]]++List.map keyC (m :: M)).length+1)≤_;omega)⟩,?_⟩
       refine⟨fun e11=> ?_,fun e11=> ?_⟩
       ·have f73:(([[D.v (.int .i64 (s)),D.list (List.map rdc (atL t s))]]++List.map keyC (m :: M)++ [[D.v (.int .i64 (e)),D.list (List.map rdc (atL t e))]]).length:Int) >60:=of_decide_eq_true e11
        refine Eq.trans (b:= .tup [.one (.d (.list ([]))),.one (.d (.v (.int .i64 (2))))]) ?_ rfl
        obtain⟨e1,e2⟩:=Zbf (s:=s) (e:=e) ht0
        simp only [List.length_append,List.length_cons,List.length_nil,List.length_map] at f73
        have hE:=ZsI hb (show 60< (cutK t s e).length+2 by omega)
        rw [e1,e2,Zcj (by rw [hE];decide),hE]
        all_goals rfl
       ·have f73:¬ ((([[D.v (.int .i64 (s)),D.list (List.map rdc (atL t s))]]++List.map keyC (m :: M)++ [[D.v (.int .i64 (e)),D.list (List.map rdc (atL t e))]]).length:Int) >60):=of_decide_eq_false e11
        refine Eq.trans (b:= .tup [.one (.d (.list ([[D.v (.int .i64 (s)),D.list (List.map rdc (atL t s))]]++List.map keyC (m :: M)++ [[D.v (.int .i64 (e)),D.list (List.map rdc (atL t e))]]))),.one (.d (.v (.int .i64 (0))))]) ?_ rfl
        obtain⟨e1,e2⟩:=Zbf (s:=s) (e:=e) ht0
        simp only [List.length_append,List.length_cons,List.length_nil,List.length_map] at f73
        have hE:=ZsJ hb (show ¬ 60< (cutK t s e).length+2 by omega)
        rw [e1,e2,ZiH hE,hE,cutT,← hM]
        rw [List.map_cons,List.map_append]
        all_goals rfl
theorem ZwQ {A:ArmV} {t:List (Int×List RV)} {s e:Int} (hA:A.ok) (ht:tz1 t) (hs:-9223372036854775808≤s∧s≤9223372036854775807) (he:-9223372036854775808≤e∧e≤9223372036854775807) (k:∀ n,n=tcE A t s e→K (.tup [.one (.d (.list (List.map keyC (tcV A t s e)))),.one (.d (.v (.int .i64 n)))])):Ask 70 [.val (.agg [.d (.v (.string A.name)),.d (.v (.bool A.bx.s)),.d (.v (.string A.bx.a)),.d (.v (.string A.bx.d)),.d (.v (.bool A.by'.s)),.d (.v (.string A.by'.a)),.d (.v (.string A.by'.d)),.d (.v (.bool (A.bh))),.d (.v (.bool A.bt.s)),.d (.v (.string A.bt.a)),.d (.v (.string A.bt.d)),.d (.list (List.map lk A.links))]),.val (.one (.d (.list (List.map keyD t)))),int s,int e] K:=use (Zqu A t s e hA ht hs he) rfl (k _ rfl)
set_option maxHeartbeats 8000000 in
theorem Zkh (A:ArmV) (t:List (Int×List RV)) (d:Int) (hA:A.ok) (ht:tz1 t) (hd:-9223372036854775808≤d∧d≤9223372036854775807):Spec Tryz.prog Tab 71 [.val (.agg [.d (.v (.string A.name)),.d (.v (.bool A.bx.s)),.d (.v (.string A.bx.a)),.d (.v (.string A.bx.d)),.d (.v (.bool A.by'.s)),.d (.v (.string A.by'.a)),.d (.v (.string A.by'.d)),.d (.v (.bool (A.bh))),.d (.v (.bool A.bt.s)),.d (.v (.string A.bt.a)),.d (.v (.string A.bt.d)),.d (.list (List.map lk A.links))]),.val (.one (.d (.list (List.map keyD t)))),int d] (.tup [.one (.d (.list (List.map keyC (dlV A t d)))),.one (.d (.v (.int .i64 (dlE A t d))))]):=by
 have hA2:=hA
 have hLt:(List.map keyD t).length=t.length:=List.length_map ..
 refine Za Tryz.func71 rfl rfl Tryz.ntmps71 rfl (by kernel_rfl) rfl rfl ?_
 refine ZdA (A:=A) (t:=t) (by assumption) (Zbd ht) fun n13 hk_13_1=> ?_
 refine⟨fun e1=> ?_,fun e1=> ?_⟩
 ·have f15:n13≠0:=Zv e1
  refine Eq.trans (b:= .tup [.one (.d (.list ([]))),.one (.d (.v (.int .i64 (n13))))]) ?_ rfl
  have hno:¬ trackE A t=0:=by rw [← hk_13_1];exact f15
  obtain⟨e1,e2⟩:=ZpU (d:=d) hno
  rw [e1,e2,← hk_13_1]
  all_goals rfl
 ·have f15:¬ (n13≠0):=fun hh=>hh (Zw e1)
  have ht0:trackE A t=0:=by rw [← hk_13_1];exact Classical.not_not.1 f15
  have htl:=(Zcn ht0).2.1
  have ht6:=len60 ht0
  refine fork (fun e2=> ?_) (fun e2=> ?_)
  ·have f19:d< -2000:=of_decide_eq_true e2
   refine⟨fun _=> ?_,fun e=>absurd e (by decide)⟩
   refine Eq.trans (b:= .tup [.one (.d (.list ([]))),.one (.d (.v (.int .i64 (1))))]) ?_ rfl
   obtain⟨e1,e2⟩:=ZbY (d:=d) ht0
   have hbad:dlBad t d:=by
    unfold dlBad
    first|omega|(rw [htx25];omega)
   have hE:=ZmD hbad
   rw [e1,e2,ZdG (by rw [hE];decide),hE]
   all_goals rfl
  ·have f19:¬ (d< -2000):=of_decide_eq_false e2
   refine fork (fun e3=> ?_) (fun e3=> ?_)
   ·have f23:d >2000:=of_decide_eq_true e3
    refine⟨fun _=> ?_,fun e=>absurd e (by decide)⟩
    refine Eq.trans (b:= .tup [.one (.d (.list ([]))),.one (.d (.v (.int .i64 (1))))]) ?_ rfl
    obtain⟨e1,e2⟩:=ZbY (d:=d) ht0
    have hbad:dlBad t d:=by
     unfold dlBad
     first|omega|(rw [htx25];omega)
    have hE:=ZmD hbad
    rw [e1,e2,ZdG (by rw [hE];decide),hE]
    all_goals rfl
   ·have f23:¬ (d >2000):=of_decide_eq_false e3
    refine Zc (l:=t) (i:=0) (by first|omega|exact Nat.mod_lt _ (by omega)) fun x25 hx25=> ?_
    have hkx25:=(ZaP ht0 hx25).1
    have htx25:=Zdd hx25
    refine k_ix 0 [D.v (.int .i64 (x25.1)),D.list (List.map rd x25.2)] (by first|rfl|omega|(rw [wrap64 _ (by omega) (by omega)];omega)|(rw [wrap64 _ (by omega) (by omega)];split<;>omega)) (Zb hx25) rfl ?_
    refine⟨fun e4=> ?_,fun e4=> ?_⟩
    ·have f31:IntKind.i64.wrap (x25.1+d)< 0:=of_decide_eq_true e4
     have hwf31:IntKind.i64.wrap (x25.1+d)=x25.1+d:=wrap64 _ (by omega) (by omega)
     rw [hwf31] at f31
     refine Eq.trans (b:= .tup [.one (.d (.list ([]))),.one (.d (.v (.int .i64 (1))))]) ?_ rfl
     obtain⟨e1,e2⟩:=ZbY (d:=d) ht0
     have hbad:dlBad t d:=by
      unfold dlBad
      first|omega|(rw [htx25];omega)
     have hE:=ZmD hbad
     rw [e1,e2,ZdG (by rw [hE];decide),hE]
     all_goals rfl
    ·have f31:¬ (IntKind.i64.wrap (x25.1+d)< 0):=of_decide_eq_false e4
     have hwf31:IntKind.i64.wrap (x25.1+d)=x25.1+d:=wrap64 _ (by omega) (by omega)
     rw [hwf31] at f31
     have hb:¬ dlBad t d:=by unfold dlBad;rw [htx25];omega
     refine Zc (l:=t) (i:=(t.length - 1)) (by first|omega|exact Nat.mod_lt _ (by omega)) fun x36 hx36=> ?_
     have hkx36:=(ZaP ht0 hx36).1
     have htx36:=Zdd hx36
     refine k_ix (t.length - 1) [D.v (.int .i64 (x36.1)),D.list (List.map rd x36.2)] (by first|rfl|omega|(rw [wrap64 _ (by omega) (by omega)];omega)|(rw [wrap64 _ (by omega) (by omega)];split<;>omega)) (Zb hx36) rfl ?_
     refine⟨fun e5=> ?_,fun e5=> ?_⟩
     ·have f41:IntKind.i64.wrap (x36.1+d) >2000:=of_decide_eq_true e5
      have hwf41:IntKind.i64.wrap (x36.1+d)=x36.1+d:=wrap64 _ (by omega) (by omega)
      rw [hwf41] at f41
      rw [← htx36] at f41
      refine Eq.trans (b:= .tup [.one (.d (.list ([]))),.one (.d (.v (.int .i64 (19))))]) ?_ rfl
      obtain⟨e1,e2⟩:=ZbY (d:=d) ht0
      have hE:=Zw3 hb (by omega)
      rw [e1,e2,ZdG (by rw [hE];decide),hE]
      all_goals rfl
     ·have f41:¬ (IntKind.i64.wrap (x36.1+d) >2000):=of_decide_eq_false e5
      have hwf41:IntKind.i64.wrap (x36.1+d)=x36.1+d:=wrap64 _ (by omega) (by omega)
      rw [hwf41] at f41
      have hlate:¬ 2000< (tAt t (t.length - 1)).1+d:=by rw [htx36];omega
      refine Zio (t:=t) ht ?_
      have hLg:(List.map keyC (List.map gdK t)).length=t.length:=by rw [List.length_map,List.length_map]
      refine⟨Nat,fun n=> [(2,int d),(9,.val (.one (.row 43 0))),(45,int ((List.map keyC (List.map gdK t)).length:Int)),(46,int (n:Int))],
       fun n=> [(43,.row 123 2 0 (List.map keyC (dlT t d n)) true)],fun n=>n≤t.length,fun n=>t.length - n,0,?_,Nat.zero_le _,fun n hs=> ?_⟩
      ·constructor<;>(repeat' (first|exact rfl|exact True.intro|exact⟨_,_,rfl⟩|exact(by decide)|apply And.intro))
       all_goals first
        |(rw [Zw6];done)
        |exact congrArg (fun n:Int=>D.v (.int .i64 n)) (by simp)
      have hT:(List.map keyC (dlT t d n)).length=t.length:=by rw [List.length_map,ZjY]
      refine⟨fun e6=> ?_,fun e6=> ?_⟩
      ·have f47:(n:Int)< ((List.map keyC (List.map gdK t)).length:Int):=of_decide_eq_true e6
       refine k_at_own' n (by first|rfl|omega|(rw [wrap64 _ (by omega) (by omega)];omega)|(rw [wrap64 _ (by omega) (by omega)];split<;>omega)) (by first|omega|(simp;omega)) ?_
       refine Zc (l:=t) (i:=n) (by omega) fun xk hxk=> ?_
       have hkk:=ZaP ht0 hxk
       refine ZfR [D.v (.int .i64 (xk.1)),D.list (List.map rdc (qsL xk.2))] _ (by rw [List.getElem?_map,ZpT hxk];rfl) rfl rfl ?_
       refine k_at_own' n (by first|rfl|omega|(rw [wrap64 _ (by omega) (by omega)];omega)|(rw [wrap64 _ (by omega) (by omega)];split<;>omega)) (by first|omega|(simp;omega)) ?_
       refine⟨by first|omega|(simp;omega),?_⟩
       have hwr:IntKind.i64.wrap (xk.1+d)=xk.1+d:=wrap64 _ (by omega) (by omega)
       refine⟨n+1,by omega,by simp only;omega,?_⟩
       constructor<;>(repeat' (first|exact rfl|exact True.intro|apply And.intro))
       all_goals first
        |(rw [hwr];exact(Zw5 hxk).symm)
        |exact congrArg (fun n:Int=>D.v (.int .i64 n)) (by rw [wrap64 _ (by omega) (by omega)];omega)
        |exact congrArg (fun n:Int=>D.v (.int .i64 n)) (by omega)
      ·have f47:¬ ((n:Int)< ((List.map keyC (List.map gdK t)).length:Int)):=of_decide_eq_false e6
       refine Eq.trans (b:= .tup [.one (.d (.list (List.map keyC (dlT t d n)))),.one (.d (.v (.int .i64 (0))))]) ?_ rfl
       obtain⟨e1,e2⟩:=ZbY (d:=d) ht0
       have hn:n=t.length:=by omega
       have hE:=Zw4 hb hlate
       rw [e1,e2,ZpQ hE,hE,← hn]
       all_goals rfl
theorem Zsk {A:ArmV} {t:List (Int×List RV)} {d:Int} (hA:A.ok) (ht:tz1 t) (hd:-9223372036854775808≤d∧d≤9223372036854775807) (k:∀ n,n=dlE A t d→K (.tup [.one (.d (.list (List.map keyC (dlV A t d)))),.one (.d (.v (.int .i64 n)))])):Ask 71 [.val (.agg [.d (.v (.string A.name)),.d (.v (.bool A.bx.s)),.d (.v (.string A.bx.a)),.d (.v (.string A.bx.d)),.d (.v (.bool A.by'.s)),.d (.v (.string A.by'.a)),.d (.v (.string A.by'.d)),.d (.v (.bool (A.bh))),.d (.v (.bool A.bt.s)),.d (.v (.string A.bt.a)),.d (.v (.string A.bt.d)),.d (.list (List.map lk A.links))]),.val (.one (.d (.list (List.map keyD t)))),int d] K:=use (Zkh A t d hA ht hd) rfl (k _ rfl)
end
end Go.Proofs.YtpfemjpgbpnpkaaGreatDoor.eng
namespace Go.Proofs.YtpfemjpgbpnpkaaGreatDoor.eng
open Go.RowKit num mem seg q held ratA ratB ratC ratD ratE vars ratF argopen
section
variable {K : AV → Prop}
def q2Q:Rat:=((1:Int):Rat) / ((2:Int):Rat)
theorem Zx7:cn q2Q=⟨false,enc 1,enc 2⟩:=by
 unfold cn
 rw [show q2Q.num=1 by decide+kernel,show q2Q.den=2 by decide+kernel]
 rfl
theorem ZxJ:Spec Tryz.prog Tab 14 [int 1,int 2] (rat (cn q2Q)):=Zgi (Zfh 2 q2Q (by decide) (by decide) Zx7)
def keyedL:List (Int×List RV):= [(10,natRV [0]),(20,natRV [1])]
theorem Zr7:tz keyedL:=by
 refine⟨by decide,fun k hk=> ?_⟩
 have h:k=(10,natRV [0])∨k=(20,natRV [1]):=by simpa [keyedL] using hk
 rcases h with rfl|rfl
 ·exact⟨by decide,by decide,fun x hx=>Nat.le_trans (Zff (by decide) x hx) (by decide)⟩
 ·exact⟨by decide,by decide,fun x hx=>Nat.le_trans (Zff (by decide) x hx) (by decide)⟩
theorem ZvO:tz []:=⟨by decide,fun k hk=>by simp at hk⟩
theorem Zmn  :Spec Tryz.prog Tab 163 [] (.val (.one (.d (.list (List.map keyD keyedL))))):=by
 refine Za Tryz.func163 rfl rfl Tryz.ntmps163 rfl (by kernel_rfl) rfl rfl ?_
 refine Zcd [0] rfl (by decide) (by decide) ?_
 refine Zcd [1] rfl (by decide) (by decide) ?_
 refine Eq.trans (b:= .val (.one (.d (.list ([[D.v (.int .i64 (10)),D.list (List.map rd (natRV [0]))], [D.v (.int .i64 (20)),D.list (List.map rd (natRV [1]))]]))))) ?_ rfl
 rfl
theorem ZuY (k:K (.val (.one (.d (.list (List.map keyD keyedL)))))):Ask 163 [] K:=use Zmn rfl k
theorem at15:atL keyedL 15= [q2Q]:=by
 show itL _ _ _ _=_
 show [itF _ (natRV [0]) (natRV [1]) 0]=_
 unfold itF
 rw [show qAt (natRV [0]) 0=((0:Nat):Rat) from(ZR rfl).trans (cn_q _),show qAt (natRV [1]) 0=((1:Nat):Rat) from(ZR rfl).trans (cn_q _)]
 decide+kernel
set_option maxHeartbeats 4000000 in
theorem Zi0  :Spec Tryz.prog Tab 67 [] (bool true):=by
 have o3:(sampA [3]).ok:=Zbj (Zex (by decide) (by decide)) (by decide)
 have a3:armE (sampA [3])=0:=ZbI (by decide) (by decide) (by decide)
 refine Za Tryz.func67 rfl rfl Tryz.ntmps67 rfl (by kernel_rfl) rfl rfl ?_
 refine ZuY ?_
 refine Zsl (t:=keyedL) 15 rfl Zr7 (by decide) ?_
 refine use (ZxJ) rfl ?_
 refine Zsg (l:=atL keyedL 15) (m:= [q2Q]) at15 rfl rfl (by rw [at15];decide) ?_
 refine ZeD [3] rfl (by decide) (by decide) ?_
 refine ZdA (A:=(sampA [3])) (t:= []) (by assumption) ZvO fun n9 hk_9_1=> ?_
 refine Eq.trans (b:=bool (n9==14)) ?_ rfl
 rw [show n9=14 from by rw [hk_9_1];exact Zco a3 rfl];rfl
theorem Zr9 (k:K (bool true)):Ask 67 [] K:=use Zi0 rfl k
end
end Go.Proofs.YtpfemjpgbpnpkaaGreatDoor.eng
namespace Go.Proofs.YtpfemjpgbpnpkaaGreatDoor.eng
open Go.RowKit num mem seg q held ratA ratB ratC ratD ratE vars ratF argopen
section
variable {K : AV → Prop}
theorem Zx0 {s:Rat} {a b:List RV} {B C:Nat} (hs:qs s≤C) (ha:∀ x,x∈a→x.z≤B) (hb:∀ x,x∈b→x.z≤B) (i:Nat):qs (itF s a b i)≤3*B+C+5:=by
 have q:∀ l:List RV,(∀ x,x∈l→x.z≤B)→qs (qAt l i)≤B+1:=fun l hl=>by
  unfold qAt
  cases h:l[i]? with
  |none=>exact Nat.le_trans (by decide+kernel:qs z0.q≤1) (by omega)
  |some x=>have:=x.z1;have:=hl x (List.mem_of_getElem? h);show qs x.q≤_;omega
 have:=q a ha
 have:=q b hb
 have:=ZZ (qAt b i) (qAt a i)
 have:=Zt s (qAt b i - qAt a i)
 have:=ZC (qAt a i) (s*(qAt b i - qAt a i))
 unfold itF;omega
theorem s_z {n x y:Int} (hn:-9223372036854775808≤n∧n≤9223372036854775807) (hx:-9223372036854775808≤x∧x≤9223372036854775807) (hy:-9223372036854775808≤y∧y≤9223372036854775807):qs (((n:Rat) - (x:Rat)) / ((y:Rat) - (x:Rat)))≤40:=by
 have:=Zaq hn.1 hn.2
 have:=Zaq hx.1 hx.2
 have:=Zaq hy.1 hy.2
 have:=ZZ (n:Rat) (x:Rat)
 have:=ZZ (y:Rat) (x:Rat)
 have:=ZaQ ((n:Rat) - (x:Rat)) ((y:Rat) - (x:Rat))
 omega
theorem Zxq {n:Int} (hn:-9223372036854775808≤n∧n≤9223372036854775807):∀ (r:List (Int×List RV)) (x:Int×List RV),tz (x :: r)→(∀ q,q∈atR x r n→qs q≤4194304)∧(atR x r n).length≤1048576
 | [],x,h=>by
  obtain⟨_,h2,h3⟩:=h.2 x (by simp)
  refine⟨fun q hq=> ?_,by show (qsL x.2).length≤_;rw [Zb7];exact h2⟩
  obtain⟨y,hy,rfl⟩:=List.mem_map.1 (show q∈List.map RV.q x.2 from hq)
  have:=y.z1;have:=h3 y hy;omega
 |y :: r,x,h=>by
  obtain⟨h1,h2,h3⟩:=h.2 x (by simp)
  obtain⟨g1,g2,g3⟩:=h.2 y (by simp)
  unfold atR
  split
  ·refine⟨fun q hq=> ?_,by rw [ZjP];omega⟩
   obtain⟨i,_,rfl⟩:=List.mem_map.1 (show q∈List.map _ _ from hq)
   have:=Zx0 (s_z hn h1 g1) h3 g3 i;omega
  ·exact Zxq hn r y ⟨by have:=h.1;simp only [List.length_cons] at this ⊢;omega,fun k hk=>h.2 k (List.mem_cons_of_mem _ hk)⟩
theorem atL_z {t:List (Int×List RV)} {n:Int} (ht:tz t) (hn:-9223372036854775808≤n∧n≤9223372036854775807):(∀ q,q∈atL t n→qs q≤4194304)∧(atL t n).length≤1048576:=by
 cases t with
 |nil=>exact⟨fun q hq=>by simp [atL] at hq,by simp [atL]⟩
 |cons x r=>
  show (∀ q,q∈(if n≤x.1 then qsL x.2 else atR x r n)→qs q≤4194304)∧(if n≤x.1 then qsL x.2 else atR x r n).length≤1048576
  split
  ·obtain⟨_,h2,h3⟩:=ht.2 x (by simp)
   refine⟨fun q hq=> ?_,by rw [Zb7];exact h2⟩
   obtain⟨y,hy,rfl⟩:=List.mem_map.1 (show q∈List.map RV.q x.2 from hq)
   have:=y.z1;have:=h3 y hy;omega
  ·exact Zxq hn r x ht
end
end Go.Proofs.YtpfemjpgbpnpkaaGreatDoor.eng
namespace Go.Proofs.YtpfemjpgbpnpkaaGreatDoor.eng
open Go.RowKit num mem seg q held ratA ratB ratC ratD ratE vars ratF argopen trq
section
variable {K : AV → Prop}
theorem Zu6 {A:ArmV} {t u:List (Int×List RV)} {v:List (List D)} (hv:v=List.map keyD t++List.map keyD u) (hA:A.ok) (ht:tz1 t) (hu:tz1 u) (hl:t.length≤60) (gl:u.length≤60) (k:∀ n,n=trackE A (t++u)→K (int n)):Ask 68 [.val (.agg [.d (.v (.string A.name)),.d (.v (.bool A.bx.s)),.d (.v (.string A.bx.a)),.d (.v (.string A.bx.d)),.d (.v (.bool A.by'.s)),.d (.v (.string A.by'.a)),.d (.v (.string A.by'.d)),.d (.v (.bool (A.bh))),.d (.v (.bool A.bt.s)),.d (.v (.string A.bt.a)),.d (.v (.string A.bt.d)),.d (.list (List.map lk A.links))]),.val (.one (.d (.list v)))] K:=by
 subst hv
 rw [show List.map keyD t++List.map keyD u=List.map keyD (t++u) from by rw [List.map_append]]
 exact use (ZiT A _ hA (Zbd (ZgF ht hu hl gl))) rfl (k _ rfl)
theorem Zwf {l:List RV} (h:∀ x,x∈l→x.z≤1048577) (q:Rat) (hq:q∈qsL l):qs q≤8589934592:=by
 obtain⟨x,hx,rfl⟩:=List.mem_map.1 hq
 have:=x.z1;have:=h x hx;omega
theorem Zsx (t:List (Int×List RV)) (ht:tz1 t):Spec Tryz.prog Tab 74 [.val (.one (.d (.list (List.map keyD t))))] (.val (.one (.d (.list (List.map keyC (List.map gdK t)))))):=by
 have hLt:(List.map keyD t).length=t.length:=List.length_map ..
 have ht1:=ht.1
 refine Za Tryz.func74 rfl rfl Tryz.ntmps74 rfl (by kernel_rfl) rfl rfl ?_
 refine⟨Nat,fun i=> [(3,.val (.one (.row 21 0))),(6,.val (.one (.d (.list (List.map keyD t))))),(7,int ((List.map keyD t).length:Int)),(8,int (i:Int))],
  fun i=> [(21,.row 123 2 0 (List.map keyC (List.map gdK (t.take i))) true)],fun i=>i≤t.length,fun i=>t.length - i,0,?_,Nat.zero_le _,fun i hs=> ?_⟩
 ·constructor<;>(repeat' (first|exact rfl|exact True.intro|exact⟨_,_,rfl⟩|exact(by decide)|apply And.intro))
  all_goals first|exact congrArg (fun n:Int=>D.v (.int .i64 n)) (by omega)|exact congrArg (fun n:Int=>D.v (.int .i64 n)) (by rw [wrap64 _ (by omega) (by omega)];omega)|(simp;done)
 have hT:(List.map keyC (List.map gdK (t.take i))).length≤1048576:=by rw [List.length_map,List.length_map,List.length_take];omega
 refine⟨fun e1=> ?_,fun e1=> ?_⟩
 ·have f9:(i:Int)< ((List.map keyD t).length:Int):=of_decide_eq_true e1
  refine Zc (l:=t) (i:=i) (by first|omega|exact Nat.mod_lt _ (by omega)) fun x10 hx10=> ?_
  have hzx10:=ht.2 x10 (List.mem_of_getElem? hx10)
  refine k_ix i [D.v (.int .i64 (x10.1)),D.list (List.map rd x10.2)] (by first|rfl|omega|(rw [wrap64 _ (by omega) (by omega)];omega)|(rw [wrap64 _ (by omega) (by omega)];split<;>omega)) (Zb hx10) rfl ?_
  refine Zhe (l:=x10.2) (fun x hx=>Nat.le_trans (hzx10.2.2 x hx) (by decide)) hzx10.2.1 ?_
  refine Zlb (qsL x10.2) rfl (fun q hq=>Zwf (fun y hy=>Nat.le_trans (hzx10.2.2 y hy) (by decide)) q hq) (by rw [Zb7];have:=hzx10.2.1;omega) ?_
  refine⟨⟨row1 rfl,(by show ((List.map keyC (List.map gdK (t.take i))).length+1)*32≤_;omega),(by show ((List.map keyC (List.map gdK (t.take i))).length+1)≤_;omega)⟩,?_⟩
  refine⟨by kernel_rfl,?_⟩
  refine⟨i+1,by omega,by simp only;omega,?_⟩
  constructor<;>(repeat' (first|exact rfl|exact True.intro|apply And.intro))
  all_goals first
   |(rw [ZeF hx10];rfl)
   |exact congrArg (fun n:Int=>D.v (.int .i64 n)) (by rw [wrap64 _ (by omega) (by omega)];omega)
   |exact congrArg (fun n:Int=>D.v (.int .i64 n)) (by omega)
 ·have f9:¬ ((i:Int)< ((List.map keyD t).length:Int)):=of_decide_eq_false e1
  refine Eq.trans (b:= .val (.one (.d (.list (List.map keyC (List.map gdK (t.take i))))))) ?_ rfl
  rw [List.take_of_length_le (by omega)]
theorem Zpz (t:List (Int×List RV)) (ht:tz1 t):SpecR Tryz.prog Tab 74 [.val (.one (.d (.list (List.map keyD t))))] 123 2 (List.map keyC (List.map gdK t)):=by
 have hLt:(List.map keyD t).length=t.length:=List.length_map ..
 have ht1:=ht.1
 refine Zlh Tryz.func74 rfl rfl Tryz.ntmps74 rfl (by kernel_rfl) rfl rfl ?_
 refine⟨Nat,fun i=> [(3,.val (.one (.row 21 0))),(6,.val (.one (.d (.list (List.map keyD t))))),(7,int ((List.map keyD t).length:Int)),(8,int (i:Int))],
  fun i=> [(21,.row 123 2 0 (List.map keyC (List.map gdK (t.take i))) true)],fun i=>i≤t.length,fun i=>t.length - i,0,?_,Nat.zero_le _,fun i hs=> ?_⟩
 ·constructor<;>(repeat' (first|exact rfl|exact True.intro|exact⟨_,_,rfl⟩|exact(by decide)|apply And.intro))
  all_goals first|exact congrArg (fun n:Int=>D.v (.int .i64 n)) (by omega)|exact congrArg (fun n:Int=>D.v (.int .i64 n)) (by rw [wrap64 _ (by omega) (by omega)];omega)|(simp;done)
 have hT:(List.map keyC (List.map gdK (t.take i))).length≤1048576:=by rw [List.length_map,List.length_map,List.length_take];omega
 refine⟨fun e1=> ?_,fun e1=> ?_⟩
 ·have f9:(i:Int)< ((List.map keyD t).length:Int):=of_decide_eq_true e1
  refine Zc (l:=t) (i:=i) (by first|omega|exact Nat.mod_lt _ (by omega)) fun x10 hx10=> ?_
  have hzx10:=ht.2 x10 (List.mem_of_getElem? hx10)
  refine k_ix i [D.v (.int .i64 (x10.1)),D.list (List.map rd x10.2)] (by first|rfl|omega|(rw [wrap64 _ (by omega) (by omega)];omega)|(rw [wrap64 _ (by omega) (by omega)];split<;>omega)) (Zb hx10) rfl ?_
  refine Zhe (l:=x10.2) (fun x hx=>Nat.le_trans (hzx10.2.2 x hx) (by decide)) hzx10.2.1 ?_
  refine Zlb (qsL x10.2) rfl (fun q hq=>Zwf (fun y hy=>Nat.le_trans (hzx10.2.2 y hy) (by decide)) q hq) (by rw [Zb7];have:=hzx10.2.1;omega) ?_
  refine⟨⟨row1 rfl,(by show ((List.map keyC (List.map gdK (t.take i))).length+1)*32≤_;omega),(by show ((List.map keyC (List.map gdK (t.take i))).length+1)≤_;omega)⟩,?_⟩
  refine⟨by kernel_rfl,?_⟩
  refine⟨i+1,by omega,by simp only;omega,?_⟩
  constructor<;>(repeat' (first|exact rfl|exact True.intro|apply And.intro))
  all_goals first
   |(rw [ZeF hx10];rfl)
   |exact congrArg (fun n:Int=>D.v (.int .i64 n)) (by rw [wrap64 _ (by omega) (by omega)];omega)
   |exact congrArg (fun n:Int=>D.v (.int .i64 n)) (by omega)
 ·have f9:¬ ((i:Int)< ((List.map keyD t).length:Int)):=of_decide_eq_false e1
  have hfin:Ob.row 123 2 0 (List.map keyC (List.map gdK (t.take i))) true=Ob.row 123 2 0 (List.map keyC (List.map gdK t)) true:=by rw [List.take_of_length_le (by omega)]
  exact hfin
theorem ZwG {t:List (Int×List RV)} (ht:tz1 t) (k:K (.new 123 2 (List.map keyC (List.map gdK t)))):Ask 74 [.val (.one (.d (.list (List.map keyD t))))] K:=useN (Zpz t ht) k
theorem ZwH {t u:List (Int×List RV)} {v:List (List D)} (hv:v=List.map keyD t++List.map keyD u) (ht:tz1 t) (hu:tz1 u) (hl:t.length≤60) (gl:u.length≤60) (k:K (.val (.one (.d (.list (List.map keyC (List.map gdK (t++u)))))))):Ask 74 [.val (.one (.d (.list v)))] K:=by
 subst hv
 rw [show List.map keyD t++List.map keyD u=List.map keyD (t++u) from by rw [List.map_append]]
 exact use (Zsx _ (ZgF ht hu hl gl)) rfl k
theorem Zj9 (t:List (Int×List RV)) (ht:tz1 t) (hp:0< t.length):SpecR Tryz.prog Tab 72 [.val (.one (.d (.list (List.map keyD t))))] 123 2 (List.map keyD t):=by
 have hLt:(List.map keyD t).length=t.length:=List.length_map ..
 have ht1:=ht.1
 have hne:List.map keyD t≠ []:=fun h=>by rw [h] at hLt;simp at hLt;omega
 refine Zlh Tryz.func72 rfl rfl Tryz.ntmps72 rfl (by kernel_rfl) rfl rfl ?_
 refine⟨_,⟨⟨_,Tryz.underlying115⟩,hne,rfl⟩,?_⟩
 refine⟨fun e=>absurd e (by decide),fun _=> ?_⟩
 refine⟨⟨(by rw [hLt];exact hp),(by intro r hr;simp at hr),(Zbk fun _=>rfl),(by show (0+(List.map keyD t).length)*32≤_;(simp only [List.length_map];omega)),(by show 0+(List.map keyD t).length≤_;(simp only [List.length_map];omega))⟩,?_⟩
 exact rfl
theorem Zsi {t:List (Int×List RV)} (ht:tz1 t) (hp:0< t.length) (k:K (.new 123 2 (List.map keyD t))):Ask 72 [.val (.one (.d (.list (List.map keyD t))))] K:=useN (Zj9 t ht hp) k
theorem ZlB {t:List (Int×List RV)} {n:Int} (ht:tz1 t) (hn:-9223372036854775808≤n∧n≤9223372036854775807):(∀ q,q∈atL t n→qs q≤8589934592)∧(atL t n).length≤1099511627776:=by
 have:=atL_z (Zbd ht) hn
 exact⟨fun q hq=>Nat.le_trans (this.1 q hq) (by decide),Nat.le_trans this.2 (by decide)⟩
theorem Zj5 {t:List (Int×List RV)} {s e n:Int} (ht:tz1 t) (hs:-9223372036854775808≤s∧s≤9223372036854775807) (he:-9223372036854775808≤e∧e≤9223372036854775807) (h:n∈cutI2 t s e):-9223372036854775808≤n∧n≤9223372036854775807:=by
 unfold cutI2 at h
 rcases List.mem_cons.1 h with rfl|h
 ·exact hs
 ·rcases List.mem_append.1 h with h|h
  ·obtain⟨k,hk,rfl⟩:=List.mem_map.1 h
   exact(ht.2 k (List.mem_filter.1 hk).1).1
  ·rw [List.mem_singleton] at h;rw [h];exact he
set_option maxHeartbeats 8000000 in
theorem ZmG {A:ArmV} (t:List (Int×List RV)) (s e:Int) (ht0:trackE A t=0) (ht:tz1 t) (hs:-9223372036854775808≤s∧s≤9223372036854775807) (he:-9223372036854775808≤e∧e≤9223372036854775807):Spec Tryz.prog Tab 75 [.val (.one (.d (.list (List.map keyD t)))),int s,int e] (.tup [.one (.d (.list (List.map keyC (ctV t s e)))),.one (.d (.v (.int .i64 (ctE t s e))))]):=by
 have hLt:(List.map keyD t).length=t.length:=List.length_map ..
 have ht6:=len60 ht0
 have hs0:=hs
 have he0:=he
 refine Za Tryz.func75 rfl rfl Tryz.ntmps75 rfl (by kernel_rfl) rfl rfl ?_
 refine fork (fun e1=> ?_) (fun e1=> ?_)
 ·have f16:s< 0:=of_decide_eq_true e1
  refine⟨fun _=> ?_,fun e=>absurd e (by decide)⟩
  refine Eq.trans (b:= .tup [.one (.d (.list ([]))),.one (.d (.v (.int .i64 (1))))]) ?_ rfl
  have hE:=ZmH (t:=t) (show cutBad s e by unfold cutBad;omega)
  rw [Zcj (by rw [hE];decide),hE]
  all_goals rfl
 ·have f16:¬ (s< 0):=of_decide_eq_false e1
  refine fork (fun e2=> ?_) (fun e2=> ?_)
  ·have f21:e≤s:=of_decide_eq_true e2
   refine⟨fun _=> ?_,fun e=>absurd e (by decide)⟩
   refine Eq.trans (b:= .tup [.one (.d (.list ([]))),.one (.d (.v (.int .i64 (1))))]) ?_ rfl
   have hE:=ZmH (t:=t) (show cutBad s e by unfold cutBad;omega)
   rw [Zcj (by rw [hE];decide),hE]
   all_goals rfl
  ·have f21:¬ (e≤s):=of_decide_eq_false e2
   refine⟨fun e3=> ?_,fun e3=> ?_⟩
   ·have f24:e >2000:=of_decide_eq_true e3
    refine Eq.trans (b:= .tup [.one (.d (.list ([]))),.one (.d (.v (.int .i64 (1))))]) ?_ rfl
    have hE:=ZmH (t:=t) (show cutBad s e by unfold cutBad;omega)
    rw [Zcj (by rw [hE];decide),hE]
    all_goals rfl
   ·have f24:¬ (e >2000):=of_decide_eq_false e3
    have hb:¬ cutBad s e:=by unfold cutBad;omega
    refine⟨Nat×List (Int),fun (i,M)=> [(0,.val (.one (.d (.list (List.map keyD t))))),(1,int s),(2,int e),(8,fuAV 47 [D.v (.int .i64 s)] M),(27,.val (.one (.d (.list (List.map keyD t))))),(28,int ((List.map keyD t).length:Int)),(29,int (i:Int))],
     fun (i,M)=> []++fuOb 3 1 iD 47 [D.v (.int .i64 s)] M,fun (i,M)=>i≤t.length∧M=List.map Prod.fst (cutK (t.take i) s e),fun (i,M)=>t.length - i,(0, []),?_,⟨Nat.zero_le _,rfl⟩,fun s hs=> ?_⟩
    ·constructor<;>(repeat' (first|exact rfl|exact True.intro|exact⟨_,_,rfl⟩|exact(by decide)|apply And.intro))
     all_goals first|exact congrArg (fun n:Int=>D.v (.int .i64 n)) (by omega)|exact congrArg (fun n:Int=>D.v (.int .i64 n)) (by rw [wrap64 _ (by omega) (by omega)];omega)|(simp;done)
    obtain⟨i,M⟩:=s
    obtain⟨g1,hM⟩:=hs
    try simp only at g1 hM
    have hMl:M.length≤i:=by rw [hM,List.length_map];exact Nat.le_trans (Zhp _ s e) (by rw [List.length_take];omega)
    have hMe:M.length=(cutK (t.take i) s e).length:=by rw [hM,List.length_map]
    refine⟨fun e4=> ?_,fun e4=> ?_⟩
    ·have f30:(i:Int)< ((List.map keyD t).length:Int):=of_decide_eq_true e4
     rcases M with _|⟨m,M⟩
     ·simp only [List.length_nil,List.length_cons] at hMe
      refine Zc (l:=t) (i:=i) (by first|omega|exact Nat.mod_lt _ (by omega)) fun x31 hx31=> ?_
      have hzx31:=ht.2 x31 (List.mem_of_getElem? hx31)
      have hxx31:=hx31
      refine k_ix i [D.v (.int .i64 (x31.1)),D.list (List.map rd x31.2)] (by first|rfl|omega|(rw [wrap64 _ (by omega) (by omega)];omega)|(rw [wrap64 _ (by omega) (by omega)];split<;>omega)) (Zb hx31) rfl ?_
      refine fork (fun e5=> ?_) (fun e5=> ?_)
      ·have f37:s< x31.1:=of_decide_eq_true e5
       refine⟨fun e6=> ?_,fun e6=> ?_⟩
       ·have f42:x31.1< e:=of_decide_eq_true e6
        refine⟨⟨Nat.zero_lt_succ _,row1 rfl,row1 rfl,(by show (1+1)*8≤_;omega),(by show 1+1≤_;omega)⟩,?_⟩
        refine⟨(i+1, [x31.1]),⟨by omega,by rw [Zhq hx31 (by omega),List.map_append,← hM];rfl⟩,by simp only;omega,?_⟩
        constructor<;>(repeat' (first|exact rfl|exact True.intro|apply And.intro))
        all_goals first
         |(simp [iD];done)
         |exact congrArg (fun n:Int=>D.v (.int .i64 n)) (by rw [wrap64 _ (by omega) (by omega)];omega)
         |exact congrArg (fun n:Int=>D.v (.int .i64 n)) (by omega)
       ·have f42:¬ (x31.1< e):=of_decide_eq_false e6
        refine⟨(i+1, []),⟨by omega,by rw [Zbq hx31 (by omega)];exact hM⟩,by simp only;omega,?_⟩
        constructor<;>(repeat' (first|exact rfl|exact True.intro|apply And.intro))
        all_goals first
         |(simp [iD];done)
         |exact congrArg (fun n:Int=>D.v (.int .i64 n)) (by rw [wrap64 _ (by omega) (by omega)];omega)
         |exact congrArg (fun n:Int=>D.v (.int .i64 n)) (by omega)
      ·have f37:¬ (s< x31.1):=of_decide_eq_false e5
       refine⟨fun e=>absurd e (by decide),fun _=> ?_⟩
       refine⟨(i+1, []),⟨by omega,by rw [Zbq hx31 (by omega)];exact hM⟩,by simp only;omega,?_⟩
       constructor<;>(repeat' (first|exact rfl|exact True.intro|apply And.intro))
       all_goals first
        |(simp [iD];done)
        |exact congrArg (fun n:Int=>D.v (.int .i64 n)) (by rw [wrap64 _ (by omega) (by omega)];omega)
        |exact congrArg (fun n:Int=>D.v (.int .i64 n)) (by omega)
     ·simp only [List.length_nil,List.length_cons] at hMe
      have hT:([[D.v (.int .i64 (s))]]++List.map iD (m :: M)).length≤1048580:=by simp only [List.length_append,List.length_cons,List.length_nil,List.length_map] at hMl ⊢;omega
      refine Zc (l:=t) (i:=i) (by first|omega|exact Nat.mod_lt _ (by omega)) fun x31 hx31=> ?_
      have hzx31:=ht.2 x31 (List.mem_of_getElem? hx31)
      have hxx31:=hx31
      refine k_ix i [D.v (.int .i64 (x31.1)),D.list (List.map rd x31.2)] (by first|rfl|omega|(rw [wrap64 _ (by omega) (by omega)];omega)|(rw [wrap64 _ (by omega) (by omega)];split<;>omega)) (Zb hx31) rfl ?_
      refine fork (fun e7=> ?_) (fun e7=> ?_)
      ·have f37:s< x31.1:=of_decide_eq_true e7
       refine⟨fun e8=> ?_,fun e8=> ?_⟩
       ·have f42:x31.1< e:=of_decide_eq_true e8
        refine⟨⟨row1 rfl,(by show (([[D.v (.int .i64 (s))]]++List.map iD (m :: M)).length+1)*8≤_;omega),(by show (([[D.v (.int .i64 (s))]]++List.map iD (m :: M)).length+1)≤_;omega)⟩,?_⟩
        refine⟨(i+1,(m :: M)++ [x31.1]),⟨by omega,by rw [Zhq hx31 (by omega),List.map_append,← hM];rfl⟩,by simp only;omega,?_⟩
        constructor<;>(repeat' (first|exact rfl|exact True.intro|apply And.intro))
        all_goals first
         |(simp [iD];done)
         |exact congrArg (fun n:Int=>D.v (.int .i64 n)) (by rw [wrap64 _ (by omega) (by omega)];omega)
         |exact congrArg (fun n:Int=>D.v (.int .i64 n)) (by omega)
       ·have f42:¬ (x31.1< e):=of_decide_eq_false e8
        refine⟨(i+1,(m :: M)),⟨by omega,by rw [Zbq hx31 (by omega)];exact hM⟩,by simp only;omega,?_⟩
        constructor<;>(repeat' (first|exact rfl|exact True.intro|apply And.intro))
        all_goals first
         |(simp [iD];done)
         |exact congrArg (fun n:Int=>D.v (.int .i64 n)) (by rw [wrap64 _ (by omega) (by omega)];omega)
         |exact congrArg (fun n:Int=>D.v (.int .i64 n)) (by omega)
      ·have f37:¬ (s< x31.1):=of_decide_eq_false e7
       refine⟨fun e=>absurd e (by decide),fun _=> ?_⟩
       refine⟨(i+1,(m :: M)),⟨by omega,by rw [Zbq hx31 (by omega)];exact hM⟩,by simp only;omega,?_⟩
       constructor<;>(repeat' (first|exact rfl|exact True.intro|apply And.intro))
       all_goals first
        |(simp [iD];done)
        |exact congrArg (fun n:Int=>D.v (.int .i64 n)) (by rw [wrap64 _ (by omega) (by omega)];omega)
        |exact congrArg (fun n:Int=>D.v (.int .i64 n)) (by omega)
    ·have f30:¬ ((i:Int)< ((List.map keyD t).length:Int)):=of_decide_eq_false e4
     have hi:i=t.length:=by omega
     rw [List.take_of_length_le (by omega)] at hM hMe
     rcases M with _|⟨m,M⟩
     ·simp only [List.length_nil,List.length_cons] at hMe
      refine⟨⟨Nat.zero_lt_succ _,row1 rfl,row1 rfl,(by show (1+1)*8≤_;omega),(by show 1+1≤_;omega)⟩,?_⟩
      refine⟨fun e9=> ?_,fun e9=> ?_⟩
      ·have f55:(([[D.v (.int .i64 (s))]]++ [[D.v (.int .i64 (e))]]).length:Int) >60:=of_decide_eq_true e9
       refine Eq.trans (b:= .tup [.one (.d (.list ([]))),.one (.d (.v (.int .i64 (2))))]) ?_ rfl
       simp only [List.length_append,List.length_cons,List.length_nil,List.length_map] at f55
       have hE:=ZsI hb (show 60< (cutK t s e).length+2 by omega)
       rw [Zcj (by rw [hE];decide),hE]
       all_goals rfl
      ·have f55:¬ ((([[D.v (.int .i64 (s))]]++ [[D.v (.int .i64 (e))]]).length:Int) >60):=of_decide_eq_false e9
       have h55:¬ 60< (cutK t s e).length+2:=by simp only [List.length_append,List.length_cons,List.length_nil,List.length_map] at f55;omega
       have hlst: [[D.v (.int .i64 (s))]]++ [[D.v (.int .i64 (e))]]=List.map iD (cutI2 t s e):=by
        unfold cutI2
        rw [← hM];rfl
       have hl5:(cutI2 t s e).length≤60:=by
        have:=congrArg List.length hlst
        rw [List.length_map] at this
        omega
       have hLi:(List.map iD (cutI2 t s e)).length=(cutI2 t s e).length:=List.length_map ..
       have hl6:=congrArg List.length hlst
       rw [hLi] at hl6
       refine⟨Nat,fun j=> [(0,.val (.one (.d (.list (List.map keyD t))))),(11,.val (.one (.row 70 0))),(56,.val (.one (.row 52 0))),(57,int (([[D.v (.int .i64 (s))]]++ [[D.v (.int .i64 (e))]]).length:Int)),(58,int (j:Int))],
        fun j=> [(52,.row 3 1 0 (List.map iD (cutI2 t s e)) true),(70,.row 123 2 0 (List.map keyC (((cutI2 t s e).take j).map fun n=>(n,atL t n))) true)],fun j=>j≤(cutI2 t s e).length,fun j=>(cutI2 t s e).length - j,0,?_,Nat.zero_le _,fun j hs=> ?_⟩
       ·constructor<;>(repeat' (first|exact rfl|exact True.intro|exact⟨_,_,rfl⟩|exact(by decide)|apply And.intro))
        all_goals first
         |exact hlst
         |exact hlst.symm
         |exact congrArg (fun l:List (List D)=>D.v (.int .i64 (l.length:Int))) hlst
         |(rw [hlst];done)
       have hT:(List.map keyC (((cutI2 t s e).take j).map fun n=>(n,atL t n))).length≤1048576:=by rw [List.length_map,List.length_map,List.length_take];omega
       refine⟨fun e10=> ?_,fun e10=> ?_⟩
       ·have f59:(j:Int)< (([[D.v (.int .i64 (s))]]++ [[D.v (.int .i64 (e))]]).length:Int):=of_decide_eq_true e10
        refine k_at_own' j (by first|rfl|omega|(rw [wrap64 _ (by omega) (by omega)];omega)|(rw [wrap64 _ (by omega) (by omega)];split<;>omega)) (by first|omega|(simp;omega)) ?_
        refine Zc (l:=(cutI2 t s e)) (i:=j) (by first|omega|exact Nat.mod_lt _ (by omega)) fun x61 hx61=> ?_
        have hjr:-9223372036854775808≤x61∧x61≤9223372036854775807:=Zj5 ht hs0 he0 (List.mem_of_getElem? hx61)
        refine ZfR [D.v (.int .i64 (x61))] _ (Zb hx61) rfl rfl ?_
        refine ZwS (t:=t) (x61) rfl (Zbd ht) hjr ?_
        refine Zlb (atL t x61) rfl (fun q hq=>Nat.le_trans ((ZlB ht hjr).1 q hq) (by decide)) (Nat.le_trans (ZlB ht hjr).2 (by decide)) ?_
        refine⟨⟨row1 rfl,(by show ((List.map keyC (((cutI2 t s e).take j).map fun n=>(n,atL t n))).length+1)*32≤_;omega),(by show ((List.map keyC (((cutI2 t s e).take j).map fun n=>(n,atL t n))).length+1)≤_;omega)⟩,?_⟩
        refine⟨j+1,by omega,by simp only;omega,?_⟩
        constructor<;>(repeat' (first|exact rfl|exact True.intro|apply And.intro))
        all_goals first
         |(rw [List.take_add_one,hx61,List.map_append,List.map_append];rfl)
         |exact congrArg (fun n:Int=>D.v (.int .i64 n)) (by rw [wrap64 _ (by omega) (by omega)];omega)
         |exact congrArg (fun n:Int=>D.v (.int .i64 n)) (by omega)
       ·have f59:¬ ((j:Int)< (([[D.v (.int .i64 (s))]]++ [[D.v (.int .i64 (e))]]).length:Int)):=of_decide_eq_false e10
        refine Eq.trans (b:= .tup [.one (.d (.list (List.map keyC (((cutI2 t s e).take j).map fun n=>(n,atL t n))))),.one (.d (.v (.int .i64 (0))))]) ?_ rfl
        have hE:=ZsJ hb h55
        rw [ZiH hE,hE,← Zj4 ht0 s e,List.take_of_length_le (by omega)]
        all_goals rfl
     ·simp only [List.length_nil,List.length_cons] at hMe
      have hT:([[D.v (.int .i64 (s))]]++List.map iD (m :: M)).length≤1048580:=by simp only [List.length_append,List.length_cons,List.length_nil,List.length_map] at hMl ⊢;omega
      refine⟨⟨row1 rfl,(by show (([[D.v (.int .i64 (s))]]++List.map iD (m :: M)).length+1)*8≤_;omega),(by show (([[D.v (.int .i64 (s))]]++List.map iD (m :: M)).length+1)≤_;omega)⟩,?_⟩
      refine⟨fun e11=> ?_,fun e11=> ?_⟩
      ·have f55:(([[D.v (.int .i64 (s))]]++List.map iD (m :: M)++ [[D.v (.int .i64 (e))]]).length:Int) >60:=of_decide_eq_true e11
       refine Eq.trans (b:= .tup [.one (.d (.list ([]))),.one (.d (.v (.int .i64 (2))))]) ?_ rfl
       simp only [List.length_append,List.length_cons,List.length_nil,List.length_map] at f55
       have hE:=ZsI hb (show 60< (cutK t s e).length+2 by omega)
       rw [Zcj (by rw [hE];decide),hE]
       all_goals rfl
      ·have f55:¬ ((([[D.v (.int .i64 (s))]]++List.map iD (m :: M)++ [[D.v (.int .i64 (e))]]).length:Int) >60):=of_decide_eq_false e11
       have h55:¬ 60< (cutK t s e).length+2:=by simp only [List.length_append,List.length_cons,List.length_nil,List.length_map] at f55;omega
       have hlst: [[D.v (.int .i64 (s))]]++List.map iD (m :: M)++ [[D.v (.int .i64 (e))]]=List.map iD (cutI2 t s e):=by
        unfold cutI2
        rw [← hM];simp [iD]
       have hl5:(cutI2 t s e).length≤60:=by
        have:=congrArg List.length hlst
        rw [List.length_map] at this
        omega
       have hLi:(List.map iD (cutI2 t s e)).length=(cutI2 t s e).length:=List.length_map ..
       have hl6:=congrArg List.length hlst
       rw [hLi] at hl6
       refine⟨Nat,fun j=> [(0,.val (.one (.d (.list (List.map keyD t))))),(11,.val (.one (.row 70 0))),(56,.val (.one (.row 47 0))),(57,int (([[D.v (.int .i64 (s))]]++List.map iD (m :: M)++ [[D.v (.int .i64 (e))]]).length:Int)),(58,int (j:Int))],
        fun j=> [(47,.row 3 1 0 (List.map iD (cutI2 t s e)) true),(70,.row 123 2 0 (List.map keyC (((cutI2 t s e).take j).map fun n=>(n,atL t n))) true)],fun j=>j≤(cutI2 t s e).length,fun j=>(cutI2 t s e).length - j,0,?_,Nat.zero_le _,fun j hs=> ?_⟩
       ·constructor<;>(repeat' (first|exact rfl|exact True.intro|exact⟨_,_,rfl⟩|exact(by decide)|apply And.intro))
        all_goals first
         |exact hlst
         |exact hlst.symm
         |exact congrArg (fun l:List (List D)=>D.v (.int .i64 (l.length:Int))) hlst
         |(rw [hlst];done)
       have hT:(List.map keyC (((cutI2 t s e).take j).map fun n=>(n,atL t n))).length≤1048576:=by rw [List.length_map,List.length_map,List.length_take];omega
       refine⟨fun e12=> ?_,fun e12=> ?_⟩
       ·have f59:(j:Int)< (([[D.v (.int .i64 (s))]]++List.map iD (m :: M)++ [[D.v (.int .i64 (e))]]).length:Int):=of_decide_eq_true e12
        refine k_at_own' j (by first|rfl|omega|(rw [wrap64 _ (by omega) (by omega)];omega)|(rw [wrap64 _ (by omega) (by omega)];split<;>omega)) (by first|omega|(simp;omega)) ?_
        refine Zc (l:=(cutI2 t s e)) (i:=j) (by first|omega|exact Nat.mod_lt _ (by omega)) fun x61 hx61=> ?_
        have hjr:-9223372036854775808≤x61∧x61≤9223372036854775807:=Zj5 ht hs0 he0 (List.mem_of_getElem? hx61)
        refine ZfR [D.v (.int .i64 (x61))] _ (Zb hx61) rfl rfl ?_
        refine ZwS (t:=t) (x61) rfl (Zbd ht) hjr ?_
        refine Zlb (atL t x61) rfl (fun q hq=>Nat.le_trans ((ZlB ht hjr).1 q hq) (by decide)) (Nat.le_trans (ZlB ht hjr).2 (by decide)) ?_
        refine⟨⟨row1 rfl,(by show ((List.map keyC (((cutI2 t s e).take j).map fun n=>(n,atL t n))).length+1)*32≤_;omega),(by show ((List.map keyC (((cutI2 t s e).take j).map fun n=>(n,atL t n))).length+1)≤_;omega)⟩,?_⟩
        refine⟨j+1,by omega,by simp only;omega,?_⟩
        constructor<;>(repeat' (first|exact rfl|exact True.intro|apply And.intro))
        all_goals first
         |(rw [List.take_add_one,hx61,List.map_append,List.map_append];rfl)
         |exact congrArg (fun n:Int=>D.v (.int .i64 n)) (by rw [wrap64 _ (by omega) (by omega)];omega)
         |exact congrArg (fun n:Int=>D.v (.int .i64 n)) (by omega)
       ·have f59:¬ ((j:Int)< (([[D.v (.int .i64 (s))]]++List.map iD (m :: M)++ [[D.v (.int .i64 (e))]]).length:Int)):=of_decide_eq_false e12
        refine Eq.trans (b:= .tup [.one (.d (.list (List.map keyC (((cutI2 t s e).take j).map fun n=>(n,atL t n))))),.one (.d (.v (.int .i64 (0))))]) ?_ rfl
        have hE:=ZsJ hb h55
        rw [ZiH hE,hE,← Zj4 ht0 s e,List.take_of_length_le (by omega)]
        all_goals rfl
theorem ZjL {A:ArmV} {t:List (Int×List RV)} {s e:Int} (ht0:trackE A t=0) (ht:tz1 t) (hs:-9223372036854775808≤s∧s≤9223372036854775807) (he:-9223372036854775808≤e∧e≤9223372036854775807) (k:∀ n,n=ctE t s e→K (.tup [.one (.d (.list (List.map keyC (ctV t s e)))),.one (.d (.v (.int .i64 n)))])):Ask 75 [.val (.one (.d (.list (List.map keyD t)))),int s,int e] K:=use (ZmG t s e ht0 ht hs he) rfl (k _ rfl)
set_option maxHeartbeats 8000000 in
theorem ZiF {A:ArmV} (t:List (Int×List RV)) (d:Int) (ht0:trackE A t=0) (ht:tz1 t) (hd:-9223372036854775808≤d∧d≤9223372036854775807):Spec Tryz.prog Tab 76 [.val (.one (.d (.list (List.map keyD t)))),int d] (.tup [.one (.d (.list (List.map keyC (dyV t d)))),.one (.d (.v (.int .i64 (dyE t d))))]):=by
 have htl:=(Zcn ht0).2.1
 have ht6:=len60 ht0
 have hLt:(List.map keyD t).length=t.length:=List.length_map ..
 refine Za Tryz.func76 rfl rfl Tryz.ntmps76 rfl (by kernel_rfl) rfl rfl ?_
 refine fork (fun e1=> ?_) (fun e1=> ?_)
 ·have f10:d< -2000:=of_decide_eq_true e1
  refine⟨fun _=> ?_,fun e=>absurd e (by decide)⟩
  refine Eq.trans (b:= .tup [.one (.d (.list ([]))),.one (.d (.v (.int .i64 (1))))]) ?_ rfl
  have hbad:dlBad t d:=by
   unfold dlBad
   first|omega|(rw [htx16];omega)
  have hE:=ZmD hbad
  rw [ZdG (by rw [hE];decide),hE]
  all_goals rfl
 ·have f10:¬ (d< -2000):=of_decide_eq_false e1
  refine fork (fun e2=> ?_) (fun e2=> ?_)
  ·have f14:d >2000:=of_decide_eq_true e2
   refine⟨fun _=> ?_,fun e=>absurd e (by decide)⟩
   refine Eq.trans (b:= .tup [.one (.d (.list ([]))),.one (.d (.v (.int .i64 (1))))]) ?_ rfl
   have hbad:dlBad t d:=by
    unfold dlBad
    first|omega|(rw [htx16];omega)
   have hE:=ZmD hbad
   rw [ZdG (by rw [hE];decide),hE]
   all_goals rfl
  ·have f14:¬ (d >2000):=of_decide_eq_false e2
   refine Zc (l:=t) (i:=0) (by first|omega|exact Nat.mod_lt _ (by omega)) fun x16 hx16=> ?_
   have hkx16:=(ZaP ht0 hx16).1
   have htx16:=Zdd hx16
   refine k_ix 0 [D.v (.int .i64 (x16.1)),D.list (List.map rd x16.2)] (by first|rfl|omega|(rw [wrap64 _ (by omega) (by omega)];omega)|(rw [wrap64 _ (by omega) (by omega)];split<;>omega)) (Zb hx16) rfl ?_
   refine⟨fun e3=> ?_,fun e3=> ?_⟩
   ·have f22:IntKind.i64.wrap (x16.1+d)< 0:=of_decide_eq_true e3
    have hwf22:IntKind.i64.wrap (x16.1+d)=x16.1+d:=wrap64 _ (by omega) (by omega)
    rw [hwf22] at f22
    refine Eq.trans (b:= .tup [.one (.d (.list ([]))),.one (.d (.v (.int .i64 (1))))]) ?_ rfl
    have hbad:dlBad t d:=by
     unfold dlBad
     first|omega|(rw [htx16];omega)
    have hE:=ZmD hbad
    rw [ZdG (by rw [hE];decide),hE]
    all_goals rfl
   ·have f22:¬ (IntKind.i64.wrap (x16.1+d)< 0):=of_decide_eq_false e3
    have hwf22:IntKind.i64.wrap (x16.1+d)=x16.1+d:=wrap64 _ (by omega) (by omega)
    rw [hwf22] at f22
    have hb:¬ dlBad t d:=by unfold dlBad;rw [htx16];omega
    refine Zc (l:=t) (i:=(t.length - 1)) (by first|omega|exact Nat.mod_lt _ (by omega)) fun x27 hx27=> ?_
    have hkx27:=(ZaP ht0 hx27).1
    have htx27:=Zdd hx27
    refine k_ix (t.length - 1) [D.v (.int .i64 (x27.1)),D.list (List.map rd x27.2)] (by first|rfl|omega|(rw [wrap64 _ (by omega) (by omega)];omega)|(rw [wrap64 _ (by omega) (by omega)];split<;>omega)) (Zb hx27) rfl ?_
    refine⟨fun e4=> ?_,fun e4=> ?_⟩
    ·have f32:IntKind.i64.wrap (x27.1+d) >2000:=of_decide_eq_true e4
     have hwf32:IntKind.i64.wrap (x27.1+d)=x27.1+d:=wrap64 _ (by omega) (by omega)
     rw [hwf32] at f32
     rw [← htx27] at f32
     refine Eq.trans (b:= .tup [.one (.d (.list ([]))),.one (.d (.v (.int .i64 (19))))]) ?_ rfl
     have hE:=Zw3 hb (by omega)
     rw [ZdG (by rw [hE];decide),hE]
     all_goals rfl
    ·have f32:¬ (IntKind.i64.wrap (x27.1+d) >2000):=of_decide_eq_false e4
     have hwf32:IntKind.i64.wrap (x27.1+d)=x27.1+d:=wrap64 _ (by omega) (by omega)
     rw [hwf32] at f32
     have hlate:¬ 2000< (tAt t (t.length - 1)).1+d:=by rw [htx27];omega
     refine ZwG (t:=t) ht ?_
     have hLg:(List.map keyC (List.map gdK t)).length=t.length:=by rw [List.length_map,List.length_map]
     refine⟨Nat,fun n=> [(1,int d),(6,.val (.one (.row 34 0))),(36,int ((List.map keyC (List.map gdK t)).length:Int)),(37,int (n:Int))],
      fun n=> [(34,.row 123 2 0 (List.map keyC (dlT t d n)) true)],fun n=>n≤t.length,fun n=>t.length - n,0,?_,Nat.zero_le _,fun n hs=> ?_⟩
     ·constructor<;>(repeat' (first|exact rfl|exact True.intro|exact⟨_,_,rfl⟩|exact(by decide)|apply And.intro))
      all_goals first
       |(rw [Zw6];done)
       |exact congrArg (fun n:Int=>D.v (.int .i64 n)) (by simp)
     have hT:(List.map keyC (dlT t d n)).length=t.length:=by rw [List.length_map,ZjY]
     refine⟨fun e5=> ?_,fun e5=> ?_⟩
     ·have f38:(n:Int)< ((List.map keyC (List.map gdK t)).length:Int):=of_decide_eq_true e5
      refine k_at_own' n (by first|rfl|omega|(rw [wrap64 _ (by omega) (by omega)];omega)|(rw [wrap64 _ (by omega) (by omega)];split<;>omega)) (by first|omega|(simp;omega)) ?_
      refine Zc (l:=t) (i:=n) (by omega) fun xk hxk=> ?_
      have hkk:=ZaP ht0 hxk
      refine ZfR [D.v (.int .i64 (xk.1)),D.list (List.map rdc (qsL xk.2))] _ (by rw [List.getElem?_map,ZpT hxk];rfl) rfl rfl ?_
      refine k_at_own' n (by first|rfl|omega|(rw [wrap64 _ (by omega) (by omega)];omega)|(rw [wrap64 _ (by omega) (by omega)];split<;>omega)) (by first|omega|(simp;omega)) ?_
      refine⟨by first|omega|(simp;omega),?_⟩
      have hwr:IntKind.i64.wrap (xk.1+d)=xk.1+d:=wrap64 _ (by omega) (by omega)
      refine⟨n+1,by omega,by simp only;omega,?_⟩
      constructor<;>(repeat' (first|exact rfl|exact True.intro|apply And.intro))
      all_goals first
       |(rw [hwr];exact(Zw5 hxk).symm)
       |exact congrArg (fun n:Int=>D.v (.int .i64 n)) (by rw [wrap64 _ (by omega) (by omega)];omega)
       |exact congrArg (fun n:Int=>D.v (.int .i64 n)) (by omega)
     ·have f38:¬ ((n:Int)< ((List.map keyC (List.map gdK t)).length:Int)):=of_decide_eq_false e5
      refine Eq.trans (b:= .tup [.one (.d (.list (List.map keyC (dlT t d n)))),.one (.d (.v (.int .i64 (0))))]) ?_ rfl
      have hn:n=t.length:=by omega
      have hE:=Zw4 hb hlate
      rw [ZpQ hE,hE,← hn]
      all_goals rfl
theorem Zfr {A:ArmV} {t:List (Int×List RV)} {d:Int} (ht0:trackE A t=0) (ht:tz1 t) (hd:-9223372036854775808≤d∧d≤9223372036854775807) (k:∀ n,n=dyE t d→K (.tup [.one (.d (.list (List.map keyC (dyV t d)))),.one (.d (.v (.int .i64 n)))])):Ask 76 [.val (.one (.d (.list (List.map keyD t)))),int d] K:=use (ZiF t d ht0 ht hd) rfl (k _ rfl)
end
end Go.Proofs.YtpfemjpgbpnpkaaGreatDoor.eng
