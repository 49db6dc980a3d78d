/- Contracts: ways: equal lists, what a sample way gives; the law PathFrees. Printed by wip/gp_way.py. -/
import Derived.Test.YtpejadencgfnnaaGreatDoorGrpG
import Derived.Test.YtpejadencgfnnaaGreatDoorGrpU
import Derived.Test.YtpejadencgfnnaaGreatDoorGrpX
import Derived.Test.YtpejadencgfnnaaGreatDoorOpenA
namespace Go.Proofs.YtpejadencgfnnaaGreatDoor.eng
open Go.RowKit num mem seg q held ratA ratB ratC ratD ratE vars ratF argopen trq
section
variable {K : AV → Prop}
theorem Zms {A:ArmV} (hA:armE A=0) (h1:A.links.length=1) {q r:List RV} (hq:q.length=1) (hr:r.length=1):motE A q r [] 1=0:=by
 refine Zc2.2 ⟨ZaY.2 ⟨hA,by omega⟩,?_,Zfi (by decide) (fun j hj=>absurd hj (Nat.not_lt_zero j))⟩
 unfold splitBad;omega
theorem ZqM (A:ArmV) (R:List (List (RV×RV))):provedB A R []=true:=by
 unfold provedB
 rw [List.all_eq_true]
 intro row _
 rw [List.all_eq_true]
 intro b _
 rfl
theorem ZqN (n:Nat):(natRV [n]).length=1:=rfl
def smpW:List (List RV):= [natRV [0],natRV [1]]
theorem Zqx:armE (sampA [3])=0:=ZiS (by decide) (by decide) (by decide)
theorem ZpP:wayE (sampA [3]) smpW [] 1=0∧wayB (sampA [3]) smpW [] 1=true:=by
 have hb:wayBase (sampA [3]) smpW=0:=ZcU Zqx (by decide) (by decide)
 have f0:wayF (sampA [3]) smpW [] 1 0=0:=by rw [Zbh,hb]
 have s0:stE (sampA [3]) smpW [] 1 0=0:=Zms Zqx rfl rfl rfl
 have s1:stE (sampA [3]) smpW [] 1 1=0:=Zms Zqx rfl rfl rfl
 have f1:wayF (sampA [3]) smpW [] 1 1=0:=by rw [Zz f0,s0]
 have f2:wayF (sampA [3]) smpW [] 1 2=0:=by rw [Zz f1,s1]
 have hE:wayE (sampA [3]) smpW [] 1=0:=f2
 refine⟨hE,?_⟩
 rw [Zba hE]
 show wayG (sampA [3]) smpW [] 1 2=true
 have b:∀ i,stB (sampA [3]) smpW [] 1 i=true:=fun i=>ZqM _ _
 rw [Zn,Zn,f1,f2,b,b]
 rfl
theorem ZoQ {n:Nat} (h:n< 256):(natRV [n]).length≤1048576∧∀ x,x∈natRV [n]→x.z≤1048576:=⟨by rw [ZqN];omega,fun x hx=>Nat.le_trans (ZqO (fun m hm=>by obtain rfl:=List.mem_singleton.1 hm;exact h) x hx) (by decide)⟩
theorem ZrQ:smpW.length≤1048576∧∀ q,q∈smpW→q.length≤1048576∧∀ x,x∈q→x.z≤1048576:=by
 refine⟨by decide,fun q hq=> ?_⟩
 have h:q=natRV [0]∨q=natRV [1]:=by simpa [smpW] using hq
 rcases h with rfl|rfl<;>exact ZoQ (by decide)
theorem noW:([]:List (List (RV×RV))).length≤1048576∧∀ m,m∈([]:List (List (RV×RV)))→m.length≤1048576∧∀ p,p∈m→p.1.z≤1048576∧p.2.z≤1048576:=⟨by decide,fun m hm=>by simp at hm⟩
set_option maxHeartbeats 8000000 in
set_option maxRecDepth 100000 in
theorem Zet (A:ArmV) (L:List (List RV)) (Wl:List (List (RV×RV))) (o:Int) (hA:A.ok) (hL:L.length≤1048576∧∀ q,q∈L→q.length≤1048576∧∀ x,x∈q→x.z≤1048576) (hW:Wl.length≤1048576∧∀ m,m∈Wl→m.length≤1048576∧∀ p,p∈m→p.1.z≤1048576∧p.2.z≤1048576) (ho:-9223372036854775808≤o∧o≤9223372036854775807):Spec Tryz.prog Tab 5 [.val (.agg [.d (.v (.string A.name)),.d (.v (.bool A.bx.s)),.d (.v (.string A.bx.a)),.d (.v (.string A.bx.d)),.d (.v (.bool A.by'.s)),.d (.v (.string A.by'.a)),.d (.v (.string A.by'.d)),.d (.v (.bool (A.bh))),.d (.v (.bool A.bt.s)),.d (.v (.string A.bt.a)),.d (.v (.string A.bt.d)),.d (.list (List.map lk A.links))]),.val (.one (.d (.list (List.map rdrs L)))),.val (.one (.d (.list (List.map rdvs Wl)))),int o] (bool true):=by
 have hA2:=hA
 have hLL:(List.map rdrs L).length=L.length:=List.length_map ..
 have hL1:=hL.1
 have o3:(sampA [3]).ok:=Zi2 (Zop (by decide) (by decide)) (by decide)
 have a3:armE (sampA [3])=0:=ZiS (by decide) (by decide) (by decide)
 refine Za Tryz.func5 rfl rfl Tryz.ntmps5 rfl (by kernel_rfl) rfl rfl ?_
 refine Zo8 [3] rfl (by decide) (by decide) ?_
 refine ZmW [0] rfl (by decide) (by decide) ?_
 refine ZmW [1] rfl (by decide) (by decide) ?_
 refine ZgZ (A:=sampA [3]) (L:=smpW) (Wl:= []) (o:=1) o3 ZrQ noW (by decide) fun b24 n24 hb24 hk_24_2=> ?_
 obtain rfl:=hb24.trans ZpP.2
 obtain rfl:=hk_24_2.trans ZpP.1
 refine⟨fun e=>absurd e (by decide),fun _=> ?_⟩
 refine Ze1 (A:=A) (by assumption) fun n34 hk_34_1=> ?_
 refine⟨fun e1=> ?_,fun e1=> ?_⟩
 ·have f35:n34≠0:=ZaF e1
  have hB:=ZdK (L:=L) (by rw [← hk_34_1];exact f35)
  rw [← hk_34_1] at hB
  have hB0:wayF A L Wl o 0=n34:=by rw [Zbh];exact hB
  refine⟨Nat,fun i=> [(1,.val (.one (.d (.list (List.map rdrs L))))),(2,.val (.one (.d (.list (List.map rdvs Wl))))),(3,int o),(4,.val (.one (.ptr 4 0))),(11,int (wayF A L Wl o i)),(12,bool (wayG A L Wl o i)),(47,int ((List.map rdrs L).length:Int)),(48,int (i:Int))],
   fun i=> [(4,.var 32 [.d (.v (.string A.name)),.d (.v (.bool A.bx.s)),.d (.v (.string A.bx.a)),.d (.v (.string A.bx.d)),.d (.v (.bool A.by'.s)),.d (.v (.string A.by'.a)),.d (.v (.string A.by'.d)),.d (.v (.bool (A.bh))),.d (.v (.bool A.bt.s)),.d (.v (.string A.bt.a)),.d (.v (.string A.bt.d)),.d (.list (List.map lk A.links))])],fun i=>i≤L.length,fun i=>L.length - i,0,?_,Nat.zero_le _,fun i hs=> ?_⟩
  ·constructor<;>(repeat' (first|exact rfl|exact True.intro|exact⟨_,_,rfl⟩|exact(by decide)|apply And.intro))
   all_goals first
    |exact congrArg (fun n:Int=>D.v (.int .i64 n)) hB0
    |exact congrArg (fun n:Int=>D.v (.int .i64 n)) hB0.symm
    |exact congrArg (fun n:Int=>D.v (.int .i64 n)) (by omega)
    |(simp;done)
  refine⟨fun e2=> ?_,fun e2=> ?_⟩
  ·have f49:(i:Int)< ((List.map rdrs L).length:Int):=of_decide_eq_true e2
   refine⟨fun e3=> ?_,fun e3=> ?_⟩
   ·have f52:wayF A L Wl o i=0:=Z5 e3
    refine Zx (l:=L) (i:=(i - 1)) (by first|omega|exact Nat.mod_lt _ (by omega)) fun x58 hx58=> ?_
    have hwx58:=Zb4 hx58
    have hzx58:=hL.2 x58 (List.mem_of_getElem? hx58)
    refine k_ix (i - 1) [D.list (List.map rd x58)] (by first|rfl|omega|(rw [wrap64 _ (by omega) (by omega)];omega)|(rw [wrap64 _ (by omega) (by omega)];split<;>omega)) (Ze hx58) rfl ?_
    refine Zx (l:=L) (i:=i) (by first|omega|exact Nat.mod_lt _ (by omega)) fun x62 hx62=> ?_
    have hwx62:=Zb4 hx62
    have hzx62:=hL.2 x62 (List.mem_of_getElem? hx62)
    refine k_ix i [D.list (List.map rd x62)] (by first|rfl|omega|(rw [wrap64 _ (by omega) (by omega)];omega)|(rw [wrap64 _ (by omega) (by omega)];split<;>omega)) (Ze hx62) rfl ?_
    refine ZfQ (A:=A) (l:=x58) (m:=x62) (Wl:=Wl) (o:=o) hA2 hzx58 hzx62 hW ho fun n66 hk_66_1=> ?_
    have hst:stE A L Wl o i=n66:=by rw [hk_66_1];unfold stE;rw [hwx58,hwx62]
    refine⟨by kernel_rfl,?_⟩
    refine fork (fun e4=> ?_) (fun e4=> ?_)
    ·have f68:wayG A L Wl o i=true:=e4
     refine fork (fun e5=> ?_) (fun e5=> ?_)
     ·have f72:n66=0:=Z5 e5
      refine k_ix (i - 1) [D.list (List.map rd x58)] (by first|rfl|omega|(rw [wrap64 _ (by omega) (by omega)];omega)|(rw [wrap64 _ (by omega) (by omega)];split<;>omega)) (Ze hx58) rfl ?_
      refine k_ix i [D.list (List.map rd x62)] (by first|rfl|omega|(rw [wrap64 _ (by omega) (by omega)];omega)|(rw [wrap64 _ (by omega) (by omega)];split<;>omega)) (Ze hx62) rfl ?_
      have hm0:motE A x58 x62 Wl o=0:=by rw [← hk_66_1];exact f72
      refine ZcG (A:=A) (l:=x58) (m:=x62) (Wl:=Wl) (o:=o) hA2 hzx58 hzx62 hW hm0 fun b86 hb86=> ?_
      refine⟨by kernel_rfl,?_⟩
      have hF1:wayF A L Wl o (i+1)=n66:=by rw [Zz (by exact f52),hst]
      have hsb:b86=stB A L Wl o i:=by rw [hb86];unfold stB;rw [hwx58,hwx62]
      have hG:wayG A L Wl o (i+1)=b86:=by rw [Zn,f68,hF1,show n66=0 from f72,← hsb];simp
      refine⟨i+1,by omega,by simp only;omega,?_⟩
      constructor<;>(repeat' (first|exact rfl|exact True.intro|apply And.intro))
      all_goals first
       |exact congrArg (fun n:Int=>D.v (.int .i64 n)) hF1
       |exact congrArg (fun n:Int=>D.v (.int .i64 n)) hF1.symm
       |exact congrArg (fun b:Bool=>D.v (.bool b)) hG
       |exact congrArg (fun b:Bool=>D.v (.bool b)) hG.symm
       |exact congrArg (fun n:Int=>D.v (.int .i64 n)) (by rw [wrap64 _ (by omega) (by omega)];omega)
       |exact congrArg (fun n:Int=>D.v (.int .i64 n)) (by omega)
     ·have f72:¬ (n66=0):=Z6 e5
      refine⟨by kernel_rfl,?_⟩
      have hF1:wayF A L Wl o (i+1)=n66:=by rw [Zz (by exact f52),hst]
      have hG:wayG A L Wl o (i+1)=false:=by rw [Zn,decide_eq_false (by rw [hF1];exact f72)];simp
      refine⟨i+1,by omega,by simp only;omega,?_⟩
      constructor<;>(repeat' (first|exact rfl|exact True.intro|apply And.intro))
      all_goals first
       |exact congrArg (fun n:Int=>D.v (.int .i64 n)) hF1
       |exact congrArg (fun n:Int=>D.v (.int .i64 n)) hF1.symm
       |exact congrArg (fun b:Bool=>D.v (.bool b)) hG
       |exact congrArg (fun b:Bool=>D.v (.bool b)) hG.symm
       |exact congrArg (fun n:Int=>D.v (.int .i64 n)) (by rw [wrap64 _ (by omega) (by omega)];omega)
       |exact congrArg (fun n:Int=>D.v (.int .i64 n)) (by omega)
    ·have f68:¬ (wayG A L Wl o i=true):=fun hh=>Zal hh e4
     refine⟨by kernel_rfl,?_⟩
     have hF1:wayF A L Wl o (i+1)=n66:=by rw [Zz (by exact f52),hst]
     have hG:wayG A L Wl o (i+1)=false:=by rw [Zn,Bool.eq_false_iff.2 f68];rfl
     refine⟨i+1,by omega,by simp only;omega,?_⟩
     constructor<;>(repeat' (first|exact rfl|exact True.intro|apply And.intro))
     all_goals first
      |exact congrArg (fun n:Int=>D.v (.int .i64 n)) hF1
      |exact congrArg (fun n:Int=>D.v (.int .i64 n)) hF1.symm
      |exact congrArg (fun b:Bool=>D.v (.bool b)) hG
      |exact congrArg (fun b:Bool=>D.v (.bool b)) hG.symm
      |exact congrArg (fun n:Int=>D.v (.int .i64 n)) (by rw [wrap64 _ (by omega) (by omega)];omega)
      |exact congrArg (fun n:Int=>D.v (.int .i64 n)) (by omega)
   ·have f52:¬ (wayF A L Wl o i=0):=Z6 e3
    refine fork (fun e6=> ?_) (fun e6=> ?_)
    ·have f68:wayG A L Wl o i=true:=e6
     refine fork (fun e7=> ?_) (fun e7=> ?_)
     ·have f72:wayF A L Wl o i=0:=Z5 e7
      exfalso
      exact f52 f72
     ·have f72:¬ (wayF A L Wl o i=0):=Z6 e7
      refine⟨by kernel_rfl,?_⟩
      have hF1:wayF A L Wl o (i+1)=wayF A L Wl o i:=Zam (by exact f52)
      have hG:wayG A L Wl o (i+1)=false:=by rw [Zn,decide_eq_false (by rw [hF1];exact f72)];simp
      refine⟨i+1,by omega,by simp only;omega,?_⟩
      constructor<;>(repeat' (first|exact rfl|exact True.intro|apply And.intro))
      all_goals first
       |exact congrArg (fun n:Int=>D.v (.int .i64 n)) hF1
       |exact congrArg (fun n:Int=>D.v (.int .i64 n)) hF1.symm
       |exact congrArg (fun b:Bool=>D.v (.bool b)) hG
       |exact congrArg (fun b:Bool=>D.v (.bool b)) hG.symm
       |exact congrArg (fun n:Int=>D.v (.int .i64 n)) (by rw [wrap64 _ (by omega) (by omega)];omega)
       |exact congrArg (fun n:Int=>D.v (.int .i64 n)) (by omega)
    ·have f68:¬ (wayG A L Wl o i=true):=fun hh=>Zal hh e6
     refine⟨by kernel_rfl,?_⟩
     have hF1:wayF A L Wl o (i+1)=wayF A L Wl o i:=Zam (by exact f52)
     have hG:wayG A L Wl o (i+1)=false:=by rw [Zn,Bool.eq_false_iff.2 f68];rfl
     refine⟨i+1,by omega,by simp only;omega,?_⟩
     constructor<;>(repeat' (first|exact rfl|exact True.intro|apply And.intro))
     all_goals first
      |exact congrArg (fun n:Int=>D.v (.int .i64 n)) hF1
      |exact congrArg (fun n:Int=>D.v (.int .i64 n)) hF1.symm
      |exact congrArg (fun b:Bool=>D.v (.bool b)) hG
      |exact congrArg (fun b:Bool=>D.v (.bool b)) hG.symm
      |exact congrArg (fun n:Int=>D.v (.int .i64 n)) (by rw [wrap64 _ (by omega) (by omega)];omega)
      |exact congrArg (fun n:Int=>D.v (.int .i64 n)) (by omega)
  ·have f49:¬ ((i:Int)< ((List.map rdrs L).length:Int)):=of_decide_eq_false e2
   refine ZgZ (A:=A) (L:=L) (Wl:=Wl) (o:=o) hA2 hL hW ho fun b94 n94 hb94 hk_94_2=> ?_
   refine fork (fun e8=> ?_) (fun e8=> ?_)
   ·have f100:n94=wayF A L Wl o i:=Z5 e8
    refine fork (fun e9=> ?_) (fun e9=> ?_)
    ·have f104:wayF A L Wl o i=0:=Z5 e9
     refine ZH (fun _=> ?_) (fun hh=>absurd (by
      have hi:i=L.length:=by omega
      first
       |rw [hb94,Zba (show wayE A L Wl o=0 from by unfold wayE;rw [← hi];exact f104),← hi]
       |rw [hb94,ZaI (show ¬ wayE A L Wl o=0 from by unfold wayE;rw [← hi];exact f104)]) hh)
     refine Eq.trans (b:=bool true) ?_ rfl
     rfl
    ·have f104:¬ (wayF A L Wl o i=0):=Z6 e9
     refine ZH (fun _=> ?_) (fun hh=>absurd (by
      have hi:i=L.length:=by omega
      first
       |rw [hb94,Zba (show wayE A L Wl o=0 from by unfold wayE;rw [← hi];exact f104),← hi]
       |rw [hb94,ZaI (show ¬ wayE A L Wl o=0 from by unfold wayE;rw [← hi];exact f104)]) hh)
     refine Eq.trans (b:=bool true) ?_ rfl
     rfl
   ·have f100:¬ (n94=wayF A L Wl o i):=Z6 e8
    exfalso
    exact f100 (by rw [hk_94_2];unfold wayE;rw [show i=L.length by omega])
 ·have f35:¬ (n34≠0):=fun hh=>hh (ZaG e1)
  refine⟨fun e10=> ?_,fun e10=> ?_⟩
  ·have f38:((List.map rdrs L).length:Int)=0:=Z5 e10
   have hA0:armE A=0:=by rw [← hk_34_1];exact Classical.not_not.1 f35
   have hB:=ZdI hA0 (show L.length=0 by omega)
   have hB0:wayF A L Wl o 0=14:=by rw [Zbh];exact hB
   refine⟨Nat,fun i=> [(1,.val (.one (.d (.list (List.map rdrs L))))),(2,.val (.one (.d (.list (List.map rdvs Wl))))),(3,int o),(4,.val (.one (.ptr 4 0))),(11,int (wayF A L Wl o i)),(12,bool (wayG A L Wl o i)),(47,int ((List.map rdrs L).length:Int)),(48,int (i:Int))],
    fun i=> [(4,.var 32 [.d (.v (.string A.name)),.d (.v (.bool A.bx.s)),.d (.v (.string A.bx.a)),.d (.v (.string A.bx.d)),.d (.v (.bool A.by'.s)),.d (.v (.string A.by'.a)),.d (.v (.string A.by'.d)),.d (.v (.bool (A.bh))),.d (.v (.bool A.bt.s)),.d (.v (.string A.bt.a)),.d (.v (.string A.bt.d)),.d (.list (List.map lk A.links))])],fun i=>i≤L.length,fun i=>L.length - i,0,?_,Nat.zero_le _,fun i hs=> ?_⟩
   ·constructor<;>(repeat' (first|exact rfl|exact True.intro|exact⟨_,_,rfl⟩|exact(by decide)|apply And.intro))
    all_goals first
     |exact congrArg (fun n:Int=>D.v (.int .i64 n)) hB0
     |exact congrArg (fun n:Int=>D.v (.int .i64 n)) hB0.symm
     |exact congrArg (fun n:Int=>D.v (.int .i64 n)) (by omega)
     |(simp;done)
   refine⟨fun e11=> ?_,fun e11=> ?_⟩
   ·have f49:(i:Int)< ((List.map rdrs L).length:Int):=of_decide_eq_true e11
    refine⟨fun e12=> ?_,fun e12=> ?_⟩
    ·have f52:wayF A L Wl o i=0:=Z5 e12
     refine Zx (l:=L) (i:=(i - 1)) (by first|omega|exact Nat.mod_lt _ (by omega)) fun x58 hx58=> ?_
     have hwx58:=Zb4 hx58
     have hzx58:=hL.2 x58 (List.mem_of_getElem? hx58)
     refine k_ix (i - 1) [D.list (List.map rd x58)] (by first|rfl|omega|(rw [wrap64 _ (by omega) (by omega)];omega)|(rw [wrap64 _ (by omega) (by omega)];split<;>omega)) (Ze hx58) rfl ?_
     refine Zx (l:=L) (i:=i) (by first|omega|exact Nat.mod_lt _ (by omega)) fun x62 hx62=> ?_
     have hwx62:=Zb4 hx62
     have hzx62:=hL.2 x62 (List.mem_of_getElem? hx62)
     refine k_ix i [D.list (List.map rd x62)] (by first|rfl|omega|(rw [wrap64 _ (by omega) (by omega)];omega)|(rw [wrap64 _ (by omega) (by omega)];split<;>omega)) (Ze hx62) rfl ?_
     refine ZfQ (A:=A) (l:=x58) (m:=x62) (Wl:=Wl) (o:=o) hA2 hzx58 hzx62 hW ho fun n66 hk_66_1=> ?_
     have hst:stE A L Wl o i=n66:=by rw [hk_66_1];unfold stE;rw [hwx58,hwx62]
     refine⟨by kernel_rfl,?_⟩
     refine fork (fun e13=> ?_) (fun e13=> ?_)
     ·have f68:wayG A L Wl o i=true:=e13
      refine fork (fun e14=> ?_) (fun e14=> ?_)
      ·have f72:n66=0:=Z5 e14
       refine k_ix (i - 1) [D.list (List.map rd x58)] (by first|rfl|omega|(rw [wrap64 _ (by omega) (by omega)];omega)|(rw [wrap64 _ (by omega) (by omega)];split<;>omega)) (Ze hx58) rfl ?_
       refine k_ix i [D.list (List.map rd x62)] (by first|rfl|omega|(rw [wrap64 _ (by omega) (by omega)];omega)|(rw [wrap64 _ (by omega) (by omega)];split<;>omega)) (Ze hx62) rfl ?_
       have hm0:motE A x58 x62 Wl o=0:=by rw [← hk_66_1];exact f72
       refine ZcG (A:=A) (l:=x58) (m:=x62) (Wl:=Wl) (o:=o) hA2 hzx58 hzx62 hW hm0 fun b86 hb86=> ?_
       refine⟨by kernel_rfl,?_⟩
       have hF1:wayF A L Wl o (i+1)=n66:=by rw [Zz (by exact f52),hst]
       have hsb:b86=stB A L Wl o i:=by rw [hb86];unfold stB;rw [hwx58,hwx62]
       have hG:wayG A L Wl o (i+1)=b86:=by rw [Zn,f68,hF1,show n66=0 from f72,← hsb];simp
       refine⟨i+1,by omega,by simp only;omega,?_⟩
       constructor<;>(repeat' (first|exact rfl|exact True.intro|apply And.intro))
       all_goals first
        |exact congrArg (fun n:Int=>D.v (.int .i64 n)) hF1
        |exact congrArg (fun n:Int=>D.v (.int .i64 n)) hF1.symm
        |exact congrArg (fun b:Bool=>D.v (.bool b)) hG
        |exact congrArg (fun b:Bool=>D.v (.bool b)) hG.symm
        |exact congrArg (fun n:Int=>D.v (.int .i64 n)) (by rw [wrap64 _ (by omega) (by omega)];omega)
        |exact congrArg (fun n:Int=>D.v (.int .i64 n)) (by omega)
      ·have f72:¬ (n66=0):=Z6 e14
       refine⟨by kernel_rfl,?_⟩
       have hF1:wayF A L Wl o (i+1)=n66:=by rw [Zz (by exact f52),hst]
       have hG:wayG A L Wl o (i+1)=false:=by rw [Zn,decide_eq_false (by rw [hF1];exact f72)];simp
       refine⟨i+1,by omega,by simp only;omega,?_⟩
       constructor<;>(repeat' (first|exact rfl|exact True.intro|apply And.intro))
       all_goals first
        |exact congrArg (fun n:Int=>D.v (.int .i64 n)) hF1
        |exact congrArg (fun n:Int=>D.v (.int .i64 n)) hF1.symm
        |exact congrArg (fun b:Bool=>D.v (.bool b)) hG
        |exact congrArg (fun b:Bool=>D.v (.bool b)) hG.symm
        |exact congrArg (fun n:Int=>D.v (.int .i64 n)) (by rw [wrap64 _ (by omega) (by omega)];omega)
        |exact congrArg (fun n:Int=>D.v (.int .i64 n)) (by omega)
     ·have f68:¬ (wayG A L Wl o i=true):=fun hh=>Zal hh e13
      refine⟨by kernel_rfl,?_⟩
      have hF1:wayF A L Wl o (i+1)=n66:=by rw [Zz (by exact f52),hst]
      have hG:wayG A L Wl o (i+1)=false:=by rw [Zn,Bool.eq_false_iff.2 f68];rfl
      refine⟨i+1,by omega,by simp only;omega,?_⟩
      constructor<;>(repeat' (first|exact rfl|exact True.intro|apply And.intro))
      all_goals first
       |exact congrArg (fun n:Int=>D.v (.int .i64 n)) hF1
       |exact congrArg (fun n:Int=>D.v (.int .i64 n)) hF1.symm
       |exact congrArg (fun b:Bool=>D.v (.bool b)) hG
       |exact congrArg (fun b:Bool=>D.v (.bool b)) hG.symm
       |exact congrArg (fun n:Int=>D.v (.int .i64 n)) (by rw [wrap64 _ (by omega) (by omega)];omega)
       |exact congrArg (fun n:Int=>D.v (.int .i64 n)) (by omega)
    ·have f52:¬ (wayF A L Wl o i=0):=Z6 e12
     refine fork (fun e15=> ?_) (fun e15=> ?_)
     ·have f68:wayG A L Wl o i=true:=e15
      refine fork (fun e16=> ?_) (fun e16=> ?_)
      ·have f72:wayF A L Wl o i=0:=Z5 e16
       exfalso
       exact f52 f72
      ·have f72:¬ (wayF A L Wl o i=0):=Z6 e16
       refine⟨by kernel_rfl,?_⟩
       have hF1:wayF A L Wl o (i+1)=wayF A L Wl o i:=Zam (by exact f52)
       have hG:wayG A L Wl o (i+1)=false:=by rw [Zn,decide_eq_false (by rw [hF1];exact f72)];simp
       refine⟨i+1,by omega,by simp only;omega,?_⟩
       constructor<;>(repeat' (first|exact rfl|exact True.intro|apply And.intro))
       all_goals first
        |exact congrArg (fun n:Int=>D.v (.int .i64 n)) hF1
        |exact congrArg (fun n:Int=>D.v (.int .i64 n)) hF1.symm
        |exact congrArg (fun b:Bool=>D.v (.bool b)) hG
        |exact congrArg (fun b:Bool=>D.v (.bool b)) hG.symm
        |exact congrArg (fun n:Int=>D.v (.int .i64 n)) (by rw [wrap64 _ (by omega) (by omega)];omega)
        |exact congrArg (fun n:Int=>D.v (.int .i64 n)) (by omega)
     ·have f68:¬ (wayG A L Wl o i=true):=fun hh=>Zal hh e15
      refine⟨by kernel_rfl,?_⟩
      have hF1:wayF A L Wl o (i+1)=wayF A L Wl o i:=Zam (by exact f52)
      have hG:wayG A L Wl o (i+1)=false:=by rw [Zn,Bool.eq_false_iff.2 f68];rfl
      refine⟨i+1,by omega,by simp only;omega,?_⟩
      constructor<;>(repeat' (first|exact rfl|exact True.intro|apply And.intro))
      all_goals first
       |exact congrArg (fun n:Int=>D.v (.int .i64 n)) hF1
       |exact congrArg (fun n:Int=>D.v (.int .i64 n)) hF1.symm
       |exact congrArg (fun b:Bool=>D.v (.bool b)) hG
       |exact congrArg (fun b:Bool=>D.v (.bool b)) hG.symm
       |exact congrArg (fun n:Int=>D.v (.int .i64 n)) (by rw [wrap64 _ (by omega) (by omega)];omega)
       |exact congrArg (fun n:Int=>D.v (.int .i64 n)) (by omega)
   ·have f49:¬ ((i:Int)< ((List.map rdrs L).length:Int)):=of_decide_eq_false e11
    refine ZgZ (A:=A) (L:=L) (Wl:=Wl) (o:=o) hA2 hL hW ho fun b94 n94 hb94 hk_94_2=> ?_
    refine fork (fun e17=> ?_) (fun e17=> ?_)
    ·have f100:n94=wayF A L Wl o i:=Z5 e17
     refine fork (fun e18=> ?_) (fun e18=> ?_)
     ·have f104:wayF A L Wl o i=0:=Z5 e18
      refine ZH (fun _=> ?_) (fun hh=>absurd (by
       have hi:i=L.length:=by omega
       first
        |rw [hb94,Zba (show wayE A L Wl o=0 from by unfold wayE;rw [← hi];exact f104),← hi]
        |rw [hb94,ZaI (show ¬ wayE A L Wl o=0 from by unfold wayE;rw [← hi];exact f104)]) hh)
      refine Eq.trans (b:=bool true) ?_ rfl
      rfl
     ·have f104:¬ (wayF A L Wl o i=0):=Z6 e18
      refine ZH (fun _=> ?_) (fun hh=>absurd (by
       have hi:i=L.length:=by omega
       first
        |rw [hb94,Zba (show wayE A L Wl o=0 from by unfold wayE;rw [← hi];exact f104),← hi]
        |rw [hb94,ZaI (show ¬ wayE A L Wl o=0 from by unfold wayE;rw [← hi];exact f104)]) hh)
      refine Eq.trans (b:=bool true) ?_ rfl
      rfl
    ·have f100:¬ (n94=wayF A L Wl o i):=Z6 e17
     exfalso
     exact f100 (by rw [hk_94_2];unfold wayE;rw [show i=L.length by omega])
  ·have f38:¬ (((List.map rdrs L).length:Int)=0):=Z6 e10
   refine⟨fun e19=> ?_,fun e19=> ?_⟩
   ·have f42:((List.map rdrs L).length:Int) >60:=of_decide_eq_true e19
    have hA0:armE A=0:=by rw [← hk_34_1];exact Classical.not_not.1 f35
    have hB:=ZdJ hA0 (show 60< L.length by omega)
    have hB0:wayF A L Wl o 0=2:=by rw [Zbh];exact hB
    refine⟨Nat,fun i=> [(1,.val (.one (.d (.list (List.map rdrs L))))),(2,.val (.one (.d (.list (List.map rdvs Wl))))),(3,int o),(4,.val (.one (.ptr 4 0))),(11,int (wayF A L Wl o i)),(12,bool (wayG A L Wl o i)),(47,int ((List.map rdrs L).length:Int)),(48,int (i:Int))],
     fun i=> [(4,.var 32 [.d (.v (.string A.name)),.d (.v (.bool A.bx.s)),.d (.v (.string A.bx.a)),.d (.v (.string A.bx.d)),.d (.v (.bool A.by'.s)),.d (.v (.string A.by'.a)),.d (.v (.string A.by'.d)),.d (.v (.bool (A.bh))),.d (.v (.bool A.bt.s)),.d (.v (.string A.bt.a)),.d (.v (.string A.bt.d)),.d (.list (List.map lk A.links))])],fun i=>i≤L.length,fun i=>L.length - i,0,?_,Nat.zero_le _,fun i hs=> ?_⟩
    ·constructor<;>(repeat' (first|exact rfl|exact True.intro|exact⟨_,_,rfl⟩|exact(by decide)|apply And.intro))
     all_goals first
      |exact congrArg (fun n:Int=>D.v (.int .i64 n)) hB0
      |exact congrArg (fun n:Int=>D.v (.int .i64 n)) hB0.symm
      |exact congrArg (fun n:Int=>D.v (.int .i64 n)) (by omega)
      |(simp;done)
    refine⟨fun e20=> ?_,fun e20=> ?_⟩
    ·have f49:(i:Int)< ((List.map rdrs L).length:Int):=of_decide_eq_true e20
     refine⟨fun e21=> ?_,fun e21=> ?_⟩
     ·have f52:wayF A L Wl o i=0:=Z5 e21
      refine Zx (l:=L) (i:=(i - 1)) (by first|omega|exact Nat.mod_lt _ (by omega)) fun x58 hx58=> ?_
      have hwx58:=Zb4 hx58
      have hzx58:=hL.2 x58 (List.mem_of_getElem? hx58)
      refine k_ix (i - 1) [D.list (List.map rd x58)] (by first|rfl|omega|(rw [wrap64 _ (by omega) (by omega)];omega)|(rw [wrap64 _ (by omega) (by omega)];split<;>omega)) (Ze hx58) rfl ?_
      refine Zx (l:=L) (i:=i) (by first|omega|exact Nat.mod_lt _ (by omega)) fun x62 hx62=> ?_
      have hwx62:=Zb4 hx62
      have hzx62:=hL.2 x62 (List.mem_of_getElem? hx62)
      refine k_ix i [D.list (List.map rd x62)] (by first|rfl|omega|(rw [wrap64 _ (by omega) (by omega)];omega)|(rw [wrap64 _ (by omega) (by omega)];split<;>omega)) (Ze hx62) rfl ?_
      refine ZfQ (A:=A) (l:=x58) (m:=x62) (Wl:=Wl) (o:=o) hA2 hzx58 hzx62 hW ho fun n66 hk_66_1=> ?_
      have hst:stE A L Wl o i=n66:=by rw [hk_66_1];unfold stE;rw [hwx58,hwx62]
      refine⟨by kernel_rfl,?_⟩
      refine fork (fun e22=> ?_) (fun e22=> ?_)
      ·have f68:wayG A L Wl o i=true:=e22
       refine fork (fun e23=> ?_) (fun e23=> ?_)
       ·have f72:n66=0:=Z5 e23
        refine k_ix (i - 1) [D.list (List.map rd x58)] (by first|rfl|omega|(rw [wrap64 _ (by omega) (by omega)];omega)|(rw [wrap64 _ (by omega) (by omega)];split<;>omega)) (Ze hx58) rfl ?_
        refine k_ix i [D.list (List.map rd x62)] (by first|rfl|omega|(rw [wrap64 _ (by omega) (by omega)];omega)|(rw [wrap64 _ (by omega) (by omega)];split<;>omega)) (Ze hx62) rfl ?_
        have hm0:motE A x58 x62 Wl o=0:=by rw [← hk_66_1];exact f72
        refine ZcG (A:=A) (l:=x58) (m:=x62) (Wl:=Wl) (o:=o) hA2 hzx58 hzx62 hW hm0 fun b86 hb86=> ?_
        refine⟨by kernel_rfl,?_⟩
        have hF1:wayF A L Wl o (i+1)=n66:=by rw [Zz (by exact f52),hst]
        have hsb:b86=stB A L Wl o i:=by rw [hb86];unfold stB;rw [hwx58,hwx62]
        have hG:wayG A L Wl o (i+1)=b86:=by rw [Zn,f68,hF1,show n66=0 from f72,← hsb];simp
        refine⟨i+1,by omega,by simp only;omega,?_⟩
        constructor<;>(repeat' (first|exact rfl|exact True.intro|apply And.intro))
        all_goals first
         |exact congrArg (fun n:Int=>D.v (.int .i64 n)) hF1
         |exact congrArg (fun n:Int=>D.v (.int .i64 n)) hF1.symm
         |exact congrArg (fun b:Bool=>D.v (.bool b)) hG
         |exact congrArg (fun b:Bool=>D.v (.bool b)) hG.symm
         |exact congrArg (fun n:Int=>D.v (.int .i64 n)) (by rw [wrap64 _ (by omega) (by omega)];omega)
         |exact congrArg (fun n:Int=>D.v (.int .i64 n)) (by omega)
       ·have f72:¬ (n66=0):=Z6 e23
        refine⟨by kernel_rfl,?_⟩
        have hF1:wayF A L Wl o (i+1)=n66:=by rw [Zz (by exact f52),hst]
        have hG:wayG A L Wl o (i+1)=false:=by rw [Zn,decide_eq_false (by rw [hF1];exact f72)];simp
        refine⟨i+1,by omega,by simp only;omega,?_⟩
        constructor<;>(repeat' (first|exact rfl|exact True.intro|apply And.intro))
        all_goals first
         |exact congrArg (fun n:Int=>D.v (.int .i64 n)) hF1
         |exact congrArg (fun n:Int=>D.v (.int .i64 n)) hF1.symm
         |exact congrArg (fun b:Bool=>D.v (.bool b)) hG
         |exact congrArg (fun b:Bool=>D.v (.bool b)) hG.symm
         |exact congrArg (fun n:Int=>D.v (.int .i64 n)) (by rw [wrap64 _ (by omega) (by omega)];omega)
         |exact congrArg (fun n:Int=>D.v (.int .i64 n)) (by omega)
      ·have f68:¬ (wayG A L Wl o i=true):=fun hh=>Zal hh e22
       refine⟨by kernel_rfl,?_⟩
       have hF1:wayF A L Wl o (i+1)=n66:=by rw [Zz (by exact f52),hst]
       have hG:wayG A L Wl o (i+1)=false:=by rw [Zn,Bool.eq_false_iff.2 f68];rfl
       refine⟨i+1,by omega,by simp only;omega,?_⟩
       constructor<;>(repeat' (first|exact rfl|exact True.intro|apply And.intro))
       all_goals first
        |exact congrArg (fun n:Int=>D.v (.int .i64 n)) hF1
        |exact congrArg (fun n:Int=>D.v (.int .i64 n)) hF1.symm
        |exact congrArg (fun b:Bool=>D.v (.bool b)) hG
        |exact congrArg (fun b:Bool=>D.v (.bool b)) hG.symm
        |exact congrArg (fun n:Int=>D.v (.int .i64 n)) (by rw [wrap64 _ (by omega) (by omega)];omega)
        |exact congrArg (fun n:Int=>D.v (.int .i64 n)) (by omega)
     ·have f52:¬ (wayF A L Wl o i=0):=Z6 e21
      refine fork (fun e24=> ?_) (fun e24=> ?_)
      ·have f68:wayG A L Wl o i=true:=e24
       refine fork (fun e25=> ?_) (fun e25=> ?_)
       ·have f72:wayF A L Wl o i=0:=Z5 e25
        exfalso
        exact f52 f72
       ·have f72:¬ (wayF A L Wl o i=0):=Z6 e25
        refine⟨by kernel_rfl,?_⟩
        have hF1:wayF A L Wl o (i+1)=wayF A L Wl o i:=Zam (by exact f52)
        have hG:wayG A L Wl o (i+1)=false:=by rw [Zn,decide_eq_false (by rw [hF1];exact f72)];simp
        refine⟨i+1,by omega,by simp only;omega,?_⟩
        constructor<;>(repeat' (first|exact rfl|exact True.intro|apply And.intro))
        all_goals first
         |exact congrArg (fun n:Int=>D.v (.int .i64 n)) hF1
         |exact congrArg (fun n:Int=>D.v (.int .i64 n)) hF1.symm
         |exact congrArg (fun b:Bool=>D.v (.bool b)) hG
         |exact congrArg (fun b:Bool=>D.v (.bool b)) hG.symm
         |exact congrArg (fun n:Int=>D.v (.int .i64 n)) (by rw [wrap64 _ (by omega) (by omega)];omega)
         |exact congrArg (fun n:Int=>D.v (.int .i64 n)) (by omega)
      ·have f68:¬ (wayG A L Wl o i=true):=fun hh=>Zal hh e24
       refine⟨by kernel_rfl,?_⟩
       have hF1:wayF A L Wl o (i+1)=wayF A L Wl o i:=Zam (by exact f52)
       have hG:wayG A L Wl o (i+1)=false:=by rw [Zn,Bool.eq_false_iff.2 f68];rfl
       refine⟨i+1,by omega,by simp only;omega,?_⟩
       constructor<;>(repeat' (first|exact rfl|exact True.intro|apply And.intro))
       all_goals first
        |exact congrArg (fun n:Int=>D.v (.int .i64 n)) hF1
        |exact congrArg (fun n:Int=>D.v (.int .i64 n)) hF1.symm
        |exact congrArg (fun b:Bool=>D.v (.bool b)) hG
        |exact congrArg (fun b:Bool=>D.v (.bool b)) hG.symm
        |exact congrArg (fun n:Int=>D.v (.int .i64 n)) (by rw [wrap64 _ (by omega) (by omega)];omega)
        |exact congrArg (fun n:Int=>D.v (.int .i64 n)) (by omega)
    ·have f49:¬ ((i:Int)< ((List.map rdrs L).length:Int)):=of_decide_eq_false e20
     refine ZgZ (A:=A) (L:=L) (Wl:=Wl) (o:=o) hA2 hL hW ho fun b94 n94 hb94 hk_94_2=> ?_
     refine fork (fun e26=> ?_) (fun e26=> ?_)
     ·have f100:n94=wayF A L Wl o i:=Z5 e26
      refine fork (fun e27=> ?_) (fun e27=> ?_)
      ·have f104:wayF A L Wl o i=0:=Z5 e27
       refine ZH (fun _=> ?_) (fun hh=>absurd (by
        have hi:i=L.length:=by omega
        first
         |rw [hb94,Zba (show wayE A L Wl o=0 from by unfold wayE;rw [← hi];exact f104),← hi]
         |rw [hb94,ZaI (show ¬ wayE A L Wl o=0 from by unfold wayE;rw [← hi];exact f104)]) hh)
       refine Eq.trans (b:=bool true) ?_ rfl
       rfl
      ·have f104:¬ (wayF A L Wl o i=0):=Z6 e27
       refine ZH (fun _=> ?_) (fun hh=>absurd (by
        have hi:i=L.length:=by omega
        first
         |rw [hb94,Zba (show wayE A L Wl o=0 from by unfold wayE;rw [← hi];exact f104),← hi]
         |rw [hb94,ZaI (show ¬ wayE A L Wl o=0 from by unfold wayE;rw [← hi];exact f104)]) hh)
       refine Eq.trans (b:=bool true) ?_ rfl
       rfl
     ·have f100:¬ (n94=wayF A L Wl o i):=Z6 e26
      exfalso
      exact f100 (by rw [hk_94_2];unfold wayE;rw [show i=L.length by omega])
   ·have f42:¬ (((List.map rdrs L).length:Int) >60):=of_decide_eq_false e19
    have hA0:armE A=0:=by rw [← hk_34_1];exact Classical.not_not.1 f35
    have hB:=ZcU hA0 (show ¬ L.length=0 by omega) (show ¬ 60< L.length by omega)
    have hB:wayBase A L=n34:=by rw [hB];exact(Classical.not_not.1 f35).symm
    have hB0:wayF A L Wl o 0=n34:=by rw [Zbh];exact hB
    refine⟨Nat,fun i=> [(1,.val (.one (.d (.list (List.map rdrs L))))),(2,.val (.one (.d (.list (List.map rdvs Wl))))),(3,int o),(4,.val (.one (.ptr 4 0))),(11,int (wayF A L Wl o i)),(12,bool (wayG A L Wl o i)),(47,int ((List.map rdrs L).length:Int)),(48,int (i:Int))],
     fun i=> [(4,.var 32 [.d (.v (.string A.name)),.d (.v (.bool A.bx.s)),.d (.v (.string A.bx.a)),.d (.v (.string A.bx.d)),.d (.v (.bool A.by'.s)),.d (.v (.string A.by'.a)),.d (.v (.string A.by'.d)),.d (.v (.bool (A.bh))),.d (.v (.bool A.bt.s)),.d (.v (.string A.bt.a)),.d (.v (.string A.bt.d)),.d (.list (List.map lk A.links))])],fun i=>i≤L.length,fun i=>L.length - i,0,?_,Nat.zero_le _,fun i hs=> ?_⟩
    ·constructor<;>(repeat' (first|exact rfl|exact True.intro|exact⟨_,_,rfl⟩|exact(by decide)|apply And.intro))
     all_goals first
      |exact congrArg (fun n:Int=>D.v (.int .i64 n)) hB0
      |exact congrArg (fun n:Int=>D.v (.int .i64 n)) hB0.symm
      |exact congrArg (fun n:Int=>D.v (.int .i64 n)) (by omega)
      |(simp;done)
    refine⟨fun e28=> ?_,fun e28=> ?_⟩
    ·have f49:(i:Int)< ((List.map rdrs L).length:Int):=of_decide_eq_true e28
     refine⟨fun e29=> ?_,fun e29=> ?_⟩
     ·have f52:wayF A L Wl o i=0:=Z5 e29
      refine Zx (l:=L) (i:=(i - 1)) (by first|omega|exact Nat.mod_lt _ (by omega)) fun x58 hx58=> ?_
      have hwx58:=Zb4 hx58
      have hzx58:=hL.2 x58 (List.mem_of_getElem? hx58)
      refine k_ix (i - 1) [D.list (List.map rd x58)] (by first|rfl|omega|(rw [wrap64 _ (by omega) (by omega)];omega)|(rw [wrap64 _ (by omega) (by omega)];split<;>omega)) (Ze hx58) rfl ?_
      refine Zx (l:=L) (i:=i) (by first|omega|exact Nat.mod_lt _ (by omega)) fun x62 hx62=> ?_
      have hwx62:=Zb4 hx62
      have hzx62:=hL.2 x62 (List.mem_of_getElem? hx62)
      refine k_ix i [D.list (List.map rd x62)] (by first|rfl|omega|(rw [wrap64 _ (by omega) (by omega)];omega)|(rw [wrap64 _ (by omega) (by omega)];split<;>omega)) (Ze hx62) rfl ?_
      refine ZfQ (A:=A) (l:=x58) (m:=x62) (Wl:=Wl) (o:=o) hA2 hzx58 hzx62 hW ho fun n66 hk_66_1=> ?_
      have hst:stE A L Wl o i=n66:=by rw [hk_66_1];unfold stE;rw [hwx58,hwx62]
      refine⟨by kernel_rfl,?_⟩
      refine fork (fun e30=> ?_) (fun e30=> ?_)
      ·have f68:wayG A L Wl o i=true:=e30
       refine fork (fun e31=> ?_) (fun e31=> ?_)
       ·have f72:n66=0:=Z5 e31
        refine k_ix (i - 1) [D.list (List.map rd x58)] (by first|rfl|omega|(rw [wrap64 _ (by omega) (by omega)];omega)|(rw [wrap64 _ (by omega) (by omega)];split<;>omega)) (Ze hx58) rfl ?_
        refine k_ix i [D.list (List.map rd x62)] (by first|rfl|omega|(rw [wrap64 _ (by omega) (by omega)];omega)|(rw [wrap64 _ (by omega) (by omega)];split<;>omega)) (Ze hx62) rfl ?_
        have hm0:motE A x58 x62 Wl o=0:=by rw [← hk_66_1];exact f72
        refine ZcG (A:=A) (l:=x58) (m:=x62) (Wl:=Wl) (o:=o) hA2 hzx58 hzx62 hW hm0 fun b86 hb86=> ?_
        refine⟨by kernel_rfl,?_⟩
        have hF1:wayF A L Wl o (i+1)=n66:=by rw [Zz (by exact f52),hst]
        have hsb:b86=stB A L Wl o i:=by rw [hb86];unfold stB;rw [hwx58,hwx62]
        have hG:wayG A L Wl o (i+1)=b86:=by rw [Zn,f68,hF1,show n66=0 from f72,← hsb];simp
        refine⟨i+1,by omega,by simp only;omega,?_⟩
        constructor<;>(repeat' (first|exact rfl|exact True.intro|apply And.intro))
        all_goals first
         |exact congrArg (fun n:Int=>D.v (.int .i64 n)) hF1
         |exact congrArg (fun n:Int=>D.v (.int .i64 n)) hF1.symm
         |exact congrArg (fun b:Bool=>D.v (.bool b)) hG
         |exact congrArg (fun b:Bool=>D.v (.bool b)) hG.symm
         |exact congrArg (fun n:Int=>D.v (.int .i64 n)) (by rw [wrap64 _ (by omega) (by omega)];omega)
         |exact congrArg (fun n:Int=>D.v (.int .i64 n)) (by omega)
       ·have f72:¬ (n66=0):=Z6 e31
        refine⟨by kernel_rfl,?_⟩
        have hF1:wayF A L Wl o (i+1)=n66:=by rw [Zz (by exact f52),hst]
        have hG:wayG A L Wl o (i+1)=false:=by rw [Zn,decide_eq_false (by rw [hF1];exact f72)];simp
        refine⟨i+1,by omega,by simp only;omega,?_⟩
        constructor<;>(repeat' (first|exact rfl|exact True.intro|apply And.intro))
        all_goals first
         |exact congrArg (fun n:Int=>D.v (.int .i64 n)) hF1
         |exact congrArg (fun n:Int=>D.v (.int .i64 n)) hF1.symm
         |exact congrArg (fun b:Bool=>D.v (.bool b)) hG
         |exact congrArg (fun b:Bool=>D.v (.bool b)) hG.symm
         |exact congrArg (fun n:Int=>D.v (.int .i64 n)) (by rw [wrap64 _ (by omega) (by omega)];omega)
         |exact congrArg (fun n:Int=>D.v (.int .i64 n)) (by omega)
      ·have f68:¬ (wayG A L Wl o i=true):=fun hh=>Zal hh e30
       refine⟨by kernel_rfl,?_⟩
       have hF1:wayF A L Wl o (i+1)=n66:=by rw [Zz (by exact f52),hst]
       have hG:wayG A L Wl o (i+1)=false:=by rw [Zn,Bool.eq_false_iff.2 f68];rfl
       refine⟨i+1,by omega,by simp only;omega,?_⟩
       constructor<;>(repeat' (first|exact rfl|exact True.intro|apply And.intro))
       all_goals first
        |exact congrArg (fun n:Int=>D.v (.int .i64 n)) hF1
        |exact congrArg (fun n:Int=>D.v (.int .i64 n)) hF1.symm
        |exact congrArg (fun b:Bool=>D.v (.bool b)) hG
        |exact congrArg (fun b:Bool=>D.v (.bool b)) hG.symm
        |exact congrArg (fun n:Int=>D.v (.int .i64 n)) (by rw [wrap64 _ (by omega) (by omega)];omega)
        |exact congrArg (fun n:Int=>D.v (.int .i64 n)) (by omega)
     ·have f52:¬ (wayF A L Wl o i=0):=Z6 e29
      refine fork (fun e32=> ?_) (fun e32=> ?_)
      ·have f68:wayG A L Wl o i=true:=e32
       refine fork (fun e33=> ?_) (fun e33=> ?_)
       ·have f72:wayF A L Wl o i=0:=Z5 e33
        exfalso
        exact f52 f72
       ·have f72:¬ (wayF A L Wl o i=0):=Z6 e33
        refine⟨by kernel_rfl,?_⟩
        have hF1:wayF A L Wl o (i+1)=wayF A L Wl o i:=Zam (by exact f52)
        have hG:wayG A L Wl o (i+1)=false:=by rw [Zn,decide_eq_false (by rw [hF1];exact f72)];simp
        refine⟨i+1,by omega,by simp only;omega,?_⟩
        constructor<;>(repeat' (first|exact rfl|exact True.intro|apply And.intro))
        all_goals first
         |exact congrArg (fun n:Int=>D.v (.int .i64 n)) hF1
         |exact congrArg (fun n:Int=>D.v (.int .i64 n)) hF1.symm
         |exact congrArg (fun b:Bool=>D.v (.bool b)) hG
         |exact congrArg (fun b:Bool=>D.v (.bool b)) hG.symm
         |exact congrArg (fun n:Int=>D.v (.int .i64 n)) (by rw [wrap64 _ (by omega) (by omega)];omega)
         |exact congrArg (fun n:Int=>D.v (.int .i64 n)) (by omega)
      ·have f68:¬ (wayG A L Wl o i=true):=fun hh=>Zal hh e32
       refine⟨by kernel_rfl,?_⟩
       have hF1:wayF A L Wl o (i+1)=wayF A L Wl o i:=Zam (by exact f52)
       have hG:wayG A L Wl o (i+1)=false:=by rw [Zn,Bool.eq_false_iff.2 f68];rfl
       refine⟨i+1,by omega,by simp only;omega,?_⟩
       constructor<;>(repeat' (first|exact rfl|exact True.intro|apply And.intro))
       all_goals first
        |exact congrArg (fun n:Int=>D.v (.int .i64 n)) hF1
        |exact congrArg (fun n:Int=>D.v (.int .i64 n)) hF1.symm
        |exact congrArg (fun b:Bool=>D.v (.bool b)) hG
        |exact congrArg (fun b:Bool=>D.v (.bool b)) hG.symm
        |exact congrArg (fun n:Int=>D.v (.int .i64 n)) (by rw [wrap64 _ (by omega) (by omega)];omega)
        |exact congrArg (fun n:Int=>D.v (.int .i64 n)) (by omega)
    ·have f49:¬ ((i:Int)< ((List.map rdrs L).length:Int)):=of_decide_eq_false e28
     refine ZgZ (A:=A) (L:=L) (Wl:=Wl) (o:=o) hA2 hL hW ho fun b94 n94 hb94 hk_94_2=> ?_
     refine fork (fun e34=> ?_) (fun e34=> ?_)
     ·have f100:n94=wayF A L Wl o i:=Z5 e34
      refine fork (fun e35=> ?_) (fun e35=> ?_)
      ·have f104:wayF A L Wl o i=0:=Z5 e35
       refine ZH (fun _=> ?_) (fun hh=>absurd (by
        have hi:i=L.length:=by omega
        first
         |rw [hb94,Zba (show wayE A L Wl o=0 from by unfold wayE;rw [← hi];exact f104),← hi]
         |rw [hb94,ZaI (show ¬ wayE A L Wl o=0 from by unfold wayE;rw [← hi];exact f104)]) hh)
       refine Eq.trans (b:=bool true) ?_ rfl
       rfl
      ·have f104:¬ (wayF A L Wl o i=0):=Z6 e35
       refine ZH (fun _=> ?_) (fun hh=>absurd (by
        have hi:i=L.length:=by omega
        first
         |rw [hb94,Zba (show wayE A L Wl o=0 from by unfold wayE;rw [← hi];exact f104),← hi]
         |rw [hb94,ZaI (show ¬ wayE A L Wl o=0 from by unfold wayE;rw [← hi];exact f104)]) hh)
       refine Eq.trans (b:=bool true) ?_ rfl
       rfl
     ·have f100:¬ (n94=wayF A L Wl o i):=Z6 e34
      exfalso
      exact f100 (by rw [hk_94_2];unfold wayE;rw [show i=L.length by omega])
theorem Zql {l:List (List RV)} {N:Nat} (h:wayZ l N) (hN:N≤1048576):l.length≤1048576∧∀ q,q∈l→q.length≤1048576∧∀ x,x∈q→x.z≤1048576:=ZpL h hN
theorem pathFrees_walk (v0:Value) (A0:ArmV) (v1:Value) (l1:List (List RV)) (v2:Value) (l2:List (List (RV×RV))) (x3:Int) (N:Nat) (w:World) (_:1≤N) (hN:N≤1048576) (h0:DenAV w (fun b=>b< w.heap.size) noBs noMem v0 (arm A0)) (u0:A0.zs N) (h1:Den w (fun b=>b< w.heap.size) v1 (.list (l1.map fun m=> [D.list (m.map eng.rd)]))) (u1:wayZ l1 N) (h2:Den w (fun b=>b< w.heap.size) v2 (.list (l2.map fun m=> [D.list (m.map eng.rdv)]))) (u2:polysZ l2 N) (u3:-9223372036854775808≤x3∧x3≤9223372036854775807) (hT:Tab w):
  Calls Tryz.prog 5 #[v0,v1,v2,.int .i64 x3] w fun e w'=>e= .returned (.bool true)∧Below w.heap.size w w':=
 Zew (I:=fun b=>b< w.heap.size) (Zet A0 l1 l2 x3 (Zi2 u0 (by omega)) (Zql u1 hN) (ZiA u2 hN) u3) rfl hT (fun _ h=>h)
  (((((Zl9 (vs:= []) rfl).cons ((ZgB (v:=int x3) rfl).2 rfl)).cons (show DenAV _ _ _ _ v2 (.val (.one (.d (.list _)))) from h2)).cons (show DenAV _ _ _ _ v1 (.val (.one (.d (.list _)))) from h1)).cons h0)
end
end Go.Proofs.YtpejadencgfnnaaGreatDoor.eng
