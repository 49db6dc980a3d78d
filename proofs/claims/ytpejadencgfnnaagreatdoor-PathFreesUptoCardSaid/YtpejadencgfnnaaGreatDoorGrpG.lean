/- Joined by wip/bundle.py: XWayA. -/
import Derived.Test.YtpejadencgfnnaaGreatDoorGrpU
import Derived.Test.YtpejadencgfnnaaGreatDoorGrpL
namespace Go.Proofs.YtpejadencgfnnaaGreatDoor.eng
open Go.RowKit num mem seg q held ratA ratB ratC ratD ratE vars ratF trq
section
variable {K : AV → Prop}
set_option maxHeartbeats 4000000 in
set_option maxRecDepth 100000 in
theorem Zn3 (A:ArmV) (L:List (List RV)) (Wl:List (List (RV×RV))) (o:Int) (hA:A.ok) (hL:L.length≤1048576∧∀ q,q∈L→q.length≤1048576∧∀ x,x∈q→x.z≤1048576) (hW:Wl.length≤1048576∧∀ m,m∈Wl→m.length≤1048576∧∀ p,p∈m→p.1.z≤1048576∧p.2.z≤1048576) (ho:-9223372036854775808≤o∧o≤9223372036854775807):Spec Tryz.prog Tab 27 [.val (.agg [.d (.v (.string A.name)),.d (.v (.bool A.bx.s)),.d (.v (.string A.bx.a)),.d (.v (.string A.bx.d)),.d (.v (.bool A.by'.s)),.d (.v (.string A.by'.a)),.d (.v (.string A.by'.d)),.d (.v (.bool (A.bh))),.d (.v (.bool A.bt.s)),.d (.v (.string A.bt.a)),.d (.v (.string A.bt.d)),.d (.list (List.map lk A.links))]),.val (.one (.d (.list (List.map rdrs L)))),.val (.one (.d (.list (List.map rdvs Wl)))),int o] (.tup [.one (.d (.v (.bool (wayB A L Wl o)))),.one (.d (.v (.int .i64 (wayE A L Wl o))))]):=by
 have hA2:=hA
 have hLL:(List.map rdrs L).length=L.length:=List.length_map ..
 have hL1:=hL.1
 refine Za Tryz.func27 rfl rfl Tryz.ntmps27 rfl (by kernel_rfl) rfl rfl ?_
 refine Zjk (A:=A) (by assumption) fun n16 hk_16_1=> ?_
 refine⟨fun e1=> ?_,fun e1=> ?_⟩
 ·have f18:n16≠0:=ZaF e1
  refine Eq.trans (b:= .tup [.one (.d (.v (.bool (false)))),.one (.d (.v (.int .i64 (n16))))]) ?_ rfl
  have hno:¬ armE A=0:=by rw [← hk_16_1];exact f18
  have hB:=ZdK (L:=L) hno
  have hE:=ZdH (W:=Wl) (o:=o) (by rw [hB];exact hno)
  rw [ZaI (by rw [hE];exact(by rw [hB];exact hno)),hE,hB,← hk_16_1]
  all_goals rfl
 ·have f18:¬ (n16≠0):=fun hh=>hh (ZaG e1)
  refine⟨fun e2=> ?_,fun e2=> ?_⟩
  ·have f22:((List.map rdrs L).length:Int)=0:=Z5 e2
   refine Eq.trans (b:= .tup [.one (.d (.v (.bool (false)))),.one (.d (.v (.int .i64 (14))))]) ?_ rfl
   have hA0:armE A=0:=by rw [← hk_16_1];exact Classical.not_not.1 f18
   have hB:=ZdI hA0 (show L.length=0 by omega)
   have hE:=ZdH (W:=Wl) (o:=o) (by rw [hB];decide)
   rw [ZaI (by rw [hE];exact(by rw [hB];decide)),hE,hB]
   all_goals rfl
  ·have f22:¬ (((List.map rdrs L).length:Int)=0):=Z6 e2
   refine⟨fun e3=> ?_,fun e3=> ?_⟩
   ·have f25:((List.map rdrs L).length:Int) >60:=of_decide_eq_true e3
    refine Eq.trans (b:= .tup [.one (.d (.v (.bool (false)))),.one (.d (.v (.int .i64 (2))))]) ?_ rfl
    have hA0:armE A=0:=by rw [← hk_16_1];exact Classical.not_not.1 f18
    have hB:=ZdJ hA0 (show 60< L.length by omega)
    have hE:=ZdH (W:=Wl) (o:=o) (by rw [hB];decide)
    rw [ZaI (by rw [hE];exact(by rw [hB];decide)),hE,hB]
    all_goals rfl
   ·have f25:¬ (((List.map rdrs L).length:Int) >60):=of_decide_eq_false e3
    have hA0:armE A=0:=by rw [← hk_16_1];exact Classical.not_not.1 f18
    have hb:=ZcU hA0 (show ¬ L.length=0 by omega) (show ¬ 60< L.length by omega)
    refine⟨Nat,fun i=> [(1,.val (.one (.d (.list (List.map rdrs L))))),(2,.val (.one (.d (.list (List.map rdvs Wl))))),(3,int o),(4,.val (.one (.ptr 4 0))),(11,bool (wayG A L Wl o i)),(27,int ((List.map rdrs L).length:Int)),(28,int (i:Int))],
     fun i=> [(4,.var 32 [.d (.v (.string A.name)),.d (.v (.bool A.bx.s)),.d (.v (.string A.bx.a)),.d (.v (.string A.bx.d)),.d (.v (.bool A.by'.s)),.d (.v (.string A.by'.a)),.d (.v (.string A.by'.d)),.d (.v (.bool (A.bh))),.d (.v (.bool A.bt.s)),.d (.v (.string A.bt.a)),.d (.v (.string A.bt.d)),.d (.list (List.map lk A.links))])],fun i=>i≤L.length∧wayF A L Wl o i=0,fun i=>L.length - i,0,?_,⟨Nat.zero_le _,by rw [Zbh];exact hb⟩,fun i hs=> ?_⟩
    ·constructor<;>(repeat' (first|exact rfl|exact True.intro|exact⟨_,_,rfl⟩|exact(by decide)|apply And.intro))
     all_goals first|exact congrArg (fun n:Int=>D.v (.int .i64 n)) (by omega)|exact congrArg (fun n:Int=>D.v (.int .i64 n)) (by rw [wrap64 _ (by omega) (by omega)];omega)|(simp;done)
    obtain⟨g1,g2⟩:=hs
    refine⟨fun e4=> ?_,fun e4=> ?_⟩
    ·have f29:(i:Int)< ((List.map rdrs L).length:Int):=of_decide_eq_true e4
     refine Zx (l:=L) (i:=(i - 1)) (by first|omega|exact Nat.mod_lt _ (by omega)) fun x37 hx37=> ?_
     have hwx37:=Zb4 hx37
     have hzx37:=hL.2 x37 (List.mem_of_getElem? hx37)
     refine k_ix (i - 1) [D.list (List.map rd x37)] (by first|rfl|omega|(rw [wrap64 _ (by omega) (by omega)];omega)|(rw [wrap64 _ (by omega) (by omega)];split<;>omega)) (Ze hx37) rfl ?_
     refine Zx (l:=L) (i:=i) (by first|omega|exact Nat.mod_lt _ (by omega)) fun x41 hx41=> ?_
     have hwx41:=Zb4 hx41
     have hzx41:=hL.2 x41 (List.mem_of_getElem? hx41)
     refine k_ix i [D.list (List.map rd x41)] (by first|rfl|omega|(rw [wrap64 _ (by omega) (by omega)];omega)|(rw [wrap64 _ (by omega) (by omega)];split<;>omega)) (Ze hx41) rfl ?_
     refine Zpj (A:=A) (l:=x37) (m:=x41) (Wl:=Wl) (o:=o) hA2 hzx37 hzx41 hW ho fun b45 n45 hb45 hk_45_2=> ?_
     have hst:n45=stE A L Wl o i:=by rw [hk_45_2];unfold stE;rw [hwx37,hwx41]
     refine⟨by kernel_rfl,?_⟩
     refine⟨fun e5=> ?_,fun e5=> ?_⟩
     ·have f49:n45≠0:=ZaF e5
      refine Eq.trans (b:= .tup [.one (.d (.v (.bool (false)))),.one (.d (.v (.int .i64 (n45))))]) ?_ rfl
      have hE:wayE A L Wl o=stE A L Wl o i:=Zqo g2 (by rw [← hst];exact f49) (by omega)
      rw [ZaI (by rw [hE,← hst];exact f49),hE,← hst]
      all_goals rfl
     ·have f49:¬ (n45≠0):=fun hh=>hh (ZaG e5)
      refine fork (fun e6=> ?_) (fun e6=> ?_)
      ·have f52:wayG A L Wl o i=true:=e6
       have hF1:wayF A L Wl o (i+1)=0:=by rw [Zz g2,← hst];exact Classical.not_not.1 f49
       have hsb:b45=stB A L Wl o i:=by rw [hb45,ZfL (by rw [← hk_45_2];exact Classical.not_not.1 f49)];unfold stB;rw [hwx37,hwx41]
       have hG:wayG A L Wl o (i+1)=b45:=by rw [Zn,f52,hF1,← hsb];simp
       refine⟨i+1,⟨by omega,hF1⟩,by simp only;omega,?_⟩
       constructor<;>(repeat' (first|exact rfl|exact True.intro|apply And.intro))
       all_goals first
        |exact congrArg (fun b:Bool=>D.v (.bool b)) hG
        |exact congrArg (fun b:Bool=>D.v (.bool b)) hG.symm
        |exact congrArg (fun n:Int=>D.v (.int .i64 n)) (by rw [wrap64 _ (by omega) (by omega)];omega)
        |exact congrArg (fun n:Int=>D.v (.int .i64 n)) (by omega)
      ·have f52:¬ (wayG A L Wl o i=true):=fun hh=>Zal hh e6
       have hF1:wayF A L Wl o (i+1)=0:=by rw [Zz g2,← hst];exact Classical.not_not.1 f49
       have hsb:b45=stB A L Wl o i:=by rw [hb45,ZfL (by rw [← hk_45_2];exact Classical.not_not.1 f49)];unfold stB;rw [hwx37,hwx41]
       have hG:wayG A L Wl o (i+1)=false:=by rw [Zn,Bool.eq_false_iff.2 f52];rfl
       refine⟨i+1,⟨by omega,hF1⟩,by simp only;omega,?_⟩
       constructor<;>(repeat' (first|exact rfl|exact True.intro|apply And.intro))
       all_goals first
        |exact congrArg (fun b:Bool=>D.v (.bool b)) hG
        |exact congrArg (fun b:Bool=>D.v (.bool b)) hG.symm
        |exact congrArg (fun n:Int=>D.v (.int .i64 n)) (by rw [wrap64 _ (by omega) (by omega)];omega)
        |exact congrArg (fun n:Int=>D.v (.int .i64 n)) (by omega)
    ·have f29:¬ ((i:Int)< ((List.map rdrs L).length:Int)):=of_decide_eq_false e4
     refine Eq.trans (b:= .tup [.one (.d (.v (.bool (wayG A L Wl o i)))),.one (.d (.v (.int .i64 (0))))]) ?_ rfl
     have hi:i=L.length:=by omega
     have hE:wayE A L Wl o=0:=by unfold wayE;rw [← hi];exact g2
     rw [Zba hE,hE,← hi]
     all_goals rfl
theorem ZgZ {A:ArmV} {L:List (List RV)} {Wl:List (List (RV×RV))} {o:Int} (hA:A.ok) (hL:L.length≤1048576∧∀ q,q∈L→q.length≤1048576∧∀ x,x∈q→x.z≤1048576) (hW:Wl.length≤1048576∧∀ m,m∈Wl→m.length≤1048576∧∀ p,p∈m→p.1.z≤1048576∧p.2.z≤1048576) (ho:-9223372036854775808≤o∧o≤9223372036854775807) (k:∀ b n,b=wayB A L Wl o→n=wayE A L Wl o→K (.tup [.one (.d (.v (.bool b))),.one (.d (.v (.int .i64 n)))])):Ask 27 [.val (.agg [.d (.v (.string A.name)),.d (.v (.bool A.bx.s)),.d (.v (.string A.bx.a)),.d (.v (.string A.bx.d)),.d (.v (.bool A.by'.s)),.d (.v (.string A.by'.a)),.d (.v (.string A.by'.d)),.d (.v (.bool (A.bh))),.d (.v (.bool A.bt.s)),.d (.v (.string A.bt.a)),.d (.v (.string A.bt.d)),.d (.list (List.map lk A.links))]),.val (.one (.d (.list (List.map rdrs L)))),.val (.one (.d (.list (List.map rdvs Wl)))),int o] K:=use (Zn3 A L Wl o hA hL hW ho) rfl (k _ _ rfl rfl)
end
end Go.Proofs.YtpejadencgfnnaaGreatDoor.eng
