/- Joined by wip/bundle.py: XWayA XWayR XLawWay XLawCut. -/
import Derived.Test.YtpfemjpgbpnpkaaGreatDoorGrpU
import Derived.Test.YtpfemjpgbpnpkaaGreatDoorGrp1
import Derived.Test.YtpfemjpgbpnpkaaGreatDoorGrpX
import Derived.Test.YtpfemjpgbpnpkaaGreatDoorOpenA
set_option maxRecDepth 100000
namespace Go.Proofs.YtpfemjpgbpnpkaaGreatDoor.eng
open Go.RowKit num mem seg q held ratA ratB ratC ratD ratE vars ratF trq
section
variable {K : AV → Prop}
theorem ZlW (q:List RV) (hq:q.length≤1048576∧∀ x,x∈q→x.z≤1048576):Spec Tryz.prog Tab 144 [.val (.one (.d (.list (List.map rd q))))] (.val (.one (.d (.list (List.map rdc (gdL q)))))):=by
 have hLq:(List.map rd q).length=q.length:=List.length_map ..
 have hq1:=hq.1
 refine Za Tryz.func144 rfl rfl Tryz.ntmps144 rfl (by kernel_rfl) rfl rfl ?_
 refine⟨Nat,fun i=> [(3,.val (.one (.row 17 0))),(6,.val (.one (.d (.list (List.map rd q))))),(7,int ((List.map rd q).length:Int)),(8,int (i:Int))],
  fun i=> [(17,.row 23 3 0 (List.map rdc (gdL (q.take i))) true)],fun i=>i≤q.length,fun i=>q.length - i,0,?_,Nat.zero_le _,fun i hs=> ?_⟩
 ·constructor<;>(repeat' (first|exact rfl|exact True.intro|exact⟨_,_,rfl⟩|exact(by decide)|apply And.intro))
  all_goals first|exact congrArg (fun n:Int=>D.v (.int .i64 n)) (by omega)|exact congrArg (fun n:Int=>D.v (.int .i64 n)) (by rw [wrap64 _ (by omega) (by omega)];omega)|(simp;done)
 have hT:(List.map rdc (gdL (q.take i))).length≤1048576:=by rw [List.length_map,Zhl,List.length_take];omega
 refine⟨fun e1=> ?_,fun e1=> ?_⟩
 ·have f9:(i:Int)< ((List.map rd q).length:Int):=of_decide_eq_true e1
  refine Zc (l:=q) (i:=i) (by first|omega|exact Nat.mod_lt _ (by omega)) fun x10 hx10=> ?_
  have hzx10:=hq.2 x10 (List.mem_of_getElem? hx10)
  refine k_ix i [D.v (.bool x10.s),D.v (.string x10.a),D.v (.string x10.d)] (by first|rfl|omega|(rw [wrap64 _ (by omega) (by omega)];omega)|(rw [wrap64 _ (by omega) (by omega)];split<;>omega)) (Zb hx10) rfl ?_
  refine k_of (0) (by omega) (by omega) fun q14 h14 z14=> ?_
  simp only [cn_z] at z14
  refine ZcC (x:=x10) (y:=cn q14) (by omega) (by simp only [cn_z];omega) fun q15 h15 z15=> ?_
  simp only [cn_z] at z15
  simp only [cn_q] at h15
  refine⟨⟨row1 rfl,(by show ((List.map rdc (gdL (q.take i))).length+1)*40≤_;omega),(by show ((List.map rdc (gdL (q.take i))).length+1)≤_;omega)⟩,?_⟩
  refine⟨by kernel_rfl,?_⟩
  have e15:q15=x10.q:=by rw [h15,h14,Rat.intCast_zero,Rat.add_zero]
  clear h15
  subst e15
  refine⟨i+1,by omega,by simp only;omega,?_⟩
  constructor<;>(repeat' (first|exact rfl|exact True.intro|apply And.intro))
  all_goals first
   |(rw [Zlf _ hx10];rfl)
   |exact congrArg (fun n:Int=>D.v (.int .i64 n)) (by rw [wrap64 _ (by omega) (by omega)];omega)
   |exact congrArg (fun n:Int=>D.v (.int .i64 n)) (by omega)
 ·have f9:¬ ((i:Int)< ((List.map rd q).length:Int)):=of_decide_eq_false e1
  refine Eq.trans (b:= .val (.one (.d (.list (List.map rdc (gdL (q.take i))))))) ?_ rfl
  rw [List.take_of_length_le (by omega)]
theorem Zfm {L:List (List RV)} {i:Nat} {q:List RV} (hw:wAt L i=q) (hq:q.length≤1048576∧∀ x,x∈q→x.z≤1048576) (k:K (.val (.one (.d (.list (List.map rdc (gdL (wAt L i)))))))):Ask 144 [.val (.one (.d (.list (List.map rd q))))] K:=by
 subst hw;exact use (ZlW _ hq) rfl k
set_option maxHeartbeats 2000000 in
theorem ZnU (A:ArmV) (L:List (List RV)) (hA:A.ok) (hL:L.length≤1048576∧∀ q,q∈L→q.length≤1048576∧∀ x,x∈q→x.z≤1048576):Spec Tryz.prog Tab 141 [.val (.agg [.d (.v (.string A.name)),.d (.v (.bool A.bx.s)),.d (.v (.string A.bx.a)),.d (.v (.string A.bx.d)),.d (.v (.bool A.by'.s)),.d (.v (.string A.by'.a)),.d (.v (.string A.by'.d)),.d (.v (.bool (A.bh))),.d (.v (.bool A.bt.s)),.d (.v (.string A.bt.a)),.d (.v (.string A.bt.d)),.d (.list (List.map lk A.links))]),.val (.one (.d (.list (List.map rdrs L))))] (int (chkE A L)):=by
 have hA2:=hA
 have hLL:(List.map rdrs L).length=L.length:=List.length_map ..
 have hL1:=hL.1
 refine Za Tryz.func141 rfl rfl Tryz.ntmps141 rfl (by kernel_rfl) rfl rfl ?_
 refine Zhf (A:=A) (by assumption) fun n10 hk_10_1=> ?_
 refine⟨fun e1=> ?_,fun e1=> ?_⟩
 ·have f12:n10≠0:=Zv e1
  refine Eq.trans (b:=int n10) ?_ rfl
  have hno:¬ armE A=0:=by rw [← hk_10_1];exact f12
  have hB:=ZcO (L:=L) hno
  rw [Zba (by rw [hB];exact hno),hB,← hk_10_1]
 ·have f12:¬ (n10≠0):=fun hh=>hh (Zw e1)
  refine⟨fun e2=> ?_,fun e2=> ?_⟩
  ·have f16:((List.map rdrs L).length:Int)=0:=ZP e2
   refine Eq.trans (b:=int 14) ?_ rfl
   have hA0:armE A=0:=by rw [← hk_10_1];exact Classical.not_not.1 f12
   have hB:=ZcM hA0 (show L.length=0 by omega)
   rw [Zba (by rw [hB];decide),hB]
  ·have f16:¬ (((List.map rdrs L).length:Int)=0):=ZQ e2
   refine⟨fun e3=> ?_,fun e3=> ?_⟩
   ·have f19:((List.map rdrs L).length:Int) >60:=of_decide_eq_true e3
    refine Eq.trans (b:=int 2) ?_ rfl
    have hA0:armE A=0:=by rw [← hk_10_1];exact Classical.not_not.1 f12
    have hB:=ZcN hA0 (show 60< L.length by omega)
    rw [Zba (by rw [hB];decide),hB]
   ·have f19:¬ (((List.map rdrs L).length:Int) >60):=of_decide_eq_false e3
    refine⟨Nat,fun i=> [(2,.val (.one (.ptr 2 0))),(20,.val (.one (.d (.list (List.map rdrs L))))),(21,int ((List.map rdrs L).length:Int)),(22,int (i:Int))],
     fun i=> [(2,.var 32 [.d (.v (.string A.name)),.d (.v (.bool A.bx.s)),.d (.v (.string A.bx.a)),.d (.v (.string A.bx.d)),.d (.v (.bool A.by'.s)),.d (.v (.string A.by'.a)),.d (.v (.string A.by'.d)),.d (.v (.bool (A.bh))),.d (.v (.bool A.bt.s)),.d (.v (.string A.bt.a)),.d (.v (.string A.bt.d)),.d (.list (List.map lk A.links))])],fun i=>i≤L.length∧∀ j,j< i→hasE A ((wAt L j).length:Int)=0,fun i=>L.length - i,0,?_,⟨Nat.zero_le _,fun j h=>by omega⟩,fun i hs=> ?_⟩
    ·constructor<;>(repeat' (first|exact rfl|exact True.intro|exact⟨_,_,rfl⟩|exact(by decide)|apply And.intro))
     all_goals first|exact congrArg (fun n:Int=>D.v (.int .i64 n)) (by omega)|exact congrArg (fun n:Int=>D.v (.int .i64 n)) (by rw [wrap64 _ (by omega) (by omega)];omega)|(simp;done)
    obtain⟨g1,g2⟩:=hs
    refine⟨fun e4=> ?_,fun e4=> ?_⟩
    ·have f23:(i:Int)< ((List.map rdrs L).length:Int):=of_decide_eq_true e4
     refine Zc (l:=L) (i:=i) (by first|omega|exact Nat.mod_lt _ (by omega)) fun x24 hx24=> ?_
     have hwx24:=ZY hx24
     have hzx24:=hL.2 x24 (List.mem_of_getElem? hx24)
     refine k_ix i [D.list (List.map rd x24)] (by first|rfl|omega|(rw [wrap64 _ (by omega) (by omega)];omega)|(rw [wrap64 _ (by omega) (by omega)];split<;>omega)) (Zb hx24) rfl ?_
     refine Zpt (A:=A) (n:=((List.map rd x24).length:Int)) (by assumption) fun n29 hk_29_1=> ?_
     rw [List.length_map] at hk_29_1
     refine⟨fun e5=> ?_,fun e5=> ?_⟩
     ·have f31:n29≠0:=Zv e5
      refine Eq.trans (b:=int n29) ?_ rfl
      have hA0:armE A=0:=by rw [← hk_10_1];exact Classical.not_not.1 f12
      have hb:=Zcm hA0 (show ¬ L.length=0 by omega) (show ¬ 60< L.length by omega)
      rw [Zqb hb g2 hx24 (by rw [← hk_29_1];exact f31),← hk_29_1]
     ·have f31:¬ (n29≠0):=fun hh=>hh (Zw e5)
      refine⟨i+1,⟨by omega,fun j hj=>by
       by_cases e:j=i
       ·rw [e,hwx24,← hk_29_1];exact Classical.not_not.1 f31
       ·exact g2 j (by omega)⟩,by simp only;omega,?_⟩
      constructor<;>(repeat' (first|exact rfl|exact True.intro|apply And.intro))
      all_goals first
       |exact congrArg (fun n:Int=>D.v (.int .i64 n)) (by rw [wrap64 _ (by omega) (by omega)];omega)
       |exact congrArg (fun n:Int=>D.v (.int .i64 n)) (by omega)
    ·have f23:¬ ((i:Int)< ((List.map rdrs L).length:Int)):=of_decide_eq_false e4
     refine Eq.trans (b:=int 0) ?_ rfl
     have hA0:armE A=0:=by rw [← hk_10_1];exact Classical.not_not.1 f12
     have hb:=Zcm hA0 (show ¬ L.length=0 by omega) (show ¬ 60< L.length by omega)
     rw [Zqc hb fun j hj=>g2 j (by omega)]
theorem ZtR {A:ArmV} {L:List (List RV)} (hA:A.ok) (hL:L.length≤1048576∧∀ q,q∈L→q.length≤1048576∧∀ x,x∈q→x.z≤1048576) (k:∀ n,n=chkE A L→K (int n)):Ask 141 [.val (.agg [.d (.v (.string A.name)),.d (.v (.bool A.bx.s)),.d (.v (.string A.bx.a)),.d (.v (.string A.bx.d)),.d (.v (.bool A.by'.s)),.d (.v (.string A.by'.a)),.d (.v (.string A.by'.d)),.d (.v (.bool (A.bh))),.d (.v (.bool A.bt.s)),.d (.v (.string A.bt.a)),.d (.v (.string A.bt.d)),.d (.list (List.map lk A.links))]),.val (.one (.d (.list (List.map rdrs L))))] K:=use (ZnU A L hA hL) rfl (k _ rfl)
end
end Go.Proofs.YtpfemjpgbpnpkaaGreatDoor.eng
namespace Go.Proofs.YtpfemjpgbpnpkaaGreatDoor.eng
open Go.RowKit num mem seg q held ratA ratB ratC ratD ratE vars ratF trq
section
variable {K : AV → Prop}
theorem ZiW (q:List RV) (hq:q.length≤1048576∧∀ x,x∈q→x.z≤1048576):Spec Tryz.prog Tab 148 [.val (.one (.d (.list (List.map rd q))))] (.val (.one (.d (.list (List.map rdc (gdL q)))))):=by
 have hLq:(List.map rd q).length=q.length:=List.length_map ..
 have hq1:=hq.1
 refine Za Tryz.func148 rfl rfl Tryz.ntmps148 rfl (by kernel_rfl) rfl rfl ?_
 refine⟨Nat,fun i=> [(3,.val (.one (.row 17 0))),(6,.val (.one (.d (.list (List.map rd q))))),(7,int ((List.map rd q).length:Int)),(8,int (i:Int))],
  fun i=> [(17,.row 23 3 0 (List.map rdc (gdL (q.take i))) true)],fun i=>i≤q.length,fun i=>q.length - i,0,?_,Nat.zero_le _,fun i hs=> ?_⟩
 ·constructor<;>(repeat' (first|exact rfl|exact True.intro|exact⟨_,_,rfl⟩|exact(by decide)|apply And.intro))
  all_goals first|exact congrArg (fun n:Int=>D.v (.int .i64 n)) (by omega)|exact congrArg (fun n:Int=>D.v (.int .i64 n)) (by rw [wrap64 _ (by omega) (by omega)];omega)|(simp;done)
 have hT:(List.map rdc (gdL (q.take i))).length≤1048576:=by rw [List.length_map,Zhl,List.length_take];omega
 refine⟨fun e1=> ?_,fun e1=> ?_⟩
 ·have f9:(i:Int)< ((List.map rd q).length:Int):=of_decide_eq_true e1
  refine Zc (l:=q) (i:=i) (by first|omega|exact Nat.mod_lt _ (by omega)) fun x10 hx10=> ?_
  have hzx10:=hq.2 x10 (List.mem_of_getElem? hx10)
  refine k_ix i [D.v (.bool x10.s),D.v (.string x10.a),D.v (.string x10.d)] (by first|rfl|omega|(rw [wrap64 _ (by omega) (by omega)];omega)|(rw [wrap64 _ (by omega) (by omega)];split<;>omega)) (Zb hx10) rfl ?_
  refine Zr (x:=x10) (by omega) fun q14 h14 z14=> ?_
  refine ZfS (q:=q14) (by omega) ?_
  refine⟨⟨row1 rfl,(by show ((List.map rdc (gdL (q.take i))).length+1)*40≤_;omega),(by show ((List.map rdc (gdL (q.take i))).length+1)≤_;omega)⟩,?_⟩
  subst h14
  refine⟨i+1,by omega,by simp only;omega,?_⟩
  constructor<;>(repeat' (first|exact rfl|exact True.intro|apply And.intro))
  all_goals first
   |(rw [Zlf _ hx10];rfl)
   |exact congrArg (fun n:Int=>D.v (.int .i64 n)) (by rw [wrap64 _ (by omega) (by omega)];omega)
   |exact congrArg (fun n:Int=>D.v (.int .i64 n)) (by omega)
 ·have f9:¬ ((i:Int)< ((List.map rd q).length:Int)):=of_decide_eq_false e1
  refine Eq.trans (b:= .val (.one (.d (.list (List.map rdc (gdL (q.take i))))))) ?_ rfl
  rw [List.take_of_length_le (by omega)]
theorem Zdy {L:List (List RV)} {i:Nat} {q:List RV} (hw:wAt L i=q) (hq:q.length≤1048576∧∀ x,x∈q→x.z≤1048576) (k:K (.val (.one (.d (.list (List.map rdc (gdL (wAt L i)))))))):Ask 148 [.val (.one (.d (.list (List.map rd q))))] K:=by
 subst hw;exact use (ZiW _ hq) rfl k
theorem Zsw {A:ArmV} {n:Int} (h:armE A=0) (g:¬ n=(A.links.length:Int)):hasE A n=1:=by
 unfold hasE;rw [if_pos h,if_neg g]
set_option maxHeartbeats 2000000 in
theorem ZmT (A:ArmV) (L:List (List RV)) (hA:A.ok) (hL:L.length≤1048576∧∀ q,q∈L→q.length≤1048576∧∀ x,x∈q→x.z≤1048576):Spec Tryz.prog Tab 43 [.val (.agg [.d (.v (.string A.name)),.d (.v (.bool A.bx.s)),.d (.v (.string A.bx.a)),.d (.v (.string A.bx.d)),.d (.v (.bool A.by'.s)),.d (.v (.string A.by'.a)),.d (.v (.string A.by'.d)),.d (.v (.bool (A.bh))),.d (.v (.bool A.bt.s)),.d (.v (.string A.bt.a)),.d (.v (.string A.bt.d)),.d (.list (List.map lk A.links))]),.val (.one (.d (.list (List.map rdrs L))))] (int (chkE A L)):=by
 have hA2:=hA
 have hLL:(List.map rdrs L).length=L.length:=List.length_map ..
 have hL1:=hL.1
 have hLk:(List.map lk A.links).length=A.links.length:=List.length_map ..
 have hAn:=hA.2.2.2.2.1
 refine Za Tryz.func43 rfl rfl Tryz.ntmps43 rfl (by kernel_rfl) rfl rfl ?_
 refine Zd1 (A:=A) (by assumption) fun n9 hk_9_1=> ?_
 refine⟨fun e1=> ?_,fun e1=> ?_⟩
 ·have f11:n9≠0:=Zv e1
  refine Eq.trans (b:=int n9) ?_ rfl
  have hno:¬ armE A=0:=by rw [← hk_9_1];exact f11
  have hB:=ZcO (L:=L) hno
  rw [Zba (by rw [hB];exact hno),hB,← hk_9_1]
 ·have f11:¬ (n9≠0):=fun hh=>hh (Zw e1)
  refine⟨fun e2=> ?_,fun e2=> ?_⟩
  ·have f15:((List.map rdrs L).length:Int)=0:=ZP e2
   refine Eq.trans (b:=int 14) ?_ rfl
   have hA0:armE A=0:=by rw [← hk_9_1];exact Classical.not_not.1 f11
   have hB:=ZcM hA0 (show L.length=0 by omega)
   rw [Zba (by rw [hB];decide),hB]
  ·have f15:¬ (((List.map rdrs L).length:Int)=0):=ZQ e2
   refine⟨fun e3=> ?_,fun e3=> ?_⟩
   ·have f18:((List.map rdrs L).length:Int) >60:=of_decide_eq_true e3
    refine Eq.trans (b:=int 2) ?_ rfl
    have hA0:armE A=0:=by rw [← hk_9_1];exact Classical.not_not.1 f11
    have hB:=ZcN hA0 (show 60< L.length by omega)
    rw [Zba (by rw [hB];decide),hB]
   ·have f18:¬ (((List.map rdrs L).length:Int) >60):=of_decide_eq_false e3
    have hA0:armE A=0:=by rw [← hk_9_1];exact Classical.not_not.1 f11
    have hb:=Zcm hA0 (show ¬ L.length=0 by omega) (show ¬ 60< L.length by omega)
    refine⟨Nat,fun i=> [(2,.val (.one (.ptr 2 0))),(19,.val (.one (.d (.list (List.map rdrs L))))),(20,int ((List.map rdrs L).length:Int)),(21,int (i:Int))],
     fun i=> [(2,.var 32 [.d (.v (.string A.name)),.d (.v (.bool A.bx.s)),.d (.v (.string A.bx.a)),.d (.v (.string A.bx.d)),.d (.v (.bool A.by'.s)),.d (.v (.string A.by'.a)),.d (.v (.string A.by'.d)),.d (.v (.bool (A.bh))),.d (.v (.bool A.bt.s)),.d (.v (.string A.bt.a)),.d (.v (.string A.bt.d)),.d (.list (List.map lk A.links))])],fun i=>i≤L.length∧∀ j,j< i→hasE A ((wAt L j).length:Int)=0,fun i=>L.length - i,0,?_,⟨Nat.zero_le _,fun j h=>by omega⟩,fun i hs=> ?_⟩
    ·constructor<;>(repeat' (first|exact rfl|exact True.intro|exact⟨_,_,rfl⟩|exact(by decide)|apply And.intro))
     all_goals first|exact congrArg (fun n:Int=>D.v (.int .i64 n)) (by omega)|exact congrArg (fun n:Int=>D.v (.int .i64 n)) (by rw [wrap64 _ (by omega) (by omega)];omega)|(simp;done)
    obtain⟨g1,g2⟩:=hs
    refine⟨fun e4=> ?_,fun e4=> ?_⟩
    ·have f22:(i:Int)< ((List.map rdrs L).length:Int):=of_decide_eq_true e4
     refine Zc (l:=L) (i:=i) (by first|omega|exact Nat.mod_lt _ (by omega)) fun x23 hx23=> ?_
     have hwx23:=ZY hx23
     have hzx23:=hL.2 x23 (List.mem_of_getElem? hx23)
     have hLx:(List.map rd x23).length=x23.length:=List.length_map ..
     have hlx:=hzx23.1
     refine k_ix i [D.list (List.map rd x23)] (by first|rfl|omega|(rw [wrap64 _ (by omega) (by omega)];omega)|(rw [wrap64 _ (by omega) (by omega)];split<;>omega)) (Zb hx23) rfl ?_
     refine⟨fun e5=> ?_,fun e5=> ?_⟩
     ·have f30:((List.map rd x23).length:Int)≠((List.map lk A.links).length:Int):=Zv e5
      refine Eq.trans (b:=int 1) ?_ rfl
      have hh:hasE A (x23.length:Int)=1:=Zsw hA0 (by omega)
      rw [Zqb hb g2 hx23 (by rw [hh];decide),hh]
     ·have f30:¬ (((List.map rd x23).length:Int)≠((List.map lk A.links).length:Int)):=fun hh=>hh (Zw e5)
      refine⟨i+1,⟨by omega,fun j hj=>by
       by_cases e:j=i
       ·rw [e,hwx23];exact ZI.2 ⟨hA0,by omega⟩
       ·exact g2 j (by omega)⟩,by simp only;omega,?_⟩
      constructor<;>(repeat' (first|exact rfl|exact True.intro|apply And.intro))
      all_goals first
       |exact congrArg (fun n:Int=>D.v (.int .i64 n)) (by rw [wrap64 _ (by omega) (by omega)];omega)
       |exact congrArg (fun n:Int=>D.v (.int .i64 n)) (by omega)
    ·have f22:¬ ((i:Int)< ((List.map rdrs L).length:Int)):=of_decide_eq_false e4
     refine Eq.trans (b:=int 0) ?_ rfl
     rw [Zqc hb fun j hj=>g2 j (by omega)]
theorem Zu5 {A:ArmV} {L:List (List RV)} (hA:A.ok) (hL:L.length≤1048576∧∀ q,q∈L→q.length≤1048576∧∀ x,x∈q→x.z≤1048576) (k:∀ n,n=chkE A L→K (int n)):Ask 43 [.val (.agg [.d (.v (.string A.name)),.d (.v (.bool A.bx.s)),.d (.v (.string A.bx.a)),.d (.v (.string A.bx.d)),.d (.v (.bool A.by'.s)),.d (.v (.string A.by'.a)),.d (.v (.string A.by'.d)),.d (.v (.bool (A.bh))),.d (.v (.bool A.bt.s)),.d (.v (.string A.bt.a)),.d (.v (.string A.bt.d)),.d (.list (List.map lk A.links))]),.val (.one (.d (.list (List.map rdrs L))))] K:=use (ZmT A L hA hL) rfl (k _ rfl)
end
end Go.Proofs.YtpfemjpgbpnpkaaGreatDoor.eng
namespace Go.Proofs.YtpfemjpgbpnpkaaGreatDoor.eng
open Go.RowKit num mem seg q held ratA ratB ratC ratD ratE vars ratF argopen trq
section
variable {K : AV → Prop}
theorem Zua {l:List (List RV)} {N:Nat} (h:wayZ l N) (hN:N≤1048576):l.length≤1048576∧∀ q,q∈l→q.length≤1048576∧∀ x,x∈q→x.z≤1048576:=Ztb h hN
end
end Go.Proofs.YtpfemjpgbpnpkaaGreatDoor.eng
namespace Go.Proofs.YtpfemjpgbpnpkaaGreatDoor.eng
open Go.RowKit num mem seg q held ratA ratB ratC ratD ratE vars ratF argopen trq
section
variable {K : AV → Prop}
set_option maxHeartbeats 2000000 in
theorem ZpM (l:List (List Rat)) (hn:l.length≤1099511627776) (hr:∀ r,r∈l→r.length≤1099511627776):Spec Tryz.prog Tab 147 [.val (.one (.d (.list (List.map rdcs l)))),.val (.one (.d (.list (List.map rdcs l)))),fv 49] (bool true):=by
 have hLl:(List.map rdcs l).length=l.length:=List.length_map ..
 refine Za Tryz.func147 rfl rfl Tryz.ntmps147 rfl (by kernel_rfl) rfl rfl ?_
 refine⟨fun e1=> ?_,fun e1=> ?_⟩
 ·have f14:((List.map rdcs l).length:Int)≠((List.map rdcs l).length:Int):=Zv e1
  exfalso
  exact f14 rfl
 ·have f14:¬ (((List.map rdcs l).length:Int)≠((List.map rdcs l).length:Int)):=fun hh=>hh (Zw e1)
  refine⟨Nat,fun i=> [(1,.val (.one (.d (.list (List.map rdcs l))))),(2,fv 49),(15,.val (.one (.d (.list (List.map rdcs l))))),(16,int ((List.map rdcs l).length:Int)),(17,int (i:Int))],
   fun i=> [],fun i=>i≤l.length,fun i=>l.length - i,0,?_,Nat.zero_le _,fun i hs=> ?_⟩
  ·constructor<;>(repeat' (first|exact rfl|exact True.intro|exact⟨_,_,rfl⟩|exact(by decide)|apply And.intro))
   all_goals first|exact congrArg (fun n:Int=>D.v (.int .i64 n)) (by omega)|exact congrArg (fun n:Int=>D.v (.int .i64 n)) (by rw [wrap64 _ (by omega) (by omega)];omega)|(simp;done)
  refine⟨fun e2=> ?_,fun e2=> ?_⟩
  ·have f18:(i:Int)< ((List.map rdcs l).length:Int):=of_decide_eq_true e2
   refine Zc (l:=l) (i:=i) (by first|omega|exact Nat.mod_lt _ (by omega)) fun x20 hx20=> ?_
   refine k_ix i [D.list (List.map rdc x20)] (by first|rfl|omega|(rw [wrap64 _ (by omega) (by omega)];omega)|(rw [wrap64 _ (by omega) (by omega)];split<;>omega)) (Zb hx20) rfl ?_
   refine k_ix i [D.list (List.map rdc x20)] (by first|rfl|omega|(rw [wrap64 _ (by omega) (by omega)];omega)|(rw [wrap64 _ (by omega) (by omega)];split<;>omega)) (Zb hx20) rfl ?_
   refine Zk7 x20 x20 rfl rfl (hr _ (List.mem_of_getElem? hx20)) (hr _ (List.mem_of_getElem? hx20)) fun b29 hb29=> ?_
   obtain rfl:b29=true:=hb29.trans (decide_eq_true rfl)
   refine⟨fun e=>absurd e (by decide),fun _=> ?_⟩
   refine⟨i+1,by omega,by simp only;omega,?_⟩
   constructor<;>(repeat' (first|exact rfl|exact True.intro|apply And.intro))
   all_goals first
    |exact congrArg (fun n:Int=>D.v (.int .i64 n)) (by rw [wrap64 _ (by omega) (by omega)];omega)
    |exact congrArg (fun n:Int=>D.v (.int .i64 n)) (by omega)
  ·have f18:¬ ((i:Int)< ((List.map rdcs l).length:Int)):=of_decide_eq_false e2
   refine Eq.trans (b:=bool true) ?_ rfl
   rfl
theorem Zmf (l:List (List Rat)) (hn:l.length≤1099511627776) (hr:∀ r,r∈l→r.length≤1099511627776):Spec Tryz.prog Tab 46 [.val (.one (.d (.list (List.map rdcs l)))),.val (.one (.d (.list (List.map rdcs l))))] (bool true):=by
 refine Za Tryz.func46 rfl rfl Tryz.ntmps46 rfl (by kernel_rfl) rfl rfl ?_
 refine use (ZpM l hn hr) rfl ?_
 refine Eq.trans (b:=bool true) ?_ rfl
 rfl
theorem ZuX {u v:List (List D)} (l:List (List Rat)) (hu:u=List.map rdcs l) (hv:v=List.map rdcs l) (hn:l.length≤1099511627776) (hr:∀ r,r∈l→r.length≤1099511627776) (k:K (bool true)):Ask 46 [.val (.one (.d (.list u))),.val (.one (.d (.list v)))] K:=by
 subst hu hv;exact use (Zmf l hn hr) rfl k
theorem Zv9 {L:List (List RV)} (hL:L.length≤1048576∧∀ q,q∈L→q.length≤1048576∧∀ x,x∈q→x.z≤1048576) (I:List Nat):∀ r,r∈rowQ L I→r.length≤1099511627776:=fun r hr=>by
 obtain⟨i,_,rfl⟩:=List.mem_map.1 (show r∈List.map _ _ from hr)
 rw [Zhl]
 unfold wAt
 cases h:L[i]? with
 |none=>exact Nat.zero_le _
 |some q=>exact Nat.le_trans (hL.2 q (List.mem_of_getElem? h)).1 (by decide)
end
end Go.Proofs.YtpfemjpgbpnpkaaGreatDoor.eng
