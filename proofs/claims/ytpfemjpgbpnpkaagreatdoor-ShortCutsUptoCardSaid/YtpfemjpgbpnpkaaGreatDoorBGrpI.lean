/- Joined by wip/bundle.py: XWayA XLawWay XWayR XLawCut. -/
import Derived.Test.YtpfemjpgbpnpkaaGreatDoorBGrpU
import Derived.Test.YtpfemjpgbpnpkaaGreatDoorBGrp1
import Derived.Test.YtpfemjpgbpnpkaaGreatDoorBGrpX
import Derived.Test.YtpfemjpgbpnpkaaGreatDoorBOpenA
set_option maxRecDepth 100000
namespace Go.Proofs.YtpfemjpgbpnpkaaGreatDoor.eng
open Go.RowKit num mem seg q held ratA ratB ratC ratD ratE vars ratF trq
section
variable {K : AV → Prop}
theorem Zkr (q:List RV) (hq:q.length≤1048576∧∀ x,x∈q→x.z≤1048576):Spec Tryz.prog Tab 144 [.val (.one (.d (.list (List.map rd q))))] (.val (.one (.d (.list (List.map rdc (gdL q)))))):=by
 have hLq:(List.map rd q).length=q.length:=List.length_map ..
 have hq1:=hq.1
 refine Za Tryz.func144 rfl rfl Tryz.ntmps144 rfl (by kernel_rfl) rfl rfl ?_
 refine⟨Nat,fun i=> [(3,.val (.one (.row 17 0))),(6,.val (.one (.d (.list (List.map rd q))))),(7,int ((List.map rd q).length:Int)),(8,int (i:Int))],
  fun i=> [(17,.row 23 3 0 (List.map rdc (gdL (q.take i))) true)],fun i=>i≤q.length,fun i=>q.length - i,0,?_,Nat.zero_le _,fun i hs=> ?_⟩
 ·constructor<;>(repeat' (first|exact rfl|exact True.intro|exact⟨_,_,rfl⟩|exact(by decide)|apply And.intro))
  all_goals first|exact congrArg (fun n:Int=>D.v (.int .i64 n)) (by omega)|exact congrArg (fun n:Int=>D.v (.int .i64 n)) (by rw [wrap64 _ (by omega) (by omega)];omega)|(simp;done)
 have hT:(List.map rdc (gdL (q.take i))).length≤1048576:=by rw [List.length_map,Zin,List.length_take];omega
 refine⟨fun e1=> ?_,fun e1=> ?_⟩
 ·have f9:(i:Int)< ((List.map rd q).length:Int):=of_decide_eq_true e1
  refine Zq (l:=q) (i:=i) (by first|omega|exact Nat.mod_lt _ (by omega)) fun x10 hx10=> ?_
  have hzx10:=hq.2 x10 (List.mem_of_getElem? hx10)
  refine k_ix i [D.v (.bool x10.s),D.v (.string x10.a),D.v (.string x10.d)] (by first|rfl|omega|(rw [wrap64 _ (by omega) (by omega)];omega)|(rw [wrap64 _ (by omega) (by omega)];split<;>omega)) (Zf hx10) rfl ?_
  refine k_of (0) (by omega) (by omega) fun q14 h14 z14=> ?_
  simp only [cn_z] at z14
  refine Zel (x:=x10) (y:=cn q14) (by omega) (by simp only [cn_z];omega) fun q15 h15 z15=> ?_
  simp only [cn_z] at z15
  simp only [cn_q] at h15
  refine⟨⟨row1 rfl,(by show ((List.map rdc (gdL (q.take i))).length+1)*40≤_;omega),(by show ((List.map rdc (gdL (q.take i))).length+1)≤_;omega)⟩,?_⟩
  refine⟨by kernel_rfl,?_⟩
  have e15:q15=x10.q:=by rw [h15,h14,Rat.intCast_zero,Rat.add_zero]
  clear h15
  subst e15
  refine⟨i+1,by omega,by simp only;omega,?_⟩
  constructor<;>(repeat' (first|exact rfl|exact True.intro|apply And.intro))
  all_goals first
   |(rw [ZjM _ hx10];rfl)
   |exact congrArg (fun n:Int=>D.v (.int .i64 n)) (by rw [wrap64 _ (by omega) (by omega)];omega)
   |exact congrArg (fun n:Int=>D.v (.int .i64 n)) (by omega)
 ·have f9:¬ ((i:Int)< ((List.map rd q).length:Int)):=of_decide_eq_false e1
  refine Eq.trans (b:= .val (.one (.d (.list (List.map rdc (gdL (q.take i))))))) ?_ rfl
  rw [List.take_of_length_le (by omega)]
theorem Zeg {L:List (List RV)} {i:Nat} {q:List RV} (hw:wAt L i=q) (hq:q.length≤1048576∧∀ x,x∈q→x.z≤1048576) (k:K (.val (.one (.d (.list (List.map rdc (gdL (wAt L i)))))))):Ask 144 [.val (.one (.d (.list (List.map rd q))))] K:=by
 subst hw;exact use (Zkr _ hq) rfl k
set_option maxHeartbeats 2000000 in
theorem Zmh (A:ArmV) (L:List (List RV)) (hA:A.ok) (hL:L.length≤1048576∧∀ q,q∈L→q.length≤1048576∧∀ x,x∈q→x.z≤1048576):Spec Tryz.prog Tab 141 [.val (.agg [.d (.v (.string A.name)),.d (.v (.bool A.bx.s)),.d (.v (.string A.bx.a)),.d (.v (.string A.bx.d)),.d (.v (.bool A.by'.s)),.d (.v (.string A.by'.a)),.d (.v (.string A.by'.d)),.d (.v (.bool (A.bh))),.d (.v (.bool A.bt.s)),.d (.v (.string A.bt.a)),.d (.v (.string A.bt.d)),.d (.list (List.map lk A.links))]),.val (.one (.d (.list (List.map rdrs L))))] (int (chkE A L)):=by
 have hA2:=hA
 have hLL:(List.map rdrs L).length=L.length:=List.length_map ..
 have hL1:=hL.1
 refine Za Tryz.func141 rfl rfl Tryz.ntmps141 rfl (by kernel_rfl) rfl rfl ?_
 refine ZjK (A:=A) (by assumption) fun n10 hk_10_1=> ?_
 refine⟨fun e1=> ?_,fun e1=> ?_⟩
 ·have f12:n10≠0:=Z8 e1
  refine Eq.trans (b:=int n10) ?_ rfl
  have hno:¬ armE A=0:=by rw [← hk_10_1];exact f12
  have hB:=Zcg (L:=L) hno
  rw [ZaW (by rw [hB];exact hno),hB,← hk_10_1]
 ·have f12:¬ (n10≠0):=fun hh=>hh (Z9 e1)
  refine⟨fun e2=> ?_,fun e2=> ?_⟩
  ·have f16:((List.map rdrs L).length:Int)=0:=ZbS e2
   refine Eq.trans (b:=int 14) ?_ rfl
   have hA0:armE A=0:=by rw [← hk_10_1];exact Classical.not_not.1 f12
   have hB:=Zce hA0 (show L.length=0 by omega)
   rw [ZaW (by rw [hB];decide),hB]
  ·have f16:¬ (((List.map rdrs L).length:Int)=0):=ZbT e2
   refine⟨fun e3=> ?_,fun e3=> ?_⟩
   ·have f19:((List.map rdrs L).length:Int) >60:=of_decide_eq_true e3
    refine Eq.trans (b:=int 2) ?_ rfl
    have hA0:armE A=0:=by rw [← hk_10_1];exact Classical.not_not.1 f12
    have hB:=Zcf hA0 (show 60< L.length by omega)
    rw [ZaW (by rw [hB];decide),hB]
   ·have f19:¬ (((List.map rdrs L).length:Int) >60):=of_decide_eq_false e3
    refine⟨Nat,fun i=> [(2,.val (.one (.ptr 2 0))),(20,.val (.one (.d (.list (List.map rdrs L))))),(21,int ((List.map rdrs L).length:Int)),(22,int (i:Int))],
     fun i=> [(2,.var 32 [.d (.v (.string A.name)),.d (.v (.bool A.bx.s)),.d (.v (.string A.bx.a)),.d (.v (.string A.bx.d)),.d (.v (.bool A.by'.s)),.d (.v (.string A.by'.a)),.d (.v (.string A.by'.d)),.d (.v (.bool (A.bh))),.d (.v (.bool A.bt.s)),.d (.v (.string A.bt.a)),.d (.v (.string A.bt.d)),.d (.list (List.map lk A.links))])],fun i=>i≤L.length∧∀ j,j< i→hasE A ((wAt L j).length:Int)=0,fun i=>L.length - i,0,?_,⟨Nat.zero_le _,fun j h=>by omega⟩,fun i hs=> ?_⟩
    ·constructor<;>(repeat' (first|exact rfl|exact True.intro|exact⟨_,_,rfl⟩|exact(by decide)|apply And.intro))
     all_goals first|exact congrArg (fun n:Int=>D.v (.int .i64 n)) (by omega)|exact congrArg (fun n:Int=>D.v (.int .i64 n)) (by rw [wrap64 _ (by omega) (by omega)];omega)|(simp;done)
    obtain⟨g1,g2⟩:=hs
    refine⟨fun e4=> ?_,fun e4=> ?_⟩
    ·have f23:(i:Int)< ((List.map rdrs L).length:Int):=of_decide_eq_true e4
     refine Zq (l:=L) (i:=i) (by first|omega|exact Nat.mod_lt _ (by omega)) fun x24 hx24=> ?_
     have hwx24:=Zal hx24
     have hzx24:=hL.2 x24 (List.mem_of_getElem? hx24)
     refine k_ix i [D.list (List.map rd x24)] (by first|rfl|omega|(rw [wrap64 _ (by omega) (by omega)];omega)|(rw [wrap64 _ (by omega) (by omega)];split<;>omega)) (Zf hx24) rfl ?_
     refine ZnJ (A:=A) (n:=((List.map rd x24).length:Int)) (by assumption) fun n29 hk_29_1=> ?_
     rw [List.length_map] at hk_29_1
     refine⟨fun e5=> ?_,fun e5=> ?_⟩
     ·have f31:n29≠0:=Z8 e5
      refine Eq.trans (b:=int n29) ?_ rfl
      have hA0:armE A=0:=by rw [← hk_10_1];exact Classical.not_not.1 f12
      have hb:=ZbV hA0 (show ¬ L.length=0 by omega) (show ¬ 60< L.length by omega)
      rw [Zok hb g2 hx24 (by rw [← hk_29_1];exact f31),← hk_29_1]
     ·have f31:¬ (n29≠0):=fun hh=>hh (Z9 e5)
      refine⟨i+1,⟨by omega,fun j hj=>by
       by_cases e:j=i
       ·rw [e,hwx24,← hk_29_1];exact Classical.not_not.1 f31
       ·exact g2 j (by omega)⟩,by simp only;omega,?_⟩
      constructor<;>(repeat' (first|exact rfl|exact True.intro|apply And.intro))
      all_goals first
       |exact congrArg (fun n:Int=>D.v (.int .i64 n)) (by rw [wrap64 _ (by omega) (by omega)];omega)
       |exact congrArg (fun n:Int=>D.v (.int .i64 n)) (by omega)
    ·have f23:¬ ((i:Int)< ((List.map rdrs L).length:Int)):=of_decide_eq_false e4
     refine Eq.trans (b:=int 0) ?_ rfl
     have hA0:armE A=0:=by rw [← hk_10_1];exact Classical.not_not.1 f12
     have hb:=ZbV hA0 (show ¬ L.length=0 by omega) (show ¬ 60< L.length by omega)
     rw [Zol hb fun j hj=>g2 j (by omega)]
theorem Ztc {A:ArmV} {L:List (List RV)} (hA:A.ok) (hL:L.length≤1048576∧∀ q,q∈L→q.length≤1048576∧∀ x,x∈q→x.z≤1048576) (k:∀ n,n=chkE A L→K (int n)):Ask 141 [.val (.agg [.d (.v (.string A.name)),.d (.v (.bool A.bx.s)),.d (.v (.string A.bx.a)),.d (.v (.string A.bx.d)),.d (.v (.bool A.by'.s)),.d (.v (.string A.by'.a)),.d (.v (.string A.by'.d)),.d (.v (.bool (A.bh))),.d (.v (.bool A.bt.s)),.d (.v (.string A.bt.a)),.d (.v (.string A.bt.d)),.d (.list (List.map lk A.links))]),.val (.one (.d (.list (List.map rdrs L))))] K:=use (Zmh A L hA hL) rfl (k _ rfl)
set_option maxHeartbeats 8000000 in
theorem Zqv (A:ArmV) (L:List (List RV)) (Wl:List (List (RV×RV))) (o:Int) (hA:A.ok) (hL:L.length≤1048576∧∀ q,q∈L→q.length≤1048576∧∀ x,x∈q→x.z≤1048576) (hW:Wl.length≤1048576∧∀ m,m∈Wl→m.length≤1048576∧∀ p,p∈m→p.1.z≤1048576∧p.2.z≤1048576) (ho:-9223372036854775808≤o∧o≤9223372036854775807):Spec Tryz.prog Tab 89 [.val (.agg [.d (.v (.string A.name)),.d (.v (.bool A.bx.s)),.d (.v (.string A.bx.a)),.d (.v (.string A.bx.d)),.d (.v (.bool A.by'.s)),.d (.v (.string A.by'.a)),.d (.v (.string A.by'.d)),.d (.v (.bool (A.bh))),.d (.v (.bool A.bt.s)),.d (.v (.string A.bt.a)),.d (.v (.string A.bt.d)),.d (.list (List.map lk A.links))]),.val (.one (.d (.list (List.map rdrs L)))),.val (.one (.d (.list (List.map rdvs Wl)))),int o] (.tup [.one (.d (.list (List.map rdcs (cutV A L Wl o)))),.one (.d (.v (.int .i64 (cutE A L Wl o))))]):=by
 have hA2:=hA
 have hLL:(List.map rdrs L).length=L.length:=List.length_map ..
 have hL1:=hL.1
 refine Za Tryz.func89 rfl rfl Tryz.ntmps89 rfl (by kernel_rfl) rfl rfl ?_
 refine Ztc (A:=A) (L:=L) hA2 hL fun n20 hk_20_1=> ?_
 refine⟨fun e1=> ?_,fun e1=> ?_⟩
 ·have f22:n20≠0:=Z8 e1
  refine Eq.trans (b:= .tup [.one (.d (.list ([]))),.one (.d (.v (.int .i64 (n20))))]) ?_ rfl
  have hno:¬ chkE A L=0:=by rw [← hk_20_1];exact f22
  have hE:=Zoc (W:=Wl) (o:=o) hno
  rw [Zgd (by rw [hE];exact hno),hE,← hk_20_1]
  all_goals rfl
 ·have f22:¬ (n20≠0):=fun hh=>hh (Z9 e1)
  have hc:chkE A L=0:=by rw [← hk_20_1];exact Classical.not_not.1 f22
  obtain⟨hb,hhas⟩:=Zgi hc
  obtain⟨hA0,hn0,hn60⟩:=ZdS hb
  refine Zq (l:=L) (i:=0) (by first|omega|exact Nat.mod_lt _ (by omega)) fun x27 hx27=> ?_
  have hwx27:=Zal hx27
  have hzx27:=hL.2 x27 (List.mem_of_getElem? hx27)
  refine k_ix 0 [D.list (List.map rd x27)] (by first|rfl|omega|(rw [wrap64 _ (by omega) (by omega)];omega)|(rw [wrap64 _ (by omega) (by omega)];split<;>omega)) (Zf hx27) rfl ?_
  refine k_ix 0 [D.list (List.map rd x27)] (by first|rfl|omega|(rw [wrap64 _ (by omega) (by omega)];omega)|(rw [wrap64 _ (by omega) (by omega)];split<;>omega)) (Zf hx27) rfl ?_
  refine Zf4 (A:=A) (l:=x27) (m:=x27) (Wl:=Wl) (o:=o) hA2 hzx27 hzx27 hW ho fun b34 n34 hb34 hk_34_2=> ?_
  refine⟨by kernel_rfl,?_⟩
  refine⟨fun e2=> ?_,fun e2=> ?_⟩
  ·have f38:n34≠0:=Z8 e2
   refine Eq.trans (b:= .tup [.one (.d (.list ([]))),.one (.d (.v (.int .i64 (n34))))]) ?_ rfl
   have hc:chkE A L=0:=by rw [← hk_20_1];exact Classical.not_not.1 f22
   have hE:cutE A L Wl o=n34:=by rw [Zfp hc,hk_34_2,hwx27]
   rw [Zgd (by rw [hE];exact f38),hE]
   all_goals rfl
  ·have f38:¬ (n34≠0):=fun hh=>hh (Z9 e2)
   have hmo:motE A (wAt L 0) (wAt L 0) Wl o=0:=by rw [hwx27,← hk_34_2];exact Classical.not_not.1 f38
   have hE:cutE A L Wl o=0:=by rw [Zfp hc,hmo]
   refine k_ix 0 [D.list (List.map rd x27)] (by first|rfl|omega|(rw [wrap64 _ (by omega) (by omega)];omega)|(rw [wrap64 _ (by omega) (by omega)];split<;>omega)) (Zf hx27) rfl ?_
   refine Zeg (L:=L) (i:=0) (q:=x27) hwx27 hzx27 ?_
   refine⟨Nat×Nat×List Nat,fun (i,f,I)=> [(1,.val (.one (.d (.list (List.map rdrs L))))),(2,.val (.one (.d (.list (List.map rdvs Wl))))),(3,int o),(4,.val (.one (.ptr 4 0))),(13,trAV 82 L I),(14,int (i:Int))],
    fun (i,f,I)=> [(4,.var 32 [.d (.v (.string A.name)),.d (.v (.bool A.bx.s)),.d (.v (.string A.bx.a)),.d (.v (.string A.bx.d)),.d (.v (.bool A.by'.s)),.d (.v (.string A.by'.a)),.d (.v (.string A.by'.d)),.d (.v (.bool (A.bh))),.d (.v (.bool A.bt.s)),.d (.v (.string A.bt.a)),.d (.v (.string A.bt.d)),.d (.list (List.map lk A.links))])]++trOb 82 L I,fun (i,f,I)=>i< L.length∧L.length≤i+f+1∧I++trail (prv A L Wl o) L.length f i=cutI A L Wl o∧I.length≤i,fun (i,f,I)=>L.length - i,(0,L.length, []),?_,⟨by omega,by omega,rfl,Nat.le_refl _⟩,fun s hs=> ?_⟩
   ·constructor<;>(repeat' (first|exact rfl|exact True.intro|exact⟨_,_,rfl⟩|exact(by decide)|apply And.intro))
    all_goals first|exact congrArg (fun n:Int=>D.v (.int .i64 n)) (by omega)|exact congrArg (fun n:Int=>D.v (.int .i64 n)) (by rw [wrap64 _ (by omega) (by omega)];omega)|(simp;done)
   obtain⟨i,f,I⟩:=s
   obtain⟨g1,g2,g3,g4⟩:=hs
   try simp only at g1 g2 g3 g4
   refine⟨fun e3=> ?_,fun e3=> ?_⟩
   ·have f49:(i:Int)< IntKind.i64.wrap (((List.map rdrs L).length:Int) - 1):=of_decide_eq_true e3
    have hwl:IntKind.i64.wrap (((List.map rdrs L).length:Int) - 1)=((L.length - 1:Nat):Int):=by rw [wrap64 _ (by omega) (by omega)];omega
    have f49:i+1< L.length:=by rw [hwl] at f49;omega
    obtain⟨f,rfl⟩:∃ g,f=g+1:=⟨f - 1,by omega⟩
    have hwi:IntKind.i64.wrap ((i:Int)+1)=(i:Int)+1:=wrap64 _ (by omega) (by omega)
    rcases I with _|⟨c,r⟩
    ·simp only [List.length_nil,List.length_cons] at g4
     have hwl:IntKind.i64.wrap (((List.map rdrs L).length:Int) - 1)=((L.length - 1:Nat):Int):=by rw [wrap64 _ (by omega) (by omega)];omega
     refine⟨Nat,fun k=> [(1,.val (.one (.d (.list (List.map rdrs L))))),(2,.val (.one (.d (.list (List.map rdvs Wl))))),(3,int o),(4,.val (.one (.ptr 4 0))),(13,.val (.one (.full ([[D.list (List.map rdc (gdL (wAt L 0)))]])))),(14,int (i:Int)),(15,int (k:Int))],
      fun k=> [(4,.var 32 [.d (.v (.string A.name)),.d (.v (.bool A.bx.s)),.d (.v (.string A.bx.a)),.d (.v (.string A.bx.d)),.d (.v (.bool A.by'.s)),.d (.v (.string A.by'.a)),.d (.v (.string A.by'.d)),.d (.v (.bool (A.bh))),.d (.v (.bool A.bt.s)),.d (.v (.string A.bt.a)),.d (.v (.string A.bt.d)),.d (.list (List.map lk A.links))])],fun k=>i+1≤k∧k≤L.length - 1∧nxt (prv A L Wl o i) i (L.length - 2 - i)=nxt (prv A L Wl o i) i (k - (i+1)),fun k=>k,(L.length - 1),?_,⟨by omega,by omega,by rw [show L.length - 1 - (i+1)=L.length - 2 - i by omega]⟩,fun k hs=> ?_⟩
     ·constructor<;>(repeat' (first|exact rfl|exact True.intro|exact⟨_,_,rfl⟩|exact(by decide)|apply And.intro))
      all_goals first
       |exact congrArg (fun n:Int=>D.v (.int .i64 n)) hwl
       |exact congrArg (fun n:Int=>D.v (.int .i64 n)) hwl.symm
       |exact congrArg (fun n:Int=>D.v (.int .i64 n)) (by omega)
       |(simp;done)
     obtain⟨g5,g6,g7⟩:=hs
     refine⟨fun e4=> ?_,fun e4=> ?_⟩
     ·have f56:(k:Int) >IntKind.i64.wrap ((i:Int)+1):=of_decide_eq_true e4
      refine Zq (l:=L) (i:=i) (by first|omega|exact Nat.mod_lt _ (by omega)) fun x63 hx63=> ?_
      have hwx63:=Zal hx63
      have hzx63:=hL.2 x63 (List.mem_of_getElem? hx63)
      refine k_ix i [D.list (List.map rd x63)] (by first|rfl|omega|(rw [wrap64 _ (by omega) (by omega)];omega)|(rw [wrap64 _ (by omega) (by omega)];split<;>omega)) (Zf hx63) rfl ?_
      refine Zq (l:=L) (i:=k) (by first|omega|exact Nat.mod_lt _ (by omega)) fun x67 hx67=> ?_
      have hwx67:=Zal hx67
      have hzx67:=hL.2 x67 (List.mem_of_getElem? hx67)
      refine k_ix k [D.list (List.map rd x67)] (by first|rfl|omega|(rw [wrap64 _ (by omega) (by omega)];omega)|(rw [wrap64 _ (by omega) (by omega)];split<;>omega)) (Zf hx67) rfl ?_
      refine Zf4 (A:=A) (l:=x63) (m:=x67) (Wl:=Wl) (o:=o) hA2 hzx63 hzx67 hW ho fun b71 n71 hb71 hk_71_2=> ?_
      have hpr:b71=prv A L Wl o i k:=by rw [hb71,← hwx63,← hwx67];exact ZmL hc hmo (by omega) (by omega)
      refine⟨by kernel_rfl,?_⟩
      refine⟨fun e5=> ?_,fun e5=> ?_⟩
      ·have f74:b71=true:=e5
       refine k_ix k [D.list (List.map rd x67)] (by first|rfl|omega|(rw [wrap64 _ (by omega) (by omega)];omega)|(rw [wrap64 _ (by omega) (by omega)];split<;>omega)) (Zf hx67) rfl ?_
       refine Zeg (L:=L) (i:=k) (q:=x67) hwx67 hzx67 ?_
       refine⟨⟨Nat.zero_lt_succ _,row1 rfl,row1 rfl,(by show (1+1)*24≤_;omega),(by show 1+1≤_;omega)⟩,?_⟩
       have hnx:nxt (prv A L Wl o i) i (L.length - 2 - i)=k:=by rw [g7];exact ZmN (by omega) (by rw [← hpr];exact f74)
       have ht: [k]++trail (prv A L Wl o) L.length f k=cutI A L Wl o:=by rw [← g3,Zau (by omega) f,hnx];simp
       have hle:=ZcI (prv A L Wl o i) i (L.length - 2 - i)
       rw [hnx] at hle
       refine⟨(k,f, [k]),⟨by omega,by omega,ht,by simp only [List.length_cons,List.length_append,List.length_nil] at g4 ⊢;omega⟩,by simp only;omega,?_⟩
       constructor<;>(repeat' (first|exact rfl|exact True.intro|apply And.intro))
       all_goals first
        |(simp [rowQ,rdcs];done)
        |exact congrArg (fun n:Int=>D.v (.int .i64 n)) (by rw [wrap64 _ (by omega) (by omega)];omega)
        |exact congrArg (fun n:Int=>D.v (.int .i64 n)) (by omega)
      ·have f74:¬ (b71=true):=fun hh=>ZaG hh e5
       refine⟨(k - 1),⟨by omega,by omega,by rw [g7,Zjt (by omega) (by rw [← hpr];exact f74)]⟩,by simp only;omega,?_⟩
       constructor<;>(repeat' (first|exact rfl|exact True.intro|apply And.intro))
       all_goals first
        |exact congrArg (fun n:Int=>D.v (.int .i64 n)) (by rw [wrap64 _ (by omega) (by omega)];omega)
        |exact congrArg (fun n:Int=>D.v (.int .i64 n)) (by omega)
     ·have f56:¬ ((k:Int) >IntKind.i64.wrap ((i:Int)+1)):=of_decide_eq_false e4
      refine Zq (l:=L) (i:=k) (by first|omega|exact Nat.mod_lt _ (by omega)) fun x78 hx78=> ?_
      have hwx78:=Zal hx78
      have hzx78:=hL.2 x78 (List.mem_of_getElem? hx78)
      refine k_ix k [D.list (List.map rd x78)] (by first|rfl|omega|(rw [wrap64 _ (by omega) (by omega)];omega)|(rw [wrap64 _ (by omega) (by omega)];split<;>omega)) (Zf hx78) rfl ?_
      refine Zeg (L:=L) (i:=k) (q:=x78) hwx78 hzx78 ?_
      refine⟨⟨Nat.zero_lt_succ _,row1 rfl,row1 rfl,(by show (1+1)*24≤_;omega),(by show 1+1≤_;omega)⟩,?_⟩
      have hnx:nxt (prv A L Wl o i) i (L.length - 2 - i)=k:=by rw [g7];exact ZmO (by omega)
      have ht: [k]++trail (prv A L Wl o) L.length f k=cutI A L Wl o:=by rw [← g3,Zau (by omega) f,hnx];simp
      have hle:=ZcI (prv A L Wl o i) i (L.length - 2 - i)
      rw [hnx] at hle
      refine⟨(k,f, [k]),⟨by omega,by omega,ht,by simp only [List.length_cons,List.length_append,List.length_nil] at g4 ⊢;omega⟩,by simp only;omega,?_⟩
      constructor<;>(repeat' (first|exact rfl|exact True.intro|apply And.intro))
      all_goals first
       |(simp [rowQ,rdcs];done)
       |exact congrArg (fun n:Int=>D.v (.int .i64 n)) (by rw [wrap64 _ (by omega) (by omega)];omega)
       |exact congrArg (fun n:Int=>D.v (.int .i64 n)) (by omega)
    ·simp only [List.length_nil,List.length_cons] at g4
     have hT:(List.map rdcs (rowQ L (0 :: c :: r))).length≤62:=by simp only [rowQ,List.length_map,List.length_cons];omega
     have hwl:IntKind.i64.wrap (((List.map rdrs L).length:Int) - 1)=((L.length - 1:Nat):Int):=by rw [wrap64 _ (by omega) (by omega)];omega
     refine⟨Nat,fun k=> [(1,.val (.one (.d (.list (List.map rdrs L))))),(2,.val (.one (.d (.list (List.map rdvs Wl))))),(3,int o),(4,.val (.one (.ptr 4 0))),(13,.val (.one (.row 82 0))),(14,int (i:Int)),(15,int (k:Int))],
      fun k=> [(4,.var 32 [.d (.v (.string A.name)),.d (.v (.bool A.bx.s)),.d (.v (.string A.bx.a)),.d (.v (.string A.bx.d)),.d (.v (.bool A.by'.s)),.d (.v (.string A.by'.a)),.d (.v (.string A.by'.d)),.d (.v (.bool (A.bh))),.d (.v (.bool A.bt.s)),.d (.v (.string A.bt.a)),.d (.v (.string A.bt.d)),.d (.list (List.map lk A.links))]),(82,.row 33 1 0 (List.map rdcs (rowQ L (0 :: c :: r))) true)],fun k=>i+1≤k∧k≤L.length - 1∧nxt (prv A L Wl o i) i (L.length - 2 - i)=nxt (prv A L Wl o i) i (k - (i+1)),fun k=>k,(L.length - 1),?_,⟨by omega,by omega,by rw [show L.length - 1 - (i+1)=L.length - 2 - i by omega]⟩,fun k hs=> ?_⟩
     ·constructor<;>(repeat' (first|exact rfl|exact True.intro|exact⟨_,_,rfl⟩|exact(by decide)|apply And.intro))
      all_goals first
       |exact congrArg (fun n:Int=>D.v (.int .i64 n)) hwl
       |exact congrArg (fun n:Int=>D.v (.int .i64 n)) hwl.symm
       |exact congrArg (fun n:Int=>D.v (.int .i64 n)) (by omega)
       |(simp;done)
     obtain⟨g5,g6,g7⟩:=hs
     refine⟨fun e6=> ?_,fun e6=> ?_⟩
     ·have f56:(k:Int) >IntKind.i64.wrap ((i:Int)+1):=of_decide_eq_true e6
      refine Zq (l:=L) (i:=i) (by first|omega|exact Nat.mod_lt _ (by omega)) fun x63 hx63=> ?_
      have hwx63:=Zal hx63
      have hzx63:=hL.2 x63 (List.mem_of_getElem? hx63)
      refine k_ix i [D.list (List.map rd x63)] (by first|rfl|omega|(rw [wrap64 _ (by omega) (by omega)];omega)|(rw [wrap64 _ (by omega) (by omega)];split<;>omega)) (Zf hx63) rfl ?_
      refine Zq (l:=L) (i:=k) (by first|omega|exact Nat.mod_lt _ (by omega)) fun x67 hx67=> ?_
      have hwx67:=Zal hx67
      have hzx67:=hL.2 x67 (List.mem_of_getElem? hx67)
      refine k_ix k [D.list (List.map rd x67)] (by first|rfl|omega|(rw [wrap64 _ (by omega) (by omega)];omega)|(rw [wrap64 _ (by omega) (by omega)];split<;>omega)) (Zf hx67) rfl ?_
      refine Zf4 (A:=A) (l:=x63) (m:=x67) (Wl:=Wl) (o:=o) hA2 hzx63 hzx67 hW ho fun b71 n71 hb71 hk_71_2=> ?_
      have hpr:b71=prv A L Wl o i k:=by rw [hb71,← hwx63,← hwx67];exact ZmL hc hmo (by omega) (by omega)
      refine⟨by kernel_rfl,?_⟩
      refine⟨fun e7=> ?_,fun e7=> ?_⟩
      ·have f74:b71=true:=e7
       refine k_ix k [D.list (List.map rd x67)] (by first|rfl|omega|(rw [wrap64 _ (by omega) (by omega)];omega)|(rw [wrap64 _ (by omega) (by omega)];split<;>omega)) (Zf hx67) rfl ?_
       refine Zeg (L:=L) (i:=k) (q:=x67) hwx67 hzx67 ?_
       refine⟨⟨row1 rfl,(by show ((List.map rdcs (rowQ L (0 :: c :: r))).length+1)*24≤_;omega),(by show ((List.map rdcs (rowQ L (0 :: c :: r))).length+1)≤_;omega)⟩,?_⟩
       have hnx:nxt (prv A L Wl o i) i (L.length - 2 - i)=k:=by rw [g7];exact ZmN (by omega) (by rw [← hpr];exact f74)
       have ht:(c :: (r++ [k]))++trail (prv A L Wl o) L.length f k=cutI A L Wl o:=by rw [← g3,Zau (by omega) f,hnx];simp
       have hle:=ZcI (prv A L Wl o i) i (L.length - 2 - i)
       rw [hnx] at hle
       refine⟨(k,f,c :: (r++ [k])),⟨by omega,by omega,ht,by simp only [List.length_cons,List.length_append,List.length_nil] at g4 ⊢;omega⟩,by simp only;omega,?_⟩
       constructor<;>(repeat' (first|exact rfl|exact True.intro|apply And.intro))
       all_goals first
        |(simp [rowQ,rdcs];done)
        |exact congrArg (fun n:Int=>D.v (.int .i64 n)) (by rw [wrap64 _ (by omega) (by omega)];omega)
        |exact congrArg (fun n:Int=>D.v (.int .i64 n)) (by omega)
      ·have f74:¬ (b71=true):=fun hh=>ZaG hh e7
       refine⟨(k - 1),⟨by omega,by omega,by rw [g7,Zjt (by omega) (by rw [← hpr];exact f74)]⟩,by simp only;omega,?_⟩
       constructor<;>(repeat' (first|exact rfl|exact True.intro|apply And.intro))
       all_goals first
        |exact congrArg (fun n:Int=>D.v (.int .i64 n)) (by rw [wrap64 _ (by omega) (by omega)];omega)
        |exact congrArg (fun n:Int=>D.v (.int .i64 n)) (by omega)
     ·have f56:¬ ((k:Int) >IntKind.i64.wrap ((i:Int)+1)):=of_decide_eq_false e6
      refine Zq (l:=L) (i:=k) (by first|omega|exact Nat.mod_lt _ (by omega)) fun x78 hx78=> ?_
      have hwx78:=Zal hx78
      have hzx78:=hL.2 x78 (List.mem_of_getElem? hx78)
      refine k_ix k [D.list (List.map rd x78)] (by first|rfl|omega|(rw [wrap64 _ (by omega) (by omega)];omega)|(rw [wrap64 _ (by omega) (by omega)];split<;>omega)) (Zf hx78) rfl ?_
      refine Zeg (L:=L) (i:=k) (q:=x78) hwx78 hzx78 ?_
      refine⟨⟨row1 rfl,(by show ((List.map rdcs (rowQ L (0 :: c :: r))).length+1)*24≤_;omega),(by show ((List.map rdcs (rowQ L (0 :: c :: r))).length+1)≤_;omega)⟩,?_⟩
      have hnx:nxt (prv A L Wl o i) i (L.length - 2 - i)=k:=by rw [g7];exact ZmO (by omega)
      have ht:(c :: (r++ [k]))++trail (prv A L Wl o) L.length f k=cutI A L Wl o:=by rw [← g3,Zau (by omega) f,hnx];simp
      have hle:=ZcI (prv A L Wl o i) i (L.length - 2 - i)
      rw [hnx] at hle
      refine⟨(k,f,c :: (r++ [k])),⟨by omega,by omega,ht,by simp only [List.length_cons,List.length_append,List.length_nil] at g4 ⊢;omega⟩,by simp only;omega,?_⟩
      constructor<;>(repeat' (first|exact rfl|exact True.intro|apply And.intro))
      all_goals first
       |(simp [rowQ,rdcs];done)
       |exact congrArg (fun n:Int=>D.v (.int .i64 n)) (by rw [wrap64 _ (by omega) (by omega)];omega)
       |exact congrArg (fun n:Int=>D.v (.int .i64 n)) (by omega)
   ·have f49:¬ ((i:Int)< IntKind.i64.wrap (((List.map rdrs L).length:Int) - 1)):=of_decide_eq_false e3
    have hwl:IntKind.i64.wrap (((List.map rdrs L).length:Int) - 1)=((L.length - 1:Nat):Int):=by rw [wrap64 _ (by omega) (by omega)];omega
    have f49:¬ i+1< L.length:=by rw [hwl] at f49;omega
    rcases I with _|⟨c,r⟩
    ·simp only [List.length_nil,List.length_cons] at g4
     refine Eq.trans (b:= .tup [.one (.d (.list ([[D.list (List.map rdc (gdL (wAt L 0)))]]))),.one (.d (.v (.int .i64 (0))))]) ?_ rfl
     have hI:cutI A L Wl o= []:=by rw [← g3,ZbD (by omega)];simp
     rw [ZbR hE,hE,hI]
     all_goals rfl
    ·simp only [List.length_nil,List.length_cons] at g4
     have hT:(List.map rdcs (rowQ L (0 :: c :: r))).length≤62:=by simp only [rowQ,List.length_map,List.length_cons];omega
     refine Eq.trans (b:= .tup [.one (.d (.list (List.map rdcs (rowQ L (0 :: c :: r))))),.one (.d (.v (.int .i64 (0))))]) ?_ rfl
     have hI:cutI A L Wl o=c :: r:=by rw [← g3,ZbD (by omega)];simp
     rw [ZbR hE,hE,hI]
     all_goals rfl
theorem Zr9 {A:ArmV} {L:List (List RV)} {Wl:List (List (RV×RV))} {o:Int} (hA:A.ok) (hL:L.length≤1048576∧∀ q,q∈L→q.length≤1048576∧∀ x,x∈q→x.z≤1048576) (hW:Wl.length≤1048576∧∀ m,m∈Wl→m.length≤1048576∧∀ p,p∈m→p.1.z≤1048576∧p.2.z≤1048576) (ho:-9223372036854775808≤o∧o≤9223372036854775807) (k:∀ n,n=cutE A L Wl o→K (.tup [.one (.d (.list (List.map rdcs (cutV A L Wl o)))),.one (.d (.v (.int .i64 n)))])):Ask 89 [.val (.agg [.d (.v (.string A.name)),.d (.v (.bool A.bx.s)),.d (.v (.string A.bx.a)),.d (.v (.string A.bx.d)),.d (.v (.bool A.by'.s)),.d (.v (.string A.by'.a)),.d (.v (.string A.by'.d)),.d (.v (.bool (A.bh))),.d (.v (.bool A.bt.s)),.d (.v (.string A.bt.a)),.d (.v (.string A.bt.d)),.d (.list (List.map lk A.links))]),.val (.one (.d (.list (List.map rdrs L)))),.val (.one (.d (.list (List.map rdvs Wl)))),int o] K:=use (Zqv A L Wl o hA hL hW ho) rfl (k _ rfl)
end
end Go.Proofs.YtpfemjpgbpnpkaaGreatDoor.eng
namespace Go.Proofs.YtpfemjpgbpnpkaaGreatDoor.eng
open Go.RowKit num mem seg q held ratA ratB ratC ratD ratE vars ratF argopen trq
section
variable {K : AV → Prop}
theorem ZrE {A:ArmV} (hA:armE A=0) (h1:A.links.length=1) {q r:List RV} (hq:q.length=1) (hr:r.length=1):motE A q r [] 1=0:=by
 refine ZbK.2 ⟨Z4.2 ⟨hA,by omega⟩,?_,Zfw (by decide) (fun j hj=>absurd hj (Nat.not_lt_zero j))⟩
 unfold splitBad;omega
theorem Zry (A:ArmV) (R:List (List (RV×RV))):provedB A R []=true:=by
 unfold provedB
 rw [List.all_eq_true]
 intro row _
 rw [List.all_eq_true]
 intro b _
 rfl
theorem Zrz (n:Nat):(natRV [n]).length=1:=rfl
theorem Zrj:armE (sampA [3])=0:=Zjg (by decide) (by decide) (by decide)
theorem ZpA {n:Nat} (h:n< 256):(natRV [n]).length≤1048576∧∀ x,x∈natRV [n]→x.z≤1048576:=⟨by rw [Zrz];omega,fun x hx=>Nat.le_trans (ZrA (fun m hm=>by obtain rfl:=List.mem_singleton.1 hm;exact h) x hx) (by decide)⟩
theorem noW:([]:List (List (RV×RV))).length≤1048576∧∀ m,m∈([]:List (List (RV×RV)))→m.length≤1048576∧∀ p,p∈m→p.1.z≤1048576∧p.2.z≤1048576:=⟨by decide,fun m hm=>by simp at hm⟩
theorem Zq8 {l:List (List RV)} {N:Nat} (h:wayZ l N) (hN:N≤1048576):l.length≤1048576∧∀ q,q∈l→q.length≤1048576∧∀ x,x∈q→x.z≤1048576:=Zqx h hN
end
end Go.Proofs.YtpfemjpgbpnpkaaGreatDoor.eng
namespace Go.Proofs.YtpfemjpgbpnpkaaGreatDoor.eng
open Go.RowKit num mem seg q held ratA ratB ratC ratD ratE vars ratF trq
section
variable {K : AV → Prop}
theorem ZhG (q:List RV) (hq:q.length≤1048576∧∀ x,x∈q→x.z≤1048576):Spec Tryz.prog Tab 148 [.val (.one (.d (.list (List.map rd q))))] (.val (.one (.d (.list (List.map rdc (gdL q)))))):=by
 have hLq:(List.map rd q).length=q.length:=List.length_map ..
 have hq1:=hq.1
 refine Za Tryz.func148 rfl rfl Tryz.ntmps148 rfl (by kernel_rfl) rfl rfl ?_
 refine⟨Nat,fun i=> [(3,.val (.one (.row 17 0))),(6,.val (.one (.d (.list (List.map rd q))))),(7,int ((List.map rd q).length:Int)),(8,int (i:Int))],
  fun i=> [(17,.row 23 3 0 (List.map rdc (gdL (q.take i))) true)],fun i=>i≤q.length,fun i=>q.length - i,0,?_,Nat.zero_le _,fun i hs=> ?_⟩
 ·constructor<;>(repeat' (first|exact rfl|exact True.intro|exact⟨_,_,rfl⟩|exact(by decide)|apply And.intro))
  all_goals first|exact congrArg (fun n:Int=>D.v (.int .i64 n)) (by omega)|exact congrArg (fun n:Int=>D.v (.int .i64 n)) (by rw [wrap64 _ (by omega) (by omega)];omega)|(simp;done)
 have hT:(List.map rdc (gdL (q.take i))).length≤1048576:=by rw [List.length_map,Zin,List.length_take];omega
 refine⟨fun e1=> ?_,fun e1=> ?_⟩
 ·have f9:(i:Int)< ((List.map rd q).length:Int):=of_decide_eq_true e1
  refine Zq (l:=q) (i:=i) (by first|omega|exact Nat.mod_lt _ (by omega)) fun x10 hx10=> ?_
  have hzx10:=hq.2 x10 (List.mem_of_getElem? hx10)
  refine k_ix i [D.v (.bool x10.s),D.v (.string x10.a),D.v (.string x10.d)] (by first|rfl|omega|(rw [wrap64 _ (by omega) (by omega)];omega)|(rw [wrap64 _ (by omega) (by omega)];split<;>omega)) (Zf hx10) rfl ?_
  refine Zx (x:=x10) (by omega) fun q14 h14 z14=> ?_
  refine Zr3 (q:=q14) (by omega) ?_
  refine⟨⟨row1 rfl,(by show ((List.map rdc (gdL (q.take i))).length+1)*40≤_;omega),(by show ((List.map rdc (gdL (q.take i))).length+1)≤_;omega)⟩,?_⟩
  subst h14
  refine⟨i+1,by omega,by simp only;omega,?_⟩
  constructor<;>(repeat' (first|exact rfl|exact True.intro|apply And.intro))
  all_goals first
   |(rw [ZjM _ hx10];rfl)
   |exact congrArg (fun n:Int=>D.v (.int .i64 n)) (by rw [wrap64 _ (by omega) (by omega)];omega)
   |exact congrArg (fun n:Int=>D.v (.int .i64 n)) (by omega)
 ·have f9:¬ ((i:Int)< ((List.map rd q).length:Int)):=of_decide_eq_false e1
  refine Eq.trans (b:= .val (.one (.d (.list (List.map rdc (gdL (q.take i))))))) ?_ rfl
  rw [List.take_of_length_le (by omega)]
theorem Zf2 {L:List (List RV)} {i:Nat} {q:List RV} (hw:wAt L i=q) (hq:q.length≤1048576∧∀ x,x∈q→x.z≤1048576) (k:K (.val (.one (.d (.list (List.map rdc (gdL (wAt L i)))))))):Ask 148 [.val (.one (.d (.list (List.map rd q))))] K:=by
 subst hw;exact use (ZhG _ hq) rfl k
theorem Zp7 {A:ArmV} {n:Int} (h:armE A=0) (g:¬ n=(A.links.length:Int)):hasE A n=1:=by
 unfold hasE;rw [if_pos h,if_neg g]
set_option maxHeartbeats 2000000 in
theorem Zlo (A:ArmV) (L:List (List RV)) (hA:A.ok) (hL:L.length≤1048576∧∀ q,q∈L→q.length≤1048576∧∀ x,x∈q→x.z≤1048576):Spec Tryz.prog Tab 43 [.val (.agg [.d (.v (.string A.name)),.d (.v (.bool A.bx.s)),.d (.v (.string A.bx.a)),.d (.v (.string A.bx.d)),.d (.v (.bool A.by'.s)),.d (.v (.string A.by'.a)),.d (.v (.string A.by'.d)),.d (.v (.bool (A.bh))),.d (.v (.bool A.bt.s)),.d (.v (.string A.bt.a)),.d (.v (.string A.bt.d)),.d (.list (List.map lk A.links))]),.val (.one (.d (.list (List.map rdrs L))))] (int (chkE A L)):=by
 have hA2:=hA
 have hLL:(List.map rdrs L).length=L.length:=List.length_map ..
 have hL1:=hL.1
 have hLk:(List.map lk A.links).length=A.links.length:=List.length_map ..
 have hAn:=hA.2.2.2.2.1
 refine Za Tryz.func43 rfl rfl Tryz.ntmps43 rfl (by kernel_rfl) rfl rfl ?_
 refine Zff (A:=A) (by assumption) fun n9 hk_9_1=> ?_
 refine⟨fun e1=> ?_,fun e1=> ?_⟩
 ·have f11:n9≠0:=Z8 e1
  refine Eq.trans (b:=int n9) ?_ rfl
  have hno:¬ armE A=0:=by rw [← hk_9_1];exact f11
  have hB:=Zcg (L:=L) hno
  rw [ZaW (by rw [hB];exact hno),hB,← hk_9_1]
 ·have f11:¬ (n9≠0):=fun hh=>hh (Z9 e1)
  refine⟨fun e2=> ?_,fun e2=> ?_⟩
  ·have f15:((List.map rdrs L).length:Int)=0:=ZbS e2
   refine Eq.trans (b:=int 14) ?_ rfl
   have hA0:armE A=0:=by rw [← hk_9_1];exact Classical.not_not.1 f11
   have hB:=Zce hA0 (show L.length=0 by omega)
   rw [ZaW (by rw [hB];decide),hB]
  ·have f15:¬ (((List.map rdrs L).length:Int)=0):=ZbT e2
   refine⟨fun e3=> ?_,fun e3=> ?_⟩
   ·have f18:((List.map rdrs L).length:Int) >60:=of_decide_eq_true e3
    refine Eq.trans (b:=int 2) ?_ rfl
    have hA0:armE A=0:=by rw [← hk_9_1];exact Classical.not_not.1 f11
    have hB:=Zcf hA0 (show 60< L.length by omega)
    rw [ZaW (by rw [hB];decide),hB]
   ·have f18:¬ (((List.map rdrs L).length:Int) >60):=of_decide_eq_false e3
    have hA0:armE A=0:=by rw [← hk_9_1];exact Classical.not_not.1 f11
    have hb:=ZbV hA0 (show ¬ L.length=0 by omega) (show ¬ 60< L.length by omega)
    refine⟨Nat,fun i=> [(2,.val (.one (.ptr 2 0))),(19,.val (.one (.d (.list (List.map rdrs L))))),(20,int ((List.map rdrs L).length:Int)),(21,int (i:Int))],
     fun i=> [(2,.var 32 [.d (.v (.string A.name)),.d (.v (.bool A.bx.s)),.d (.v (.string A.bx.a)),.d (.v (.string A.bx.d)),.d (.v (.bool A.by'.s)),.d (.v (.string A.by'.a)),.d (.v (.string A.by'.d)),.d (.v (.bool (A.bh))),.d (.v (.bool A.bt.s)),.d (.v (.string A.bt.a)),.d (.v (.string A.bt.d)),.d (.list (List.map lk A.links))])],fun i=>i≤L.length∧∀ j,j< i→hasE A ((wAt L j).length:Int)=0,fun i=>L.length - i,0,?_,⟨Nat.zero_le _,fun j h=>by omega⟩,fun i hs=> ?_⟩
    ·constructor<;>(repeat' (first|exact rfl|exact True.intro|exact⟨_,_,rfl⟩|exact(by decide)|apply And.intro))
     all_goals first|exact congrArg (fun n:Int=>D.v (.int .i64 n)) (by omega)|exact congrArg (fun n:Int=>D.v (.int .i64 n)) (by rw [wrap64 _ (by omega) (by omega)];omega)|(simp;done)
    obtain⟨g1,g2⟩:=hs
    refine⟨fun e4=> ?_,fun e4=> ?_⟩
    ·have f22:(i:Int)< ((List.map rdrs L).length:Int):=of_decide_eq_true e4
     refine Zq (l:=L) (i:=i) (by first|omega|exact Nat.mod_lt _ (by omega)) fun x23 hx23=> ?_
     have hwx23:=Zal hx23
     have hzx23:=hL.2 x23 (List.mem_of_getElem? hx23)
     have hLx:(List.map rd x23).length=x23.length:=List.length_map ..
     have hlx:=hzx23.1
     refine k_ix i [D.list (List.map rd x23)] (by first|rfl|omega|(rw [wrap64 _ (by omega) (by omega)];omega)|(rw [wrap64 _ (by omega) (by omega)];split<;>omega)) (Zf hx23) rfl ?_
     refine⟨fun e5=> ?_,fun e5=> ?_⟩
     ·have f30:((List.map rd x23).length:Int)≠((List.map lk A.links).length:Int):=Z8 e5
      refine Eq.trans (b:=int 1) ?_ rfl
      have hh:hasE A (x23.length:Int)=1:=Zp7 hA0 (by omega)
      rw [Zok hb g2 hx23 (by rw [hh];decide),hh]
     ·have f30:¬ (((List.map rd x23).length:Int)≠((List.map lk A.links).length:Int)):=fun hh=>hh (Z9 e5)
      refine⟨i+1,⟨by omega,fun j hj=>by
       by_cases e:j=i
       ·rw [e,hwx23];exact Z4.2 ⟨hA0,by omega⟩
       ·exact g2 j (by omega)⟩,by simp only;omega,?_⟩
      constructor<;>(repeat' (first|exact rfl|exact True.intro|apply And.intro))
      all_goals first
       |exact congrArg (fun n:Int=>D.v (.int .i64 n)) (by rw [wrap64 _ (by omega) (by omega)];omega)
       |exact congrArg (fun n:Int=>D.v (.int .i64 n)) (by omega)
    ·have f22:¬ ((i:Int)< ((List.map rdrs L).length:Int)):=of_decide_eq_false e4
     refine Eq.trans (b:=int 0) ?_ rfl
     rw [Zol hb fun j hj=>g2 j (by omega)]
theorem Zr5 {A:ArmV} {L:List (List RV)} (hA:A.ok) (hL:L.length≤1048576∧∀ q,q∈L→q.length≤1048576∧∀ x,x∈q→x.z≤1048576) (k:∀ n,n=chkE A L→K (int n)):Ask 43 [.val (.agg [.d (.v (.string A.name)),.d (.v (.bool A.bx.s)),.d (.v (.string A.bx.a)),.d (.v (.string A.bx.d)),.d (.v (.bool A.by'.s)),.d (.v (.string A.by'.a)),.d (.v (.string A.by'.d)),.d (.v (.bool (A.bh))),.d (.v (.bool A.bt.s)),.d (.v (.string A.bt.a)),.d (.v (.string A.bt.d)),.d (.list (List.map lk A.links))]),.val (.one (.d (.list (List.map rdrs L))))] K:=use (Zlo A L hA hL) rfl (k _ rfl)
set_option maxHeartbeats 8000000 in
theorem ZiM (A:ArmV) (L:List (List RV)) (Wl:List (List (RV×RV))) (o:Int) (hA:A.ok) (hL:L.length≤1048576∧∀ q,q∈L→q.length≤1048576∧∀ x,x∈q→x.z≤1048576) (hW:Wl.length≤1048576∧∀ m,m∈Wl→m.length≤1048576∧∀ p,p∈m→p.1.z≤1048576∧p.2.z≤1048576) (hc:chkE A L=0) (hmo:motE A (wAt L 0) (wAt L 0) Wl o=0):Spec Tryz.prog Tab 91 [.val (.agg [.d (.v (.string A.name)),.d (.v (.bool A.bx.s)),.d (.v (.string A.bx.a)),.d (.v (.string A.bx.d)),.d (.v (.bool A.by'.s)),.d (.v (.string A.by'.a)),.d (.v (.string A.by'.d)),.d (.v (.bool (A.bh))),.d (.v (.bool A.bt.s)),.d (.v (.string A.bt.a)),.d (.v (.string A.bt.d)),.d (.list (List.map lk A.links))]),.val (.one (.d (.list (List.map rdrs L)))),.val (.one (.d (.list (List.map rdvs Wl)))),int o] (.val (.one (.d (.list (List.map rdcs (rowQ L (0 :: cutI A L Wl o))))))):=by
 have hA2:=hA
 have hLL:(List.map rdrs L).length=L.length:=List.length_map ..
 have hL1:=hL.1
 obtain⟨hb,hhas⟩:=Zgi hc
 obtain⟨hA0,hn0,hn60⟩:=ZdS hb
 refine Za Tryz.func91 rfl rfl Tryz.ntmps91 rfl (by kernel_rfl) rfl rfl ?_
 refine Zq (l:=L) (i:=0) (by first|omega|exact Nat.mod_lt _ (by omega)) fun x14 hx14=> ?_
 have hwx14:=Zal hx14
 have hzx14:=hL.2 x14 (List.mem_of_getElem? hx14)
 refine k_ix 0 [D.list (List.map rd x14)] (by first|rfl|omega|(rw [wrap64 _ (by omega) (by omega)];omega)|(rw [wrap64 _ (by omega) (by omega)];split<;>omega)) (Zf hx14) rfl ?_
 refine Zf2 (L:=L) (i:=0) (q:=x14) hwx14 hzx14 ?_
 refine⟨Nat×Nat×List Nat,fun (i,f,I)=> [(1,.val (.one (.d (.list (List.map rdrs L))))),(2,.val (.one (.d (.list (List.map rdvs Wl))))),(3,int o),(4,.val (.one (.ptr 4 0))),(9,trAV 54 L I),(10,int (i:Int))],
  fun (i,f,I)=> [(4,.var 32 [.d (.v (.string A.name)),.d (.v (.bool A.bx.s)),.d (.v (.string A.bx.a)),.d (.v (.string A.bx.d)),.d (.v (.bool A.by'.s)),.d (.v (.string A.by'.a)),.d (.v (.string A.by'.d)),.d (.v (.bool (A.bh))),.d (.v (.bool A.bt.s)),.d (.v (.string A.bt.a)),.d (.v (.string A.bt.d)),.d (.list (List.map lk A.links))])]++trOb 54 L I,fun (i,f,I)=>i< L.length∧L.length≤i+f+1∧I++trail (prv A L Wl o) L.length f i=cutI A L Wl o∧I.length≤i,fun (i,f,I)=>L.length - i,(0,L.length, []),?_,⟨by omega,by omega,rfl,Nat.le_refl _⟩,fun s hs=> ?_⟩
 ·constructor<;>(repeat' (first|exact rfl|exact True.intro|exact⟨_,_,rfl⟩|exact(by decide)|apply And.intro))
  all_goals first|exact congrArg (fun n:Int=>D.v (.int .i64 n)) (by omega)|exact congrArg (fun n:Int=>D.v (.int .i64 n)) (by rw [wrap64 _ (by omega) (by omega)];omega)|(simp;done)
 obtain⟨i,f,I⟩:=s
 obtain⟨g1,g2,g3,g4⟩:=hs
 try simp only at g1 g2 g3 g4
 refine⟨fun e1=> ?_,fun e1=> ?_⟩
 ·have f22:IntKind.i64.wrap ((i:Int)+1)< ((List.map rdrs L).length:Int):=of_decide_eq_true e1
  have hwi:IntKind.i64.wrap ((i:Int)+1)=(i:Int)+1:=wrap64 _ (by omega) (by omega)
  have f22:i+1< L.length:=by rw [hwi] at f22;omega
  obtain⟨f,rfl⟩:∃ g,f=g+1:=⟨f - 1,by omega⟩
  rcases I with _|⟨c,r⟩
  ·simp only [List.length_nil,List.length_cons] at g4
   have hwj:IntKind.i64.wrap ((i:Int)+2)=((i+2:Nat):Int):=by rw [wrap64 _ (by omega) (by omega)];omega
   have hn0:((nxt (prv A L Wl o i) i (i+2 - (i+2)):Nat):Int)=IntKind.i64.wrap ((i:Int)+1):=by rw [hwi,Nat.sub_self];show ((i+1:Nat):Int)=_;omega
   refine⟨Nat,fun k=> [(1,.val (.one (.d (.list (List.map rdrs L))))),(2,.val (.one (.d (.list (List.map rdvs Wl))))),(3,int o),(4,.val (.one (.ptr 4 0))),(9,.val (.one (.full ([[D.list (List.map rdc (gdL (wAt L 0)))]])))),(10,int (i:Int)),(11,int ((nxt (prv A L Wl o i) i (k - (i+2)):Nat):Int)),(12,int (k:Int))],
    fun k=> [(4,.var 32 [.d (.v (.string A.name)),.d (.v (.bool A.bx.s)),.d (.v (.string A.bx.a)),.d (.v (.string A.bx.d)),.d (.v (.bool A.by'.s)),.d (.v (.string A.by'.a)),.d (.v (.string A.by'.d)),.d (.v (.bool (A.bh))),.d (.v (.bool A.bt.s)),.d (.v (.string A.bt.a)),.d (.v (.string A.bt.d)),.d (.list (List.map lk A.links))])],fun k=>i+2≤k∧k≤L.length,fun k=>L.length - k,(i+2),?_,⟨by omega,by omega⟩,fun k hs=> ?_⟩
   ·constructor<;>(repeat' (first|exact rfl|exact True.intro|exact⟨_,_,rfl⟩|exact(by decide)|apply And.intro))
    all_goals first
     |exact congrArg (fun n:Int=>D.v (.int .i64 n)) hwj
     |exact congrArg (fun n:Int=>D.v (.int .i64 n)) hwj.symm
     |exact congrArg (fun n:Int=>D.v (.int .i64 n)) hn0
     |exact congrArg (fun n:Int=>D.v (.int .i64 n)) hn0.symm
     |(simp;done)
   obtain⟨g5,g6⟩:=hs
   refine⟨fun e2=> ?_,fun e2=> ?_⟩
   ·have f30:(k:Int)< ((List.map rdrs L).length:Int):=of_decide_eq_true e2
    refine Zq (l:=L) (i:=i) (by first|omega|exact Nat.mod_lt _ (by omega)) fun x36 hx36=> ?_
    have hwx36:=Zal hx36
    have hzx36:=hL.2 x36 (List.mem_of_getElem? hx36)
    refine k_ix i [D.list (List.map rd x36)] (by first|rfl|omega|(rw [wrap64 _ (by omega) (by omega)];omega)|(rw [wrap64 _ (by omega) (by omega)];split<;>omega)) (Zf hx36) rfl ?_
    refine Zq (l:=L) (i:=k) (by first|omega|exact Nat.mod_lt _ (by omega)) fun x40 hx40=> ?_
    have hwx40:=Zal hx40
    have hzx40:=hL.2 x40 (List.mem_of_getElem? hx40)
    refine k_ix k [D.list (List.map rd x40)] (by first|rfl|omega|(rw [wrap64 _ (by omega) (by omega)];omega)|(rw [wrap64 _ (by omega) (by omega)];split<;>omega)) (Zf hx40) rfl ?_
    refine Zhf (A:=A) (l:=x36) (m:=x40) (Wl:=Wl) (o:=o) hA2 hzx36 hzx40 hW (by rw [← hwx36,← hwx40];exact Zib hc hmo (by omega) (by omega)) fun b44 hb44=> ?_
    refine⟨by kernel_rfl,?_⟩
    refine⟨fun e3=> ?_,fun e3=> ?_⟩
    ·have f44:b44=true:=e3
     have hpr:b44=prv A L Wl o i k:=by rw [hb44];unfold prv;rw [hwx36,hwx40]
     have hnx1:((nxt (prv A L Wl o i) i (k+1 - (i+2)):Nat):Int)=(k:Int):=by rw [Zjs (by omega),if_pos (by rw [← hpr];exact f44)]
     refine⟨k+1,⟨by omega,by omega⟩,by simp only;omega,?_⟩
     constructor<;>(repeat' (first|exact rfl|exact True.intro|apply And.intro))
     all_goals first
      |exact congrArg (fun n:Int=>D.v (.int .i64 n)) hnx1
      |exact congrArg (fun n:Int=>D.v (.int .i64 n)) hnx1.symm
      |exact congrArg (fun n:Int=>D.v (.int .i64 n)) (by rw [wrap64 _ (by omega) (by omega)];omega)
      |exact congrArg (fun n:Int=>D.v (.int .i64 n)) (by omega)
    ·have f44:¬ (b44=true):=fun hh=>ZaG hh e3
     have hpr:b44=prv A L Wl o i k:=by rw [hb44];unfold prv;rw [hwx36,hwx40]
     have hnx1:((nxt (prv A L Wl o i) i (k+1 - (i+2)):Nat):Int)=(((nxt (prv A L Wl o i) i (k - (i+2))):Nat):Int):=by rw [Zjs (by omega),if_neg (by rw [← hpr];exact f44)]
     refine⟨k+1,⟨by omega,by omega⟩,by simp only;omega,?_⟩
     constructor<;>(repeat' (first|exact rfl|exact True.intro|apply And.intro))
     all_goals first
      |exact congrArg (fun n:Int=>D.v (.int .i64 n)) hnx1
      |exact congrArg (fun n:Int=>D.v (.int .i64 n)) hnx1.symm
      |exact congrArg (fun n:Int=>D.v (.int .i64 n)) (by rw [wrap64 _ (by omega) (by omega)];omega)
      |exact congrArg (fun n:Int=>D.v (.int .i64 n)) (by omega)
   ·have f30:¬ ((k:Int)< ((List.map rdrs L).length:Int)):=of_decide_eq_false e2
    have hle:=ZcI (prv A L Wl o i) i (k - (i+2))
    refine Zq (l:=L) (i:=(nxt (prv A L Wl o i) i (k - (i+2)))) (by first|omega|exact Nat.mod_lt _ (by omega)) fun x50 hx50=> ?_
    have hwx50:=Zal hx50
    have hzx50:=hL.2 x50 (List.mem_of_getElem? hx50)
    refine k_ix (nxt (prv A L Wl o i) i (k - (i+2))) [D.list (List.map rd x50)] (by first|rfl|omega|(rw [wrap64 _ (by omega) (by omega)];omega)|(rw [wrap64 _ (by omega) (by omega)];split<;>omega)) (Zf hx50) rfl ?_
    refine Zf2 (L:=L) (i:=(nxt (prv A L Wl o i) i (k - (i+2)))) (q:=x50) hwx50 hzx50 ?_
    refine⟨⟨Nat.zero_lt_succ _,row1 rfl,row1 rfl,(by show (1+1)*24≤_;omega),(by show 1+1≤_;omega)⟩,?_⟩
    have hnx:nxt (prv A L Wl o i) i (L.length - 2 - i)=nxt (prv A L Wl o i) i (k - (i+2)):=by rw [show k - (i+2)=L.length - 2 - i by omega]
    have ht: [(nxt (prv A L Wl o i) i (k - (i+2)))]++trail (prv A L Wl o) L.length f (nxt (prv A L Wl o i) i (k - (i+2)))=cutI A L Wl o:=by rw [← g3,Zau (by omega) f,hnx];simp
    have hle:=ZcI (prv A L Wl o i) i (L.length - 2 - i)
    rw [hnx] at hle
    refine⟨((nxt (prv A L Wl o i) i (k - (i+2))),f, [(nxt (prv A L Wl o i) i (k - (i+2)))]),⟨by omega,by omega,ht,by simp only [List.length_cons,List.length_append,List.length_nil] at g4 ⊢;omega⟩,by simp only;omega,?_⟩
    constructor<;>(repeat' (first|exact rfl|exact True.intro|apply And.intro))
    all_goals first
     |(simp [rowQ,rdcs];done)
     |exact congrArg (fun n:Int=>D.v (.int .i64 n)) (by rw [wrap64 _ (by omega) (by omega)];omega)
     |exact congrArg (fun n:Int=>D.v (.int .i64 n)) (by omega)
  ·simp only [List.length_nil,List.length_cons] at g4
   have hT:(List.map rdcs (rowQ L (0 :: c :: r))).length≤62:=by simp only [rowQ,List.length_map,List.length_cons];omega
   have hwj:IntKind.i64.wrap ((i:Int)+2)=((i+2:Nat):Int):=by rw [wrap64 _ (by omega) (by omega)];omega
   have hn0:((nxt (prv A L Wl o i) i (i+2 - (i+2)):Nat):Int)=IntKind.i64.wrap ((i:Int)+1):=by rw [hwi,Nat.sub_self];show ((i+1:Nat):Int)=_;omega
   refine⟨Nat,fun k=> [(1,.val (.one (.d (.list (List.map rdrs L))))),(2,.val (.one (.d (.list (List.map rdvs Wl))))),(3,int o),(4,.val (.one (.ptr 4 0))),(9,.val (.one (.row 54 0))),(10,int (i:Int)),(11,int ((nxt (prv A L Wl o i) i (k - (i+2)):Nat):Int)),(12,int (k:Int))],
    fun k=> [(4,.var 32 [.d (.v (.string A.name)),.d (.v (.bool A.bx.s)),.d (.v (.string A.bx.a)),.d (.v (.string A.bx.d)),.d (.v (.bool A.by'.s)),.d (.v (.string A.by'.a)),.d (.v (.string A.by'.d)),.d (.v (.bool (A.bh))),.d (.v (.bool A.bt.s)),.d (.v (.string A.bt.a)),.d (.v (.string A.bt.d)),.d (.list (List.map lk A.links))]),(54,.row 33 1 0 (List.map rdcs (rowQ L (0 :: c :: r))) true)],fun k=>i+2≤k∧k≤L.length,fun k=>L.length - k,(i+2),?_,⟨by omega,by omega⟩,fun k hs=> ?_⟩
   ·constructor<;>(repeat' (first|exact rfl|exact True.intro|exact⟨_,_,rfl⟩|exact(by decide)|apply And.intro))
    all_goals first
     |exact congrArg (fun n:Int=>D.v (.int .i64 n)) hwj
     |exact congrArg (fun n:Int=>D.v (.int .i64 n)) hwj.symm
     |exact congrArg (fun n:Int=>D.v (.int .i64 n)) hn0
     |exact congrArg (fun n:Int=>D.v (.int .i64 n)) hn0.symm
     |(simp;done)
   obtain⟨g5,g6⟩:=hs
   refine⟨fun e4=> ?_,fun e4=> ?_⟩
   ·have f30:(k:Int)< ((List.map rdrs L).length:Int):=of_decide_eq_true e4
    refine Zq (l:=L) (i:=i) (by first|omega|exact Nat.mod_lt _ (by omega)) fun x36 hx36=> ?_
    have hwx36:=Zal hx36
    have hzx36:=hL.2 x36 (List.mem_of_getElem? hx36)
    refine k_ix i [D.list (List.map rd x36)] (by first|rfl|omega|(rw [wrap64 _ (by omega) (by omega)];omega)|(rw [wrap64 _ (by omega) (by omega)];split<;>omega)) (Zf hx36) rfl ?_
    refine Zq (l:=L) (i:=k) (by first|omega|exact Nat.mod_lt _ (by omega)) fun x40 hx40=> ?_
    have hwx40:=Zal hx40
    have hzx40:=hL.2 x40 (List.mem_of_getElem? hx40)
    refine k_ix k [D.list (List.map rd x40)] (by first|rfl|omega|(rw [wrap64 _ (by omega) (by omega)];omega)|(rw [wrap64 _ (by omega) (by omega)];split<;>omega)) (Zf hx40) rfl ?_
    refine Zhf (A:=A) (l:=x36) (m:=x40) (Wl:=Wl) (o:=o) hA2 hzx36 hzx40 hW (by rw [← hwx36,← hwx40];exact Zib hc hmo (by omega) (by omega)) fun b44 hb44=> ?_
    refine⟨by kernel_rfl,?_⟩
    refine⟨fun e5=> ?_,fun e5=> ?_⟩
    ·have f44:b44=true:=e5
     have hpr:b44=prv A L Wl o i k:=by rw [hb44];unfold prv;rw [hwx36,hwx40]
     have hnx1:((nxt (prv A L Wl o i) i (k+1 - (i+2)):Nat):Int)=(k:Int):=by rw [Zjs (by omega),if_pos (by rw [← hpr];exact f44)]
     refine⟨k+1,⟨by omega,by omega⟩,by simp only;omega,?_⟩
     constructor<;>(repeat' (first|exact rfl|exact True.intro|apply And.intro))
     all_goals first
      |exact congrArg (fun n:Int=>D.v (.int .i64 n)) hnx1
      |exact congrArg (fun n:Int=>D.v (.int .i64 n)) hnx1.symm
      |exact congrArg (fun n:Int=>D.v (.int .i64 n)) (by rw [wrap64 _ (by omega) (by omega)];omega)
      |exact congrArg (fun n:Int=>D.v (.int .i64 n)) (by omega)
    ·have f44:¬ (b44=true):=fun hh=>ZaG hh e5
     have hpr:b44=prv A L Wl o i k:=by rw [hb44];unfold prv;rw [hwx36,hwx40]
     have hnx1:((nxt (prv A L Wl o i) i (k+1 - (i+2)):Nat):Int)=(((nxt (prv A L Wl o i) i (k - (i+2))):Nat):Int):=by rw [Zjs (by omega),if_neg (by rw [← hpr];exact f44)]
     refine⟨k+1,⟨by omega,by omega⟩,by simp only;omega,?_⟩
     constructor<;>(repeat' (first|exact rfl|exact True.intro|apply And.intro))
     all_goals first
      |exact congrArg (fun n:Int=>D.v (.int .i64 n)) hnx1
      |exact congrArg (fun n:Int=>D.v (.int .i64 n)) hnx1.symm
      |exact congrArg (fun n:Int=>D.v (.int .i64 n)) (by rw [wrap64 _ (by omega) (by omega)];omega)
      |exact congrArg (fun n:Int=>D.v (.int .i64 n)) (by omega)
   ·have f30:¬ ((k:Int)< ((List.map rdrs L).length:Int)):=of_decide_eq_false e4
    have hle:=ZcI (prv A L Wl o i) i (k - (i+2))
    refine Zq (l:=L) (i:=(nxt (prv A L Wl o i) i (k - (i+2)))) (by first|omega|exact Nat.mod_lt _ (by omega)) fun x50 hx50=> ?_
    have hwx50:=Zal hx50
    have hzx50:=hL.2 x50 (List.mem_of_getElem? hx50)
    refine k_ix (nxt (prv A L Wl o i) i (k - (i+2))) [D.list (List.map rd x50)] (by first|rfl|omega|(rw [wrap64 _ (by omega) (by omega)];omega)|(rw [wrap64 _ (by omega) (by omega)];split<;>omega)) (Zf hx50) rfl ?_
    refine Zf2 (L:=L) (i:=(nxt (prv A L Wl o i) i (k - (i+2)))) (q:=x50) hwx50 hzx50 ?_
    refine⟨⟨row1 rfl,(by show ((List.map rdcs (rowQ L (0 :: c :: r))).length+1)*24≤_;omega),(by show ((List.map rdcs (rowQ L (0 :: c :: r))).length+1)≤_;omega)⟩,?_⟩
    have hnx:nxt (prv A L Wl o i) i (L.length - 2 - i)=nxt (prv A L Wl o i) i (k - (i+2)):=by rw [show k - (i+2)=L.length - 2 - i by omega]
    have ht:(c :: (r++ [(nxt (prv A L Wl o i) i (k - (i+2)))]))++trail (prv A L Wl o) L.length f (nxt (prv A L Wl o i) i (k - (i+2)))=cutI A L Wl o:=by rw [← g3,Zau (by omega) f,hnx];simp
    have hle:=ZcI (prv A L Wl o i) i (L.length - 2 - i)
    rw [hnx] at hle
    refine⟨((nxt (prv A L Wl o i) i (k - (i+2))),f,c :: (r++ [(nxt (prv A L Wl o i) i (k - (i+2)))])),⟨by omega,by omega,ht,by simp only [List.length_cons,List.length_append,List.length_nil] at g4 ⊢;omega⟩,by simp only;omega,?_⟩
    constructor<;>(repeat' (first|exact rfl|exact True.intro|apply And.intro))
    all_goals first
     |(simp [rowQ,rdcs];done)
     |exact congrArg (fun n:Int=>D.v (.int .i64 n)) (by rw [wrap64 _ (by omega) (by omega)];omega)
     |exact congrArg (fun n:Int=>D.v (.int .i64 n)) (by omega)
 ·have f22:¬ (IntKind.i64.wrap ((i:Int)+1)< ((List.map rdrs L).length:Int)):=of_decide_eq_false e1
  have hwi:IntKind.i64.wrap ((i:Int)+1)=(i:Int)+1:=wrap64 _ (by omega) (by omega)
  have f22:¬ i+1< L.length:=by rw [hwi] at f22;omega
  rcases I with _|⟨c,r⟩
  ·simp only [List.length_nil,List.length_cons] at g4
   refine Eq.trans (b:= .val (.one (.d (.list ([[D.list (List.map rdc (gdL (wAt L 0)))]]))))) ?_ rfl
   have hI:cutI A L Wl o= []:=by rw [← g3,ZbD (by omega)];simp
   rw [hI]
   all_goals rfl
  ·simp only [List.length_nil,List.length_cons] at g4
   have hT:(List.map rdcs (rowQ L (0 :: c :: r))).length≤62:=by simp only [rowQ,List.length_map,List.length_cons];omega
   refine Eq.trans (b:= .val (.one (.d (.list (List.map rdcs (rowQ L (0 :: c :: r))))))) ?_ rfl
   have hI:cutI A L Wl o=c :: r:=by rw [← g3,ZbD (by omega)];simp
   rw [hI]
   all_goals rfl
theorem Zp0 {A:ArmV} {L:List (List RV)} {Wl:List (List (RV×RV))} {o:Int} (hA:A.ok) (hL:L.length≤1048576∧∀ q,q∈L→q.length≤1048576∧∀ x,x∈q→x.z≤1048576) (hW:Wl.length≤1048576∧∀ m,m∈Wl→m.length≤1048576∧∀ p,p∈m→p.1.z≤1048576∧p.2.z≤1048576) (hc:chkE A L=0) (hmo:motE A (wAt L 0) (wAt L 0) Wl o=0) (k:K (.val (.one (.d (.list (List.map rdcs (rowQ L (0 :: cutI A L Wl o)))))))):Ask 91 [.val (.agg [.d (.v (.string A.name)),.d (.v (.bool A.bx.s)),.d (.v (.string A.bx.a)),.d (.v (.string A.bx.d)),.d (.v (.bool A.by'.s)),.d (.v (.string A.by'.a)),.d (.v (.string A.by'.d)),.d (.v (.bool (A.bh))),.d (.v (.bool A.bt.s)),.d (.v (.string A.bt.a)),.d (.v (.string A.bt.d)),.d (.list (List.map lk A.links))]),.val (.one (.d (.list (List.map rdrs L)))),.val (.one (.d (.list (List.map rdvs Wl)))),int o] K:=use (ZiM A L Wl o hA hL hW hc hmo) rfl k
end
end Go.Proofs.YtpfemjpgbpnpkaaGreatDoor.eng
namespace Go.Proofs.YtpfemjpgbpnpkaaGreatDoor.eng
open Go.RowKit num mem seg q held ratA ratB ratC ratD ratE vars ratF argopen trq
section
variable {K : AV → Prop}
set_option maxHeartbeats 2000000 in
theorem ZnY (l:List (List Rat)) (hn:l.length≤1099511627776) (hr:∀ r,r∈l→r.length≤1099511627776):Spec Tryz.prog Tab 147 [.val (.one (.d (.list (List.map rdcs l)))),.val (.one (.d (.list (List.map rdcs l)))),fv 49] (bool true):=by
 have hLl:(List.map rdcs l).length=l.length:=List.length_map ..
 refine Za Tryz.func147 rfl rfl Tryz.ntmps147 rfl (by kernel_rfl) rfl rfl ?_
 refine⟨fun e1=> ?_,fun e1=> ?_⟩
 ·have f14:((List.map rdcs l).length:Int)≠((List.map rdcs l).length:Int):=Z8 e1
  exfalso
  exact f14 rfl
 ·have f14:¬ (((List.map rdcs l).length:Int)≠((List.map rdcs l).length:Int)):=fun hh=>hh (Z9 e1)
  refine⟨Nat,fun i=> [(1,.val (.one (.d (.list (List.map rdcs l))))),(2,fv 49),(15,.val (.one (.d (.list (List.map rdcs l))))),(16,int ((List.map rdcs l).length:Int)),(17,int (i:Int))],
   fun i=> [],fun i=>i≤l.length,fun i=>l.length - i,0,?_,Nat.zero_le _,fun i hs=> ?_⟩
  ·constructor<;>(repeat' (first|exact rfl|exact True.intro|exact⟨_,_,rfl⟩|exact(by decide)|apply And.intro))
   all_goals first|exact congrArg (fun n:Int=>D.v (.int .i64 n)) (by omega)|exact congrArg (fun n:Int=>D.v (.int .i64 n)) (by rw [wrap64 _ (by omega) (by omega)];omega)|(simp;done)
  refine⟨fun e2=> ?_,fun e2=> ?_⟩
  ·have f18:(i:Int)< ((List.map rdcs l).length:Int):=of_decide_eq_true e2
   refine Zq (l:=l) (i:=i) (by first|omega|exact Nat.mod_lt _ (by omega)) fun x20 hx20=> ?_
   refine k_ix i [D.list (List.map rdc x20)] (by first|rfl|omega|(rw [wrap64 _ (by omega) (by omega)];omega)|(rw [wrap64 _ (by omega) (by omega)];split<;>omega)) (Zf hx20) rfl ?_
   refine k_ix i [D.list (List.map rdc x20)] (by first|rfl|omega|(rw [wrap64 _ (by omega) (by omega)];omega)|(rw [wrap64 _ (by omega) (by omega)];split<;>omega)) (Zf hx20) rfl ?_
   refine ZpU x20 x20 rfl rfl (hr _ (List.mem_of_getElem? hx20)) (hr _ (List.mem_of_getElem? hx20)) fun b29 hb29=> ?_
   obtain rfl:b29=true:=hb29.trans (decide_eq_true rfl)
   refine⟨fun e=>absurd e (by decide),fun _=> ?_⟩
   refine⟨i+1,by omega,by simp only;omega,?_⟩
   constructor<;>(repeat' (first|exact rfl|exact True.intro|apply And.intro))
   all_goals first
    |exact congrArg (fun n:Int=>D.v (.int .i64 n)) (by rw [wrap64 _ (by omega) (by omega)];omega)
    |exact congrArg (fun n:Int=>D.v (.int .i64 n)) (by omega)
  ·have f18:¬ ((i:Int)< ((List.map rdcs l).length:Int)):=of_decide_eq_false e2
   refine Eq.trans (b:=bool true) ?_ rfl
   rfl
theorem ZkO (l:List (List Rat)) (hn:l.length≤1099511627776) (hr:∀ r,r∈l→r.length≤1099511627776):Spec Tryz.prog Tab 46 [.val (.one (.d (.list (List.map rdcs l)))),.val (.one (.d (.list (List.map rdcs l))))] (bool true):=by
 refine Za Tryz.func46 rfl rfl Tryz.ntmps46 rfl (by kernel_rfl) rfl rfl ?_
 refine use (ZnY l hn hr) rfl ?_
 refine Eq.trans (b:=bool true) ?_ rfl
 rfl
theorem Znz {u v:List (List D)} (l:List (List Rat)) (hu:u=List.map rdcs l) (hv:v=List.map rdcs l) (hn:l.length≤1099511627776) (hr:∀ r,r∈l→r.length≤1099511627776) (k:K (bool true)):Ask 46 [.val (.one (.d (.list u))),.val (.one (.d (.list v)))] K:=by
 subst hu hv;exact use (ZkO l hn hr) rfl k
def smpC:List (List RV):= [natRV [0],natRV [2],natRV [1]]
theorem ZqB:smpC.length≤1048576∧∀ q,q∈smpC→q.length≤1048576∧∀ x,x∈q→x.z≤1048576:=by
 refine⟨by decide,fun q hq=> ?_⟩
 have h:q=natRV [0]∨q=natRV [2]∨q=natRV [1]:=by simpa [smpC] using hq
 rcases h with rfl|rfl|rfl<;>exact ZpA (by decide)
theorem ZsH:chkE (sampA [3]) smpC=0:=Zol (ZbV Zrj (by decide) (by decide)) fun j hj=>by
 have hj:j< 3:=hj
 rcases (show j=0∨j=1∨j=2 by omega) with rfl|rfl|rfl<;>exact Z4.2 ⟨Zrj,rfl⟩
theorem Zi8:cutE (sampA [3]) smpC [] 1=0:=(Zfp ZsH).trans (ZrE Zrj rfl rfl rfl)
theorem ZqC:cutI (sampA [3]) smpC [] 1= [2]:=by
 have p:∀ i k,prv (sampA [3]) smpC [] 1 i k=true:=fun i k=>Zry _ _
 have n0:nxt (prv (sampA [3]) smpC [] 1 0) 0 1=2:=by rw [nxt,if_pos (p _ _)]
 show trail (prv (sampA [3]) smpC [] 1) 3 3 0= [2]
 rw [Zau (by decide),show 3 - 2 - 0=1 from rfl,n0,ZbD (by decide)]
theorem ZqZ (n:Nat):List.map rdc (gdL (natRV [n]))=List.map rd (natRV [n]):=by
 show [rd (cn (cn (n:Rat)).q)]= [rd (cn (n:Rat))]
 rw [cn_q]
theorem ZsI:List.map rdcs (cutV (sampA [3]) smpC [] 1)= [[D.list (List.map rd (natRV [0]))], [D.list (List.map rd (natRV [1]))]]:=by
 rw [ZbR Zi8,ZqC]
 show [[D.list (List.map rdc (gdL (natRV [0])))], [D.list (List.map rdc (gdL (natRV [1])))]]=_
 rw [ZqZ,ZqZ]
theorem ZqF {L:List (List RV)} (hL:L.length≤1048576∧∀ q,q∈L→q.length≤1048576∧∀ x,x∈q→x.z≤1048576) (I:List Nat):∀ r,r∈rowQ L I→r.length≤1099511627776:=fun r hr=>by
 obtain⟨i,_,rfl⟩:=List.mem_map.1 (show r∈List.map _ _ from hr)
 rw [Zin]
 unfold wAt
 cases h:L[i]? with
 |none=>exact Nat.zero_le _
 |some q=>exact Nat.le_trans (hL.2 q (List.mem_of_getElem? h)).1 (by decide)
theorem Zi2 (P:Nat→Nat→Bool) (n:Nat):∀ f i,(trail P n f i).length≤f
 |0,_=>Nat.le_refl _
 |f+1,i=>by
  unfold trail
  split
  ·have:=Zi2 P n f (nxt (P i) i (n - 2 - i))
   simp only [List.length_cons];omega
  ·exact Nat.zero_le _
set_option maxHeartbeats 8000000 in
theorem ZeH (A:ArmV) (L:List (List RV)) (Wl:List (List (RV×RV))) (o:Int) (hA:A.ok) (hL:L.length≤1048576∧∀ q,q∈L→q.length≤1048576∧∀ x,x∈q→x.z≤1048576) (hW:Wl.length≤1048576∧∀ m,m∈Wl→m.length≤1048576∧∀ p,p∈m→p.1.z≤1048576∧p.2.z≤1048576) (ho:-9223372036854775808≤o∧o≤9223372036854775807):Spec Tryz.prog Tab 10 [.val (.agg [.d (.v (.string A.name)),.d (.v (.bool A.bx.s)),.d (.v (.string A.bx.a)),.d (.v (.string A.bx.d)),.d (.v (.bool A.by'.s)),.d (.v (.string A.by'.a)),.d (.v (.string A.by'.d)),.d (.v (.bool (A.bh))),.d (.v (.bool A.bt.s)),.d (.v (.string A.bt.a)),.d (.v (.string A.bt.d)),.d (.list (List.map lk A.links))]),.val (.one (.d (.list (List.map rdrs L)))),.val (.one (.d (.list (List.map rdvs Wl)))),int o] (bool true):=by
 have hA2:=hA
 have hLL:(List.map rdrs L).length=L.length:=List.length_map ..
 have hL1:=hL.1
 have o3:(sampA [3]).ok:=Zjq (Zo9 (by decide) (by decide)) (by decide)
 have a3:armE (sampA [3])=0:=Zjg (by decide) (by decide) (by decide)
 refine Za Tryz.func10 rfl rfl Tryz.ntmps10 rfl (by kernel_rfl) rfl rfl ?_
 refine ZpS [3] rfl (by decide) (by decide) ?_
 refine Zei [0] rfl (by decide) (by decide) ?_
 refine Zei [2] rfl (by decide) (by decide) ?_
 refine Zei [1] rfl (by decide) (by decide) ?_
 refine Zr9 (A:=sampA [3]) (L:=smpC) (Wl:= []) (o:=1) o3 ZqB noW (by decide) fun n24 hk_24_1=> ?_
 obtain rfl:=hk_24_1.trans Zi8
 refine Zei [0] rfl (by decide) (by decide) ?_
 refine Zei [1] rfl (by decide) (by decide) ?_
 refine Znz (cutV (sampA [3]) smpC [] 1) rfl ZsI.symm (by rw [ZbR Zi8,ZqC];decide) (by rw [ZbR Zi8];exact ZqF ZqB _) ?_
 refine⟨fun e=>absurd e (by decide),fun _=> ?_⟩
 refine Zr5 (A:=A) (L:=L) hA2 hL fun n41 hk_41_1=> ?_
 refine⟨fun e1=> ?_,fun e1=> ?_⟩
 ·have f43:n41=0:=ZbS e1
  have hc:chkE A L=0:=by rw [← hk_41_1];exact f43
  refine Zq (l:=L) (i:=0) (by have:=ZdS (Zgi hc).1;omega) fun x46 hx46=> ?_
  have hwx46:=Zal hx46
  have hzx46:=hL.2 x46 (List.mem_of_getElem? hx46)
  refine k_ix 0 [D.list (List.map rd x46)] (by first|rfl|omega|(rw [wrap64 _ (by omega) (by omega)];omega)|(rw [wrap64 _ (by omega) (by omega)];split<;>omega)) (Zf hx46) rfl ?_
  refine k_ix 0 [D.list (List.map rd x46)] (by first|rfl|omega|(rw [wrap64 _ (by omega) (by omega)];omega)|(rw [wrap64 _ (by omega) (by omega)];split<;>omega)) (Zf hx46) rfl ?_
  refine Zr7 (A:=A) (l:=x46) (m:=x46) (Wl:=Wl) (o:=o) hA2 hzx46 hzx46 hW ho fun n53 hk_53_1=> ?_
  refine⟨by kernel_rfl,?_⟩
  refine Zr9 (A:=A) (L:=L) (Wl:=Wl) (o:=o) hA2 hL hW ho fun n59 hk_59_1=> ?_
  refine⟨fun e2=> ?_,fun e2=> ?_⟩
  ·have f63:n53≠0:=Z8 e2
   refine fork (fun e3=> ?_) (fun e3=> ?_)
   ·have f67:n59=n53:=ZbS e3
    refine Eq.trans (b:=bool (((List.map rdcs (cutV A L Wl o)).length:Int)==0)) ?_ rfl
    have hE:cutE A L Wl o=n53:=by rw [Zfp hc,hk_53_1,hwx46]
    have hno:¬ cutE A L Wl o=0:=by rw [hE];exact f63
    rw [Zgd hno];rfl
   ·have f67:¬ (n59=n53):=ZbT e3
    exfalso
    exact f67 (by rw [hk_59_1,Zfp hc,hk_53_1,hwx46])
  ·have f63:¬ (n53≠0):=fun hh=>hh (Z9 e2)
   have hmo:motE A (wAt L 0) (wAt L 0) Wl o=0:=by rw [hwx46,← hk_53_1];exact Classical.not_not.1 f63
   have hE:cutE A L Wl o=0:=by rw [Zfp hc,hmo]
   refine fork (fun e4=> ?_) (fun e4=> ?_)
   ·have f74:n59=0:=ZbS e4
    refine Zp0 (A:=A) (L:=L) (Wl:=Wl) (o:=o) hA2 hL hW hc hmo ?_
    refine Znz (cutV A L Wl o) rfl (by rw [ZbR hE]) (by rw [ZbR hE];simp only [rowQ,List.length_map,List.length_cons];have:=Zi2 (prv A L Wl o) L.length L.length 0;unfold cutI;omega) (by rw [ZbR hE];exact ZqF hL _) ?_
    refine Eq.trans (b:=bool true) ?_ rfl
    rfl
   ·have f74:¬ (n59=0):=ZbT e4
    exfalso
    exact f74 (by rw [hk_59_1];exact hE)
 ·have f43:¬ (n41=0):=ZbT e1
  refine Zr9 (A:=A) (L:=L) (Wl:=Wl) (o:=o) hA2 hL hW ho fun n59 hk_59_1=> ?_
  refine⟨fun e5=> ?_,fun e5=> ?_⟩
  ·have f63:n41≠0:=Z8 e5
   refine fork (fun e6=> ?_) (fun e6=> ?_)
   ·have f67:n59=n41:=ZbS e6
    refine Eq.trans (b:=bool (((List.map rdcs (cutV A L Wl o)).length:Int)==0)) ?_ rfl
    have hno0:¬ chkE A L=0:=by rw [← hk_41_1];exact f43
    have hno:¬ cutE A L Wl o=0:=by rw [Zoc hno0];exact hno0
    rw [Zgd hno];rfl
   ·have f67:¬ (n59=n41):=ZbT e6
    exfalso
    exact f67 (by rw [hk_59_1,Zoc (by rw [← hk_41_1];exact f43),hk_41_1])
  ·have f63:¬ (n41≠0):=fun hh=>hh (Z9 e5)
   exfalso
   exact f43 (Classical.not_not.1 f63)
theorem shortCuts_walk (v0:Value) (A0:ArmV) (v1:Value) (l1:List (List RV)) (v2:Value) (l2:List (List (RV×RV))) (x3:Int) (N:Nat) (w:World) (_:1≤N) (hN:N≤1048576) (h0:DenAV w (fun b=>b< w.heap.size) noBs noMem v0 (arm A0)) (u0:A0.zs N) (h1:Den w (fun b=>b< w.heap.size) v1 (.list (l1.map fun m=> [D.list (m.map eng.rd)]))) (u1:wayZ l1 N) (h2:Den w (fun b=>b< w.heap.size) v2 (.list (l2.map fun m=> [D.list (m.map eng.rdv)]))) (u2:polysZ l2 N) (u3:-9223372036854775808≤x3∧x3≤9223372036854775807) (hT:Tab w):
  Calls Tryz.prog 10 #[v0,v1,v2,.int .i64 x3] w fun e w'=>e= .returned (.bool true)∧Below w.heap.size w w':=
 ZeK (I:=fun b=>b< w.heap.size) (ZeH A0 l1 l2 x3 (Zjq u0 (by omega)) (Zq8 u1 hN) (ZiW u2 hN) u3) rfl hT (fun _ h=>h)
  (((((ZmJ (vs:= []) rfl).cons ((ZgQ (v:=int x3) rfl).2 rfl)).cons (show DenAV _ _ _ _ v2 (.val (.one (.d (.list _)))) from h2)).cons (show DenAV _ _ _ _ v1 (.val (.one (.d (.list _)))) from h1)).cons h0)
end
end Go.Proofs.YtpfemjpgbpnpkaaGreatDoor.eng
