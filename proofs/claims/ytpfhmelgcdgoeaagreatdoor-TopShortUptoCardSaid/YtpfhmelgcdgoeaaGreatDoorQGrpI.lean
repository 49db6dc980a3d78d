/- Joined by wip/bundle.py: XWayA. -/
import Derived.Test.YtpfhmelgcdgoeaaGreatDoorQGrpU
set_option maxHeartbeats 8000000
set_option maxRecDepth 100000
open List (map length_map mem_of_getElem? length_nil length_cons length_append)
namespace Go.Proofs.YtpfhmelgcdgoeaaGreatDoor.eng
open Go.RowKit num mem seg q held ratA ratB ratC ratD ratE vars ratF trq
section
variable {K : AV → Prop}
theorem Zlt (q:List RV) (hq:q.length≤1048576∧∀ x,x∈q→x.z≤1048576):Spec Tryz.prog Tab 24 [.val (.one (.d (.list (map rd q))))] (.val (.one (.d (.list (map rdc (gdL q)))))):=by
 have hLq:(map rd q).length=q.length:=length_map ..
 have hq1:=hq.1
 refine Za Tryz.func24 rfl rfl Tryz.ntmps24 rfl ωr rfl rfl ?_
 refine⟨Nat,fun i=> [(3,.val (.one (.row 17 0))),(6,.val (.one (.d (.list (map rd q))))),(7,int ((map rd q).length:Int)),(8,int (i:Int))],
  fun i=> [(17,.row 25 3 0 (map rdc (gdL (q.take i))) true)],fun i=>i≤q.length,fun i=>q.length - i,0,?_,Nat.zero_le _,fun i hs=> ?_⟩
 ·exact ωe
 have hT:(map rdc (gdL (q.take i))).length≤1048576:=by rw [length_map,ZiZ,List.length_take];omega
 refine⟨fun e1=> ?_,fun e1=> ?_⟩
 ·have f9:(i:Int)< ((map rd q).length:Int):=of_decide_eq_true e1
  refine get_ex (l:=q) (i:=i) ωm fun x10 hx10=> ?_
  have hzx10:=hq.2 x10 (mem_of_getElem? hx10)
  refine k_ix i [Yb x10,Ys x10,Yt x10] ωf (Zc hx10) rfl ?_
  refine k_of (0) ω ω fun q14 h14 z14=> ?_
  simp only [cn_z] at z14
  refine ZaH (x:=x10) (y:=cn q14) ω ωz fun q15 h15 z15=> ?_
  simp only [cn_z] at z15
  simp only [cn_q] at h15
  refine⟨⟨row1 rfl,(by show ((map rdc (gdL (q.take i))).length+1)*40≤_;omega),(by show ((map rdc (gdL (q.take i))).length+1)≤_;omega)⟩,?_⟩
  refine⟨ωr,?_⟩
  have e15:q15=x10.q:=by rw [h15,h14,Rat.intCast_zero,Rat.add_zero]
  clear h15
  subst e15
  refine⟨i+1,ω,by simp only;omega,?_⟩
  constructor<;>(repeat' (first|exact rfl|exact True.intro|apply And.intro))
  all_goals first
   |(rw [ZkC _ hx10];rfl)
   |exact ωb
   |exact ωa
 ·have f9:¬ ((i:Int)< ((map rd q).length:Int)):=of_decide_eq_false e1
  refine Eq.trans (b:= .val (.one (.d (.list (map rdc (gdL (q.take i))))))) ?_ rfl
  rw [List.take_of_length_le ω]
theorem Za8 {L:List (List RV)} {i:Nat} {q:List RV} (hw:wAt L i=q) (hq:q.length≤1048576∧∀ x,x∈q→x.z≤1048576) (k:K (.val (.one (.d (.list (map rdc (gdL (wAt L i)))))))):Ask 24 [.val (.one (.d (.list (map rd q))))] K:=by
 subst hw;exact use (Zlt _ hq) rfl k
theorem Znf (A:ArmV) (L:List (List RV)) (hA:A.ok) (hL:L.length≤1048576∧∀ q,q∈L→q.length≤1048576∧∀ x,x∈q→x.z≤1048576):Spec Tryz.prog Tab 22 [arm A,.val (.one (.d (.list (map rdrs L))))] (int (chkE A L)):=by
 have hA2:=hA
 have hLL:(map rdrs L).length=L.length:=length_map ..
 have hL1:=hL.1
 refine Za Tryz.func22 rfl rfl Tryz.ntmps22 rfl ωr rfl rfl ?_
 refine Zgn (A:=A) ωs fun n10 hk_10_1=> ?_
 refine⟨fun e1=> ?_,fun e1=> ?_⟩
 ·have f12:n10≠0:=ZU e1
  refine Eq.trans (b:=int n10) ?_ rfl
  have hno:¬ armE A=0:=by rw [← hk_10_1];exact f12
  have hB:=ZdS (L:=L) hno
  rw [ZcT (by rw [hB];exact hno),hB,← hk_10_1]
 ·have f12:¬ (n10≠0):=fun hh=>hh (ZV e1)
  refine⟨fun e2=> ?_,fun e2=> ?_⟩
  ·have f16:((map rdrs L).length:Int)=0:=ZB e2
   refine Eq.trans (b:=int 14) ?_ rfl
   have hA0:armE A=0:=by rw [← hk_10_1];exact Classical.not_not.1 f12
   have hB:=ZdQ hA0 (show L.length=0 by omega)
   rw [ZcT (by rw [hB];decide),hB]
  ·have f16:¬ (((map rdrs L).length:Int)=0):=ZC e2
   refine⟨fun e3=> ?_,fun e3=> ?_⟩
   ·have f19:((map rdrs L).length:Int) >60:=of_decide_eq_true e3
    refine Eq.trans (b:=int 2) ?_ rfl
    have hA0:armE A=0:=by rw [← hk_10_1];exact Classical.not_not.1 f12
    have hB:=ZdR hA0 (show 60< L.length by omega)
    rw [ZcT (by rw [hB];decide),hB]
   ·have f19:¬ (((map rdrs L).length:Int) >60):=of_decide_eq_false e3
    refine⟨Nat,fun i=> [(2,.val (.one (.ptr 2 0))),(20,.val (.one (.d (.list (map rdrs L))))),(21,int ((map rdrs L).length:Int)),(22,int (i:Int))],
     fun i=> [(2,.var 34 [.d (.v (.string A.name)),Xb A.bx,Xs A.bx,Xt A.bx,Xb A.by',Xs A.by',Xt A.by',.d (.v (.bool (A.bh))),Xb A.bt,Xs A.bt,Xt A.bt,.d (.list (map lk A.links))])],fun i=>i≤L.length∧∀ j,j< i→hasE A ((wAt L j).length:Int)=0,fun i=>L.length - i,0,?_,⟨Nat.zero_le _,fun j h=>ω⟩,fun i hs=> ?_⟩
    ·exact ωe
    obtain⟨g1,g2⟩:=hs
    refine⟨fun e4=> ?_,fun e4=> ?_⟩
    ·have f23:(i:Int)< ((map rdrs L).length:Int):=of_decide_eq_true e4
     refine get_ex (l:=L) (i:=i) ωm fun x24 hx24=> ?_
     have hwx24:=ZH hx24
     have hzx24:=hL.2 x24 (mem_of_getElem? hx24)
     refine k_ix i [D.list (map rd x24)] ωf (Zc hx24) rfl ?_
     refine Zfo (A:=A) (n:=((map rd x24).length:Int)) ωs fun n29 hk_29_1=> ?_
     rw [length_map] at hk_29_1
     refine⟨fun e5=> ?_,fun e5=> ?_⟩
     ·have f31:n29≠0:=ZU e5
      refine Eq.trans (b:=int n29) ?_ rfl
      have hA0:armE A=0:=by rw [← hk_10_1];exact Classical.not_not.1 f12
      have hb:=ZeX hA0 (show ¬ L.length=0 by omega) (show ¬ 60< L.length by omega)
      rw [Zup hb g2 hx24 (by rw [← hk_29_1];exact f31),← hk_29_1]
     ·have f31:¬ (n29≠0):=fun hh=>hh (ZV e5)
      refine⟨i+1,⟨ω,fun j hj=>by
       by_cases e:j=i
       ·rw [e,hwx24,← hk_29_1];exact Classical.not_not.1 f31
       ·exact g2 j ω⟩,by simp only;omega,?_⟩
      constructor<;>(repeat' (first|exact rfl|exact True.intro|apply And.intro))
      all_goals first
       |exact ωb
       |exact ωa
    ·have f23:¬ ((i:Int)< ((map rdrs L).length:Int)):=of_decide_eq_false e4
     refine Eq.trans (b:=int 0) ?_ rfl
     have hA0:armE A=0:=by rw [← hk_10_1];exact Classical.not_not.1 f12
     have hb:=ZeX hA0 (show ¬ L.length=0 by omega) (show ¬ 60< L.length by omega)
     rw [ZsO hb fun j hj=>g2 j ω]
theorem ZoI {A:ArmV} {L:List (List RV)} (hA:A.ok) (hL:L.length≤1048576∧∀ q,q∈L→q.length≤1048576∧∀ x,x∈q→x.z≤1048576) (k:∀ n,n=chkE A L→K (int n)):Ask 22 [arm A,.val (.one (.d (.list (map rdrs L))))] K:=use (Znf A L hA hL) rfl (k _ rfl)
theorem ZrJ (A:ArmV) (L:List (List RV)) (Wl:List (List (RV×RV))) (o:Int) (hA:A.ok) (hL:L.length≤1048576∧∀ q,q∈L→q.length≤1048576∧∀ x,x∈q→x.z≤1048576) (hW:Wl.length≤1048576∧∀ m,m∈Wl→m.length≤1048576∧∀ p,p∈m→p.1.z≤1048576∧p.2.z≤1048576) (ho:-9223372036854775808≤o∧o≤9223372036854775807):Spec Tryz.prog Tab 8 [arm A,.val (.one (.d (.list (map rdrs L)))),.val (.one (.d (.list (map rdvs Wl)))),int o] (.tup [.one (.d (.list (map rdcs (cutV A L Wl o)))),.one (.d (.v (.int .i64 (cutE A L Wl o))))]):=by
 have hA2:=hA
 have hLL:(map rdrs L).length=L.length:=length_map ..
 have hL1:=hL.1
 refine Za Tryz.func8 rfl rfl Tryz.ntmps8 rfl ωr rfl rfl ?_
 refine ZoI (A:=A) (L:=L) hA2 hL fun n20 hk_20_1=> ?_
 refine⟨fun e1=> ?_,fun e1=> ?_⟩
 ·have f22:n20≠0:=ZU e1
  refine Eq.trans (b:= .tup [.one (.d (.list ([]))),.one (.d (.v (.int .i64 (n20))))]) ?_ rfl
  have hno:¬ chkE A L=0:=by rw [← hk_20_1];exact f22
  have hE:=Zwf (W:=Wl) (o:=o) hno
  rw [Zpt (by rw [hE];exact hno),hE,← hk_20_1]
  all_goals rfl
 ·have f22:¬ (n20≠0):=fun hh=>hh (ZV e1)
  have hc:chkE A L=0:=by rw [← hk_20_1];exact Classical.not_not.1 f22
  obtain⟨hb,hhas⟩:=Zde hc
  obtain⟨hA0,hn0,hn60⟩:=ZaM hb
  refine get_ex (l:=L) (i:=0) ωm fun x27 hx27=> ?_
  have hwx27:=ZH hx27
  have hzx27:=hL.2 x27 (mem_of_getElem? hx27)
  refine k_ix 0 [D.list (map rd x27)] ωf (Zc hx27) rfl ?_
  refine k_ix 0 [D.list (map rd x27)] ωf (Zc hx27) rfl ?_
  refine Zgm (A:=A) (l:=x27) (m:=x27) (Wl:=Wl) (o:=o) hA2 hzx27 hzx27 hW ho fun b34 n34 hb34 hk_34_2=> ?_
  refine⟨ωr,?_⟩
  refine⟨fun e2=> ?_,fun e2=> ?_⟩
  ·have f38:n34≠0:=ZU e2
   refine Eq.trans (b:= .tup [.one (.d (.list ([]))),.one (.d (.v (.int .i64 (n34))))]) ?_ rfl
   have hc:chkE A L=0:=by rw [← hk_20_1];exact Classical.not_not.1 f22
   have hE:cutE A L Wl o=n34:=by rw [Zpw hc,hk_34_2,hwx27]
   rw [Zpt (by rw [hE];exact f38),hE]
   all_goals rfl
  ·have f38:¬ (n34≠0):=fun hh=>hh (ZV e2)
   have hmo:motE A (wAt L 0) (wAt L 0) Wl o=0:=by rw [hwx27,← hk_34_2];exact Classical.not_not.1 f38
   have hE:cutE A L Wl o=0:=by rw [Zpw hc,hmo]
   refine k_ix 0 [D.list (map rd x27)] ωf (Zc hx27) rfl ?_
   refine Za8 (L:=L) (i:=0) (q:=x27) hwx27 hzx27 ?_
   refine⟨Nat×Nat×List Nat,fun (i,f,I)=> [(1,.val (.one (.d (.list (map rdrs L))))),(2,.val (.one (.d (.list (map rdvs Wl))))),(3,int o),(4,.val (.one (.ptr 4 0))),(13,trAV 82 L I),(14,int (i:Int))],
    fun (i,f,I)=> [(4,.var 34 [.d (.v (.string A.name)),Xb A.bx,Xs A.bx,Xt A.bx,Xb A.by',Xs A.by',Xt A.by',.d (.v (.bool (A.bh))),Xb A.bt,Xs A.bt,Xt A.bt,.d (.list (map lk A.links))])]++trOb 82 L I,fun (i,f,I)=>i< L.length∧L.length≤i+f+1∧I++trail (prv A L Wl o) L.length f i=cutI A L Wl o∧I.length≤i,fun (i,f,I)=>L.length - i,(0,L.length, []),?_,⟨ω,ω,rfl,Nat.le_refl _⟩,fun s hs=> ?_⟩
   ·exact ωe
   obtain⟨i,f,I⟩:=s
   obtain⟨g1,g2,g3,g4⟩:=hs
   try simp only at g1 g2 g3 g4
   refine⟨fun e3=> ?_,fun e3=> ?_⟩
   ·have f49:(i:Int)< IntKind.i64.wrap (((map rdrs L).length:Int) - 1):=of_decide_eq_true e3
    have hwl:IntKind.i64.wrap (((map rdrs L).length:Int) - 1)=((L.length - 1:Nat):Int):=by rw [wrap64 _ ω ω];omega
    have f49:i+1< L.length:=by rw [hwl] at f49;omega
    obtain⟨f,rfl⟩:∃ g,f=g+1:=⟨f - 1,ω⟩
    have hwi:IntKind.i64.wrap ((i:Int)+1)=(i:Int)+1:=wrap64 _ ω ω
    rcases I with _|⟨c,r⟩
    ·simp only [length_nil,length_cons] at g4
     have hwl:IntKind.i64.wrap (((map rdrs L).length:Int) - 1)=((L.length - 1:Nat):Int):=by rw [wrap64 _ ω ω];omega
     refine⟨Nat,fun k=> [(1,.val (.one (.d (.list (map rdrs L))))),(2,.val (.one (.d (.list (map rdvs Wl))))),(3,int o),(4,.val (.one (.ptr 4 0))),(13,.val (.one (.full ([[D.list (map rdc (gdL (wAt L 0)))]])))),(14,int (i:Int)),(15,int (k:Int))],
      fun k=> [(4,.var 34 [.d (.v (.string A.name)),Xb A.bx,Xs A.bx,Xt A.bx,Xb A.by',Xs A.by',Xt A.by',.d (.v (.bool (A.bh))),Xb A.bt,Xs A.bt,Xt A.bt,.d (.list (map lk A.links))])],fun k=>i+1≤k∧k≤L.length - 1∧nxt (prv A L Wl o i) i (L.length - 2 - i)=nxt (prv A L Wl o i) i (k - (i+1)),fun k=>k,(L.length - 1),?_,⟨ω,ω,by rw [show L.length - 1 - (i+1)=L.length - 2 - i by omega]⟩,fun k hs=> ?_⟩
     ·constructor<;>(repeat' (first|exact rfl|exact True.intro|exact⟨_,_,rfl⟩|exact ωd|apply And.intro))
      all_goals first
       |exact congrArg (fun n:Int=>D.v (.int .i64 n)) hwl
       |exact congrArg (fun n:Int=>D.v (.int .i64 n)) hwl.symm
       |exact ωa
       |(simp;done)
     obtain⟨g5,g6,g7⟩:=hs
     refine⟨fun e4=> ?_,fun e4=> ?_⟩
     ·have f56:(k:Int) >IntKind.i64.wrap ((i:Int)+1):=of_decide_eq_true e4
      refine get_ex (l:=L) (i:=i) ωm fun x63 hx63=> ?_
      have hwx63:=ZH hx63
      have hzx63:=hL.2 x63 (mem_of_getElem? hx63)
      refine k_ix i [D.list (map rd x63)] ωf (Zc hx63) rfl ?_
      refine get_ex (l:=L) (i:=k) ωm fun x67 hx67=> ?_
      have hwx67:=ZH hx67
      have hzx67:=hL.2 x67 (mem_of_getElem? hx67)
      refine k_ix k [D.list (map rd x67)] ωf (Zc hx67) rfl ?_
      refine Zgm (A:=A) (l:=x63) (m:=x67) (Wl:=Wl) (o:=o) hA2 hzx63 hzx67 hW ho fun b71 n71 hb71 hk_71_2=> ?_
      have hpr:b71=prv A L Wl o i k:=by rw [hb71,← hwx63,← hwx67];exact ZnP hc hmo ω ω
      refine⟨ωr,?_⟩
      refine⟨fun e5=> ?_,fun e5=> ?_⟩
      ·have f74:b71=true:=e5
       refine k_ix k [D.list (map rd x67)] ωf (Zc hx67) rfl ?_
       refine Za8 (L:=L) (i:=k) (q:=x67) hwx67 hzx67 ?_
       refine⟨⟨Nat.zero_lt_succ _,row1 rfl,row1 rfl,(by show (1+1)*24≤_;omega),(by show 1+1≤_;omega)⟩,?_⟩
       have hnx:nxt (prv A L Wl o i) i (L.length - 2 - i)=k:=by rw [g7];exact ZnZ ω (by rw [← hpr];exact f74)
       have ht: [k]++trail (prv A L Wl o) L.length f k=cutI A L Wl o:=by rw [← g3,Zbb ω f,hnx];simp
       have hle:=Zfh (prv A L Wl o i) i (L.length - 2 - i)
       rw [hnx] at hle
       refine⟨(k,f, [k]),⟨ω,ω,ht,by simp only [length_cons,length_append,length_nil] at g4 ⊢;omega⟩,by simp only;omega,?_⟩
       constructor<;>(repeat' (first|exact rfl|exact True.intro|apply And.intro))
       all_goals first
        |(simp [rowQ,rdcs];done)
        |exact ωb
        |exact ωa
      ·have f74:¬ (b71=true):=fun hh=>Zct hh e5
       refine⟨(k - 1),⟨ω,ω,by rw [g7,Zkc ω (by rw [← hpr];exact f74)]⟩,by simp only;omega,?_⟩
       constructor<;>(repeat' (first|exact rfl|exact True.intro|apply And.intro))
       all_goals first
        |exact ωb
        |exact ωa
     ·have f56:¬ ((k:Int) >IntKind.i64.wrap ((i:Int)+1)):=of_decide_eq_false e4
      refine get_ex (l:=L) (i:=k) ωm fun x78 hx78=> ?_
      have hwx78:=ZH hx78
      have hzx78:=hL.2 x78 (mem_of_getElem? hx78)
      refine k_ix k [D.list (map rd x78)] ωf (Zc hx78) rfl ?_
      refine Za8 (L:=L) (i:=k) (q:=x78) hwx78 hzx78 ?_
      refine⟨⟨Nat.zero_lt_succ _,row1 rfl,row1 rfl,(by show (1+1)*24≤_;omega),(by show 1+1≤_;omega)⟩,?_⟩
      have hnx:nxt (prv A L Wl o i) i (L.length - 2 - i)=k:=by rw [g7];exact Zn0 ω
      have ht: [k]++trail (prv A L Wl o) L.length f k=cutI A L Wl o:=by rw [← g3,Zbb ω f,hnx];simp
      have hle:=Zfh (prv A L Wl o i) i (L.length - 2 - i)
      rw [hnx] at hle
      refine⟨(k,f, [k]),⟨ω,ω,ht,by simp only [length_cons,length_append,length_nil] at g4 ⊢;omega⟩,by simp only;omega,?_⟩
      constructor<;>(repeat' (first|exact rfl|exact True.intro|apply And.intro))
      all_goals first
       |(simp [rowQ,rdcs];done)
       |exact ωb
       |exact ωa
    ·simp only [length_nil,length_cons] at g4
     have hT:(map rdcs (rowQ L (0 :: c :: r))).length≤62:=by simp only [rowQ,length_map,length_cons];omega
     have hwl:IntKind.i64.wrap (((map rdrs L).length:Int) - 1)=((L.length - 1:Nat):Int):=by rw [wrap64 _ ω ω];omega
     refine⟨Nat,fun k=> [(1,.val (.one (.d (.list (map rdrs L))))),(2,.val (.one (.d (.list (map rdvs Wl))))),(3,int o),(4,.val (.one (.ptr 4 0))),(13,.val (.one (.row 82 0))),(14,int (i:Int)),(15,int (k:Int))],
      fun k=> [(4,.var 34 [.d (.v (.string A.name)),Xb A.bx,Xs A.bx,Xt A.bx,Xb A.by',Xs A.by',Xt A.by',.d (.v (.bool (A.bh))),Xb A.bt,Xs A.bt,Xt A.bt,.d (.list (map lk A.links))]),(82,.row 41 1 0 (map rdcs (rowQ L (0 :: c :: r))) true)],fun k=>i+1≤k∧k≤L.length - 1∧nxt (prv A L Wl o i) i (L.length - 2 - i)=nxt (prv A L Wl o i) i (k - (i+1)),fun k=>k,(L.length - 1),?_,⟨ω,ω,by rw [show L.length - 1 - (i+1)=L.length - 2 - i by omega]⟩,fun k hs=> ?_⟩
     ·constructor<;>(repeat' (first|exact rfl|exact True.intro|exact⟨_,_,rfl⟩|exact ωd|apply And.intro))
      all_goals first
       |exact congrArg (fun n:Int=>D.v (.int .i64 n)) hwl
       |exact congrArg (fun n:Int=>D.v (.int .i64 n)) hwl.symm
       |exact ωa
       |(simp;done)
     obtain⟨g5,g6,g7⟩:=hs
     refine⟨fun e6=> ?_,fun e6=> ?_⟩
     ·have f56:(k:Int) >IntKind.i64.wrap ((i:Int)+1):=of_decide_eq_true e6
      refine get_ex (l:=L) (i:=i) ωm fun x63 hx63=> ?_
      have hwx63:=ZH hx63
      have hzx63:=hL.2 x63 (mem_of_getElem? hx63)
      refine k_ix i [D.list (map rd x63)] ωf (Zc hx63) rfl ?_
      refine get_ex (l:=L) (i:=k) ωm fun x67 hx67=> ?_
      have hwx67:=ZH hx67
      have hzx67:=hL.2 x67 (mem_of_getElem? hx67)
      refine k_ix k [D.list (map rd x67)] ωf (Zc hx67) rfl ?_
      refine Zgm (A:=A) (l:=x63) (m:=x67) (Wl:=Wl) (o:=o) hA2 hzx63 hzx67 hW ho fun b71 n71 hb71 hk_71_2=> ?_
      have hpr:b71=prv A L Wl o i k:=by rw [hb71,← hwx63,← hwx67];exact ZnP hc hmo ω ω
      refine⟨ωr,?_⟩
      refine⟨fun e7=> ?_,fun e7=> ?_⟩
      ·have f74:b71=true:=e7
       refine k_ix k [D.list (map rd x67)] ωf (Zc hx67) rfl ?_
       refine Za8 (L:=L) (i:=k) (q:=x67) hwx67 hzx67 ?_
       refine⟨⟨row1 rfl,(by show ((map rdcs (rowQ L (0 :: c :: r))).length+1)*24≤_;omega),(by show ((map rdcs (rowQ L (0 :: c :: r))).length+1)≤_;omega)⟩,?_⟩
       have hnx:nxt (prv A L Wl o i) i (L.length - 2 - i)=k:=by rw [g7];exact ZnZ ω (by rw [← hpr];exact f74)
       have ht:(c :: (r++ [k]))++trail (prv A L Wl o) L.length f k=cutI A L Wl o:=by rw [← g3,Zbb ω f,hnx];simp
       have hle:=Zfh (prv A L Wl o i) i (L.length - 2 - i)
       rw [hnx] at hle
       refine⟨(k,f,c :: (r++ [k])),⟨ω,ω,ht,by simp only [length_cons,length_append,length_nil] at g4 ⊢;omega⟩,by simp only;omega,?_⟩
       constructor<;>(repeat' (first|exact rfl|exact True.intro|apply And.intro))
       all_goals first
        |(simp [rowQ,rdcs];done)
        |exact ωb
        |exact ωa
      ·have f74:¬ (b71=true):=fun hh=>Zct hh e7
       refine⟨(k - 1),⟨ω,ω,by rw [g7,Zkc ω (by rw [← hpr];exact f74)]⟩,by simp only;omega,?_⟩
       constructor<;>(repeat' (first|exact rfl|exact True.intro|apply And.intro))
       all_goals first
        |exact ωb
        |exact ωa
     ·have f56:¬ ((k:Int) >IntKind.i64.wrap ((i:Int)+1)):=of_decide_eq_false e6
      refine get_ex (l:=L) (i:=k) ωm fun x78 hx78=> ?_
      have hwx78:=ZH hx78
      have hzx78:=hL.2 x78 (mem_of_getElem? hx78)
      refine k_ix k [D.list (map rd x78)] ωf (Zc hx78) rfl ?_
      refine Za8 (L:=L) (i:=k) (q:=x78) hwx78 hzx78 ?_
      refine⟨⟨row1 rfl,(by show ((map rdcs (rowQ L (0 :: c :: r))).length+1)*24≤_;omega),(by show ((map rdcs (rowQ L (0 :: c :: r))).length+1)≤_;omega)⟩,?_⟩
      have hnx:nxt (prv A L Wl o i) i (L.length - 2 - i)=k:=by rw [g7];exact Zn0 ω
      have ht:(c :: (r++ [k]))++trail (prv A L Wl o) L.length f k=cutI A L Wl o:=by rw [← g3,Zbb ω f,hnx];simp
      have hle:=Zfh (prv A L Wl o i) i (L.length - 2 - i)
      rw [hnx] at hle
      refine⟨(k,f,c :: (r++ [k])),⟨ω,ω,ht,by simp only [length_cons,length_append,length_nil] at g4 ⊢;omega⟩,by simp only;omega,?_⟩
      constructor<;>(repeat' (first|exact rfl|exact True.intro|apply And.intro))
      all_goals first
       |(simp [rowQ,rdcs];done)
       |exact ωb
       |exact ωa
   ·have f49:¬ ((i:Int)< IntKind.i64.wrap (((map rdrs L).length:Int) - 1)):=of_decide_eq_false e3
    have hwl:IntKind.i64.wrap (((map rdrs L).length:Int) - 1)=((L.length - 1:Nat):Int):=by rw [wrap64 _ ω ω];omega
    have f49:¬ i+1< L.length:=by rw [hwl] at f49;omega
    rcases I with _|⟨c,r⟩
    ·simp only [length_nil,length_cons] at g4
     refine Eq.trans (b:= .tup [.one (.d (.list ([[D.list (map rdc (gdL (wAt L 0)))]]))),.one (.d (.v (.int .i64 (0))))]) ?_ rfl
     have hI:cutI A L Wl o= []:=by rw [← g3,ZdU ω];simp
     rw [Zi7 hE,hE,hI]
     all_goals rfl
    ·simp only [length_nil,length_cons] at g4
     have hT:(map rdcs (rowQ L (0 :: c :: r))).length≤62:=by simp only [rowQ,length_map,length_cons];omega
     refine Eq.trans (b:= .tup [.one (.d (.list (map rdcs (rowQ L (0 :: c :: r))))),.one (.d (.v (.int .i64 (0))))]) ?_ rfl
     have hI:cutI A L Wl o=c :: r:=by rw [← g3,ZdU ω];simp
     rw [Zi7 hE,hE,hI]
     all_goals rfl
end
