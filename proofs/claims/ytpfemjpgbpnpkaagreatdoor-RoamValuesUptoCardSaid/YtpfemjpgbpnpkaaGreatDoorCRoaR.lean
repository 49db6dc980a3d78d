/- Contracts: gantref3.SpotFault, Value, Near; equal lists. Printed by wip/gp_roam.py. -/
import Derived.Test.YtpfemjpgbpnpkaaGreatDoorCRoaA
import Derived.Test.YtpfemjpgbpnpkaaGreatDoorCGrpX
set_option maxRecDepth 100000
namespace Go.Proofs.YtpfemjpgbpnpkaaGreatDoor.eng
open Go.RowKit num mem seg q held ratA ratB ratC ratD ratE vars ratF trq
section
variable {K : AV → Prop}
theorem Zip (L:List Int) (n s:Int) (hL:L.length≤1048576):Spec Tryz.prog Tab 51 [.val (.one (.d (.list (List.map intD L)))),int n,int s] (int (spotE L n s)):=by
 have hLl:(List.map intD L).length=L.length:=List.length_map ..
 refine Zb Tryz.func51 rfl rfl Tryz.ntmps51 rfl (by kernel_rfl) rfl rfl ?_
 refine⟨fun e1=> ?_,fun e1=> ?_⟩
 ·have f12:((List.map intD L).length:Int)≠n:=Zy e1
  refine Eq.trans (b:=int 1) ?_ rfl
  rw [ZfR (fun h=>f12 (by rw [hLl];exact h))]
 ·have f12:¬ (((List.map intD L).length:Int)≠n):=fun hh=>hh (Zz e1)
  refine⟨Nat,fun i=> [(2,int s),(13,.val (.one (.d (.list (List.map intD L))))),(14,int ((List.map intD L).length:Int)),(15,int (i:Int))],
   fun i=> [],fun i=>i≤L.length∧∀ (j:Nat) (k:Int),j< i→L[j]? =some k→¬ (k< 0∨s< k),fun i=>L.length - i,0,?_,⟨Nat.zero_le _,fun j k h=>by omega⟩,fun i hs=> ?_⟩
  ·constructor<;>(repeat' (first|exact rfl|exact True.intro|exact⟨_,_,rfl⟩|exact(by decide)|apply And.intro))
   all_goals first|exact congrArg (fun n:Int=>D.v (.int .i64 n)) (by omega)|exact congrArg (fun n:Int=>D.v (.int .i64 n)) (by rw [wrap64 _ (by omega) (by omega)];omega)|(simp;done)
  have g1:=hs.1
  have g2:=hs.2
  refine⟨fun e2=> ?_,fun e2=> ?_⟩
  ·have f16:(i:Int)< ((List.map intD L).length:Int):=of_decide_eq_true e2
   refine ZP (l:=L) (i:=i) (by first|omega|exact Nat.mod_lt _ (by omega)) fun x17 hx17=> ?_
   refine k_ix i [D.v (.int .i64 (x17))] (by first|rfl|omega|(rw [wrap64 _ (by omega) (by omega)];omega)|(rw [wrap64 _ (by omega) (by omega)];split<;>omega)) (Zl hx17) rfl ?_
   refine fork (fun e3=> ?_) (fun e3=> ?_)
   ·have f21:x17< 0:=of_decide_eq_true e3
    refine⟨fun _=> ?_,fun e=>absurd e (by decide)⟩
    refine Eq.trans (b:=int 17) ?_ rfl
    rw [ZbU (by omega) ⟨x17,List.mem_of_getElem? hx17,by omega⟩]
   ·have f21:¬ (x17< 0):=of_decide_eq_false e3
    refine⟨fun e4=> ?_,fun e4=> ?_⟩
    ·have f25:x17 >s:=of_decide_eq_true e4
     refine Eq.trans (b:=int 17) ?_ rfl
     rw [ZbU (by omega) ⟨x17,List.mem_of_getElem? hx17,by omega⟩]
    ·have f25:¬ (x17 >s):=of_decide_eq_false e4
     refine⟨i+1,⟨by omega,fun j k hj hk=>by
      by_cases e:j=i
      ·subst e;obtain rfl:=Option.some.inj (hx17.symm.trans hk);omega
      ·exact g2 j k (by omega) hk⟩,by simp only;omega,?_⟩
     constructor<;>(repeat' (first|exact rfl|exact True.intro|apply And.intro))
     all_goals first
      |exact congrArg (fun n:Int=>D.v (.int .i64 n)) (by rw [wrap64 _ (by omega) (by omega)];omega)
      |exact congrArg (fun n:Int=>D.v (.int .i64 n)) (by omega)
  ·have f16:¬ ((i:Int)< ((List.map intD L).length:Int)):=of_decide_eq_false e2
   refine Eq.trans (b:=int 0) ?_ rfl
   obtain rfl:i=L.length:=by omega
   rw [ZfS (by omega) (Zl2 g2)]
theorem ZmW {L:List Int} {n s:Int} (hL:L.length≤1048576) (k:∀ m,m=spotE L n s→K (int m)):Ask 51 [.val (.one (.d (.list (List.map intD L)))),int n,int s] K:=use (Zip L n s hL) rfl (k _ rfl)
set_option maxHeartbeats 2000000 in
theorem ZkB (A:ArmV) (s:Int) (L:List Int) (hA:A.ok) (hA0:armE A=0) (hs1:1≤s) (hs2:s≤12) (hlen:L.length=A.links.length) (hb:∀ (i:Nat) (k:Int),L[i]? =some k→0≤k∧k≤s):Spec Tryz.prog Tab 52 [.val (.agg [.d (.v (.string A.name)),.d (.v (.bool A.bx.s)),.d (.v (.string A.bx.a)),.d (.v (.string A.bx.d)),.d (.v (.bool A.by'.s)),.d (.v (.string A.by'.a)),.d (.v (.string A.by'.d)),.d (.v (.bool (A.bh))),.d (.v (.bool A.bt.s)),.d (.v (.string A.bt.a)),.d (.v (.string A.bt.d)),.d (.list (List.map lk A.links))]),int s,.val (.one (.d (.list (List.map intD L))))] (.val (.one (.d (.list (List.map rdc (vlF A s L A.links.length)))))):=by
 have hA2:=hA
 have z6:=hA.2.2.2.2.2
 have hLk:(List.map lk A.links).length=A.links.length:=List.length_map ..
 have hLl:(List.map intD L).length=L.length:=List.length_map ..
 have hn3:=(ZaI hA0).1
 have hs0:=castne1 hs1
 refine Zb Tryz.func52 rfl rfl Tryz.ntmps52 rfl (by kernel_rfl) rfl rfl ?_
 refine⟨Nat,fun i=> [(1,int s),(2,.val (.one (.d (.list (List.map intD L))))),(7,.val (.one (.row 43 0))),(13,.val (.one (.d (.list (List.map lk A.links))))),(14,int ((List.map lk A.links).length:Int)),(15,int (i:Int))],
  fun i=> [(43,.row 23 3 0 (List.map rdc (vlF A s L i)) true)],fun i=>i≤A.links.length,fun i=>A.links.length - i,0,?_,Nat.zero_le _,fun i hs=> ?_⟩
 ·constructor<;>(repeat' (first|exact rfl|exact True.intro|exact⟨_,_,rfl⟩|exact(by decide)|apply And.intro))
  all_goals first|exact congrArg (fun n:Int=>D.v (.int .i64 n)) (by omega)|exact congrArg (fun n:Int=>D.v (.int .i64 n)) (by rw [wrap64 _ (by omega) (by omega)];omega)|(simp;done)
 have hT:(List.map rdc (vlF A s L i)).length≤3:=by rw [List.length_map,Zed];omega
 refine⟨fun e1=> ?_,fun e1=> ?_⟩
 ·have f16:(i:Int)< ((List.map lk A.links).length:Int):=of_decide_eq_true e1
  refine ZP (l:=A.links) (i:=i) (by first|omega|exact Nat.mod_lt _ (by omega)) fun x18 hx18=> ?_
  have hzx18:=z6 x18 (List.mem_of_getElem? hx18)
  have hsx18:=ZR hA0 (List.mem_of_getElem? hx18)
  have hax18:=ZaF hx18
  refine k_ix i [D.v (.bool x18.len.s),D.v (.string x18.len.a),D.v (.string x18.len.d),D.v (.bool x18.low.s),D.v (.string x18.low.a),D.v (.string x18.low.d),D.v (.bool x18.high.s),D.v (.string x18.high.a),D.v (.string x18.high.d),D.v (.bool x18.speed.s),D.v (.string x18.speed.a),D.v (.string x18.speed.d),D.v (.bool x18.brake.s),D.v (.string x18.brake.a),D.v (.string x18.brake.d),D.list (List.map rdv x18.shape)] (by first|rfl|omega|(rw [wrap64 _ (by omega) (by omega)];omega)|(rw [wrap64 _ (by omega) (by omega)];split<;>omega)) (Zl hx18) rfl ?_
  refine Zt (x:=x18.low) (by omega) fun q22 h22 z22=> ?_
  refine Zt (x:=x18.high) (by omega) fun q25 h25 z25=> ?_
  refine⟨by kernel_rfl,?_⟩
  refine Zb4 (p:=q25) (q:=q22) (by omega) (by omega) fun q30 h30 z30=> ?_
  refine ZP (l:=L) (i:=i) (by first|omega|exact Nat.mod_lt _ (by omega)) fun x33 hx33=> ?_
  have hwx33:=hb _ _ hx33
  refine k_ix i [D.v (.int .i64 (x33))] (by first|rfl|omega|(rw [wrap64 _ (by omega) (by omega)];omega)|(rw [wrap64 _ (by omega) (by omega)];split<;>omega)) (Zl hx33) rfl ?_
  refine k_N3 (x33) (by omega) (by omega) fun q35 h35 z35=> ?_
  refine Zd0 (p:=q30) (q:=q35) (by omega) (by omega) fun q36 h36 z36=> ?_
  refine k_N3 (s) (by omega) (by omega) fun q38 h38 z38=> ?_
  refine Zmj (p:=q36) (q:=q38) (by omega) (by omega) (by rw [h38];exact hs0) fun q39 h39 z39=> ?_
  refine Zdh (p:=q22) (q:=q39) (by omega) (by omega) fun q40 h40 z40=> ?_
  refine Zfw (q:=q40) (by omega) ?_
  refine⟨⟨row1 rfl,(by show ((List.map rdc (vlF A s L i)).length+1)*40≤_;omega),(by show ((List.map rdc (vlF A s L i)).length+1)≤_;omega)⟩,?_⟩
  refine⟨by kernel_rfl,?_⟩
  have e1:q40=vlQ A s L i:=by rw [h40,h39,h38,h36,h35,h30,h25,h22,← hax18,← ZiQ hx33];simp only [vlQ,Rat.div_def,Rat.mul_assoc]
  refine⟨i+1,by omega,by simp only;omega,?_⟩
  constructor<;>(repeat' (first|exact rfl|exact True.intro|apply And.intro))
  all_goals first
   |(rw [ZgP,← e1];rfl)
   |exact congrArg (fun n:Int=>D.v (.int .i64 n)) (by rw [wrap64 _ (by omega) (by omega)];omega)
   |exact congrArg (fun n:Int=>D.v (.int .i64 n)) (by omega)
 ·have f16:¬ ((i:Int)< ((List.map lk A.links).length:Int)):=of_decide_eq_false e1
  refine Eq.trans (b:= .val (.one (.d (.list (List.map rdc (vlF A s L i)))))) ?_ rfl
  obtain rfl:i=A.links.length:=by omega
  rfl
theorem Zmh {A:ArmV} {s:Int} {L:List Int} (hA:A.ok) (hA0:armE A=0) (hs1:1≤s) (hs2:s≤12) (hlen:L.length=A.links.length) (hb:∀ (i:Nat) (k:Int),L[i]? =some k→0≤k∧k≤s) (k:K (.val (.one (.d (.list (List.map rdc (vlF A s L A.links.length))))))):Ask 52 [.val (.agg [.d (.v (.string A.name)),.d (.v (.bool A.bx.s)),.d (.v (.string A.bx.a)),.d (.v (.string A.bx.d)),.d (.v (.bool A.by'.s)),.d (.v (.string A.by'.a)),.d (.v (.string A.by'.d)),.d (.v (.bool (A.bh))),.d (.v (.bool A.bt.s)),.d (.v (.string A.bt.a)),.d (.v (.string A.bt.d)),.d (.list (List.map lk A.links))]),int s,.val (.one (.d (.list (List.map intD L))))] K:=use (ZkB A s L hA hA0 hs1 hs2 hlen hb) rfl k
set_option maxHeartbeats 4000000 in
theorem Ziq (A:ArmV) (s:Int) (Q:List RV) (hA:A.ok) (hf:fitsE A Q=0) (hs1:1≤s) (hs2:s≤12) (hQ:∀ x,x∈Q→x.z≤1048576):Spec Tryz.prog Tab 54 [.val (.agg [.d (.v (.string A.name)),.d (.v (.bool A.bx.s)),.d (.v (.string A.bx.a)),.d (.v (.string A.bx.d)),.d (.v (.bool A.by'.s)),.d (.v (.string A.by'.a)),.d (.v (.string A.by'.d)),.d (.v (.bool (A.bh))),.d (.v (.bool A.bt.s)),.d (.v (.string A.bt.a)),.d (.v (.string A.bt.d)),.d (.list (List.map lk A.links))]),int s,.val (.one (.d (.list (List.map rd Q))))] (.val (.one (.d (.list (List.map intD (nrF A s Q A.links.length)))))):=by
 have hA2:=hA
 have z6:=hA.2.2.2.2.2
 have hLk:(List.map lk A.links).length=A.links.length:=List.length_map ..
 have hLq:(List.map rd Q).length=Q.length:=List.length_map ..
 have hQ6:∀ x,x∈Q→x.z≤67108864:=fun x hx=>Nat.le_trans (hQ x hx) (by decide)
 have hfl:=(Zca hf).1
 have hA0:=(Zca hf).2
 have hn3:=(ZaI hA0).1
 have hs0:=castne1 hs1
 have hw:IntKind.i64.wrap (s+1)=s+1:=wrap64 _ (by omega) (by omega)
 refine Zb Tryz.func54 rfl rfl Tryz.ntmps54 rfl (by kernel_rfl) rfl rfl ?_
 refine⟨Nat,fun i=> [(1,int s),(2,.val (.one (.d (.list (List.map rd Q))))),(7,.val (.one (.row 68 0))),(17,.val (.one (.d (.list (List.map lk A.links))))),(18,int ((List.map lk A.links).length:Int)),(19,int (i:Int))],
  fun i=> [(68,.row 3 1 0 (List.map intD (nrF A s Q i)) true)],fun i=>i≤A.links.length,fun i=>A.links.length - i,0,?_,Nat.zero_le _,fun i hs=> ?_⟩
 ·constructor<;>(repeat' (first|exact rfl|exact True.intro|exact⟨_,_,rfl⟩|exact(by decide)|apply And.intro))
  all_goals first|exact congrArg (fun n:Int=>D.v (.int .i64 n)) (by omega)|exact congrArg (fun n:Int=>D.v (.int .i64 n)) (by rw [wrap64 _ (by omega) (by omega)];omega)|(simp;done)
 have g1:=hs
 have hT:(List.map intD (nrF A s Q i)).length≤3:=by rw [List.length_map,Zew];omega
 refine⟨fun e1=> ?_,fun e1=> ?_⟩
 ·have f20:(i:Int)< ((List.map lk A.links).length:Int):=of_decide_eq_true e1
  refine ZP (l:=A.links) (i:=i) (by first|omega|exact Nat.mod_lt _ (by omega)) fun x22 hx22=> ?_
  have hzx22:=z6 x22 (List.mem_of_getElem? hx22)
  have hsx22:=ZR hA0 (List.mem_of_getElem? hx22)
  have hax22:=ZaF hx22
  refine k_ix i [D.v (.bool x22.len.s),D.v (.string x22.len.a),D.v (.string x22.len.d),D.v (.bool x22.low.s),D.v (.string x22.low.a),D.v (.string x22.low.d),D.v (.bool x22.high.s),D.v (.string x22.high.a),D.v (.string x22.high.d),D.v (.bool x22.speed.s),D.v (.string x22.speed.a),D.v (.string x22.speed.d),D.v (.bool x22.brake.s),D.v (.string x22.brake.a),D.v (.string x22.brake.d),D.list (List.map rdv x22.shape)] (by first|rfl|omega|(rw [wrap64 _ (by omega) (by omega)];omega)|(rw [wrap64 _ (by omega) (by omega)];split<;>omega)) (Zl hx22) rfl ?_
  refine Zt (x:=x22.low) (by omega) fun q26 h26 z26=> ?_
  refine Zt (x:=x22.high) (by omega) fun q29 h29 z29=> ?_
  refine⟨by kernel_rfl,?_⟩
  refine k_N3 (0) (by omega) (by omega) fun q30 h30 z30=> ?_
  have e30:q30=(bst (dsQ A s Q i) 0).2:=h30
  refine⟨Nat,fun j=> [(1,int s),(2,.val (.one (.d (.list (List.map rd Q))))),(7,.val (.one (.row 68 0))),(8,int (i:Int)),(10,.val (.one (.ptr 10 0))),(11,.val (.one (.ptr 11 0))),(12,int ((bst (dsQ A s Q i) j).1:Int)),(13,.val (.one (.ptr 13 0))),(17,.val (.one (.d (.list (List.map lk A.links))))),(18,int ((List.map lk A.links).length:Int)),(19,int (i:Int)),(32,int (IntKind.i64.wrap (s+1))),(33,int (j:Int))],
   fun j=> [(10,.var 51 [.d (.v (.bool (decide (q26.num< 0)))),.d (.list (W (w32 q26.num.natAbs))),.d (.list (W (w32 q26.den)))]),(11,.var 51 [.d (.v (.bool (decide (q29.num< 0)))),.d (.list (W (w32 q29.num.natAbs))),.d (.list (W (w32 q29.den)))]),(13,.var 51 [.d (.v (.bool (decide (((bst (dsQ A s Q i) j).2).num< 0)))),.d (.list (W (w32 ((bst (dsQ A s Q i) j).2).num.natAbs))),.d (.list (W (w32 ((bst (dsQ A s Q i) j).2).den)))]),(68,.row 3 1 0 (List.map intD (nrF A s Q i)) true)],fun j=>j≤(s+1).toNat∧qs (bst (dsQ A s Q i) j).2≤1000000000,fun j=>(s+1).toNat - j,0,?_,⟨Nat.zero_le _,show qs (0:Rat)≤_ by decide+kernel⟩,fun j hs=> ?_⟩
  ·constructor<;>(repeat' (first|exact rfl|exact True.intro|exact⟨_,_,rfl⟩|exact(by decide)|apply And.intro))
   all_goals first
    |exact congrArg (fun q:Rat=>D.v (.bool (decide (q.num< 0)))) e30
    |exact congrArg (fun q:Rat=>D.v (.bool (decide (q.num< 0)))) e30.symm
    |exact congrArg (fun q:Rat=>D.list (W (w32 q.num.natAbs))) e30
    |exact congrArg (fun q:Rat=>D.list (W (w32 q.num.natAbs))) e30.symm
    |exact congrArg (fun q:Rat=>D.list (W (w32 q.den))) e30
    |exact congrArg (fun q:Rat=>D.list (W (w32 q.den))) e30.symm
    |exact congrArg (fun n:Int=>D.v (.int .i64 n)) (by omega)
    |(simp;done)
  have j1:=hs.1
  have j2:=hs.2
  refine⟨fun e2=> ?_,fun e2=> ?_⟩
  ·have f34:(j:Int)< IntKind.i64.wrap (s+1):=of_decide_eq_true e2
   refine Zb4 (p:=q29) (q:=q26) (by omega) (by omega) fun q39 h39 z39=> ?_
   refine k_N3 ((j:Int)) (by omega) (by omega) fun q41 h41 z41=> ?_
   refine Zd0 (p:=q39) (q:=q41) (by omega) (by omega) fun q42 h42 z42=> ?_
   refine k_N3 (s) (by omega) (by omega) fun q44 h44 z44=> ?_
   refine Zmj (p:=q42) (q:=q44) (by omega) (by omega) (by rw [h44];exact hs0) fun q45 h45 z45=> ?_
   refine Zdh (p:=q26) (q:=q45) (by omega) (by omega) fun q46 h46 z46=> ?_
   refine ZP (l:=Q) (i:=i) (by first|omega|exact Nat.mod_lt _ (by omega)) fun x49 hx49=> ?_
   have hzx49:=hQ x49 (List.mem_of_getElem? hx49)
   have hxx49q:x49.q=qAt Q i:=(Ze7 hx49).symm
   refine k_ix i [D.v (.bool x49.s),D.v (.string x49.a),D.v (.string x49.d)] (by first|rfl|omega|(rw [wrap64 _ (by omega) (by omega)];omega)|(rw [wrap64 _ (by omega) (by omega)];split<;>omega)) (Zl hx49) rfl ?_
   refine Zt (x:=x49) (by omega) fun q51 h51 z51=> ?_
   refine Zb4 (p:=q46) (q:=q51) (by omega) (by omega) fun q52 h52 z52=> ?_
   refine ZmS (q:=q52)  fun q53 h53 z53=> ?_
   refine⟨by kernel_rfl,?_⟩
   refine fork (fun e3=> ?_) (fun e3=> ?_)
   ·have f56:(j:Int)=0:=ZbN e3
    refine⟨fun _=> ?_,fun e=>absurd e (by decide)⟩
    refine⟨by kernel_rfl,?_⟩
    have e53:q53=dsQ A s Q i j:=by rw [h53,h52,h51,h46,h45,h44,h42,h41,h39,h29,h26,hxx49q,← hax22];rfl
    have hb:=(ZeJ (d:=(dsQ A s Q i)) (j:=j) (.inl (by omega)))
    have c1:((j:Nat):Int)=((bst (dsQ A s Q i) (j+1)).1:Int):=by rw [hb]
    have c2:q53=(bst (dsQ A s Q i) (j+1)).2:=by rw [hb];exact e53
    refine⟨j+1,⟨by omega,by rw [← c2];omega⟩,by simp only;omega,?_⟩
    constructor<;>(repeat' (first|exact rfl|exact True.intro|apply And.intro))
    all_goals first
     |exact congrArg (fun n:Int=>D.v (.int .i64 n)) c1
     |exact congrArg (fun n:Int=>D.v (.int .i64 n)) c1.symm
     |exact congrArg (fun q:Rat=>D.v (.bool (decide (q.num< 0)))) c2
     |exact congrArg (fun q:Rat=>D.v (.bool (decide (q.num< 0)))) c2.symm
     |exact congrArg (fun q:Rat=>D.list (W (w32 q.num.natAbs))) c2
     |exact congrArg (fun q:Rat=>D.list (W (w32 q.num.natAbs))) c2.symm
     |exact congrArg (fun q:Rat=>D.list (W (w32 q.den))) c2
     |exact congrArg (fun q:Rat=>D.list (W (w32 q.den))) c2.symm
     |exact congrArg (fun n:Int=>D.v (.int .i64 n)) (by rw [wrap64 _ (by omega) (by omega)];omega)
     |exact congrArg (fun n:Int=>D.v (.int .i64 n)) (by omega)
   ·have f56:¬ ((j:Int)=0):=ZbO e3
    refine ZcD (p:=q53) (q:=(bst (dsQ A s Q i) j).2) (by omega) (by omega) fun n59 h59=> ?_
    refine⟨fun e4=> ?_,fun e4=> ?_⟩
    ·have f61:q53< (bst (dsQ A s Q i) j).2:=(ZlK h59).1 (of_decide_eq_true e4)
     refine⟨by kernel_rfl,?_⟩
     have e53:q53=dsQ A s Q i j:=by rw [h53,h52,h51,h46,h45,h44,h42,h41,h39,h29,h26,hxx49q,← hax22];rfl
     have hb:=(ZeJ (d:=(dsQ A s Q i)) (j:=j) (.inr (by rw [← e53];exact f61)))
     have c1:((j:Nat):Int)=((bst (dsQ A s Q i) (j+1)).1:Int):=by rw [hb]
     have c2:q53=(bst (dsQ A s Q i) (j+1)).2:=by rw [hb];exact e53
     refine⟨j+1,⟨by omega,by rw [← c2];omega⟩,by simp only;omega,?_⟩
     constructor<;>(repeat' (first|exact rfl|exact True.intro|apply And.intro))
     all_goals first
      |exact congrArg (fun n:Int=>D.v (.int .i64 n)) c1
      |exact congrArg (fun n:Int=>D.v (.int .i64 n)) c1.symm
      |exact congrArg (fun q:Rat=>D.v (.bool (decide (q.num< 0)))) c2
      |exact congrArg (fun q:Rat=>D.v (.bool (decide (q.num< 0)))) c2.symm
      |exact congrArg (fun q:Rat=>D.list (W (w32 q.num.natAbs))) c2
      |exact congrArg (fun q:Rat=>D.list (W (w32 q.num.natAbs))) c2.symm
      |exact congrArg (fun q:Rat=>D.list (W (w32 q.den))) c2
      |exact congrArg (fun q:Rat=>D.list (W (w32 q.den))) c2.symm
      |exact congrArg (fun n:Int=>D.v (.int .i64 n)) (by rw [wrap64 _ (by omega) (by omega)];omega)
      |exact congrArg (fun n:Int=>D.v (.int .i64 n)) (by omega)
    ·have f61:¬ (q53< (bst (dsQ A s Q i) j).2):=fun hh=>of_decide_eq_false e4 ((ZlK h59).2 hh)
     have e53:q53=dsQ A s Q i j:=by rw [h53,h52,h51,h46,h45,h44,h42,h41,h39,h29,h26,hxx49q,← hax22];rfl
     have hb:=(Zmo (d:=(dsQ A s Q i)) (j:=j) (by omega) (by rw [← e53];exact f61))
     have c1:((bst (dsQ A s Q i) j).1:Int)=((bst (dsQ A s Q i) (j+1)).1:Int):=by rw [hb]
     have c2:(bst (dsQ A s Q i) j).2=(bst (dsQ A s Q i) (j+1)).2:=by rw [hb]
     refine⟨j+1,⟨by omega,by rw [← c2];omega⟩,by simp only;omega,?_⟩
     constructor<;>(repeat' (first|exact rfl|exact True.intro|apply And.intro))
     all_goals first
      |exact congrArg (fun n:Int=>D.v (.int .i64 n)) c1
      |exact congrArg (fun n:Int=>D.v (.int .i64 n)) c1.symm
      |exact congrArg (fun q:Rat=>D.v (.bool (decide (q.num< 0)))) c2
      |exact congrArg (fun q:Rat=>D.v (.bool (decide (q.num< 0)))) c2.symm
      |exact congrArg (fun q:Rat=>D.list (W (w32 q.num.natAbs))) c2
      |exact congrArg (fun q:Rat=>D.list (W (w32 q.num.natAbs))) c2.symm
      |exact congrArg (fun q:Rat=>D.list (W (w32 q.den))) c2
      |exact congrArg (fun q:Rat=>D.list (W (w32 q.den))) c2.symm
      |exact congrArg (fun n:Int=>D.v (.int .i64 n)) (by rw [wrap64 _ (by omega) (by omega)];omega)
      |exact congrArg (fun n:Int=>D.v (.int .i64 n)) (by omega)
  ·have f34:¬ ((j:Int)< IntKind.i64.wrap (s+1)):=of_decide_eq_false e2
   refine⟨⟨row1 rfl,(by show ((List.map intD (nrF A s Q i)).length+1)*8≤_;omega),(by show ((List.map intD (nrF A s Q i)).length+1)≤_;omega)⟩,?_⟩
   have en:((bst (dsQ A s Q i) j).1:Int)=nrQ A s Q i:=(Zjx hf hx22 (List.getElem?_eq_getElem (by omega)) hs1 (n:=j) (by omega)).2.2
   refine⟨i+1,by omega,by simp only;omega,?_⟩
   constructor<;>(repeat' (first|exact rfl|exact True.intro|apply And.intro))
   all_goals first
    |(rw [Zg8,← en];rfl)
    |exact congrArg (fun n:Int=>D.v (.int .i64 n)) (by rw [wrap64 _ (by omega) (by omega)];omega)
    |exact congrArg (fun n:Int=>D.v (.int .i64 n)) (by omega)
 ·have f20:¬ ((i:Int)< ((List.map lk A.links).length:Int)):=of_decide_eq_false e1
  refine Eq.trans (b:= .val (.one (.d (.list (List.map intD (nrF A s Q i)))))) ?_ rfl
  obtain rfl:i=A.links.length:=by omega
  rfl
theorem ZjU {A:ArmV} {s:Int} {Q:List RV} (hA:A.ok) (hf:fitsE A Q=0) (hs1:1≤s) (hs2:s≤12) (hQ:∀ x,x∈Q→x.z≤1048576) (k:K (.val (.one (.d (.list (List.map intD (nrF A s Q A.links.length))))))):Ask 54 [.val (.agg [.d (.v (.string A.name)),.d (.v (.bool A.bx.s)),.d (.v (.string A.bx.a)),.d (.v (.string A.bx.d)),.d (.v (.bool A.by'.s)),.d (.v (.string A.by'.a)),.d (.v (.string A.by'.d)),.d (.v (.bool (A.bh))),.d (.v (.bool A.bt.s)),.d (.v (.string A.bt.a)),.d (.v (.string A.bt.d)),.d (.list (List.map lk A.links))]),int s,.val (.one (.d (.list (List.map rd Q))))] K:=use (Ziq A s Q hA hf hs1 hs2 hQ) rfl k
theorem Zj8 (l:List Int) (hn:l.length≤1099511627776):Spec Tryz.prog Tab 53 [.val (.one (.d (.list (List.map intD l)))),.val (.one (.d (.list (List.map intD l))))] (bool true):=by
 have hLl:(List.map intD l).length=l.length:=List.length_map ..
 refine Zb Tryz.func53 rfl rfl Tryz.ntmps53 rfl (by kernel_rfl) rfl rfl ?_
 refine⟨fun e1=> ?_,fun e1=> ?_⟩
 ·have f10:((List.map intD l).length:Int)≠((List.map intD l).length:Int):=Zy e1
  exfalso
  exact f10 rfl
 ·have f10:¬ (((List.map intD l).length:Int)≠((List.map intD l).length:Int)):=fun hh=>hh (Zz e1)
  refine⟨Nat,fun i=> [(0,.val (.one (.d (.list (List.map intD l))))),(1,.val (.one (.d (.list (List.map intD l))))),(12,int ((List.map intD l).length:Int)),(13,int (i:Int))],
   fun i=> [],fun i=>i≤l.length,fun i=>l.length - i,0,?_,Nat.zero_le _,fun i hs=> ?_⟩
  ·constructor<;>(repeat' (first|exact rfl|exact True.intro|exact⟨_,_,rfl⟩|exact(by decide)|apply And.intro))
   all_goals first|exact congrArg (fun n:Int=>D.v (.int .i64 n)) (by omega)|exact congrArg (fun n:Int=>D.v (.int .i64 n)) (by rw [wrap64 _ (by omega) (by omega)];omega)|(simp;done)
  refine⟨fun e2=> ?_,fun e2=> ?_⟩
  ·have f14:(i:Int)< ((List.map intD l).length:Int):=of_decide_eq_true e2
   refine ZP (l:=l) (i:=i) (by first|omega|exact Nat.mod_lt _ (by omega)) fun x18 hx18=> ?_
   refine k_ix i [D.v (.int .i64 (x18))] (by first|rfl|omega|(rw [wrap64 _ (by omega) (by omega)];omega)|(rw [wrap64 _ (by omega) (by omega)];split<;>omega)) (Zl hx18) rfl ?_
   refine k_ix i [D.v (.int .i64 (x18))] (by first|rfl|omega|(rw [wrap64 _ (by omega) (by omega)];omega)|(rw [wrap64 _ (by omega) (by omega)];split<;>omega)) (Zl hx18) rfl ?_
   refine⟨by kernel_rfl,?_⟩
   refine⟨fun e3=> ?_,fun e3=> ?_⟩
   ·have f24:x18≠x18:=Zy e3
    exfalso
    exact f24 rfl
   ·have f24:¬ (x18≠x18):=fun hh=>hh (Zz e3)
    refine⟨i+1,by omega,by simp only;omega,?_⟩
    constructor<;>(repeat' (first|exact rfl|exact True.intro|apply And.intro))
    all_goals first
     |exact congrArg (fun n:Int=>D.v (.int .i64 n)) (by rw [wrap64 _ (by omega) (by omega)];omega)
     |exact congrArg (fun n:Int=>D.v (.int .i64 n)) (by omega)
  ·have f14:¬ ((i:Int)< ((List.map intD l).length:Int)):=of_decide_eq_false e2
   refine Eq.trans (b:=bool true) ?_ rfl
   rfl
theorem Zmg {l m:List Int} (e:l=m) (hn:l.length≤1099511627776) (k:K (bool true)):Ask 53 [.val (.one (.d (.list (List.map intD l)))),.val (.one (.d (.list (List.map intD m))))] K:=by
 subst e;exact use (Zj8 l hn) rfl k
theorem ZjR {l m:List Rat} (e:l=m) (hn:l.length≤1099511627776) (k:K (bool true)):Ask 49 [.val (.one (.d (.list (List.map rdc l)))),.val (.one (.d (.list (List.map rdc m))))] K:=by
 subst e
 exact ZlA l l rfl rfl hn hn fun b hb=>by rw [hb,decide_eq_true rfl];exact k
def castL (l:List Int):List Rat:=l.map fun n:Int=>(n:Rat)
theorem Zij {L:List Int} {i:Nat} {x:Int} (h:L[i]? =some x):List.map rdc (castL (L.take (i+1)))=List.map rdc (castL (L.take i))++ [rdc (x:Rat)]:=by
 rw [List.take_add_one,h];unfold castL;rw [List.map_append,List.map_append];rfl
theorem ZnD {n:Int} (h:n=-1∨n=2):NumIs n (n:Rat):=by
 rcases h with rfl|rfl
 ·exact Zjq
 ·rw [show ((2:Int):Rat)=n2Q by decide+kernel];exact ZnC
theorem Zh1 (l:List Int) (hl:∀ n,n∈l→n=-1∨n=2) (hn:l.length≤1000):Spec Tryz.prog Tab 41 [.val (.one (.d (.list (List.map intD l))))] (.val (.one (.d (.list (List.map rdc (castL l)))))):=by
 have hLl:(List.map intD l).length=l.length:=List.length_map ..
 refine Zb Tryz.func41 rfl rfl Tryz.ntmps41 rfl (by kernel_rfl) rfl rfl ?_
 refine⟨Nat,fun i=> [(3,.val (.one (.row 16 0))),(6,.val (.one (.d (.list (List.map intD l))))),(7,int ((List.map intD l).length:Int)),(8,int (i:Int))],
  fun i=> [(16,.row 23 3 0 (List.map rdc (castL (l.take i))) true)],fun i=>i≤l.length,fun i=>l.length - i,0,?_,Nat.zero_le _,fun i hs=> ?_⟩
 ·constructor<;>(repeat' (first|exact rfl|exact True.intro|exact⟨_,_,rfl⟩|exact(by decide)|apply And.intro))
  all_goals first|exact congrArg (fun n:Int=>D.v (.int .i64 n)) (by omega)|exact congrArg (fun n:Int=>D.v (.int .i64 n)) (by rw [wrap64 _ (by omega) (by omega)];omega)|(simp;done)
 have hT:(List.map rdc (castL (l.take i))).length≤1024:=by unfold castL;rw [List.length_map,List.length_map,List.length_take];omega
 refine⟨fun e1=> ?_,fun e1=> ?_⟩
 ·have f9:(i:Int)< ((List.map intD l).length:Int):=of_decide_eq_true e1
  refine ZP (l:=l) (i:=i) (by first|omega|exact Nat.mod_lt _ (by omega)) fun x10 hx10=> ?_
  have hwx10:=hl x10 (List.mem_of_getElem? hx10)
  refine k_ix i [D.v (.int .i64 (x10))] (by first|rfl|omega|(rw [wrap64 _ (by omega) (by omega)];omega)|(rw [wrap64 _ (by omega) (by omega)];split<;>omega)) (Zl hx10) rfl ?_
  refine use (ZnD hwx10) rfl ?_
  refine⟨⟨row1 rfl,(by show ((List.map rdc (castL (l.take i))).length+1)*40≤_;omega),(by show ((List.map rdc (castL (l.take i))).length+1)≤_;omega)⟩,?_⟩
  refine⟨i+1,by omega,by simp only;omega,?_⟩
  constructor<;>(repeat' (first|exact rfl|exact True.intro|apply And.intro))
  all_goals first
   |(rw [Zij hx10];rfl)
   |exact congrArg (fun n:Int=>D.v (.int .i64 n)) (by rw [wrap64 _ (by omega) (by omega)];omega)
   |exact congrArg (fun n:Int=>D.v (.int .i64 n)) (by omega)
 ·have f9:¬ ((i:Int)< ((List.map intD l).length:Int)):=of_decide_eq_false e1
  refine Eq.trans (b:= .val (.one (.d (.list (List.map rdc (castL (l.take i))))))) ?_ rfl
  obtain rfl:i=l.length:=by omega
  rw [List.take_length]
  all_goals rfl
theorem ZmP (l:List Int) {vv:List (List D)} (hv:vv=List.map intD l) (hl:∀ n,n∈l→n=-1∨n=2) (hn:l.length≤1000) (k:K (.val (.one (.d (.list (List.map rdc (castL l))))))):Ask 41 [.val (.one (.d (.list vv)))] K:=by
 subst hv;exact use (Zh1 l hl hn) rfl k
end
end Go.Proofs.YtpfemjpgbpnpkaaGreatDoor.eng
