/- Contracts: package roam: check, Value, Near. Printed by wip/gp_roam.py. -/
import Derived.Test.YtpfemjpgbpnpkaaGreatDoorCRoa0
set_option maxRecDepth 100000
namespace Go.Proofs.YtpfemjpgbpnpkaaGreatDoor.eng
open Go.RowKit num mem seg q held ratA ratB ratC ratD ratE vars ratF trq
section
variable {K : AV → Prop}
theorem castne1 {s:Int} (h:1≤s):(s:Rat)≠0:=fun e=>by
 have:((0:Int):Rat)< (s:Rat):=Rat.intCast_lt_intCast.2 (by omega)
 rw [e] at this
 exact absurd this (by decide+kernel)
theorem Zk5 (A:ArmV) (s:Int) (hA:A.ok):Spec Tryz.prog Tab 150 [.val (.agg [.d (.v (.string A.name)),.d (.v (.bool A.bx.s)),.d (.v (.string A.bx.a)),.d (.v (.string A.bx.d)),.d (.v (.bool A.by'.s)),.d (.v (.string A.by'.a)),.d (.v (.string A.by'.d)),.d (.v (.bool (A.bh))),.d (.v (.bool A.bt.s)),.d (.v (.string A.bt.a)),.d (.v (.string A.bt.d)),.d (.list (List.map lk A.links))]),int s] (int (rcE A s)):=by
 have hA2:=hA
 have z6:=hA.2.2.2.2.2
 have hLk:(List.map lk A.links).length=A.links.length:=List.length_map ..
 refine Zb Tryz.func150 rfl rfl Tryz.ntmps150 rfl (by kernel_rfl) rfl rfl ?_
 refine Zb5 (A:=A) (by assumption) fun n7 hk_7_1=> ?_
 refine⟨fun e1=> ?_,fun e1=> ?_⟩
 ·have f9:n7≠0:=Zy e1
  refine Eq.trans (b:=int n7) ?_ rfl
  rw [Zk6 (by rw [← hk_7_1];exact f9),← hk_7_1]
 ·have f9:¬ (n7≠0):=fun hh=>hh (Zz e1)
  have h0:armE A=0:=by rw [← hk_7_1];exact Classical.not_not.1 f9
  refine fork (fun e2=> ?_) (fun e2=> ?_)
  ·have f13:s< 1:=of_decide_eq_true e2
   refine⟨fun _=> ?_,fun e=>absurd e (by decide)⟩
   refine Eq.trans (b:=int 1) ?_ rfl
   rw [Zf5 h0 (by omega)]
  ·have f13:¬ (s< 1):=of_decide_eq_false e2
   refine⟨fun e3=> ?_,fun e3=> ?_⟩
   ·have f16:s >12:=of_decide_eq_true e3
    refine Eq.trans (b:=int 1) ?_ rfl
    rw [Zf5 h0 (by omega)]
   ·have f16:¬ (s >12):=of_decide_eq_false e3
    refine Eq.trans (b:=int 0) ?_ rfl
    rw [ZmC h0 (by omega)]
theorem ZnL {A:ArmV} {s:Int} (hA:A.ok) (k:∀ n,n=rcE A s→K (int n)):Ask 150 [.val (.agg [.d (.v (.string A.name)),.d (.v (.bool A.bx.s)),.d (.v (.string A.bx.a)),.d (.v (.string A.bx.d)),.d (.v (.bool A.by'.s)),.d (.v (.string A.by'.a)),.d (.v (.string A.by'.d)),.d (.v (.bool (A.bh))),.d (.v (.bool A.bt.s)),.d (.v (.string A.bt.a)),.d (.v (.string A.bt.d)),.d (.list (List.map lk A.links))]),int s] K:=use (Zk5 A s hA) rfl (k _ rfl)
set_option maxHeartbeats 4000000 in
theorem Zi7 (A:ArmV) (s:Int) (L:List Int) (hA:A.ok) (hL:L.length≤1048576):Spec Tryz.prog Tab 48 [.val (.agg [.d (.v (.string A.name)),.d (.v (.bool A.bx.s)),.d (.v (.string A.bx.a)),.d (.v (.string A.bx.d)),.d (.v (.bool A.by'.s)),.d (.v (.string A.by'.a)),.d (.v (.string A.by'.d)),.d (.v (.bool (A.bh))),.d (.v (.bool A.bt.s)),.d (.v (.string A.bt.a)),.d (.v (.string A.bt.d)),.d (.list (List.map lk A.links))]),int s,.val (.one (.d (.list (List.map intD L))))] (.tup [.one (.d (.list (List.map rdc (rvV A s L)))),.one (.d (.v (.int .i64 (rvE A s L))))]):=by
 have hA2:=hA
 have z6:=hA.2.2.2.2.2
 have hLk:(List.map lk A.links).length=A.links.length:=List.length_map ..
 have hLl:(List.map intD L).length=L.length:=List.length_map ..
 refine Zb Tryz.func48 rfl rfl Tryz.ntmps48 rfl (by kernel_rfl) rfl rfl ?_
 refine ZnL (A:=A) (s:=s) (by assumption) fun n18 hk_18_1=> ?_
 refine⟨fun e1=> ?_,fun e1=> ?_⟩
 ·have f20:n18≠0:=Zy e1
  refine Eq.trans (b:= .tup [.one (.d (.list ([]))),.one (.d (.v (.int .i64 (n18))))]) ?_ rfl
  have hc:¬ rcE A s=0:=by rw [← hk_18_1];exact f20
  have hv:=ZkV (L:=L) rfl hc
  rw [Zcx (by rw [hv];exact hc),hv,← hk_18_1]
  all_goals rfl
 ·have f20:¬ (n18≠0):=fun hh=>hh (Zz e1)
  have hrc:rcE A s=0:=by rw [← hk_18_1];exact Classical.not_not.1 f20
  have hok:=Zl6 hrc
  have hA0:=hok.1
  have hs1:=hok.2.1
  have hs2:=hok.2.2
  have hn3:=(ZaI hA0).1
  have hs0:=castne1 hs1
  have hLj:(jnV A).length=A.links.length:=by rw [ZcE hA0]
  refine⟨fun e2=> ?_,fun e2=> ?_⟩
  ·have f27:((List.map intD L).length:Int)≠((List.map lk A.links).length:Int):=Zy e2
   refine Eq.trans (b:= .tup [.one (.d (.list ([]))),.one (.d (.v (.int .i64 (1))))]) ?_ rfl
   have hv:rvE A s L=1:=(Zel hrc).trans (ZfR (by omega))
   rw [Zcx (by rw [hv];decide),hv]
   all_goals rfl
  ·have f27:¬ (((List.map intD L).length:Int)≠((List.map lk A.links).length:Int)):=fun hh=>hh (Zz e2)
   have hlen:L.length=A.links.length:=by omega
   refine Zhk (A:=A) (by assumption) fun n30 hk_30_1=> ?_
   refine⟨fun e3=> ?_,fun e3=> ?_⟩
   ·have f34:n30≠0:=Zy e3
    exfalso
    exact f34 (by rw [hk_30_1];exact hA0)
   ·have f34:¬ (n30≠0):=fun hh=>hh (Zz e3)
    refine⟨Nat,fun i=> [(1,int s),(9,.val (.one (.d (.list (List.map jn (jnV A)))))),(11,.val (.one (.row 64 0))),(36,.val (.one (.d (.list (List.map intD L))))),(37,int ((List.map intD L).length:Int)),(38,int (i:Int))],
     fun i=> [(64,.row 23 3 0 (List.map rdc (vlF A s L i)) true)],fun i=>i≤L.length∧∀ (j:Nat) (k:Int),j< i→L[j]? =some k→¬ (k< 0∨s< k),fun i=>L.length - i,0,?_,⟨Nat.zero_le _,fun j k h=>by omega⟩,fun i hs=> ?_⟩
    ·constructor<;>(repeat' (first|exact rfl|exact True.intro|exact⟨_,_,rfl⟩|exact(by decide)|apply And.intro))
     all_goals first|exact congrArg (fun n:Int=>D.v (.int .i64 n)) (by omega)|exact congrArg (fun n:Int=>D.v (.int .i64 n)) (by rw [wrap64 _ (by omega) (by omega)];omega)|(simp;done)
    have g1:=hs.1
    have g2:=hs.2
    have hT:(List.map rdc (vlF A s L i)).length≤3:=by rw [List.length_map,Zed];omega
    refine⟨fun e4=> ?_,fun e4=> ?_⟩
    ·have f39:(i:Int)< ((List.map intD L).length:Int):=of_decide_eq_true e4
     refine ZP (l:=L) (i:=i) (by first|omega|exact Nat.mod_lt _ (by omega)) fun x41 hx41=> ?_
     refine k_ix i [D.v (.int .i64 (x41))] (by first|rfl|omega|(rw [wrap64 _ (by omega) (by omega)];omega)|(rw [wrap64 _ (by omega) (by omega)];split<;>omega)) (Zl hx41) rfl ?_
     refine fork (fun e5=> ?_) (fun e5=> ?_)
     ·have f45:x41< 0:=of_decide_eq_true e5
      refine⟨fun _=> ?_,fun e=>absurd e (by decide)⟩
      refine Eq.trans (b:= .tup [.one (.d (.list ([]))),.one (.d (.v (.int .i64 (17))))]) ?_ rfl
      have hv:rvE A s L=17:=(Zel hrc).trans (ZbU (by omega) ⟨x41,List.mem_of_getElem? hx41,by omega⟩)
      rw [Zcx (by rw [hv];decide),hv]
      all_goals rfl
     ·have f45:¬ (x41< 0):=of_decide_eq_false e5
      refine⟨fun e6=> ?_,fun e6=> ?_⟩
      ·have f49:x41 >s:=of_decide_eq_true e6
       refine Eq.trans (b:= .tup [.one (.d (.list ([]))),.one (.d (.v (.int .i64 (17))))]) ?_ rfl
       have hv:rvE A s L=17:=(Zel hrc).trans (ZbU (by omega) ⟨x41,List.mem_of_getElem? hx41,by omega⟩)
       rw [Zcx (by rw [hv];decide),hv]
       all_goals rfl
      ·have f49:¬ (x41 >s):=of_decide_eq_false e6
       refine Zmf x41 s (by omega) (by omega) (by omega) (by omega) hs0 fun q53 h53 z53=> ?_
       simp only [cn_z] at z53
       refine ZP (l:=(jnV A)) (i:=i) (by first|omega|exact Nat.mod_lt _ (by omega)) fun x59 hx59=> ?_
       have hmx59:A.links[i]? =some x59:=by rw [← ZcE hA0];exact hx59
       have hj:x59=lkAt A i:=(ZaF hmx59).symm
       have hzx59:x59.low.z≤67108864∧x59.high.z≤67108864:=⟨(z6 _ (List.mem_of_getElem? hmx59)).2.1,(z6 _ (List.mem_of_getElem? hmx59)).2.2.1⟩
       refine k_ix i [D.iface 165 [D.v (.bool x59.len.s),D.v (.string x59.len.a),D.v (.string x59.len.d),D.v (.bool x59.low.s),D.v (.string x59.low.a),D.v (.string x59.low.d),D.v (.bool x59.high.s),D.v (.string x59.high.a),D.v (.string x59.high.d),D.v (.bool x59.speed.s),D.v (.string x59.speed.a),D.v (.string x59.speed.d),D.v (.bool x59.brake.s),D.v (.string x59.brake.a),D.v (.string x59.brake.d),D.list (List.map rdv x59.shape)]] (by first|rfl|omega|(rw [wrap64 _ (by omega) (by omega)];omega)|(rw [wrap64 _ (by omega) (by omega)];split<;>omega)) (Zl hx59) rfl ?_
       refine⟨rat (cn (jvQ x59 (cn q53))),⟨rfl,_,Zck,Zbo rfl (Zcu x59 (cn q53) hzx59.1 hzx59.2 (by simp only [cn_z];omega))⟩,?_⟩
       refine⟨⟨row1 rfl,(by show ((List.map rdc (vlF A s L i)).length+1)*40≤_;omega),(by show ((List.map rdc (vlF A s L i)).length+1)≤_;omega)⟩,?_⟩
       refine⟨by kernel_rfl,?_⟩
       have e1:jvQ x59 (cn q53)=vlQ A s L i:=by unfold jvQ vlQ;rw [cn_q,h53,hj,ZiQ hx41]
       refine⟨i+1,⟨by omega,fun j k hj hk=>by
        by_cases e:j=i
        ·subst e;obtain rfl:=Option.some.inj (hx41.symm.trans hk);omega
        ·exact g2 j k (by omega) hk⟩,by simp only;omega,?_⟩
       constructor<;>(repeat' (first|exact rfl|exact True.intro|apply And.intro))
       all_goals first
        |(rw [ZgP,← e1];rfl)
        |exact congrArg (fun n:Int=>D.v (.int .i64 n)) (by rw [wrap64 _ (by omega) (by omega)];omega)
        |exact congrArg (fun n:Int=>D.v (.int .i64 n)) (by omega)
    ·have f39:¬ ((i:Int)< ((List.map intD L).length:Int)):=of_decide_eq_false e4
     refine Eq.trans (b:= .tup [.one (.d (.list (List.map rdc (vlF A s L i)))),.one (.d (.v (.int .i64 (0))))]) ?_ rfl
     obtain rfl:i=L.length:=by omega
     have hv:rvE A s L=0:=(Zel hrc).trans (ZfS (by omega) (Zl2 g2))
     rw [ZdO hv,hv,← hlen]
     all_goals rfl
theorem Zfr {A:ArmV} {s:Int} (L:List Int) {vv:List (List D)} (hv:vv=List.map intD L) (hA:A.ok) (hL:L.length≤1048576) (k:∀ n,n=rvE A s L→K (.tup [.one (.d (.list (List.map rdc (rvV A s L)))),.one (.d (.v (.int .i64 (n))))])):Ask 48 [.val (.agg [.d (.v (.string A.name)),.d (.v (.bool A.bx.s)),.d (.v (.string A.bx.a)),.d (.v (.string A.bx.d)),.d (.v (.bool A.by'.s)),.d (.v (.string A.by'.a)),.d (.v (.string A.by'.d)),.d (.v (.bool (A.bh))),.d (.v (.bool A.bt.s)),.d (.v (.string A.bt.a)),.d (.v (.string A.bt.d)),.d (.list (List.map lk A.links))]),int s,.val (.one (.d (.list vv)))] K:=by
 subst hv;exact use (Zi7 A s L hA hL) rfl (k _ rfl)
set_option maxHeartbeats 4000000 in
theorem ZhV (A:ArmV) (s:Int) (Q:List RV) (hA:A.ok) (hQ:∀ x,x∈Q→x.z≤1048576):Spec Tryz.prog Tab 50 [.val (.agg [.d (.v (.string A.name)),.d (.v (.bool A.bx.s)),.d (.v (.string A.bx.a)),.d (.v (.string A.bx.d)),.d (.v (.bool A.by'.s)),.d (.v (.string A.by'.a)),.d (.v (.string A.by'.d)),.d (.v (.bool (A.bh))),.d (.v (.bool A.bt.s)),.d (.v (.string A.bt.a)),.d (.v (.string A.bt.d)),.d (.list (List.map lk A.links))]),int s,.val (.one (.d (.list (List.map rd Q))))] (.tup [.one (.d (.list (List.map intD (rnV A s Q)))),.one (.d (.v (.int .i64 (rnE A s Q))))]):=by
 have hA2:=hA
 have z6:=hA.2.2.2.2.2
 have hLk:(List.map lk A.links).length=A.links.length:=List.length_map ..
 have hLq:(List.map rd Q).length=Q.length:=List.length_map ..
 have hQ6:∀ x,x∈Q→x.z≤67108864:=fun x hx=>Nat.le_trans (hQ x hx) (by decide)
 refine Zb Tryz.func50 rfl rfl Tryz.ntmps50 rfl (by kernel_rfl) rfl rfl ?_
 refine ZnL (A:=A) (s:=s) (by assumption) fun n21 hk_21_1=> ?_
 refine⟨fun e1=> ?_,fun e1=> ?_⟩
 ·have f23:n21≠0:=Zy e1
  refine Eq.trans (b:= .tup [.one (.d (.list ([]))),.one (.d (.v (.int .i64 (n21))))]) ?_ rfl
  have hc:¬ rcE A s=0:=by rw [← hk_21_1];exact f23
  have hv:=Zk2 (Q:=Q) rfl hc
  rw [Zc2 (by rw [hv];exact hc),hv,← hk_21_1]
  all_goals rfl
 ·have f23:¬ (n21≠0):=fun hh=>hh (Zz e1)
  have hrc:rcE A s=0:=by rw [← hk_21_1];exact Classical.not_not.1 f23
  have hok:=Zl6 hrc
  have hA0:=hok.1
  have hs1:=hok.2.1
  have hs2:=hok.2.2
  have hn3:=(ZaI hA0).1
  have hs0:=castne1 hs1
  have hLj:(jnV A).length=A.links.length:=by rw [ZcE hA0]
  refine ZjX (A:=A) (Q:=Q) (by assumption) hQ6 fun n27 hk_27_1=> ?_
  refine⟨fun e2=> ?_,fun e2=> ?_⟩
  ·have f29:n27≠0:=Zy e2
   refine Eq.trans (b:= .tup [.one (.d (.list ([]))),.one (.d (.v (.int .i64 (n27))))]) ?_ rfl
   have hv:rnE A s Q=fitsE A Q:=Zf4 hrc
   rw [Zc2 (by rw [hv,← hk_27_1];exact f29),hv,← hk_27_1]
   all_goals rfl
  ·have f29:¬ (n27≠0):=fun hh=>hh (Zz e2)
   have hf:fitsE A Q=0:=by rw [← hk_27_1];exact Classical.not_not.1 f29
   have hfl:=(Zca hf).1
   refine Zmf 1 2 (by omega) (by omega) (by omega) (by omega) (by decide+kernel) fun q32 h32 z32=> ?_
   simp only [cn_z] at z32
   refine⟨Nat,fun i=> [(1,int s),(2,.val (.one (.d (.list (List.map rd Q))))),(10,.val (.one (.row 73 0))),(11,.val (.one (.ptr 11 0))),(36,.val (.one (.d (.list (List.map lk A.links))))),(37,int ((List.map lk A.links).length:Int)),(38,int (i:Int))],
    fun i=> [(11,.var 23 [.d (.v (.bool (cn q32).s)),.d (.v (.string (cn q32).a)),.d (.v (.string (cn q32).d))]),(73,.row 3 1 0 (List.map intD (nrF A s Q i)) true)],fun i=>i≤A.links.length,fun i=>A.links.length - i,0,?_,Nat.zero_le _,fun i hs=> ?_⟩
   ·constructor<;>(repeat' (first|exact rfl|exact True.intro|exact⟨_,_,rfl⟩|exact(by decide)|apply And.intro))
    all_goals first|exact congrArg (fun n:Int=>D.v (.int .i64 n)) (by omega)|exact congrArg (fun n:Int=>D.v (.int .i64 n)) (by rw [wrap64 _ (by omega) (by omega)];omega)|(simp;done)
   have hT:(List.map intD (nrF A s Q i)).length≤3:=by rw [List.length_map,Zew];omega
   refine⟨fun e3=> ?_,fun e3=> ?_⟩
   ·have f39:(i:Int)< ((List.map lk A.links).length:Int):=of_decide_eq_true e3
    refine ZP (l:=A.links) (i:=i) (by first|omega|exact Nat.mod_lt _ (by omega)) fun x41 hx41=> ?_
    have hzx41:=z6 x41 (List.mem_of_getElem? hx41)
    have hsx41:=ZR hA0 (List.mem_of_getElem? hx41)
    have hax41:=ZaF hx41
    refine k_ix i [D.v (.bool x41.len.s),D.v (.string x41.len.a),D.v (.string x41.len.d),D.v (.bool x41.low.s),D.v (.string x41.low.a),D.v (.string x41.low.d),D.v (.bool x41.high.s),D.v (.string x41.high.a),D.v (.string x41.high.d),D.v (.bool x41.speed.s),D.v (.string x41.speed.a),D.v (.string x41.speed.d),D.v (.bool x41.brake.s),D.v (.string x41.brake.a),D.v (.string x41.brake.d),D.list (List.map rdv x41.shape)] (by first|rfl|omega|(rw [wrap64 _ (by omega) (by omega)];omega)|(rw [wrap64 _ (by omega) (by omega)];split<;>omega)) (Zl hx41) rfl ?_
    refine ZP (l:=Q) (i:=i) (by first|omega|exact Nat.mod_lt _ (by omega)) fun x46 hx46=> ?_
    have hzx46:=hQ x46 (List.mem_of_getElem? hx46)
    have hxx46q:x46.q=qAt Q i:=(Ze7 hx46).symm
    refine k_ix i [D.v (.bool x46.s),D.v (.string x46.a),D.v (.string x46.d)] (by first|rfl|omega|(rw [wrap64 _ (by omega) (by omega)];omega)|(rw [wrap64 _ (by omega) (by omega)];split<;>omega)) (Zl hx46) rfl ?_
    refine Zgn (x:=x46) (y:=x41.low) (by omega) (by omega) fun q50 h50 z50=> ?_
    simp only [cn_z] at z50
    refine Zgn (x:=x41.high) (y:=x41.low) (by omega) (by omega) fun q55 h55 z55=> ?_
    simp only [cn_z] at z55
    refine Zoo (x:=cn q50) (y:=cn q55) (by simp only [cn_z];omega) (by simp only [cn_z];omega) (by rw [cn_q,h55];have:=hsx41.2.2.2.2.2.2.1;grind) fun q56 h56 z56=> ?_
    simp only [cn_z] at z56
    simp only [cn_q] at h56
    refine⟨by kernel_rfl,?_⟩
    refine k_of (s) (by omega) (by omega) fun q63 h63 z63=> ?_
    simp only [cn_z] at z63
    refine Zly (x:=cn q56) (y:=cn q63) (by simp only [cn_z];omega) (by simp only [cn_z];omega) fun q64 h64 z64=> ?_
    simp only [cn_z] at z64
    simp only [cn_q] at h64
    refine Zgn (x:=cn q32) (y:=cn q64) (by simp only [cn_z];omega) (by simp only [cn_z];omega) fun q65 h65 z65=> ?_
    simp only [cn_z] at z65
    simp only [cn_q] at h65
    refine ZmQ (x:=cn q65) (by simp only [cn_z];omega) fun v66 fe66 hv66 he66=> ?_
    simp only [cn_q] at hv66 he66
    refine⟨by kernel_rfl,?_⟩
    refine⟨⟨row1 rfl,(by show ((List.map intD (nrF A s Q i)).length+1)*8≤_;omega),(by show ((List.map intD (nrF A s Q i)).length+1)≤_;omega)⟩,?_⟩
    have eq65:q65=hfQ - nrT A s Q i:=by rw [h65,h64,h63,h56,h55,h50,h32,hxx46q,← hax41];rfl
    have hna:=Zjx hf hx41 hx46 hs1 (n:=(s+1).toNat) (by omega)
    have hn1:=hna.1
    have hn2:=hna.2.1
    have en:IntKind.i64.wrap (0 - v66)=nrQ A s Q i:=by
     unfold nrQ at hn1 hn2 ⊢
     have hfl2:flE q65=0:=Zho.2 (by rw [eq65];omega)
     rw [hv66,ZnX hfl2,eq65,wrap64 _ (by omega) (by omega)];omega
    refine⟨i+1,by omega,by simp only;omega,?_⟩
    constructor<;>(repeat' (first|exact rfl|exact True.intro|apply And.intro))
    all_goals first
     |(rw [Zg8,← en];rfl)
     |exact congrArg (fun n:Int=>D.v (.int .i64 n)) (by rw [wrap64 _ (by omega) (by omega)];omega)
     |exact congrArg (fun n:Int=>D.v (.int .i64 n)) (by omega)
   ·have f39:¬ ((i:Int)< ((List.map lk A.links).length:Int)):=of_decide_eq_false e3
    refine Eq.trans (b:= .tup [.one (.d (.list (List.map intD (nrF A s Q i)))),.one (.d (.v (.int .i64 (0))))]) ?_ rfl
    obtain rfl:i=A.links.length:=by omega
    have hv:rnE A s Q=0:=(Zf4 hrc).trans hf
    rw [Ze5 hv,hv]
    all_goals rfl
theorem Zez {A:ArmV} {s:Int} {Q:List RV} (hA:A.ok) (hQ:∀ x,x∈Q→x.z≤1048576) (k:∀ n,n=rnE A s Q→K (.tup [.one (.d (.list (List.map intD (rnV A s Q)))),.one (.d (.v (.int .i64 (n))))])):Ask 50 [.val (.agg [.d (.v (.string A.name)),.d (.v (.bool A.bx.s)),.d (.v (.string A.bx.a)),.d (.v (.string A.bx.d)),.d (.v (.bool A.by'.s)),.d (.v (.string A.by'.a)),.d (.v (.string A.by'.d)),.d (.v (.bool (A.bh))),.d (.v (.bool A.bt.s)),.d (.v (.string A.bt.a)),.d (.v (.string A.bt.d)),.d (.list (List.map lk A.links))]),int s,.val (.one (.d (.list (List.map rd Q))))] K:=use (ZhV A s Q hA hQ) rfl (k _ rfl)
end
end Go.Proofs.YtpfemjpgbpnpkaaGreatDoor.eng
