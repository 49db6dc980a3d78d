/- Joined by wip/bundle.py: XPlcA XPlcR XMotA XMotR. -/
import Derived.Test.YtpfemjpgbpnpkaaGreatDoorGrp1
import Derived.Test.YtpfemjpgbpnpkaaGreatDoorGrpX
import Derived.Test.YtpfemjpgbpnpkaaGreatDoorGrpZ
import Derived.Test.YtpfemjpgbpnpkaaGreatDoorGrpV
set_option maxRecDepth 100000
namespace Go.Proofs.YtpfemjpgbpnpkaaGreatDoor.eng
open Go.RowKit num mem seg q held ratA ratB ratC ratD ratE vars ratF trq
section
variable {K : AV → Prop}
theorem Zsf {f:RF} {l:List (RV×RV)} {m:List (Rat×Rat)} (hu:f.u) (hm:plcQ f l=m) (hx:qs f.x≤268435456) (hy:qs f.y≤268435456) (hz:qs (tofQ f.c f.s)≤268435456) (hl:∀ p,p∈l→p.1.z≤268435456∧p.2.z≤268435456) (hn:l.length≤1073741824) (k:K (.val (.one (.d (.list (List.map rdv (cvl m))))))):Ask 171 [frame (cn f.x) (cn f.y) (tofH f.c) (cn (tofQ f.c f.s)),.val (.one (.d (.list (List.map rdv l))))] K:=
 ZuZ l rfl hx hy hz hl hn (by rw [ZrX hu,hm];exact k)
set_option maxHeartbeats 4000000 in
theorem Zm1 (A:ArmV) (Q:List RV) (hA:A.ok) (hQ:∀ x,x∈Q→x.z≤1048576):Spec Tryz.prog Tab 80 [.val (.agg [.d (.v (.string A.name)),.d (.v (.bool A.bx.s)),.d (.v (.string A.bx.a)),.d (.v (.string A.bx.d)),.d (.v (.bool A.by'.s)),.d (.v (.string A.by'.a)),.d (.v (.string A.by'.d)),.d (.v (.bool (A.bh))),.d (.v (.bool A.bt.s)),.d (.v (.string A.bt.a)),.d (.v (.string A.bt.d)),.d (.list (List.map lk A.links))]),.val (.one (.d (.list (List.map rd Q))))] (.tup [.one (.d (.list (List.map rdvs (plcV A Q)))),.one (.d (.v (.int .i64 (hasE A (Q.length:Int)))))]):=by
 have hA2:=hA
 obtain⟨z1,z2,z3,z4,z5,z6⟩:=hA
 have hL:(List.map lk A.links).length=A.links.length:=List.length_map ..
 have hLq:(List.map rd Q).length=Q.length:=List.length_map ..
 have hQ1:∀ x,x∈Q→x.z≤2097151:=fun x hx=>Nat.le_trans (hQ x hx) (by decide)
 refine Za Tryz.func80 rfl rfl Tryz.ntmps80 rfl (by kernel_rfl) rfl rfl ?_
 refine Zla (A:=A) (Q:=Q) (by assumption) (by assumption) fun n14 hk_14_1=> ?_
 refine⟨fun e1=> ?_,fun e1=> ?_⟩
 ·have f18:n14≠0:=Zv e1
  refine Eq.trans (b:= .tup [.one (.d (.list ([]))),.one (.d (.v (.int .i64 (n14))))]) ?_ rfl
  rw [Zok (by rw [← hk_14_1];exact f18),← hk_14_1]
  all_goals rfl
 ·have f18:¬ (n14≠0):=fun hh=>hh (Zw e1)
  have h0:hasE A (Q.length:Int)=0:=by rw [← hk_14_1];exact Classical.not_not.1 f18
  obtain⟨hA0,hlen0⟩:=ZI.1 h0
  have hlen:Q.length=A.links.length:=by omega
  obtain⟨hn3,hnz,_⟩:=ZE hA0
  refine⟨Nat,fun i=> [(6,.val (.one (.d (.list (List.map rdF (framesV A Q)))))),(8,.val (.one (.row 37 0))),(21,.val (.one (.d (.list (List.map lk A.links))))),(22,int ((List.map lk A.links).length:Int)),(23,int (i:Int))],
   fun i=> [(37,.row 53 1 0 (List.map rdvs ((plcL A Q i).map cvl)) true)],fun i=>i≤A.links.length,fun i=>A.links.length - i,0,?_,Nat.zero_le _,fun i hs=> ?_⟩
  ·constructor<;>(repeat' (first|exact rfl|exact True.intro|exact⟨_,_,rfl⟩|exact(by decide)|apply And.intro))
   all_goals first|exact congrArg (fun n:Int=>D.v (.int .i64 n)) (by omega)|exact congrArg (fun n:Int=>D.v (.int .i64 n)) (by rw [wrap64 _ (by omega) (by omega)];omega)|(simp;done)
  have hT:(List.map rdvs ((plcL A Q i).map cvl)).length≤3:=by rw [List.length_map,List.length_map,Zbi];omega
  refine⟨fun e2=> ?_,fun e2=> ?_⟩
  ·have f24:(i:Int)< ((List.map lk A.links).length:Int):=of_decide_eq_true e2
   refine Zc (l:=A.links) (i:=i) (by first|omega|exact Nat.mod_lt _ (by omega)) fun x26 hx26=> ?_
   obtain⟨hs1,hs2,hs3,hs4,hs5,hs6,hs7⟩:=z6 x26 (List.mem_of_getElem? hx26)
   have hshx26:=Zev hx26
   obtain⟨hpo1,hpo2⟩:=ZkR hA0 hQ hx26
   have hssx26:=(Zcs hA0 (List.mem_of_getElem? hx26)).2.2.2.2.2.2.2.2.2.2
   refine k_ix i [D.v (.bool x26.len.s),D.v (.string x26.len.a),D.v (.string x26.len.d),D.v (.bool x26.low.s),D.v (.string x26.low.a),D.v (.string x26.low.d),D.v (.bool x26.high.s),D.v (.string x26.high.a),D.v (.string x26.high.d),D.v (.bool x26.speed.s),D.v (.string x26.speed.a),D.v (.string x26.speed.d),D.v (.bool x26.brake.s),D.v (.string x26.brake.a),D.v (.string x26.brake.d),D.list (List.map rdv x26.shape)] (by first|rfl|omega|(rw [wrap64 _ (by omega) (by omega)];omega)) (Zb hx26) rfl ?_
   refine Zc (l:=(framesV A Q)) (i:=i) (by rw [ZaZ h0,ZbT];omega) fun x31 hx31=> ?_
   have hex31:x31=linkF A Q i:=Zmx (by omega) (by rw [← ZaZ h0];exact hx31)
   have hux31:RF.u x31:=by rw [hex31];exact ZjG A Q i
   obtain⟨⟨w1,w2⟩,w3,w4⟩:=ZjF hA0 hQ (i:=i) (by omega)
   rw [← hex31] at w1 w2 w3 w4
   have w5:=ZqV (f:=x31) (by omega) (by omega)
   refine k_ix i [D.v (.bool (cn x31.x).s),D.v (.string (cn x31.x).a),D.v (.string (cn x31.x).d),D.v (.bool (cn x31.y).s),D.v (.string (cn x31.y).a),D.v (.string (cn x31.y).d),D.v (.bool (tofH x31.c)),D.v (.bool (cn (tofQ x31.c x31.s)).s),D.v (.string (cn (tofQ x31.c x31.s)).a),D.v (.string (cn (tofQ x31.c x31.s)).d)] (by first|rfl|omega|(rw [wrap64 _ (by omega) (by omega)];omega)) (Zb hx31) rfl ?_
   refine Zsf (f:=x31) (l:=x26.shape) (m:=plcQ (linkF A Q i) (shpAt A i)) hux31 (by rw [hex31,hshx26]) (by omega) (by omega) (by omega) (fun p hp=>by have:=Zas (hssx26 p hp).1;have:=Zas (hssx26 p hp).2;omega) (by omega) ?_
   refine⟨⟨row1 rfl,(by show ((List.map rdvs ((plcL A Q i).map cvl)).length+1)*24≤_;omega),(by show ((List.map rdvs ((plcL A Q i).map cvl)).length+1)≤_;omega)⟩,?_⟩
   refine⟨by kernel_rfl,?_⟩
   refine⟨i+1,by omega,by simp only;omega,?_⟩
   constructor<;>(repeat' (first|exact rfl|exact True.intro|apply And.intro))
   all_goals first
    |(rw [Zol];rfl)
    |exact congrArg (fun n:Int=>D.v (.int .i64 n)) (by rw [wrap64 _ (by omega) (by omega)];omega)
    |exact congrArg (fun n:Int=>D.v (.int .i64 n)) (by omega)
  ·have f24:¬ ((i:Int)< ((List.map lk A.links).length:Int)):=of_decide_eq_false e2
   refine Eq.trans (b:= .tup [.one (.d (.list (List.map rdvs ((plcL A Q i).map cvl)))),.one (.d (.v (.int .i64 (0))))]) ?_ rfl
   obtain rfl:i=A.links.length:=by omega
   rw [ZdW h0,h0]
   all_goals rfl
theorem Zpq {A:ArmV} {Q:List RV} (hA:A.ok) (hQ:∀ x,x∈Q→x.z≤1048576) (k:∀ n,n=hasE A (Q.length:Int)→K (.tup [.one (.d (.list (List.map rdvs (plcV A Q)))),.one (.d (.v (.int .i64 n)))])):Ask 80 [.val (.agg [.d (.v (.string A.name)),.d (.v (.bool A.bx.s)),.d (.v (.string A.bx.a)),.d (.v (.string A.bx.d)),.d (.v (.bool A.by'.s)),.d (.v (.string A.by'.a)),.d (.v (.string A.by'.d)),.d (.v (.bool (A.bh))),.d (.v (.bool A.bt.s)),.d (.v (.string A.bt.a)),.d (.v (.string A.bt.d)),.d (.list (List.map lk A.links))]),.val (.one (.d (.list (List.map rd Q))))] K:=use (Zm1 A Q hA hQ) rfl (k _ rfl)
end
end Go.Proofs.YtpfemjpgbpnpkaaGreatDoor.eng
namespace Go.Proofs.YtpfemjpgbpnpkaaGreatDoor.eng
open Go.RowKit num mem seg q held ratA ratB ratC ratD ratE vars ratF trq
section
variable {K : AV → Prop}
set_option maxHeartbeats 4000000 in
theorem ZiU (A:ArmV) (Q:List RV) (hA:A.ok) (hA0:armE A=0) (hlen:Q.length=A.links.length) (hQ:∀ x,x∈Q→x.z≤1048576):Spec Tryz.prog Tab 81 [.val (.agg [.d (.v (.string A.name)),.d (.v (.bool A.bx.s)),.d (.v (.string A.bx.a)),.d (.v (.string A.bx.d)),.d (.v (.bool A.by'.s)),.d (.v (.string A.by'.a)),.d (.v (.string A.by'.d)),.d (.v (.bool (A.bh))),.d (.v (.bool A.bt.s)),.d (.v (.string A.bt.a)),.d (.v (.string A.bt.d)),.d (.list (List.map lk A.links))]),.val (.one (.d (.list (List.map rd Q))))] (.val (.one (.d (.list (List.map rqps (plcL A Q A.links.length)))))):=by
 have hA2:=hA
 obtain⟨z1,z2,z3,z4,z5,z6⟩:=hA
 have hL:(List.map lk A.links).length=A.links.length:=List.length_map ..
 have hLq:(List.map rd Q).length=Q.length:=List.length_map ..
 have hQ1:∀ x,x∈Q→x.z≤2097151:=fun x hx=>Nat.le_trans (hQ x hx) (by decide)
 obtain⟨hn3,hnz,_⟩:=ZE hA0
 have hLf:(List.map rqF (framesF A Q)).length=A.links.length+1:=by rw [List.length_map,ZbT]
 have hLk:(List.map rqF (linksF A Q A.links.length)).length=A.links.length:=by rw [List.length_map,ZO]
 have hLj:=ZO A Q A.links.length
 refine Za Tryz.func81 rfl rfl Tryz.ntmps81 rfl (by kernel_rfl) rfl rfl ?_
 refine Zit (A:=A) (Q:=Q) (by assumption) hA0 hlen (by assumption) ?_
 refine Zo6 A.links.length (List.map rqF (linksF A Q A.links.length)) (by first|omega|(simp;omega)|simp) (by first|rfl|omega|(rw [wrap64 _ (by omega) (by omega)];omega)) (Zbk fun _=>rfl) (by rw [← List.map_take,Zch]) ?_
 refine⟨by kernel_rfl,?_⟩
 refine⟨Nat,fun i=> [(2,.val (.one (.ptr 2 0))),(5,.val (.one (.row 46 0))),(17,.val (.one (.d (.list (List.map rqF (linksF A Q A.links.length)))))),(18,int ((List.map rqF (linksF A Q A.links.length)).length:Int)),(19,int (i:Int))],
  fun i=> [(2,.var 32 [.d (.v (.string A.name)),.d (.v (.bool A.bx.s)),.d (.v (.string A.bx.a)),.d (.v (.string A.bx.d)),.d (.v (.bool A.by'.s)),.d (.v (.string A.by'.a)),.d (.v (.string A.by'.d)),.d (.v (.bool (A.bh))),.d (.v (.bool A.bt.s)),.d (.v (.string A.bt.a)),.d (.v (.string A.bt.d)),.d (.list (List.map lk A.links))]),(46,.row 107 1 0 (List.map rqps (plcL A Q i)) true)],fun i=>i≤A.links.length,fun i=>A.links.length - i,0,?_,Nat.zero_le _,fun i hs=> ?_⟩
 ·constructor<;>(repeat' (first|exact rfl|exact True.intro|exact⟨_,_,rfl⟩|exact(by decide)|apply And.intro))
  all_goals first|exact congrArg (fun n:Int=>D.v (.int .i64 n)) (by omega)|exact congrArg (fun n:Int=>D.v (.int .i64 n)) (by rw [wrap64 _ (by omega) (by omega)];omega)|(simp;done)
 have hT:(List.map rqps (plcL A Q i)).length≤3:=by rw [List.length_map,Zbi];omega
 refine⟨fun e1=> ?_,fun e1=> ?_⟩
 ·have f20:(i:Int)< ((List.map rqF (linksF A Q A.links.length)).length:Int):=of_decide_eq_true e1
  refine Zc (l:=(linksF A Q A.links.length)) (i:=i) (by first|omega|exact Nat.mod_lt _ (by omega)) fun x22 hx22=> ?_
  have hex22:x22=linkF A Q i:=(Zdu hx22).1
  obtain⟨⟨w1,w2⟩,w3,w4⟩:=ZjF hA0 hQ (i:=i) (by omega)
  rw [← hex22] at w1 w2 w3 w4
  refine k_ix i [D.v (.bool (decide (x22.x.num< 0))),D.list (W (w32 x22.x.num.natAbs)),D.list (W (w32 x22.x.den)),D.v (.bool (decide (x22.y.num< 0))),D.list (W (w32 x22.y.num.natAbs)),D.list (W (w32 x22.y.den)),D.v (.bool (decide (x22.c.num< 0))),D.list (W (w32 x22.c.num.natAbs)),D.list (W (w32 x22.c.den)),D.v (.bool (decide (x22.s.num< 0))),D.list (W (w32 x22.s.num.natAbs)),D.list (W (w32 x22.s.den))] (by first|rfl|omega|(rw [wrap64 _ (by omega) (by omega)];omega)) (Zb hx22) rfl ?_
  refine Zc (l:=A.links) (i:=i) (by first|omega|exact Nat.mod_lt _ (by omega)) fun x27 hx27=> ?_
  have hli:=hx27
  have hshx27:=Zev hx27
  obtain⟨hpo1,hpo2⟩:=ZkR hA0 hQ hx27
  have hssx27:=(Zcs hA0 (List.mem_of_getElem? hx27)).2.2.2.2.2.2.2.2.2.2
  have hLs:(List.map rdv x27.shape).length=x27.shape.length:=List.length_map ..
  have hpl:(plcQ (linkF A Q i) (shpAt A i)).length=x27.shape.length:=by rw [Zg1,hshx27]
  refine k_ix i [D.v (.bool x27.len.s),D.v (.string x27.len.a),D.v (.string x27.len.d),D.v (.bool x27.low.s),D.v (.string x27.low.a),D.v (.string x27.low.d),D.v (.bool x27.high.s),D.v (.string x27.high.a),D.v (.string x27.high.d),D.v (.bool x27.speed.s),D.v (.string x27.speed.a),D.v (.string x27.speed.d),D.v (.bool x27.brake.s),D.v (.string x27.brake.a),D.v (.string x27.brake.d),D.list (List.map rdv x27.shape)] (by first|rfl|omega|(rw [wrap64 _ (by omega) (by omega)];omega)) (Zb hx27) rfl ?_
  refine⟨Nat,fun k=> [(2,.val (.one (.ptr 2 0))),(5,.val (.one (.row 46 0))),(7,.val (.one (.ptr 7 0))),(8,.val (.one (.row 41 0))),(17,.val (.one (.d (.list (List.map rqF (linksF A Q A.links.length)))))),(18,int ((List.map rqF (linksF A Q A.links.length)).length:Int)),(19,int (i:Int)),(29,.val (.one (.d (.list (List.map rdv x27.shape))))),(30,int ((List.map rdv x27.shape).length:Int)),(31,int (k:Int))],
   fun k=> [(2,.var 32 [.d (.v (.string A.name)),.d (.v (.bool A.bx.s)),.d (.v (.string A.bx.a)),.d (.v (.string A.bx.d)),.d (.v (.bool A.by'.s)),.d (.v (.string A.by'.a)),.d (.v (.string A.by'.d)),.d (.v (.bool (A.bh))),.d (.v (.bool A.bt.s)),.d (.v (.string A.bt.a)),.d (.v (.string A.bt.d)),.d (.list (List.map lk A.links))]),(7,.var 196 [.d (.v (.bool (decide (x22.x.num< 0)))),.d (.list (W (w32 x22.x.num.natAbs))),.d (.list (W (w32 x22.x.den))),.d (.v (.bool (decide (x22.y.num< 0)))),.d (.list (W (w32 x22.y.num.natAbs))),.d (.list (W (w32 x22.y.den))),.d (.v (.bool (decide (x22.c.num< 0)))),.d (.list (W (w32 x22.c.num.natAbs))),.d (.list (W (w32 x22.c.den))),.d (.v (.bool (decide (x22.s.num< 0)))),.d (.list (W (w32 x22.s.num.natAbs))),.d (.list (W (w32 x22.s.den)))]),(41,.row 104 6 0 (List.map rqP ((plcQ (linkF A Q i) (shpAt A i)).take k)) true),(46,.row 107 1 0 (List.map rqps (plcL A Q i)) true)],fun k=>k≤(plcQ (linkF A Q i) (shpAt A i)).length,fun k=>(plcQ (linkF A Q i) (shpAt A i)).length - k,0,?_,Nat.zero_le _,fun k hs=> ?_⟩
  ·constructor<;>(repeat' (first|exact rfl|exact True.intro|exact⟨_,_,rfl⟩|exact(by decide)|apply And.intro))
   all_goals first|exact congrArg (fun n:Int=>D.v (.int .i64 n)) (by omega)|exact congrArg (fun n:Int=>D.v (.int .i64 n)) (by rw [wrap64 _ (by omega) (by omega)];omega)|(simp;done)
  have hp8:(plcQ (linkF A Q i) (shpAt A i)).length≤8:=hpo1.1
  have hT2:(List.map rqP ((plcQ (linkF A Q i) (shpAt A i)).take k)).length≤8:=by rw [List.length_map,List.length_take];omega
  refine⟨fun e2=> ?_,fun e2=> ?_⟩
  ·have f32:(k:Int)< ((List.map rdv x27.shape).length:Int):=of_decide_eq_true e2
   refine Zc (l:=x27.shape) (i:=k) (by first|omega|exact Nat.mod_lt _ (by omega)) fun x33 hx33=> ?_
   have hv1x33:=Zas (hssx27 x33 (List.mem_of_getElem? hx33)).1
   have hv2x33:=Zas (hssx27 x33 (List.mem_of_getElem? hx33)).2
   have hvat:=hx33
   refine k_ix k [D.v (.bool x33.1.s),D.v (.string x33.1.a),D.v (.string x33.1.d),D.v (.bool x33.2.s),D.v (.string x33.2.a),D.v (.string x33.2.d)] (by first|rfl|omega|(rw [wrap64 _ (by omega) (by omega)];omega)) (Zb hx33) rfl ?_
   refine k_Pt (x:=x33.1) (y:=x33.2) (by omega) (by omega) (fun p38 q38 hk_38_2 hk_38_3 hk_38_4 hk_38_5=> ?_)
   refine ZtX (p:=x22.x) (q:=x22.y) (r:=x22.c) (u:=x22.s) (v:=p38) (y:=q38) (by omega) (by omega) (by omega) (by omega) (by omega) (by omega) (fun ya39 yb39 hk_39_2 hk_39_3 hk_39_4 hk_39_5=> ?_)
   refine⟨⟨row1 rfl,(by show ((List.map rqP ((plcQ (linkF A Q i) (shpAt A i)).take k)).length+1)*112≤_;omega),(by show ((List.map rqP ((plcQ (linkF A Q i) (shpAt A i)).take k)).length+1)≤_;omega)⟩,?_⟩
   refine⟨by kernel_rfl,?_⟩
   have hpk:(plcQ (linkF A Q i) (shpAt A i))[k]? =some (ya39,yb39):=by
    rw [hshx27];unfold plcQ
    rw [List.getElem?_map,hvat]
    show some (putQ (linkF A Q i) x33.1.q x33.2.q)=_
    rw [hk_39_2,hk_39_3,hk_38_2,hk_38_3,hex22];rfl
   refine⟨k+1,by omega,by simp only;omega,?_⟩
   constructor<;>(repeat' (first|exact rfl|exact True.intro|apply And.intro))
   all_goals first
    |(rw [Zk0 hpk];rfl)
    |exact congrArg (fun n:Int=>D.v (.int .i64 n)) (by rw [wrap64 _ (by omega) (by omega)];omega)
    |exact congrArg (fun n:Int=>D.v (.int .i64 n)) (by omega)
  ·have f32:¬ ((k:Int)< ((List.map rdv x27.shape).length:Int)):=of_decide_eq_false e2
   refine⟨⟨row1 rfl,(by show ((List.map rqps (plcL A Q i)).length+1)*24≤_;omega),(by show ((List.map rqps (plcL A Q i)).length+1)≤_;omega)⟩,?_⟩
   have htk:(plcQ (linkF A Q i) (shpAt A i)).take k=plcQ (linkF A Q i) (shpAt A i):=List.take_of_length_le (by omega)
   refine⟨i+1,by omega,by simp only;omega,?_⟩
   constructor<;>(repeat' (first|exact rfl|exact True.intro|apply And.intro))
   all_goals first
    |(rw [Ze6];exact congrArg (fun m=>List.map rqps (plcL A Q i)++ [[D.list (List.map rqP m)]]) htk.symm)
    |(rw [Ze6];exact congrArg (fun m=>List.map rqps (plcL A Q i)++ [[D.list (List.map rqP m)]]) htk)
    |exact congrArg (fun n:Int=>D.v (.int .i64 n)) (by rw [wrap64 _ (by omega) (by omega)];omega)
    |exact congrArg (fun n:Int=>D.v (.int .i64 n)) (by omega)
 ·have f20:¬ ((i:Int)< ((List.map rqF (linksF A Q A.links.length)).length:Int)):=of_decide_eq_false e1
  refine Eq.trans (b:= .val (.one (.d (.list (List.map rqps (plcL A Q i)))))) ?_ rfl
  obtain rfl:i=A.links.length:=by omega
  rfl
theorem Zpp {A:ArmV} {Q:List RV} (hA:A.ok) (hA0:armE A=0) (hlen:Q.length=A.links.length) (hQ:∀ x,x∈Q→x.z≤1048576) (k:K (.val (.one (.d (.list (List.map rqps (plcL A Q A.links.length))))))):Ask 81 [.val (.agg [.d (.v (.string A.name)),.d (.v (.bool A.bx.s)),.d (.v (.string A.bx.a)),.d (.v (.string A.bx.d)),.d (.v (.bool A.by'.s)),.d (.v (.string A.by'.a)),.d (.v (.string A.by'.d)),.d (.v (.bool (A.bh))),.d (.v (.bool A.bt.s)),.d (.v (.string A.bt.a)),.d (.v (.string A.bt.d)),.d (.list (List.map lk A.links))]),.val (.one (.d (.list (List.map rd Q))))] K:=use (ZiU A Q hA hA0 hlen hQ) rfl k
end
end Go.Proofs.YtpfemjpgbpnpkaaGreatDoor.eng
namespace Go.Proofs.YtpfemjpgbpnpkaaGreatDoor.eng
open Go.RowKit num mem seg q held ratA ratB ratC ratD ratE vars ratF trq
section
variable {K : AV → Prop}
end
end Go.Proofs.YtpfemjpgbpnpkaaGreatDoor.eng
namespace Go.Proofs.YtpfemjpgbpnpkaaGreatDoor.eng
open Go.RowKit num mem seg q held ratA ratB ratC ratD ratE vars ratF trq
section
variable {K : AV → Prop}
end
end Go.Proofs.YtpfemjpgbpnpkaaGreatDoor.eng
