/- Joined by wip/bundle.py: XPlcA XMotA. -/
import Derived.Test.YtgmkgfdjolchdaaGreatDoorQGrp1
namespace Go.Proofs.YtgmkgfdjolchdaaGreatDoor.eng
open Go.RowKit num mem seg q held ratA ratB ratC ratD ratE vars ratF trq
section
variable {K : AV → Prop}
theorem ZqE {f:RF} {l:List (RV×RV)} {m:List (Rat×Rat)} (hu:f.u) (hm:plcQ f l=m) (hx:qs f.x≤268435456) (hy:qs f.y≤268435456) (hz:qs (tofQ f.c f.s)≤268435456) (hl:∀ p,p∈l→p.1.z≤268435456∧p.2.z≤268435456) (hn:l.length≤1073741824) (k:K (.val (.one (.d (.list (List.map rdv (cvl m))))))):Ask 40 [frame (cn f.x) (cn f.y) (tofH f.c) (cn (tofQ f.c f.s)),.val (.one (.d (.list (List.map rdv l))))] K:=
 Zs8 l rfl hx hy hz hl hn (by rw [Zqq hu,hm];exact k)
set_option maxHeartbeats 4000000 in
set_option maxRecDepth 100000 in
theorem ZlZ (A:ArmV) (Q:List RV) (hA:A.ok) (hQ:∀ x,x∈Q→x.z≤1048576):Spec Tryz.prog Tab 12 [arm A,.val (.one (.d (.list (List.map rd Q))))] (.tup [.one (.d (.list (List.map rdvs (plcV A Q)))),.one (.d (.v (.int .i64 (hasE A (Q.length:Int)))))]):=by
 have hA2:=hA
 obtain⟨z1,z2,z3,z4,z5,z6⟩:=hA
 have hL:(List.map lk A.links).length=A.links.length:=List.length_map ..
 have hLq:(List.map rd Q).length=Q.length:=List.length_map ..
 have hQ1:∀ x,x∈Q→x.z≤2097151:=fun x hx=>Nat.le_trans (hQ x hx) ωd
 refine Za Tryz.func12 rfl rfl Tryz.ntmps12 rfl ωr rfl rfl ?_
 refine Zkk (A:=A) (Q:=Q) ωs ωs fun n14 hk_14_1=> ?_
 refine⟨fun e1=> ?_,fun e1=> ?_⟩
 ·have f18:n14≠0:=ZaD e1
  refine Eq.trans (b:= .tup [.one (.d (.list ([]))),.one (.d (.v (.int .i64 (n14))))]) ?_ rfl
  rw [ZsL (by rw [← hk_14_1];exact f18),← hk_14_1]
  all_goals rfl
 ·have f18:¬ (n14≠0):=fun hh=>hh (ZaE e1)
  have h0:hasE A (Q.length:Int)=0:=by rw [← hk_14_1];exact Classical.not_not.1 f18
  obtain⟨hA0,hlen0⟩:=Zaa.1 h0
  have hlen:Q.length=A.links.length:=ω
  obtain⟨hn3,hnz,_⟩:=ZaF hA0
  refine⟨Nat,fun i=> [(6,.val (.one (.d (.list (List.map rdF (framesV A Q)))))),(8,.val (.one (.row 37 0))),(21,.val (.one (.d (.list (List.map lk A.links))))),(22,int ((List.map lk A.links).length:Int)),(23,int (i:Int))],
   fun i=> [(37,.row 58 1 0 (List.map rdvs ((plcL A Q i).map cvl)) true)],fun i=>i≤A.links.length,fun i=>A.links.length - i,0,?_,Nat.zero_le _,fun i hs=> ?_⟩
  ·exact ωe
  have hT:(List.map rdvs ((plcL A Q i).map cvl)).length≤3:=by rw [List.length_map,List.length_map,ZfS];omega
  refine⟨fun e2=> ?_,fun e2=> ?_⟩
  ·have f24:(i:Int)< ((List.map lk A.links).length:Int):=of_decide_eq_true e2
   refine get_ex (l:=A.links) (i:=i) ωm fun x26 hx26=> ?_
   obtain⟨hs1,hs2,hs3,hs4,hs5,hs6,hs7⟩:=z6 x26 (List.mem_of_getElem? hx26)
   have hshx26:=ZjC hx26
   obtain⟨hpo1,hpo2⟩:=Zry hA0 hQ hx26
   have hssx26:=(ZR hA0 (List.mem_of_getElem? hx26)).2.2.2.2.2.2.2.2.2.2
   refine k_ix i [D.v (.bool x26.len.s),D.v (.string x26.len.a),D.v (.string x26.len.d),D.v (.bool x26.low.s),D.v (.string x26.low.a),D.v (.string x26.low.d),D.v (.bool x26.high.s),D.v (.string x26.high.a),D.v (.string x26.high.d),D.v (.bool x26.speed.s),D.v (.string x26.speed.a),D.v (.string x26.speed.d),D.v (.bool x26.brake.s),D.v (.string x26.brake.a),D.v (.string x26.brake.d),D.list (List.map rdv x26.shape)] ωh (Ze hx26) rfl ?_
   refine get_ex (l:=(framesV A Q)) (i:=i) (by rw [Zbf h0,Zei];omega) fun x31 hx31=> ?_
   have hex31:x31=linkF A Q i:=ZlG ω (by rw [← Zbf h0];exact hx31)
   have hux31:RF.u x31:=by rw [hex31];exact ZiJ A Q i
   obtain⟨⟨w1,w2⟩,w3,w4⟩:=ZnQ hA0 hQ (i:=i) ω
   rw [← hex31] at w1 w2 w3 w4
   have w5:=Zsh (f:=x31) ω ω
   refine k_ix i [D.v (.bool (cn x31.x).s),D.v (.string (cn x31.x).a),D.v (.string (cn x31.x).d),D.v (.bool (cn x31.y).s),D.v (.string (cn x31.y).a),D.v (.string (cn x31.y).d),D.v (.bool (tofH x31.c)),D.v (.bool (cn (tofQ x31.c x31.s)).s),D.v (.string (cn (tofQ x31.c x31.s)).a),D.v (.string (cn (tofQ x31.c x31.s)).d)] ωh (Ze hx31) rfl ?_
   refine ZqE (f:=x31) (l:=x26.shape) (m:=plcQ (linkF A Q i) (shpAt A i)) hux31 (by rw [hex31,hshx26]) ω ω ω (fun p hp=>by have:=ZD (hssx26 p hp).1;have:=ZD (hssx26 p hp).2;omega) ω ?_
   refine⟨⟨row1 rfl,(by show ((List.map rdvs ((plcL A Q i).map cvl)).length+1)*24≤_;omega),(by show ((List.map rdvs ((plcL A Q i).map cvl)).length+1)≤_;omega)⟩,?_⟩
   refine⟨ωr,?_⟩
   refine⟨i+1,ω,by simp only;omega,?_⟩
   constructor<;>(repeat' (first|exact rfl|exact True.intro|apply And.intro))
   all_goals first
    |(rw [Znn];rfl)
    |exact ωb
    |exact ωa
  ·have f24:¬ ((i:Int)< ((List.map lk A.links).length:Int)):=of_decide_eq_false e2
   refine Eq.trans (b:= .tup [.one (.d (.list (List.map rdvs ((plcL A Q i).map cvl)))),.one (.d (.v (.int .i64 (0))))]) ?_ rfl
   obtain rfl:i=A.links.length:=ω
   rw [ZfR h0,h0]
   all_goals rfl
end
section
variable {K : AV → Prop}
end
