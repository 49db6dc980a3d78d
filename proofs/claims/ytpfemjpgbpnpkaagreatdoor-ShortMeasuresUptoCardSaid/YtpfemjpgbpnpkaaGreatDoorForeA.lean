/- Contracts: frames of arms: gantref3, package fore. Printed by wip/gp_fore.py. -/
import Derived.Test.YtpfemjpgbpnpkaaGreatDoorFore0
import Derived.Test.YtpfemjpgbpnpkaaGreatDoorGrpZ
set_option maxRecDepth 100000
namespace Go.Proofs.YtpfemjpgbpnpkaaGreatDoor.eng
open Go.RowKit num mem seg q held ratA ratB ratC ratD ratE vars ratF trq
section
variable {K : AV → Prop}
theorem Zc {α:Type} {l:List α} {i:Nat} (h:i< l.length) {G:Prop} (k:∀ x,l[i]? =some x→G):G:=k _ (List.getElem?_eq_getElem h)
theorem Znv {f:RF} (hu:f.u) {z1 z2 t p q r:Rat} {b:Bool} (h1:z1=((0:Int):Rat)) (h2:z2=((0:Int):Rat)) (hp:p=f.x+vtX (tofH f.c) (tofQ f.c f.s) z1 z2) (hq:q=f.y+vtY (tofH f.c) (tofQ f.c f.s) z1 z2)
  (hb:b=thnH (tofH f.c) false (tofQ f.c f.s) t) (hr:r=thnQ (tofH f.c) false (tofQ f.c f.s) t):p=(turnF f t).x∧q=(turnF f t).y∧b=tofH (turnF f t).c∧r=tofQ (turnF f t).c (turnF f t).s:=by
 obtain⟨e1,e2⟩:=Zm9 hu z1 z2
 obtain⟨e3,e4⟩:=Znk hu t
 rw [e1] at hp;rw [e2] at hq;rw [e3] at hb;rw [e4] at hr
 subst h1 h2
 rw [Rat.intCast_zero] at hp hq
 exact⟨by rw [hp];show _=f.x;grind,by rw [hq];show _=f.y;grind,hb,hr⟩
theorem ZqY {f:RF} (hu:f.u) {l z2 t p q r:Rat} {b:Bool} (h2:z2=((0:Int):Rat)) (ht:t=((0:Int):Rat)) (hp:p=f.x+vtX (tofH f.c) (tofQ f.c f.s) l z2) (hq:q=f.y+vtY (tofH f.c) (tofQ f.c f.s) l z2)
  (hb:b=thnH (tofH f.c) false (tofQ f.c f.s) t) (hr:r=thnQ (tofH f.c) false (tofQ f.c f.s) t):p=(longF f l).x∧q=(longF f l).y∧b=tofH (longF f l).c∧r=tofQ (longF f l).c (longF f l).s:=by
 obtain⟨e1,e2⟩:=Zm9 hu l z2
 obtain⟨e3,e4⟩:=ZnI f.c f.s (t:=t) (by rw [ht,Rat.intCast_zero])
 rw [e1] at hp;rw [e2] at hq;rw [e3] at hb;rw [e4] at hr
 subst h2
 rw [Rat.intCast_zero] at hp hq
 exact⟨by rw [hp];show _=f.x+f.c*l;grind,by rw [hq];show _=f.y+f.s*l;grind,hb,hr⟩
theorem Zvz {A:ArmV} (Q:List RV) (h:armE A=0):A.bx=cn (endF A Q 0).x∧A.by'=cn (endF A Q 0).y∧A.bh=tofH (endF A Q 0).c∧A.bt=cn (tofQ (endF A Q 0).c (endF A Q 0).s):=by
 obtain⟨_,_,h1,h2,h3,h4,_⟩:=ZE h
 obtain⟨e1,e2⟩:=ZvS A.bh A.bt.q
 refine⟨RV.good_cn h1.1,RV.good_cn h2.1,e1.symm,?_⟩
 show A.bt=cn (tofQ (cosq A.bh A.bt.q) (sinq (tq A.bh A.bt.q)))
 rw [e2]
 cases hb:A.bh
 ·exact RV.good_cn h3.1
 ·rw [ZeQ,show ((0:Int):Rat)=A.bt.q from(h4 hb).symm];exact RV.good_cn h3.1
theorem Zn7 (t:Rat):(((1:Int):Rat) - t*t) / (((1:Int):Rat)+t*t)=cosq false t∧((2:Int):Rat)*t / (((1:Int):Rat)+t*t)=sinq t:=by
 refine⟨rfl,?_⟩
 unfold sinq
 rw [show ((2:Int):Rat)*t=t+t from by rw [show ((2:Int):Rat)=2 from rfl];grind]
theorem ZiZ (t:Rat) (ht:qs t≤134217728):Spec Tryz.prog Tab 228 [q3 t] (.tup [.agg [.d (.v (.bool (decide ((cosq false t).num< 0)))),.d (.list (W (w32 (cosq false t).num.natAbs))),.d (.list (W (w32 (cosq false t).den)))],.agg [.d (.v (.bool (decide ((sinq t).num< 0)))),.d (.list (W (w32 (sinq t).num.natAbs))),.d (.list (W (w32 (sinq t).den)))]]):=by
 refine Za Tryz.func228 rfl rfl Tryz.ntmps228 rfl (by kernel_rfl) rfl rfl ?_
 refine k_N3 (1) (by omega) (by omega) fun q5 h5 z5=> ?_
 refine Zay (p:=t) (q:=t) (by omega) (by omega) fun q8 h8 z8=> ?_
 refine Zcf (p:=q5) (q:=q8) (by omega) (by omega) fun q9 h9 z9=> ?_
 refine⟨by kernel_rfl,?_⟩
 refine k_N3 (1) (by omega) (by omega) fun q10 h10 z10=> ?_
 refine Zay (p:=t) (q:=t) (by omega) (by omega) fun q13 h13 z13=> ?_
 refine ZaJ (p:=q10) (q:=q13) (by omega) (by omega) fun q14 h14 z14=> ?_
 refine Zgo (p:=q14) (q:=q9) (by omega) (by omega) (by subst_vars;exact Zh8 _) fun q16 h16 z16=> ?_
 refine k_N3 (2) (by omega) (by omega) fun q17 h17 z17=> ?_
 refine Zay (p:=q17) (q:=t) (by omega) (by omega) fun q19 h19 z19=> ?_
 refine Zgo (p:=q19) (q:=q9) (by omega) (by omega) (by subst_vars;exact Zh8 _) fun q21 h21 z21=> ?_
 refine⟨by kernel_rfl,?_⟩
 refine Eq.trans (b:= .tup [.agg [.d (.v (.bool (decide (q16.num< 0)))),.d (.list (W (w32 q16.num.natAbs))),.d (.list (W (w32 q16.den)))],.agg [.d (.v (.bool (decide (q21.num< 0)))),.d (.list (W (w32 q21.num.natAbs))),.d (.list (W (w32 q21.den)))]]) ?_ rfl
 rw [show q16=cosq false t from by subst_vars;exact(Zn7 t).1,show q21=sinq t from by subst_vars;exact(Zn7 t).2]
theorem Zk4 {t:Rat} (ht:qs t≤134217728) (k:∀ p q,p=cosq false t→q=sinq t→qs p≤4*qs t+34→qs q≤4*qs t+34→K (two (q3 p) (q3 q))):Ask 228 [q3 t] K:=use (ZiZ t ht) rfl (k _ _ rfl rfl (Zl7 t).1 (Zl7 t).2)
theorem Zkk (x y:RV) (h:Bool) (z:RV) (hx:x.z≤67108864) (hy:y.z≤67108864) (hz:z.z≤67108864):Spec Tryz.prog Tab 227 [frame x y h z] (q3f x.q y.q (cosq h z.q) (sinq (tq h z.q))):=by
 refine Za Tryz.func227 rfl rfl Tryz.ntmps227 rfl (by kernel_rfl) rfl rfl ?_
 refine Zr (x:=z) (by omega) fun q9 h9 z9=> ?_
 refine Zk4 (t:=q9) (by omega) (fun p10 q10 hk_10_2 hk_10_3 hk_10_4 hk_10_5=> ?_)
 refine⟨fun e1=> ?_,fun e1=> ?_⟩
 ·have f15:h=true:=e1
  refine k_N3 (-1) (by omega) (by omega) fun q16 h16 z16=> ?_
  refine k_N3 (0) (by omega) (by omega) fun q17 h17 z17=> ?_
  refine Zr (x:=x) (by omega) fun q21 h21 z21=> ?_
  refine Zr (x:=y) (by omega) fun q25 h25 z25=> ?_
  refine⟨by kernel_rfl,?_⟩
  refine Eq.trans (b:=q3f q21 q25 q16 q17) ?_ rfl
  subst f15
  rw [show cosq true z.q=((-1:Int):Rat) from rfl,show sinq (tq true z.q)=((0:Int):Rat) from Zdf]
  subst_vars;rfl
 ·have f15:¬ (h=true):=fun hh=>ZbB hh e1
  refine Zr (x:=x) (by omega) fun q21 h21 z21=> ?_
  refine Zr (x:=y) (by omega) fun q25 h25 z25=> ?_
  refine⟨by kernel_rfl,?_⟩
  refine Eq.trans (b:=q3f q21 q25 p10 q10) ?_ rfl
  obtain rfl:h=false:=Bool.eq_false_iff.2 f15
  rw [Zbe]
  subst_vars;rfl
theorem Zsn {x y:RV} {h:Bool} {z:RV} (hx:x.z≤67108864) (hy:y.z≤67108864) (hz:z.z≤67108864) (k:K (q3f x.q y.q (cosq h z.q) (sinq (tq h z.q)))):Ask 227 [frame x y h z] K:=use (Zkk x y h z hx hy hz) rfl k
theorem ZqI  (p q r u v y:Rat) (hp:qs p≤268435456) (hq:qs q≤268435456) (hr:qs r≤268435456) (hu:qs u≤268435456) (hv:qs v≤268435456) (hy:qs y≤268435456):Spec Tryz.prog Tab 172 [q3f p q r u,q3p v y] (q3p (p+r*v - u*y) (q+u*v+r*y)):=by
 refine Za Tryz.func172 rfl rfl Tryz.ntmps172 rfl (by kernel_rfl) rfl rfl ?_
 refine Zay (p:=r) (q:=v) (by omega) (by omega) fun q11 h11 z11=> ?_
 refine Zcf (p:=p) (q:=q11) (by omega) (by omega) fun q12 h12 z12=> ?_
 refine Zay (p:=u) (q:=y) (by omega) (by omega) fun q17 h17 z17=> ?_
 refine ZaJ (p:=q12) (q:=q17) (by omega) (by omega) fun q18 h18 z18=> ?_
 refine Zay (p:=u) (q:=v) (by omega) (by omega) fun q25 h25 z25=> ?_
 refine Zcf (p:=q) (q:=q25) (by omega) (by omega) fun q26 h26 z26=> ?_
 refine Zay (p:=r) (q:=y) (by omega) (by omega) fun q31 h31 z31=> ?_
 refine Zcf (p:=q26) (q:=q31) (by omega) (by omega) fun q32 h32 z32=> ?_
 refine⟨by kernel_rfl,?_⟩
 refine Eq.trans (b:=q3p q18 q32) ?_ rfl
 subst_vars;rfl
section
variable  {p q r u v y : Rat}
theorem ZtX (hp:qs p≤268435456) (hq:qs q≤268435456) (hr:qs r≤268435456) (hu:qs u≤268435456) (hv:qs v≤268435456) (hy:qs y≤268435456) (k:∀ ya yb,ya=p+r*v - u*y→yb=q+u*v+r*y→qs ya≤qs p+qs r+qs v+qs u+qs y+4→qs yb≤qs q+qs u+qs v+qs r+qs y+4→K (q3p ya yb)):Ask 172 [q3f p q r u,q3p v y] K:=
 use (ZqI  p q r u v y hp hq hr hu hv hy) rfl (k _ _ rfl rfl (by have:=Zt r v;have:=ZC p (r*v);have:=Zt u y;have:=ZZ (p+(r*v)) (u*y);omega) (by have:=Zt u v;have:=ZC q (u*v);have:=Zt r y;have:=ZC (q+(u*v)) (r*y);omega))
end
set_option maxHeartbeats 2000000 in
theorem ZiV (A:ArmV) (Q:List RV) (hA:A.ok) (hA0:armE A=0) (hlen:Q.length=A.links.length) (hQ:∀ x,x∈Q→x.z≤2097151):Spec Tryz.prog Tab 159 [.val (.agg [.d (.v (.string A.name)),.d (.v (.bool A.bx.s)),.d (.v (.string A.bx.a)),.d (.v (.string A.bx.d)),.d (.v (.bool A.by'.s)),.d (.v (.string A.by'.a)),.d (.v (.string A.by'.d)),.d (.v (.bool (A.bh))),.d (.v (.bool A.bt.s)),.d (.v (.string A.bt.a)),.d (.v (.string A.bt.d)),.d (.list (List.map lk A.links))]),.val (.one (.d (.list (List.map rd Q))))] (.val (.one (.d (.list (List.map rqF (framesF A Q)))))):=by
 have hA2:=hA
 obtain⟨z1,z2,z3,z4,z5,z6⟩:=hA
 have hL:(List.map lk A.links).length=A.links.length:=List.length_map ..
 have hLq:(List.map rd Q).length=Q.length:=List.length_map ..
 have hQ2:∀ x,x∈Q→x.z≤2097152:=fun x hx=>Nat.le_trans (hQ x hx) (by decide)
 obtain⟨hn3,_⟩:=ZE hA0
 refine Za Tryz.func159 rfl rfl Tryz.ntmps159 rfl (by kernel_rfl) rfl rfl ?_
 refine Zsn (x:=A.bx) (y:=A.by') (h:=A.bh) (z:=A.bt) (by omega) (by omega) (by omega) ?_
 refine⟨Nat,fun i=> [(1,.val (.one (.d (.list (List.map rd Q))))),(5,.val (.one (.ptr 5 0))),(6,.val (.one (.row 55 0))),(16,.val (.one (.d (.list (List.map lk A.links))))),(17,int ((List.map lk A.links).length:Int)),(18,int (i:Int))],
  fun i=> [(5,.var 196 [.d (.v (.bool (decide (((endF A Q i).x).num< 0)))),.d (.list (W (w32 ((endF A Q i).x).num.natAbs))),.d (.list (W (w32 ((endF A Q i).x).den))),.d (.v (.bool (decide (((endF A Q i).y).num< 0)))),.d (.list (W (w32 ((endF A Q i).y).num.natAbs))),.d (.list (W (w32 ((endF A Q i).y).den))),.d (.v (.bool (decide (((endF A Q i).c).num< 0)))),.d (.list (W (w32 ((endF A Q i).c).num.natAbs))),.d (.list (W (w32 ((endF A Q i).c).den))),.d (.v (.bool (decide (((endF A Q i).s).num< 0)))),.d (.list (W (w32 ((endF A Q i).s).num.natAbs))),.d (.list (W (w32 ((endF A Q i).s).den)))]),(55,.row 196 12 0 (List.map rqF (linksF A Q i)) true)],fun i=>i≤A.links.length,fun i=>A.links.length - i,0,?_,Nat.zero_le _,fun i hs=> ?_⟩
 ·constructor<;>(repeat' (first|exact rfl|exact True.intro|exact⟨_,_,rfl⟩|exact(by decide)|apply And.intro))
  all_goals first|exact congrArg (fun n:Int=>D.v (.int .i64 n)) (by omega)|exact congrArg (fun n:Int=>D.v (.int .i64 n)) (by rw [wrap64 _ (by omega) (by omega)];omega)|(simp;done)
 obtain⟨⟨c1,c2,c3,c4⟩,c5⟩:=Zqd hA0 hQ2 i (by omega)
 have c6:=ZqV c3 c4
 have hT:(List.map rqF (linksF A Q i)).length≤3:=by rw [List.length_map,ZO];omega
 refine⟨fun e1=> ?_,fun e1=> ?_⟩
 ·have f19:(i:Int)< ((List.map lk A.links).length:Int):=of_decide_eq_true e1
  obtain⟨x21,hx21⟩:∃ vv,A.links[i]? =some vv:=⟨_,List.getElem?_eq_getElem (by first|omega|exact Nat.mod_lt _ (by omega))⟩
  obtain⟨hs1,hs2,hs3,hs4,hs5,hs6,hs7⟩:=z6 x21 (List.mem_of_getElem? hx21)
  have hlx21:=ZeC hx21
  refine k_ix i [D.v (.bool x21.len.s),D.v (.string x21.len.a),D.v (.string x21.len.d),D.v (.bool x21.low.s),D.v (.string x21.low.a),D.v (.string x21.low.d),D.v (.bool x21.high.s),D.v (.string x21.high.a),D.v (.string x21.high.d),D.v (.bool x21.speed.s),D.v (.string x21.speed.a),D.v (.string x21.speed.d),D.v (.bool x21.brake.s),D.v (.string x21.brake.a),D.v (.string x21.brake.d),D.list (List.map rdv x21.shape)] (by first|rfl|omega|(rw [wrap64 _ (by omega) (by omega)];omega)) (Zb hx21) rfl ?_
  obtain⟨x26,hx26⟩:∃ vv,Q[i]? =some vv:=⟨_,List.getElem?_eq_getElem (by first|omega|exact Nat.mod_lt _ (by omega))⟩
  have hzx26:=hQ x26 (List.mem_of_getElem? hx26)
  have hqx26:=ZR hx26
  refine k_ix i [D.v (.bool x26.s),D.v (.string x26.a),D.v (.string x26.d)] (by first|rfl|omega|(rw [wrap64 _ (by omega) (by omega)];omega)) (Zb hx26) rfl ?_
  refine Zr (x:=x26) (by omega) fun q28 h28 z28=> ?_
  refine Zk4 (t:=q28) (by omega) (fun p29 q29 hk_29_2 hk_29_3 hk_29_4 hk_29_5=> ?_)
  refine Zay (p:=(endF A Q i).c) (q:=p29) (by omega) (by omega) fun q35 h35 z35=> ?_
  refine Zay (p:=(endF A Q i).s) (q:=q29) (by omega) (by omega) fun q39 h39 z39=> ?_
  refine ZaJ (p:=q35) (q:=q39) (by omega) (by omega) fun q40 h40 z40=> ?_
  refine Zay (p:=(endF A Q i).s) (q:=p29) (by omega) (by omega) fun q44 h44 z44=> ?_
  refine Zay (p:=(endF A Q i).c) (q:=q29) (by omega) (by omega) fun q48 h48 z48=> ?_
  refine Zcf (p:=q44) (q:=q48) (by omega) (by omega) fun q49 h49 z49=> ?_
  refine⟨by kernel_rfl,?_⟩
  refine⟨⟨row1 rfl,(by show ((List.map rqF (linksF A Q i)).length+1)*224≤_;omega),(by show ((List.map rqF (linksF A Q i)).length+1)≤_;omega)⟩,?_⟩
  refine Zr (x:=x21.len) (by omega) fun q59 h59 z59=> ?_
  refine k_N3 (0) (by omega) (by omega) fun q60 h60 z60=> ?_
  refine ZtX (p:=(endF A Q i).x) (q:=(endF A Q i).y) (r:=q40) (u:=q49) (v:=q59) (y:=q60) (by omega) (by omega) (by omega) (by omega) (by omega) (by omega) (fun ya62 yb62 hk_62_2 hk_62_3 hk_62_4 hk_62_5=> ?_)
  refine⟨by kernel_rfl,?_⟩
  refine⟨by kernel_rfl,?_⟩
  have ht:q28=qAt Q i:=h28.trans hqx26.symm
  have ec:q40=(linkF A Q i).c:=by rw [h40,h35,h39,hk_29_2,hk_29_3,ht];rfl
  have es:q49=(linkF A Q i).s:=by rw [h49,h44,h48,hk_29_2,hk_29_3,ht];rfl
  have hl:q59=lenAt A i:=h59.trans hlx21.symm
  have ex:ya62=(endF A Q (i+1)).x:=by rw [hk_62_2,h60,ec,hl,Rat.intCast_zero,Rat.mul_zero,Rat.sub_eq_add_neg,Rat.neg_zero,Rat.add_zero];rfl
  have ey:yb62=(endF A Q (i+1)).y:=by rw [hk_62_3,h60,es,hl,Rat.intCast_zero,Rat.mul_zero,Rat.add_zero];rfl
  clear hk_62_2 hk_62_3
  subst ex ey ec es
  refine⟨i+1,by omega,by simp only;omega,?_⟩
  constructor<;>(repeat' (first|exact rfl|exact True.intro|apply And.intro))
  all_goals first
   |(rw [Zfj];rfl)
   |exact congrArg (fun n:Int=>D.v (.int .i64 n)) (by rw [wrap64 _ (by omega) (by omega)];omega)
   |exact congrArg (fun n:Int=>D.v (.int .i64 n)) (by omega)
 ·have f19:¬ ((i:Int)< ((List.map lk A.links).length:Int)):=of_decide_eq_false e1
  refine⟨⟨row1 rfl,(by show ((List.map rqF (linksF A Q i)).length+1)*224≤_;omega),(by show ((List.map rqF (linksF A Q i)).length+1)≤_;omega)⟩,?_⟩
  refine Eq.trans (b:= .val (.one (.d (.list (List.map rqF (linksF A Q i)++ [[D.v (.bool (decide (((endF A Q i).x).num< 0))),D.list (W (w32 ((endF A Q i).x).num.natAbs)),D.list (W (w32 ((endF A Q i).x).den)),D.v (.bool (decide (((endF A Q i).y).num< 0))),D.list (W (w32 ((endF A Q i).y).num.natAbs)),D.list (W (w32 ((endF A Q i).y).den)),D.v (.bool (decide (((endF A Q i).c).num< 0))),D.list (W (w32 ((endF A Q i).c).num.natAbs)),D.list (W (w32 ((endF A Q i).c).den)),D.v (.bool (decide (((endF A Q i).s).num< 0))),D.list (W (w32 ((endF A Q i).s).num.natAbs)),D.list (W (w32 ((endF A Q i).s).den))]]))))) ?_ rfl
  obtain rfl:i=A.links.length:=by omega
  rw [framesF,List.map_append]
  all_goals rfl
theorem Zit {A:ArmV} {Q:List RV} (hA:A.ok) (hA0:armE A=0) (hlen:Q.length=A.links.length) (hQ:∀ x,x∈Q→x.z≤2097151) (k:K (.val (.one (.d (.list (List.map rqF (framesF A Q))))))):Ask 159 [.val (.agg [.d (.v (.string A.name)),.d (.v (.bool A.bx.s)),.d (.v (.string A.bx.a)),.d (.v (.string A.bx.d)),.d (.v (.bool A.by'.s)),.d (.v (.string A.by'.a)),.d (.v (.string A.by'.d)),.d (.v (.bool (A.bh))),.d (.v (.bool A.bt.s)),.d (.v (.string A.bt.a)),.d (.v (.string A.bt.d)),.d (.list (List.map lk A.links))]),.val (.one (.d (.list (List.map rd Q))))] K:=use (ZiV A Q hA hA0 hlen hQ) rfl k
open Classical in
noncomputable def framesV (A:ArmV) (Q:List RV):List RF:=if hasE A (Q.length:Int)=0 then framesF A Q else []
theorem ZaZ {A:ArmV} {Q:List RV} (h:hasE A (Q.length:Int)=0):framesV A Q=framesF A Q:=if_pos h
theorem Zmw {A:ArmV} {Q:List RV} (h:¬ hasE A (Q.length:Int)=0):framesV A Q= []:=if_neg h
set_option maxHeartbeats 2000000 in
theorem Zkq (A:ArmV) (Q:List RV) (hA:A.ok) (hQ:∀ x,x∈Q→x.z≤2097151):Spec Tryz.prog Tab 170 [.val (.agg [.d (.v (.string A.name)),.d (.v (.bool A.bx.s)),.d (.v (.string A.bx.a)),.d (.v (.string A.bx.d)),.d (.v (.bool A.by'.s)),.d (.v (.string A.by'.a)),.d (.v (.string A.by'.d)),.d (.v (.bool (A.bh))),.d (.v (.bool A.bt.s)),.d (.v (.string A.bt.a)),.d (.v (.string A.bt.d)),.d (.list (List.map lk A.links))]),.val (.one (.d (.list (List.map rd Q))))] (.tup [.one (.d (.list (List.map rdF (framesV A Q)))),.one (.d (.v (.int .i64 (hasE A (Q.length:Int)))))]):=by
 have hA2:=hA
 obtain⟨z1,z2,z3,z4,z5,z6⟩:=hA
 have hL:(List.map lk A.links).length=A.links.length:=List.length_map ..
 have hLq:(List.map rd Q).length=Q.length:=List.length_map ..
 have hQ2:∀ x,x∈Q→x.z≤2097152:=fun x hx=>Nat.le_trans (hQ x hx) (by decide)
 refine Za Tryz.func170 rfl rfl Tryz.ntmps170 rfl (by kernel_rfl) rfl rfl ?_
 refine Zpt (A:=A) (n:=((List.map rd Q).length:Int)) (by assumption) fun n17 hk_17_1=> ?_
 rw [List.length_map] at hk_17_1
 refine⟨fun e1=> ?_,fun e1=> ?_⟩
 ·have f19:n17≠0:=Zv e1
  refine Eq.trans (b:= .tup [.one (.d (.list ([]))),.one (.d (.v (.int .i64 (n17))))]) ?_ rfl
  rw [Zmw (by rw [← hk_17_1];exact f19),← hk_17_1]
  all_goals rfl
 ·have f19:¬ (n17≠0):=fun hh=>hh (Zw e1)
  have h0:hasE A (Q.length:Int)=0:=by rw [← hk_17_1];exact Classical.not_not.1 f19
  obtain⟨hA0,hlen0⟩:=ZI.1 h0
  have hlen:Q.length=A.links.length:=by omega
  obtain⟨hn3,hnz,_⟩:=ZE hA0
  refine k_of (0) (by omega) (by omega) fun q23 h23 z23=> ?_
  simp only [cn_z] at z23
  refine k_of (0) (by omega) (by omega) fun q24 h24 z24=> ?_
  simp only [cn_z] at z24
  refine k_of (0) (by omega) (by omega) fun q26 h26 z26=> ?_
  simp only [cn_z] at z26
  refine Zip (x:=cn q26) (by simp only [cn_z];omega) (fun q27 hk_27_1 hk_27_2=> ?_)
  try simp only [cn_q] at hk_27_1
  simp only [cn_z] at hk_27_2
  obtain⟨hb1,hb2,hb3,hb4⟩:=Zvz Q hA0
  refine⟨Nat,fun i=> [(1,.val (.one (.d (.list (List.map rd Q))))),(7,.val (.one (.ptr 7 0))),(8,.val (.one (.ptr 8 0))),(9,.val (.one (.ptr 9 0))),(10,.val (.one (.row 48 0))),(29,.val (.one (.d (.list (List.map lk A.links))))),(30,int ((List.map lk A.links).length:Int)),(31,int (i:Int))],
   fun i=> [(7,.var 29 [.d (.v (.bool (cn (endF A Q i).x).s)),.d (.v (.string (cn (endF A Q i).x).a)),.d (.v (.string (cn (endF A Q i).x).d)),.d (.v (.bool (cn (endF A Q i).y).s)),.d (.v (.string (cn (endF A Q i).y).a)),.d (.v (.string (cn (endF A Q i).y).d)),.d (.v (.bool (tofH (endF A Q i).c))),.d (.v (.bool (cn (tofQ (endF A Q i).c (endF A Q i).s)).s)),.d (.v (.string (cn (tofQ (endF A Q i).c (endF A Q i).s)).a)),.d (.v (.string (cn (tofQ (endF A Q i).c (endF A Q i).s)).d))]),(8,.var 25 [.d (.v (.bool (cn q23).s)),.d (.v (.string (cn q23).a)),.d (.v (.string (cn q23).d)),.d (.v (.bool (cn q24).s)),.d (.v (.string (cn q24).a)),.d (.v (.string (cn q24).d))]),(9,.var 27 [.d (.v (.bool (false))),.d (.v (.bool (cn q27).s)),.d (.v (.string (cn q27).a)),.d (.v (.string (cn q27).d))]),(48,.row 29 10 0 (List.map rdF (linksF A Q i)) true)],fun i=>i≤A.links.length,fun i=>A.links.length - i,0,?_,Nat.zero_le _,fun i hs=> ?_⟩
  ·constructor<;>(repeat' (first|exact rfl|exact True.intro|exact⟨_,_,rfl⟩|exact(by decide)|apply And.intro))
   all_goals first
    |exact congrArg (fun v:RV=>D.v (.bool v.s)) hb1
    |exact congrArg (fun v:RV=>D.v (.bool v.s)) hb1.symm
    |exact congrArg (fun v:RV=>D.v (.bool v.s)) hb2
    |exact congrArg (fun v:RV=>D.v (.bool v.s)) hb2.symm
    |exact congrArg (fun v:RV=>D.v (.bool v.s)) hb4
    |exact congrArg (fun v:RV=>D.v (.bool v.s)) hb4.symm
    |exact congrArg (fun v:RV=>D.v (.string v.a)) hb1
    |exact congrArg (fun v:RV=>D.v (.string v.a)) hb1.symm
    |exact congrArg (fun v:RV=>D.v (.string v.a)) hb2
    |exact congrArg (fun v:RV=>D.v (.string v.a)) hb2.symm
    |exact congrArg (fun v:RV=>D.v (.string v.a)) hb4
    |exact congrArg (fun v:RV=>D.v (.string v.a)) hb4.symm
    |exact congrArg (fun v:RV=>D.v (.string v.d)) hb1
    |exact congrArg (fun v:RV=>D.v (.string v.d)) hb1.symm
    |exact congrArg (fun v:RV=>D.v (.string v.d)) hb2
    |exact congrArg (fun v:RV=>D.v (.string v.d)) hb2.symm
    |exact congrArg (fun v:RV=>D.v (.string v.d)) hb4
    |exact congrArg (fun v:RV=>D.v (.string v.d)) hb4.symm
    |exact congrArg (fun v:Bool=>D.v (.bool v)) hb3
    |exact congrArg (fun v:Bool=>D.v (.bool v)) hb3.symm
    |(simp;done)
  obtain⟨⟨c1,c2,c3,c4⟩,c5⟩:=Zqd hA0 hQ2 i (by omega)
  have c6:=ZqV c3 c4
  have hT:(List.map rdF (linksF A Q i)).length≤3:=by rw [List.length_map,ZO];omega
  refine⟨fun e2=> ?_,fun e2=> ?_⟩
  ·have f32:(i:Int)< ((List.map lk A.links).length:Int):=of_decide_eq_true e2
   obtain⟨x34,hx34⟩:∃ vv,A.links[i]? =some vv:=⟨_,List.getElem?_eq_getElem (by first|omega|exact Nat.mod_lt _ (by omega))⟩
   obtain⟨hs1,hs2,hs3,hs4,hs5,hs6,hs7⟩:=z6 x34 (List.mem_of_getElem? hx34)
   have hlx34:=ZeC hx34
   refine k_ix i [D.v (.bool x34.len.s),D.v (.string x34.len.a),D.v (.string x34.len.d),D.v (.bool x34.low.s),D.v (.string x34.low.a),D.v (.string x34.low.d),D.v (.bool x34.high.s),D.v (.string x34.high.a),D.v (.string x34.high.d),D.v (.bool x34.speed.s),D.v (.string x34.speed.a),D.v (.string x34.speed.d),D.v (.bool x34.brake.s),D.v (.string x34.brake.a),D.v (.string x34.brake.d),D.list (List.map rdv x34.shape)] (by first|rfl|omega|(rw [wrap64 _ (by omega) (by omega)];omega)) (Zb hx34) rfl ?_
   obtain⟨x40,hx40⟩:∃ vv,Q[i]? =some vv:=⟨_,List.getElem?_eq_getElem (by first|omega|exact Nat.mod_lt _ (by omega))⟩
   have hzx40:=hQ x40 (List.mem_of_getElem? hx40)
   have hqx40:=ZR hx40
   refine k_ix i [D.v (.bool x40.s),D.v (.string x40.a),D.v (.string x40.d)] (by first|rfl|omega|(rw [wrap64 _ (by omega) (by omega)];omega)) (Zb hx40) rfl ?_
   refine Zip (x:=x40) (by omega) (fun q42 hk_42_1 hk_42_2=> ?_)
   simp only [cn_z] at hk_42_2
   obtain rfl:q42=qAt Q i:=hk_42_1.trans hqx40.symm
   refine Zpd (x:=cn (endF A Q i).x) (y:=cn (endF A Q i).y) (h:=tofH (endF A Q i).c) (z:=cn (tofQ (endF A Q i).c (endF A Q i).s)) (x2:=cn q23) (y2:=cn q24) (g:=false) (z2:=cn (qAt Q i)) (by simp only [cn_z];omega) (by simp only [cn_z];omega) (by simp only [cn_z];omega) (by simp only [cn_z];omega) (by simp only [cn_z];omega) (by simp only [cn_z];omega) (fun p44 q44 b44 r44 hp44 hq44 hb44 hr44=> ?_)
   simp only [cn_q] at hp44 hq44 hb44 hr44
   have hlk:p44=(linkF A Q i).x∧q44=(linkF A Q i).y∧b44=tofH (linkF A Q i).c∧r44=tofQ (linkF A Q i).c (linkF A Q i).s:=Znv (ZpN A Q i) h23 h24 hp44 hq44 hb44 hr44
   clear hp44 hq44 hb44 hr44
   obtain⟨rfl,rfl,rfl,rfl⟩:=hlk
   obtain⟨d1,d2,d3,d4⟩:=c5 (by omega)
   have d6:=ZqV d3 d4
   refine⟨by kernel_rfl,?_⟩
   refine⟨⟨row1 rfl,(by show ((List.map rdF (linksF A Q i)).length+1)*128≤_;omega),(by show ((List.map rdF (linksF A Q i)).length+1)≤_;omega)⟩,?_⟩
   refine k_of (0) (by omega) (by omega) fun q52 h52 z52=> ?_
   simp only [cn_z] at z52
   refine Zpd (x:=cn (linkF A Q i).x) (y:=cn (linkF A Q i).y) (h:=tofH (linkF A Q i).c) (z:=cn (tofQ (linkF A Q i).c (linkF A Q i).s)) (x2:=x34.len) (y2:=cn q52) (g:=false) (z2:=cn q27) (by simp only [cn_z];omega) (by simp only [cn_z];omega) (by simp only [cn_z];omega) (by omega) (by simp only [cn_z];omega) (by simp only [cn_z];omega) (fun p56 q56 b56 r56 hp56 hq56 hb56 hr56=> ?_)
   simp only [cn_q] at hp56 hq56 hb56 hr56
   have hlk:p56=(longF (linkF A Q i) x34.len.q).x∧q56=(longF (linkF A Q i) x34.len.q).y∧b56=tofH (longF (linkF A Q i) x34.len.q).c∧r56=tofQ (longF (linkF A Q i) x34.len.q).c (longF (linkF A Q i) x34.len.q).s:=ZqY (ZjG A Q i) h52 (hk_27_1.trans h26) hp56 hq56 hb56 hr56
   clear hp56 hq56 hb56 hr56
   rw [← hlx34] at hlk
   obtain⟨rfl,rfl,rfl,rfl⟩:=hlk
   refine⟨by kernel_rfl,?_⟩
   refine⟨i+1,by omega,by simp only;omega,?_⟩
   constructor<;>(repeat' (first|exact rfl|exact True.intro|apply And.intro))
   all_goals first
    |(rw [Zfj];rfl)
    |exact congrArg (fun n:Int=>D.v (.int .i64 n)) (by rw [wrap64 _ (by omega) (by omega)];omega)
    |exact congrArg (fun n:Int=>D.v (.int .i64 n)) (by omega)
  ·have f32:¬ ((i:Int)< ((List.map lk A.links).length:Int)):=of_decide_eq_false e2
   refine⟨⟨row1 rfl,(by show ((List.map rdF (linksF A Q i)).length+1)*128≤_;omega),(by show ((List.map rdF (linksF A Q i)).length+1)≤_;omega)⟩,?_⟩
   refine Eq.trans (b:= .tup [.one (.d (.list (List.map rdF (linksF A Q i)++ [[D.v (.bool (cn (endF A Q i).x).s),D.v (.string (cn (endF A Q i).x).a),D.v (.string (cn (endF A Q i).x).d),D.v (.bool (cn (endF A Q i).y).s),D.v (.string (cn (endF A Q i).y).a),D.v (.string (cn (endF A Q i).y).d),D.v (.bool (tofH (endF A Q i).c)),D.v (.bool (cn (tofQ (endF A Q i).c (endF A Q i).s)).s),D.v (.string (cn (tofQ (endF A Q i).c (endF A Q i).s)).a),D.v (.string (cn (tofQ (endF A Q i).c (endF A Q i).s)).d)]]))),.one (.d (.v (.int .i64 (0))))]) ?_ rfl
   obtain rfl:i=A.links.length:=by omega
   rw [ZaZ h0,h0,framesF,List.map_append]
   all_goals rfl
theorem Zla {A:ArmV} {Q:List RV} (hA:A.ok) (hQ:∀ x,x∈Q→x.z≤2097151) (k:∀ n,n=hasE A (Q.length:Int)→K (.tup [.one (.d (.list (List.map rdF (framesV A Q)))),.one (.d (.v (.int .i64 n)))])):Ask 170 [.val (.agg [.d (.v (.string A.name)),.d (.v (.bool A.bx.s)),.d (.v (.string A.bx.a)),.d (.v (.string A.bx.d)),.d (.v (.bool A.by'.s)),.d (.v (.string A.by'.a)),.d (.v (.string A.by'.d)),.d (.v (.bool (A.bh))),.d (.v (.bool A.bt.s)),.d (.v (.string A.bt.a)),.d (.v (.string A.bt.d)),.d (.list (List.map lk A.links))]),.val (.one (.d (.list (List.map rd Q))))] K:=use (Zkq A Q hA hQ) rfl (k _ rfl)
end
end Go.Proofs.YtpfemjpgbpnpkaaGreatDoor.eng
