/- Contracts: frames of arms: gantref3, package fore. Printed by wip/gp_fore.py. -/
import Derived.Test.YtpejadencgfnnaaGreatDoorFore0
import Derived.Test.YtpejadencgfnnaaGreatDoorGrpZ
namespace Go.Proofs.YtpejadencgfnnaaGreatDoor.eng
open Go.RowKit num mem seg q held ratA ratB ratC ratD ratE vars ratF trq
section
variable {K : AV → Prop}
theorem ZH {α:Type} {l:List α} {i:Nat} (h:i< l.length) {G:Prop} (k:∀ x,l[i]? =some x→G):G:=k _ (List.getElem?_eq_getElem h)
theorem ZlS {f:RF} (hu:f.u) {z1 z2 t p q r:Rat} {b:Bool} (h1:z1=((0:Int):Rat)) (h2:z2=((0:Int):Rat)) (hp:p=f.x+vtX (tofH f.c) (tofQ f.c f.s) z1 z2) (hq:q=f.y+vtY (tofH f.c) (tofQ f.c f.s) z1 z2)
  (hb:b=thnH (tofH f.c) false (tofQ f.c f.s) t) (hr:r=thnQ (tofH f.c) false (tofQ f.c f.s) t):p=(turnF f t).x∧q=(turnF f t).y∧b=tofH (turnF f t).c∧r=tofQ (turnF f t).c (turnF f t).s:=by
 obtain⟨e1,e2⟩:=ZlA hu z1 z2
 obtain⟨e3,e4⟩:=ZlK hu t
 rw [e1] at hp;rw [e2] at hq;rw [e3] at hb;rw [e4] at hr
 subst h1 h2
 rw [Rat.intCast_zero] at hp hq
 exact⟨by rw [hp];show _=f.x;grind,by rw [hq];show _=f.y;grind,hb,hr⟩
theorem ZoW {f:RF} (hu:f.u) {l z2 t p q r:Rat} {b:Bool} (h2:z2=((0:Int):Rat)) (ht:t=((0:Int):Rat)) (hp:p=f.x+vtX (tofH f.c) (tofQ f.c f.s) l z2) (hq:q=f.y+vtY (tofH f.c) (tofQ f.c f.s) l z2)
  (hb:b=thnH (tofH f.c) false (tofQ f.c f.s) t) (hr:r=thnQ (tofH f.c) false (tofQ f.c f.s) t):p=(longF f l).x∧q=(longF f l).y∧b=tofH (longF f l).c∧r=tofQ (longF f l).c (longF f l).s:=by
 obtain⟨e1,e2⟩:=ZlA hu l z2
 obtain⟨e3,e4⟩:=Zl4 f.c f.s (t:=t) (by rw [ht,Rat.intCast_zero])
 rw [e1] at hp;rw [e2] at hq;rw [e3] at hb;rw [e4] at hr
 subst h2
 rw [Rat.intCast_zero] at hp hq
 exact⟨by rw [hp];show _=f.x+f.c*l;grind,by rw [hq];show _=f.y+f.s*l;grind,hb,hr⟩
theorem Zsw {A:ArmV} (Q:List RV) (h:armE A=0):A.bx=cn (endF A Q 0).x∧A.by'=cn (endF A Q 0).y∧A.bh=tofH (endF A Q 0).c∧A.bt=cn (tofQ (endF A Q 0).c (endF A Q 0).s):=by
 obtain⟨_,_,h1,h2,h3,h4,_⟩:=ZT h
 obtain⟨e1,e2⟩:=ZsI A.bh A.bt.q
 refine⟨RV.good_cn h1.1,RV.good_cn h2.1,e1.symm,?_⟩
 show A.bt=cn (tofQ (cosq A.bh A.bt.q) (sinq (tq A.bh A.bt.q)))
 rw [e2]
 cases hb:A.bh
 ·exact RV.good_cn h3.1
 ·rw [ZdH,show ((0:Int):Rat)=A.bt.q from(h4 hb).symm];exact RV.good_cn h3.1
theorem Zmy (t:Rat):(((1:Int):Rat) - t*t) / (((1:Int):Rat)+t*t)=cosq false t∧((2:Int):Rat)*t / (((1:Int):Rat)+t*t)=sinq t:=by
 refine⟨rfl,?_⟩
 unfold sinq
 rw [show ((2:Int):Rat)*t=t+t from by rw [show ((2:Int):Rat)=2 from rfl];grind]
set_option maxRecDepth 100000 in
theorem Zhx (t:Rat) (ht:qs t≤134217728):Spec Tryz.prog Tab 220 [q3 t] (.tup [.agg [.d (.v (.bool (decide ((cosq false t).num< 0)))),.d (.list (W (w32 (cosq false t).num.natAbs))),.d (.list (W (w32 (cosq false t).den)))],.agg [.d (.v (.bool (decide ((sinq t).num< 0)))),.d (.list (W (w32 (sinq t).num.natAbs))),.d (.list (W (w32 (sinq t).den)))]]):=by
 refine Za Tryz.func220 rfl rfl Tryz.ntmps220 rfl (by kernel_rfl) rfl rfl ?_
 refine k_N3 (1) (by omega) (by omega) fun q5 h5 z5=> ?_
 refine ZbA (p:=t) (q:=t) (by omega) (by omega) fun q8 h8 z8=> ?_
 refine Zg4 (p:=q5) (q:=q8) (by omega) (by omega) fun q9 h9 z9=> ?_
 refine⟨by kernel_rfl,?_⟩
 refine k_N3 (1) (by omega) (by omega) fun q10 h10 z10=> ?_
 refine ZbA (p:=t) (q:=t) (by omega) (by omega) fun q13 h13 z13=> ?_
 refine Zdk (p:=q10) (q:=q13) (by omega) (by omega) fun q14 h14 z14=> ?_
 refine Zg2 (p:=q14) (q:=q9) (by omega) (by omega) (by subst_vars;exact ZeN _) fun q16 h16 z16=> ?_
 refine k_N3 (2) (by omega) (by omega) fun q17 h17 z17=> ?_
 refine ZbA (p:=q17) (q:=t) (by omega) (by omega) fun q19 h19 z19=> ?_
 refine Zg2 (p:=q19) (q:=q9) (by omega) (by omega) (by subst_vars;exact ZeN _) fun q21 h21 z21=> ?_
 refine⟨by kernel_rfl,?_⟩
 refine Eq.trans (b:= .tup [.agg [.d (.v (.bool (decide (q16.num< 0)))),.d (.list (W (w32 q16.num.natAbs))),.d (.list (W (w32 q16.den)))],.agg [.d (.v (.bool (decide (q21.num< 0)))),.d (.list (W (w32 q21.num.natAbs))),.d (.list (W (w32 q21.den)))]]) ?_ rfl
 rw [show q16=cosq false t from by subst_vars;exact(Zmy t).1,show q21=sinq t from by subst_vars;exact(Zmy t).2]
theorem Zcy {t:Rat} (ht:qs t≤134217728) (k:∀ p q,p=cosq false t→q=sinq t→qs p≤4*qs t+34→qs q≤4*qs t+34→K (two (q3 p) (q3 q))):Ask 220 [q3 t] K:=use (Zhx t ht) rfl (k _ _ rfl rfl (ZdU t).1 (ZdU t).2)
set_option maxRecDepth 100000 in
theorem ZiE (x y:RV) (h:Bool) (z:RV) (hx:x.z≤67108864) (hy:y.z≤67108864) (hz:z.z≤67108864):Spec Tryz.prog Tab 198 [frame x y h z] (q3f x.q y.q (cosq h z.q) (sinq (tq h z.q))):=by
 refine Za Tryz.func198 rfl rfl Tryz.ntmps198 rfl (by kernel_rfl) rfl rfl ?_
 refine Zy (x:=z) (by omega) fun q9 h9 z9=> ?_
 refine Zcy (t:=q9) (by omega) (fun p10 q10 hk_10_2 hk_10_3 hk_10_4 hk_10_5=> ?_)
 refine⟨fun e1=> ?_,fun e1=> ?_⟩
 ·have f15:h=true:=e1
  refine k_N3 (-1) (by omega) (by omega) fun q16 h16 z16=> ?_
  refine k_N3 (0) (by omega) (by omega) fun q17 h17 z17=> ?_
  refine Zy (x:=x) (by omega) fun q21 h21 z21=> ?_
  refine Zy (x:=y) (by omega) fun q25 h25 z25=> ?_
  refine⟨by kernel_rfl,?_⟩
  refine Eq.trans (b:=q3f q21 q25 q16 q17) ?_ rfl
  subst f15
  rw [show cosq true z.q=((-1:Int):Rat) from rfl,show sinq (tq true z.q)=((0:Int):Rat) from Zco]
  subst_vars;rfl
 ·have f15:¬ (h=true):=fun hh=>ZaU hh e1
  refine Zy (x:=x) (by omega) fun q21 h21 z21=> ?_
  refine Zy (x:=y) (by omega) fun q25 h25 z25=> ?_
  refine⟨by kernel_rfl,?_⟩
  refine Eq.trans (b:=q3f q21 q25 p10 q10) ?_ rfl
  obtain rfl:h=false:=Bool.eq_false_iff.2 f15
  rw [ZaI]
  subst_vars;rfl
theorem Zp6 {x y:RV} {h:Bool} {z:RV} (hx:x.z≤67108864) (hy:y.z≤67108864) (hz:z.z≤67108864) (k:K (q3f x.q y.q (cosq h z.q) (sinq (tq h z.q)))):Ask 198 [frame x y h z] K:=use (ZiE x y h z hx hy hz) rfl k
section
variable  {p q r u v y : Rat}
end
open Classical in
noncomputable def framesV (A:ArmV) (Q:List RV):List RF:=if hasE A (Q.length:Int)=0 then framesF A Q else []
theorem Zc0 {A:ArmV} {Q:List RV} (h:hasE A (Q.length:Int)=0):framesV A Q=framesF A Q:=if_pos h
theorem ZkY {A:ArmV} {Q:List RV} (h:¬ hasE A (Q.length:Int)=0):framesV A Q= []:=if_neg h
set_option maxHeartbeats 2000000 in
set_option maxRecDepth 100000 in
theorem ZiM (A:ArmV) (Q:List RV) (hA:A.ok) (hQ:∀ x,x∈Q→x.z≤2097151):Spec Tryz.prog Tab 141 [.val (.agg [.d (.v (.string A.name)),.d (.v (.bool A.bx.s)),.d (.v (.string A.bx.a)),.d (.v (.string A.bx.d)),.d (.v (.bool A.by'.s)),.d (.v (.string A.by'.a)),.d (.v (.string A.by'.d)),.d (.v (.bool (A.bh))),.d (.v (.bool A.bt.s)),.d (.v (.string A.bt.a)),.d (.v (.string A.bt.d)),.d (.list (List.map lk A.links))]),.val (.one (.d (.list (List.map rd Q))))] (.tup [.one (.d (.list (List.map rdF (framesV A Q)))),.one (.d (.v (.int .i64 (hasE A (Q.length:Int)))))]):=by
 have hA2:=hA
 obtain⟨z1,z2,z3,z4,z5,z6⟩:=hA
 have hL:(List.map lk A.links).length=A.links.length:=List.length_map ..
 have hLq:(List.map rd Q).length=Q.length:=List.length_map ..
 have hQ2:∀ x,x∈Q→x.z≤2097152:=fun x hx=>Nat.le_trans (hQ x hx) (by decide)
 refine Za Tryz.func141 rfl rfl Tryz.ntmps141 rfl (by kernel_rfl) rfl rfl ?_
 refine ZnP (A:=A) (n:=((List.map rd Q).length:Int)) (by assumption) fun n17 hk_17_1=> ?_
 rw [List.length_map] at hk_17_1
 refine⟨fun e1=> ?_,fun e1=> ?_⟩
 ·have f19:n17≠0:=Zaq e1
  refine Eq.trans (b:= .tup [.one (.d (.list ([]))),.one (.d (.v (.int .i64 (n17))))]) ?_ rfl
  rw [ZkY (by rw [← hk_17_1];exact f19),← hk_17_1]
  all_goals rfl
 ·have f19:¬ (n17≠0):=fun hh=>hh (Zar e1)
  have h0:hasE A (Q.length:Int)=0:=by rw [← hk_17_1];exact Classical.not_not.1 f19
  obtain⟨hA0,hlen0⟩:=Zad.1 h0
  have hlen:Q.length=A.links.length:=by omega
  obtain⟨hn3,hnz,_⟩:=ZT hA0
  refine k_of (0) (by omega) (by omega) fun q23 h23 z23=> ?_
  simp only [cn_z] at z23
  refine k_of (0) (by omega) (by omega) fun q24 h24 z24=> ?_
  simp only [cn_z] at z24
  refine k_of (0) (by omega) (by omega) fun q26 h26 z26=> ?_
  simp only [cn_z] at z26
  refine ZgZ (x:=cn q26) (by simp only [cn_z];omega) (fun q27 hk_27_1 hk_27_2=> ?_)
  try simp only [cn_q] at hk_27_1
  simp only [cn_z] at hk_27_2
  obtain⟨hb1,hb2,hb3,hb4⟩:=Zsw Q hA0
  refine⟨Nat,fun i=> [(1,.val (.one (.d (.list (List.map rd Q))))),(7,.val (.one (.ptr 7 0))),(8,.val (.one (.ptr 8 0))),(9,.val (.one (.ptr 9 0))),(10,.val (.one (.row 48 0))),(29,.val (.one (.d (.list (List.map lk A.links))))),(30,int ((List.map lk A.links).length:Int)),(31,int (i:Int))],
   fun i=> [(7,.var 29 [.d (.v (.bool (cn (endF A Q i).x).s)),.d (.v (.string (cn (endF A Q i).x).a)),.d (.v (.string (cn (endF A Q i).x).d)),.d (.v (.bool (cn (endF A Q i).y).s)),.d (.v (.string (cn (endF A Q i).y).a)),.d (.v (.string (cn (endF A Q i).y).d)),.d (.v (.bool (tofH (endF A Q i).c))),.d (.v (.bool (cn (tofQ (endF A Q i).c (endF A Q i).s)).s)),.d (.v (.string (cn (tofQ (endF A Q i).c (endF A Q i).s)).a)),.d (.v (.string (cn (tofQ (endF A Q i).c (endF A Q i).s)).d))]),(8,.var 25 [.d (.v (.bool (cn q23).s)),.d (.v (.string (cn q23).a)),.d (.v (.string (cn q23).d)),.d (.v (.bool (cn q24).s)),.d (.v (.string (cn q24).a)),.d (.v (.string (cn q24).d))]),(9,.var 27 [.d (.v (.bool (false))),.d (.v (.bool (cn q27).s)),.d (.v (.string (cn q27).a)),.d (.v (.string (cn q27).d))]),(48,.row 29 10 0 (List.map rdF (linksF A Q i)) true)],fun i=>i≤A.links.length,fun i=>A.links.length - i,0,?_,Nat.zero_le _,fun i hs=> ?_⟩
  ·constructor<;>(repeat' (first|exact rfl|exact True.intro|exact⟨_,_,rfl⟩|exact(by decide)|apply And.intro))
   all_goals first
    |exact congrArg (fun v:RV=>D.v (.bool v.s)) hb1
    |exact congrArg (fun v:RV=>D.v (.bool v.s)) hb1.symm
    |exact congrArg (fun v:RV=>D.v (.bool v.s)) hb2
    |exact congrArg (fun v:RV=>D.v (.bool v.s)) hb2.symm
    |exact congrArg (fun v:RV=>D.v (.bool v.s)) hb4
    |exact congrArg (fun v:RV=>D.v (.bool v.s)) hb4.symm
    |exact congrArg (fun v:RV=>D.v (.string v.a)) hb1
    |exact congrArg (fun v:RV=>D.v (.string v.a)) hb1.symm
    |exact congrArg (fun v:RV=>D.v (.string v.a)) hb2
    |exact congrArg (fun v:RV=>D.v (.string v.a)) hb2.symm
    |exact congrArg (fun v:RV=>D.v (.string v.a)) hb4
    |exact congrArg (fun v:RV=>D.v (.string v.a)) hb4.symm
    |exact congrArg (fun v:RV=>D.v (.string v.d)) hb1
    |exact congrArg (fun v:RV=>D.v (.string v.d)) hb1.symm
    |exact congrArg (fun v:RV=>D.v (.string v.d)) hb2
    |exact congrArg (fun v:RV=>D.v (.string v.d)) hb2.symm
    |exact congrArg (fun v:RV=>D.v (.string v.d)) hb4
    |exact congrArg (fun v:RV=>D.v (.string v.d)) hb4.symm
    |exact congrArg (fun v:Bool=>D.v (.bool v)) hb3
    |exact congrArg (fun v:Bool=>D.v (.bool v)) hb3.symm
    |(simp;done)
  obtain⟨⟨c1,c2,c3,c4⟩,c5⟩:=Zst hA0 hQ2 i (by omega)
  have c6:=Zrq c3 c4
  have hT:(List.map rdF (linksF A Q i)).length≤3:=by rw [List.length_map,ZcV];omega
  refine⟨fun e2=> ?_,fun e2=> ?_⟩
  ·have f32:(i:Int)< ((List.map lk A.links).length:Int):=of_decide_eq_true e2
   obtain⟨x34,hx34⟩:∃ vv,A.links[i]? =some vv:=⟨_,List.getElem?_eq_getElem (by first|omega|exact Nat.mod_lt _ (by omega))⟩
   obtain⟨hs1,hs2,hs3,hs4,hs5,hs6,hs7⟩:=z6 x34 (List.mem_of_getElem? hx34)
   have hlx34:=ZfN hx34
   refine k_ix i [D.v (.bool x34.len.s),D.v (.string x34.len.a),D.v (.string x34.len.d),D.v (.bool x34.low.s),D.v (.string x34.low.a),D.v (.string x34.low.d),D.v (.bool x34.high.s),D.v (.string x34.high.a),D.v (.string x34.high.d),D.v (.bool x34.speed.s),D.v (.string x34.speed.a),D.v (.string x34.speed.d),D.v (.bool x34.brake.s),D.v (.string x34.brake.a),D.v (.string x34.brake.d),D.list (List.map rdv x34.shape)] (by first|rfl|omega|(rw [wrap64 _ (by omega) (by omega)];omega)) (Zi hx34) rfl ?_
   obtain⟨x40,hx40⟩:∃ vv,Q[i]? =some vv:=⟨_,List.getElem?_eq_getElem (by first|omega|exact Nat.mod_lt _ (by omega))⟩
   have hzx40:=hQ x40 (List.mem_of_getElem? hx40)
   have hqx40:=ZqM hx40
   refine k_ix i [D.v (.bool x40.s),D.v (.string x40.a),D.v (.string x40.d)] (by first|rfl|omega|(rw [wrap64 _ (by omega) (by omega)];omega)) (Zi hx40) rfl ?_
   refine ZgZ (x:=x40) (by omega) (fun q42 hk_42_1 hk_42_2=> ?_)
   simp only [cn_z] at hk_42_2
   obtain rfl:q42=qAt Q i:=hk_42_1.trans hqx40.symm
   refine ZnE (x:=cn (endF A Q i).x) (y:=cn (endF A Q i).y) (h:=tofH (endF A Q i).c) (z:=cn (tofQ (endF A Q i).c (endF A Q i).s)) (x2:=cn q23) (y2:=cn q24) (g:=false) (z2:=cn (qAt Q i)) (by simp only [cn_z];omega) (by simp only [cn_z];omega) (by simp only [cn_z];omega) (by simp only [cn_z];omega) (by simp only [cn_z];omega) (by simp only [cn_z];omega) (fun p44 q44 b44 r44 hp44 hq44 hb44 hr44=> ?_)
   simp only [cn_q] at hp44 hq44 hb44 hr44
   have hlk:p44=(linkF A Q i).x∧q44=(linkF A Q i).y∧b44=tofH (linkF A Q i).c∧r44=tofQ (linkF A Q i).c (linkF A Q i).s:=ZlS (Zn5 A Q i) h23 h24 hp44 hq44 hb44 hr44
   clear hp44 hq44 hb44 hr44
   obtain⟨rfl,rfl,rfl,rfl⟩:=hlk
   obtain⟨d1,d2,d3,d4⟩:=c5 (by omega)
   have d6:=Zrq d3 d4
   refine⟨by kernel_rfl,?_⟩
   refine⟨⟨row1 rfl,(by show ((List.map rdF (linksF A Q i)).length+1)*128≤_;omega),(by show ((List.map rdF (linksF A Q i)).length+1)≤_;omega)⟩,?_⟩
   refine k_of (0) (by omega) (by omega) fun q52 h52 z52=> ?_
   simp only [cn_z] at z52
   refine ZnE (x:=cn (linkF A Q i).x) (y:=cn (linkF A Q i).y) (h:=tofH (linkF A Q i).c) (z:=cn (tofQ (linkF A Q i).c (linkF A Q i).s)) (x2:=x34.len) (y2:=cn q52) (g:=false) (z2:=cn q27) (by simp only [cn_z];omega) (by simp only [cn_z];omega) (by simp only [cn_z];omega) (by omega) (by simp only [cn_z];omega) (by simp only [cn_z];omega) (fun p56 q56 b56 r56 hp56 hq56 hb56 hr56=> ?_)
   simp only [cn_q] at hp56 hq56 hb56 hr56
   have hlk:p56=(longF (linkF A Q i) x34.len.q).x∧q56=(longF (linkF A Q i) x34.len.q).y∧b56=tofH (longF (linkF A Q i) x34.len.q).c∧r56=tofQ (longF (linkF A Q i) x34.len.q).c (longF (linkF A Q i) x34.len.q).s:=ZoW (Zh6 A Q i) h52 (hk_27_1.trans h26) hp56 hq56 hb56 hr56
   clear hp56 hq56 hb56 hr56
   rw [← hlx34] at hlk
   obtain⟨rfl,rfl,rfl,rfl⟩:=hlk
   refine⟨by kernel_rfl,?_⟩
   refine⟨i+1,by omega,by simp only;omega,?_⟩
   constructor<;>(repeat' (first|exact rfl|exact True.intro|apply And.intro))
   all_goals first
    |(rw [Zh5];rfl)
    |exact congrArg (fun n:Int=>D.v (.int .i64 n)) (by rw [wrap64 _ (by omega) (by omega)];omega)
    |exact congrArg (fun n:Int=>D.v (.int .i64 n)) (by omega)
  ·have f32:¬ ((i:Int)< ((List.map lk A.links).length:Int)):=of_decide_eq_false e2
   refine⟨⟨row1 rfl,(by show ((List.map rdF (linksF A Q i)).length+1)*128≤_;omega),(by show ((List.map rdF (linksF A Q i)).length+1)≤_;omega)⟩,?_⟩
   refine Eq.trans (b:= .tup [.one (.d (.list (List.map rdF (linksF A Q i)++ [[D.v (.bool (cn (endF A Q i).x).s),D.v (.string (cn (endF A Q i).x).a),D.v (.string (cn (endF A Q i).x).d),D.v (.bool (cn (endF A Q i).y).s),D.v (.string (cn (endF A Q i).y).a),D.v (.string (cn (endF A Q i).y).d),D.v (.bool (tofH (endF A Q i).c)),D.v (.bool (cn (tofQ (endF A Q i).c (endF A Q i).s)).s),D.v (.string (cn (tofQ (endF A Q i).c (endF A Q i).s)).a),D.v (.string (cn (tofQ (endF A Q i).c (endF A Q i).s)).d)]]))),.one (.d (.v (.int .i64 (0))))]) ?_ rfl
   obtain rfl:i=A.links.length:=by omega
   rw [Zc0 h0,h0,framesF,List.map_append]
   all_goals rfl
theorem Zqc {A:ArmV} {Q:List RV} (hA:A.ok) (hQ:∀ x,x∈Q→x.z≤2097151) (k:∀ n,n=hasE A (Q.length:Int)→K (.tup [.one (.d (.list (List.map rdF (framesV A Q)))),.one (.d (.v (.int .i64 n)))])):Ask 141 [.val (.agg [.d (.v (.string A.name)),.d (.v (.bool A.bx.s)),.d (.v (.string A.bx.a)),.d (.v (.string A.bx.d)),.d (.v (.bool A.by'.s)),.d (.v (.string A.by'.a)),.d (.v (.string A.by'.d)),.d (.v (.bool (A.bh))),.d (.v (.bool A.bt.s)),.d (.v (.string A.bt.a)),.d (.v (.string A.bt.d)),.d (.list (List.map lk A.links))]),.val (.one (.d (.list (List.map rd Q))))] K:=use (ZiM A Q hA hQ) rfl (k _ rfl)
end
end Go.Proofs.YtpejadencgfnnaaGreatDoor.eng
