/- Contracts: frames of arms: gantref3, package fore. Printed by wip/gp_fore.py. -/
import Derived.Test.YtgmkgfdjolchdaaGreatDoorQGrpZ
set_option maxRecDepth 100000
namespace Go.Proofs.YtgmkgfdjolchdaaGreatDoor.eng
open Go.RowKit num mem seg q held ratA ratB ratC ratD ratE vars ratF trq
section
variable {K : AV → Prop}
theorem get_ex {α:Type} {l:List α} {i:Nat} (h:i< l.length) {G:Prop} (k:∀ x,l[i]? =some x→G):G:=k _ (List.getElem?_eq_getElem h)
theorem Zmn {f:RF} (hu:f.u) {z1 z2 t p q r:Rat} {b:Bool} (h1:z1=((0:Int):Rat)) (h2:z2=((0:Int):Rat)) (hp:p=f.x+vtX (tofH f.c) (tofQ f.c f.s) z1 z2) (hq:q=f.y+vtY (tofH f.c) (tofQ f.c f.s) z1 z2)
  (hb:b=thnH (tofH f.c) false (tofQ f.c f.s) t) (hr:r=thnQ (tofH f.c) false (tofQ f.c f.s) t):p=(turnF f t).x∧q=(turnF f t).y∧b=tofH (turnF f t).c∧r=tofQ (turnF f t).c (turnF f t).s:=by
 obtain⟨e1,e2⟩:=Zl5 hu z1 z2
 obtain⟨e3,e4⟩:=Zme hu t
 rw [e1] at hp;rw [e2] at hq;rw [e3] at hb;rw [e4] at hr
 subst h1 h2
 rw [Rat.intCast_zero] at hp hq
 exact⟨by rw [hp];show _=f.x;grind,by rw [hq];show _=f.y;grind,hb,hr⟩
theorem Zpu {f:RF} (hu:f.u) {l z2 t p q r:Rat} {b:Bool} (h2:z2=((0:Int):Rat)) (ht:t=((0:Int):Rat)) (hp:p=f.x+vtX (tofH f.c) (tofQ f.c f.s) l z2) (hq:q=f.y+vtY (tofH f.c) (tofQ f.c f.s) l z2)
  (hb:b=thnH (tofH f.c) false (tofQ f.c f.s) t) (hr:r=thnQ (tofH f.c) false (tofQ f.c f.s) t):p=(longF f l).x∧q=(longF f l).y∧b=tofH (longF f l).c∧r=tofQ (longF f l).c (longF f l).s:=by
 obtain⟨e1,e2⟩:=Zl5 hu l z2
 obtain⟨e3,e4⟩:=Zmx f.c f.s (t:=t) (by rw [ht,Rat.intCast_zero])
 rw [e1] at hp;rw [e2] at hq;rw [e3] at hb;rw [e4] at hr
 subst h2
 rw [Rat.intCast_zero] at hp hq
 exact⟨by rw [hp];show _=f.x+f.c*l;grind,by rw [hq];show _=f.y+f.s*l;grind,hb,hr⟩
theorem ZtN {A:ArmV} (Q:List RV) (h:armE A=0):A.bx=cn (endF A Q 0).x∧A.by'=cn (endF A Q 0).y∧A.bh=tofH (endF A Q 0).c∧A.bt=cn (tofQ (endF A Q 0).c (endF A Q 0).s):=by
 obtain⟨_,_,h1,h2,h3,h4,_⟩:=ZaF h
 obtain⟨e1,e2⟩:=Zt5 A.bh A.bt.q
 refine⟨RV.good_cn h1.1,RV.good_cn h2.1,e1.symm,?_⟩
 show A.bt=cn (tofQ (cosq A.bh A.bt.q) (sinq (tq A.bh A.bt.q)))
 rw [e2]
 cases hb:A.bh
 ·exact RV.good_cn h3.1
 ·rw [ZdO,show ((0:Int):Rat)=A.bt.q from(h4 hb).symm];exact RV.good_cn h3.1
section
variable  {p q r u v y : Rat}
end
open Classical in
noncomputable def framesV (A:ArmV) (Q:List RV):List RF:=if hasE A (Q.length:Int)=0 then framesF A Q else []
theorem Zbf {A:ArmV} {Q:List RV} (h:hasE A (Q.length:Int)=0):framesV A Q=framesF A Q:=if_pos h
theorem ZlF {A:ArmV} {Q:List RV} (h:¬ hasE A (Q.length:Int)=0):framesV A Q= []:=if_neg h
set_option maxHeartbeats 2000000 in
theorem Zjg (A:ArmV) (Q:List RV) (hA:A.ok) (hQ:∀ x,x∈Q→x.z≤2097151):Spec Tryz.prog Tab 39 [arm A,.val (.one (.d (.list (List.map rd Q))))] (.tup [.one (.d (.list (List.map rdF (framesV A Q)))),.one (.d (.v (.int .i64 (hasE A (Q.length:Int)))))]):=by
 have hA2:=hA
 obtain⟨z1,z2,z3,z4,z5,z6⟩:=hA
 have hL:(List.map lk A.links).length=A.links.length:=List.length_map ..
 have hLq:(List.map rd Q).length=Q.length:=List.length_map ..
 have hQ2:∀ x,x∈Q→x.z≤2097152:=fun x hx=>Nat.le_trans (hQ x hx) ωd
 refine Za Tryz.func39 rfl rfl Tryz.ntmps39 rfl ωr rfl rfl ?_
 refine Zkl (A:=A) (n:=((List.map rd Q).length:Int)) ωs fun n17 hk_17_1=> ?_
 rw [List.length_map] at hk_17_1
 refine⟨fun e1=> ?_,fun e1=> ?_⟩
 ·have f19:n17≠0:=ZaD e1
  refine Eq.trans (b:= .tup [.one (.d (.list ([]))),.one (.d (.v (.int .i64 (n17))))]) ?_ rfl
  rw [ZlF (by rw [← hk_17_1];exact f19),← hk_17_1]
  all_goals rfl
 ·have f19:¬ (n17≠0):=fun hh=>hh (ZaE e1)
  have h0:hasE A (Q.length:Int)=0:=by rw [← hk_17_1];exact Classical.not_not.1 f19
  obtain⟨hA0,hlen0⟩:=Zaa.1 h0
  have hlen:Q.length=A.links.length:=ω
  obtain⟨hn3,hnz,_⟩:=ZaF hA0
  refine k_of (0) ω ω fun q23 h23 z23=> ?_
  simp only [cn_z] at z23
  refine k_of (0) ω ω fun q24 h24 z24=> ?_
  simp only [cn_z] at z24
  refine k_of (0) ω ω fun q26 h26 z26=> ?_
  simp only [cn_z] at z26
  refine Zf4 (x:=cn q26) ωz (fun q27 hk_27_1 hk_27_2=> ?_)
  try simp only [cn_q] at hk_27_1
  simp only [cn_z] at hk_27_2
  obtain⟨hb1,hb2,hb3,hb4⟩:=ZtN Q hA0
  refine⟨Nat,fun i=> [(1,.val (.one (.d (.list (List.map rd Q))))),(7,.val (.one (.ptr 7 0))),(8,.val (.one (.ptr 8 0))),(9,.val (.one (.ptr 9 0))),(10,.val (.one (.row 48 0))),(29,.val (.one (.d (.list (List.map lk A.links))))),(30,int ((List.map lk A.links).length:Int)),(31,int (i:Int))],
   fun i=> [(7,.var 31 [.d (.v (.bool (cn (endF A Q i).x).s)),.d (.v (.string (cn (endF A Q i).x).a)),.d (.v (.string (cn (endF A Q i).x).d)),.d (.v (.bool (cn (endF A Q i).y).s)),.d (.v (.string (cn (endF A Q i).y).a)),.d (.v (.string (cn (endF A Q i).y).d)),.d (.v (.bool (tofH (endF A Q i).c))),.d (.v (.bool (cn (tofQ (endF A Q i).c (endF A Q i).s)).s)),.d (.v (.string (cn (tofQ (endF A Q i).c (endF A Q i).s)).a)),.d (.v (.string (cn (tofQ (endF A Q i).c (endF A Q i).s)).d))]),(8,.var 27 [.d (.v (.bool (cn q23).s)),.d (.v (.string (cn q23).a)),.d (.v (.string (cn q23).d)),.d (.v (.bool (cn q24).s)),.d (.v (.string (cn q24).a)),.d (.v (.string (cn q24).d))]),(9,.var 29 [.d (.v (.bool (false))),.d (.v (.bool (cn q27).s)),.d (.v (.string (cn q27).a)),.d (.v (.string (cn q27).d))]),(48,.row 31 10 0 (List.map rdF (linksF A Q i)) true)],fun i=>i≤A.links.length,fun i=>A.links.length - i,0,?_,Nat.zero_le _,fun i hs=> ?_⟩
  ·constructor<;>(repeat' (first|exact rfl|exact True.intro|exact⟨_,_,rfl⟩|exact ωd|apply And.intro))
   all_goals first
    |exact congrArg (fun v:RV=>D.v (.bool v.s)) hb1
    |exact congrArg (fun v:RV=>D.v (.bool v.s)) hb1.symm
    |exact congrArg (fun v:RV=>D.v (.bool v.s)) hb2
    |exact congrArg (fun v:RV=>D.v (.bool v.s)) hb2.symm
    |exact congrArg (fun v:RV=>D.v (.bool v.s)) hb4
    |exact congrArg (fun v:RV=>D.v (.bool v.s)) hb4.symm
    |exact congrArg (fun v:RV=>D.v (.string v.a)) hb1
    |exact congrArg (fun v:RV=>D.v (.string v.a)) hb1.symm
    |exact congrArg (fun v:RV=>D.v (.string v.a)) hb2
    |exact congrArg (fun v:RV=>D.v (.string v.a)) hb2.symm
    |exact congrArg (fun v:RV=>D.v (.string v.a)) hb4
    |exact congrArg (fun v:RV=>D.v (.string v.a)) hb4.symm
    |exact congrArg (fun v:RV=>D.v (.string v.d)) hb1
    |exact congrArg (fun v:RV=>D.v (.string v.d)) hb1.symm
    |exact congrArg (fun v:RV=>D.v (.string v.d)) hb2
    |exact congrArg (fun v:RV=>D.v (.string v.d)) hb2.symm
    |exact congrArg (fun v:RV=>D.v (.string v.d)) hb4
    |exact congrArg (fun v:RV=>D.v (.string v.d)) hb4.symm
    |exact congrArg (fun v:Bool=>D.v (.bool v)) hb3
    |exact congrArg (fun v:Bool=>D.v (.bool v)) hb3.symm
    |(simp;done)
  obtain⟨⟨c1,c2,c3,c4⟩,c5⟩:=ZtC hA0 hQ2 i ω
  have c6:=Zsh c3 c4
  have hT:(List.map rdF (linksF A Q i)).length≤3:=by rw [List.length_map,Zbd];omega
  refine⟨fun e2=> ?_,fun e2=> ?_⟩
  ·have f32:(i:Int)< ((List.map lk A.links).length:Int):=of_decide_eq_true e2
   obtain⟨x34,hx34⟩:∃ vv,A.links[i]? =some vv:=⟨_,List.getElem?_eq_getElem ωm⟩
   obtain⟨hs1,hs2,hs3,hs4,hs5,hs6,hs7⟩:=z6 x34 (List.mem_of_getElem? hx34)
   have hlx34:=Zj7 hx34
   refine k_ix i [D.v (.bool x34.len.s),D.v (.string x34.len.a),D.v (.string x34.len.d),D.v (.bool x34.low.s),D.v (.string x34.low.a),D.v (.string x34.low.d),D.v (.bool x34.high.s),D.v (.string x34.high.a),D.v (.string x34.high.d),D.v (.bool x34.speed.s),D.v (.string x34.speed.a),D.v (.string x34.speed.d),D.v (.bool x34.brake.s),D.v (.string x34.brake.a),D.v (.string x34.brake.d),D.list (List.map rdv x34.shape)] ωh (Ze hx34) rfl ?_
   obtain⟨x40,hx40⟩:∃ vv,Q[i]? =some vv:=⟨_,List.getElem?_eq_getElem ωm⟩
   have hzx40:=hQ x40 (List.mem_of_getElem? hx40)
   have hqx40:=ZbF hx40
   refine k_ix i [D.v (.bool x40.s),D.v (.string x40.a),D.v (.string x40.d)] ωh (Ze hx40) rfl ?_
   refine Zf4 (x:=x40) ω (fun q42 hk_42_1 hk_42_2=> ?_)
   simp only [cn_z] at hk_42_2
   obtain rfl:q42=qAt Q i:=hk_42_1.trans hqx40.symm
   refine Zob (x:=cn (endF A Q i).x) (y:=cn (endF A Q i).y) (h:=tofH (endF A Q i).c) (z:=cn (tofQ (endF A Q i).c (endF A Q i).s)) (x2:=cn q23) (y2:=cn q24) (g:=false) (z2:=cn (qAt Q i)) ωz ωz ωz ωz ωz ωz (fun p44 q44 b44 r44 hp44 hq44 hb44 hr44=> ?_)
   simp only [cn_q] at hp44 hq44 hb44 hr44
   have hlk:p44=(linkF A Q i).x∧q44=(linkF A Q i).y∧b44=tofH (linkF A Q i).c∧r44=tofQ (linkF A Q i).c (linkF A Q i).s:=Zmn (Zhx A Q i) h23 h24 hp44 hq44 hb44 hr44
   clear hp44 hq44 hb44 hr44
   obtain⟨rfl,rfl,rfl,rfl⟩:=hlk
   obtain⟨d1,d2,d3,d4⟩:=c5 ω
   have d6:=Zsh d3 d4
   refine⟨ωr,?_⟩
   refine⟨⟨row1 rfl,(by show ((List.map rdF (linksF A Q i)).length+1)*128≤_;omega),(by show ((List.map rdF (linksF A Q i)).length+1)≤_;omega)⟩,?_⟩
   refine k_of (0) ω ω fun q52 h52 z52=> ?_
   simp only [cn_z] at z52
   refine Zob (x:=cn (linkF A Q i).x) (y:=cn (linkF A Q i).y) (h:=tofH (linkF A Q i).c) (z:=cn (tofQ (linkF A Q i).c (linkF A Q i).s)) (x2:=x34.len) (y2:=cn q52) (g:=false) (z2:=cn q27) ωz ωz ωz ω ωz ωz (fun p56 q56 b56 r56 hp56 hq56 hb56 hr56=> ?_)
   simp only [cn_q] at hp56 hq56 hb56 hr56
   have hlk:p56=(longF (linkF A Q i) x34.len.q).x∧q56=(longF (linkF A Q i) x34.len.q).y∧b56=tofH (longF (linkF A Q i) x34.len.q).c∧r56=tofQ (longF (linkF A Q i) x34.len.q).c (longF (linkF A Q i) x34.len.q).s:=Zpu (ZiJ A Q i) h52 (hk_27_1.trans h26) hp56 hq56 hb56 hr56
   clear hp56 hq56 hb56 hr56
   rw [← hlx34] at hlk
   obtain⟨rfl,rfl,rfl,rfl⟩:=hlk
   refine⟨ωr,?_⟩
   refine⟨i+1,ω,by simp only;omega,?_⟩
   constructor<;>(repeat' (first|exact rfl|exact True.intro|apply And.intro))
   all_goals first
    |(rw [ZiI];rfl)
    |exact ωb
    |exact ωa
  ·have f32:¬ ((i:Int)< ((List.map lk A.links).length:Int)):=of_decide_eq_false e2
   refine⟨⟨row1 rfl,(by show ((List.map rdF (linksF A Q i)).length+1)*128≤_;omega),(by show ((List.map rdF (linksF A Q i)).length+1)≤_;omega)⟩,?_⟩
   refine Eq.trans (b:= .tup [.one (.d (.list (List.map rdF (linksF A Q i)++ [[D.v (.bool (cn (endF A Q i).x).s),D.v (.string (cn (endF A Q i).x).a),D.v (.string (cn (endF A Q i).x).d),D.v (.bool (cn (endF A Q i).y).s),D.v (.string (cn (endF A Q i).y).a),D.v (.string (cn (endF A Q i).y).d),D.v (.bool (tofH (endF A Q i).c)),D.v (.bool (cn (tofQ (endF A Q i).c (endF A Q i).s)).s),D.v (.string (cn (tofQ (endF A Q i).c (endF A Q i).s)).a),D.v (.string (cn (tofQ (endF A Q i).c (endF A Q i).s)).d)]]))),.one (.d (.v (.int .i64 (0))))]) ?_ rfl
   obtain rfl:i=A.links.length:=ω
   rw [Zbf h0,h0,framesF,List.map_append]
   all_goals rfl
theorem Zkk {A:ArmV} {Q:List RV} (hA:A.ok) (hQ:∀ x,x∈Q→x.z≤2097151) (k:∀ n,n=hasE A (Q.length:Int)→K (.tup [.one (.d (.list (List.map rdF (framesV A Q)))),.one (.d (.v (.int .i64 n)))])):Ask 39 [arm A,.val (.one (.d (.list (List.map rd Q))))] K:=use (Zjg A Q hA hQ) rfl (k _ rfl)
open Classical in
noncomputable def tipN (A:ArmV) (Q:List RV) (x:RV):RV:=if hasE A (Q.length:Int)=0 then x else z0
open Classical in
noncomputable def tipB (A:ArmV) (Q:List RV) (b:Bool):Bool:=if hasE A (Q.length:Int)=0 then b else false
theorem ZcV {A:ArmV} {Q:List RV} (h:hasE A (Q.length:Int)=0) (x:RV):tipN A Q x=x:=if_pos h
theorem ZhU {A:ArmV} {Q:List RV} (h:¬ hasE A (Q.length:Int)=0) (x:RV):tipN A Q x=z0:=if_neg h
theorem Zmj {A:ArmV} {Q:List RV} (h:hasE A (Q.length:Int)=0) (x:Bool):tipB A Q x=x:=if_pos h
theorem Zsj {A:ArmV} {Q:List RV} (h:¬ hasE A (Q.length:Int)=0) (x:Bool):tipB A Q x=false:=if_neg h
def tipF (A:ArmV) (Q:List RV):RF:=endF A Q A.links.length
theorem Zrb (A:ArmV) (Q:List RV) (hA:A.ok) (hQ:∀ x,x∈Q→x.z≤2097151):Spec Tryz.prog Tab 20 [arm A,.val (.one (.d (.list (List.map rd Q))))] (.tup [.agg [.d (.v (.bool (tipN A Q (cn (tipF A Q).x)).s)),.d (.v (.string (tipN A Q (cn (tipF A Q).x)).a)),.d (.v (.string (tipN A Q (cn (tipF A Q).x)).d)),.d (.v (.bool (tipN A Q (cn (tipF A Q).y)).s)),.d (.v (.string (tipN A Q (cn (tipF A Q).y)).a)),.d (.v (.string (tipN A Q (cn (tipF A Q).y)).d)),.d (.v (.bool (tipB A Q (tofH (tipF A Q).c)))),.d (.v (.bool (tipN A Q (cn (tofQ (tipF A Q).c (tipF A Q).s))).s)),.d (.v (.string (tipN A Q (cn (tofQ (tipF A Q).c (tipF A Q).s))).a)),.d (.v (.string (tipN A Q (cn (tofQ (tipF A Q).c (tipF A Q).s))).d))],.one (.d (.v (.int .i64 (hasE A (Q.length:Int)))))]):=by
 have hA2:=hA
 obtain⟨z1,z2,z3,z4,z5,z6⟩:=hA
 have hL:(List.map lk A.links).length=A.links.length:=List.length_map ..
 have hLq:(List.map rd Q).length=Q.length:=List.length_map ..
 have hQ2:∀ x,x∈Q→x.z≤2097152:=fun x hx=>Nat.le_trans (hQ x hx) ωd
 refine Za Tryz.func20 rfl rfl Tryz.ntmps20 rfl ωr rfl rfl ?_
 refine Zkk (A:=A) (Q:=Q) ωs ωs fun n11 hk_11_1=> ?_
 refine⟨fun e1=> ?_,fun e1=> ?_⟩
 ·have f15:n11≠0:=ZaD e1
  refine Eq.trans (b:= .tup [.agg [.d (.v (.bool z0.s)),.d (.v (.string z0.a)),.d (.v (.string z0.d)),.d (.v (.bool z0.s)),.d (.v (.string z0.a)),.d (.v (.string z0.d)),.d (.v (.bool false)),.d (.v (.bool z0.s)),.d (.v (.string z0.a)),.d (.v (.string z0.d))],.one (.d (.v (.int .i64 (n11))))]) ?_ rfl
  have hno:¬ hasE A (Q.length:Int)=0:=by rw [← hk_11_1];exact f15
  rw [ZhU hno,ZhU hno,ZhU hno,Zsj hno,← hk_11_1]
  all_goals rfl
 ·have f15:¬ (n11≠0):=fun hh=>hh (ZaE e1)
  have h0:hasE A (Q.length:Int)=0:=by rw [← hk_11_1];exact Classical.not_not.1 f15
  obtain⟨hA0,hlen0⟩:=Zaa.1 h0
  have hlen:Q.length=A.links.length:=ω
  obtain⟨hn3,hnz,_⟩:=ZaF hA0
  have hLv:(List.map rdF (framesV A Q)).length=(framesV A Q).length:=List.length_map ..
  have hLf:(framesV A Q).length=A.links.length+1:=by rw [Zbf h0,Zei]
  obtain⟨x22,hx22⟩:∃ vv,(framesV A Q)[((framesV A Q).length - 1)]? =some vv:=⟨_,List.getElem?_eq_getElem ωm⟩
  refine k_ix ((framesV A Q).length - 1) [D.v (.bool (cn x22.x).s),D.v (.string (cn x22.x).a),D.v (.string (cn x22.x).d),D.v (.bool (cn x22.y).s),D.v (.string (cn x22.y).a),D.v (.string (cn x22.y).d),D.v (.bool (tofH x22.c)),D.v (.bool (cn (tofQ x22.c x22.s)).s),D.v (.string (cn (tofQ x22.c x22.s)).a),D.v (.string (cn (tofQ x22.c x22.s)).d)] ωh (Ze hx22) rfl ?_
  refine Eq.trans (b:= .tup [.agg [.d (.v (.bool (cn x22.x).s)),.d (.v (.string (cn x22.x).a)),.d (.v (.string (cn x22.x).d)),.d (.v (.bool (cn x22.y).s)),.d (.v (.string (cn x22.y).a)),.d (.v (.string (cn x22.y).d)),.d (.v (.bool (tofH x22.c))),.d (.v (.bool (cn (tofQ x22.c x22.s)).s)),.d (.v (.string (cn (tofQ x22.c x22.s)).a)),.d (.v (.string (cn (tofQ x22.c x22.s)).d))],.one (.d (.v (.int .i64 (0))))]) ?_ rfl
  obtain rfl:x22=tipF A Q:=Zhq (by rw [← Zbf h0,show A.links.length=(framesV A Q).length - 1 from by omega];exact hx22)
  rw [ZcV h0,ZcV h0,ZcV h0,Zmj h0,h0]
  all_goals rfl
end
