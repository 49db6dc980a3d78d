/- Contracts: frames of arms: gantref3, package fore. Printed by wip/gp_fore.py. -/
import Derived.Test.YtpfhmelgcdgoeaaGreatDoorQGrpZ
set_option maxRecDepth 100000
open List (map length_map)
namespace Go.Proofs.YtpfhmelgcdgoeaaGreatDoor.eng
open Go.RowKit num mem seg q held ratA ratB ratC ratD ratE vars ratF trq
section
variable {K : AV → Prop}
theorem get_ex {α:Type} {l:List α} {i:Nat} (h:i< l.length) {G:Prop} (k:∀ x,l[i]? =some x→G):G:=k _ (List.getElem?_eq_getElem h)
theorem ZmQ {f:RF} (hu:f.u) {z1 z2 t p q r:Rat} {b:Bool} (h1:z1=((0:Int):Rat)) (h2:z2=((0:Int):Rat)) (hp:p=f.x+vtX (tofH f.c) (tofQ f.c f.s) z1 z2) (hq:q=f.y+vtY (tofH f.c) (tofQ f.c f.s) z1 z2)
  (hb:b=thnH (tofH f.c) false (tofQ f.c f.s) t) (hr:r=thnQ (tofH f.c) false (tofQ f.c f.s) t):p=(turnF f t).x∧q=(turnF f t).y∧b=tofH (turnF f t).c∧r=tofQ (turnF f t).c (turnF f t).s:=by
 obtain⟨e1,e2⟩:=ZrP hu z1 z2
 obtain⟨e3,e4⟩:=ZmG hu t
 rw [e1] at hp;rw [e2] at hq;rw [e3] at hb;rw [e4] at hr
 subst h1 h2
 rw [Rat.intCast_zero] at hp hq
 exact⟨by rw [hp];show _=f.x;grind,by rw [hq];show _=f.y;grind,hb,hr⟩
theorem Zqe {f:RF} (hu:f.u) {l z2 t p q r:Rat} {b:Bool} (h2:z2=((0:Int):Rat)) (ht:t=((0:Int):Rat)) (hp:p=f.x+vtX (tofH f.c) (tofQ f.c f.s) l z2) (hq:q=f.y+vtY (tofH f.c) (tofQ f.c f.s) l z2)
  (hb:b=thnH (tofH f.c) false (tofQ f.c f.s) t) (hr:r=thnQ (tofH f.c) false (tofQ f.c f.s) t):p=(longF f l).x∧q=(longF f l).y∧b=tofH (longF f l).c∧r=tofQ (longF f l).c (longF f l).s:=by
 obtain⟨e1,e2⟩:=ZrP hu l z2
 obtain⟨e3,e4⟩:=Zm0 f.c f.s (t:=t) (by rw [ht,Rat.intCast_zero])
 rw [e1] at hp;rw [e2] at hq;rw [e3] at hb;rw [e4] at hr
 subst h2
 rw [Rat.intCast_zero] at hp hq
 exact⟨by rw [hp];show _=f.x+f.c*l;grind,by rw [hq];show _=f.y+f.s*l;grind,hb,hr⟩
theorem Zuy {A:ArmV} (Q:List RV) (h:armE A=0):A.bx=cn (endF A Q 0).x∧A.by'=cn (endF A Q 0).y∧A.bh=tofH (endF A Q 0).c∧A.bt=cn (tofQ (endF A Q 0).c (endF A Q 0).s):=by
 obtain⟨_,_,h1,h2,h3,h4,_⟩:=Zad h
 obtain⟨e1,e2⟩:=ZuW A.bh A.bt.q
 refine⟨RV.good_cn h1.1,RV.good_cn h2.1,e1.symm,?_⟩
 show A.bt=cn (tofQ (cosq A.bh A.bt.q) (sinq (tq A.bh A.bt.q)))
 rw [e2]
 cases hb:A.bh
 ·exact RV.good_cn h3.1
 ·rw [ZdX,show ((0:Int):Rat)=A.bt.q from(h4 hb).symm];exact RV.good_cn h3.1
section
variable  {p q r u v y : Rat}
end
open Classical in
noncomputable def framesV (A:ArmV) (Q:List RV):List RF:=if hasE A (Q.length:Int)=0 then framesF A Q else []
theorem Zdb {A:ArmV} {Q:List RV} (h:hasE A (Q.length:Int)=0):framesV A Q=framesF A Q:=if_pos h
theorem Zl3 {A:ArmV} {Q:List RV} (h:¬ hasE A (Q.length:Int)=0):framesV A Q= []:=if_neg h
set_option maxHeartbeats 2000000 in
theorem Zjp (A:ArmV) (Q:List RV) (hA:A.ok) (hQ:∀ x,x∈Q→x.z≤2097151):Spec Tryz.prog Tab 40 [arm A,Xl rd Q] (.tup [.one (.d (.list (map rdF (framesV A Q)))),.one (.d (.v (.int .i64 (hasE A (Q.length:Int)))))]):=by
 have hA2:=hA
 obtain⟨z1,z2,z3,z4,z5,z6⟩:=hA
 have hL:(map lk A.links).length=A.links.length:=length_map ..
 have hLq:(map rd Q).length=Q.length:=length_map ..
 have hQ2:∀ x,x∈Q→x.z≤2097152:=fun x hx=>Nat.le_trans (hQ x hx) ωd
 refine Za Tryz.func40 rfl rfl Tryz.ntmps40 rfl ωr rfl rfl ?_
 refine Zfo (A:=A) (n:=((map rd Q).length:Int)) ωs fun n17 hk_17_1=> ?_
 rw [length_map] at hk_17_1
 refine⟨fun e1=> ?_,fun e1=> ?_⟩
 ·have f19:n17≠0:=ZU e1
  refine Eq.trans (b:= .tup [.one (.d (.list ([]))),.one (.d (.v (.int .i64 (n17))))]) ?_ rfl
  rw [Zl3 (by rw [← hk_17_1];exact f19),← hk_17_1]
  all_goals rfl
 ·have f19:¬ (n17≠0):=fun hh=>hh (ZV e1)
  have h0:hasE A (Q.length:Int)=0:=by rw [← hk_17_1];exact Classical.not_not.1 f19
  obtain⟨hA0,hlen0⟩:=Z3.1 h0
  have hlen:Q.length=A.links.length:=ω
  obtain⟨hn3,hnz,_⟩:=Zad hA0
  refine k_of (0) ω ω fun q23 h23 z23=> ?_
  simp only [cn_z] at z23
  refine k_of (0) ω ω fun q24 h24 z24=> ?_
  simp only [cn_z] at z24
  refine k_of (0) ω ω fun q26 h26 z26=> ?_
  simp only [cn_z] at z26
  refine Zgj (x:=cn q26) ωz (fun q27 hk_27_1 hk_27_2=> ?_)
  try simp only [cn_q] at hk_27_1
  simp only [cn_z] at hk_27_2
  obtain⟨hb1,hb2,hb3,hb4⟩:=Zuy Q hA0
  refine⟨Nat,fun i=> [(1,Xl rd Q),(7,.val (.one (.ptr 7 0))),(8,.val (.one (.ptr 8 0))),(9,.val (.one (.ptr 9 0))),(10,.val (.one (.row 48 0))),(29,Xl lk A.links),(30,int ((map lk A.links).length:Int)),(31,int (i:Int))],
   fun i=> [(7,.var 31 [Xb (cn (endF A Q i).x),Xs (cn (endF A Q i).x),Xt (cn (endF A Q i).x),Xb (cn (endF A Q i).y),Xs (cn (endF A Q i).y),Xt (cn (endF A Q i).y),.d (.v (.bool (tofH (endF A Q i).c))),Xb (cn (tofQ (endF A Q i).c (endF A Q i).s)),Xs (cn (tofQ (endF A Q i).c (endF A Q i).s)),Xt (cn (tofQ (endF A Q i).c (endF A Q i).s))]),(8,.var 27 [Xb (cn q23),Xs (cn q23),Xt (cn q23),Xb (cn q24),Xs (cn q24),Xt (cn q24)]),(9,.var 29 [.d (.v (.bool (false))),Xb (cn q27),Xs (cn q27),Xt (cn q27)]),(48,.row 31 10 0 (map rdF (linksF A Q i)) true)],fun i=>i≤A.links.length,fun i=>A.links.length - i,0,?_,Nat.zero_le _,fun i hs=> ?_⟩
  ·constructor<;>(repeat' (first|exact rfl|exact True.intro|exact⟨_,_,rfl⟩|exact ωd|apply And.intro))
   all_goals first
    |exact congrArg (fun v:RV=>D.v (.bool v.s)) hb1
    |exact congrArg (fun v:RV=>D.v (.bool v.s)) hb1.symm
    |exact congrArg (fun v:RV=>D.v (.bool v.s)) hb2
    |exact congrArg (fun v:RV=>D.v (.bool v.s)) hb2.symm
    |exact congrArg (fun v:RV=>D.v (.bool v.s)) hb4
    |exact congrArg (fun v:RV=>D.v (.bool v.s)) hb4.symm
    |exact congrArg (fun v:RV=>D.v (.string v.a)) hb1
    |exact congrArg (fun v:RV=>D.v (.string v.a)) hb1.symm
    |exact congrArg (fun v:RV=>D.v (.string v.a)) hb2
    |exact congrArg (fun v:RV=>D.v (.string v.a)) hb2.symm
    |exact congrArg (fun v:RV=>D.v (.string v.a)) hb4
    |exact congrArg (fun v:RV=>D.v (.string v.a)) hb4.symm
    |exact congrArg (fun v:RV=>D.v (.string v.d)) hb1
    |exact congrArg (fun v:RV=>D.v (.string v.d)) hb1.symm
    |exact congrArg (fun v:RV=>D.v (.string v.d)) hb2
    |exact congrArg (fun v:RV=>D.v (.string v.d)) hb2.symm
    |exact congrArg (fun v:RV=>D.v (.string v.d)) hb4
    |exact congrArg (fun v:RV=>D.v (.string v.d)) hb4.symm
    |exact congrArg (fun v:Bool=>D.v (.bool v)) hb3
    |exact congrArg (fun v:Bool=>D.v (.bool v)) hb3.symm
    |(simp;done)
  obtain⟨⟨c1,c2,c3,c4⟩,c5⟩:=Zuq hA0 hQ2 i ω
  have c6:=ZuV c3 c4
  have hT:(map rdF (linksF A Q i)).length≤3:=by rw [length_map,Zc7];omega
  refine⟨fun e2=> ?_,fun e2=> ?_⟩
  ·have f32:(i:Int)< ((map lk A.links).length:Int):=of_decide_eq_true e2
   obtain⟨x34,hx34⟩:∃ vv,A.links[i]? =some vv:=⟨_,List.getElem?_eq_getElem ωm⟩
   obtain⟨hs1,hs2,hs3,hs4,hs5,hs6,hs7⟩:=z6 x34 (List.mem_of_getElem? hx34)
   have hlx34:=Zkm hx34
   refine k_ix i [Yb x34.len,Ys x34.len,Yt x34.len,Yb x34.low,Ys x34.low,Yt x34.low,Yb x34.high,Ys x34.high,Yt x34.high,Yb x34.speed,Ys x34.speed,Yt x34.speed,Yb x34.brake,Ys x34.brake,Yt x34.brake,D.list (map rdv x34.shape)] ωh (Zc hx34) rfl ?_
   obtain⟨x40,hx40⟩:∃ vv,Q[i]? =some vv:=⟨_,List.getElem?_eq_getElem ωm⟩
   have hzx40:=hQ x40 (List.mem_of_getElem? hx40)
   have hqx40:=ZbG hx40
   refine k_ix i [Yb x40,Ys x40,Yt x40] ωh (Zc hx40) rfl ?_
   refine Zgj (x:=x40) ω (fun q42 hk_42_1 hk_42_2=> ?_)
   simp only [cn_z] at hk_42_2
   obtain rfl:q42=qAt Q i:=hk_42_1.trans hqx40.symm
   refine ZoQ (x:=cn (endF A Q i).x) (y:=cn (endF A Q i).y) (h:=tofH (endF A Q i).c) (z:=cn (tofQ (endF A Q i).c (endF A Q i).s)) (x2:=cn q23) (y2:=cn q24) (g:=false) (z2:=cn (qAt Q i)) ωz ωz ωz ωz ωz ωz (fun p44 q44 b44 r44 hp44 hq44 hb44 hr44=> ?_)
   simp only [cn_q] at hp44 hq44 hb44 hr44
   have hlk:p44=(linkF A Q i).x∧q44=(linkF A Q i).y∧b44=tofH (linkF A Q i).c∧r44=tofQ (linkF A Q i).c (linkF A Q i).s:=ZmQ (Zpg A Q i) h23 h24 hp44 hq44 hb44 hr44
   clear hp44 hq44 hb44 hr44
   obtain⟨rfl,rfl,rfl,rfl⟩:=hlk
   obtain⟨d1,d2,d3,d4⟩:=c5 ω
   have d6:=ZuV d3 d4
   refine⟨ωr,?_⟩
   refine⟨⟨row1 rfl,(by show ((map rdF (linksF A Q i)).length+1)*128≤_;omega),(by show ((map rdF (linksF A Q i)).length+1)≤_;omega)⟩,?_⟩
   refine k_of (0) ω ω fun q52 h52 z52=> ?_
   simp only [cn_z] at z52
   refine ZoQ (x:=cn (linkF A Q i).x) (y:=cn (linkF A Q i).y) (h:=tofH (linkF A Q i).c) (z:=cn (tofQ (linkF A Q i).c (linkF A Q i).s)) (x2:=x34.len) (y2:=cn q52) (g:=false) (z2:=cn q27) ωz ωz ωz ω ωz ωz (fun p56 q56 b56 r56 hp56 hq56 hb56 hr56=> ?_)
   simp only [cn_q] at hp56 hq56 hb56 hr56
   have hlk:p56=(longF (linkF A Q i) x34.len.q).x∧q56=(longF (linkF A Q i) x34.len.q).y∧b56=tofH (longF (linkF A Q i) x34.len.q).c∧r56=tofQ (longF (linkF A Q i) x34.len.q).c (longF (linkF A Q i) x34.len.q).s:=Zqe (ZtF A Q i) h52 (hk_27_1.trans h26) hp56 hq56 hb56 hr56
   clear hp56 hq56 hb56 hr56
   rw [← hlx34] at hlk
   obtain⟨rfl,rfl,rfl,rfl⟩:=hlk
   refine⟨ωr,?_⟩
   refine⟨i+1,ω,by simp only;omega,?_⟩
   constructor<;>(repeat' (first|exact rfl|exact True.intro|apply And.intro))
   all_goals first
    |(rw [ZiO];rfl)
    |exact ωb
    |exact ωa
  ·have f32:¬ ((i:Int)< ((map lk A.links).length:Int)):=of_decide_eq_false e2
   refine⟨⟨row1 rfl,(by show ((map rdF (linksF A Q i)).length+1)*128≤_;omega),(by show ((map rdF (linksF A Q i)).length+1)≤_;omega)⟩,?_⟩
   refine Eq.trans (b:= .tup [.one (.d (.list (map rdF (linksF A Q i)++ [[Yb (cn (endF A Q i).x),Ys (cn (endF A Q i).x),Yt (cn (endF A Q i).x),Yb (cn (endF A Q i).y),Ys (cn (endF A Q i).y),Yt (cn (endF A Q i).y),D.v (.bool (tofH (endF A Q i).c)),Yb (cn (tofQ (endF A Q i).c (endF A Q i).s)),Ys (cn (tofQ (endF A Q i).c (endF A Q i).s)),Yt (cn (tofQ (endF A Q i).c (endF A Q i).s))]]))),.one (.d (.v (.int .i64 (0))))]) ?_ rfl
   obtain rfl:i=A.links.length:=ω
   rw [Zdb h0,h0,framesF,List.map_append]
   all_goals rfl
theorem Zrj {A:ArmV} {Q:List RV} (hA:A.ok) (hQ:∀ x,x∈Q→x.z≤2097151) (k:∀ n,n=hasE A (Q.length:Int)→K (.tup [.one (.d (.list (map rdF (framesV A Q)))),.one (.d (.v (.int .i64 n)))])):Ask 40 [arm A,Xl rd Q] K:=use (Zjp A Q hA hQ) rfl (k _ rfl)
open Classical in
noncomputable def tipN (A:ArmV) (Q:List RV) (x:RV):RV:=if hasE A (Q.length:Int)=0 then x else z0
open Classical in
noncomputable def tipB (A:ArmV) (Q:List RV) (b:Bool):Bool:=if hasE A (Q.length:Int)=0 then b else false
theorem ZcZ {A:ArmV} {Q:List RV} (h:hasE A (Q.length:Int)=0) (x:RV):tipN A Q x=x:=if_pos h
theorem Zh4 {A:ArmV} {Q:List RV} (h:¬ hasE A (Q.length:Int)=0) (x:RV):tipN A Q x=z0:=if_neg h
theorem ZmM {A:ArmV} {Q:List RV} (h:hasE A (Q.length:Int)=0) (x:Bool):tipB A Q x=x:=if_pos h
theorem Zs2 {A:ArmV} {Q:List RV} (h:¬ hasE A (Q.length:Int)=0) (x:Bool):tipB A Q x=false:=if_neg h
def tipF (A:ArmV) (Q:List RV):RF:=endF A Q A.links.length
theorem ZrF (A:ArmV) (Q:List RV) (hA:A.ok) (hQ:∀ x,x∈Q→x.z≤2097151):Spec Tryz.prog Tab 17 [arm A,Xl rd Q] (.tup [.agg [Xb (tipN A Q (cn (tipF A Q).x)),Xs (tipN A Q (cn (tipF A Q).x)),Xt (tipN A Q (cn (tipF A Q).x)),Xb (tipN A Q (cn (tipF A Q).y)),Xs (tipN A Q (cn (tipF A Q).y)),Xt (tipN A Q (cn (tipF A Q).y)),.d (.v (.bool (tipB A Q (tofH (tipF A Q).c)))),Xb (tipN A Q (cn (tofQ (tipF A Q).c (tipF A Q).s))),Xs (tipN A Q (cn (tofQ (tipF A Q).c (tipF A Q).s))),Xt (tipN A Q (cn (tofQ (tipF A Q).c (tipF A Q).s)))],.one (.d (.v (.int .i64 (hasE A (Q.length:Int)))))]):=by
 have hA2:=hA
 obtain⟨z1,z2,z3,z4,z5,z6⟩:=hA
 have hL:(map lk A.links).length=A.links.length:=length_map ..
 have hLq:(map rd Q).length=Q.length:=length_map ..
 have hQ2:∀ x,x∈Q→x.z≤2097152:=fun x hx=>Nat.le_trans (hQ x hx) ωd
 refine Za Tryz.func17 rfl rfl Tryz.ntmps17 rfl ωr rfl rfl ?_
 refine Zrj (A:=A) (Q:=Q) ωs ωs fun n11 hk_11_1=> ?_
 refine⟨fun e1=> ?_,fun e1=> ?_⟩
 ·have f15:n11≠0:=ZU e1
  refine Eq.trans (b:= .tup [.agg [Xb z0,Xs z0,Xt z0,Xb z0,Xs z0,Xt z0,.d (.v (.bool false)),Xb z0,Xs z0,Xt z0],.one (.d (.v (.int .i64 (n11))))]) ?_ rfl
  have hno:¬ hasE A (Q.length:Int)=0:=by rw [← hk_11_1];exact f15
  rw [Zh4 hno,Zh4 hno,Zh4 hno,Zs2 hno,← hk_11_1]
  all_goals rfl
 ·have f15:¬ (n11≠0):=fun hh=>hh (ZV e1)
  have h0:hasE A (Q.length:Int)=0:=by rw [← hk_11_1];exact Classical.not_not.1 f15
  obtain⟨hA0,hlen0⟩:=Z3.1 h0
  have hlen:Q.length=A.links.length:=ω
  obtain⟨hn3,hnz,_⟩:=Zad hA0
  have hLv:(map rdF (framesV A Q)).length=(framesV A Q).length:=length_map ..
  have hLf:(framesV A Q).length=A.links.length+1:=by rw [Zdb h0,Zi2]
  obtain⟨x22,hx22⟩:∃ vv,(framesV A Q)[((framesV A Q).length - 1)]? =some vv:=⟨_,List.getElem?_eq_getElem ωm⟩
  refine k_ix ((framesV A Q).length - 1) [Yb (cn x22.x),Ys (cn x22.x),Yt (cn x22.x),Yb (cn x22.y),Ys (cn x22.y),Yt (cn x22.y),D.v (.bool (tofH x22.c)),Yb (cn (tofQ x22.c x22.s)),Ys (cn (tofQ x22.c x22.s)),Yt (cn (tofQ x22.c x22.s))] ωh (Zc hx22) rfl ?_
  refine Eq.trans (b:= .tup [.agg [Xb (cn x22.x),Xs (cn x22.x),Xt (cn x22.x),Xb (cn x22.y),Xs (cn x22.y),Xt (cn x22.y),.d (.v (.bool (tofH x22.c))),Xb (cn (tofQ x22.c x22.s)),Xs (cn (tofQ x22.c x22.s)),Xt (cn (tofQ x22.c x22.s))],.one (.d (.v (.int .i64 (0))))]) ?_ rfl
  obtain rfl:x22=tipF A Q:=Zhy (by rw [← Zdb h0,show A.links.length=(framesV A Q).length - 1 from by omega];exact hx22)
  rw [ZcZ h0,ZcZ h0,ZcZ h0,ZmM h0,h0]
  all_goals rfl
end
