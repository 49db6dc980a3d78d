/- Joined by wip/bundle.py: XShb0 XShbA. -/
import Derived.Test.YtgmkgfdjolchdaaGreatDoorQGrpR
set_option maxHeartbeats 4000000
set_option maxRecDepth 100000
namespace Go.Proofs.YtgmkgfdjolchdaaGreatDoor.eng
open Go.RowKit num mem seg q held ratA ratB ratC ratD ratE vars ratF trq
structure B4 where
 xl:Rat
 xh:Rat
 yl:Rat
 yh:Rat
def B4.le (b:B4):Prop:=b.xl≤b.xh∧b.yl≤b.yh
def B4.z (b:B4) (B:Nat):Prop:=(qs b.xl≤B∧qs b.xh≤B)∧qs b.yl≤B∧qs b.yh≤B
def atB (f:LF) (v:RV×RV):B4:=
 ⟨f.xl+(mulLo v.1.q v.1.q f.cl f.ch - mulHi v.2.q v.2.q f.sl f.sh),f.xh+(mulHi v.1.q v.1.q f.cl f.ch - mulLo v.2.q v.2.q f.sl f.sh),
  f.yl+(mulLo v.1.q v.1.q f.sl f.sh+mulLo v.2.q v.2.q f.cl f.ch),f.yh+(mulHi v.1.q v.1.q f.sl f.sh+mulHi v.2.q v.2.q f.cl f.ch)⟩
def joinB (a b:B4):B4:=⟨minQ a.xl b.xl,maxQ a.xh b.xh,minQ a.yl b.yl,maxQ a.yh b.yh⟩
def vAt (l:List (RV×RV)) (i:Nat):RV×RV:=(l[i]?).getD (z0,z0)
theorem Zl9 {l:List (RV×RV)} {i:Nat} {v:RV×RV} (h:l[i]? =some v):vAt l i=v:=by simp [vAt,h]
def bxF (f:LF) (l:List (RV×RV)):Nat→B4
 |0=>atB f (vAt l 0)
 |k+1=>joinB (bxF f l k) (atB f (vAt l (k+1)))
theorem ZnH {a b:Rat} {B:Nat} (h:qs a≤B) (g:qs b≤B):qs (minQ a b)≤B:=by unfold minQ;split<;>assumption
theorem ZnJ {a b:Rat} {B:Nat} (h:qs a≤B) (g:qs b≤B):qs (maxQ a b)≤B:=by unfold maxQ;split<;>assumption
theorem ZdA (x:Rat) {r u:Rat} (h:r≤u):mulLo x x r u≤mulHi x x r u:=Rat.le_trans (ZaV Rat.le_refl Rat.le_refl Rat.le_refl h).1 (ZaV Rat.le_refl Rat.le_refl Rat.le_refl h).2
theorem ZkN {f:LF} (h:f.le) (v:RV×RV):(atB f v).le:=by
 obtain⟨h1,h2,h3,h4⟩:=h
 have a:=ZdA v.1.q h3
 have b:=ZdA v.2.q h4
 have c:=ZdA v.1.q h4
 have d:=ZdA v.2.q h3
 unfold sle at*
 unfold atB B4.le
 refine⟨?_,?_⟩
 ·show _+(_ - _)≤_+(_ - _);grind
 ·show _+(_+_)≤_+(_+_);grind
theorem ZqJ {a b:B4} (h:a.le) (_:b.le):(joinB a b).le:=by
 unfold B4.le joinB at*
 refine⟨?_,?_⟩
 ·show minQ _ _≤maxQ _ _;unfold minQ maxQ;grind
 ·show minQ _ _≤maxQ _ _;unfold minQ maxQ;grind
theorem Zo9 {f:LF} (h:f.le) (l:List (RV×RV)):∀ k,(bxF f l k).le
 |0=>ZkN h _
 |k+1=>ZqJ (Zo9 h l k) (ZkN h _)
theorem ZtO {f:LF} {v:RV×RV} (hx:f.zx 28) (hc:f.zc 3) (hv:v.1.z≤8∧v.2.z≤8):(atB f v).z 400:=by
 obtain⟨⟨x1,x2⟩,x3,x4⟩:=hx
 obtain⟨⟨c1,c2⟩,c3,c4⟩:=hc
 have v1:=v.1.z1
 have v2:=v.2.z1
 obtain⟨a1,a2⟩:=Zj1 v.1.q v.1.q f.cl f.ch
 obtain⟨b1,b2⟩:=Zj1 v.2.q v.2.q f.sl f.sh
 obtain⟨d1,d2⟩:=Zj1 v.1.q v.1.q f.sl f.sh
 obtain⟨e1,e2⟩:=Zj1 v.2.q v.2.q f.cl f.ch
 have k1:=Zae (mulLo v.1.q v.1.q f.cl f.ch) (mulHi v.2.q v.2.q f.sl f.sh)
 have k2:=Zae (mulHi v.1.q v.1.q f.cl f.ch) (mulLo v.2.q v.2.q f.sl f.sh)
 have k3:=Zw (mulLo v.1.q v.1.q f.sl f.sh) (mulLo v.2.q v.2.q f.cl f.ch)
 have k4:=Zw (mulHi v.1.q v.1.q f.sl f.sh) (mulHi v.2.q v.2.q f.cl f.ch)
 have l1:=Zw f.xl (mulLo v.1.q v.1.q f.cl f.ch - mulHi v.2.q v.2.q f.sl f.sh)
 have l2:=Zw f.xh (mulHi v.1.q v.1.q f.cl f.ch - mulLo v.2.q v.2.q f.sl f.sh)
 have l3:=Zw f.yl (mulLo v.1.q v.1.q f.sl f.sh+mulLo v.2.q v.2.q f.cl f.ch)
 have l4:=Zw f.yh (mulHi v.1.q v.1.q f.sl f.sh+mulHi v.2.q v.2.q f.cl f.ch)
 unfold B4.z atB
 exact⟨⟨by simp only;omega,by simp only;omega⟩,by simp only;omega,by simp only;omega⟩
theorem Ztd {a b:B4} {B:Nat} (h:a.z B) (g:b.z B):(joinB a b).z B:=⟨⟨ZnH h.1.1 g.1.1,ZnJ h.1.2 g.1.2⟩,ZnH h.2.1 g.2.1,ZnJ h.2.2 g.2.2⟩
theorem ZtX {l:List (RV×RV)} (hl:∀ p,p∈l→p.1.z≤8∧p.2.z≤8) (i:Nat):(vAt l i).1.z≤8∧(vAt l i).2.z≤8:=by
 unfold vAt
 cases h:l[i]? with
 |none=>exact⟨(by decide:z0.z≤8),(by decide:z0.z≤8)⟩
 |some v=>exact hl v (List.mem_of_getElem? h)
theorem ZtJ {f:LF} {l:List (RV×RV)} (hx:f.zx 28) (hc:f.zc 3) (hl:∀ p,p∈l→p.1.z≤8∧p.2.z≤8):∀ k,(bxF f l k).z 400
 |0=>ZtO hx hc (ZtX hl 0)
 |k+1=>Ztd (ZtJ hx hc hl k) (ZtO hx hc (ZtX hl (k+1)))
def shOf (A:ArmV) (i:Nat):List (RV×RV):=((A.links[i]?).getD ⟨z0,z0,z0,z0,z0, []⟩).shape
theorem Zst {A:ArmV} {i:Nat} {l:LinkV} (h:A.links[i]? =some l):shOf A i=l.shape:=by simp [shOf,h]
def shbL (A:ArmV) (Q:List (RV×RV)) (n:Nat):List B4:=(List.range n).map fun i=>bxF (linkL A Q i) (shOf A i) ((shOf A i).length - 1)
theorem ZjD (A:ArmV) (Q:List (RV×RV)) (n:Nat):(shbL A Q n).length=n:=by simp [shbL]
theorem ZmO {α:Type} (g:B4→α) (A:ArmV) (Q:List (RV×RV)) (i:Nat):List.map g (shbL A Q (i+1))=List.map g (shbL A Q i)++ [g (bxF (linkL A Q i) (shOf A i) ((shOf A i).length - 1))]:=by
 simp [shbL,List.range_succ]
noncomputable def shbV (A:ArmV) (Q:List (RV×RV)):List B4:=if hasE A (Q.length:Int)=0 then shbL A Q A.links.length else []
theorem ZfE {A:ArmV} {Q:List (RV×RV)} (h:hasE A (Q.length:Int)=0):shbV A Q=shbL A Q A.links.length:=if_pos h
theorem Zss {A:ArmV} {Q:List (RV×RV)} (h:¬ hasE A (Q.length:Int)=0):shbV A Q= []:=if_neg h
theorem Zqy (A:ArmV) (Q:List (RV×RV)) (i:Nat):(linkL A Q i).le:=LF.has_le (Zha A Q i)
theorem Zg9 {A:ArmV} (hA:armE A=0) (Q:List (RV×RV)) {i:Nat} (hi:i< 3):(linkL A Q i).zx 28:=by
 obtain⟨⟨a,b⟩,c,d⟩:=Zqx hA Q i
 exact⟨⟨ω,ω⟩,ω,ω⟩
theorem Zrr {A:ArmV} (hA:armE A=0) (i:Nat):∀ p,p∈shOf A i→p.1.z≤8∧p.2.z≤8:=fun p hp=>by
 unfold shOf at hp
 cases h:A.links[i]? with
 |none=>rw [h] at hp;simp at hp
 |some l=>
  rw [h] at hp
  have hs:=(ZR hA (List.mem_of_getElem? h)).2.2.2.2.2.2.2.2.2.2 p hp
  have:=ZD hs.1
  have:=ZD hs.2
  omega
theorem ZpF {A:ArmV} (hA:armE A=0) {i:Nat} {l:LinkV} (h:A.links[i]? =some l):3≤l.shape.length∧l.shape.length≤8:=by
 have hc:=Za1.1 (ZR hA (List.mem_of_getElem? h)).2.2.2.2.2.2.2.2.2.1
 omega
theorem ZvZ {A:ArmV} (hA:armE A=0) (Q:List (RV×RV)):∀ b,b∈shbL A Q A.links.length→b.z 400:=fun b hb=>by
 obtain⟨i,hi,rfl⟩:=List.mem_map.1 (show b∈List.map _ _ from hb)
 have hi:i< A.links.length:=by simpa using hi
 have:=(ZaF hA).1
 exact ZtJ (Zg9 hA Q ω) (ZcG A Q i) (Zrr hA i) _
theorem linksL_at' {A:ArmV} {Q:List (RV×RV)} {n i:Nat} {f:LF} (h:(linksL A Q n)[i]? =some f):f=linkL A Q i:=by
 unfold linksL at h
 rw [List.getElem?_map] at h
 cases hr:(List.range n)[i]? with
 |none=>rw [hr] at h;simp at h
 |some j=>
  rw [hr] at h
  obtain⟨h1,h2⟩:=List.getElem?_eq_some_iff.1 hr
  simp only [List.getElem_range] at h2
  subst h2
  simpa using h.symm
theorem Zgu {A:ArmV} {Q:List (RV×RV)} {i:Nat} {f:LF} (hi:i< A.links.length) (h:(spreadL A Q)[i]? =some f):f=linkL A Q i:=by
 unfold spreadL at h
 rw [List.getElem?_append_left (by rw [show (linksL A Q A.links.length).length=A.links.length from by simp [linksL]];exact hi)] at h
 exact linksL_at' h
def rdB4 (b:B4):List D:=rd (cn b.xl)++rd (cn b.yl)++rd (cn b.xh)++rd (cn b.yh)
section
variable {K : AV → Prop}
theorem ZmP (f:LF) (v:RV×RV) (hf:f.le) (hx:f.zx 28) (hc:f.zc 3) (hv:v.1.z≤8∧v.2.z≤8):Spec Tryz.prog Tab 36 [loose (cn f.xl) (cn f.xh) (cn f.yl) (cn f.yh) (cn f.cl) (cn f.ch) (cn f.sl) (cn f.sh),pair v.1 v.2] (.tup [.agg [.d (.v (.bool (cn (atB f v).xl).s)),.d (.v (.string (cn (atB f v).xl).a)),.d (.v (.string (cn (atB f v).xl).d)),.d (.v (.bool (cn (atB f v).xh).s)),.d (.v (.string (cn (atB f v).xh).a)),.d (.v (.string (cn (atB f v).xh).d))],.agg [.d (.v (.bool (cn (atB f v).yl).s)),.d (.v (.string (cn (atB f v).yl).a)),.d (.v (.string (cn (atB f v).yl).d)),.d (.v (.bool (cn (atB f v).yh).s)),.d (.v (.string (cn (atB f v).yh).a)),.d (.v (.string (cn (atB f v).yh).d))]]):=by
 obtain⟨ol1,ol2,ol3,ol4⟩:=hf
 obtain⟨⟨zx1,zx2⟩,zx3,zx4⟩:=hx
 obtain⟨⟨zc1,zc2⟩,zc3,zc4⟩:=hc
 obtain⟨hv1,hv2⟩:=hv
 have hw1:=v.1.z1
 have hw2:=v.2.z1
 refine Za Tryz.func36 rfl rfl Tryz.ntmps36 rfl ωr rfl rfl ?_
 refine Zc5 (x:=v.1) ω (fun q10 hk_10_1 hk_10_2=> ?_)
 simp only [cn_z] at hk_10_2
 have hs10:sle q10 q10:=Rat.le_refl
 refine Zc5 (x:=v.2) ω (fun q13 hk_13_1 hk_13_2=> ?_)
 simp only [cn_z] at hk_13_2
 have hs13:sle q13 q13:=Rat.le_refl
 refine⟨ωr,?_⟩
 refine Zb8 (p:=q10) (q:=q10) (r:=f.cl) (u:=f.ch) ωs ωs ω ω ω ω (fun ya19 yb19 hk_19_2 hk_19_3 hk_19_4 hk_19_5 hk_19_6=> ?_)
 refine Zb8 (p:=q13) (q:=q13) (r:=f.sl) (u:=f.sh) ωs ωs ω ω ω ω (fun ya23 yb23 hk_23_2 hk_23_3 hk_23_4 hk_23_5 hk_23_6=> ?_)
 refine ZrM (p:=ya19) (q:=yb19) (r:=ya23) (u:=yb23) ωs ωs ω ω ω ω (fun ya24 yb24 hk_24_2 hk_24_3 hk_24_4 hk_24_5 hk_24_6=> ?_)
 refine Ze6 (p:=f.xl) (q:=f.xh) (r:=ya24) (u:=yb24) ωs ωs ω ω ω ω (fun ya25 yb25 hk_25_2 hk_25_3 hk_25_4 hk_25_5 hk_25_6=> ?_)
 refine Zb8 (p:=q10) (q:=q10) (r:=f.sl) (u:=f.sh) ωs ωs ω ω ω ω (fun ya31 yb31 hk_31_2 hk_31_3 hk_31_4 hk_31_5 hk_31_6=> ?_)
 refine Zb8 (p:=q13) (q:=q13) (r:=f.cl) (u:=f.ch) ωs ωs ω ω ω ω (fun ya35 yb35 hk_35_2 hk_35_3 hk_35_4 hk_35_5 hk_35_6=> ?_)
 refine Ze6 (p:=ya31) (q:=yb31) (r:=ya35) (u:=yb35) ωs ωs ω ω ω ω (fun ya36 yb36 hk_36_2 hk_36_3 hk_36_4 hk_36_5 hk_36_6=> ?_)
 refine Ze6 (p:=f.yl) (q:=f.yh) (r:=ya36) (u:=yb36) ωs ωs ω ω ω ω (fun ya37 yb37 hk_37_2 hk_37_3 hk_37_4 hk_37_5 hk_37_6=> ?_)
 refine⟨ωr,?_⟩
 refine Eq.trans (b:= .tup [.agg [.d (.v (.bool (cn ya25).s)),.d (.v (.string (cn ya25).a)),.d (.v (.string (cn ya25).d)),.d (.v (.bool (cn yb25).s)),.d (.v (.string (cn yb25).a)),.d (.v (.string (cn yb25).d))],.agg [.d (.v (.bool (cn ya37).s)),.d (.v (.string (cn ya37).a)),.d (.v (.string (cn ya37).d)),.d (.v (.bool (cn yb37).s)),.d (.v (.string (cn yb37).a)),.d (.v (.string (cn yb37).d))]]) ?_ rfl
 subst_vars;rfl
theorem ZrJ {f:LF} {v:RV×RV} (hf:f.le) (hx:f.zx 28) (hc:f.zc 3) (hv:v.1.z≤8∧v.2.z≤8) (k:K (.tup [.agg [.d (.v (.bool (cn (atB f v).xl).s)),.d (.v (.string (cn (atB f v).xl).a)),.d (.v (.string (cn (atB f v).xl).d)),.d (.v (.bool (cn (atB f v).xh).s)),.d (.v (.string (cn (atB f v).xh).a)),.d (.v (.string (cn (atB f v).xh).d))],.agg [.d (.v (.bool (cn (atB f v).yl).s)),.d (.v (.string (cn (atB f v).yl).a)),.d (.v (.string (cn (atB f v).yl).d)),.d (.v (.bool (cn (atB f v).yh).s)),.d (.v (.string (cn (atB f v).yh).a)),.d (.v (.string (cn (atB f v).yh).d))]])):Ask 36 [loose (cn f.xl) (cn f.xh) (cn f.yl) (cn f.yh) (cn f.cl) (cn f.ch) (cn f.sl) (cn f.sh),pair v.1 v.2] K:=use (ZmP f v hf hx hc hv) rfl k
theorem ZgM (A:ArmV) (Q:List (RV×RV)) (hA:A.ok) (hQ:∀ p,p∈Q→p.1.z≤3145760∧p.2.z≤3145760):Spec Tryz.prog Tab 11 [arm A,.val (.one (.d (.list (List.map rdv Q))))] (.tup [.one (.d (.list (List.map rdB4 (shbV A Q)))),.one (.d (.v (.int .i64 (hasE A (Q.length:Int)))))]):=by
 have hA2:=hA
 obtain⟨z1,z2,z3,z4,z5,z6⟩:=hA
 have hL:(List.map lk A.links).length=A.links.length:=List.length_map ..
 have hLq:(List.map rdv Q).length=Q.length:=List.length_map ..
 refine Za Tryz.func11 rfl rfl Tryz.ntmps11 rfl ωr rfl rfl ?_
 refine ZqG (A:=A) (Q:=Q) ωs ωs fun n20 hk_20_1=> ?_
 refine⟨fun e1=> ?_,fun e1=> ?_⟩
 ·have f24:n20≠0:=ZaD e1
  refine Eq.trans (b:= .tup [.one (.d (.list ([]))),.one (.d (.v (.int .i64 (n20))))]) ?_ rfl
  rw [Zss (by rw [← hk_20_1];exact f24),← hk_20_1]
  all_goals rfl
 ·have f24:¬ (n20≠0):=fun hh=>hh (ZaE e1)
  have h0:hasE A (Q.length:Int)=0:=by rw [← hk_20_1];exact Classical.not_not.1 f24
  have hA0:=(Zaa.1 h0).1
  have hn3:=(ZaF hA0).1
  have hLs0:(List.map rdL (spreadV A Q)).length=A.links.length+1:=by rw [List.length_map,ZbU h0,ZdR]
  have hLs2:(spreadV A Q).length=A.links.length+1:=by rw [ZbU h0,ZdR]
  refine⟨Nat,fun i=> [(6,.val (.one (.d (.list (List.map rdL (spreadV A Q)))))),(8,.val (.one (.row 76 0))),(27,.val (.one (.d (.list (List.map lk A.links))))),(28,int ((List.map lk A.links).length:Int)),(29,int (i:Int))],
   fun i=> [(76,.row 60 12 0 (List.map rdB4 (shbL A Q i)) true)],fun i=>i≤A.links.length,fun i=>A.links.length - i,0,?_,Nat.zero_le _,fun i hs=> ?_⟩
  ·exact ωe
  have hT:(List.map rdB4 (shbL A Q i)).length≤3:=by rw [List.length_map,ZjD];omega
  refine⟨fun e2=> ?_,fun e2=> ?_⟩
  ·have f30:(i:Int)< ((List.map lk A.links).length:Int):=of_decide_eq_true e2
   refine get_ex (l:=A.links) (i:=i) ωm fun x32 hx32=> ?_
   have hli:=hx32
   obtain⟨hs1,hs2,hs3,hs4,hs5,hs6,hs7⟩:=z6 x32 (List.mem_of_getElem? hx32)
   have hsh:=Zst hx32
   have hsp:=ZpF hA0 hx32
   have hLs:(List.map rdv x32.shape).length=x32.shape.length:=List.length_map ..
   have hsz:∀ p,p∈x32.shape→p.1.z≤8∧p.2.z≤8:=by rw [← hsh];exact Zrr hA0 i
   refine k_ix i [D.v (.bool x32.len.s),D.v (.string x32.len.a),D.v (.string x32.len.d),D.v (.bool x32.low.s),D.v (.string x32.low.a),D.v (.string x32.low.d),D.v (.bool x32.high.s),D.v (.string x32.high.a),D.v (.string x32.high.d),D.v (.bool x32.speed.s),D.v (.string x32.speed.a),D.v (.string x32.speed.d),D.v (.bool x32.brake.s),D.v (.string x32.brake.a),D.v (.string x32.brake.d),D.list (List.map rdv x32.shape)] ωh (Ze hx32) rfl ?_
   refine get_ex (l:=(spreadV A Q)) (i:=i) ωm fun x37 hx37=> ?_
   have hexx37:x37=linkL A Q i:=Zgu ω (by rw [← ZbU h0];exact hx37)
   have hfle:x37.le:=by rw [hexx37];exact Zqy A Q i
   have hfx:x37.zx 28:=by rw [hexx37];exact Zg9 hA0 Q ω
   have hfc:x37.zc 3:=by rw [hexx37];exact ZcG A Q i
   refine k_ix i [D.v (.bool (cn x37.xl).s),D.v (.string (cn x37.xl).a),D.v (.string (cn x37.xl).d),D.v (.bool (cn x37.xh).s),D.v (.string (cn x37.xh).a),D.v (.string (cn x37.xh).d),D.v (.bool (cn x37.yl).s),D.v (.string (cn x37.yl).a),D.v (.string (cn x37.yl).d),D.v (.bool (cn x37.yh).s),D.v (.string (cn x37.yh).a),D.v (.string (cn x37.yh).d),D.v (.bool (cn x37.cl).s),D.v (.string (cn x37.cl).a),D.v (.string (cn x37.cl).d),D.v (.bool (cn x37.ch).s),D.v (.string (cn x37.ch).a),D.v (.string (cn x37.ch).d),D.v (.bool (cn x37.sl).s),D.v (.string (cn x37.sl).a),D.v (.string (cn x37.sl).d),D.v (.bool (cn x37.sh).s),D.v (.string (cn x37.sh).a),D.v (.string (cn x37.sh).d)] ωh (Ze hx37) rfl ?_
   refine get_ex (l:=x32.shape) (i:=0) ωm fun x41 hx41=> ?_
   have hvx41:=hsz x41 (List.mem_of_getElem? hx41)
   have hz1x41:=hvx41.1
   have hz2x41:=hvx41.2
   have hvax41:=Zl9 hx41
   refine k_ix 0 [D.v (.bool x41.1.s),D.v (.string x41.1.a),D.v (.string x41.1.d),D.v (.bool x41.2.s),D.v (.string x41.2.a),D.v (.string x41.2.d)] ωh (Ze hx41) rfl ?_
   refine ZrJ (f:=x37) (v:=x41) hfle hfx hfc (by first|assumption|exact⟨ω,ω⟩) ?_
   refine⟨ωr,?_⟩
   refine ZrR 1 (List.map rdv (x32.shape.drop 1)) (by first|omega|(simp;omega)|simp) ωh (Zf1 fun _=>rfl) (List.map_drop.symm) ?_
   have hLd:(List.map rdv (x32.shape.drop 1)).length=x32.shape.length - 1:=by rw [List.length_map,List.length_drop]
   have hLd2:(x32.shape.drop 1).length=x32.shape.length - 1:=List.length_drop ..
   have hb0:atB x37 x41=bxF x37 x32.shape 0:=by unfold bxF;rw [hvax41]
   refine⟨Nat,fun k=> [(6,.val (.one (.d (.list (List.map rdL (spreadV A Q)))))),(8,.val (.one (.row 76 0))),(9,int (i:Int)),(11,.val (.one (.ptr 11 0))),(12,.val (.one (.ptr 12 0))),(27,.val (.one (.d (.list (List.map lk A.links))))),(28,int ((List.map lk A.links).length:Int)),(29,int (i:Int)),(48,.val (.one (.d (.list (List.map rdv (x32.shape.drop 1)))))),(49,int ((List.map rdv (x32.shape.drop 1)).length:Int)),(50,int (k:Int))],
    fun k=> [(11,.var 87 [.d (.v (.bool (cn (bxF x37 x32.shape k).xl).s)),.d (.v (.string (cn (bxF x37 x32.shape k).xl).a)),.d (.v (.string (cn (bxF x37 x32.shape k).xl).d)),.d (.v (.bool (cn (bxF x37 x32.shape k).xh).s)),.d (.v (.string (cn (bxF x37 x32.shape k).xh).a)),.d (.v (.string (cn (bxF x37 x32.shape k).xh).d))]),(12,.var 87 [.d (.v (.bool (cn (bxF x37 x32.shape k).yl).s)),.d (.v (.string (cn (bxF x37 x32.shape k).yl).a)),.d (.v (.string (cn (bxF x37 x32.shape k).yl).d)),.d (.v (.bool (cn (bxF x37 x32.shape k).yh).s)),.d (.v (.string (cn (bxF x37 x32.shape k).yh).a)),.d (.v (.string (cn (bxF x37 x32.shape k).yh).d))]),(76,.row 60 12 0 (List.map rdB4 (shbL A Q i)) true)],fun k=>k≤x32.shape.length - 1,fun k=>x32.shape.length - 1 - k,0,?_,Nat.zero_le _,fun k hs=> ?_⟩
   ·constructor<;>(repeat' (first|exact rfl|exact True.intro|exact⟨_,_,rfl⟩|exact ωd|apply And.intro))
    all_goals first
     |exact congrArg (fun b:B4=>D.v (.bool (cn b.xl).s)) hb0
     |exact congrArg (fun b:B4=>D.v (.bool (cn b.xl).s)) hb0.symm
     |exact congrArg (fun b:B4=>D.v (.string (cn b.xl).a)) hb0
     |exact congrArg (fun b:B4=>D.v (.string (cn b.xl).a)) hb0.symm
     |exact congrArg (fun b:B4=>D.v (.string (cn b.xl).d)) hb0
     |exact congrArg (fun b:B4=>D.v (.string (cn b.xl).d)) hb0.symm
     |exact congrArg (fun b:B4=>D.v (.bool (cn b.xh).s)) hb0
     |exact congrArg (fun b:B4=>D.v (.bool (cn b.xh).s)) hb0.symm
     |exact congrArg (fun b:B4=>D.v (.string (cn b.xh).a)) hb0
     |exact congrArg (fun b:B4=>D.v (.string (cn b.xh).a)) hb0.symm
     |exact congrArg (fun b:B4=>D.v (.string (cn b.xh).d)) hb0
     |exact congrArg (fun b:B4=>D.v (.string (cn b.xh).d)) hb0.symm
     |exact congrArg (fun b:B4=>D.v (.bool (cn b.yl).s)) hb0
     |exact congrArg (fun b:B4=>D.v (.bool (cn b.yl).s)) hb0.symm
     |exact congrArg (fun b:B4=>D.v (.string (cn b.yl).a)) hb0
     |exact congrArg (fun b:B4=>D.v (.string (cn b.yl).a)) hb0.symm
     |exact congrArg (fun b:B4=>D.v (.string (cn b.yl).d)) hb0
     |exact congrArg (fun b:B4=>D.v (.string (cn b.yl).d)) hb0.symm
     |exact congrArg (fun b:B4=>D.v (.bool (cn b.yh).s)) hb0
     |exact congrArg (fun b:B4=>D.v (.bool (cn b.yh).s)) hb0.symm
     |exact congrArg (fun b:B4=>D.v (.string (cn b.yh).a)) hb0
     |exact congrArg (fun b:B4=>D.v (.string (cn b.yh).a)) hb0.symm
     |exact congrArg (fun b:B4=>D.v (.string (cn b.yh).d)) hb0
     |exact congrArg (fun b:B4=>D.v (.string (cn b.yh).d)) hb0.symm
     |exact ωa
     |(simp;done)
   obtain⟨⟨bz1,bz2⟩,bz3,bz4⟩:=ZtJ hfx hfc hsz k
   have bl1:sle (bxF x37 x32.shape k).xl (bxF x37 x32.shape k).xh:=(Zo9 hfle x32.shape k).1
   have bl2:sle (bxF x37 x32.shape k).yl (bxF x37 x32.shape k).yh:=(Zo9 hfle x32.shape k).2
   refine⟨fun e3=> ?_,fun e3=> ?_⟩
   ·have f51:(k:Int)< ((List.map rdv (x32.shape.drop 1)).length:Int):=of_decide_eq_true e3
    refine get_ex (l:=(x32.shape.drop 1)) (i:=k) ωm fun x52 hx52=> ?_
    have hgx52:x32.shape[k+1]? =some x52:=by have:=hx52;rw [List.getElem?_drop,Nat.add_comm] at this;exact this
    have hvx52:=hsz x52 (List.mem_of_getElem? hgx52)
    have hz1x52:=hvx52.1
    have hz2x52:=hvx52.2
    have hvax52:=Zl9 hgx52
    refine k_ix k [D.v (.bool x52.1.s),D.v (.string x52.1.a),D.v (.string x52.1.d),D.v (.bool x52.2.s),D.v (.string x52.2.a),D.v (.string x52.2.d)] ωh (Ze hx52) rfl ?_
    refine k_ix i [D.v (.bool (cn x37.xl).s),D.v (.string (cn x37.xl).a),D.v (.string (cn x37.xl).d),D.v (.bool (cn x37.xh).s),D.v (.string (cn x37.xh).a),D.v (.string (cn x37.xh).d),D.v (.bool (cn x37.yl).s),D.v (.string (cn x37.yl).a),D.v (.string (cn x37.yl).d),D.v (.bool (cn x37.yh).s),D.v (.string (cn x37.yh).a),D.v (.string (cn x37.yh).d),D.v (.bool (cn x37.cl).s),D.v (.string (cn x37.cl).a),D.v (.string (cn x37.cl).d),D.v (.bool (cn x37.ch).s),D.v (.string (cn x37.ch).a),D.v (.string (cn x37.ch).d),D.v (.bool (cn x37.sl).s),D.v (.string (cn x37.sl).a),D.v (.string (cn x37.sl).d),D.v (.bool (cn x37.sh).s),D.v (.string (cn x37.sh).a),D.v (.string (cn x37.sh).d)] ωh (Ze hx37) rfl ?_
    refine ZrJ (f:=x37) (v:=x52) hfle hfx hfc (by first|assumption|exact⟨ω,ω⟩) ?_
    obtain⟨⟨az1,az2⟩,az3,az4⟩:=ZtO hfx hfc hvx52
    have al1:sle (atB x37 x52).xl (atB x37 x52).xh:=(ZkN hfle x52).1
    have al2:sle (atB x37 x52).yl (atB x37 x52).yh:=(ZkN hfle x52).2
    refine⟨ωr,?_⟩
    refine Zn7 (p:=(bxF x37 x32.shape k).xl) (q:=(bxF x37 x32.shape k).xh) (r:=(atB x37 x52).xl) (u:=(atB x37 x52).xh) ωs ωs ω ω ω ω (fun ya65 yb65 hk_65_2 hk_65_3 hk_65_4 hk_65_5 hk_65_6=> ?_)
    refine Zn7 (p:=(bxF x37 x32.shape k).yl) (q:=(bxF x37 x32.shape k).yh) (r:=(atB x37 x52).yl) (u:=(atB x37 x52).yh) ωs ωs ω ω ω ω (fun ya68 yb68 hk_68_2 hk_68_3 hk_68_4 hk_68_5 hk_68_6=> ?_)
    refine⟨ωr,?_⟩
    have hbs:bxF x37 x32.shape (k+1)=joinB (bxF x37 x32.shape k) (atB x37 x52):=by
     show joinB _ (atB x37 (vAt _ (k+1)))=_
     rw [hvax52]
    have e1:ya65=(bxF x37 x32.shape (k+1)).xl:=by rw [hk_65_2,hbs];rfl
    have e2:yb65=(bxF x37 x32.shape (k+1)).xh:=by rw [hk_65_3,hbs];rfl
    have e3:ya68=(bxF x37 x32.shape (k+1)).yl:=by rw [hk_68_2,hbs];rfl
    have e4:yb68=(bxF x37 x32.shape (k+1)).yh:=by rw [hk_68_3,hbs];rfl
    refine⟨k+1,ω,by simp only;omega,?_⟩
    constructor<;>(repeat' (first|exact rfl|exact True.intro|apply And.intro))
    all_goals first
     |exact congrArg (fun q:Rat=>D.v (.bool (cn q).s)) e1
     |exact congrArg (fun q:Rat=>D.v (.bool (cn q).s)) e1.symm
     |exact congrArg (fun q:Rat=>D.v (.string (cn q).a)) e1
     |exact congrArg (fun q:Rat=>D.v (.string (cn q).a)) e1.symm
     |exact congrArg (fun q:Rat=>D.v (.string (cn q).d)) e1
     |exact congrArg (fun q:Rat=>D.v (.string (cn q).d)) e1.symm
     |exact congrArg (fun q:Rat=>D.v (.bool (cn q).s)) e2
     |exact congrArg (fun q:Rat=>D.v (.bool (cn q).s)) e2.symm
     |exact congrArg (fun q:Rat=>D.v (.string (cn q).a)) e2
     |exact congrArg (fun q:Rat=>D.v (.string (cn q).a)) e2.symm
     |exact congrArg (fun q:Rat=>D.v (.string (cn q).d)) e2
     |exact congrArg (fun q:Rat=>D.v (.string (cn q).d)) e2.symm
     |exact congrArg (fun q:Rat=>D.v (.bool (cn q).s)) e3
     |exact congrArg (fun q:Rat=>D.v (.bool (cn q).s)) e3.symm
     |exact congrArg (fun q:Rat=>D.v (.string (cn q).a)) e3
     |exact congrArg (fun q:Rat=>D.v (.string (cn q).a)) e3.symm
     |exact congrArg (fun q:Rat=>D.v (.string (cn q).d)) e3
     |exact congrArg (fun q:Rat=>D.v (.string (cn q).d)) e3.symm
     |exact congrArg (fun q:Rat=>D.v (.bool (cn q).s)) e4
     |exact congrArg (fun q:Rat=>D.v (.bool (cn q).s)) e4.symm
     |exact congrArg (fun q:Rat=>D.v (.string (cn q).a)) e4
     |exact congrArg (fun q:Rat=>D.v (.string (cn q).a)) e4.symm
     |exact congrArg (fun q:Rat=>D.v (.string (cn q).d)) e4
     |exact congrArg (fun q:Rat=>D.v (.string (cn q).d)) e4.symm
     |exact ωb
     |exact ωa
   ·have f51:¬ ((k:Int)< ((List.map rdv (x32.shape.drop 1)).length:Int)):=of_decide_eq_false e3
    refine Zs6 (a:=cn (bxF x37 x32.shape k).xl) (b:=cn (bxF x37 x32.shape k).xh) (c:=cn (bxF x37 x32.shape k).yl) (d:=cn (bxF x37 x32.shape k).yh) (e:=z0) (f:=z0) (g:=z0) (h:=z0)  ?_
    refine⟨⟨row1 rfl,(by show ((List.map rdB4 (shbL A Q i)).length+1)*160≤_;omega),(by show ((List.map rdB4 (shbL A Q i)).length+1)≤_;omega)⟩,?_⟩
    have hk1:k=x32.shape.length - 1:=ω
    subst hk1
    refine⟨i+1,ω,by simp only;omega,?_⟩
    constructor<;>(repeat' (first|exact rfl|exact True.intro|apply And.intro))
    all_goals first
     |(rw [ZmO,← hexx37,hsh];rfl)
     |exact ωb
     |exact ωa
  ·have f30:¬ ((i:Int)< ((List.map lk A.links).length:Int)):=of_decide_eq_false e2
   refine Eq.trans (b:= .tup [.one (.d (.list (List.map rdB4 (shbL A Q i)))),.one (.d (.v (.int .i64 (0))))]) ?_ rfl
   obtain rfl:i=A.links.length:=ω
   rw [ZfE h0,h0]
   all_goals rfl
end
