/- Joined by wip/bundle.py: XShb0 XShbA XShbR. -/
import Derived.Test.YtpfemjpgbpnpkaaGreatDoorBGrpR
import Derived.Test.YtpfemjpgbpnpkaaGreatDoorBGrpX
set_option maxRecDepth 100000
namespace Go.Proofs.YtpfemjpgbpnpkaaGreatDoor.eng
open Go.RowKit num mem seg q held ratA ratB ratC ratD ratE vars ratF trq
structure B4 where
 xl:Rat
 xh:Rat
 yl:Rat
 yh:Rat
def B4.le (b:B4):Prop:=b.xl≤b.xh∧b.yl≤b.yh
def B4.z (b:B4) (B:Nat):Prop:=(qs b.xl≤B∧qs b.xh≤B)∧qs b.yl≤B∧qs b.yh≤B
def atL (f:LF) (v:RV×RV):B4:=
 ⟨f.xl+(mulLo v.1.q v.1.q f.cl f.ch - mulHi v.2.q v.2.q f.sl f.sh),f.xh+(mulHi v.1.q v.1.q f.cl f.ch - mulLo v.2.q v.2.q f.sl f.sh),
  f.yl+(mulLo v.1.q v.1.q f.sl f.sh+mulLo v.2.q v.2.q f.cl f.ch),f.yh+(mulHi v.1.q v.1.q f.sl f.sh+mulHi v.2.q v.2.q f.cl f.ch)⟩
def joinB (a b:B4):B4:=⟨minQ a.xl b.xl,maxQ a.xh b.xh,minQ a.yl b.yl,maxQ a.yh b.yh⟩
def vAt (l:List (RV×RV)) (i:Nat):RV×RV:=(l[i]?).getD (z0,z0)
theorem Zgp {l:List (RV×RV)} {i:Nat} {v:RV×RV} (h:l[i]? =some v):vAt l i=v:=by simp [vAt,h]
def bxF (f:LF) (l:List (RV×RV)):Nat→B4
 |0=>atL f (vAt l 0)
 |k+1=>joinB (bxF f l k) (atL f (vAt l (k+1)))
theorem Zm8 {a b:Rat} {B:Nat} (h:qs a≤B) (g:qs b≤B):qs (minQ a b)≤B:=by unfold minQ;split<;>assumption
theorem Znb {a b:Rat} {B:Nat} (h:qs a≤B) (g:qs b≤B):qs (maxQ a b)≤B:=by unfold maxQ;split<;>assumption
theorem Zk0 (b:B4):joinB b b=b:=by
 have m:∀ a:Rat,minQ a a=a:=fun a=>by unfold minQ;split<;>rfl
 have n:∀ a:Rat,maxQ a a=a:=fun a=>by unfold maxQ;split<;>rfl
 unfold joinB
 rw [m,n,m,n]
theorem ZdM (x:Rat) {r u:Rat} (h:r≤u):mulLo x x r u≤mulHi x x r u:=Rat.le_trans (Za0 Rat.le_refl Rat.le_refl Rat.le_refl h).1 (Za0 Rat.le_refl Rat.le_refl Rat.le_refl h).2
theorem Zj6 {f:LF} (h:f.le) (v:RV×RV):(atL f v).le:=by
 obtain⟨h1,h2,h3,h4⟩:=h
 have a:=ZdM v.1.q h3
 have b:=ZdM v.2.q h4
 have c:=ZdM v.1.q h4
 have d:=ZdM v.2.q h3
 unfold sle at*
 unfold atL B4.le
 refine⟨?_,?_⟩
 ·show _+(_ - _)≤_+(_ - _);grind
 ·show _+(_+_)≤_+(_+_);grind
theorem Zp6 {a b:B4} (h:a.le) (_:b.le):(joinB a b).le:=by
 unfold B4.le joinB at*
 refine⟨?_,?_⟩
 ·show minQ _ _≤maxQ _ _;unfold minQ maxQ;grind
 ·show minQ _ _≤maxQ _ _;unfold minQ maxQ;grind
theorem Zom {f:LF} (h:f.le) (l:List (RV×RV)):∀ k,(bxF f l k).le
 |0=>Zj6 h _
 |k+1=>Zp6 (Zom h l k) (Zj6 h _)
theorem Zsp {f:LF} {v:RV×RV} (hx:f.zx 28) (hc:f.zc 3) (hv:v.1.z≤8∧v.2.z≤8):(atL f v).z 400:=by
 obtain⟨⟨x1,x2⟩,x3,x4⟩:=hx
 obtain⟨⟨c1,c2⟩,c3,c4⟩:=hc
 have v1:=v.1.z1
 have v2:=v.2.z1
 obtain⟨a1,a2⟩:=Ze6 v.1.q v.1.q f.cl f.ch
 obtain⟨b1,b2⟩:=Ze6 v.2.q v.2.q f.sl f.sh
 obtain⟨d1,d2⟩:=Ze6 v.1.q v.1.q f.sl f.sh
 obtain⟨e1,e2⟩:=Ze6 v.2.q v.2.q f.cl f.ch
 have k1:=Zaf (mulLo v.1.q v.1.q f.cl f.ch) (mulHi v.2.q v.2.q f.sl f.sh)
 have k2:=Zaf (mulHi v.1.q v.1.q f.cl f.ch) (mulLo v.2.q v.2.q f.sl f.sh)
 have k3:=ZI (mulLo v.1.q v.1.q f.sl f.sh) (mulLo v.2.q v.2.q f.cl f.ch)
 have k4:=ZI (mulHi v.1.q v.1.q f.sl f.sh) (mulHi v.2.q v.2.q f.cl f.ch)
 have l1:=ZI f.xl (mulLo v.1.q v.1.q f.cl f.ch - mulHi v.2.q v.2.q f.sl f.sh)
 have l2:=ZI f.xh (mulHi v.1.q v.1.q f.cl f.ch - mulLo v.2.q v.2.q f.sl f.sh)
 have l3:=ZI f.yl (mulLo v.1.q v.1.q f.sl f.sh+mulLo v.2.q v.2.q f.cl f.ch)
 have l4:=ZI f.yh (mulHi v.1.q v.1.q f.sl f.sh+mulHi v.2.q v.2.q f.cl f.ch)
 unfold B4.z atL
 exact⟨⟨by simp only;omega,by simp only;omega⟩,by simp only;omega,by simp only;omega⟩
theorem Zsa {a b:B4} {B:Nat} (h:a.z B) (g:b.z B):(joinB a b).z B:=⟨⟨Zm8 h.1.1 g.1.1,Znb h.1.2 g.1.2⟩,Zm8 h.2.1 g.2.1,Znb h.2.2 g.2.2⟩
theorem Zsu {l:List (RV×RV)} (hl:∀ p,p∈l→p.1.z≤8∧p.2.z≤8) (i:Nat):(vAt l i).1.z≤8∧(vAt l i).2.z≤8:=by
 unfold vAt
 cases h:l[i]? with
 |none=>exact⟨(by decide:z0.z≤8),(by decide:z0.z≤8)⟩
 |some v=>exact hl v (List.mem_of_getElem? h)
theorem Zqh {f:LF} {l:List (RV×RV)} (hx:f.zx 28) (hc:f.zc 3) (hl:∀ p,p∈l→p.1.z≤8∧p.2.z≤8):∀ k,(bxF f l k).z 400
 |0=>Zsp hx hc (Zsu hl 0)
 |k+1=>Zsa (Zqh hx hc hl k) (Zsp hx hc (Zsu hl (k+1)))
def shOf (A:ArmV) (i:Nat):List (RV×RV):=((A.links[i]?).getD ⟨z0,z0,z0,z0,z0, []⟩).shape
theorem ZhW {A:ArmV} {i:Nat} {l:LinkV} (h:A.links[i]? =some l):shOf A i=l.shape:=by simp [shOf,h]
def shbL (A:ArmV) (Q:List (RV×RV)) (n:Nat):List B4:=(List.range n).map fun i=>bxF (linkL A Q i) (shOf A i) ((shOf A i).length - 1)
theorem ZdG (A:ArmV) (Q:List (RV×RV)) (n:Nat):(shbL A Q n).length=n:=by simp [shbL]
theorem ZgG {α:Type} (g:B4→α) (A:ArmV) (Q:List (RV×RV)) (i:Nat):List.map g (shbL A Q (i+1))=List.map g (shbL A Q i)++ [g (bxF (linkL A Q i) (shOf A i) ((shOf A i).length - 1))]:=by
 simp [shbL,List.range_succ]
noncomputable def shbV (A:ArmV) (Q:List (RV×RV)):List B4:=if hasE A (Q.length:Int)=0 then shbL A Q A.links.length else []
theorem Zmb {A:ArmV} {Q:List (RV×RV)} (h:hasE A (Q.length:Int)=0):shbV A Q=shbL A Q A.links.length:=if_pos h
theorem Zrm {A:ArmV} {Q:List (RV×RV)} (h:¬ hasE A (Q.length:Int)=0):shbV A Q= []:=if_neg h
theorem Zjx (A:ArmV) (Q:List (RV×RV)) (i:Nat):(linkL A Q i).le:=LF.has_le (ZcM A Q i)
theorem Zee {A:ArmV} (hA:armE A=0) (Q:List (RV×RV)) {i:Nat} (hi:i< 3):(linkL A Q i).zx 28:=by
 obtain⟨⟨a,b⟩,c,d⟩:=ZpL hA Q i
 exact⟨⟨by omega,by omega⟩,by omega,by omega⟩
theorem ZgH {A:ArmV} (hA:armE A=0) (i:Nat):∀ p,p∈shOf A i→p.1.z≤8∧p.2.z≤8:=fun p hp=>by
 unfold shOf at hp
 cases h:A.links[i]? with
 |none=>rw [h] at hp;simp at hp
 |some l=>
  rw [h] at hp
  have hs:=(ZaO hA (List.mem_of_getElem? h)).2.2.2.2.2.2.2.2.2.2 p hp
  have:=ZH hs.1
  have:=ZH hs.2
  omega
theorem Zjb {A:ArmV} (hA:armE A=0) {i:Nat} {l:LinkV} (h:A.links[i]? =some l):3≤l.shape.length∧l.shape.length≤8:=by
 have hc:=ZaM.1 (ZaO hA (List.mem_of_getElem? h)).2.2.2.2.2.2.2.2.2.1
 omega
theorem ZsJ {A:ArmV} (hA:armE A=0) (Q:List (RV×RV)):∀ b,b∈shbL A Q A.links.length→b.z 400:=fun b hb=>by
 obtain⟨i,hi,rfl⟩:=List.mem_map.1 (show b∈List.map _ _ from hb)
 have hi:i< A.links.length:=by simpa using hi
 have:=(ZaA hA).1
 exact Zqh (Zee hA Q (by omega)) (Zbv A Q i) (ZgH hA i) _
theorem linksL_at' {A:ArmV} {Q:List (RV×RV)} {n i:Nat} {f:LF} (h:(linksL A Q n)[i]? =some f):f=linkL A Q i:=by
 unfold linksL at h
 rw [List.getElem?_map] at h
 cases hr:(List.range n)[i]? with
 |none=>rw [hr] at h;simp at h
 |some j=>
  rw [hr] at h
  obtain⟨h1,h2⟩:=List.getElem?_eq_some_iff.1 hr
  simp only [List.getElem_range] at h2
  subst h2
  simpa using h.symm
theorem Zgt {A:ArmV} {Q:List (RV×RV)} {i:Nat} {f:LF} (hi:i< A.links.length) (h:(spreadL A Q)[i]? =some f):f=linkL A Q i:=by
 unfold spreadL at h
 rw [List.getElem?_append_left (by rw [show (linksL A Q A.links.length).length=A.links.length from by simp [linksL]];exact hi)] at h
 exact linksL_at' h
theorem Zgs (A:ArmV) (Q:List (RV×RV)):(spreadL A Q).take A.links.length=linksL A Q A.links.length:=by
 unfold spreadL
 exact List.take_left' (by simp [linksL])
def selX (j:Nat) (a b:Rat):Rat:=match j with
 |0=>a
 |_+1=>b
def selY (j:Nat) (a b:Rat):Rat:=match j with
 |0=>a
 |1=>a
 |_+2=>b
def rdB4 (b:B4):List D:=rd (cn b.xl)++rd (cn b.yl)++rd (cn b.xh)++rd (cn b.yh)
def rqB4 (b:B4):List D:=q3d b.xl++q3d b.xh++q3d b.yl++q3d b.yh
end Go.Proofs.YtpfemjpgbpnpkaaGreatDoor.eng
namespace Go.Proofs.YtpfemjpgbpnpkaaGreatDoor.eng
open Go.RowKit num mem seg q held ratA ratB ratC ratD ratE vars ratF trq
section
variable {K : AV → Prop}
set_option maxHeartbeats 2000000 in
theorem Zmc (f:LF) (v:RV×RV) (hf:f.le) (hx:f.zx 28) (hc:f.zc 3) (hv:v.1.z≤8∧v.2.z≤8):Spec Tryz.prog Tab 270 [loose (cn f.xl) (cn f.xh) (cn f.yl) (cn f.yh) (cn f.cl) (cn f.ch) (cn f.sl) (cn f.sh),pair v.1 v.2] (.tup [.agg [.d (.v (.bool (cn (atL f v).xl).s)),.d (.v (.string (cn (atL f v).xl).a)),.d (.v (.string (cn (atL f v).xl).d)),.d (.v (.bool (cn (atL f v).xh).s)),.d (.v (.string (cn (atL f v).xh).a)),.d (.v (.string (cn (atL f v).xh).d))],.agg [.d (.v (.bool (cn (atL f v).yl).s)),.d (.v (.string (cn (atL f v).yl).a)),.d (.v (.string (cn (atL f v).yl).d)),.d (.v (.bool (cn (atL f v).yh).s)),.d (.v (.string (cn (atL f v).yh).a)),.d (.v (.string (cn (atL f v).yh).d))]]):=by
 obtain⟨ol1,ol2,ol3,ol4⟩:=hf
 obtain⟨⟨zx1,zx2⟩,zx3,zx4⟩:=hx
 obtain⟨⟨zc1,zc2⟩,zc3,zc4⟩:=hc
 obtain⟨hv1,hv2⟩:=hv
 have hw1:=v.1.z1
 have hw2:=v.2.z1
 refine Za Tryz.func270 rfl rfl Tryz.ntmps270 rfl (by kernel_rfl) rfl rfl ?_
 refine Zdd (x:=v.1) (by omega) (fun q10 hk_10_1 hk_10_2=> ?_)
 simp only [cn_z] at hk_10_2
 have hs10:sle q10 q10:=Rat.le_refl
 refine Zdd (x:=v.2) (by omega) (fun q13 hk_13_1 hk_13_2=> ?_)
 simp only [cn_z] at hk_13_2
 have hs13:sle q13 q13:=Rat.le_refl
 refine⟨by kernel_rfl,?_⟩
 refine Zca (p:=q10) (q:=q10) (r:=f.cl) (u:=f.ch) (by assumption) (by assumption) (by omega) (by omega) (by omega) (by omega) (fun ya19 yb19 hk_19_2 hk_19_3 hk_19_4 hk_19_5 hk_19_6=> ?_)
 refine Zca (p:=q13) (q:=q13) (r:=f.sl) (u:=f.sh) (by assumption) (by assumption) (by omega) (by omega) (by omega) (by omega) (fun ya23 yb23 hk_23_2 hk_23_3 hk_23_4 hk_23_5 hk_23_6=> ?_)
 refine ZqS (p:=ya19) (q:=yb19) (r:=ya23) (u:=yb23) (by assumption) (by assumption) (by omega) (by omega) (by omega) (by omega) (fun ya24 yb24 hk_24_2 hk_24_3 hk_24_4 hk_24_5 hk_24_6=> ?_)
 refine Zfb (p:=f.xl) (q:=f.xh) (r:=ya24) (u:=yb24) (by assumption) (by assumption) (by omega) (by omega) (by omega) (by omega) (fun ya25 yb25 hk_25_2 hk_25_3 hk_25_4 hk_25_5 hk_25_6=> ?_)
 refine Zca (p:=q10) (q:=q10) (r:=f.sl) (u:=f.sh) (by assumption) (by assumption) (by omega) (by omega) (by omega) (by omega) (fun ya31 yb31 hk_31_2 hk_31_3 hk_31_4 hk_31_5 hk_31_6=> ?_)
 refine Zca (p:=q13) (q:=q13) (r:=f.cl) (u:=f.ch) (by assumption) (by assumption) (by omega) (by omega) (by omega) (by omega) (fun ya35 yb35 hk_35_2 hk_35_3 hk_35_4 hk_35_5 hk_35_6=> ?_)
 refine Zfb (p:=ya31) (q:=yb31) (r:=ya35) (u:=yb35) (by assumption) (by assumption) (by omega) (by omega) (by omega) (by omega) (fun ya36 yb36 hk_36_2 hk_36_3 hk_36_4 hk_36_5 hk_36_6=> ?_)
 refine Zfb (p:=f.yl) (q:=f.yh) (r:=ya36) (u:=yb36) (by assumption) (by assumption) (by omega) (by omega) (by omega) (by omega) (fun ya37 yb37 hk_37_2 hk_37_3 hk_37_4 hk_37_5 hk_37_6=> ?_)
 refine⟨by kernel_rfl,?_⟩
 refine Eq.trans (b:= .tup [.agg [.d (.v (.bool (cn ya25).s)),.d (.v (.string (cn ya25).a)),.d (.v (.string (cn ya25).d)),.d (.v (.bool (cn yb25).s)),.d (.v (.string (cn yb25).a)),.d (.v (.string (cn yb25).d))],.agg [.d (.v (.bool (cn ya37).s)),.d (.v (.string (cn ya37).a)),.d (.v (.string (cn ya37).d)),.d (.v (.bool (cn yb37).s)),.d (.v (.string (cn yb37).a)),.d (.v (.string (cn yb37).d))]]) ?_ rfl
 subst_vars;rfl
theorem ZqQ {f:LF} {v:RV×RV} (hf:f.le) (hx:f.zx 28) (hc:f.zc 3) (hv:v.1.z≤8∧v.2.z≤8) (k:K (.tup [.agg [.d (.v (.bool (cn (atL f v).xl).s)),.d (.v (.string (cn (atL f v).xl).a)),.d (.v (.string (cn (atL f v).xl).d)),.d (.v (.bool (cn (atL f v).xh).s)),.d (.v (.string (cn (atL f v).xh).a)),.d (.v (.string (cn (atL f v).xh).d))],.agg [.d (.v (.bool (cn (atL f v).yl).s)),.d (.v (.string (cn (atL f v).yl).a)),.d (.v (.string (cn (atL f v).yl).d)),.d (.v (.bool (cn (atL f v).yh).s)),.d (.v (.string (cn (atL f v).yh).a)),.d (.v (.string (cn (atL f v).yh).d))]])):Ask 270 [loose (cn f.xl) (cn f.xh) (cn f.yl) (cn f.yh) (cn f.cl) (cn f.ch) (cn f.sl) (cn f.sh),pair v.1 v.2] K:=use (Zmc f v hf hx hc hv) rfl k
set_option maxHeartbeats 4000000 in
theorem ZgI (A:ArmV) (Q:List (RV×RV)) (hA:A.ok) (hQ:∀ p,p∈Q→p.1.z≤3145760∧p.2.z≤3145760):Spec Tryz.prog Tab 234 [.val (.agg [.d (.v (.string A.name)),.d (.v (.bool A.bx.s)),.d (.v (.string A.bx.a)),.d (.v (.string A.bx.d)),.d (.v (.bool A.by'.s)),.d (.v (.string A.by'.a)),.d (.v (.string A.by'.d)),.d (.v (.bool (A.bh))),.d (.v (.bool A.bt.s)),.d (.v (.string A.bt.a)),.d (.v (.string A.bt.d)),.d (.list (List.map lk A.links))]),.val (.one (.d (.list (List.map rdv Q))))] (.tup [.one (.d (.list (List.map rdB4 (shbV A Q)))),.one (.d (.v (.int .i64 (hasE A (Q.length:Int)))))]):=by
 have hA2:=hA
 obtain⟨z1,z2,z3,z4,z5,z6⟩:=hA
 have hL:(List.map lk A.links).length=A.links.length:=List.length_map ..
 have hLq:(List.map rdv Q).length=Q.length:=List.length_map ..
 refine Za Tryz.func234 rfl rfl Tryz.ntmps234 rfl (by kernel_rfl) rfl rfl ?_
 refine ZpW (A:=A) (Q:=Q) (by assumption) (by assumption) fun n20 hk_20_1=> ?_
 refine⟨fun e1=> ?_,fun e1=> ?_⟩
 ·have f24:n20≠0:=Z8 e1
  refine Eq.trans (b:= .tup [.one (.d (.list ([]))),.one (.d (.v (.int .i64 (n20))))]) ?_ rfl
  rw [Zrm (by rw [← hk_20_1];exact f24),← hk_20_1]
  all_goals rfl
 ·have f24:¬ (n20≠0):=fun hh=>hh (Z9 e1)
  have h0:hasE A (Q.length:Int)=0:=by rw [← hk_20_1];exact Classical.not_not.1 f24
  have hA0:=(Z4.1 h0).1
  have hn3:=(ZaA hA0).1
  have hLs0:(List.map rdL (spreadV A Q)).length=A.links.length+1:=by rw [List.length_map,ZbW h0,Zch]
  have hLs2:(spreadV A Q).length=A.links.length+1:=by rw [ZbW h0,Zch]
  refine⟨Nat,fun i=> [(6,.val (.one (.d (.list (List.map rdL (spreadV A Q)))))),(8,.val (.one (.row 76 0))),(27,.val (.one (.d (.list (List.map lk A.links))))),(28,int ((List.map lk A.links).length:Int)),(29,int (i:Int))],
   fun i=> [(76,.row 129 12 0 (List.map rdB4 (shbL A Q i)) true)],fun i=>i≤A.links.length,fun i=>A.links.length - i,0,?_,Nat.zero_le _,fun i hs=> ?_⟩
  ·constructor<;>(repeat' (first|exact rfl|exact True.intro|exact⟨_,_,rfl⟩|exact(by decide)|apply And.intro))
   all_goals first|exact congrArg (fun n:Int=>D.v (.int .i64 n)) (by omega)|exact congrArg (fun n:Int=>D.v (.int .i64 n)) (by rw [wrap64 _ (by omega) (by omega)];omega)|(simp;done)
  have hT:(List.map rdB4 (shbL A Q i)).length≤3:=by rw [List.length_map,ZdG];omega
  refine⟨fun e2=> ?_,fun e2=> ?_⟩
  ·have f30:(i:Int)< ((List.map lk A.links).length:Int):=of_decide_eq_true e2
   refine Zq (l:=A.links) (i:=i) (by first|omega|exact Nat.mod_lt _ (by omega)) fun x32 hx32=> ?_
   have hli:=hx32
   obtain⟨hs1,hs2,hs3,hs4,hs5,hs6,hs7⟩:=z6 x32 (List.mem_of_getElem? hx32)
   have hsh:=ZhW hx32
   have hsp:=Zjb hA0 hx32
   have hLs:(List.map rdv x32.shape).length=x32.shape.length:=List.length_map ..
   have hsz:∀ p,p∈x32.shape→p.1.z≤8∧p.2.z≤8:=by rw [← hsh];exact ZgH hA0 i
   refine k_ix i [D.v (.bool x32.len.s),D.v (.string x32.len.a),D.v (.string x32.len.d),D.v (.bool x32.low.s),D.v (.string x32.low.a),D.v (.string x32.low.d),D.v (.bool x32.high.s),D.v (.string x32.high.a),D.v (.string x32.high.d),D.v (.bool x32.speed.s),D.v (.string x32.speed.a),D.v (.string x32.speed.d),D.v (.bool x32.brake.s),D.v (.string x32.brake.a),D.v (.string x32.brake.d),D.list (List.map rdv x32.shape)] (by first|rfl|omega|(rw [wrap64 _ (by omega) (by omega)];omega)) (Zf hx32) rfl ?_
   refine Zq (l:=(spreadV A Q)) (i:=i) (by first|omega|exact Nat.mod_lt _ (by omega)) fun x37 hx37=> ?_
   have hexx37:x37=linkL A Q i:=Zgt (by omega) (by rw [← ZbW h0];exact hx37)
   have hfle:x37.le:=by rw [hexx37];exact Zjx A Q i
   have hfx:x37.zx 28:=by rw [hexx37];exact Zee hA0 Q (by omega)
   have hfc:x37.zc 3:=by rw [hexx37];exact Zbv A Q i
   refine k_ix i [D.v (.bool (cn x37.xl).s),D.v (.string (cn x37.xl).a),D.v (.string (cn x37.xl).d),D.v (.bool (cn x37.xh).s),D.v (.string (cn x37.xh).a),D.v (.string (cn x37.xh).d),D.v (.bool (cn x37.yl).s),D.v (.string (cn x37.yl).a),D.v (.string (cn x37.yl).d),D.v (.bool (cn x37.yh).s),D.v (.string (cn x37.yh).a),D.v (.string (cn x37.yh).d),D.v (.bool (cn x37.cl).s),D.v (.string (cn x37.cl).a),D.v (.string (cn x37.cl).d),D.v (.bool (cn x37.ch).s),D.v (.string (cn x37.ch).a),D.v (.string (cn x37.ch).d),D.v (.bool (cn x37.sl).s),D.v (.string (cn x37.sl).a),D.v (.string (cn x37.sl).d),D.v (.bool (cn x37.sh).s),D.v (.string (cn x37.sh).a),D.v (.string (cn x37.sh).d)] (by first|rfl|omega|(rw [wrap64 _ (by omega) (by omega)];omega)) (Zf hx37) rfl ?_
   refine Zq (l:=x32.shape) (i:=0) (by first|omega|exact Nat.mod_lt _ (by omega)) fun x41 hx41=> ?_
   have hvx41:=hsz x41 (List.mem_of_getElem? hx41)
   have hz1x41:=hvx41.1
   have hz2x41:=hvx41.2
   have hvax41:=Zgp hx41
   refine k_ix 0 [D.v (.bool x41.1.s),D.v (.string x41.1.a),D.v (.string x41.1.d),D.v (.bool x41.2.s),D.v (.string x41.2.a),D.v (.string x41.2.d)] (by first|rfl|omega|(rw [wrap64 _ (by omega) (by omega)];omega)) (Zf hx41) rfl ?_
   refine ZqQ (f:=x37) (v:=x41) hfle hfx hfc (by first|assumption|exact⟨by omega,by omega⟩) ?_
   refine⟨by kernel_rfl,?_⟩
   refine ZqW 1 (List.map rdv (x32.shape.drop 1)) (by first|omega|(simp;omega)|simp) (by first|rfl|omega|(rw [wrap64 _ (by omega) (by omega)];omega)) (Zf1 fun _=>rfl) (List.map_drop.symm) ?_
   have hLd:(List.map rdv (x32.shape.drop 1)).length=x32.shape.length - 1:=by rw [List.length_map,List.length_drop]
   have hLd2:(x32.shape.drop 1).length=x32.shape.length - 1:=List.length_drop ..
   have hb0:atL x37 x41=bxF x37 x32.shape 0:=by unfold bxF;rw [hvax41]
   refine⟨Nat,fun k=> [(6,.val (.one (.d (.list (List.map rdL (spreadV A Q)))))),(8,.val (.one (.row 76 0))),(9,int (i:Int)),(11,.val (.one (.ptr 11 0))),(12,.val (.one (.ptr 12 0))),(27,.val (.one (.d (.list (List.map lk A.links))))),(28,int ((List.map lk A.links).length:Int)),(29,int (i:Int)),(48,.val (.one (.d (.list (List.map rdv (x32.shape.drop 1)))))),(49,int ((List.map rdv (x32.shape.drop 1)).length:Int)),(50,int (k:Int))],
    fun k=> [(11,.var 61 [.d (.v (.bool (cn (bxF x37 x32.shape k).xl).s)),.d (.v (.string (cn (bxF x37 x32.shape k).xl).a)),.d (.v (.string (cn (bxF x37 x32.shape k).xl).d)),.d (.v (.bool (cn (bxF x37 x32.shape k).xh).s)),.d (.v (.string (cn (bxF x37 x32.shape k).xh).a)),.d (.v (.string (cn (bxF x37 x32.shape k).xh).d))]),(12,.var 61 [.d (.v (.bool (cn (bxF x37 x32.shape k).yl).s)),.d (.v (.string (cn (bxF x37 x32.shape k).yl).a)),.d (.v (.string (cn (bxF x37 x32.shape k).yl).d)),.d (.v (.bool (cn (bxF x37 x32.shape k).yh).s)),.d (.v (.string (cn (bxF x37 x32.shape k).yh).a)),.d (.v (.string (cn (bxF x37 x32.shape k).yh).d))]),(76,.row 129 12 0 (List.map rdB4 (shbL A Q i)) true)],fun k=>k≤x32.shape.length - 1,fun k=>x32.shape.length - 1 - k,0,?_,Nat.zero_le _,fun k hs=> ?_⟩
   ·constructor<;>(repeat' (first|exact rfl|exact True.intro|exact⟨_,_,rfl⟩|exact(by decide)|apply And.intro))
    all_goals first
     |exact congrArg (fun b:B4=>D.v (.bool (cn b.xl).s)) hb0
     |exact congrArg (fun b:B4=>D.v (.bool (cn b.xl).s)) hb0.symm
     |exact congrArg (fun b:B4=>D.v (.string (cn b.xl).a)) hb0
     |exact congrArg (fun b:B4=>D.v (.string (cn b.xl).a)) hb0.symm
     |exact congrArg (fun b:B4=>D.v (.string (cn b.xl).d)) hb0
     |exact congrArg (fun b:B4=>D.v (.string (cn b.xl).d)) hb0.symm
     |exact congrArg (fun b:B4=>D.v (.bool (cn b.xh).s)) hb0
     |exact congrArg (fun b:B4=>D.v (.bool (cn b.xh).s)) hb0.symm
     |exact congrArg (fun b:B4=>D.v (.string (cn b.xh).a)) hb0
     |exact congrArg (fun b:B4=>D.v (.string (cn b.xh).a)) hb0.symm
     |exact congrArg (fun b:B4=>D.v (.string (cn b.xh).d)) hb0
     |exact congrArg (fun b:B4=>D.v (.string (cn b.xh).d)) hb0.symm
     |exact congrArg (fun b:B4=>D.v (.bool (cn b.yl).s)) hb0
     |exact congrArg (fun b:B4=>D.v (.bool (cn b.yl).s)) hb0.symm
     |exact congrArg (fun b:B4=>D.v (.string (cn b.yl).a)) hb0
     |exact congrArg (fun b:B4=>D.v (.string (cn b.yl).a)) hb0.symm
     |exact congrArg (fun b:B4=>D.v (.string (cn b.yl).d)) hb0
     |exact congrArg (fun b:B4=>D.v (.string (cn b.yl).d)) hb0.symm
     |exact congrArg (fun b:B4=>D.v (.bool (cn b.yh).s)) hb0
     |exact congrArg (fun b:B4=>D.v (.bool (cn b.yh).s)) hb0.symm
     |exact congrArg (fun b:B4=>D.v (.string (cn b.yh).a)) hb0
     |exact congrArg (fun b:B4=>D.v (.string (cn b.yh).a)) hb0.symm
     |exact congrArg (fun b:B4=>D.v (.string (cn b.yh).d)) hb0
     |exact congrArg (fun b:B4=>D.v (.string (cn b.yh).d)) hb0.symm
     |exact congrArg (fun n:Int=>D.v (.int .i64 n)) (by omega)
     |(simp;done)
   obtain⟨⟨bz1,bz2⟩,bz3,bz4⟩:=Zqh hfx hfc hsz k
   have bl1:sle (bxF x37 x32.shape k).xl (bxF x37 x32.shape k).xh:=(Zom hfle x32.shape k).1
   have bl2:sle (bxF x37 x32.shape k).yl (bxF x37 x32.shape k).yh:=(Zom hfle x32.shape k).2
   refine⟨fun e3=> ?_,fun e3=> ?_⟩
   ·have f51:(k:Int)< ((List.map rdv (x32.shape.drop 1)).length:Int):=of_decide_eq_true e3
    refine Zq (l:=(x32.shape.drop 1)) (i:=k) (by first|omega|exact Nat.mod_lt _ (by omega)) fun x52 hx52=> ?_
    have hgx52:x32.shape[k+1]? =some x52:=by have:=hx52;rw [List.getElem?_drop,Nat.add_comm] at this;exact this
    have hvx52:=hsz x52 (List.mem_of_getElem? hgx52)
    have hz1x52:=hvx52.1
    have hz2x52:=hvx52.2
    have hvax52:=Zgp hgx52
    refine k_ix k [D.v (.bool x52.1.s),D.v (.string x52.1.a),D.v (.string x52.1.d),D.v (.bool x52.2.s),D.v (.string x52.2.a),D.v (.string x52.2.d)] (by first|rfl|omega|(rw [wrap64 _ (by omega) (by omega)];omega)) (Zf hx52) rfl ?_
    refine k_ix i [D.v (.bool (cn x37.xl).s),D.v (.string (cn x37.xl).a),D.v (.string (cn x37.xl).d),D.v (.bool (cn x37.xh).s),D.v (.string (cn x37.xh).a),D.v (.string (cn x37.xh).d),D.v (.bool (cn x37.yl).s),D.v (.string (cn x37.yl).a),D.v (.string (cn x37.yl).d),D.v (.bool (cn x37.yh).s),D.v (.string (cn x37.yh).a),D.v (.string (cn x37.yh).d),D.v (.bool (cn x37.cl).s),D.v (.string (cn x37.cl).a),D.v (.string (cn x37.cl).d),D.v (.bool (cn x37.ch).s),D.v (.string (cn x37.ch).a),D.v (.string (cn x37.ch).d),D.v (.bool (cn x37.sl).s),D.v (.string (cn x37.sl).a),D.v (.string (cn x37.sl).d),D.v (.bool (cn x37.sh).s),D.v (.string (cn x37.sh).a),D.v (.string (cn x37.sh).d)] (by first|rfl|omega|(rw [wrap64 _ (by omega) (by omega)];omega)) (Zf hx37) rfl ?_
    refine ZqQ (f:=x37) (v:=x52) hfle hfx hfc (by first|assumption|exact⟨by omega,by omega⟩) ?_
    obtain⟨⟨az1,az2⟩,az3,az4⟩:=Zsp hfx hfc hvx52
    have al1:sle (atL x37 x52).xl (atL x37 x52).xh:=(Zj6 hfle x52).1
    have al2:sle (atL x37 x52).yl (atL x37 x52).yh:=(Zj6 hfle x52).2
    refine⟨by kernel_rfl,?_⟩
    refine Zny (p:=(bxF x37 x32.shape k).xl) (q:=(bxF x37 x32.shape k).xh) (r:=(atL x37 x52).xl) (u:=(atL x37 x52).xh) (by assumption) (by assumption) (by omega) (by omega) (by omega) (by omega) (fun ya65 yb65 hk_65_2 hk_65_3 hk_65_4 hk_65_5 hk_65_6=> ?_)
    refine Zny (p:=(bxF x37 x32.shape k).yl) (q:=(bxF x37 x32.shape k).yh) (r:=(atL x37 x52).yl) (u:=(atL x37 x52).yh) (by assumption) (by assumption) (by omega) (by omega) (by omega) (by omega) (fun ya68 yb68 hk_68_2 hk_68_3 hk_68_4 hk_68_5 hk_68_6=> ?_)
    refine⟨by kernel_rfl,?_⟩
    have hbs:bxF x37 x32.shape (k+1)=joinB (bxF x37 x32.shape k) (atL x37 x52):=by
     show joinB _ (atL x37 (vAt _ (k+1)))=_
     rw [hvax52]
    have e1:ya65=(bxF x37 x32.shape (k+1)).xl:=by rw [hk_65_2,hbs];rfl
    have e2:yb65=(bxF x37 x32.shape (k+1)).xh:=by rw [hk_65_3,hbs];rfl
    have e3:ya68=(bxF x37 x32.shape (k+1)).yl:=by rw [hk_68_2,hbs];rfl
    have e4:yb68=(bxF x37 x32.shape (k+1)).yh:=by rw [hk_68_3,hbs];rfl
    refine⟨k+1,by omega,by simp only;omega,?_⟩
    constructor<;>(repeat' (first|exact rfl|exact True.intro|apply And.intro))
    all_goals first
     |exact congrArg (fun q:Rat=>D.v (.bool (cn q).s)) e1
     |exact congrArg (fun q:Rat=>D.v (.bool (cn q).s)) e1.symm
     |exact congrArg (fun q:Rat=>D.v (.string (cn q).a)) e1
     |exact congrArg (fun q:Rat=>D.v (.string (cn q).a)) e1.symm
     |exact congrArg (fun q:Rat=>D.v (.string (cn q).d)) e1
     |exact congrArg (fun q:Rat=>D.v (.string (cn q).d)) e1.symm
     |exact congrArg (fun q:Rat=>D.v (.bool (cn q).s)) e2
     |exact congrArg (fun q:Rat=>D.v (.bool (cn q).s)) e2.symm
     |exact congrArg (fun q:Rat=>D.v (.string (cn q).a)) e2
     |exact congrArg (fun q:Rat=>D.v (.string (cn q).a)) e2.symm
     |exact congrArg (fun q:Rat=>D.v (.string (cn q).d)) e2
     |exact congrArg (fun q:Rat=>D.v (.string (cn q).d)) e2.symm
     |exact congrArg (fun q:Rat=>D.v (.bool (cn q).s)) e3
     |exact congrArg (fun q:Rat=>D.v (.bool (cn q).s)) e3.symm
     |exact congrArg (fun q:Rat=>D.v (.string (cn q).a)) e3
     |exact congrArg (fun q:Rat=>D.v (.string (cn q).a)) e3.symm
     |exact congrArg (fun q:Rat=>D.v (.string (cn q).d)) e3
     |exact congrArg (fun q:Rat=>D.v (.string (cn q).d)) e3.symm
     |exact congrArg (fun q:Rat=>D.v (.bool (cn q).s)) e4
     |exact congrArg (fun q:Rat=>D.v (.bool (cn q).s)) e4.symm
     |exact congrArg (fun q:Rat=>D.v (.string (cn q).a)) e4
     |exact congrArg (fun q:Rat=>D.v (.string (cn q).a)) e4.symm
     |exact congrArg (fun q:Rat=>D.v (.string (cn q).d)) e4
     |exact congrArg (fun q:Rat=>D.v (.string (cn q).d)) e4.symm
     |exact congrArg (fun n:Int=>D.v (.int .i64 n)) (by rw [wrap64 _ (by omega) (by omega)];omega)
     |exact congrArg (fun n:Int=>D.v (.int .i64 n)) (by omega)
   ·have f51:¬ ((k:Int)< ((List.map rdv (x32.shape.drop 1)).length:Int)):=of_decide_eq_false e3
    refine ZrZ (a:=cn (bxF x37 x32.shape k).xl) (b:=cn (bxF x37 x32.shape k).xh) (c:=cn (bxF x37 x32.shape k).yl) (d:=cn (bxF x37 x32.shape k).yh) (e:=z0) (f:=z0) (g:=z0) (h:=z0)  ?_
    refine⟨⟨row1 rfl,(by show ((List.map rdB4 (shbL A Q i)).length+1)*160≤_;omega),(by show ((List.map rdB4 (shbL A Q i)).length+1)≤_;omega)⟩,?_⟩
    have hk1:k=x32.shape.length - 1:=by omega
    subst hk1
    refine⟨i+1,by omega,by simp only;omega,?_⟩
    constructor<;>(repeat' (first|exact rfl|exact True.intro|apply And.intro))
    all_goals first
     |(rw [ZgG,← hexx37,hsh];rfl)
     |exact congrArg (fun n:Int=>D.v (.int .i64 n)) (by rw [wrap64 _ (by omega) (by omega)];omega)
     |exact congrArg (fun n:Int=>D.v (.int .i64 n)) (by omega)
  ·have f30:¬ ((i:Int)< ((List.map lk A.links).length:Int)):=of_decide_eq_false e2
   refine Eq.trans (b:= .tup [.one (.d (.list (List.map rdB4 (shbL A Q i)))),.one (.d (.v (.int .i64 (0))))]) ?_ rfl
   obtain rfl:i=A.links.length:=by omega
   rw [Zmb h0,h0]
   all_goals rfl
theorem Znt {A:ArmV} {Q:List (RV×RV)} (hA:A.ok) (hQ:∀ p,p∈Q→p.1.z≤3145760∧p.2.z≤3145760) (k:∀ n,n=hasE A (Q.length:Int)→K (.tup [.one (.d (.list (List.map rdB4 (shbV A Q)))),.one (.d (.v (.int .i64 n)))])):Ask 234 [.val (.agg [.d (.v (.string A.name)),.d (.v (.bool A.bx.s)),.d (.v (.string A.bx.a)),.d (.v (.string A.bx.d)),.d (.v (.bool A.by'.s)),.d (.v (.string A.by'.a)),.d (.v (.string A.by'.d)),.d (.v (.bool (A.bh))),.d (.v (.bool A.bt.s)),.d (.v (.string A.bt.a)),.d (.v (.string A.bt.d)),.d (.list (List.map lk A.links))]),.val (.one (.d (.list (List.map rdv Q))))] K:=use (ZgI A Q hA hQ) rfl (k _ rfl)
end
end Go.Proofs.YtpfemjpgbpnpkaaGreatDoor.eng
namespace Go.Proofs.YtpfemjpgbpnpkaaGreatDoor.eng
open Go.RowKit num mem seg q held ratA ratB ratC ratD ratE vars ratF trq
section
variable {K : AV → Prop}
def obC (b:Nat→B4):Nat→List C
 |0=> [.d (.v (.bool false)),.d (.v (.slice none 0 0)),.d (.v (.slice none 0 0)),.d (.v (.bool false)),.d (.v (.slice none 0 0)),.d (.v (.slice none 0 0)),.d (.v (.bool false)),.d (.v (.slice none 0 0)),.d (.v (.slice none 0 0)),.d (.v (.bool false)),.d (.v (.slice none 0 0)),.d (.v (.slice none 0 0))]
 |k+1=> [.d (.v (.bool (decide (((b k).xl).num< 0)))),.d (.list (W (w32 ((b k).xl).num.natAbs))),.d (.list (W (w32 ((b k).xl).den))),.d (.v (.bool (decide (((b k).xh).num< 0)))),.d (.list (W (w32 ((b k).xh).num.natAbs))),.d (.list (W (w32 ((b k).xh).den))),.d (.v (.bool (decide (((b k).yl).num< 0)))),.d (.list (W (w32 ((b k).yl).num.natAbs))),.d (.list (W (w32 ((b k).yl).den))),.d (.v (.bool (decide (((b k).yh).num< 0)))),.d (.list (W (w32 ((b k).yh).num.natAbs))),.d (.list (W (w32 ((b k).yh).den)))]
set_option maxHeartbeats 4000000 in
theorem ZoE (A:ArmV) (Q:List (RV×RV)) (hA:A.ok) (hA0:armE A=0) (hlen:Q.length=A.links.length) (hQ:∀ p,p∈Q→p.1.z≤3145760∧p.2.z≤3145760):Spec Tryz.prog Tab 237 [.val (.agg [.d (.v (.string A.name)),.d (.v (.bool A.bx.s)),.d (.v (.string A.bx.a)),.d (.v (.string A.bx.d)),.d (.v (.bool A.by'.s)),.d (.v (.string A.by'.a)),.d (.v (.string A.by'.d)),.d (.v (.bool (A.bh))),.d (.v (.bool A.bt.s)),.d (.v (.string A.bt.a)),.d (.v (.string A.bt.d)),.d (.list (List.map lk A.links))]),.val (.one (.d (.list (List.map rdv Q))))] (.val (.one (.d (.list (List.map rqB4 (shbL A Q A.links.length)))))):=by
 have hA2:=hA
 obtain⟨z1,z2,z3,z4,z5,z6⟩:=hA
 have hL:(List.map lk A.links).length=A.links.length:=List.length_map ..
 have hLq:(List.map rdv Q).length=Q.length:=List.length_map ..
 have hn3:=(ZaA hA0).1
 have hLs0:(List.map rqL (spreadL A Q)).length=A.links.length+1:=by rw [List.length_map,Zch]
 have hLl:(List.map rqL (linksL A Q A.links.length)).length=A.links.length:=by rw [List.length_map];simp [linksL]
 have hLl2:(linksL A Q A.links.length).length=A.links.length:=by simp [linksL]
 refine Za Tryz.func237 rfl rfl Tryz.ntmps237 rfl (by kernel_rfl) rfl rfl ?_
 refine ZnH (A:=A) (Q:=Q) (by assumption) hA0 hlen (by assumption) ?_
 refine Zta A.links.length (List.map rqL (linksL A Q A.links.length)) (by first|omega|(simp;omega)|simp) (by first|rfl|omega|(rw [wrap64 _ (by omega) (by omega)];omega)) (Zf1 fun _=>rfl) (by rw [← List.map_take,Zgs]) ?_
 refine⟨by kernel_rfl,?_⟩
 refine⟨Nat,fun i=> [(2,.val (.one (.ptr 2 0))),(5,.val (.one (.row 105 0))),(21,.val (.one (.d (.list (List.map rqL (linksL A Q A.links.length)))))),(22,int ((List.map rqL (linksL A Q A.links.length)).length:Int)),(23,int (i:Int))],
  fun i=> [(2,.var 32 [.d (.v (.string A.name)),.d (.v (.bool A.bx.s)),.d (.v (.string A.bx.a)),.d (.v (.string A.bx.d)),.d (.v (.bool A.by'.s)),.d (.v (.string A.by'.a)),.d (.v (.string A.by'.d)),.d (.v (.bool (A.bh))),.d (.v (.bool A.bt.s)),.d (.v (.string A.bt.a)),.d (.v (.string A.bt.d)),.d (.list (List.map lk A.links))]),(105,.row 271 12 0 (List.map rqB4 (shbL A Q i)) true)],fun i=>i≤A.links.length,fun i=>A.links.length - i,0,?_,Nat.zero_le _,fun i hs=> ?_⟩
 ·constructor<;>(repeat' (first|exact rfl|exact True.intro|exact⟨_,_,rfl⟩|exact(by decide)|apply And.intro))
  all_goals first|exact congrArg (fun n:Int=>D.v (.int .i64 n)) (by omega)|exact congrArg (fun n:Int=>D.v (.int .i64 n)) (by rw [wrap64 _ (by omega) (by omega)];omega)|(simp;done)
 have hT:(List.map rqB4 (shbL A Q i)).length≤3:=by rw [List.length_map,ZdG];omega
 refine⟨fun e1=> ?_,fun e1=> ?_⟩
 ·have f24:(i:Int)< ((List.map rqL (linksL A Q A.links.length)).length:Int):=of_decide_eq_true e1
  refine Zq (l:=(linksL A Q A.links.length)) (i:=i) (by first|omega|exact Nat.mod_lt _ (by omega)) fun x26 hx26=> ?_
  have hexx26:x26=linkL A Q i:=linksL_at' hx26
  have hfle:x26.le:=by rw [hexx26];exact Zjx A Q i
  have hfx:x26.zx 28:=by rw [hexx26];exact Zee hA0 Q (by omega)
  have hfc:x26.zc 3:=by rw [hexx26];exact Zbv A Q i
  have hfx2:=hfx
  have hfc2:=hfc
  obtain⟨⟨zx1,zx2⟩,zx3,zx4⟩:=hfx2
  obtain⟨⟨zc1,zc2⟩,zc3,zc4⟩:=hfc2
  refine k_ix i [D.v (.bool (decide (x26.xl.num< 0))),D.list (W (w32 x26.xl.num.natAbs)),D.list (W (w32 x26.xl.den)),D.v (.bool (decide (x26.xh.num< 0))),D.list (W (w32 x26.xh.num.natAbs)),D.list (W (w32 x26.xh.den)),D.v (.bool (decide (x26.yl.num< 0))),D.list (W (w32 x26.yl.num.natAbs)),D.list (W (w32 x26.yl.den)),D.v (.bool (decide (x26.yh.num< 0))),D.list (W (w32 x26.yh.num.natAbs)),D.list (W (w32 x26.yh.den)),D.v (.bool (decide (x26.cl.num< 0))),D.list (W (w32 x26.cl.num.natAbs)),D.list (W (w32 x26.cl.den)),D.v (.bool (decide (x26.ch.num< 0))),D.list (W (w32 x26.ch.num.natAbs)),D.list (W (w32 x26.ch.den)),D.v (.bool (decide (x26.sl.num< 0))),D.list (W (w32 x26.sl.num.natAbs)),D.list (W (w32 x26.sl.den)),D.v (.bool (decide (x26.sh.num< 0))),D.list (W (w32 x26.sh.num.natAbs)),D.list (W (w32 x26.sh.den))] (by first|rfl|omega|(rw [wrap64 _ (by omega) (by omega)];omega)) (Zf hx26) rfl ?_
  refine Zq (l:=A.links) (i:=i) (by first|omega|exact Nat.mod_lt _ (by omega)) fun x31 hx31=> ?_
  have hli:=hx31
  have hsh:=ZhW hx31
  have hsp:=Zjb hA0 hx31
  refine k_ix i [D.v (.bool x31.len.s),D.v (.string x31.len.a),D.v (.string x31.len.d),D.v (.bool x31.low.s),D.v (.string x31.low.a),D.v (.string x31.low.d),D.v (.bool x31.high.s),D.v (.string x31.high.a),D.v (.string x31.high.d),D.v (.bool x31.speed.s),D.v (.string x31.speed.a),D.v (.string x31.speed.d),D.v (.bool x31.brake.s),D.v (.string x31.brake.a),D.v (.string x31.brake.d),D.list (List.map rdv x31.shape)] (by first|rfl|omega|(rw [wrap64 _ (by omega) (by omega)];omega)) (Zf hx31) rfl ?_
  have hLo:(List.map rdv x31.shape).length=(shOf A i).length:=by rw [List.length_map,hsh]
  have hLo2:x31.shape.length=(shOf A i).length:=by rw [hsh]
  refine⟨Nat,fun k=> [(2,.val (.one (.ptr 2 0))),(5,.val (.one (.row 105 0))),(7,.val (.one (.ptr 7 0))),(8,.val (.one (.ptr 8 0))),(21,.val (.one (.d (.list (List.map rqL (linksL A Q A.links.length)))))),(22,int ((List.map rqL (linksL A Q A.links.length)).length:Int)),(23,int (i:Int)),(33,.val (.one (.d (.list (List.map rdv x31.shape))))),(34,int ((List.map rdv x31.shape).length:Int)),(35,int (k:Int))],
   fun k=> [(2,.var 32 [.d (.v (.string A.name)),.d (.v (.bool A.bx.s)),.d (.v (.string A.bx.a)),.d (.v (.string A.bx.d)),.d (.v (.bool A.by'.s)),.d (.v (.string A.by'.a)),.d (.v (.string A.by'.d)),.d (.v (.bool (A.bh))),.d (.v (.bool A.bt.s)),.d (.v (.string A.bt.a)),.d (.v (.string A.bt.d)),.d (.list (List.map lk A.links))]),(7,.var 319 [.d (.v (.bool (decide (x26.xl.num< 0)))),.d (.list (W (w32 x26.xl.num.natAbs))),.d (.list (W (w32 x26.xl.den))),.d (.v (.bool (decide (x26.xh.num< 0)))),.d (.list (W (w32 x26.xh.num.natAbs))),.d (.list (W (w32 x26.xh.den))),.d (.v (.bool (decide (x26.yl.num< 0)))),.d (.list (W (w32 x26.yl.num.natAbs))),.d (.list (W (w32 x26.yl.den))),.d (.v (.bool (decide (x26.yh.num< 0)))),.d (.list (W (w32 x26.yh.num.natAbs))),.d (.list (W (w32 x26.yh.den))),.d (.v (.bool (decide (x26.cl.num< 0)))),.d (.list (W (w32 x26.cl.num.natAbs))),.d (.list (W (w32 x26.cl.den))),.d (.v (.bool (decide (x26.ch.num< 0)))),.d (.list (W (w32 x26.ch.num.natAbs))),.d (.list (W (w32 x26.ch.den))),.d (.v (.bool (decide (x26.sl.num< 0)))),.d (.list (W (w32 x26.sl.num.natAbs))),.d (.list (W (w32 x26.sl.den))),.d (.v (.bool (decide (x26.sh.num< 0)))),.d (.list (W (w32 x26.sh.num.natAbs))),.d (.list (W (w32 x26.sh.den)))]),(8,.var 271 (obC (bxF x26 (shOf A i)) k)),(105,.row 271 12 0 (List.map rqB4 (shbL A Q i)) true)],fun k=>k≤(shOf A i).length,fun k=>(shOf A i).length - k,0,?_,Nat.zero_le _,fun k hs=> ?_⟩
  ·constructor<;>(repeat' (first|exact rfl|exact True.intro|exact⟨_,_,rfl⟩|exact(by decide)|apply And.intro))
   all_goals first|exact congrArg (fun n:Int=>D.v (.int .i64 n)) (by omega)|exact congrArg (fun n:Int=>D.v (.int .i64 n)) (by rw [wrap64 _ (by omega) (by omega)];omega)|(simp;done)
  refine⟨fun e2=> ?_,fun e2=> ?_⟩
  ·have f36:(k:Int)< ((List.map rdv x31.shape).length:Int):=of_decide_eq_true e2
   obtain rfl|⟨m,rfl⟩:k=0∨∃ m,k=m+1:=by
    rcases k with _|m
    ·exact .inl rfl
    ·exact .inr ⟨m,rfl⟩
   ·refine Zq (l:=x31.shape) (i:=0) (by first|omega|exact Nat.mod_lt _ (by omega)) fun x38 hx38=> ?_
    have hv38:=ZgH hA0 i x38 (by rw [hsh];exact List.mem_of_getElem? hx38)
    have hz1x38:=hv38.1
    have hz2x38:=hv38.2
    have hw1x38:=x38.1.z1
    have hw2x38:=x38.2.z1
    have hva:=Zgp (show (shOf A i)[_]? =some x38 from by rw [hsh];exact hx38)
    refine k_ix 0 [D.v (.bool x38.1.s),D.v (.string x38.1.a),D.v (.string x38.1.d),D.v (.bool x38.2.s),D.v (.string x38.2.a),D.v (.string x38.2.d)] (by first|rfl|omega|(rw [wrap64 _ (by omega) (by omega)];omega)) (Zf hx38) rfl ?_
    refine Zx (x:=x38.1) (by omega) (fun r42 hk_42_1 hk_42_2=> ?_)
    refine ZaJ (q:=r42)  ?_
    refine Zx (x:=x38.2) (by omega) (fun r46 hk_46_1 hk_46_2=> ?_)
    refine ZaJ (q:=r46)  ?_
    refine⟨by kernel_rfl,?_⟩
    refine Zan (p:=r42) (q:=r42) (r:=x26.cl) (u:=x26.ch) (by omega) (by omega) (by omega) (by omega) (fun ya53 yb53 hk_53_2 hk_53_3 hk_53_4 hk_53_5=> ?_)
    refine Zan (p:=r46) (q:=r46) (r:=x26.sl) (u:=x26.sh) (by omega) (by omega) (by omega) (by omega) (fun ya57 yb57 hk_57_2 hk_57_3 hk_57_4 hk_57_5=> ?_)
    refine Zim (p:=ya53) (q:=yb53) (r:=ya57) (u:=yb57) (by omega) (by omega) (by omega) (by omega) (fun ya58 yb58 hk_58_2 hk_58_3 hk_58_4 hk_58_5=> ?_)
    refine Zbw (p:=x26.xl) (q:=x26.xh) (r:=ya58) (u:=yb58) (by omega) (by omega) (by omega) (by omega) (fun ya59 yb59 hk_59_2 hk_59_3 hk_59_4 hk_59_5=> ?_)
    refine Zan (p:=r42) (q:=r42) (r:=x26.sl) (u:=x26.sh) (by omega) (by omega) (by omega) (by omega) (fun ya65 yb65 hk_65_2 hk_65_3 hk_65_4 hk_65_5=> ?_)
    refine Zan (p:=r46) (q:=r46) (r:=x26.cl) (u:=x26.ch) (by omega) (by omega) (by omega) (by omega) (fun ya69 yb69 hk_69_2 hk_69_3 hk_69_4 hk_69_5=> ?_)
    refine Zbw (p:=ya65) (q:=yb65) (r:=ya69) (u:=yb69) (by omega) (by omega) (by omega) (by omega) (fun ya70 yb70 hk_70_2 hk_70_3 hk_70_4 hk_70_5=> ?_)
    refine Zbw (p:=x26.yl) (q:=x26.yh) (r:=ya70) (u:=yb70) (by omega) (by omega) (by omega) (by omega) (fun ya71 yb71 hk_71_2 hk_71_3 hk_71_4 hk_71_5=> ?_)
    have ep1:ya59=(atL x26 x38).xl:=by rw [hk_59_2,hk_58_2,hk_53_2,hk_57_3,hk_42_1,hk_46_1];rfl
    have ep2:yb59=(atL x26 x38).xh:=by rw [hk_59_3,hk_58_3,hk_53_3,hk_57_2,hk_42_1,hk_46_1];rfl
    have ep3:ya71=(atL x26 x38).yl:=by rw [hk_71_2,hk_70_2,hk_65_2,hk_69_2,hk_42_1,hk_46_1];rfl
    have ep4:yb71=(atL x26 x38).yh:=by rw [hk_71_3,hk_70_3,hk_65_3,hk_69_3,hk_42_1,hk_46_1];rfl
    refine⟨by kernel_rfl,?_⟩
    refine⟨fun e3=> ?_,fun e3=> ?_⟩
    ·have f74:((0:Nat):Int)=0:=ZbS e3
     refine⟨Nat,fun j=> [(2,.val (.one (.ptr 2 0))),(5,.val (.one (.row 105 0))),(7,.val (.one (.ptr 7 0))),(8,.val (.one (.ptr 8 0))),(13,.val (.one (.ptr 13 0))),(21,.val (.one (.d (.list (List.map rqL (linksL A Q A.links.length)))))),(22,int ((List.map rqL (linksL A Q A.links.length)).length:Int)),(23,int (i:Int)),(33,.val (.one (.d (.list (List.map rdv x31.shape))))),(34,int ((List.map rdv x31.shape).length:Int)),(35,int ((0:Nat):Int)),(76,int (j:Int))],
      fun j=> [(2,.var 32 [.d (.v (.string A.name)),.d (.v (.bool A.bx.s)),.d (.v (.string A.bx.a)),.d (.v (.string A.bx.d)),.d (.v (.bool A.by'.s)),.d (.v (.string A.by'.a)),.d (.v (.string A.by'.d)),.d (.v (.bool (A.bh))),.d (.v (.bool A.bt.s)),.d (.v (.string A.bt.a)),.d (.v (.string A.bt.d)),.d (.list (List.map lk A.links))]),(7,.var 319 [.d (.v (.bool (decide (x26.xl.num< 0)))),.d (.list (W (w32 x26.xl.num.natAbs))),.d (.list (W (w32 x26.xl.den))),.d (.v (.bool (decide (x26.xh.num< 0)))),.d (.list (W (w32 x26.xh.num.natAbs))),.d (.list (W (w32 x26.xh.den))),.d (.v (.bool (decide (x26.yl.num< 0)))),.d (.list (W (w32 x26.yl.num.natAbs))),.d (.list (W (w32 x26.yl.den))),.d (.v (.bool (decide (x26.yh.num< 0)))),.d (.list (W (w32 x26.yh.num.natAbs))),.d (.list (W (w32 x26.yh.den))),.d (.v (.bool (decide (x26.cl.num< 0)))),.d (.list (W (w32 x26.cl.num.natAbs))),.d (.list (W (w32 x26.cl.den))),.d (.v (.bool (decide (x26.ch.num< 0)))),.d (.list (W (w32 x26.ch.num.natAbs))),.d (.list (W (w32 x26.ch.den))),.d (.v (.bool (decide (x26.sl.num< 0)))),.d (.list (W (w32 x26.sl.num.natAbs))),.d (.list (W (w32 x26.sl.den))),.d (.v (.bool (decide (x26.sh.num< 0)))),.d (.list (W (w32 x26.sh.num.natAbs))),.d (.list (W (w32 x26.sh.den)))]),(8,.var 271 [.d (.v (.bool (decide ((selX j ya59 (minQ ya59 ya59)).num< 0)))),.d (.list (W (w32 (selX j ya59 (minQ ya59 ya59)).num.natAbs))),.d (.list (W (w32 (selX j ya59 (minQ ya59 ya59)).den))),.d (.v (.bool (decide ((selX j yb59 (maxQ yb59 yb59)).num< 0)))),.d (.list (W (w32 (selX j yb59 (maxQ yb59 yb59)).num.natAbs))),.d (.list (W (w32 (selX j yb59 (maxQ yb59 yb59)).den))),.d (.v (.bool (decide ((selY j ya71 (minQ ya71 ya71)).num< 0)))),.d (.list (W (w32 (selY j ya71 (minQ ya71 ya71)).num.natAbs))),.d (.list (W (w32 (selY j ya71 (minQ ya71 ya71)).den))),.d (.v (.bool (decide ((selY j yb71 (maxQ yb71 yb71)).num< 0)))),.d (.list (W (w32 (selY j yb71 (maxQ yb71 yb71)).num.natAbs))),.d (.list (W (w32 (selY j yb71 (maxQ yb71 yb71)).den)))]),(13,.var 271 [.d (.v (.bool (decide (ya59.num< 0)))),.d (.list (W (w32 ya59.num.natAbs))),.d (.list (W (w32 ya59.den))),.d (.v (.bool (decide (yb59.num< 0)))),.d (.list (W (w32 yb59.num.natAbs))),.d (.list (W (w32 yb59.den))),.d (.v (.bool (decide (ya71.num< 0)))),.d (.list (W (w32 ya71.num.natAbs))),.d (.list (W (w32 ya71.den))),.d (.v (.bool (decide (yb71.num< 0)))),.d (.list (W (w32 yb71.num.natAbs))),.d (.list (W (w32 yb71.den)))]),(105,.row 271 12 0 (List.map rqB4 (shbL A Q i)) true)],fun j=>j≤2,fun j=>2 - j,0,?_,Nat.zero_le _,fun j hs=> ?_⟩
     ·constructor<;>(repeat' (first|exact rfl|exact True.intro|exact⟨_,_,rfl⟩|exact(by decide)|apply And.intro))
      all_goals first|exact congrArg (fun n:Int=>D.v (.int .i64 n)) (by omega)|exact congrArg (fun n:Int=>D.v (.int .i64 n)) (by rw [wrap64 _ (by omega) (by omega)];omega)|(simp;done)
     refine⟨fun e4=> ?_,fun e4=> ?_⟩
     ·have f77:(j:Int)< 2:=of_decide_eq_true e4
      obtain rfl|rfl:j=0∨j=1:=by omega
      ·refine Z0 (p:=ya59) (q:=ya59) (by omega) (by omega) (fun r88 hk_88_1 hk_88_2=> ?_)
       refine Zax (p:=yb59) (q:=yb59) (by omega) (by omega) (fun r97 hk_97_1 hk_97_2=> ?_)
       refine⟨by kernel_rfl,?_⟩
       refine⟨1,by omega,by simp only;omega,?_⟩
       constructor<;>(repeat' (first|exact rfl|exact True.intro|apply And.intro))
       all_goals first
        |exact congrArg (fun q:Rat=>D.v (.bool (decide (q.num< 0)))) hk_88_1
        |exact congrArg (fun q:Rat=>D.v (.bool (decide (q.num< 0)))) hk_88_1.symm
        |exact congrArg (fun q:Rat=>D.list (W (w32 q.num.natAbs))) hk_88_1
        |exact congrArg (fun q:Rat=>D.list (W (w32 q.num.natAbs))) hk_88_1.symm
        |exact congrArg (fun q:Rat=>D.list (W (w32 q.den))) hk_88_1
        |exact congrArg (fun q:Rat=>D.list (W (w32 q.den))) hk_88_1.symm
        |exact congrArg (fun q:Rat=>D.v (.bool (decide (q.num< 0)))) hk_97_1
        |exact congrArg (fun q:Rat=>D.v (.bool (decide (q.num< 0)))) hk_97_1.symm
        |exact congrArg (fun q:Rat=>D.list (W (w32 q.num.natAbs))) hk_97_1
        |exact congrArg (fun q:Rat=>D.list (W (w32 q.num.natAbs))) hk_97_1.symm
        |exact congrArg (fun q:Rat=>D.list (W (w32 q.den))) hk_97_1
        |exact congrArg (fun q:Rat=>D.list (W (w32 q.den))) hk_97_1.symm
        |exact congrArg (fun n:Int=>D.v (.int .i64 n)) (by rw [wrap64 _ (by omega) (by omega)];omega)
        |exact congrArg (fun n:Int=>D.v (.int .i64 n)) (by omega)
      ·refine Z0 (p:=ya71) (q:=ya71) (by omega) (by omega) (fun r88 hk_88_1 hk_88_2=> ?_)
       refine Zax (p:=yb71) (q:=yb71) (by omega) (by omega) (fun r97 hk_97_1 hk_97_2=> ?_)
       refine⟨by kernel_rfl,?_⟩
       refine⟨2,by omega,by simp only;omega,?_⟩
       constructor<;>(repeat' (first|exact rfl|exact True.intro|apply And.intro))
       all_goals first
        |exact congrArg (fun q:Rat=>D.v (.bool (decide (q.num< 0)))) hk_88_1
        |exact congrArg (fun q:Rat=>D.v (.bool (decide (q.num< 0)))) hk_88_1.symm
        |exact congrArg (fun q:Rat=>D.list (W (w32 q.num.natAbs))) hk_88_1
        |exact congrArg (fun q:Rat=>D.list (W (w32 q.num.natAbs))) hk_88_1.symm
        |exact congrArg (fun q:Rat=>D.list (W (w32 q.den))) hk_88_1
        |exact congrArg (fun q:Rat=>D.list (W (w32 q.den))) hk_88_1.symm
        |exact congrArg (fun q:Rat=>D.v (.bool (decide (q.num< 0)))) hk_97_1
        |exact congrArg (fun q:Rat=>D.v (.bool (decide (q.num< 0)))) hk_97_1.symm
        |exact congrArg (fun q:Rat=>D.list (W (w32 q.num.natAbs))) hk_97_1
        |exact congrArg (fun q:Rat=>D.list (W (w32 q.num.natAbs))) hk_97_1.symm
        |exact congrArg (fun q:Rat=>D.list (W (w32 q.den))) hk_97_1
        |exact congrArg (fun q:Rat=>D.list (W (w32 q.den))) hk_97_1.symm
        |exact congrArg (fun n:Int=>D.v (.int .i64 n)) (by rw [wrap64 _ (by omega) (by omega)];omega)
        |exact congrArg (fun n:Int=>D.v (.int .i64 n)) (by omega)
     ·have f77:¬ ((j:Int)< 2):=of_decide_eq_false e4
      obtain rfl:j=2:=by omega
      have hb:bxF x26 (shOf A i) 0=⟨ya59,yb59,ya71,yb71⟩:=by rw [ep1,ep2,ep3,ep4];show atL x26 (vAt _ 0)=_;rw [hva]
      have hj:joinB ⟨ya59,yb59,ya71,yb71⟩ ⟨ya59,yb59,ya71,yb71⟩=bxF x26 (shOf A i) 0:=by rw [Zk0,hb]
      refine⟨1,by omega,by simp only;omega,?_⟩
      constructor<;>(repeat' (first|exact rfl|exact True.intro|apply And.intro))
      all_goals first
       |exact congrArg (fun b:B4=>D.v (.bool (decide (b.xl.num< 0)))) hj
       |exact congrArg (fun b:B4=>D.v (.bool (decide (b.xl.num< 0)))) hj.symm
       |exact congrArg (fun b:B4=>D.list (W (w32 b.xl.num.natAbs))) hj
       |exact congrArg (fun b:B4=>D.list (W (w32 b.xl.num.natAbs))) hj.symm
       |exact congrArg (fun b:B4=>D.list (W (w32 b.xl.den))) hj
       |exact congrArg (fun b:B4=>D.list (W (w32 b.xl.den))) hj.symm
       |exact congrArg (fun b:B4=>D.v (.bool (decide (b.xh.num< 0)))) hj
       |exact congrArg (fun b:B4=>D.v (.bool (decide (b.xh.num< 0)))) hj.symm
       |exact congrArg (fun b:B4=>D.list (W (w32 b.xh.num.natAbs))) hj
       |exact congrArg (fun b:B4=>D.list (W (w32 b.xh.num.natAbs))) hj.symm
       |exact congrArg (fun b:B4=>D.list (W (w32 b.xh.den))) hj
       |exact congrArg (fun b:B4=>D.list (W (w32 b.xh.den))) hj.symm
       |exact congrArg (fun b:B4=>D.v (.bool (decide (b.yl.num< 0)))) hj
       |exact congrArg (fun b:B4=>D.v (.bool (decide (b.yl.num< 0)))) hj.symm
       |exact congrArg (fun b:B4=>D.list (W (w32 b.yl.num.natAbs))) hj
       |exact congrArg (fun b:B4=>D.list (W (w32 b.yl.num.natAbs))) hj.symm
       |exact congrArg (fun b:B4=>D.list (W (w32 b.yl.den))) hj
       |exact congrArg (fun b:B4=>D.list (W (w32 b.yl.den))) hj.symm
       |exact congrArg (fun b:B4=>D.v (.bool (decide (b.yh.num< 0)))) hj
       |exact congrArg (fun b:B4=>D.v (.bool (decide (b.yh.num< 0)))) hj.symm
       |exact congrArg (fun b:B4=>D.list (W (w32 b.yh.num.natAbs))) hj
       |exact congrArg (fun b:B4=>D.list (W (w32 b.yh.num.natAbs))) hj.symm
       |exact congrArg (fun b:B4=>D.list (W (w32 b.yh.den))) hj
       |exact congrArg (fun b:B4=>D.list (W (w32 b.yh.den))) hj.symm
       |exact congrArg (fun n:Int=>D.v (.int .i64 n)) (by rw [wrap64 _ (by omega) (by omega)];omega)
       |exact congrArg (fun n:Int=>D.v (.int .i64 n)) (by omega)
    ·have f74:¬ (((0:Nat):Int)=0):=ZbT e3
     exfalso
     exact f74 rfl
   ·obtain⟨⟨bz1,bz2⟩,bz3,bz4⟩:=Zqh hfx hfc (ZgH hA0 i) m
    refine Zq (l:=x31.shape) (i:=(m+1)) (by first|omega|exact Nat.mod_lt _ (by omega)) fun x38 hx38=> ?_
    have hv38:=ZgH hA0 i x38 (by rw [hsh];exact List.mem_of_getElem? hx38)
    have hz1x38:=hv38.1
    have hz2x38:=hv38.2
    have hw1x38:=x38.1.z1
    have hw2x38:=x38.2.z1
    have hva:=Zgp (show (shOf A i)[_]? =some x38 from by rw [hsh];exact hx38)
    refine k_ix (m+1) [D.v (.bool x38.1.s),D.v (.string x38.1.a),D.v (.string x38.1.d),D.v (.bool x38.2.s),D.v (.string x38.2.a),D.v (.string x38.2.d)] (by first|rfl|omega|(rw [wrap64 _ (by omega) (by omega)];omega)) (Zf hx38) rfl ?_
    refine Zx (x:=x38.1) (by omega) (fun r42 hk_42_1 hk_42_2=> ?_)
    refine ZaJ (q:=r42)  ?_
    refine Zx (x:=x38.2) (by omega) (fun r46 hk_46_1 hk_46_2=> ?_)
    refine ZaJ (q:=r46)  ?_
    refine⟨by kernel_rfl,?_⟩
    refine Zan (p:=r42) (q:=r42) (r:=x26.cl) (u:=x26.ch) (by omega) (by omega) (by omega) (by omega) (fun ya53 yb53 hk_53_2 hk_53_3 hk_53_4 hk_53_5=> ?_)
    refine Zan (p:=r46) (q:=r46) (r:=x26.sl) (u:=x26.sh) (by omega) (by omega) (by omega) (by omega) (fun ya57 yb57 hk_57_2 hk_57_3 hk_57_4 hk_57_5=> ?_)
    refine Zim (p:=ya53) (q:=yb53) (r:=ya57) (u:=yb57) (by omega) (by omega) (by omega) (by omega) (fun ya58 yb58 hk_58_2 hk_58_3 hk_58_4 hk_58_5=> ?_)
    refine Zbw (p:=x26.xl) (q:=x26.xh) (r:=ya58) (u:=yb58) (by omega) (by omega) (by omega) (by omega) (fun ya59 yb59 hk_59_2 hk_59_3 hk_59_4 hk_59_5=> ?_)
    refine Zan (p:=r42) (q:=r42) (r:=x26.sl) (u:=x26.sh) (by omega) (by omega) (by omega) (by omega) (fun ya65 yb65 hk_65_2 hk_65_3 hk_65_4 hk_65_5=> ?_)
    refine Zan (p:=r46) (q:=r46) (r:=x26.cl) (u:=x26.ch) (by omega) (by omega) (by omega) (by omega) (fun ya69 yb69 hk_69_2 hk_69_3 hk_69_4 hk_69_5=> ?_)
    refine Zbw (p:=ya65) (q:=yb65) (r:=ya69) (u:=yb69) (by omega) (by omega) (by omega) (by omega) (fun ya70 yb70 hk_70_2 hk_70_3 hk_70_4 hk_70_5=> ?_)
    refine Zbw (p:=x26.yl) (q:=x26.yh) (r:=ya70) (u:=yb70) (by omega) (by omega) (by omega) (by omega) (fun ya71 yb71 hk_71_2 hk_71_3 hk_71_4 hk_71_5=> ?_)
    have ep1:ya59=(atL x26 x38).xl:=by rw [hk_59_2,hk_58_2,hk_53_2,hk_57_3,hk_42_1,hk_46_1];rfl
    have ep2:yb59=(atL x26 x38).xh:=by rw [hk_59_3,hk_58_3,hk_53_3,hk_57_2,hk_42_1,hk_46_1];rfl
    have ep3:ya71=(atL x26 x38).yl:=by rw [hk_71_2,hk_70_2,hk_65_2,hk_69_2,hk_42_1,hk_46_1];rfl
    have ep4:yb71=(atL x26 x38).yh:=by rw [hk_71_3,hk_70_3,hk_65_3,hk_69_3,hk_42_1,hk_46_1];rfl
    refine⟨by kernel_rfl,?_⟩
    refine⟨fun e5=> ?_,fun e5=> ?_⟩
    ·have f74:((m+1:Nat):Int)=0:=ZbS e5
     exfalso
     omega
    ·have f74:¬ (((m+1:Nat):Int)=0):=ZbT e5
     refine⟨Nat,fun j=> [(2,.val (.one (.ptr 2 0))),(5,.val (.one (.row 105 0))),(7,.val (.one (.ptr 7 0))),(8,.val (.one (.ptr 8 0))),(13,.val (.one (.ptr 13 0))),(21,.val (.one (.d (.list (List.map rqL (linksL A Q A.links.length)))))),(22,int ((List.map rqL (linksL A Q A.links.length)).length:Int)),(23,int (i:Int)),(33,.val (.one (.d (.list (List.map rdv x31.shape))))),(34,int ((List.map rdv x31.shape).length:Int)),(35,int ((m+1:Nat):Int)),(76,int (j:Int))],
      fun j=> [(2,.var 32 [.d (.v (.string A.name)),.d (.v (.bool A.bx.s)),.d (.v (.string A.bx.a)),.d (.v (.string A.bx.d)),.d (.v (.bool A.by'.s)),.d (.v (.string A.by'.a)),.d (.v (.string A.by'.d)),.d (.v (.bool (A.bh))),.d (.v (.bool A.bt.s)),.d (.v (.string A.bt.a)),.d (.v (.string A.bt.d)),.d (.list (List.map lk A.links))]),(7,.var 319 [.d (.v (.bool (decide (x26.xl.num< 0)))),.d (.list (W (w32 x26.xl.num.natAbs))),.d (.list (W (w32 x26.xl.den))),.d (.v (.bool (decide (x26.xh.num< 0)))),.d (.list (W (w32 x26.xh.num.natAbs))),.d (.list (W (w32 x26.xh.den))),.d (.v (.bool (decide (x26.yl.num< 0)))),.d (.list (W (w32 x26.yl.num.natAbs))),.d (.list (W (w32 x26.yl.den))),.d (.v (.bool (decide (x26.yh.num< 0)))),.d (.list (W (w32 x26.yh.num.natAbs))),.d (.list (W (w32 x26.yh.den))),.d (.v (.bool (decide (x26.cl.num< 0)))),.d (.list (W (w32 x26.cl.num.natAbs))),.d (.list (W (w32 x26.cl.den))),.d (.v (.bool (decide (x26.ch.num< 0)))),.d (.list (W (w32 x26.ch.num.natAbs))),.d (.list (W (w32 x26.ch.den))),.d (.v (.bool (decide (x26.sl.num< 0)))),.d (.list (W (w32 x26.sl.num.natAbs))),.d (.list (W (w32 x26.sl.den))),.d (.v (.bool (decide (x26.sh.num< 0)))),.d (.list (W (w32 x26.sh.num.natAbs))),.d (.list (W (w32 x26.sh.den)))]),(8,.var 271 [.d (.v (.bool (decide ((selX j ((bxF x26 (shOf A i) m).xl) (minQ ((bxF x26 (shOf A i) m).xl) ya59)).num< 0)))),.d (.list (W (w32 (selX j ((bxF x26 (shOf A i) m).xl) (minQ ((bxF x26 (shOf A i) m).xl) ya59)).num.natAbs))),.d (.list (W (w32 (selX j ((bxF x26 (shOf A i) m).xl) (minQ ((bxF x26 (shOf A i) m).xl) ya59)).den))),.d (.v (.bool (decide ((selX j ((bxF x26 (shOf A i) m).xh) (maxQ ((bxF x26 (shOf A i) m).xh) yb59)).num< 0)))),.d (.list (W (w32 (selX j ((bxF x26 (shOf A i) m).xh) (maxQ ((bxF x26 (shOf A i) m).xh) yb59)).num.natAbs))),.d (.list (W (w32 (selX j ((bxF x26 (shOf A i) m).xh) (maxQ ((bxF x26 (shOf A i) m).xh) yb59)).den))),.d (.v (.bool (decide ((selY j ((bxF x26 (shOf A i) m).yl) (minQ ((bxF x26 (shOf A i) m).yl) ya71)).num< 0)))),.d (.list (W (w32 (selY j ((bxF x26 (shOf A i) m).yl) (minQ ((bxF x26 (shOf A i) m).yl) ya71)).num.natAbs))),.d (.list (W (w32 (selY j ((bxF x26 (shOf A i) m).yl) (minQ ((bxF x26 (shOf A i) m).yl) ya71)).den))),.d (.v (.bool (decide ((selY j ((bxF x26 (shOf A i) m).yh) (maxQ ((bxF x26 (shOf A i) m).yh) yb71)).num< 0)))),.d (.list (W (w32 (selY j ((bxF x26 (shOf A i) m).yh) (maxQ ((bxF x26 (shOf A i) m).yh) yb71)).num.natAbs))),.d (.list (W (w32 (selY j ((bxF x26 (shOf A i) m).yh) (maxQ ((bxF x26 (shOf A i) m).yh) yb71)).den)))]),(13,.var 271 [.d (.v (.bool (decide (ya59.num< 0)))),.d (.list (W (w32 ya59.num.natAbs))),.d (.list (W (w32 ya59.den))),.d (.v (.bool (decide (yb59.num< 0)))),.d (.list (W (w32 yb59.num.natAbs))),.d (.list (W (w32 yb59.den))),.d (.v (.bool (decide (ya71.num< 0)))),.d (.list (W (w32 ya71.num.natAbs))),.d (.list (W (w32 ya71.den))),.d (.v (.bool (decide (yb71.num< 0)))),.d (.list (W (w32 yb71.num.natAbs))),.d (.list (W (w32 yb71.den)))]),(105,.row 271 12 0 (List.map rqB4 (shbL A Q i)) true)],fun j=>j≤2,fun j=>2 - j,0,?_,Nat.zero_le _,fun j hs=> ?_⟩
     ·constructor<;>(repeat' (first|exact rfl|exact True.intro|exact⟨_,_,rfl⟩|exact(by decide)|apply And.intro))
      all_goals first|exact congrArg (fun n:Int=>D.v (.int .i64 n)) (by omega)|exact congrArg (fun n:Int=>D.v (.int .i64 n)) (by rw [wrap64 _ (by omega) (by omega)];omega)|(simp;done)
     refine⟨fun e6=> ?_,fun e6=> ?_⟩
     ·have f77:(j:Int)< 2:=of_decide_eq_true e6
      obtain rfl|rfl:j=0∨j=1:=by omega
      ·refine Z0 (p:=(bxF x26 (shOf A i) m).xl) (q:=ya59) (by omega) (by omega) (fun r88 hk_88_1 hk_88_2=> ?_)
       refine Zax (p:=(bxF x26 (shOf A i) m).xh) (q:=yb59) (by omega) (by omega) (fun r97 hk_97_1 hk_97_2=> ?_)
       refine⟨by kernel_rfl,?_⟩
       refine⟨1,by omega,by simp only;omega,?_⟩
       constructor<;>(repeat' (first|exact rfl|exact True.intro|apply And.intro))
       all_goals first
        |exact congrArg (fun q:Rat=>D.v (.bool (decide (q.num< 0)))) hk_88_1
        |exact congrArg (fun q:Rat=>D.v (.bool (decide (q.num< 0)))) hk_88_1.symm
        |exact congrArg (fun q:Rat=>D.list (W (w32 q.num.natAbs))) hk_88_1
        |exact congrArg (fun q:Rat=>D.list (W (w32 q.num.natAbs))) hk_88_1.symm
        |exact congrArg (fun q:Rat=>D.list (W (w32 q.den))) hk_88_1
        |exact congrArg (fun q:Rat=>D.list (W (w32 q.den))) hk_88_1.symm
        |exact congrArg (fun q:Rat=>D.v (.bool (decide (q.num< 0)))) hk_97_1
        |exact congrArg (fun q:Rat=>D.v (.bool (decide (q.num< 0)))) hk_97_1.symm
        |exact congrArg (fun q:Rat=>D.list (W (w32 q.num.natAbs))) hk_97_1
        |exact congrArg (fun q:Rat=>D.list (W (w32 q.num.natAbs))) hk_97_1.symm
        |exact congrArg (fun q:Rat=>D.list (W (w32 q.den))) hk_97_1
        |exact congrArg (fun q:Rat=>D.list (W (w32 q.den))) hk_97_1.symm
        |exact congrArg (fun n:Int=>D.v (.int .i64 n)) (by rw [wrap64 _ (by omega) (by omega)];omega)
        |exact congrArg (fun n:Int=>D.v (.int .i64 n)) (by omega)
      ·refine Z0 (p:=(bxF x26 (shOf A i) m).yl) (q:=ya71) (by omega) (by omega) (fun r88 hk_88_1 hk_88_2=> ?_)
       refine Zax (p:=(bxF x26 (shOf A i) m).yh) (q:=yb71) (by omega) (by omega) (fun r97 hk_97_1 hk_97_2=> ?_)
       refine⟨by kernel_rfl,?_⟩
       refine⟨2,by omega,by simp only;omega,?_⟩
       constructor<;>(repeat' (first|exact rfl|exact True.intro|apply And.intro))
       all_goals first
        |exact congrArg (fun q:Rat=>D.v (.bool (decide (q.num< 0)))) hk_88_1
        |exact congrArg (fun q:Rat=>D.v (.bool (decide (q.num< 0)))) hk_88_1.symm
        |exact congrArg (fun q:Rat=>D.list (W (w32 q.num.natAbs))) hk_88_1
        |exact congrArg (fun q:Rat=>D.list (W (w32 q.num.natAbs))) hk_88_1.symm
        |exact congrArg (fun q:Rat=>D.list (W (w32 q.den))) hk_88_1
        |exact congrArg (fun q:Rat=>D.list (W (w32 q.den))) hk_88_1.symm
        |exact congrArg (fun q:Rat=>D.v (.bool (decide (q.num< 0)))) hk_97_1
        |exact congrArg (fun q:Rat=>D.v (.bool (decide (q.num< 0)))) hk_97_1.symm
        |exact congrArg (fun q:Rat=>D.list (W (w32 q.num.natAbs))) hk_97_1
        |exact congrArg (fun q:Rat=>D.list (W (w32 q.num.natAbs))) hk_97_1.symm
        |exact congrArg (fun q:Rat=>D.list (W (w32 q.den))) hk_97_1
        |exact congrArg (fun q:Rat=>D.list (W (w32 q.den))) hk_97_1.symm
        |exact congrArg (fun n:Int=>D.v (.int .i64 n)) (by rw [wrap64 _ (by omega) (by omega)];omega)
        |exact congrArg (fun n:Int=>D.v (.int .i64 n)) (by omega)
     ·have f77:¬ ((j:Int)< 2):=of_decide_eq_false e6
      obtain rfl:j=2:=by omega
      have hp:atL x26 x38=⟨ya59,yb59,ya71,yb71⟩:=by rw [ep1,ep2,ep3,ep4]
      have hj:joinB (bxF x26 (shOf A i) m) ⟨ya59,yb59,ya71,yb71⟩=bxF x26 (shOf A i) (m+1):=by rw [← hp,← hva];rfl
      refine⟨m+1+1,by omega,by simp only;omega,?_⟩
      constructor<;>(repeat' (first|exact rfl|exact True.intro|apply And.intro))
      all_goals first
       |exact congrArg (fun b:B4=>D.v (.bool (decide (b.xl.num< 0)))) hj
       |exact congrArg (fun b:B4=>D.v (.bool (decide (b.xl.num< 0)))) hj.symm
       |exact congrArg (fun b:B4=>D.list (W (w32 b.xl.num.natAbs))) hj
       |exact congrArg (fun b:B4=>D.list (W (w32 b.xl.num.natAbs))) hj.symm
       |exact congrArg (fun b:B4=>D.list (W (w32 b.xl.den))) hj
       |exact congrArg (fun b:B4=>D.list (W (w32 b.xl.den))) hj.symm
       |exact congrArg (fun b:B4=>D.v (.bool (decide (b.xh.num< 0)))) hj
       |exact congrArg (fun b:B4=>D.v (.bool (decide (b.xh.num< 0)))) hj.symm
       |exact congrArg (fun b:B4=>D.list (W (w32 b.xh.num.natAbs))) hj
       |exact congrArg (fun b:B4=>D.list (W (w32 b.xh.num.natAbs))) hj.symm
       |exact congrArg (fun b:B4=>D.list (W (w32 b.xh.den))) hj
       |exact congrArg (fun b:B4=>D.list (W (w32 b.xh.den))) hj.symm
       |exact congrArg (fun b:B4=>D.v (.bool (decide (b.yl.num< 0)))) hj
       |exact congrArg (fun b:B4=>D.v (.bool (decide (b.yl.num< 0)))) hj.symm
       |exact congrArg (fun b:B4=>D.list (W (w32 b.yl.num.natAbs))) hj
       |exact congrArg (fun b:B4=>D.list (W (w32 b.yl.num.natAbs))) hj.symm
       |exact congrArg (fun b:B4=>D.list (W (w32 b.yl.den))) hj
       |exact congrArg (fun b:B4=>D.list (W (w32 b.yl.den))) hj.symm
       |exact congrArg (fun b:B4=>D.v (.bool (decide (b.yh.num< 0)))) hj
       |exact congrArg (fun b:B4=>D.v (.bool (decide (b.yh.num< 0)))) hj.symm
       |exact congrArg (fun b:B4=>D.list (W (w32 b.yh.num.natAbs))) hj
       |exact congrArg (fun b:B4=>D.list (W (w32 b.yh.num.natAbs))) hj.symm
       |exact congrArg (fun b:B4=>D.list (W (w32 b.yh.den))) hj
       |exact congrArg (fun b:B4=>D.list (W (w32 b.yh.den))) hj.symm
       |exact congrArg (fun n:Int=>D.v (.int .i64 n)) (by rw [wrap64 _ (by omega) (by omega)];omega)
       |exact congrArg (fun n:Int=>D.v (.int .i64 n)) (by omega)
  ·have f36:¬ ((k:Int)< ((List.map rdv x31.shape).length:Int)):=of_decide_eq_false e2
   obtain⟨m,rfl⟩:∃ m,k=m+1:=by
    rcases k with _|m
    ·exfalso;omega
    ·exact⟨m,rfl⟩
   refine⟨⟨row1 rfl,(by show ((List.map rqB4 (shbL A Q i)).length+1)*224≤_;omega),(by show ((List.map rqB4 (shbL A Q i)).length+1)≤_;omega)⟩,?_⟩
   have hk1:m=(shOf A i).length - 1:=by omega
   have hk2:bxF x26 (shOf A i) m=bxF (linkL A Q i) (shOf A i) ((shOf A i).length - 1):=by rw [hk1,hexx26]
   refine⟨i+1,by omega,by simp only;omega,?_⟩
   constructor<;>(repeat' (first|exact rfl|exact True.intro|apply And.intro))
   all_goals first
    |(rw [ZgG,← hk2];rfl)
    |exact congrArg (fun n:Int=>D.v (.int .i64 n)) (by rw [wrap64 _ (by omega) (by omega)];omega)
    |exact congrArg (fun n:Int=>D.v (.int .i64 n)) (by omega)
 ·have f24:¬ ((i:Int)< ((List.map rqL (linksL A Q A.links.length)).length:Int)):=of_decide_eq_false e1
  refine Eq.trans (b:= .val (.one (.d (.list (List.map rqB4 (shbL A Q i)))))) ?_ rfl
  obtain rfl:i=A.links.length:=by omega
  rfl
theorem Ztq {A:ArmV} {Q:List (RV×RV)} (hA:A.ok) (hA0:armE A=0) (hlen:Q.length=A.links.length) (hQ:∀ p,p∈Q→p.1.z≤3145760∧p.2.z≤3145760) (k:K (.val (.one (.d (.list (List.map rqB4 (shbL A Q A.links.length))))))):Ask 237 [.val (.agg [.d (.v (.string A.name)),.d (.v (.bool A.bx.s)),.d (.v (.string A.bx.a)),.d (.v (.string A.bx.d)),.d (.v (.bool A.by'.s)),.d (.v (.string A.by'.a)),.d (.v (.string A.by'.d)),.d (.v (.bool (A.bh))),.d (.v (.bool A.bt.s)),.d (.v (.string A.bt.a)),.d (.v (.string A.bt.d)),.d (.list (List.map lk A.links))]),.val (.one (.d (.list (List.map rdv Q))))] K:=use (ZoE A Q hA hA0 hlen hQ) rfl k
end
end Go.Proofs.YtpfemjpgbpnpkaaGreatDoor.eng
