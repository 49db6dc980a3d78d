/- Joined by wip/bundle.py: XPlc0 XMot0 XEngH3c XMot1. -/
import Derived.Test.YtgmkgfdjolchdaaGreatDoorQGrpH
import Derived.Test.YtgmkgfdjolchdaaGreatDoorQGrpL
import Derived.Test.YtgmkgfdjolchdaaGreatDoorQGrpV
namespace Go.Proofs.YtgmkgfdjolchdaaGreatDoor.eng
open Go.RowKit num mem seg q held ratA ratB ratC ratD ratE vars ratF trq
def putQ (f:RF) (x y:Rat):Rat×Rat:=(f.x+f.c*x - f.s*y,f.y+f.s*x+f.c*y)
def plcQ (f:RF) (l:List (RV×RV)):List (Rat×Rat):=l.map fun v=>putQ f v.1.q v.2.q
theorem ZjT (f:RF) (l:List (RV×RV)):(plcQ f l).length=l.length:=by simp [plcQ]
theorem Zqq {f:RF} (hu:f.u) (l:List (RV×RV)):l.map (movV (cn f.x) (cn f.y) (tofH f.c) (cn (tofQ f.c f.s)))=cvl (plcQ f l):=by
 unfold cvl plcQ
 rw [List.map_map]
 refine List.map_congr_left fun v _=> ?_
 obtain⟨e1,e2⟩:=Zl5 hu v.1.q v.2.q
 show movV _ _ _ _ v=(cn (f.x+f.c*v.1.q - f.s*v.2.q),cn (f.y+f.s*v.1.q+f.c*v.2.q))
 unfold movV
 rw [cn_q,cn_q,cn_q,e1,e2]
 exact congr (congrArg Prod.mk (congrArg cn (by grind))) (congrArg cn (by grind))
theorem Zp7 {f:RF} (hu:f.u) (a b c:poly.Pt):poly.ori (putQ f a.1 a.2) (putQ f b.1 b.2) (putQ f c.1 c.2)=poly.ori a b c:=by
 unfold RF.u unitC at hu
 unfold poly.ori putQ
 simp only
 grind
theorem Ziu {f:RF} {l:List (RV×RV)} {i:Nat} (hi:i< l.length):pts (cvl (plcQ f l)) i=putQ f (pts l i).1 (pts l i).2:=by
 obtain⟨v,hv⟩:∃ v,l[i]? =some v:=⟨_,List.getElem?_eq_getElem hi⟩
 rw [Zdg hv,Ztq]
 have:(plcQ f l)[i]? =some (putQ f v.1.q v.2.q):=by unfold plcQ;rw [List.getElem?_map,hv];rfl
 simp only [this,Option.getD_some]
theorem Zqc {f:RF} (hu:f.u) {l:List (RV×RV)} (h:convE 8 l=0):convE 64 (cvl (plcQ f l))=0:=by
 obtain⟨h1,h2,h3⟩:=Za1.1 h
 have hl:(cvl (plcQ f l)).length=l.length:=by rw [ZiZ,ZjT]
 refine Za1.2 ⟨by rw [hl];omega,by rw [hl];exact h2,?_⟩
 rw [hl]
 intro i k hi hk2 hk
 rw [Ziu hi,Ziu (Nat.mod_lt _ ω),Ziu (Nat.mod_lt _ ω),Zp7 hu]
 exact h3 i k hi hk2 hk
def rdvs (m:List (RV×RV)):List D:= [D.list (List.map rdv m)]
def shpAt (A:ArmV) (i:Nat):List (RV×RV):=((A.links[i]?).getD ⟨z0,z0,z0,z0,z0, []⟩).shape
theorem ZjC {A:ArmV} {i:Nat} {l:LinkV} (h:A.links[i]? =some l):shpAt A i=l.shape:=by simp [shpAt,h]
def plcL (A:ArmV) (Q:List RV) (n:Nat):List (List (Rat×Rat)):=(List.range n).map fun i=>plcQ (linkF A Q i) (shpAt A i)
theorem ZfS (A:ArmV) (Q:List RV) (n:Nat):(plcL A Q n).length=n:=by simp [plcL]
theorem ZsM {A:ArmV} {Q:List RV} {n i:Nat} {m:List (Rat×Rat)} (h:(plcL A Q n)[i]? =some m):m=plcQ (linkF A Q i) (shpAt A i)∧i< n:=by
 have hi:=(List.getElem?_eq_some_iff.1 h).1
 rw [ZfS] at hi
 simp [plcL,hi] at h
 exact⟨h.symm,hi⟩
theorem Zno {α:Type} (g:List (Rat×Rat)→α) (A:ArmV) (Q:List RV) (i:Nat):List.map g (plcL A Q (i+1))=List.map g (plcL A Q i)++ [g (plcQ (linkF A Q i) (shpAt A i))]:=by
 simp [plcL,List.range_succ]
open Classical in
noncomputable def plcV (A:ArmV) (Q:List RV):List (List (RV×RV)):=if hasE A (Q.length:Int)=0 then (plcL A Q A.links.length).map cvl else []
theorem ZfR {A:ArmV} {Q:List RV} (h:hasE A (Q.length:Int)=0):plcV A Q=(plcL A Q A.links.length).map cvl:=if_pos h
theorem ZsL {A:ArmV} {Q:List RV} (h:¬ hasE A (Q.length:Int)=0):plcV A Q= []:=if_neg h
theorem ZhS {f:RF} {t:Rat} {a:Nat} (hc:qs f.c≤a) (hs:qs f.s≤a) (ht:qs t≤1048576):qs (turnF f t).c≤2*a+8388677∧qs (turnF f t).s≤2*a+8388677:=by
 obtain⟨c1,c2⟩:=Zil t
 have:=Zp f.c (cosq false t)
 have:=Zp f.s (sinq t)
 have:=Zp f.s (cosq false t)
 have:=Zp f.c (sinq t)
 have:=Zae (f.c*cosq false t) (f.s*sinq t)
 have:=Zw (f.s*cosq false t) (f.c*sinq t)
 exact⟨by show qs (f.c*cosq false t - f.s*sinq t)≤_;omega,by show qs (f.s*cosq false t+f.c*sinq t)≤_;omega⟩
theorem Znh {Q:List RV} (hQ:∀ x,x∈Q→x.z≤1048576) (i:Nat):qs (qAt Q i)≤1048576:=by
 unfold qAt
 cases h:Q[i]? with
 |none=>show qs z0.q≤_;decide+kernel
 |some x=>
  have:=hQ x (List.mem_of_getElem? h)
  have:=x.qs_le
  show qs x.q≤_;omega
theorem ZnQ {A:ArmV} {Q:List RV} (hA:armE A=0) (hQ:∀ x,x∈Q→x.z≤1048576) {i:Nat} (hi:i< 3):(qs (linkF A Q i).x≤92276478∧qs (linkF A Q i).y≤92276478)∧qs (linkF A Q i).c≤58721267∧qs (linkF A Q i).s≤58721267:=by
 obtain⟨b1,b2,b3,b4⟩:=ZkL hA
 have t0:=ZhS (t:=qAt Q 0) b3 b4 (Znh hQ 0)
 have l0:=Zg7 (f:=linkF A Q 0) (l:=lenAt A 0) (b:=4) b1 b2 t0.1 t0.2 (Zc3 hA 0)
 have t1:=ZhS (f:=endF A Q 1) (t:=qAt Q 1) t0.1 t0.2 (Znh hQ 1)
 have l1:=Zg7 (f:=linkF A Q 1) (l:=lenAt A 1) l0.1 l0.2 t1.1 t1.2 (Zc3 hA 1)
 have t2:=ZhS (f:=endF A Q 2) (t:=qAt Q 2) t1.1 t1.2 (Znh hQ 2)
 have up:∀ {n a b:Nat},n≤a→a≤b→n≤b:=fun h g=>Nat.le_trans h g
 rcases (show i=0∨i=1∨i=2 by omega) with rfl|rfl|rfl
 ·exact⟨⟨up b1 ω,up b2 ω⟩,up t0.1 ω,up t0.2 ω⟩
 ·exact⟨⟨up l0.1 ω,up l0.2 ω⟩,up t1.1 ω,up t1.2 ω⟩
 ·exact⟨⟨up l1.1 ω,up l1.2 ω⟩,up t2.1 ω,up t2.2 ω⟩
theorem Zuy {f:RF} {x y:Rat} (h1:qs f.x≤92276478∧qs f.y≤92276478) (h2:qs f.c≤58721267∧qs f.s≤58721267) (hx:qs x≤4) (hy:qs y≤4):qs (putQ f x y).1≤215000000∧qs (putQ f x y).2≤215000000:=by
 have:=Zp f.c x
 have:=Zp f.s y
 have:=Zp f.s x
 have:=Zp f.c y
 have:=Zw f.x (f.c*x)
 have:=Zae (f.x+f.c*x) (f.s*y)
 have:=Zw f.y (f.s*x)
 have:=Zw (f.y+f.s*x) (f.c*y)
 exact⟨by show qs (f.x+f.c*x - f.s*y)≤_;omega,by show qs (f.y+f.s*x+f.c*y)≤_;omega⟩
def okP (m:List (Rat×Rat)):Prop:=m.length≤8∧∀ p,p∈m→qs p.1≤215000000∧qs p.2≤215000000
def okV (a:List (RV×RV)):Prop:=(a.length≤8∧convE 64 a=0)∧∀ p,p∈a→p.1.z≤215000000∧p.2.z≤215000000
theorem Zry {A:ArmV} {Q:List RV} (hA:armE A=0) (hQ:∀ x,x∈Q→x.z≤1048576) {i:Nat} {l:LinkV} (hl:A.links[i]? =some l):okP (plcQ (linkF A Q i) (shpAt A i))∧convE 64 (cvl (plcQ (linkF A Q i) (shpAt A i)))=0:=by
 have hn:=(ZaF hA).1
 have hi:i< 3:=by have:=(List.getElem?_eq_some_iff.1 hl).1;omega
 obtain⟨_,_,_,_,_,_,_,_,_,hc,hs⟩:=ZR hA (List.mem_of_getElem? hl)
 rw [ZjC hl]
 refine⟨⟨by rw [ZjT];have:=(Za1.1 hc).1;omega,fun p hp=> ?_⟩,Zqc (ZiJ A Q i) hc⟩
 obtain⟨v,hv,rfl⟩:=List.mem_map.1 hp
 obtain⟨h1,h2⟩:=ZnQ hA hQ hi
 have s1:=ZD (hs v hv).1
 have s2:=ZD (hs v hv).2
 have q1:=v.1.qs_le
 have q2:=v.2.qs_le
 exact Zuy h1 h2 ω ω
theorem Zqd {A:ArmV} {Q:List RV} (h:hasE A (Q.length:Int)=0) (hQ:∀ x,x∈Q→x.z≤1048576):∀ a,a∈plcV A Q→okV a:=by
 intro a ha
 rw [ZfR h] at ha
 obtain⟨m,hm,rfl⟩:=List.mem_map.1 ha
 obtain⟨i,hi,rfl⟩:=List.mem_map.1 (show m∈List.map _ _ from hm)
 have hi:i< A.links.length:=by simpa using hi
 obtain⟨hA,_⟩:=Zaa.1 h
 obtain⟨⟨h1,h2⟩,h3⟩:=Zry hA hQ (List.getElem?_eq_getElem hi)
 refine⟨⟨by rw [ZiZ];exact h1,h3⟩,fun p hp=> ?_⟩
 obtain⟨r,hr,rfl⟩:=List.mem_map.1 (show p∈List.map _ _ from hp)
 exact h2 r hr
theorem ZlG {A:ArmV} {Q:List RV} {i:Nat} {f:RF} (hi:i< A.links.length) (h:(framesF A Q)[i]? =some f):f=linkF A Q i:=by
 rw [framesF,List.getElem?_append_left (by rw [Zbd];exact hi)] at h
 exact(ZnP h).1
theorem Znn (A:ArmV) (Q:List RV) (i:Nat):List.map rdvs ((plcL A Q (i+1)).map cvl)=List.map rdvs ((plcL A Q i).map cvl)++ [rdvs (cvl (plcQ (linkF A Q i) (shpAt A i)))]:=by
 rw [List.map_map,List.map_map]
 exact Zno (rdvs ∘ cvl) A Q i
theorem ZiC (a b:Rat):minQ a b≤a∧minQ a b≤b:=by unfold minQ;split<;>grind
theorem ZiF (a b:Rat):a≤maxQ a b∧b≤maxQ a b:=by unfold maxQ;split<;>grind
def B4.holds (b:B4) (p:Rat×Rat):Prop:=(b.xl≤p.1∧p.1≤b.xh)∧b.yl≤p.2∧p.2≤b.yh
theorem Zpg {f:LF} {g:RF} (h:f.has g) (v:RV×RV):(atB f v).holds (putQ g v.1.q v.2.q):=by
 obtain⟨⟨a1,a2⟩,⟨a3,a4⟩,⟨a5,a6⟩,a7,a8⟩:=h
 have k1:=ZaV (Rat.le_refl:v.1.q≤v.1.q) Rat.le_refl a5 a6
 have k2:=ZaV (Rat.le_refl:v.2.q≤v.2.q) Rat.le_refl a7 a8
 have k3:=ZaV (Rat.le_refl:v.1.q≤v.1.q) Rat.le_refl a7 a8
 have k4:=ZaV (Rat.le_refl:v.2.q≤v.2.q) Rat.le_refl a5 a6
 unfold B4.holds atB putQ
 simp only
 refine⟨⟨?_,?_⟩,?_,?_⟩<;>grind
theorem Zec {a b:B4} {p:Rat×Rat} (h:a.holds p∨b.holds p):(joinB a b).holds p:=by
 have m1:=ZiC a.xl b.xl
 have m2:=ZiF a.xh b.xh
 have m3:=ZiC a.yl b.yl
 have m4:=ZiF a.yh b.yh
 unfold B4.holds joinB at*
 simp only
 refine⟨⟨?_,?_⟩,?_,?_⟩<;>grind
theorem ZhK {f:LF} {g:RF} (h:f.has g) (l:List (RV×RV)):∀ k i,i≤k→(bxF f l k).holds (putQ g (vAt l i).1.q (vAt l i).2.q)
 |0,i,hi=>by
  obtain rfl:i=0:=ω
  exact Zpg h _
 |k+1,i,hi=>by
  by_cases e:i=k+1
  ·subst e;exact Zec (.inr (Zpg h _))
  ·exact Zec (.inl (ZhK h l k i ω))
open Go.RowKit num mem seg q held ratA ratB ratC ratD ratE vars ratF natC natD natI sub32
section
variable {K : AV → Prop} {x y : RV}
def s3 (p q:Rat):AV:= .val (.agg [.d (.v (.bool (decide (p.num< 0)))),.d (.list (W (w32 p.num.natAbs))),.d (.list (W (w32 p.den))),.d (.v (.bool (decide (q.num< 0)))),.d (.list (W (w32 q.num.natAbs))),.d (.list (W (w32 q.den)))])
def stepL (l m:List RV) (o:Int) (k:Nat):List (Rat×Rat):=List.zipWith (fun a b=>(minQ a b,maxQ a b)) (midL l m (k:Int) o) (midL l m ((k:Int)+1) o)
def partsL (l m:List RV) (o:Int):List (List (Rat×Rat)):=(List.range o.toNat).map (stepL l m o)
def SL (r:List (Rat×Rat)):List (List D):=r.map fun p=>rd (cn p.1)++rd (cn p.2)
def PL (rows:List (List (Rat×Rat))):List (List D):=rows.map fun r=> [D.list (SL r)]
theorem ZvK (r:List (Rat×Rat)):(SL r).length=r.length:=by simp [SL]
theorem ZvM (r:List (List (Rat×Rat))):(PL r).length=r.length:=by simp [PL]
theorem ZtS (l:List (Rat×Rat)):∀ row,row∈SL l→row.length=6:=by
 intro row hr
 obtain⟨q,_,rfl⟩:=List.mem_map.1 hr
 rfl
theorem Zgs (l m:List RV) (o:Int) (k:Nat):(stepL l m o k).length=min l.length m.length:=by simp [stepL,Zb0]
theorem Zjv {l m:List RV} {o:Int} {k i:Nat} {a b:Rat} (h1:(midL l m (k:Int) o)[i]? =some a) (h2:(midL l m ((k:Int)+1) o)[i]? =some b):(stepL l m o k)[i]? =some (minQ a b,maxQ a b):=by
 simp [stepL,List.getElem?_zipWith,h1,h2]
theorem Zlm (l m:List RV) (o:Int):(partsL l m o).length=o.toNat:=by simp [partsL]
theorem Znp {l m:List RV} {o:Int} {k:Nat} (h:k< o.toNat):(partsL l m o)[k]? =some (stepL l m o k):=by simp [partsL,h]
theorem ZtR {r:List (Rat×Rat)} {i:Nat} {p:Rat×Rat} (h:r[i]? =some p):SL (r.take (i+1))=SL (r.take i)++ [rd (cn p.1)++rd (cn p.2)]:=by
 rw [List.take_add_one,h];simp [SL]
theorem ZtT {rows:List (List (Rat×Rat))} {i:Nat} {p:List (Rat×Rat)} (h:rows[i]? =some p):PL (rows.take (i+1))=PL (rows.take i)++ [[D.list (SL p)]]:=by
 rw [List.take_add_one,h];simp [PL]
def splitBad (l m:List RV) (o:Int):Prop:=l.length≠m.length∨3< l.length∨o< 1∨50< o
instance (l m:List RV) (o:Int):Decidable (splitBad l m o):=by unfold splitBad;infer_instance
theorem Zvh (l m:List RV) (p o:Int) {u v:List (List D)} (hu:u=vr l) (hv:v=vr m) {p':Int} (hp:p'=p) (hp1:-9223372036854775808≤p) (hp2:p≤9223372036854775807) (ho1:-9223372036854775808≤o) (ho2:o≤9223372036854775807) (hl:∀ x,x∈l→x.z≤16777216) (hm:∀ x,x∈m→x.z≤16777216) (hn:l.length≤1073741824) (hn':m.length≤1073741824)
  (k:K (.val (.one (.d (.list (RL (midL l m p o))))))):Ask 28 [.val (.one (.d (.list u))),.val (.one (.d (.list v))),int p',int o] K:=by
 subst hu hv hp
 exact use (Zrf l m p' o hp1 hp2 ho1 ho2 hl hm hn hn') rfl k
set_option maxHeartbeats 4000000 in
set_option maxRecDepth 100000 in
theorem ZlX (l m:List RV) (o:Int) (ho1:-9223372036854775808≤o) (ho2:o≤9223372036854775807) (hl:∀ x,x∈l→x.z≤16777216) (hm:∀ x,x∈m→x.z≤16777216) (hn:l.length≤1073741824) (hn':m.length≤1073741824):
  Spec Tryz.prog Tab 8 [.val (.one (.d (.list (vr l)))),.val (.one (.d (.list (vr m)))),int o] (if splitBad l m o then two (.val (.one (.d (.list [])))) (int 1) else two (.val (.one (.d (.list (PL (partsL l m o)))))) (int 0)):=by
 have hll:=Zjl l
 have hml:=Zjl m
 have bad:splitBad l m o→(if splitBad l m o then two (.val (.one (.d (.list [])))) (int 1) else two (.val (.one (.d (.list (PL (partsL l m o)))))) (int 0))=two (.val (.one (.d (.list [])))) (int 1):=fun h=>if_pos h
 refine Za Tryz.func8 rfl rfl Tryz.ntmps8 rfl ωr rfl rfl ?_
 refine fork (fun e1=> ?_) (fun e1=> ?_)
 ·refine⟨fun _=> ?_,fun e=>by simp at e⟩
  refine bad (.inl fun h=> ?_)
  have:((((vr l).length:Nat):Int) !=(((vr m).length:Nat):Int))=true:=e1
  rw [hll,hml,h] at this;simp at this
 have c1:l.length=m.length:=by
  have:((((vr l).length:Nat):Int) !=(((vr m).length:Nat):Int))=false:=e1
  rw [hll,hml] at this;simp at this;omega
 refine fork (fun e2=> ?_) (fun e2=> ?_)
 ·refine⟨fun _=> ?_,fun e=>by simp at e⟩
  exact bad (.inr (.inl (by have:=of_decide_eq_true e2;omega)))
 have c2:l.length≤3:=by have:=of_decide_eq_false e2;omega
 refine fork (fun e3=> ?_) (fun e3=> ?_)
 ·refine⟨fun _=> ?_,fun e=>by simp at e⟩
  exact bad (.inr (.inr (.inl (of_decide_eq_true e3))))
 have c3:1≤o:=by have:=of_decide_eq_false e3;omega
 refine⟨fun e4=> ?_,fun e4=> ?_⟩
 ·exact bad (.inr (.inr (.inr (of_decide_eq_true e4))))
 have c4:o≤50:=by have:=of_decide_eq_false e4;omega
 have good:¬ splitBad l m o:=by
  rintro(h|h|h|h)
  ·exact h c1
  ·omega
  ·omega
  ·omega
 refine Zvh l m 0 o rfl rfl rfl ω ω ho1 ho2 hl hm hn hn' ?_
 have hpl:=Zlm l m o
 refine⟨Nat,fun k=> [(0,.val (.one (.d (.list (vr l))))),(1,.val (.one (.d (.list (vr m))))),(2,int o),(8,.val (.one (.row 77 0))),(9,.val (.one (.d (.list (RL (midL l m (k:Int) o)))))),(36,int o),(37,int (k:Int))],
  fun k=> [(77,.row 54 1 0 (PL ((partsL l m o).take k)) true)],fun k=>k≤o.toNat,fun k=>o.toNat - k,0,?_,Nat.zero_le _,fun k hk=> ?_⟩
 ·constructor<;>(repeat' (first|exact rfl|exact True.intro|exact⟨_,_,rfl⟩|exact(by decide:0< 1)|apply And.intro))
 refine⟨fun e=> ?_,fun e=> ?_⟩
 ·have hlt:k< o.toNat:=by have:=of_decide_eq_true e;omega
  have hw1:IntKind.i64.wrap ((k:Int)+1)=(k:Int)+1:=wrap64 _ ω ω
  refine Zvh l m ((k:Int)+1) o rfl rfl hw1 ω ω ho1 ho2 hl hm hn hn' ?_
  have la:=Zb0 l m (k:Int) o
  have lb:=Zb0 l m ((k:Int)+1) o
  have ls:=Zgs l m o k
  have za:=ZnI (l:=l) (m:=m) (p:=(k:Int)) (o:=o) (Z:=16777216) ω ω ho1 ho2 hl hm
  have zb:=ZnI (l:=l) (m:=m) (p:=(k:Int)+1) (o:=o) (Z:=16777216) ω ω ho1 ho2 hl hm
  refine⟨Nat,fun i=> [(0,.val (.one (.d (.list (vr l))))),(1,.val (.one (.d (.list (vr m))))),(2,int o),(8,.val (.one (.row 77 0))),(9,.val (.one (.d (.list (RL (midL l m (k:Int) o)))))),(11,.val (.one (.d (.list (RL (midL l m ((k:Int)+1) o)))))),(12,.val (.one (.row 72 0))),(36,int o),(37,int (k:Int)),(47,int ((stepL l m o k).length:Int)),(48,int (i:Int))],
   fun i=> [(77,.row 54 1 0 (PL ((partsL l m o).take k)) true),(72,.row 87 6 0 (SL ((stepL l m o k).take i)) true)],fun i=>i≤(stepL l m o k).length,fun i=>(stepL l m o k).length - i,0,?_,Nat.zero_le _,fun i hi=> ?_⟩
  ·constructor<;>(repeat' (first|exact rfl|exact True.intro|exact⟨_,_,rfl⟩|exact(by decide:0< 6)|apply And.intro))
   all_goals exact congrArg (fun n:Nat=>D.v (.int .i64 (n:Int))) (show (stepL l m o k).length=(RL (midL l m (k:Int) o)).length by rw [ZvL];omega)
  refine⟨fun e5=> ?_,fun e5=> ?_⟩
  ·have hil:i< (stepL l m o k).length:=by have:=of_decide_eq_true e5;omega
   obtain⟨a,ha⟩:∃ a,(midL l m (k:Int) o)[i]? =some a:=⟨_,List.getElem?_eq_getElem ω⟩
   obtain⟨b,hb⟩:∃ b,(midL l m ((k:Int)+1) o)[i]? =some b:=⟨_,List.getElem?_eq_getElem ω⟩
   have hza:=za a (List.mem_of_getElem? ha)
   have hzb:=zb b (List.mem_of_getElem? hb)
   have hs:=Zjv ha hb
   refine k_at (rd (cn a)) (Int.natCast_nonneg _) (by rw [Int.toNat_natCast];exact Zre ha) rfl ?_
   refine k_at (rd (cn b)) (Int.natCast_nonneg _) (by rw [Int.toNat_natCast];exact Zre hb) rfl ?_
   refine ZiO (x:=cn a) (y:=cn b) ωn ωn fun q1 h1 z1=> ?_
   refine k_at (rd (cn a)) (Int.natCast_nonneg _) (by rw [Int.toNat_natCast];exact Zre ha) rfl ?_
   refine k_at (rd (cn b)) (Int.natCast_nonneg _) (by rw [Int.toNat_natCast];exact Zre hb) rfl ?_
   refine ZiP (x:=cn a) (y:=cn b) ωn ωn fun q2 h2 z2=> ?_
   simp only [cn_q] at h1 h2
   have hq:SL ((stepL l m o k).take (i+1))=SL ((stepL l m o k).take i)++ [rd (cn q1)++rd (cn q2)]:=by
    rw [ZtR hs,h1,h2]
   have hlt2:(SL ((stepL l m o k).take i)).length≤4:=by rw [ZvK,List.length_take];omega
   refine⟨⟨ZtS [(q1,q2)],?_,?_⟩,?_⟩
   ·show ((SL ((stepL l m o k).take i)).length+1)*80≤_;omega
   ·show (SL ((stepL l m o k).take i)).length+1≤_;omega
   refine⟨ωr,?_⟩
   refine⟨i+1,hil,by simp only;omega,?_⟩
   constructor<;>(repeat' (first|exact rfl|exact True.intro|apply And.intro))
   all_goals first
    |exact congrArg (fun n:Int=>D.v (.int .i64 n)) (show ((i+1:Nat):Int)=IntKind.i64.wrap ((i:Int)+1) by rw [wrap64 _ ω ω];omega)
    |(rw [hq];exact rfl)
  ·have hil:i=(stepL l m o k).length:=by have:=of_decide_eq_false e5;omega
   subst hil
   have hq:PL ((partsL l m o).take (k+1))=PL ((partsL l m o).take k)++ [[D.list (SL ((stepL l m o k).take (stepL l m o k).length))]]:=by
    rw [ZtT (Znp hlt),List.take_length]
   have hlt2:(PL ((partsL l m o).take k)).length≤50:=by rw [ZvM,List.length_take];omega
   refine⟨⟨fun row hrow=>by rw [List.mem_singleton.1 hrow];rfl,?_,?_⟩,?_⟩
   ·show ((PL ((partsL l m o).take k)).length+1)*24≤_;omega
   ·show (PL ((partsL l m o).take k)).length+1≤_;omega
   refine⟨k+1,hlt,by simp only;omega,?_⟩
   constructor<;>(repeat' (first|exact rfl|exact True.intro|apply And.intro))
   all_goals first
    |exact congrArg (fun n:Int=>D.v (.int .i64 n)) (show ((k+1:Nat):Int)=IntKind.i64.wrap ((k:Int)+1) by rw [wrap64 _ ω ω];omega)
    |(rw [hq];exact rfl)
    |rw [hq]
 ·have hge:k=o.toNat:=by have:=of_decide_eq_false e;omega
  subst hge
  refine Eq.trans (if_neg good) ?_
  refine Eq.trans (b:=two (.val (.one (.d (.list (PL ((partsL l m o).take o.toNat)))))) (int 0)) ?_ rfl
  rw [List.take_of_length_le ω]
end
theorem Zsz (r:List (Rat×Rat)):List.map rdv (cvl r)=SL r:=by
 unfold cvl SL
 rw [List.map_map];rfl
theorem Zsy (rows:List (List (Rat×Rat))):List.map rdvs (rows.map cvl)=PL rows:=by
 unfold PL
 rw [List.map_map]
 congr 1
 funext r
 show [D.list (List.map rdv (cvl r))]=_
 rw [Zsz]
section
variable {A : ArmV} {l m : List RV} {W : List (List (RV × RV))} {o : Int}
end
section
variable {A : ArmV} {L : List (List RV)} {W : List (List (RV × RV))} {o : Int} {i : Nat}
end
section
variable {A : ArmV} {L : List (List RV)} {W : List (List (RV × RV))} {o : Int}
end
