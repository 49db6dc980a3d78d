/- Joined by wip/bundle.py: XAbs XTck0 XPlc0. -/
import Derived.Test.YtpfemjpgbpnpkaaGreatDoorGrpA
import Derived.Test.YtpfemjpgbpnpkaaGreatDoorGrpO
import Derived.Test.YtpfemjpgbpnpkaaGreatDoorFore0
import Derived.Test.YtpfemjpgbpnpkaaGreatDoorForeA
import Derived.Test.YtpfemjpgbpnpkaaGreatDoorGrpH
namespace Go.Proofs.YtpfemjpgbpnpkaaGreatDoor.eng
open Go.RowKit num mem seg q held ratA ratB ratC ratD ratE vars ratF natC natD natI
section
variable {K : AV → Prop} {x : RV} {q : Rat}
end
end Go.Proofs.YtpfemjpgbpnpkaaGreatDoor.eng
namespace Go.Proofs.YtpfemjpgbpnpkaaGreatDoor.eng
open Go.RowKit num mem seg q held ratA ratB ratC ratD ratE vars ratF
end Go.Proofs.YtpfemjpgbpnpkaaGreatDoor.eng
namespace Go.Proofs.YtpfemjpgbpnpkaaGreatDoor.eng
open Go.RowKit num mem seg q held ratA ratB ratC ratD ratE vars ratF trq
def putQ (f:RF) (x y:Rat):Rat×Rat:=(f.x+f.c*x - f.s*y,f.y+f.s*x+f.c*y)
def plcQ (f:RF) (l:List (RV×RV)):List (Rat×Rat):=l.map fun v=>putQ f v.1.q v.2.q
theorem Zep (f:RF) (l:List (RV×RV)):(plcQ f l).length=l.length:=by simp [plcQ]
theorem ZlT {f:RF} (hu:f.u) (l:List (RV×RV)):l.map (movV (cn f.x) (cn f.y) (tofH f.c) (cn (tofQ f.c f.s)))=cvl (plcQ f l):=by
 unfold cvl plcQ
 rw [List.map_map]
 refine List.map_congr_left fun v _=> ?_
 obtain⟨e1,e2⟩:=ZiF hu v.1.q v.2.q
 show movV _ _ _ _ v=(cn (f.x+f.c*v.1.q - f.s*v.2.q),cn (f.y+f.s*v.1.q+f.c*v.2.q))
 unfold movV
 rw [cn_q,cn_q,cn_q,e1,e2]
 exact congr (congrArg Prod.mk (congrArg cn (by grind))) (congrArg cn (by grind))
theorem ZlF {f:RF} (hu:f.u) (a b c:poly.Pt):poly.ori (putQ f a.1 a.2) (putQ f b.1 b.2) (putQ f c.1 c.2)=poly.ori a b c:=by
 unfold RF.u unitC at hu
 unfold poly.ori putQ
 simp only
 grind
theorem Zf8 {f:RF} {l:List (RV×RV)} {i:Nat} (hi:i< l.length):pts (cvl (plcQ f l)) i=putQ f (pts l i).1 (pts l i).2:=by
 obtain⟨v,hv⟩:∃ v,l[i]? =some v:=⟨_,List.getElem?_eq_getElem hi⟩
 rw [Zbc hv,ZnL]
 have:(plcQ f l)[i]? =some (putQ f v.1.q v.2.q):=by unfold plcQ;rw [List.getElem?_map,hv];rfl
 simp only [this,Option.getD_some]
theorem ZlI {f:RF} (hu:f.u) {l:List (RV×RV)} (h:convE 8 l=0):convE 64 (cvl (plcQ f l))=0:=by
 obtain⟨h1,h2,h3⟩:=Zcf.1 h
 have hl:(cvl (plcQ f l)).length=l.length:=by rw [Zcp,Zep]
 refine Zcf.2 ⟨by rw [hl];omega,by rw [hl];exact h2,?_⟩
 rw [hl]
 intro i k hi hk2 hk
 rw [Zf8 hi,Zf8 (Nat.mod_lt _ (by omega)),Zf8 (Nat.mod_lt _ (by omega)),ZlF hu]
 exact h3 i k hi hk2 hk
def rdvs (m:List (RV×RV)):List D:= [D.list (List.map rdv m)]
def rqps (m:List (Rat×Rat)):List D:= [D.list (List.map rqP m)]
def shpAt (A:ArmV) (i:Nat):List (RV×RV):=((A.links[i]?).getD ⟨z0,z0,z0,z0,z0, []⟩).shape
theorem ZcL {A:ArmV} {i:Nat} {l:LinkV} (h:A.links[i]? =some l):shpAt A i=l.shape:=by simp [shpAt,h]
def plcL (A:ArmV) (Q:List RV) (n:Nat):List (List (Rat×Rat)):=(List.range n).map fun i=>plcQ (linkF A Q i) (shpAt A i)
theorem ZaE (A:ArmV) (Q:List RV) (n:Nat):(plcL A Q n).length=n:=by simp [plcL]
theorem ZjG {A:ArmV} {Q:List RV} {n i:Nat} {m:List (Rat×Rat)} (h:(plcL A Q n)[i]? =some m):m=plcQ (linkF A Q i) (shpAt A i)∧i< n:=by
 have hi:=(List.getElem?_eq_some_iff.1 h).1
 rw [ZaE] at hi
 simp [plcL,hi] at h
 exact⟨h.symm,hi⟩
theorem Zc8 {α:Type} (g:List (Rat×Rat)→α) (A:ArmV) (Q:List RV) (i:Nat):List.map g (plcL A Q (i+1))=List.map g (plcL A Q i)++ [g (plcQ (linkF A Q i) (shpAt A i))]:=by
 simp [plcL,List.range_succ]
open Classical in
noncomputable def plcV (A:ArmV) (Q:List RV):List (List (RV×RV)):=if hasE A (Q.length:Int)=0 then (plcL A Q A.links.length).map cvl else []
theorem Zcl {A:ArmV} {Q:List RV} (h:hasE A (Q.length:Int)=0):plcV A Q=(plcL A Q A.links.length).map cvl:=if_pos h
theorem ZjE {A:ArmV} {Q:List RV} (h:¬ hasE A (Q.length:Int)=0):plcV A Q= []:=if_neg h
theorem ZfP {f:RF} {t:Rat} {a:Nat} (hc:qs f.c≤a) (hs:qs f.s≤a) (ht:qs t≤1048576):qs (turnF f t).c≤2*a+8388677∧qs (turnF f t).s≤2*a+8388677:=by
 obtain⟨c1,c2⟩:=Zjz t
 have:=Zx f.c (cosq false t)
 have:=Zx f.s (sinq t)
 have:=Zx f.s (cosq false t)
 have:=Zx f.c (sinq t)
 have:=Zar (f.c*cosq false t) (f.s*sinq t)
 have:=ZM (f.s*cosq false t) (f.c*sinq t)
 exact⟨by show qs (f.c*cosq false t - f.s*sinq t)≤_;omega,by show qs (f.s*cosq false t+f.c*sinq t)≤_;omega⟩
theorem ZjB {Q:List RV} (hQ:∀ x,x∈Q→x.z≤1048576) (i:Nat):qs (qAt Q i)≤1048576:=by
 unfold qAt
 cases h:Q[i]? with
 |none=>show qs z0.q≤_;decide+kernel
 |some x=>
  have:=hQ x (List.mem_of_getElem? h)
  have:=x.qs_le
  show qs x.q≤_;omega
theorem Zgi {A:ArmV} {Q:List RV} (hA:armE A=0) (hQ:∀ x,x∈Q→x.z≤1048576) {i:Nat} (hi:i< 3):(qs (linkF A Q i).x≤92276478∧qs (linkF A Q i).y≤92276478)∧qs (linkF A Q i).c≤58721267∧qs (linkF A Q i).s≤58721267:=by
 obtain⟨b1,b2,b3,b4⟩:=Zm7 hA
 have t0:=ZfP (t:=qAt Q 0) b3 b4 (ZjB hQ 0)
 have l0:=Zfj (f:=linkF A Q 0) (l:=lenAt A 0) (b:=4) b1 b2 t0.1 t0.2 (Zdf hA 0)
 have t1:=ZfP (f:=endF A Q 1) (t:=qAt Q 1) t0.1 t0.2 (ZjB hQ 1)
 have l1:=Zfj (f:=linkF A Q 1) (l:=lenAt A 1) l0.1 l0.2 t1.1 t1.2 (Zdf hA 1)
 have t2:=ZfP (f:=endF A Q 2) (t:=qAt Q 2) t1.1 t1.2 (ZjB hQ 2)
 have up:∀ {n a b:Nat},n≤a→a≤b→n≤b:=fun h g=>Nat.le_trans h g
 rcases (show i=0∨i=1∨i=2 by omega) with rfl|rfl|rfl
 ·exact⟨⟨up b1 (by omega),up b2 (by omega)⟩,up t0.1 (by omega),up t0.2 (by omega)⟩
 ·exact⟨⟨up l0.1 (by omega),up l0.2 (by omega)⟩,up t1.1 (by omega),up t1.2 (by omega)⟩
 ·exact⟨⟨up l1.1 (by omega),up l1.2 (by omega)⟩,up t2.1 (by omega),up t2.2 (by omega)⟩
theorem Zoe {f:RF} {x y:Rat} (h1:qs f.x≤92276478∧qs f.y≤92276478) (h2:qs f.c≤58721267∧qs f.s≤58721267) (hx:qs x≤4) (hy:qs y≤4):qs (putQ f x y).1≤215000000∧qs (putQ f x y).2≤215000000:=by
 have:=Zx f.c x
 have:=Zx f.s y
 have:=Zx f.s x
 have:=Zx f.c y
 have:=ZM f.x (f.c*x)
 have:=Zar (f.x+f.c*x) (f.s*y)
 have:=ZM f.y (f.s*x)
 have:=ZM (f.y+f.s*x) (f.c*y)
 exact⟨by show qs (f.x+f.c*x - f.s*y)≤_;omega,by show qs (f.y+f.s*x+f.c*y)≤_;omega⟩
def okP (m:List (Rat×Rat)):Prop:=m.length≤8∧∀ p,p∈m→qs p.1≤215000000∧qs p.2≤215000000
theorem Zg6 {A:ArmV} {Q:List RV} (hA:armE A=0) (hQ:∀ x,x∈Q→x.z≤1048576) {i:Nat} {l:LinkV} (hl:A.links[i]? =some l):okP (plcQ (linkF A Q i) (shpAt A i))∧convE 64 (cvl (plcQ (linkF A Q i) (shpAt A i)))=0:=by
 have hn:=(Zay hA).1
 have hi:i< 3:=by have:=(List.getElem?_eq_some_iff.1 hl).1;omega
 obtain⟨_,_,_,_,_,_,_,_,_,hc,hs⟩:=Zbn hA (List.mem_of_getElem? hl)
 rw [ZcL hl]
 refine⟨⟨by rw [Zep];have:=(Zcf.1 hc).1;omega,fun p hp=> ?_⟩,ZlI (Zgj A Q i) hc⟩
 obtain⟨v,hv,rfl⟩:=List.mem_map.1 hp
 obtain⟨h1,h2⟩:=Zgi hA hQ hi
 have s1:=Z2 (hs v hv).1
 have s2:=Z2 (hs v hv).2
 have q1:=v.1.qs_le
 have q2:=v.2.qs_le
 exact Zoe h1 h2 (by omega) (by omega)
def ptQ (m:List (Rat×Rat)) (i:Nat):poly.Pt:=(m[i]?).getD (0,0)
theorem ZdP {m:List (Rat×Rat)} {i:Nat} {p:Rat×Rat} (h:m[i]? =some p):ptQ m i=p:=by simp [ptQ,h]
theorem Zil {A:ArmV} {Q:List RV} {i:Nat} {f:RF} (hi:i< A.links.length) (h:(framesF A Q)[i]? =some f):f=linkF A Q i:=by
 rw [framesF,List.getElem?_append_left (by rw [Zak];exact hi)] at h
 exact(Zfk h).1
theorem ZjF (A:ArmV) (Q:List RV) (i:Nat):List.map rdvs ((plcL A Q (i+1)).map cvl)=List.map rdvs ((plcL A Q i).map cvl)++ [rdvs (cvl (plcQ (linkF A Q i) (shpAt A i)))]:=by
 rw [List.map_map,List.map_map]
 exact Zc8 (rdvs ∘ cvl) A Q i
end Go.Proofs.YtpfemjpgbpnpkaaGreatDoor.eng
