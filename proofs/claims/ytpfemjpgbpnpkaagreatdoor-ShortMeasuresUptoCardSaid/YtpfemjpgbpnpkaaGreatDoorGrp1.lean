/- Joined by wip/bundle.py: XPla0 XPlc0 XMot0 XEngH3c XMot1. -/
import Derived.Test.YtpfemjpgbpnpkaaGreatDoorGrpV
import Derived.Test.YtpfemjpgbpnpkaaGreatDoorForeA
import Derived.Test.YtpfemjpgbpnpkaaGreatDoorGrpH
import Derived.Test.YtpfemjpgbpnpkaaGreatDoorGrpL
import Derived.Test.YtpfemjpgbpnpkaaGreatDoorEngH3b
namespace Go.Proofs.YtpfemjpgbpnpkaaGreatDoor.eng
open Go.RowKit num mem seg q held ratA ratB ratC ratD ratE vars ratF trq
def ptB (p:Rat×Rat):B4:=⟨p.1,p.1,p.2,p.2⟩
def addB (b:B4) (p:Rat×Rat):B4:=⟨minQ b.xl p.1,maxQ b.xh p.1,minQ b.yl p.2,maxQ b.yh p.2⟩
def foldB (b:B4) (l:List (Rat×Rat)):B4:=l.foldl addB b
theorem Zmz (b:B4) (l:List (Rat×Rat)) (p:Rat×Rat):foldB b (l++ [p])=addB (foldB b l) p:=by simp [foldB]
theorem Zmy (b:B4) {l:List (Rat×Rat)} {i:Nat} {p:Rat×Rat} (h:l[i]? =some p):foldB b (l.take (i+1))=addB (foldB b (l.take i)) p:=by
 rw [List.take_add_one,h];exact Zmz b _ p
theorem ZpE (b:B4) (l m:List (Rat×Rat)):foldB b (l++m)=foldB (foldB b l) m:=by simp [foldB]
theorem ZpD (b:B4) {L:List (List (Rat×Rat))} {i:Nat} {m:List (Rat×Rat)} (h:L[i]? =some m):foldB b (L.take (i+1)).flatten=foldB (foldB b (L.take i).flatten) m:=by
 rw [List.take_add_one,h,List.flatten_append,ZpE];simp
theorem ZjW {B:Nat}:∀ (l:List (Rat×Rat)) (b:B4),b.z B→(∀ p,p∈l→qs p.1≤B∧qs p.2≤B)→(foldB b l).z B
 | [],b,h,_=>h
 |p :: l,b,h,g=>by
  have hp:=g p (by simp)
  exact ZjW l (addB b p) ⟨⟨ZtE h.1.1 hp.1,ZtH h.1.2 hp.1⟩,ZtE h.2.1 hp.2,ZtH h.2.2 hp.2⟩ (fun q hq=>g q (List.mem_cons_of_mem _ hq))
theorem Zgk {a b:Rat} (m:Rat) (h:m=a):(if b< m then b else m)=minQ a b:=by
 subst h;unfold minQ;split<;>split<;>grind
theorem Zib {a b:Rat} (m:Rat) (h:m=a):(if m< b then b else m)=maxQ a b:=by
 subst h;unfold maxQ;split<;>split<;>grind
end Go.Proofs.YtpfemjpgbpnpkaaGreatDoor.eng
namespace Go.Proofs.YtpfemjpgbpnpkaaGreatDoor.eng
open Go.RowKit num mem seg q held ratA ratB ratC ratD ratE vars ratF trq
def putQ (f:RF) (x y:Rat):Rat×Rat:=(f.x+f.c*x - f.s*y,f.y+f.s*x+f.c*y)
def plcQ (f:RF) (l:List (RV×RV)):List (Rat×Rat):=l.map fun v=>putQ f v.1.q v.2.q
theorem Zg1 (f:RF) (l:List (RV×RV)):(plcQ f l).length=l.length:=by simp [plcQ]
theorem ZrX {f:RF} (hu:f.u) (l:List (RV×RV)):l.map (movV (cn f.x) (cn f.y) (tofH f.c) (cn (tofQ f.c f.s)))=cvl (plcQ f l):=by
 unfold cvl plcQ
 rw [List.map_map]
 refine List.map_congr_left fun v _=> ?_
 obtain⟨e1,e2⟩:=Zm9 hu v.1.q v.2.q
 show movV _ _ _ _ v=(cn (f.x+f.c*v.1.q - f.s*v.2.q),cn (f.y+f.s*v.1.q+f.c*v.2.q))
 unfold movV
 rw [cn_q,cn_q,cn_q,e1,e2]
 exact congr (congrArg Prod.mk (congrArg cn (by grind))) (congrArg cn (by grind))
theorem Zrz {f:RF} (hu:f.u) (a b c:poly.Pt):poly.ori (putQ f a.1 a.2) (putQ f b.1 b.2) (putQ f c.1 c.2)=poly.ori a b c:=by
 unfold RF.u unitC at hu
 unfold poly.ori putQ
 simp only
 grind
theorem Zjq {f:RF} {l:List (RV×RV)} {i:Nat} (hi:i< l.length):pts (cvl (plcQ f l)) i=putQ f (pts l i).1 (pts l i).2:=by
 obtain⟨v,hv⟩:∃ v,l[i]? =some v:=⟨_,List.getElem?_eq_getElem hi⟩
 rw [Zb9 hv,Zvm]
 have:(plcQ f l)[i]? =some (putQ f v.1.q v.2.q):=by unfold plcQ;rw [List.getElem?_map,hv];rfl
 simp only [this,Option.getD_some]
theorem ZrE {f:RF} (hu:f.u) {l:List (RV×RV)} (h:convE 8 l=0):convE 64 (cvl (plcQ f l))=0:=by
 obtain⟨h1,h2,h3⟩:=ZdL.1 h
 have hl:(cvl (plcQ f l)).length=l.length:=by rw [Zd5,Zg1]
 refine ZdL.2 ⟨by rw [hl];omega,by rw [hl];exact h2,?_⟩
 rw [hl]
 intro i k hi hk2 hk
 rw [Zjq hi,Zjq (Nat.mod_lt _ (by omega)),Zjq (Nat.mod_lt _ (by omega)),Zrz hu]
 exact h3 i k hi hk2 hk
def rdvs (m:List (RV×RV)):List D:= [D.list (List.map rdv m)]
def rqps (m:List (Rat×Rat)):List D:= [D.list (List.map rqP m)]
def shpAt (A:ArmV) (i:Nat):List (RV×RV):=((A.links[i]?).getD ⟨z0,z0,z0,z0,z0, []⟩).shape
theorem Zev {A:ArmV} {i:Nat} {l:LinkV} (h:A.links[i]? =some l):shpAt A i=l.shape:=by simp [shpAt,h]
def plcL (A:ArmV) (Q:List RV) (n:Nat):List (List (Rat×Rat)):=(List.range n).map fun i=>plcQ (linkF A Q i) (shpAt A i)
theorem Zbi (A:ArmV) (Q:List RV) (n:Nat):(plcL A Q n).length=n:=by simp [plcL]
theorem Zom {A:ArmV} {Q:List RV} {n i:Nat} {m:List (Rat×Rat)} (h:(plcL A Q n)[i]? =some m):m=plcQ (linkF A Q i) (shpAt A i)∧i< n:=by
 have hi:=(List.getElem?_eq_some_iff.1 h).1
 rw [Zbi] at hi
 simp [plcL,hi] at h
 exact⟨h.symm,hi⟩
theorem Ze6 {α:Type} (g:List (Rat×Rat)→α) (A:ArmV) (Q:List RV) (i:Nat):List.map g (plcL A Q (i+1))=List.map g (plcL A Q i)++ [g (plcQ (linkF A Q i) (shpAt A i))]:=by
 simp [plcL,List.range_succ]
open Classical in
noncomputable def plcV (A:ArmV) (Q:List RV):List (List (RV×RV)):=if hasE A (Q.length:Int)=0 then (plcL A Q A.links.length).map cvl else []
theorem ZdW {A:ArmV} {Q:List RV} (h:hasE A (Q.length:Int)=0):plcV A Q=(plcL A Q A.links.length).map cvl:=if_pos h
theorem Zok {A:ArmV} {Q:List RV} (h:¬ hasE A (Q.length:Int)=0):plcV A Q= []:=if_neg h
theorem turn_z2 {f:RF} {t:Rat} {a:Nat} (hc:qs f.c≤a) (hs:qs f.s≤a) (ht:qs t≤1048576):qs (turnF f t).c≤2*a+8388677∧qs (turnF f t).s≤2*a+8388677:=by
 obtain⟨c1,c2⟩:=Zl7 t
 have:=Zt f.c (cosq false t)
 have:=Zt f.s (sinq t)
 have:=Zt f.s (cosq false t)
 have:=Zt f.c (sinq t)
 have:=ZZ (f.c*cosq false t) (f.s*sinq t)
 have:=ZC (f.s*cosq false t) (f.c*sinq t)
 exact⟨by show qs (f.c*cosq false t - f.s*sinq t)≤_;omega,by show qs (f.s*cosq false t+f.c*sinq t)≤_;omega⟩
theorem qAt_z2 {Q:List RV} (hQ:∀ x,x∈Q→x.z≤1048576) (i:Nat):qs (qAt Q i)≤1048576:=by
 unfold qAt
 cases h:Q[i]? with
 |none=>show qs z0.q≤_;decide+kernel
 |some x=>
  have:=hQ x (List.mem_of_getElem? h)
  have:=x.qs_le
  show qs x.q≤_;omega
theorem ZjF {A:ArmV} {Q:List RV} (hA:armE A=0) (hQ:∀ x,x∈Q→x.z≤1048576) {i:Nat} (hi:i< 3):(qs (linkF A Q i).x≤92276478∧qs (linkF A Q i).y≤92276478)∧qs (linkF A Q i).c≤58721267∧qs (linkF A Q i).s≤58721267:=by
 obtain⟨b1,b2,b3,b4⟩:=Zqk hA
 have t0:=turn_z2 (t:=qAt Q 0) b3 b4 (qAt_z2 hQ 0)
 have l0:=Zef (f:=linkF A Q 0) (l:=lenAt A 0) (b:=4) b1 b2 t0.1 t0.2 (Zcc hA 0)
 have t1:=turn_z2 (f:=endF A Q 1) (t:=qAt Q 1) t0.1 t0.2 (qAt_z2 hQ 1)
 have l1:=Zef (f:=linkF A Q 1) (l:=lenAt A 1) l0.1 l0.2 t1.1 t1.2 (Zcc hA 1)
 have t2:=turn_z2 (f:=endF A Q 2) (t:=qAt Q 2) t1.1 t1.2 (qAt_z2 hQ 2)
 have up:∀ {n a b:Nat},n≤a→a≤b→n≤b:=fun h g=>Nat.le_trans h g
 rcases (show i=0∨i=1∨i=2 by omega) with rfl|rfl|rfl
 ·exact⟨⟨up b1 (by omega),up b2 (by omega)⟩,up t0.1 (by omega),up t0.2 (by omega)⟩
 ·exact⟨⟨up l0.1 (by omega),up l0.2 (by omega)⟩,up t1.1 (by omega),up t1.2 (by omega)⟩
 ·exact⟨⟨up l1.1 (by omega),up l1.2 (by omega)⟩,up t2.1 (by omega),up t2.2 (by omega)⟩
theorem Zwh {f:RF} {x y:Rat} (h1:qs f.x≤92276478∧qs f.y≤92276478) (h2:qs f.c≤58721267∧qs f.s≤58721267) (hx:qs x≤4) (hy:qs y≤4):qs (putQ f x y).1≤215000000∧qs (putQ f x y).2≤215000000:=by
 have:=Zt f.c x
 have:=Zt f.s y
 have:=Zt f.s x
 have:=Zt f.c y
 have:=ZC f.x (f.c*x)
 have:=ZZ (f.x+f.c*x) (f.s*y)
 have:=ZC f.y (f.s*x)
 have:=ZC (f.y+f.s*x) (f.c*y)
 exact⟨by show qs (f.x+f.c*x - f.s*y)≤_;omega,by show qs (f.y+f.s*x+f.c*y)≤_;omega⟩
def okP (m:List (Rat×Rat)):Prop:=m.length≤8∧∀ p,p∈m→qs p.1≤215000000∧qs p.2≤215000000
theorem ZkR {A:ArmV} {Q:List RV} (hA:armE A=0) (hQ:∀ x,x∈Q→x.z≤1048576) {i:Nat} {l:LinkV} (hl:A.links[i]? =some l):okP (plcQ (linkF A Q i) (shpAt A i))∧convE 64 (cvl (plcQ (linkF A Q i) (shpAt A i)))=0:=by
 have hn:=(ZE hA).1
 have hi:i< 3:=by have:=(List.getElem?_eq_some_iff.1 hl).1;omega
 obtain⟨_,_,_,_,_,_,_,_,_,hc,hs⟩:=Zcs hA (List.mem_of_getElem? hl)
 rw [Zev hl]
 refine⟨⟨by rw [Zg1];have:=(ZdL.1 hc).1;omega,fun p hp=> ?_⟩,ZrE (ZjG A Q i) hc⟩
 obtain⟨v,hv,rfl⟩:=List.mem_map.1 hp
 obtain⟨h1,h2⟩:=ZjF hA hQ hi
 have s1:=Zas (hs v hv).1
 have s2:=Zas (hs v hv).2
 have q1:=v.1.qs_le
 have q2:=v.2.qs_le
 exact Zwh h1 h2 (by omega) (by omega)
def ptQ (m:List (Rat×Rat)) (i:Nat):poly.Pt:=(m[i]?).getD (0,0)
theorem Zge {m:List (Rat×Rat)} {i:Nat} {p:Rat×Rat} (h:m[i]? =some p):ptQ m i=p:=by simp [ptQ,h]
theorem Zmx {A:ArmV} {Q:List RV} {i:Nat} {f:RF} (hi:i< A.links.length) (h:(framesF A Q)[i]? =some f):f=linkF A Q i:=by
 rw [framesF,List.getElem?_append_left (by rw [ZO];exact hi)] at h
 exact(Zdu h).1
theorem Zol (A:ArmV) (Q:List RV) (i:Nat):List.map rdvs ((plcL A Q (i+1)).map cvl)=List.map rdvs ((plcL A Q i).map cvl)++ [rdvs (cvl (plcQ (linkF A Q i) (shpAt A i)))]:=by
 rw [List.map_map,List.map_map]
 exact Ze6 (rdvs ∘ cvl) A Q i
end Go.Proofs.YtpfemjpgbpnpkaaGreatDoor.eng
namespace Go.Proofs.YtpfemjpgbpnpkaaGreatDoor.eng
open Go.RowKit num mem seg q held ratA ratB ratC ratD ratE vars ratF trq
def B4.holds (b:B4) (p:Rat×Rat):Prop:=(b.xl≤p.1∧p.1≤b.xh)∧b.yl≤p.2∧p.2≤b.yh
end Go.Proofs.YtpfemjpgbpnpkaaGreatDoor.eng
namespace Go.Proofs.YtpfemjpgbpnpkaaGreatDoor.eng
open Go.RowKit num mem seg q held ratA ratB ratC ratD ratE vars ratF natC natD natI sub32
section
variable {K : AV → Prop} {x y : RV}
def s3 (p q:Rat):AV:= .val (.agg [.d (.v (.bool (decide (p.num< 0)))),.d (.list (W (w32 p.num.natAbs))),.d (.list (W (w32 p.den))),.d (.v (.bool (decide (q.num< 0)))),.d (.list (W (w32 q.num.natAbs))),.d (.list (W (w32 q.den)))])
def splitBad (l m:List RV) (o:Int):Prop:=l.length≠m.length∨3< l.length∨o< 1∨50< o
instance (l m:List RV) (o:Int):Decidable (splitBad l m o):=by unfold splitBad;infer_instance
end
end Go.Proofs.YtpfemjpgbpnpkaaGreatDoor.eng
namespace Go.Proofs.YtpfemjpgbpnpkaaGreatDoor.eng
open Go.RowKit num mem seg q held ratA ratB ratC ratD ratE vars ratF trq
section
variable {A : ArmV} {l m : List RV} {W : List (List (RV × RV))} {o : Int}
end
noncomputable def wayBase (A:ArmV) (L:List (List RV)):Int:=
 if armE A=0 then (if L.length=0 then 14 else if 60< L.length then 2 else 0) else armE A
theorem ZcO {A:ArmV} {L:List (List RV)} (h:¬ armE A=0):wayBase A L=armE A:=if_neg h
theorem ZcM {A:ArmV} {L:List (List RV)} (h:armE A=0) (g:L.length=0):wayBase A L=14:=by unfold wayBase;rw [if_pos h,if_pos g]
theorem ZcN {A:ArmV} {L:List (List RV)} (h:armE A=0) (g:60< L.length):wayBase A L=2:=by unfold wayBase;rw [if_pos h,if_neg (by omega),if_pos g]
theorem Zcm {A:ArmV} {L:List (List RV)} (h:armE A=0) (g:¬ L.length=0) (k:¬ 60< L.length):wayBase A L=0:=by unfold wayBase;rw [if_pos h,if_neg g,if_neg k]
theorem ZaE {A:ArmV} {L:List (List RV)} (h:wayBase A L=0):armE A=0∧¬ L.length=0∧¬ 60< L.length:=by
 by_cases a:armE A=0
 ·refine⟨a,fun g=> ?_,fun g=> ?_⟩
  ·rw [ZcM a g] at h;exact absurd h (by decide)
  ·rw [ZcN a g] at h;exact absurd h (by decide)
 ·rw [ZcO a] at h;exact absurd h a
section
variable {A : ArmV} {L : List (List RV)} {W : List (List (RV × RV))} {o : Int} {i : Nat}
end
noncomputable def chkF (A:ArmV) (L:List (List RV)) (i:Nat):Int:=if wayBase A L=0 then firstE (fun j=>hasE A ((wAt L j).length:Int)) i else wayBase A L
noncomputable def chkE (A:ArmV) (L:List (List RV)):Int:=chkF A L L.length
theorem Zba {A:ArmV} {L:List (List RV)} (h:¬ wayBase A L=0):chkE A L=wayBase A L:=if_neg h
theorem Zqb {A:ArmV} {L:List (List RV)} {i:Nat} {q:List RV} (h:wayBase A L=0) (hb:∀ j,j< i→hasE A ((wAt L j).length:Int)=0) (hq:L[i]? =some q) (he:¬ hasE A (q.length:Int)=0):chkE A L=hasE A (q.length:Int):=by
 unfold chkE chkF
 rw [if_pos h,Zfw hb (by show hasE A ((wAt L i).length:Int)≠0;rw [ZY hq];exact he) (List.getElem?_eq_some_iff.1 hq).1,ZY hq]
theorem Zqc {A:ArmV} {L:List (List RV)} (h:wayBase A L=0) (hb:∀ j,j< L.length→hasE A ((wAt L j).length:Int)=0):chkE A L=0:=by
 unfold chkE chkF
 rw [if_pos h,ZeG hb]
theorem Zd7 {A:ArmV} {L:List (List RV)} (h:chkE A L=0):wayBase A L=0∧∀ j,j< L.length→hasE A ((wAt L j).length:Int)=0:=by
 by_cases b:wayBase A L=0
 ·refine⟨b,Zc2 ?_⟩
  unfold chkE chkF at h
  rw [if_pos b] at h;exact h
 ·rw [Zba b] at h;exact absurd h b
section
variable {A : ArmV} {L : List (List RV)} {W : List (List (RV × RV))} {o : Int}
end
def rowQ (L:List (List RV)) (I:List Nat):List (List Rat):=I.map fun i=>gdL (wAt L i)
def trAV (d:Nat) (L:List (List RV)):List Nat→AV
 | []=> .val (.one (.full [[D.list (List.map rdc (gdL (wAt L 0)))]]))
 |_ :: _=> .val (.one (.row d 0))
def trOb (d:Nat) (L:List (List RV)):List Nat→List (Nat×Ob)
 | []=> []
 |c :: r=> [(d,.row 33 1 0 (List.map rdcs (rowQ L (0 :: c :: r))) true)]
end Go.Proofs.YtpfemjpgbpnpkaaGreatDoor.eng
