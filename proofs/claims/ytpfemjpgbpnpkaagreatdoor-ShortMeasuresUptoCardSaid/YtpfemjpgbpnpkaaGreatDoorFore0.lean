/- Plain law: frames of an arm by cosines and sines; the sizes of their numbers. No program. -/
import Derived.Test.YtpfemjpgbpnpkaaGreatDoorGrpX
import Derived.Test.YtpfemjpgbpnpkaaGreatDoorGrpT
import Derived.Test.YtpfemjpgbpnpkaaGreatDoorGrpM
import Derived.Test.YtpfemjpgbpnpkaaGreatDoorEngH3b
namespace Go.Proofs.YtpfemjpgbpnpkaaGreatDoor.eng
open Go.RowKit num mem seg q held ratA ratB ratC ratD ratE vars ratF trq
structure RF where
 x:Rat
 y:Rat
 c:Rat
 s:Rat
def unitC (c s:Rat):Prop:=c*c+s*s=1
theorem Zng (h:Bool) (p:Rat):unitC (cosq h p) (sinq (tq h p)):=by
 unfold unitC
 cases h
 ·obtain⟨a1,a2,a3⟩:=ZdK p
  rw [Zbe];grind
 ·rw [ZeJ,ZeQ,Zdf];decide+kernel
theorem ZvS (h:Bool) (p:Rat):tofH (cosq h p)=h∧tofQ (cosq h p) (sinq (tq h p))=tq h p:=by
 cases h
 ·obtain⟨a1,a2,a3⟩:=ZdK p
  exact ZhD (by grind) (by rw [Zbe];grind)
 ·exact Zes (by rw [ZeJ];decide+kernel)
theorem Zt5 {c s:Rat} (h:unitC c s):cosq (tofH c) (tofQ c s)=c∧sinq (tq (tofH c) (tofQ c s))=s:=by
 unfold unitC at h
 by_cases h1:1+c=0
 ·obtain⟨e1,e2⟩:=Zes (s:=s) h1
  rw [e1,e2,ZeJ,ZeQ,Zdf]
  have hc:c=-1:=by grind
  have hs:s*s=0:=by rw [hc] at h;grind
  have:s=0:=by rcases Rat.mul_eq_zero.1 hs with h|h<;>exact h
  exact⟨hc.symm,this.symm⟩
 ·obtain⟨e1,e2⟩:=ZhD (c:=c) (s:=s) (r:=s / (1+c)) h1 (by grind)
  rw [e1,e2,Zbe]
  obtain⟨a1,a2,a3⟩:=ZdK (s / (1+c))
  generalize hp:s / (1+c)=p at*
  have h2:p*(1+c)=s:=by grind
  have h3:(1+c)*(p*p)=1 - c:=by
   have:(1+c)*((1+c)*(p*p) - (1 - c))=0:=by grind
   rcases Rat.mul_eq_zero.1 this with h|h
   ·exact absurd h h1
   ·grind
  have h4:c*(1+p*p)=1 - p*p:=by grind
  have h5:s*(1+p*p)=2*p:=by rw [← h2];grind
  constructor
  ·have:(cosq false p - c)*(1+p*p)=0:=by grind
   rcases Rat.mul_eq_zero.1 this with h|h
   ·grind
   ·exact absurd h a3
  ·have:(sinq p - s)*(1+p*p)=0:=by grind
   rcases Rat.mul_eq_zero.1 this with h|h
   ·grind
   ·exact absurd h a3
theorem ZvR (c s:Rat):tq (tofH c) (tofQ c s)=tofQ c s:=by
 unfold tofH tofQ tq
 by_cases h:((1:Int):Rat)+c=0
 ·rw [if_pos h,decide_eq_true h];rfl
 ·rw [if_neg h,decide_eq_false h];rfl
def turnF (f:RF) (t:Rat):RF:=⟨f.x,f.y,f.c*cosq false t - f.s*sinq t,f.s*cosq false t+f.c*sinq t⟩
def longF (f:RF) (l:Rat):RF:=⟨f.x+f.c*l,f.y+f.s*l,f.c,f.s⟩
def RF.u (f:RF):Prop:=unitC f.c f.s
theorem Znj {f:RF} (h:f.u) (t:Rat):(turnF f t).u:=by
 have h2:=Zng false t
 unfold RF.u unitC turnF at*
 rw [Zbe] at h2
 simp only
 generalize cosq false t=a at*
 generalize sinq t=b at*
 grind
theorem ZuI {f:RF} (h:f.u) (l:Rat):(longF f l).u:=h
theorem Znk {f:RF} (h:f.u) (t:Rat):thnH (tofH f.c) false (tofQ f.c f.s) t=tofH (turnF f t).c∧thnQ (tofH f.c) false (tofQ f.c f.s) t=tofQ (turnF f t).c (turnF f t).s:=by
 obtain⟨h1,h2⟩:=Zt5 h
 obtain⟨h3,h4⟩:=Zqg (tofH f.c) false (tofQ f.c f.s) t
 rw [h1,h2,Zbe] at h3 h4
 refine⟨h3.symm,?_⟩
 rw [← h4]
 show _=tofQ (f.c*cosq false t - f.s*sinq t) (f.s*cosq false t+f.c*sinq t)
 rfl
theorem ZnI (c s:Rat) {t:Rat} (ht:t=0):thnH (tofH c) false (tofQ c s) t=tofH c∧thnQ (tofH c) false (tofQ c s) t=tofQ c s:=by
 subst ht
 obtain⟨h1,h2⟩:=ZqX (tofH c) (tofQ c s)
 exact⟨h1,h2.trans (ZvR c s)⟩
theorem Zm9 {f:RF} (h:f.u) (x y:Rat):vtX (tofH f.c) (tofQ f.c f.s) x y=x*f.c - y*f.s∧vtY (tofH f.c) (tofQ f.c f.s) x y=x*f.s+y*f.c:=by
 obtain⟨h1,h2⟩:=Zt5 h
 unfold vtX vtY
 rw [h1,h2]
 exact⟨rfl,rfl⟩
def baseF (A:ArmV):RF:=⟨A.bx.q,A.by'.q,cosq A.bh A.bt.q,sinq (tq A.bh A.bt.q)⟩
def qAt (Q:List RV) (i:Nat):Rat:=((Q[i]?).getD z0).q
def lenAt (A:ArmV) (i:Nat):Rat:=((A.links[i]?).getD ⟨z0,z0,z0,z0,z0, []⟩).len.q
def endF (A:ArmV) (Q:List RV):Nat→RF
 |0=>baseF A
 |i+1=>longF (turnF (endF A Q i) (qAt Q i)) (lenAt A i)
def linkF (A:ArmV) (Q:List RV) (i:Nat):RF:=turnF (endF A Q i) (qAt Q i)
def linksF (A:ArmV) (Q:List RV) (n:Nat):List RF:=(List.range n).map (linkF A Q)
def framesF (A:ArmV) (Q:List RV):List RF:=linksF A Q A.links.length++ [endF A Q A.links.length]
theorem ZR {Q:List RV} {i:Nat} {x:RV} (h:Q[i]? =some x):qAt Q i=x.q:=by simp [qAt,h]
theorem ZeC {A:ArmV} {i:Nat} {l:LinkV} (h:A.links[i]? =some l):lenAt A i=l.len.q:=by simp [lenAt,h]
theorem ZpN (A:ArmV) (Q:List RV):∀ i,(endF A Q i).u
 |0=>Zng _ _
 |i+1=>ZuI (Znj (ZpN A Q i) _) _
theorem ZjG (A:ArmV) (Q:List RV) (i:Nat):(linkF A Q i).u:=Znj (ZpN A Q i) _
theorem ZO (A:ArmV) (Q:List RV) (n:Nat):(linksF A Q n).length=n:=by simp [linksF]
theorem ZbT (A:ArmV) (Q:List RV):(framesF A Q).length=A.links.length+1:=by simp [framesF,linksF]
theorem Zdu {A:ArmV} {Q:List RV} {n i:Nat} {f:RF} (h:(linksF A Q n)[i]? =some f):f=linkF A Q i∧i< n:=by
 have hi:=(List.getElem?_eq_some_iff.1 h).1
 rw [ZO] at hi
 simp [linksF,hi] at h
 exact⟨h.symm,hi⟩
theorem Zej {A:ArmV} {Q:List RV} {f:RF} (h:(framesF A Q)[A.links.length]? =some f):f=endF A Q A.links.length:=by
 rw [framesF,List.getElem?_append_right (by rw [ZO];exact Nat.le_refl _),ZO,Nat.sub_self] at h
 simpa using h.symm
theorem Zch (A:ArmV) (Q:List RV):(framesF A Q).take A.links.length=linksF A Q A.links.length:=by
 rw [framesF,List.take_left' (ZO _ _ _)]
def rdF (f:RF):List D:=rd (cn f.x)++rd (cn f.y)++ [D.v (.bool (tofH f.c))]++rd (cn (tofQ f.c f.s))
def rqF (f:RF):List D:=q3d f.x++q3d f.y++q3d f.c++q3d f.s
def rvP (p:Rat×Rat):List D:=rd (cn p.1)++rd (cn p.2)
def rqP (p:Rat×Rat):List D:=q3d p.1++q3d p.2
theorem Zfj {α:Type} (g:RF→α) (A:ArmV) (Q:List RV) (i:Nat):List.map g (linksF A Q (i+1))=List.map g (linksF A Q i)++ [g (linkF A Q i)]:=by
 simp [linksF,List.range_succ]
theorem Zl7 (p:Rat):qs (cosq false p)≤4*qs p+34∧qs (sinq p)≤4*qs p+34:=by
 have h1:qs ((1:Int):Rat)≤8:=Zaq (n:=1) (by omega) (by omega)
 have:=Zt p p
 have:=ZZ ((1:Int):Rat) (p*p)
 have:=ZC ((1:Int):Rat) (p*p)
 have:=ZaQ (((1:Int):Rat) - p*p) (((1:Int):Rat)+p*p)
 have:=ZC p p
 have:=ZaQ (p+p) (((1:Int):Rat)+p*p)
 exact⟨by unfold cosq;simp only [Bool.false_eq_true,if_false];omega,by unfold sinq;omega⟩
theorem Zqk {A:ArmV} (hA:armE A=0):qs (baseF A).x≤4∧qs (baseF A).y≤4∧qs (baseF A).c≤66∧qs (baseF A).s≤66:=by
 obtain⟨_,_,h1,h2,h3,_,_⟩:=ZE hA
 have z1:=Zas h1
 have z2:=Zas h2
 have z3:=Zas h3
 have q1:=A.bx.qs_le
 have q2:=A.by'.qs_le
 have q3:=A.bt.qs_le
 obtain⟨c1,c2⟩:=Zl7 A.bt.q
 refine⟨by show qs A.bx.q≤4;omega,by show qs A.by'.q≤4;omega,?_,?_⟩
 ·show qs (cosq A.bh A.bt.q)≤66
  cases A.bh
  ·omega
  ·rw [show cosq true A.bt.q=((-1:Int):Rat) from rfl]
   have:qs ((-1:Int):Rat)≤8:=Zaq (n:=-1) (by omega) (by omega)
   omega
 ·show qs (sinq (tq A.bh A.bt.q))≤66
  cases A.bh
  ·rw [Zbe];omega
  ·rw [ZeQ,Zdf];decide+kernel
theorem Zni {f:RF} {t:Rat} {a:Nat} (hc:qs f.c≤a) (hs:qs f.s≤a) (ht:qs t≤2097152):qs (turnF f t).c≤2*a+16777285∧qs (turnF f t).s≤2*a+16777285:=by
 obtain⟨c1,c2⟩:=Zl7 t
 have:=Zt f.c (cosq false t)
 have:=Zt f.s (sinq t)
 have:=Zt f.s (cosq false t)
 have:=Zt f.c (sinq t)
 have:=ZZ (f.c*cosq false t) (f.s*sinq t)
 have:=ZC (f.s*cosq false t) (f.c*sinq t)
 exact⟨by show qs (f.c*cosq false t - f.s*sinq t)≤_;omega,by show qs (f.s*cosq false t+f.c*sinq t)≤_;omega⟩
theorem Zef {f:RF} {l:Rat} {a b:Nat} (hx:qs f.x≤b) (hy:qs f.y≤b) (hc:qs f.c≤a) (hs:qs f.s≤a) (hl:qs l≤4):qs (longF f l).x≤b+a+5∧qs (longF f l).y≤b+a+5:=by
 have:=Zt f.c l
 have:=Zt f.s l
 have:=ZC f.x (f.c*l)
 have:=ZC f.y (f.s*l)
 exact⟨by show qs (f.x+f.c*l)≤_;omega,by show qs (f.y+f.s*l)≤_;omega⟩
theorem Zuu {Q:List RV} (hQ:∀ x,x∈Q→x.z≤2097152) (i:Nat):qs (qAt Q i)≤2097152:=by
 unfold qAt
 cases h:Q[i]? with
 |none=>show qs z0.q≤_;decide+kernel
 |some x=>
  have:=hQ x (List.mem_of_getElem? h)
  have:=x.qs_le
  show qs x.q≤_;omega
theorem Zcc {A:ArmV} (hA:armE A=0) (i:Nat):qs (lenAt A i)≤4:=by
 unfold lenAt
 cases h:A.links[i]? with
 |none=>show qs z0.q≤_;decide+kernel
 |some l=>
  have:=Zas (Zcs hA (List.mem_of_getElem? h)).1
  have:=l.len.qs_le
  show qs l.len.q≤_;omega
theorem Zqd {A:ArmV} {Q:List RV} (hA:armE A=0) (hQ:∀ x,x∈Q→x.z≤2097152):
  ∀ i,i≤3→(qs (endF A Q i).x≤184551078∧qs (endF A Q i).y≤184551078∧qs (endF A Q i).c≤117441523∧qs (endF A Q i).s≤117441523)∧(i< 3→qs (linkF A Q i).x≤184551078∧qs (linkF A Q i).y≤184551078∧qs (linkF A Q i).c≤117441523∧qs (linkF A Q i).s≤117441523):=by
 obtain⟨b1,b2,b3,b4⟩:=Zqk hA
 have t0:=Zni (t:=qAt Q 0) b3 b4 (Zuu hQ 0)
 have l0:=Zef (f:=linkF A Q 0) (l:=lenAt A 0) (b:=4) b1 b2 t0.1 t0.2 (Zcc hA 0)
 have t1:=Zni (f:=endF A Q 1) (t:=qAt Q 1) t0.1 t0.2 (Zuu hQ 1)
 have l1:=Zef (f:=linkF A Q 1) (l:=lenAt A 1) l0.1 l0.2 t1.1 t1.2 (Zcc hA 1)
 have t2:=Zni (f:=endF A Q 2) (t:=qAt Q 2) t1.1 t1.2 (Zuu hQ 2)
 have l2:=Zef (f:=linkF A Q 2) (l:=lenAt A 2) l1.1 l1.2 t2.1 t2.2 (Zcc hA 2)
 have up:∀ {n a b:Nat},n≤a→a≤b→n≤b:=fun h g=>Nat.le_trans h g
 intro i hi
 rcases (show i=0∨i=1∨i=2∨i=3 by omega) with rfl|rfl|rfl|rfl
 ·exact⟨⟨up b1 (by omega),up b2 (by omega),up b3 (by omega),up b4 (by omega)⟩,fun _=>⟨up b1 (by omega),up b2 (by omega),up t0.1 (by omega),up t0.2 (by omega)⟩⟩
 ·exact⟨⟨up l0.1 (by omega),up l0.2 (by omega),up t0.1 (by omega),up t0.2 (by omega)⟩,fun _=>⟨up l0.1 (by omega),up l0.2 (by omega),up t1.1 (by omega),up t1.2 (by omega)⟩⟩
 ·exact⟨⟨up l1.1 (by omega),up l1.2 (by omega),up t1.1 (by omega),up t1.2 (by omega)⟩,fun _=>⟨up l1.1 (by omega),up l1.2 (by omega),up t2.1 (by omega),up t2.2 (by omega)⟩⟩
 ·exact⟨⟨up l2.1 (by omega),up l2.2 (by omega),up t2.1 (by omega),up t2.2 (by omega)⟩,fun h=>absurd h (by omega)⟩
theorem ZqV {f:RF} (hc:qs f.c≤117441523) (hs:qs f.s≤117441523):qs (tofQ f.c f.s)≤234883080:=by
 have h1:qs ((1:Int):Rat)≤8:=Zaq (n:=1) (by omega) (by omega)
 have:=ZC ((1:Int):Rat) f.c
 have:=ZaQ f.s (((1:Int):Rat)+f.c)
 unfold tofQ
 split
 ·have:qs ((0:Int):Rat)≤8:=Zaq (n:=0) (by omega) (by omega)
  omega
 ·omega
end Go.Proofs.YtpfemjpgbpnpkaaGreatDoor.eng
