/- Plain law: frames of an arm by cosines and sines; the sizes of their numbers. No program. -/
import Derived.Test.YtpfemjpgbpnpkaaGreatDoorBGrpX
import Derived.Test.YtpfemjpgbpnpkaaGreatDoorBGrpT
import Derived.Test.YtpfemjpgbpnpkaaGreatDoorBGrpM
import Derived.Test.YtpfemjpgbpnpkaaGreatDoorBEngH3b
namespace Go.Proofs.YtpfemjpgbpnpkaaGreatDoor.eng
open Go.RowKit num mem seg q held ratA ratB ratC ratD ratE vars ratF trq
structure RF where
 x:Rat
 y:Rat
 c:Rat
 s:Rat
def unitC (c s:Rat):Prop:=c*c+s*s=1
theorem ZhK (h:Bool) (p:Rat):unitC (cosq h p) (sinq (tq h p)):=by
 unfold unitC
 cases h
 ·obtain⟨a1,a2,a3⟩:=ZdQ p
  rw [ZcA];grind
 ·rw [Zqd,ZlR,ZfG];decide+kernel
def turnF (f:RF) (t:Rat):RF:=⟨f.x,f.y,f.c*cosq false t - f.s*sinq t,f.s*cosq false t+f.c*sinq t⟩
def longF (f:RF) (l:Rat):RF:=⟨f.x+f.c*l,f.y+f.s*l,f.c,f.s⟩
def RF.u (f:RF):Prop:=unitC f.c f.s
theorem Zfz {f:RF} (h:f.u) (t:Rat):(turnF f t).u:=by
 have h2:=ZhK false t
 unfold RF.u unitC turnF at*
 rw [ZcA] at h2
 simp only
 generalize cosq false t=a at*
 generalize sinq t=b at*
 grind
theorem ZrJ {f:RF} (h:f.u) (l:Rat):(longF f l).u:=h
def baseF (A:ArmV):RF:=⟨A.bx.q,A.by'.q,cosq A.bh A.bt.q,sinq (tq A.bh A.bt.q)⟩
def lenAt (A:ArmV) (i:Nat):Rat:=((A.links[i]?).getD ⟨z0,z0,z0,z0,z0, []⟩).len.q
theorem Zjz {A:ArmV} {i:Nat} {l:LinkV} (h:A.links[i]? =some l):lenAt A i=l.len.q:=by simp [lenAt,h]
def rqP (p:Rat×Rat):List D:=q3d p.1++q3d p.2
theorem ZfN (p:Rat):qs (cosq false p)≤4*qs p+34∧qs (sinq p)≤4*qs p+34:=by
 have h1:qs ((1:Int):Rat)≤8:=ZaI (n:=1) (by omega) (by omega)
 have:=ZS p p
 have:=Zaf ((1:Int):Rat) (p*p)
 have:=ZI ((1:Int):Rat) (p*p)
 have:=Zb8 (((1:Int):Rat) - p*p) (((1:Int):Rat)+p*p)
 have:=ZI p p
 have:=Zb8 (p+p) (((1:Int):Rat)+p*p)
 exact⟨by unfold cosq;simp only [Bool.false_eq_true,if_false];omega,by unfold sinq;omega⟩
theorem Zor {A:ArmV} (hA:armE A=0):qs (baseF A).x≤4∧qs (baseF A).y≤4∧qs (baseF A).c≤66∧qs (baseF A).s≤66:=by
 obtain⟨_,_,h1,h2,h3,_,_⟩:=ZaA hA
 have z1:=ZH h1
 have z2:=ZH h2
 have z3:=ZH h3
 have q1:=A.bx.qs_le
 have q2:=A.by'.qs_le
 have q3:=A.bt.qs_le
 obtain⟨c1,c2⟩:=ZfN A.bt.q
 refine⟨by show qs A.bx.q≤4;omega,by show qs A.by'.q≤4;omega,?_,?_⟩
 ·show qs (cosq A.bh A.bt.q)≤66
  cases A.bh
  ·omega
  ·rw [show cosq true A.bt.q=((-1:Int):Rat) from rfl]
   have:qs ((-1:Int):Rat)≤8:=ZaI (n:=-1) (by omega) (by omega)
   omega
 ·show qs (sinq (tq A.bh A.bt.q))≤66
  cases A.bh
  ·rw [ZcA];omega
  ·rw [ZlR,ZfG];decide+kernel
theorem ZrK {A:ArmV} (hA:armE A=0) (i:Nat):qs (lenAt A i)≤4:=by
 unfold lenAt
 cases h:A.links[i]? with
 |none=>show qs z0.q≤_;decide+kernel
 |some l=>
  have:=ZH (ZaO hA (List.mem_of_getElem? h)).1
  have:=l.len.qs_le
  show qs l.len.q≤_;omega
end Go.Proofs.YtpfemjpgbpnpkaaGreatDoor.eng
