/- Plain law: frames of an arm by cosines and sines; the sizes of their numbers. No program. -/
import Derived.Test.YtpejadencgfnnaaGreatDoorGrpX
import Derived.Test.YtpejadencgfnnaaGreatDoorGrpT
import Derived.Test.YtpejadencgfnnaaGreatDoorGrpM
import Derived.Test.YtpejadencgfnnaaGreatDoorEngH3b
namespace Go.Proofs.YtpejadencgfnnaaGreatDoor.eng
open Go.RowKit num mem seg q held ratA ratB ratC ratD ratE vars ratF trq
structure RF where
 x:Rat
 y:Rat
 c:Rat
 s:Rat
def unitC (c s:Rat):Prop:=c*c+s*s=1
theorem Zhu (h:Bool) (p:Rat):unitC (cosq h p) (sinq (tq h p)):=by
 unfold unitC
 cases h
 ·obtain⟨a1,a2,a3⟩:=ZdF p
  rw [Zcr];grind
 ·rw [Zpr,Zli,Zfs];decide+kernel
def turnF (f:RF) (t:Rat):RF:=⟨f.x,f.y,f.c*cosq false t - f.s*sinq t,f.s*cosq false t+f.c*sinq t⟩
def longF (f:RF) (l:Rat):RF:=⟨f.x+f.c*l,f.y+f.s*l,f.c,f.s⟩
def RF.u (f:RF):Prop:=unitC f.c f.s
theorem Zfl {f:RF} (h:f.u) (t:Rat):(turnF f t).u:=by
 have h2:=Zhu false t
 unfold RF.u unitC turnF at*
 rw [Zcr] at h2
 simp only
 generalize cosq false t=a at*
 generalize sinq t=b at*
 grind
theorem ZqW {f:RF} (h:f.u) (l:Rat):(longF f l).u:=h
def baseF (A:ArmV):RF:=⟨A.bx.q,A.by'.q,cosq A.bh A.bt.q,sinq (tq A.bh A.bt.q)⟩
def lenAt (A:ArmV) (i:Nat):Rat:=((A.links[i]?).getD ⟨z0,z0,z0,z0,z0, []⟩).len.q
theorem Zi9 {A:ArmV} {i:Nat} {l:LinkV} (h:A.links[i]? =some l):lenAt A i=l.len.q:=by simp [lenAt,h]
def rqP (p:Rat×Rat):List D:=q3d p.1++q3d p.2
theorem Zfz (p:Rat):qs (cosq false p)≤4*qs p+34∧qs (sinq p)≤4*qs p+34:=by
 have h1:qs ((1:Int):Rat)≤8:=ZaL (n:=1) (by omega) (by omega)
 have:=ZT p p
 have:=Zaf ((1:Int):Rat) (p*p)
 have:=ZL ((1:Int):Rat) (p*p)
 have:=Zb5 (((1:Int):Rat) - p*p) (((1:Int):Rat)+p*p)
 have:=ZL p p
 have:=Zb5 (p+p) (((1:Int):Rat)+p*p)
 exact⟨by unfold cosq;simp only [Bool.false_eq_true,if_false];omega,by unfold sinq;omega⟩
theorem ZnJ {A:ArmV} (hA:armE A=0):qs (baseF A).x≤4∧qs (baseF A).y≤4∧qs (baseF A).c≤66∧qs (baseF A).s≤66:=by
 obtain⟨_,_,h1,h2,h3,_,_⟩:=ZaB hA
 have z1:=ZK h1
 have z2:=ZK h2
 have z3:=ZK h3
 have q1:=A.bx.qs_le
 have q2:=A.by'.qs_le
 have q3:=A.bt.qs_le
 obtain⟨c1,c2⟩:=Zfz A.bt.q
 refine⟨by show qs A.bx.q≤4;omega,by show qs A.by'.q≤4;omega,?_,?_⟩
 ·show qs (cosq A.bh A.bt.q)≤66
  cases A.bh
  ·omega
  ·rw [show cosq true A.bt.q=((-1:Int):Rat) from rfl]
   have:qs ((-1:Int):Rat)≤8:=ZaL (n:=-1) (by omega) (by omega)
   omega
 ·show qs (sinq (tq A.bh A.bt.q))≤66
  cases A.bh
  ·rw [Zcr];omega
  ·rw [Zli,Zfs];decide+kernel
theorem ZqX {A:ArmV} (hA:armE A=0) (i:Nat):qs (lenAt A i)≤4:=by
 unfold lenAt
 cases h:A.links[i]? with
 |none=>show qs z0.q≤_;decide+kernel
 |some l=>
  have:=ZK (ZaR hA (List.mem_of_getElem? h)).1
  have:=l.len.qs_le
  show qs l.len.q≤_;omega
end Go.Proofs.YtpejadencgfnnaaGreatDoor.eng
