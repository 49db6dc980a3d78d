/- Plain law: frames of an arm by cosines and sines; the sizes of their numbers. No program. -/
import Derived.Test.YtnhfpbcbhnfeaaaGreatDoorQGrpX
namespace Go.Proofs.YtnhfpbcbhnfeaaaGreatDoor.eng
open Go.RowKit num mem seg q held ratA ratB ratC ratD ratE vars ratF trq
structure RF where
 x:Rat
 y:Rat
 c:Rat
 s:Rat
def unitC(c s:Rat):Prop:=c*c+s*s=1
theorem Zjg(h:Bool)(p:Rat):unitC (cosq h p) (sinq (tq h p)):=by
 unfold unitC;cases h
 .obtain⟨a1,a2,a3⟩:=Zes p;rw[ZcZ];grind
 .rw[Zuf,Zod,ZgH];decide+kernel
def turnF(f:RF)(t:Rat):RF:=⟨f.x,f.y,f.c*cosq false t-f.s*sinq t,f.s*cosq false t+f.c*sinq t⟩
def longF(f:RF)(l:Rat):RF:=⟨f.x+f.c*l,f.y+f.s*l,f.c,f.s⟩
def RF.u(f:RF):Prop:=unitC f.c f.s
theorem Zgu{f:RF}(h:f.u)(t:Rat):(turnF f t).u:=by
 have h2:=Zjg false t;unfold RF.u unitC turnF at*;rw[ZcZ]at h2;simp only;generalize cosq false t=a at*;generalize sinq t=b at*
 grind
theorem Zww{f:RF}(h:f.u)(l:Rat):(longF f l).u:=h
def baseF(A:ArmV):RF:=⟨A.bx.q,A.by'.q,cosq A.bh A.bt.q,sinq (tq A.bh A.bt.q)⟩
def qAt(Q:List RV)(i:Nat):Rat:=((Q[i]?).getD z0).q
def lenAt(A:ArmV)(i:Nat):Rat:=((A.links[i]?).getD ⟨z0,z0,z0,z0,z0, []⟩).len.q
theorem Zk7{Q:List RV}{i:Nat}{x:RV}(h:Q[i]? =some x):qAt Q i=x.q:=by simp[qAt,h]
theorem Zls{A:ArmV}{i:Nat}{l:LinkV}(h:A.links[i]? =some l):lenAt A i=l.len.q:=by simp[lenAt,h]
def rqP(p:Rat×Rat):List D:=q3d p.1++q3d p.2
theorem ZgT(p:Rat):qs (cosq false p)<=4*qs p+34/\qs (sinq p)<=4*qs p+34:=by
 have h1:qs ((1:Int):Rat)<=8:=Zal (n:=1) ω ω;have:=ZX p p;have:=Zac ((1:Int):Rat) (p*p);have:=ZR ((1:Int):Rat) (p*p);have:=ZbZ (((1:Int):Rat)-p*p) (((1:Int):Rat)+p*p);have:=ZR p p;have:=ZbZ (p+p) (((1:Int):Rat)+p*p);exact⟨by unfold cosq;simp only[Bool.false_eq_true,if_false];omega,by unfold sinq;omega⟩
theorem ZrJ{A:ArmV}(hA:armE A=0):qs (baseF A).x<=4/\qs (baseF A).y<=4/\qs (baseF A).c<=66/\qs (baseF A).s<=66:=by
 obtain⟨_,_,h1,h2,h3,_,_⟩:=Zy hA;have z1:=ZM h1;have z2:=ZM h2;have z3:=ZM h3;have q1:=A.bx.qs_le;have q2:=A.by'.qs_le;have q3:=A.bt.qs_le;obtain⟨c1,c2⟩:=ZgT A.bt.q;refine⟨by show qs A.bx.q<=4;omega,by show qs A.by'.q<=4;omega,?_,?_⟩
 .show qs (cosq A.bh A.bt.q)<=66;cases A.bh
  .omega
  .rw[show cosq true A.bt.q=((-1:Int):Rat) from rfl];have:qs ((-1:Int):Rat)<=8:=Zal (n:=-1) ω ω;omega
 .show qs (sinq (tq A.bh A.bt.q))<=66;cases A.bh
  .rw[ZcZ];omega
  .rw[Zod,ZgH];decide+kernel
theorem Zwy{A:ArmV}(hA:armE A=0)(i:Nat):qs (lenAt A i)<=4:=by
 unfold lenAt
 cases h:A.links[i]? with
 |none=>show qs z0.q<=_;decide+kernel
 |some l=>
  have:=ZM (ZK hA (mG h)).1;have:=l.len.qs_le;show qs l.len.q<=_;omega
