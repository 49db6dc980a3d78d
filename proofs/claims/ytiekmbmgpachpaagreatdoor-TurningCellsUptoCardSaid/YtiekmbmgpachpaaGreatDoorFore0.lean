/- Plain law: frames of an arm by cosines and sines; the sizes of their numbers. No program. -/
import Derived.Test.YtiekmbmgpachpaaGreatDoorGrpX
import Derived.Test.YtiekmbmgpachpaaGreatDoorGrpT
import Derived.Test.YtiekmbmgpachpaaGreatDoorGrpM
import Derived.Test.YtiekmbmgpachpaaGreatDoorEngH3b
namespace Go.Proofs.YtiekmbmgpachpaaGreatDoor.eng
open Go.RowKit num mem seg q held ratA ratB ratC ratD ratE vars ratF trq
structure RF where
 x:Rat
 y:Rat
 c:Rat
 s:Rat
def unitC (c s:Rat):Prop:=c*c+s*s=1
theorem ZjT (h:Bool) (p:Rat):unitC (cosq h p) (sinq (tq h p)):=by
 unfold unitC
 cases h
 ·obtain⟨a1,a2,a3⟩:=Zby p
  rw [Zhx];grind
 ·rw [ZnE,ZoQ,ZmB];decide+kernel
def RF.u (f:RF):Prop:=unitC f.c f.s
theorem ZkM (p:Rat):qs (cosq false p)≤4*qs p+34∧qs (sinq p)≤4*qs p+34:=by
 have h1:qs ((1:Int):Rat)≤8:=Zam (n:=1) (by omega) (by omega)
 have:=Zx p p
 have:=Zas ((1:Int):Rat) (p*p)
 have:=ZU ((1:Int):Rat) (p*p)
 have:=Zbg (((1:Int):Rat) - p*p) (((1:Int):Rat)+p*p)
 have:=ZU p p
 have:=Zbg (p+p) (((1:Int):Rat)+p*p)
 exact⟨by unfold cosq;simp only [Bool.false_eq_true,if_false];omega,by unfold sinq;omega⟩
end Go.Proofs.YtiekmbmgpachpaaGreatDoor.eng
