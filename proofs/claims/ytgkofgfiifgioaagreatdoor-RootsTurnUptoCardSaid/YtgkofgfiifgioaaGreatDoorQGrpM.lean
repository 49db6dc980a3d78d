/- Joined by wip/bundle.py: XEngFrame XEngFrame2 XEngH3b XFore0. -/
import Derived.Test.YtgkofgfiifgioaaGreatDoorQGrpO
import Derived.Test.YtgkofgfiifgioaaGreatDoorQArmA
namespace Go.Proofs.YtgkofgfiifgioaaGreatDoor.eng
open Go.RowKit num mem seg q held ratA ratB ratC ratD ratE vars ratF trq
section
variable {x y z t u v : RV} {h : Bool} {K : AV → Prop}
end
section
variable {x y z t u v w x2 y2 z2 : RV} {h g : Bool} {K : AV → Prop}
end
open Go.RowKit num mem seg q held ratA ratB ratC ratD ratE vars ratF natC natD natI sub32
section
variable {K : AV → Prop} {x y : RV}
end
structure RF where
 x:Rat
 y:Rat
 c:Rat
 s:Rat
def unitC (c s:Rat):Prop:=c*c+s*s=1
theorem Zpv (h:Bool) (p:Rat):unitC (cosq h p) (sinq (tq h p)):=by
 unfold unitC
 cases h
 ·obtain⟨a1,a2,a3⟩:=Zbs p
  rw [ZeC];grind
 ·rw [Zoa,Zpz,ZmZ];decide+kernel
def RF.u (f:RF):Prop:=unitC f.c f.s
theorem Zns (p:Rat):qs (cosq false p)≤4*qs p+34∧qs (sinq p)≤4*qs p+34:=by
 have h1:qs ((1:Int):Rat)≤8:=ZaR (n:=1) ω ω
 have:=Z2 p p
 have:=Zbv ((1:Int):Rat) (p*p)
 have:=ZaF ((1:Int):Rat) (p*p)
 have:=Zb2 (((1:Int):Rat) - p*p) (((1:Int):Rat)+p*p)
 have:=ZaF p p
 have:=Zb2 (p+p) (((1:Int):Rat)+p*p)
 exact⟨by unfold cosq;simp only [Bool.false_eq_true,if_false];omega,by unfold sinq;omega⟩
