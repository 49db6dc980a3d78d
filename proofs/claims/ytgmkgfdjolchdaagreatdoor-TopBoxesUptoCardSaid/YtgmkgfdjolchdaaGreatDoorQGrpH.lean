/- Joined by wip/bundle.py: XGeo XGeo2 XGeo3 XWide. -/
import Derived.Test.YtgmkgfdjolchdaaGreatDoorQGrpY
namespace Go.Proofs.YtgmkgfdjolchdaaGreatDoor.poly
theorem div_pos {a b:Rat} (h:0< a) (g:0< b):0< a / b:=by
 rw [Rat.div_def];exact Rat.mul_pos h (Rat.inv_pos.2 g)
def Weigh (l:List Pt):Prop:=∃ a b c,a∈l∧b∈l∧c∈l∧∃ x y z:Rat,0≤x∧0≤y∧0≤z∧0< x+y+z∧x*a.1+y*b.1+z*c.1=0∧x*a.2+y*b.2+z*c.2=0
theorem Weigh.mono {l m:List Pt} (h:Weigh l) (hs:∀ a,a∈l→a∈m):Weigh m:=by
 obtain⟨a,b,c,h1,h2,h3,r⟩:=h
 exact⟨a,b,c,hs a h1,hs b h2,hs c h3,r⟩
section
variable {P Q : Nat → Pt} {n m : Nat}
end
section
variable {P Q : Nat → Pt} {n m : Nat}
def at_ (u v:Pt) (t:Rat):Pt:=(u.1+t*(v.1 - u.1),u.2+t*(v.2 - u.2))
end
end Go.Proofs.YtgmkgfdjolchdaaGreatDoor.poly
namespace Go.Proofs.YtgmkgfdjolchdaaGreatDoor.eng
open Go.RowKit num mem seg q held ratA ratB ratC ratD ratE vars ratF trq
section
variable {x y z t u v : RV} {K : AV → Prop}
end
