/- Joined by wip/bundle.py: XGeo XGeo2 XGeo3 XWide. -/
import Derived.Test.YtpfemjpgbpnpkaaGreatDoorGrpP
import Derived.Test.YtpfemjpgbpnpkaaGreatDoorGrpY
namespace Go.Proofs.YtpfemjpgbpnpkaaGreatDoor.poly
def crs (u v:Pt):Rat:=u.1*v.2 - u.2*v.1
def dt (u v:Pt):Rat:=u.1*v.1+u.2*v.2
def sb (u v:Pt):Pt:=(u.1 - v.1,u.2 - v.2)
theorem crs_anti (u v:Pt):crs u v=- crs v u:=by unfold crs;grind
theorem ZnK (a:Rat):0≤a*a:=by
 rcases Rat.le_total (a:=0) (b:=a) with h|h
 ·exact Rat.mul_nonneg h h
 ·have:=Rat.mul_nonneg (a:=-a) (b:=-a) (by grind) (by grind)
  grind
theorem sq_pos {a:Rat} (h:a≠0):0< a*a:=by
 have:=ZnK a
 have h2:a*a≠0:=fun e=>h (by rcases Rat.mul_eq_zero.1 e with h|h<;>exact h)
 grind
theorem div_pos {a b:Rat} (h:0< a) (g:0< b):0< a / b:=by
 rw [Rat.div_def];exact Rat.mul_pos h (Rat.inv_pos.2 g)
def Weigh (l:List Pt):Prop:=∃ a b c,a∈l∧b∈l∧c∈l∧∃ x y z:Rat,0≤x∧0≤y∧0≤z∧0< x+y+z∧x*a.1+y*b.1+z*c.1=0∧x*a.2+y*b.2+z*c.2=0
theorem Weigh.mono {l m:List Pt} (h:Weigh l) (hs:∀ a,a∈l→a∈m):Weigh m:=by
 obtain⟨a,b,c,h1,h2,h3,r⟩:=h
 exact⟨a,b,c,hs a h1,hs b h2,hs c h3,r⟩
end Go.Proofs.YtpfemjpgbpnpkaaGreatDoor.poly
namespace Go.Proofs.YtpfemjpgbpnpkaaGreatDoor.poly
section
variable {P Q : Nat → Pt} {n m : Nat}
end
end Go.Proofs.YtpfemjpgbpnpkaaGreatDoor.poly
namespace Go.Proofs.YtpfemjpgbpnpkaaGreatDoor.poly
section
variable {P Q : Nat → Pt} {n m : Nat}
end
end Go.Proofs.YtpfemjpgbpnpkaaGreatDoor.poly
namespace Go.Proofs.YtpfemjpgbpnpkaaGreatDoor.eng
open Go.RowKit num mem seg q held ratA ratB ratC ratD ratE vars ratF trq
section
variable {x y z t u v : RV} {K : AV → Prop}
end
end Go.Proofs.YtpfemjpgbpnpkaaGreatDoor.eng
