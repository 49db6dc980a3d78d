/- Joined by wip/bundle.py: XEngQ1 XEngQ2 XEngQ3 XEngQ4. -/
import Derived.Test.YtgkofgfiifgioaaGreatDoorQGrpA
import Derived.Test.YtgkofgfiifgioaaGreatDoorQGrp8
namespace Go.Proofs.YtgkofgfiifgioaaGreatDoor.eng
open Go.RowKit num mem seg q held ratA ratB ratC ratD ratE vars ratF natC natD natI dec natJ natK refA refC refD refE refF refG refH refI
theorem nv_one:nv ⟨#[1]⟩=1:=ωd
section
variable {K : AV → Prop} {a b : ByteArray} {n m : Nat}
end
section
variable {K : AV → Prop} {a b : ByteArray} {n m : Nat}
end
theorem RV.z_of {s:Bool} {a d:ByteArray} {k:Nat} (h1:a.size≤k) (h2:d.size≤k):(RV.mk s a d).z≤k:=by unfold RV.z;simp only;omega
section
variable {K : AV → Prop} {a b : ByteArray} {x y r t : RV} {p q : Rat}
end
