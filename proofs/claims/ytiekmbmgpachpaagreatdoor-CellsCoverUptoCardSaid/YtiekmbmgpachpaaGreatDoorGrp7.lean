/- Joined by wip/bundle.py: XEngQ1 XEngQ2 XEngQ3 XEngQ4. -/
import Derived.Test.YtiekmbmgpachpaaGreatDoorGrpA
import Derived.Test.YtiekmbmgpachpaaGreatDoorGrp8
import Derived.Test.YtiekmbmgpachpaaGreatDoorGrpS
namespace Go.Proofs.YtiekmbmgpachpaaGreatDoor.eng
open Go.RowKit num mem seg q held ratA ratB ratC ratD ratE vars ratF natC natD natI dec natJ natK refA refC refD refE refF refG refH refI
theorem nv_one:nv ⟨#[1]⟩=1:=by decide
section
variable {K : AV → Prop} {a b : ByteArray} {n m : Nat}
end
end Go.Proofs.YtiekmbmgpachpaaGreatDoor.eng
namespace Go.Proofs.YtiekmbmgpachpaaGreatDoor.eng
open Go.RowKit num mem seg q held ratA ratB ratC ratD ratE vars ratF natC natD natI
section
variable {K : AV → Prop} {a b : ByteArray} {n m : Nat}
end
end Go.Proofs.YtiekmbmgpachpaaGreatDoor.eng
namespace Go.Proofs.YtiekmbmgpachpaaGreatDoor.eng
open Go.RowKit num mem seg q held ratA ratB ratC ratD ratE vars ratF natC natD natI
theorem RV.z_of {s:Bool} {a d:ByteArray} {k:Nat} (h1:a.size≤k) (h2:d.size≤k):(RV.mk s a d).z≤k:=by unfold RV.z;simp only;omega
end Go.Proofs.YtiekmbmgpachpaaGreatDoor.eng
namespace Go.Proofs.YtiekmbmgpachpaaGreatDoor.eng
open Go.RowKit num mem seg q held ratA ratB ratC ratD ratE vars ratF natC natD natI
section
variable {K : AV → Prop} {a b : ByteArray} {x y r t : RV} {p q : Rat}
end
end Go.Proofs.YtiekmbmgpachpaaGreatDoor.eng
