/- Joined by wip/bundle.py: XTik0 XTik1 XTikA. -/
import Derived.Test.YtjlhknppkodilaaGreatDoorGrpR
import Derived.Test.YtjlhknppkodilaaGreatDoorGrpL
import Derived.Test.YtjlhknppkodilaaGreatDoorGrp3
namespace Go.Proofs.YtjlhknppkodilaaGreatDoor.eng
open Go.RowKit num mem seg q held ratA ratB ratC ratD ratE vars ratF trq
end Go.Proofs.YtjlhknppkodilaaGreatDoor.eng
namespace Go.Proofs.YtjlhknppkodilaaGreatDoor.eng
open Go.RowKit num mem seg q held ratA ratB ratC ratD ratE vars ratF trq natC
def spdAt (A:ArmV) (i:Nat):Rat:=((A.links[i]?).getD ⟨z0,z0,z0,z0,z0, []⟩).speed.q
theorem Zcm {A:ArmV} {i:Nat} {l:LinkV} (h:A.links[i]? =some l):spdAt A i=l.speed.q:=by simp [spdAt,h]
section
variable {A : ArmV} {l m : List RV}
end
section
variable {A : ArmV} {P : List (List RV)} {s : Int} {i : Nat}
end
section
variable {A : ArmV} {P : List (List RV)} {s : Int} {k : Nat}
end
def keyC (k:Int×List Rat):List D:= [.v (.int .i64 k.1),.list (k.2.map rdc)]
end Go.Proofs.YtjlhknppkodilaaGreatDoor.eng
namespace Go.Proofs.YtjlhknppkodilaaGreatDoor.eng
open Go.RowKit num mem seg q held ratA ratB ratC ratD ratE vars ratF trq
section
variable {K : AV → Prop}
end
end Go.Proofs.YtjlhknppkodilaaGreatDoor.eng
