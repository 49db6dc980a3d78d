/- Joined by wip/bundle.py: XEngTurnSp XEngSinSp XEngSines XLawTSp. -/
import Derived.Test.YtjlhknppkodilaaGreatDoorGrpS
namespace Go.Proofs.YtjlhknppkodilaaGreatDoor.eng
open Go.RowKit num mem seg q held ratA ratB ratC ratD ratE vars ratF trq
section
variable {x y z t : RV} {K : AV → Prop}
end
end Go.Proofs.YtjlhknppkodilaaGreatDoor.eng
namespace Go.Proofs.YtjlhknppkodilaaGreatDoor.eng
open Go.RowKit num mem seg q held ratA ratB ratC ratD ratE vars ratF trq
section
variable {x y z t : RV} {K : AV → Prop}
end
end Go.Proofs.YtjlhknppkodilaaGreatDoor.eng
namespace Go.Proofs.YtjlhknppkodilaaGreatDoor.eng
open Go.RowKit num mem seg q held ratA ratB ratC ratD ratE vars ratF trq
section
variable {x y z t : RV} {K : AV → Prop}
def ext (l h:Rat) (e:List Rat) (n:Int):List Rat:=if hasQ l h (n:Rat)=true then e++ [(n:Rat)] else e
end
end Go.Proofs.YtjlhknppkodilaaGreatDoor.eng
namespace Go.Proofs.YtjlhknppkodilaaGreatDoor.eng
open Go.RowKit num mem seg q held ratA ratB ratC ratD ratE vars ratF trq
section
variable {x y z t : RV} {K : AV → Prop}
theorem one_pos {p:Rat} (h:0≤p):0< ((1:Int):Rat)+p:=by
 have h1:((1:Int):Rat)=1:=rfl
 rw [h1];grind
end
end Go.Proofs.YtjlhknppkodilaaGreatDoor.eng
