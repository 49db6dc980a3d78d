/- Contracts: slices.Equal of numbers, gantlaw3.equal, gantref3.Back, clear.Between, gantref3.Mid. -/
import Derived.Test.YtiekmbmgpachpaaGreatDoorGrpO
namespace Go.Proofs.YtiekmbmgpachpaaGreatDoor.eng
open Go.RowKit num mem seg q held ratA ratB ratC ratD ratE vars ratF natC natD natI sub32
section
variable {K : AV → Prop} {x y : RV}
end
end Go.Proofs.YtiekmbmgpachpaaGreatDoor.eng
