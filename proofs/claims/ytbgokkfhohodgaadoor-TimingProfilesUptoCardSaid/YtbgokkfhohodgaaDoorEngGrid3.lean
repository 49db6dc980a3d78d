/- Contracts: grid.Of, gantref1.Cells, slices.Equal of cells; gantlaw1.GridBoxes returns true. -/
import Derived.Test.YtbgokkfhohodgaaDoorEngGrid2
namespace Go.Proofs.YtbgokkfhohodgaaDoor.eng
open Go.RowKit num mem seg q held ratA ratB ratC ratD ratE vars ratF natC natD natI
section
variable {x y z t : RV} {K : AV → Prop}
instance (x y z t:RV):Decidable (bxOk x y z t):=by unfold bxOk;infer_instance
end
end Go.Proofs.YtbgokkfhohodgaaDoor.eng
