/- Contracts: grid.Of, gantref1.Columns, Cells, slices.Equal of cells, gantlaw1.gridBegun. -/
import Derived.Test.YtbgokkfhohodgaaDoorEngGrid
import Derived.Test.YtbgokkfhohodgaaDoorGrpT
namespace Go.Proofs.YtbgokkfhohodgaaDoor.eng
open Go.RowKit num mem seg q held ratA ratB ratC ratD ratE vars ratF natC natD natI
section
variable {x y z t : RV} {K : AV → Prop}
end
end Go.Proofs.YtbgokkfhohodgaaDoor.eng
