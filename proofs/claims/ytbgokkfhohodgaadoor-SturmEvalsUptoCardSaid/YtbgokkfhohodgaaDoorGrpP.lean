/- Joined by wip/bundle.py: XPoly XPolyA. -/
import Derived.Test.YtbgokkfhohodgaaDoorGrpT
import Derived.Test.YtbgokkfhohodgaaDoorWg
import Derived.Test.YtbgokkfhohodgaaDoorGrpS
namespace Go.Proofs.YtbgokkfhohodgaaDoor.poly
abbrev Pt:=Rat×Rat
section
variable (P : Nat → Pt) (n : Nat)
variable {P n}
def cr (a b:Pt):Rat:=a.1*b.2 - a.2*b.1
end
end Go.Proofs.YtbgokkfhohodgaaDoor.poly
namespace Go.Proofs.YtbgokkfhohodgaaDoor.eng
open Go.RowKit num mem seg q held ratA ratB ratC ratD ratE vars ratF
section
variable {K : AV → Prop}
section
variable {x y z t : RV} 
end
section
variable {x y z t : RV} 
end
section
variable {x y z t : RV} 
end
section
variable {x y z t : RV} 
end
section
variable {x y z t u v : RV} 
end
section
variable {x y z t u v : RV} 
end
end
end Go.Proofs.YtbgokkfhohodgaaDoor.eng
