/- Joined by wip/bundle.py: XPoly XPolyA. -/
import Derived.Test.YtcogfmileelkeaaDoorGrpT
import Derived.Test.YtcogfmileelkeaaDoorWg
import Derived.Test.YtcogfmileelkeaaDoorGrpS
namespace Go.Proofs.YtcogfmileelkeaaDoor.poly
abbrev Pt:=Rat×Rat
section
variable (P : Nat → Pt) (n : Nat)
variable {P n}
def cr (a b:Pt):Rat:=a.1*b.2 - a.2*b.1
end
end Go.Proofs.YtcogfmileelkeaaDoor.poly
namespace Go.Proofs.YtcogfmileelkeaaDoor.eng
open Go.RowKit num mem seg q held ratA ratB ratC ratD ratE vars ratF
section
variable {K : AV → Prop}
section
variable {x y z t : RV} 
end
section
variable {x y z t : RV} 
end
section
variable {x y z t : RV} 
end
section
variable {x y z t : RV} 
end
section
variable {x y z t u v : RV} 
end
section
variable {x y z t u v : RV} 
end
end
end Go.Proofs.YtcogfmileelkeaaDoor.eng
