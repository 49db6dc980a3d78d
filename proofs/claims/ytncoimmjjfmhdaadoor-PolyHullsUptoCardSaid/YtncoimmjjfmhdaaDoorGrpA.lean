/- Joined by wip/bundle.py: XEngFl. -/
import Derived.Test.YtncoimmjjfmhdaaDoorEngU
namespace Go.Proofs.YtncoimmjjfmhdaaDoor.eng
open Go.RowKit num mem seg q held ratA ratB ratC ratD ratE vars ratF natC natD natI
def str (s:ByteArray):AV:= .val (.one (.d (.v (.string s))))
section
variable {x y : RV} {K : AV → Prop} {a b : ByteArray} {n m : Nat}
end
end Go.Proofs.YtncoimmjjfmhdaaDoor.eng
