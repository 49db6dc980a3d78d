/- Small facts for walks of numbers of gantref3: an element that is there; signs of differences. -/
import Derived.Test.YtncoimmjjfmhdaaDoorEngH3b
import Derived.Test.YtncoimmjjfmhdaaDoorWg
namespace Go.Proofs.YtncoimmjjfmhdaaDoor.prf
open Go.Proofs.YtncoimmjjfmhdaaDoor.eng Go.RowKit num mem seg q held ratA ratB ratC ratD ratE vars ratF
theorem Zan {α:Type} {l:List α} {i:Nat} (h:i< l.length) {G:Prop} (k:∀ x,l[i]? =some x→G):G:=k _ (List.getElem?_eq_getElem h)
end Go.Proofs.YtncoimmjjfmhdaaDoor.prf
