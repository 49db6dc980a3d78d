/- Small facts for walks of numbers of gantref3: an element that is there; signs of differences. -/
import Derived.Test.YtncoimmjjfmhdaaGreatDoorEngH3b
import Derived.Test.YtncoimmjjfmhdaaGreatDoorWg
namespace Go.Proofs.YtncoimmjjfmhdaaGreatDoor.prf
open Go.Proofs.YtncoimmjjfmhdaaGreatDoor.eng Go.RowKit num mem seg q held ratA ratB ratC ratD ratE vars ratF
theorem Z9 {α:Type} {l:List α} {i:Nat} (h:i< l.length) {G:Prop} (k:∀ x,l[i]? =some x→G):G:=k _ (List.getElem?_eq_getElem h)
end Go.Proofs.YtncoimmjjfmhdaaGreatDoor.prf
