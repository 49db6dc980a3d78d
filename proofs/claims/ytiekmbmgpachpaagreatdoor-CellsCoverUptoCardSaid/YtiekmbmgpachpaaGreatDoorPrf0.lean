/- Small facts for walks of numbers of gantref3: an element that is there; signs of differences. -/
import Derived.Test.YtiekmbmgpachpaaGreatDoorEngH3b
import Derived.Test.YtiekmbmgpachpaaGreatDoorWg
namespace Go.Proofs.YtiekmbmgpachpaaGreatDoor.prf
open Go.Proofs.YtiekmbmgpachpaaGreatDoor.eng Go.RowKit num mem seg q held ratA ratB ratC ratD ratE vars ratF
theorem get_ex {α:Type} {l:List α} {i:Nat} (h:i< l.length) {G:Prop} (k:∀ x,l[i]? =some x→G):G:=k _ (List.getElem?_eq_getElem h)
end Go.Proofs.YtiekmbmgpachpaaGreatDoor.prf
