/- Small facts for walks of numbers of gantref3: an element that is there; signs of differences. -/
import Derived.Test.YtbgokkfhohodgaaDoorEngH3b
import Derived.Test.YtbgokkfhohodgaaDoorWg
namespace Go.Proofs.YtbgokkfhohodgaaDoor.prf
open Go.Proofs.YtbgokkfhohodgaaDoor.eng Go.RowKit num mem seg q held ratA ratB ratC ratD ratE vars ratF
theorem ZfE {α:Type} {l:List α} {i:Nat} (h:i< l.length) {G:Prop} (k:∀ x,l[i]? =some x→G):G:=k _ (List.getElem?_eq_getElem h)
theorem ZkB {n:Int} {p q:Rat} (h:n=sgnQ (p - q)):n< 0↔p< q:=(ZgW h).trans ⟨fun h=>by grind,fun h=>by grind⟩
end Go.Proofs.YtbgokkfhohodgaaDoor.prf
