/- Contracts: frames of arms: gantref3, package fore. Printed by wip/gp_fore.py. -/
import Derived.Test.YtjlhknppkodilaaGreatDoorFore0
import Derived.Test.YtjlhknppkodilaaGreatDoorGrpZ
namespace Go.Proofs.YtjlhknppkodilaaGreatDoor.eng
open Go.RowKit num mem seg q held ratA ratB ratC ratD ratE vars ratF trq
section
variable {K : AV → Prop}
theorem get_ex {α:Type} {l:List α} {i:Nat} (h:i< l.length) {G:Prop} (k:∀ x,l[i]? =some x→G):G:=k _ (List.getElem?_eq_getElem h)
section
variable  {p q r u v y : Rat}
end
end
end Go.Proofs.YtjlhknppkodilaaGreatDoor.eng
