/- Joined by wip/bundle.py: XForcA. -/
import Derived.Test.YtjhoddlhdoiifaaGreatDoorSingA
import Derived.Test.YtjhoddlhdoiifaaGreatDoorGrpX
/- Contracts: torques: package force, gantref3. Printed by wip/gp_force.py. -/
namespace Go.Proofs.YtjhoddlhdoiifaaGreatDoor.eng
open Go.RowKit num mem seg q held ratA ratB ratC ratD ratE vars ratF trq
section
variable {K : AV → Prop}
theorem k_equalT {l m : List Rat} {u v : List (List D)} (e : l = m) (hu : u = RL l) (hv : v = RL m) (hn : l.length ≤ 1099511627776) (k : K (bool true)) : Ask 46 [.val (.one (.d (.list u))), .val (.one (.d (.list v)))] K := by
  subst e
  exact k_equal3 l l hu hv hn hn fun b hb => by rw [hb, decide_eq_true rfl]; exact k
end
end Go.Proofs.YtjhoddlhdoiifaaGreatDoor.eng

