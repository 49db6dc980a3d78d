/- Contracts: sums and differences of vectors; package sweep's boxes; gantref1.Bound (a loop with two appends). Printed by wip/gen_esw.py. -/
import Derived.Test.YtdhpmdkfmgpcmaaDoorEngSpan2
namespace Go.Proofs.YtdhpmdkfmgpcmaaDoor.eng
open Go.RowKit num mem seg q held ratA ratB ratC ratD ratE vars ratF trq
section
variable {x y z t u v w : RV} {K : AV → Prop}
set_option maxRecDepth 100000 in
theorem vAdd_spec (x y z t : RV) (hx : x.z ≤ 1099511627776) (hy : y.z ≤ 1099511627776) (hz : z.z ≤ 1099511627776) (ht : t.z ≤ 1099511627776) : Spec Tryd.prog Tab 86 [pair x y, pair z t] (pair (cn (x.q + z.q)) (cn (y.q + t.q))) := by
  refine fn_spec Tryd.func86 rfl rfl Tryd.ntmps86 rfl (by kernel_rfl) rfl rfl ?_
  refine k_add (by omega) (by omega) fun q1 h1 z1 => ?_
  try simp only [cn_q] at h1
  refine k_add (by omega) (by omega) fun q2 h2 z2 => ?_
  try simp only [cn_q] at h2
  refine ⟨by kernel_rfl, ?_⟩
  refine Eq.trans (b := pair (cn _) (cn _)) ?_ rfl
  subst_vars; rfl
theorem k_vAdd (hx : x.z ≤ 1099511627776) (hy : y.z ≤ 1099511627776) (hz : z.z ≤ 1099511627776) (ht : t.z ≤ 1099511627776) (k : ∀ p q, p = x.q + z.q → q = y.q + t.q → (cn p).z ≤ x.z + z.z + 3 → (cn q).z ≤ y.z + t.z + 3 → K (pair (cn p) (cn q))) : Ask 86 [pair x y, pair z t] K :=
  use (vAdd_spec x y z t hx hy hz ht) rfl (k _ _ rfl rfl (by have := qs_add x.q z.q; have := x.z1; have := y.z1; have := z.z1; have := t.z1; rw [cn_z]; omega) (by have := qs_add y.q t.q; have := x.z1; have := y.z1; have := z.z1; have := t.z1; rw [cn_z]; omega))
set_option maxRecDepth 100000 in
theorem vSub_spec (x y z t : RV) (hx : x.z ≤ 1099511627776) (hy : y.z ≤ 1099511627776) (hz : z.z ≤ 1099511627776) (ht : t.z ≤ 1099511627776) : Spec Tryd.prog Tab 102 [pair x y, pair z t] (pair (cn (x.q - z.q)) (cn (y.q - t.q))) := by
  refine fn_spec Tryd.func102 rfl rfl Tryd.ntmps102 rfl (by kernel_rfl) rfl rfl ?_
  refine k_sub (by omega) (by omega) fun q1 h1 z1 => ?_
  try simp only [cn_q] at h1
  refine k_sub (by omega) (by omega) fun q2 h2 z2 => ?_
  try simp only [cn_q] at h2
  refine ⟨by kernel_rfl, ?_⟩
  refine Eq.trans (b := pair (cn _) (cn _)) ?_ rfl
  subst_vars; rfl
theorem k_vSub (hx : x.z ≤ 1099511627776) (hy : y.z ≤ 1099511627776) (hz : z.z ≤ 1099511627776) (ht : t.z ≤ 1099511627776) (k : ∀ p q, p = x.q - z.q → q = y.q - t.q → (cn p).z ≤ x.z + z.z + 3 → (cn q).z ≤ y.z + t.z + 3 → K (pair (cn p) (cn q))) : Ask 102 [pair x y, pair z t] K :=
  use (vSub_spec x y z t hx hy hz ht) rfl (k _ _ rfl rfl (by have := qs_sub x.q z.q; have := x.z1; have := y.z1; have := z.z1; have := t.z1; rw [cn_z]; omega) (by have := qs_sub y.q t.q; have := x.z1; have := y.z1; have := z.z1; have := t.z1; rw [cn_z]; omega))
set_option maxRecDepth 100000 in
theorem RV_spec (x y z t : RV) (hx : x.z ≤ 1099511627776) (hy : y.z ≤ 1099511627776) (hz : z.z ≤ 1099511627776) (ht : t.z ≤ 1099511627776) : Spec Tryd.prog Tab 98 [pair x y, pair z t] (pair (cn (z.q - x.q)) (cn (t.q - y.q))) := by
  refine fn_spec Tryd.func98 rfl rfl Tryd.ntmps98 rfl (by kernel_rfl) rfl rfl ?_
  refine k_sub (by omega) (by omega) fun q1 h1 z1 => ?_
  try simp only [cn_q] at h1
  refine k_sub (by omega) (by omega) fun q2 h2 z2 => ?_
  try simp only [cn_q] at h2
  refine ⟨by kernel_rfl, ?_⟩
  refine Eq.trans (b := pair (cn _) (cn _)) ?_ rfl
  subst_vars; rfl
theorem k_RV (hx : x.z ≤ 1099511627776) (hy : y.z ≤ 1099511627776) (hz : z.z ≤ 1099511627776) (ht : t.z ≤ 1099511627776) (k : ∀ p q, p = z.q - x.q → q = t.q - y.q → (cn p).z ≤ x.z + z.z + 3 → (cn q).z ≤ y.z + t.z + 3 → K (pair (cn p) (cn q))) : Ask 98 [pair x y, pair z t] K :=
  use (RV_spec x y z t hx hy hz ht) rfl (k _ _ rfl rfl (by have := qs_sub z.q x.q; have := x.z1; have := y.z1; have := z.z1; have := t.z1; rw [cn_z]; omega) (by have := qs_sub t.q y.q; have := x.z1; have := y.z1; have := z.z1; have := t.z1; rw [cn_z]; omega))
end
end Go.Proofs.YtdhpmdkfmgpcmaaDoor.eng
