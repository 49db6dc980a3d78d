/- Contracts: products, squares, quotients of spans; gantlaw1.spanBegun. Printed by wip/gen_es2.py. -/
import Derived.Test.YtdhpmdkfmgpcmaaDoorEngAro
namespace Go.Proofs.YtdhpmdkfmgpcmaaDoor.eng
open Go.RowKit num mem seg q held ratA ratB ratC ratD ratE vars ratF trq
section
variable {x y z t : RV} {K : AV → Prop}
def mulLo (a b c d : Rat) : Rat := lowL (a * c) [a * d, b * c, b * d]
def mulHi (a b c d : Rat) : Rat := highL (a * c) [a * d, b * c, b * d]
def sqLo (a b : Rat) : Rat := if hasQ a b ((0 : Int) : Rat) = true then ((0 : Int) : Rat) else lowL (a * a) [b * b]
def sqHi (a b : Rat) : Rat := highL (a * a) [b * b]
theorem mul_z (hq : ∀ q, q ∈ [slo x y, shi x y] → qs q ≤ x.z + y.z + 8) (hr : ∀ q, q ∈ [slo z t, shi z t] → qs q ≤ z.z + t.z + 8) : ∀ q, q ∈ slo x y * slo z t :: [slo x y * shi z t, shi x y * slo z t, shi x y * shi z t] → qs q ≤ x.z + y.z + z.z + t.z + 20 := by
  have h1 := hq _ (by simp : slo x y ∈ _)
  have h2 := hq _ (by simp : shi x y ∈ _)
  have h3 := hr _ (by simp : slo z t ∈ _)
  have h4 := hr _ (by simp : shi z t ∈ _)
  intro q h
  simp only [List.mem_cons, List.mem_nil_iff, or_false] at h
  rcases h with rfl | rfl | rfl | rfl
  · have := qs_mul (slo x y) (slo z t); omega
  · have := qs_mul (slo x y) (shi z t); omega
  · have := qs_mul (shi x y) (slo z t); omega
  · have := qs_mul (shi x y) (shi z t); omega
theorem ends_z (x y : RV) : ∀ q, q ∈ [slo x y, shi x y] → qs q ≤ x.z + y.z + 8 := by
  intro q h
  have h1 := slo_z x y
  have h2 := shi_z x y
  rw [cn_z] at h1 h2
  simp only [List.mem_cons, List.mem_nil_iff, or_false] at h
  rcases h with rfl | rfl <;> omega
set_option maxRecDepth 100000 in
theorem sSq_spec (x y : RV) (hx : x.z ≤ 68719476736) (hy : y.z ≤ 68719476736) : Spec Tryd.prog Tab 189 [pair x y] (pair (cn (sqLo (slo x y) (shi x y))) (cn (sqHi (slo x y) (shi x y)))) := by
  refine fn_spec Tryd.func189 rfl rfl Tryd.ntmps189 rfl (by kernel_rfl) rfl rfl ?_
  refine k_sFit (by omega) (by omega) fun p1 q1 e1 h1 y1 z1 => ?_
  try simp only [cn_q] at e1 h1
  refine k_mul (by omega) (by omega) fun q2 h2 z2 => ?_
  try simp only [cn_q] at h2
  refine k_mul (by omega) (by omega) fun q3 h3 z3 => ?_
  try simp only [cn_q] at h3
  refine k_sAround 1099511627776 (by decide) q2 [q3] rfl (by intro q hq; simp only [List.mem_cons, List.mem_nil_iff, or_false] at hq; rcases hq with rfl | rfl <;> (simp only [cn_z] at *; omega)) (by simp) fun p4 q4 e4 h4 y4 z4 => ?_
  refine ⟨by kernel_rfl, ?_⟩
  refine k_of (0) (by omega) (by omega) fun q5 h5 z5 => ?_
  refine k_sHas (by omega) (by omega) (by omega) fun b6 h6 => ?_
  try rw [slo_cn (by subst_vars; exact slo_le _ _), shi_cn (by subst_vars; exact slo_le _ _), cn_q] at h6
  refine ⟨by kernel_rfl, ?_⟩
  refine ⟨fun e7 => ?_, fun e7 => ?_⟩
  · skip
    refine k_of (0) (by omega) (by omega) fun q8 h8 z8 => ?_
    refine Eq.trans (b := pair (cn _) (cn _)) ?_ rfl
    unfold sqLo sqHi
    subst_vars
    first
      | rw [if_pos (Eq.symm (by assumption))]
      | rw [if_neg (ne_true_of_eq_false (Eq.symm (by assumption)))]
  · skip
    refine Eq.trans (b := pair (cn _) (cn _)) ?_ rfl
    unfold sqLo sqHi
    subst_vars
    first
      | rw [if_pos (Eq.symm (by assumption))]
      | rw [if_neg (ne_true_of_eq_false (Eq.symm (by assumption)))]
theorem sq_z (x y : RV) : ∀ q, q ∈ slo x y * slo x y :: [shi x y * shi x y] → qs q ≤ 2 * x.z + 2 * y.z + 20 := by
  have h1 := slo_z x y
  have h2 := shi_z x y
  rw [cn_z] at h1 h2
  have := qs_mul (slo x y) (slo x y)
  have := qs_mul (shi x y) (shi x y)
  intro q h
  simp only [List.mem_cons, List.mem_nil_iff, or_false] at h
  rcases h with rfl | rfl <;> omega
theorem k_sSq (hx : x.z ≤ 68719476736) (hy : y.z ≤ 68719476736) (k : ∀ p q, p = sqLo (slo x y) (shi x y) → q = sqHi (slo x y) (shi x y) → (cn p).z ≤ 2 * x.z + 2 * y.z + 20 → (cn q).z ≤ 2 * x.z + 2 * y.z + 20 → K (pair (cn p) (cn q))) : Ask 189 [pair x y] K :=
  use (sSq_spec x y hx hy) rfl (k _ _ rfl rfl (by rw [cn_z]; unfold sqLo; split; · (have := qs_0; omega)
                                                  · exact lowL_qs (sq_z x y)) (by rw [cn_z]; exact highL_qs (sq_z x y)))
set_option maxRecDepth 100000 in
theorem spanBegun_spec  : Spec Tryd.prog Tab 133 [] (bool true) := by
  refine fn_spec Tryd.func133 rfl rfl Tryd.ntmps133 rfl (by kernel_rfl) rfl rfl ?_
  refine k_num (-1) (2) (by omega) (by omega) (by omega) (by omega) (by decide +kernel) fun q1 h1 z1 => ?_
  refine k_num (2) (1) (by omega) (by omega) (by omega) (by omega) (by decide +kernel) fun q2 h2 z2 => ?_
  refine k_sMake_c (by omega) (by omega) (fun g3 => absurd g3 (by subst_vars; simp only [cn_q]; decide +kernel)) (fun g3 p3 q3 e3 h3 y3 z3 => ?_)
  try simp only [cn_q] at g3 e3 h3
  refine k_ratBegun ?_
  refine k_sGood_c (by omega) (by omega) (fun g4 => ?_) (fun g4 => absurd (sgd_cn.2 (by subst_vars; decide +kernel)) g4)
  refine k_sSq (by omega) (by omega) fun p5 q5 e5 h5 y5 z5 => ?_
  try simp only [cn_q] at e5 h5
  refine k_num (0) (1) (by omega) (by omega) (by omega) (by omega) (by decide +kernel) fun q6 h6 z6 => ?_
  refine k_num (4) (1) (by omega) (by omega) (by omega) (by omega) (by decide +kernel) fun q7 h7 z7 => ?_
  refine k_eql_span_t (by subst_vars; exact ⟨congrArg cn (by rw [slo_cn (by decide +kernel), shi_cn (by decide +kernel)]; decide +kernel), congrArg cn (by rw [slo_cn (by decide +kernel), shi_cn (by decide +kernel)]; decide +kernel)⟩) ?_
  exact rfl
theorem k_spanBegun (K1 : K (bool true)) : Ask 133 [] K := use spanBegun_spec rfl K1
end
end Go.Proofs.YtdhpmdkfmgpcmaaDoor.eng
