/- Contracts: package span; gantref1's spans. Printed by wip/gen_es.py. -/
import Derived.Test.YtdhpmdkfmgpcmaaDoorEngTurn
import Derived.Test.YtdhpmdkfmgpcmaaDoorEngL
namespace Go.Proofs.YtdhpmdkfmgpcmaaDoor.eng
open Go.RowKit num mem seg q held ratA ratB ratC ratD ratE vars ratF trq
section
variable {x y z t : RV} {h g : Bool} {K : AV → Prop}

def sgd (x y : RV) : Prop := x.good ∧ y.good ∧ x.q ≤ y.q
instance (x y : RV) : Decidable (sgd x y) := inferInstanceAs (Decidable (x.good ∧ y.good ∧ x.q ≤ y.q))
def slo (x y : RV) : Rat := if sgd x y then x.q else ((0 : Int) : Rat)
def shi (x y : RV) : Rat := if sgd x y then y.q else ((0 : Int) : Rat)
theorem slo_le (x y : RV) : slo x y ≤ shi x y := by
  unfold slo shi; split
  · rename_i h; exact h.2.2
  · exact Rat.le_refl
theorem slo_z (x y : RV) : (cn (slo x y)).z ≤ x.z + 8 := by
  rw [cn_z]; unfold slo; split
  · have := x.z1; omega
  · have := qs_0; omega
theorem shi_z (x y : RV) : (cn (shi x y)).z ≤ y.z + 8 := by
  rw [cn_z]; unfold shi; split
  · have := y.z1; omega
  · have := qs_0; omega
theorem slo_g (h : sgd x y) : cn (slo x y) = x := by rw [slo, if_pos h]; exact (RV.good_cn h.1).symm
theorem shi_g (h : sgd x y) : cn (shi x y) = y := by rw [shi, if_pos h]; exact (RV.good_cn h.2.1).symm
theorem slo_b (h : ¬ sgd x y) : slo x y = ((0 : Int) : Rat) := if_neg h
theorem shi_b (h : ¬ sgd x y) : shi x y = ((0 : Int) : Rat) := if_neg h
theorem sgd_cn {p q : Rat} : sgd (cn p) (cn q) ↔ p ≤ q := by
  unfold sgd; rw [cn_q, cn_q]; exact ⟨fun h => h.2.2, fun h => ⟨cn_good p, cn_good q, h⟩⟩
theorem slo_cn {p q : Rat} (h : p ≤ q) : slo (cn p) (cn q) = p := by rw [slo, if_pos (sgd_cn.2 h), cn_q]
theorem shi_cn {p q : Rat} (h : p ≤ q) : shi (cn p) (cn q) = q := by rw [shi, if_pos (sgd_cn.2 h), cn_q]
theorem qs_min (p q : Rat) : qs (minQ p q) ≤ qs p + qs q := by unfold minQ; split <;> omega
theorem qs_max (p q : Rat) : qs (maxQ p q) ≤ qs p + qs q := by unfold maxQ; split <;> omega
def hasQ (l h a : Rat) : Bool := decide (l ≤ a) && decide (a ≤ h)
theorem dle (p q : Rat) : decide (cmpQ p q ≤ 0) = decide (p ≤ q) := decide_eq_decide.2 (cmp_le p q)
theorem dge (p q : Rat) : decide (0 ≤ cmpQ p q) = decide (q ≤ p) := decide_eq_decide.2 (cmp_ge p q)
theorem dgt (p q : Rat) : decide (0 < cmpQ p q) = decide (q < p) := decide_eq_decide.2 (cmp_pos p q)
theorem hl (a b c : Rat) (h : a < b) : hasQ a c b = decide (b ≤ c) := by simp [hasQ, Rat.le_of_lt h]
theorem he (a b c : Rat) (h : a = b) : hasQ a c b = decide (b ≤ c) := by simp [hasQ, h]
theorem hg (a b c : Rat) (h : b < a) : hasQ a c b = false := by simp [hasQ, Rat.not_le.2 h]

set_option maxRecDepth 100000 in
theorem sGood_spec (x y : RV) (hx : x.z ≤ 1099511627776) (hy : y.z ≤ 1099511627776) : Spec Tryd.prog Tab 188 [pair x y] (bool (decide (sgd x y))) := by
  refine fn_spec Tryd.func188 rfl rfl Tryd.ntmps188 rfl (by kernel_rfl) rfl rfl ?_
  refine k_good_c (by omega) (fun g1 => ?_) (fun g1 => ?_)
  · skip
    refine k_good_c (by omega) (fun g2 => ?_) (fun g2 => ?_)
    · skip
      refine k_cmp (by omega) (by omega) fun n3 h3 => ?_
      try simp only [cn_q] at h3
      refine Eq.trans (b := bool _) ?_ rfl
      subst h3; rw [dle]; exact congrArg bool (decide_eq_decide.2 ⟨fun h => h.2.2, fun h => ⟨g1, g2, h⟩⟩)
    · skip
      refine Eq.trans (b := bool _) ?_ rfl
      exact congrArg bool (decide_eq_false fun h => g2 h.2.1)
  · skip
    refine Eq.trans (b := bool _) ?_ rfl
    exact congrArg bool (decide_eq_false fun h => g1 h.1)
theorem k_sGood (hx : x.z ≤ 1099511627776) (hy : y.z ≤ 1099511627776) (k : ∀ b, b = decide (sgd x y) → K (bool b)) : Ask 188 [pair x y] K :=
  use (sGood_spec x y hx hy) rfl (k _ rfl)
theorem k_sGood_c (hx : x.z ≤ 1099511627776) (hy : y.z ≤ 1099511627776) (k1 : sgd x y → K (bool true)) (k0 : ¬ sgd x y → K (bool false)) : Ask 188 [pair x y] K :=
  k_sGood hx hy fun b e => by
    by_cases H : sgd x y
    · rw [decide_eq_true H] at e; subst e; exact k1 H
    · rw [decide_eq_false H] at e; subst e; exact k0 H
set_option maxRecDepth 100000 in
theorem sOf_spec (x : RV) (hx : x.z ≤ 4398046511104) : Spec Tryd.prog Tab 230 [rat x] (pair (cn x.q) (cn x.q)) := by
  refine fn_spec Tryd.func230 rfl rfl Tryd.ntmps230 rfl (by kernel_rfl) rfl rfl ?_
  refine k_same (by omega) fun q1 h1 z1 => ?_
  try simp only [cn_q] at h1
  refine Eq.trans (b := pair (cn _) (cn _)) ?_ rfl
  subst_vars; rfl
theorem k_sOf (hx : x.z ≤ 4398046511104) (k : ∀ q, q = x.q → (cn q).z ≤ x.z + 1 → K (pair (cn q) (cn q))) : Ask 230 [rat x] K :=
  use (sOf_spec x hx) rfl (k _ rfl (by have := x.z1; rw [cn_z]; omega))
set_option maxRecDepth 100000 in
theorem sFit_spec (x y : RV) (hx : x.z ≤ 1099511627776) (hy : y.z ≤ 1099511627776) : Spec Tryd.prog Tab 190 [pair x y] (pair (cn (slo x y)) (cn (shi x y))) := by
  refine fn_spec Tryd.func190 rfl rfl Tryd.ntmps190 rfl (by kernel_rfl) rfl rfl ?_
  refine k_sGood_c (by omega) (by omega) (fun g1 => ?_) (fun g1 => ?_)
  · skip
    refine ⟨fun e => by simp at e, fun _ => ?_⟩
    refine Eq.trans (b := pair _ _) ?_ rfl
    rw [slo_g g1, shi_g g1]
  · skip
    refine ⟨fun _ => ?_, fun e => by simp at e⟩
    refine k_of (0) (by omega) (by omega) fun q2 h2 z2 => ?_
    refine k_sOf (by omega) fun q3 h3 z3 => ?_
    try simp only [cn_q] at h3
    refine Eq.trans (b := pair (cn _) (cn _)) ?_ rfl
    rw [slo_b g1, shi_b g1]; subst_vars; rfl
theorem k_sFit (hx : x.z ≤ 1099511627776) (hy : y.z ≤ 1099511627776) (k : ∀ p q, p = slo x y → q = shi x y → (cn p).z ≤ x.z + 8 → (cn q).z ≤ y.z + 8 → K (pair (cn p) (cn q))) : Ask 190 [pair x y] K :=
  use (sFit_spec x y hx hy) rfl (k _ _ rfl rfl (slo_z x y) (shi_z x y))
set_option maxRecDepth 100000 in
theorem sMake_spec (x y : RV) (hx : x.z ≤ 1099511627776) (hy : y.z ≤ 1099511627776) : Spec Tryd.prog Tab 136 [rat x, rat y] (if y.q < x.q then two (pair z0 z0) (int 9) else two (pair (cn x.q) (cn y.q)) (int 0)) := by
  refine fn_spec Tryd.func136 rfl rfl Tryd.ntmps136 rfl (by kernel_rfl) rfl rfl ?_
  refine k_cmp (by omega) (by omega) fun n1 h1 => ?_
  try simp only [cn_q] at h1
  refine ⟨fun e2 => ?_, fun e2 => ?_⟩
  · skip
    refine Eq.trans (b := two (pair z0 z0) (int 9)) ?_ rfl
    rw [if_pos (by subst h1; exact (cmp_pos _ _).1 (of_decide_eq_true e2))]
  · skip
    refine k_same (by omega) fun q3 h3 z3 => ?_
    try simp only [cn_q] at h3
    refine k_same (by omega) fun q4 h4 z4 => ?_
    try simp only [cn_q] at h4
    refine ⟨by kernel_rfl, ?_⟩
    refine Eq.trans (b := two (pair (cn _) (cn _)) (int 0)) ?_ rfl
    rw [if_neg (by subst h1; exact fun h => of_decide_eq_false e2 ((cmp_pos _ _).2 h))]; subst_vars; rfl
theorem k_sMake_c (hx : x.z ≤ 1099511627776) (hy : y.z ≤ 1099511627776) (k1 : y.q < x.q → K (two (pair z0 z0) (int 9))) (k0 : ¬ y.q < x.q → ∀ p q, p = x.q → q = y.q → (cn p).z ≤ x.z + 1 → (cn q).z ≤ y.z + 1 → K (two (pair (cn p) (cn q)) (int 0))) : Ask 136 [rat x, rat y] K := by
  have hs := sMake_spec x y hx hy
  by_cases H : y.q < x.q
  · rw [if_pos H] at hs; exact use hs rfl (k1 H)
  · rw [if_neg H] at hs; exact use hs rfl (k0 H _ _ rfl rfl (by have := x.z1; rw [cn_z]; omega) (by have := y.z1; rw [cn_z]; omega))
set_option maxRecDepth 100000 in
theorem sHas_spec (x y z : RV) (hx : x.z ≤ 1099511627776) (hy : y.z ≤ 1099511627776) (hz : z.z ≤ 1099511627776) : Spec Tryd.prog Tab 134 [pair x y, rat z] (bool (hasQ (slo x y) (shi x y) z.q)) := by
  refine fn_spec Tryd.func134 rfl rfl Tryd.ntmps134 rfl (by kernel_rfl) rfl rfl ?_
  refine k_sFit (by omega) (by omega) fun p1 q1 e1 h1 y1 z1 => ?_
  try simp only [cn_q] at e1 h1
  refine k_cmp3 (by omega) (by omega) (fun g2 => ?_) (fun g2 => ?_) (fun g2 => ?_)
  · try simp only [cn_q] at g2
    refine k_cmp (by omega) (by omega) fun n3 h3 => ?_
    try simp only [cn_q] at h3
    refine Eq.trans (b := bool _) ?_ rfl
    subst_vars
    first
      | (rw [hl _ _ _ (by assumption), dle])
      | (rw [he _ _ _ (by assumption), dle])
      | (rw [hg _ _ _ (by assumption)])
      | (rw [he _ _ _ rfl, dle])
      | (simp_all [dle, hasQ, Rat.le_refl])
  · try simp only [cn_q] at g2
    refine k_cmp (by omega) (by omega) fun n4 h4 => ?_
    try simp only [cn_q] at h4
    refine Eq.trans (b := bool _) ?_ rfl
    subst_vars
    first
      | (rw [hl _ _ _ (by assumption), dle])
      | (rw [he _ _ _ (by assumption), dle])
      | (rw [hg _ _ _ (by assumption)])
      | (rw [he _ _ _ rfl, dle])
      | (simp_all [dle, hasQ, Rat.le_refl])
  · try simp only [cn_q] at g2
    refine Eq.trans (b := bool _) ?_ rfl
    subst_vars
    first
      | (rw [hl _ _ _ (by assumption), dle])
      | (rw [he _ _ _ (by assumption), dle])
      | (rw [hg _ _ _ (by assumption)])
      | (rw [he _ _ _ rfl, dle])
      | (simp_all [dle, hasQ, Rat.le_refl])
theorem k_sHas (hx : x.z ≤ 1099511627776) (hy : y.z ≤ 1099511627776) (hz : z.z ≤ 1099511627776) (k : ∀ b, b = hasQ (slo x y) (shi x y) z.q → K (bool b)) : Ask 134 [pair x y, rat z] K :=
  use (sHas_spec x y z hx hy hz) rfl (k _ rfl)
def meetQ (a b c d : Rat) : Bool := decide (a ≤ d) && decide (c ≤ b)
theorem ml (a b c d : Rat) (h : a < d) : meetQ a b c d = decide (c ≤ b) := by simp [meetQ, Rat.le_of_lt h]
theorem me (a b c d : Rat) (h : a = d) : meetQ a b c d = decide (c ≤ b) := by simp [meetQ, h]
theorem mg (a b c d : Rat) (h : d < a) : meetQ a b c d = false := by simp [meetQ, Rat.not_le.2 h]
theorem hl' (a b c : Rat) (h : a < b) : hasQ b c a = false := hg _ _ _ h
theorem sgn_ge {p q : Rat} : 0 ≤ sgnQ (q - p) ↔ p ≤ q := by
  have h1 : 0 ≤ sgnQ (q - p) ↔ 0 ≤ (q - p).num := by
    unfold sgnQ
    by_cases h0 : (q - p).num = 0
    · rw [if_pos h0, h0]
    · rw [if_neg h0]
      by_cases h2 : (q - p).num < 0
      · rw [if_pos h2]; omega
      · rw [if_neg h2]; omega
  rw [h1, Rat.num_nonneg]
  constructor <;> intro h <;> grind
end
end Go.Proofs.YtdhpmdkfmgpcmaaDoor.eng
