/- Joined by wip/bundle.py: XPoly XPolyA XPolyB XPolyC. -/
import Derived.Test.YtdhpmdkfmgpcmaaDoorTrq
import Derived.Test.YtdhpmdkfmgpcmaaDoorWg
import Derived.Test.YtdhpmdkfmgpcmaaDoorEngBound
/- Plain geometry, no program: convex polygons by their corners. -/
namespace Go.Proofs.YtdhpmdkfmgpcmaaDoor.poly
abbrev Pt := Rat × Rat
/-- twice the area of a triangle, signed -/
def ori (a b c : Pt) : Rat := (b.1 - a.1) * (c.2 - a.2) - (b.2 - a.2) * (c.1 - a.1)
theorem ori_rot (a b c : Pt) : ori a b c = ori b c a := by unfold ori; grind
theorem ori_swap (a b c : Pt) : ori b a c = - ori a b c := by unfold ori; grind
theorem ori_aa (a b : Pt) : ori a b a = 0 := by unfold ori; grind
theorem ori_bb (a b : Pt) : ori a b b = 0 := by unfold ori; grind
/-- three vectors from one point -/
theorem ori_three (j e a b c : Pt) : ori j e b * ori j a c = ori j e a * ori j b c + ori j e c * ori j a b := by unfold ori; grind
/-- in a triangle -/
theorem ori_bary (a b c x y p : Pt) : ori a b c * ori x y p = ori b c p * ori x y a + ori c a p * ori x y b + ori a b p * ori x y c := by unfold ori; grind
theorem pos_of_mul {a b : Rat} (ha : 0 < a) (h : 0 < a * b) : 0 < b := (Rat.mul_pos_iff_of_pos_left ha).1 h
theorem nonneg_of_mul {a b : Rat} (ha : 0 < a) (h : 0 ≤ a * b) : 0 ≤ b := by
  refine Rat.not_lt.1 fun hb => ?_
  have : 0 < a * (-b) := Rat.mul_pos ha (by grind)
  grind
section
variable (P : Nat → Pt) (n : Nat)
/-- each triple of corners turns left -/
def Ring : Prop := ∀ j k i, j < k → k < i → i < n → 0 < ori (P j) (P k) (P i)
/-- each corner lies to the left of each edge that it is not on -/
def Edges : Prop := ∀ i k, i < n → 2 ≤ k → k < n → 0 < ori (P i) (P ((i + 1) % n)) (P ((i + k) % n))
variable {P n}
theorem edges_of_ring (h : Ring P n) : Edges P n := by
  intro i k hi h2 hk
  by_cases h1 : i + 1 < n
  · rw [Nat.mod_eq_of_lt h1]
    by_cases h3 : i + k < n
    · rw [Nat.mod_eq_of_lt h3]
      exact h i (i + 1) (i + k) (by omega) (by omega) h3
    · have e : (i + k) % n = i + k - n := by rw [Nat.mod_eq_sub_mod (by omega), Nat.mod_eq_of_lt (by omega)]
      rw [e, ori_rot, ori_rot]
      exact h (i + k - n) i (i + 1) (by omega) (by omega) h1
  · have e1 : (i + 1) % n = 0 := by rw [show i + 1 = n by omega, Nat.mod_self]
    have e2 : (i + k) % n = k - 1 := by
      rw [show i + k = n + (k - 1) by omega, Nat.add_mod_left, Nat.mod_eq_of_lt (by omega)]
    rw [e1, e2, ori_rot]
    exact h 0 (k - 1) i (by omega) (by omega) hi
theorem ring_of_edges (h : Edges P n) : Ring P n := by
  intro j k i hjk hki hi
  -- along the corners behind j
  have he : ∀ d, 2 ≤ d → j + d < n → 0 < ori (P j) (P (j + 1)) (P (j + d)) := by
    intro d h2 hd
    have := h j d (by omega) h2 (by omega)
    rwa [Nat.mod_eq_of_lt (by omega), Nat.mod_eq_of_lt hd] at this
  have hc : ∀ d, 1 ≤ d → j + d + 1 < n → 0 < ori (P j) (P (j + d)) (P (j + d + 1)) := by
    intro d h1 hd
    have := h (j + d) (n - d) (by omega) (by omega) (by omega)
    rw [Nat.mod_eq_of_lt hd, show j + d + (n - d) = n + j by omega, Nat.add_mod_left, Nat.mod_eq_of_lt (by omega)] at this
    rwa [ori_rot]
  obtain ⟨a, ha⟩ : ∃ a, k = j + a := ⟨k - j, by omega⟩
  obtain ⟨b, hb⟩ : ∃ b, i = j + (a + 1 + b) := ⟨i - k - 1, by omega⟩
  subst ha hb
  clear hki
  induction b with
  | zero => exact hc a (by omega) hi
  | succ b ih =>
    have ih := ih (by omega)
    have h3 := hc (a + 1 + b) (by omega) hi
    have h4 := he (a + 1 + b) (by omega) (by omega)
    have h5 := he (a + 1 + b + 1) (by omega) (by omega)
    by_cases h1 : a = 1
    · subst h1; exact h5
    · have h6 := he a (by omega) (by omega)
      have key := ori_three (P j) (P (j + 1)) (P (j + a)) (P (j + (a + 1 + b))) (P (j + (a + 1 + b + 1)))
      have hp : 0 < ori (P j) (P (j + 1)) (P (j + a)) * ori (P j) (P (j + (a + 1 + b))) (P (j + (a + 1 + b + 1))) := Rat.mul_pos h6 h3
      have hq : 0 < ori (P j) (P (j + 1)) (P (j + (a + 1 + b + 1))) * ori (P j) (P (j + a)) (P (j + (a + 1 + b))) := Rat.mul_pos h5 ih
      refine pos_of_mul h4 ?_
      show 0 < ori (P j) (P (j + 1)) (P (j + (a + 1 + b))) * ori (P j) (P (j + a)) (P (j + (a + 1 + b + 1)))
      rw [key]
      grind
theorem ring_iff : Edges P n ↔ Ring P n := ⟨ring_of_edges, edges_of_ring⟩
/-- .. also of those on it -/
theorem edges_all (h : Edges P n) {i m : Nat} (hi : i < n) (hm : m < n) : 0 ≤ ori (P i) (P ((i + 1) % n)) (P m) := by
  by_cases h1 : m = i
  · subst h1; rw [ori_aa]; exact Rat.le_refl
  · by_cases h2 : m = (i + 1) % n
    · rw [← h2, ori_bb]; exact Rat.le_refl
    · have hk : ∃ k, 2 ≤ k ∧ k < n ∧ (i + k) % n = m := by
        by_cases h3 : i < m
        · refine ⟨m - i, ?_, by omega, by rw [show i + (m - i) = m by omega, Nat.mod_eq_of_lt hm]⟩
          have : m ≠ i + 1 := fun e => h2 (by rw [e, Nat.mod_eq_of_lt (by omega)])
          omega
        · refine ⟨m + n - i, ?_, by omega, by rw [show i + (m + n - i) = n + m by omega, Nat.add_mod_left, Nat.mod_eq_of_lt hm]⟩
          have : ¬ (i + 1 = n ∧ m = 0) := fun ⟨e1, e2⟩ => h2 (by rw [e1, Nat.mod_self, e2])
          omega
      obtain ⟨k, k1, k2, rfl⟩ := hk
      exact Rat.le_of_lt (h i k hi k1 k2)
/-- a point within, by edges -/
def Inside (P : Nat → Pt) (n : Nat) (p : Pt) : Prop := ∀ i, i < n → 0 ≤ ori (P i) (P ((i + 1) % n)) p
/-- .. in the i-th triangle from the first corner -/
def InTri (P : Nat → Pt) (p : Pt) (i : Nat) : Prop := 0 ≤ ori (P 0) (P (i - 1)) p ∧ 0 ≤ ori (P (i - 1)) (P i) p ∧ 0 ≤ ori (P i) (P 0) p
theorem inside_iff (h : Edges P n) (hn : 3 ≤ n) (p : Pt) : Inside P n p ↔ ∃ i, 2 ≤ i ∧ i < n ∧ InTri P p i := by
  constructor
  · intro hin
    have hedge : ∀ i, i + 1 < n → 0 ≤ ori (P i) (P (i + 1)) p := fun i hi => by
      have := hin i (by omega); rwa [Nat.mod_eq_of_lt hi] at this
    have hlast : 0 ≤ ori (P (n - 1)) (P 0) p := by
      have := hin (n - 1) (by omega); rwa [show n - 1 + 1 = n by omega, Nat.mod_self] at this
    have go : ∀ m, m + 2 < n → 0 ≤ ori (P (m + 2)) (P 0) p → ∃ i, 2 ≤ i ∧ i < n ∧ InTri P p i := by
      intro m
      induction m with
      | zero => intro hm h0; exact ⟨2, by omega, hm, hedge 0 (by omega), hedge 1 (by omega), h0⟩
      | succ m ih =>
        intro hm h0
        by_cases h1 : 0 ≤ ori (P (m + 2)) (P 0) p
        · exact ih (by omega) h1
        · refine ⟨m + 1 + 2, by omega, hm, ?_, hedge (m + 2) (by omega), h0⟩
          show 0 ≤ ori (P 0) (P (m + 2)) p
          rw [ori_swap]
          have := Rat.not_le.1 h1
          grind
    exact go (n - 3) (by omega) (by rw [show n - 3 + 2 = n - 1 by omega]; exact hlast)
  · rintro ⟨i, h2, hi, t1, t2, t3⟩ e he
    have hT := ring_of_edges h 0 (i - 1) i (by omega) (by omega) hi
    have a0 := edges_all h he (show 0 < n by omega)
    have a1 := edges_all h he (show i - 1 < n by omega)
    have a2 := edges_all h he hi
    refine nonneg_of_mul hT ?_
    rw [ori_bary]
    have := Rat.mul_nonneg t2 a0
    have := Rat.mul_nonneg t3 a1
    have := Rat.mul_nonneg t1 a2
    grind
/-! ### the area -/
def cr (a b : Pt) : Rat := a.1 * b.2 - a.2 * b.1
def sumTo (f : Nat → Rat) : Nat → Rat
  | 0 => 0
  | k + 1 => sumTo f k + f k
/-- the sum over the edges -/
def ringSum (P : Nat → Pt) (n : Nat) : Rat := sumTo (fun i => cr (P i) (P ((i + 1) % n))) n
/-- the sum over the triangles from the first corner -/
def fanF (P : Nat → Pt) (i : Nat) : Rat := ori (P 0) (P (i + 1)) (P (i + 2))
def fanSum (P : Nat → Pt) (n : Nat) : Rat := sumTo (fanF P) (n - 2)
theorem fan_step (m : Nat) (hm : m + 2 ≤ n) : sumTo (fanF P) m = sumTo (fun i => cr (P i) (P ((i + 1) % n))) (m + 1) + cr (P (m + 1)) (P 0) := by
  induction m with
  | zero =>
    show (0 : Rat) = 0 + cr (P 0) (P ((0 + 1) % n)) + cr (P 1) (P 0)
    rw [Nat.mod_eq_of_lt (by omega)]
    unfold cr; grind
  | succ m ih =>
    have ih := ih (by omega)
    show sumTo (fanF P) m + fanF P m = sumTo (fun i => cr (P i) (P ((i + 1) % n))) (m + 1) + cr (P (m + 1)) (P ((m + 1 + 1) % n)) + cr (P (m + 1 + 1)) (P 0)
    rw [ih, Nat.mod_eq_of_lt (by omega)]
    generalize sumTo (fun i => cr (P i) (P ((i + 1) % n))) (m + 1) = S
    unfold fanF ori cr; grind
theorem area_eq (hn : 3 ≤ n) : fanSum P n = ringSum P n := by
  unfold fanSum ringSum
  obtain ⟨m, rfl⟩ : ∃ m, n = m + 1 := ⟨n - 1, by omega⟩
  rw [fan_step (n := m + 1) (m + 1 - 2) (by omega)]
  rw [show m + 1 - 2 + 1 = m by omega]
  show _ = sumTo (fun i => cr (P i) (P ((i + 1) % (m + 1)))) m + cr (P m) (P ((m + 1) % (m + 1)))
  rw [Nat.mod_self]
end
/-! ### the farthest corner -/
/-- the first of the greatest of n values -/
def First (f : Nat → Rat) (n b : Nat) : Prop := b < n ∧ (∀ j, j < n → f j ≤ f b) ∧ ∀ j, j < b → f j < f b
theorem first_unique {f : Nat → Rat} {n b c : Nat} (h : First f n b) (g : First f n c) : b = c := by
  obtain ⟨h1, h2, h3⟩ := h
  obtain ⟨g1, g2, g3⟩ := g
  rcases Nat.lt_trichotomy b c with h | h | h
  · exact absurd (g3 b h) (Rat.not_lt.2 (h2 c g1))
  · exact h
  · exact absurd (h3 c h) (Rat.not_lt.2 (g2 b h1))
end Go.Proofs.YtdhpmdkfmgpcmaaDoor.poly

/- Contracts: vec.Dot, vec.Cross, sides of lines, checks of polygons. Printed by wip/gp_poly.py. -/
namespace Go.Proofs.YtdhpmdkfmgpcmaaDoor.eng
open Go.RowKit num mem seg q held ratA ratB ratC ratD ratE vars ratF
section
variable {K : AV → Prop}
set_option maxRecDepth 100000 in
theorem vDot_spec (x y z t : RV)  (hx : x.z ≤ 1073741824) (hy : y.z ≤ 1073741824) (hz : z.z ≤ 1073741824) (ht : t.z ≤ 1073741824) : Spec Tryd.prog Tab 93 [pair x y, pair z t] (rat (cn (x.q * z.q + y.q * t.q))) := by
  refine fn_spec Tryd.func93 rfl rfl Tryd.ntmps93 rfl (by kernel_rfl) rfl rfl ?_
  refine k_mul (x := x) (y := z) (by omega) (by omega) fun q9 h9 z9 => ?_
  simp only [cn_z] at z9
  refine k_mul (x := y) (y := t) (by omega) (by omega) fun q14 h14 z14 => ?_
  simp only [cn_z] at z14
  refine k_add (x := cn q9) (y := cn q14) (by simp only [cn_z]; omega) (by simp only [cn_z]; omega) fun q15 h15 z15 => ?_
  simp only [cn_z] at z15
  simp only [cn_q] at h15
  refine ⟨by kernel_rfl, ?_⟩
  refine Eq.trans (b := rat (cn q15)) ?_ rfl
  subst_vars; rfl
section
variable {x y z t : RV} 
theorem k_vDot (hx : x.z ≤ 1073741824) (hy : y.z ≤ 1073741824) (hz : z.z ≤ 1073741824) (ht : t.z ≤ 1073741824) (k : ∀ q, q = x.q * z.q + y.q * t.q → (cn q).z ≤ x.z + z.z + y.z + t.z + 7 → K (rat (cn q))) : Ask 93 [pair x y, pair z t] K :=
  use (vDot_spec x y z t  hx hy hz ht ) rfl (k _ rfl (by rw [cn_z]; have := x.z1; have := z.z1; have := qs_mul x.q z.q; have := y.z1; have := t.z1; have := qs_mul y.q t.q; have := qs_add (x.q * z.q) (y.q * t.q); omega))
end
set_option maxRecDepth 100000 in
theorem vCross_spec (x y z t : RV)  (hx : x.z ≤ 1073741824) (hy : y.z ≤ 1073741824) (hz : z.z ≤ 1073741824) (ht : t.z ≤ 1073741824) : Spec Tryd.prog Tab 91 [pair x y, pair z t] (rat (cn (x.q * t.q - y.q * z.q))) := by
  refine fn_spec Tryd.func91 rfl rfl Tryd.ntmps91 rfl (by kernel_rfl) rfl rfl ?_
  refine k_mul (x := x) (y := t) (by omega) (by omega) fun q9 h9 z9 => ?_
  simp only [cn_z] at z9
  refine k_mul (x := y) (y := z) (by omega) (by omega) fun q14 h14 z14 => ?_
  simp only [cn_z] at z14
  refine k_sub (x := cn q9) (y := cn q14) (by simp only [cn_z]; omega) (by simp only [cn_z]; omega) fun q15 h15 z15 => ?_
  simp only [cn_z] at z15
  simp only [cn_q] at h15
  refine ⟨by kernel_rfl, ?_⟩
  refine Eq.trans (b := rat (cn q15)) ?_ rfl
  subst_vars; rfl
section
variable {x y z t : RV} 
theorem k_vCross (hx : x.z ≤ 1073741824) (hy : y.z ≤ 1073741824) (hz : z.z ≤ 1073741824) (ht : t.z ≤ 1073741824) (k : ∀ q, q = x.q * t.q - y.q * z.q → (cn q).z ≤ x.z + t.z + y.z + z.z + 7 → K (rat (cn q))) : Ask 91 [pair x y, pair z t] K :=
  use (vCross_spec x y z t  hx hy hz ht ) rfl (k _ rfl (by rw [cn_z]; have := x.z1; have := t.z1; have := qs_mul x.q t.q; have := y.z1; have := z.z1; have := qs_mul y.q z.q; have := qs_sub (x.q * t.q) (y.q * z.q); omega))
end
set_option maxRecDepth 100000 in
theorem RDot_spec (x y z t : RV)  (hx : x.z ≤ 1073741824) (hy : y.z ≤ 1073741824) (hz : z.z ≤ 1073741824) (ht : t.z ≤ 1073741824) : Spec Tryd.prog Tab 30 [pair x y, pair z t] (rat (cn (x.q * z.q + y.q * t.q))) := by
  refine fn_spec Tryd.func30 rfl rfl Tryd.ntmps30 rfl (by kernel_rfl) rfl rfl ?_
  refine k_mul (x := x) (y := z) (by omega) (by omega) fun q9 h9 z9 => ?_
  simp only [cn_z] at z9
  refine k_mul (x := y) (y := t) (by omega) (by omega) fun q14 h14 z14 => ?_
  simp only [cn_z] at z14
  refine k_add (x := cn q9) (y := cn q14) (by simp only [cn_z]; omega) (by simp only [cn_z]; omega) fun q15 h15 z15 => ?_
  simp only [cn_z] at z15
  simp only [cn_q] at h15
  refine ⟨by kernel_rfl, ?_⟩
  refine Eq.trans (b := rat (cn q15)) ?_ rfl
  subst_vars; rfl
section
variable {x y z t : RV} 
theorem k_RDot (hx : x.z ≤ 1073741824) (hy : y.z ≤ 1073741824) (hz : z.z ≤ 1073741824) (ht : t.z ≤ 1073741824) (k : ∀ q, q = x.q * z.q + y.q * t.q → (cn q).z ≤ x.z + z.z + y.z + t.z + 7 → K (rat (cn q))) : Ask 30 [pair x y, pair z t] K :=
  use (RDot_spec x y z t  hx hy hz ht ) rfl (k _ rfl (by rw [cn_z]; have := x.z1; have := z.z1; have := qs_mul x.q z.q; have := y.z1; have := t.z1; have := qs_mul y.q t.q; have := qs_add (x.q * z.q) (y.q * t.q); omega))
end
set_option maxRecDepth 100000 in
theorem RCross_spec (x y z t : RV)  (hx : x.z ≤ 1073741824) (hy : y.z ≤ 1073741824) (hz : z.z ≤ 1073741824) (ht : t.z ≤ 1073741824) : Spec Tryd.prog Tab 97 [pair x y, pair z t] (rat (cn (x.q * t.q - y.q * z.q))) := by
  refine fn_spec Tryd.func97 rfl rfl Tryd.ntmps97 rfl (by kernel_rfl) rfl rfl ?_
  refine k_mul (x := x) (y := t) (by omega) (by omega) fun q9 h9 z9 => ?_
  simp only [cn_z] at z9
  refine k_mul (x := y) (y := z) (by omega) (by omega) fun q14 h14 z14 => ?_
  simp only [cn_z] at z14
  refine k_sub (x := cn q9) (y := cn q14) (by simp only [cn_z]; omega) (by simp only [cn_z]; omega) fun q15 h15 z15 => ?_
  simp only [cn_z] at z15
  simp only [cn_q] at h15
  refine ⟨by kernel_rfl, ?_⟩
  refine Eq.trans (b := rat (cn q15)) ?_ rfl
  subst_vars; rfl
section
variable {x y z t : RV} 
theorem k_RCross (hx : x.z ≤ 1073741824) (hy : y.z ≤ 1073741824) (hz : z.z ≤ 1073741824) (ht : t.z ≤ 1073741824) (k : ∀ q, q = x.q * t.q - y.q * z.q → (cn q).z ≤ x.z + t.z + y.z + z.z + 7 → K (rat (cn q))) : Ask 97 [pair x y, pair z t] K :=
  use (RCross_spec x y z t  hx hy hz ht ) rfl (k _ rfl (by rw [cn_z]; have := x.z1; have := t.z1; have := qs_mul x.q t.q; have := y.z1; have := z.z1; have := qs_mul y.q z.q; have := qs_sub (x.q * t.q) (y.q * z.q); omega))
end
set_option maxRecDepth 100000 in
theorem left_spec (x y z t u v : RV)  (hx : x.z ≤ 67108864) (hy : y.z ≤ 67108864) (hz : z.z ≤ 67108864) (ht : t.z ≤ 67108864) (hu : u.z ≤ 67108864) (hv : v.z ≤ 67108864) : Spec Tryd.prog Tab 90 [pair x y, pair z t, pair u v] (int (sgnQ ((z.q - x.q) * (v.q - y.q) - (t.q - y.q) * (u.q - x.q)))) := by
  refine fn_spec Tryd.func90 rfl rfl Tryd.ntmps90 rfl (by kernel_rfl) rfl rfl ?_
  refine k_vSub (x := z) (y := t) (z := x) (t := y) (by omega) (by omega) (by omega) (by omega) (fun p9 q9 hk_9_2 hk_9_3 hk_9_4 hk_9_5 => ?_)
  simp only [cn_z] at hk_9_4
  simp only [cn_z] at hk_9_5
  refine k_vSub (x := u) (y := v) (z := x) (t := y) (by omega) (by omega) (by omega) (by omega) (fun p12 q12 hk_12_2 hk_12_3 hk_12_4 hk_12_5 => ?_)
  simp only [cn_z] at hk_12_4
  simp only [cn_z] at hk_12_5
  refine k_vCross (x := cn p9) (y := cn q9) (z := cn p12) (t := cn q12) (by simp only [cn_z]; omega) (by simp only [cn_z]; omega) (by simp only [cn_z]; omega) (by simp only [cn_z]; omega) (fun q13 hk_13_1 hk_13_2 => ?_)
  try simp only [cn_q] at hk_13_1
  simp only [cn_z] at hk_13_2
  refine k_sign (x := cn q13) (by simp only [cn_z]; omega) fun n14 h14 => ?_
  simp only [cn_q] at h14
  refine ⟨by kernel_rfl, ?_⟩
  refine Eq.trans (b := int n14) ?_ rfl
  subst_vars; rfl
section
variable {x y z t u v : RV} 
theorem k_left (hx : x.z ≤ 67108864) (hy : y.z ≤ 67108864) (hz : z.z ≤ 67108864) (ht : t.z ≤ 67108864) (hu : u.z ≤ 67108864) (hv : v.z ≤ 67108864) (k : ∀ n, n = sgnQ ((z.q - x.q) * (v.q - y.q) - (t.q - y.q) * (u.q - x.q)) → K (int n)) : Ask 90 [pair x y, pair z t, pair u v] K :=
  use (left_spec x y z t u v  hx hy hz ht hu hv ) rfl (k _ rfl)
end
set_option maxRecDepth 100000 in
theorem RSide_spec (x y z t u v : RV)  (hx : x.z ≤ 67108864) (hy : y.z ≤ 67108864) (hz : z.z ≤ 67108864) (ht : t.z ≤ 67108864) (hu : u.z ≤ 67108864) (hv : v.z ≤ 67108864) : Spec Tryd.prog Tab 84 [pair x y, pair z t, pair u v] (int (sgnQ ((z.q - x.q) * (v.q - y.q) - (t.q - y.q) * (u.q - x.q)))) := by
  refine fn_spec Tryd.func84 rfl rfl Tryd.ntmps84 rfl (by kernel_rfl) rfl rfl ?_
  refine k_RV (x := x) (y := y) (z := z) (t := t) (by omega) (by omega) (by omega) (by omega) (fun p9 q9 hk_9_2 hk_9_3 hk_9_4 hk_9_5 => ?_)
  simp only [cn_z] at hk_9_4
  simp only [cn_z] at hk_9_5
  refine k_RV (x := x) (y := y) (z := u) (t := v) (by omega) (by omega) (by omega) (by omega) (fun p12 q12 hk_12_2 hk_12_3 hk_12_4 hk_12_5 => ?_)
  simp only [cn_z] at hk_12_4
  simp only [cn_z] at hk_12_5
  refine k_RCross (x := cn p9) (y := cn q9) (z := cn p12) (t := cn q12) (by simp only [cn_z]; omega) (by simp only [cn_z]; omega) (by simp only [cn_z]; omega) (by simp only [cn_z]; omega) (fun q13 hk_13_1 hk_13_2 => ?_)
  try simp only [cn_q] at hk_13_1
  simp only [cn_z] at hk_13_2
  refine k_sign (x := cn q13) (by simp only [cn_z]; omega) fun n14 h14 => ?_
  simp only [cn_q] at h14
  refine ⟨by kernel_rfl, ?_⟩
  refine Eq.trans (b := int n14) ?_ rfl
  subst_vars; rfl
section
variable {x y z t u v : RV} 
theorem k_RSide (hx : x.z ≤ 67108864) (hy : y.z ≤ 67108864) (hz : z.z ≤ 67108864) (ht : t.z ≤ 67108864) (hu : u.z ≤ 67108864) (hv : v.z ≤ 67108864) (k : ∀ n, n = sgnQ ((z.q - x.q) * (v.q - y.q) - (t.q - y.q) * (u.q - x.q)) → K (int n)) : Ask 84 [pair x y, pair z t, pair u v] K :=
  use (RSide_spec x y z t u v  hx hy hz ht hu hv ) rfl (k _ rfl)
end
/-- a polygon's corners -/
def pts (l : List (RV × RV)) (i : Nat) : poly.Pt := (((l[i]?).getD (z0, z0)).1.q, ((l[i]?).getD (z0, z0)).2.q)
theorem pts_at {l : List (RV × RV)} {i : Nat} {p : RV × RV} (h : l[i]? = some p) : pts l i = (p.1.q, p.2.q) := by simp [pts, h]
open Classical in
/-- the error of a polygon of at most m corners -/
noncomputable def convE (m : Int) (l : List (RV × RV)) : Int := if m < (l.length : Int) then 2 else if l.length < 3 then 3 else if poly.Edges (pts l) l.length then 0 else 3
theorem convE_2 {m : Int} {l : List (RV × RV)} (h : m < (l.length : Int)) : convE m l = 2 := if_pos h
theorem convE_3 {m : Int} {l : List (RV × RV)} (h : ¬ m < (l.length : Int)) (h2 : l.length < 3) : convE m l = 3 := by rw [convE, if_neg h, if_pos h2]
theorem convE_0 {m : Int} {l : List (RV × RV)} (h : ¬ m < (l.length : Int)) (h2 : ¬ l.length < 3) (h3 : poly.Edges (pts l) l.length) : convE m l = 0 := by rw [convE, if_neg h, if_neg h2, if_pos h3]
theorem convE_4 {m : Int} {l : List (RV × RV)} (h : ¬ m < (l.length : Int)) (h2 : ¬ l.length < 3) (h3 : ¬ poly.Edges (pts l) l.length) : convE m l = 3 := by rw [convE, if_neg h, if_neg h2, if_neg h3]
theorem convE_ok {m : Int} {l : List (RV × RV)} : convE m l = 0 ↔ ¬ m < (l.length : Int) ∧ ¬ l.length < 3 ∧ poly.Edges (pts l) l.length := by
  unfold convE
  by_cases h1 : m < (l.length : Int)
  · simp [h1]
  · by_cases h2 : l.length < 3
    · simp [h1, h2]
    · by_cases h3 : poly.Edges (pts l) l.length <;> simp [h1, h2, h3]
set_option maxHeartbeats 400000 in
set_option maxRecDepth 100000 in
theorem check_spec (l : List (RV × RV)) (m : Int) (hl : ∀ p, p ∈ l → p.1.z ≤ 67108864 ∧ p.2.z ≤ 67108864) (hn : l.length ≤ 1073741824) : Spec Tryd.prog Tab 85 [.val (.one (.d (.list (List.map rdv l)))), int m] (int (convE m l)) := by
  have hL : (List.map rdv l).length = l.length := List.length_map ..
  refine fn_spec Tryd.func85 rfl rfl Tryd.ntmps85 rfl (by kernel_rfl) rfl rfl ?_
  refine ⟨fun e1 => ?_, fun e1 => ?_⟩
  · have f11 : ((List.map rdv l).length : Int) > m := of_decide_eq_true e1
    refine Eq.trans (b := int 2) ?_ rfl
    rw [convE_2 (by omega)]
  · have f11 : ¬ (((List.map rdv l).length : Int) > m) := of_decide_eq_false e1
    refine ⟨fun e2 => ?_, fun e2 => ?_⟩
    · have f15 : ((List.map rdv l).length : Int) < 3 := of_decide_eq_true e2
      refine Eq.trans (b := int 3) ?_ rfl
      rw [convE_3 (by omega) (by omega)]
    · have f15 : ¬ (((List.map rdv l).length : Int) < 3) := of_decide_eq_false e2
      refine ⟨Nat, fun i => [(0, .val (.one (.d (.list (List.map rdv l))))), (5, int ((List.map rdv l).length : Int)), (18, .val (.one (.d (.list (List.map rdv l))))), (19, int ((List.map rdv l).length : Int)), (20, int (i : Int))],
        fun i => [], fun i => i ≤ l.length ∧ ∀ i' k, i' < i → 2 ≤ k → k < l.length → 0 < poly.ori (pts l i') (pts l ((i' + 1) % l.length)) (pts l ((i' + k) % l.length)), fun i => l.length - i, 0, ?_, ⟨Nat.zero_le _, fun i' k h => absurd h (Nat.not_lt_zero _)⟩, fun i hs => ?_⟩
      · constructor <;> (repeat' (first | exact rfl | exact True.intro | exact ⟨_, _, rfl⟩ | exact (by decide) | apply And.intro))
        all_goals first | exact congrArg (fun n : Int => D.v (.int .i64 n)) (by omega) | exact congrArg (fun n : Int => D.v (.int .i64 n)) (by rw [wrap64 _ (by omega) (by omega)]; omega) | (simp; done)
      obtain ⟨hi, hall⟩ := hs
      refine ⟨fun e3 => ?_, fun e3 => ?_⟩
      · have f21 : (i : Int) < ((List.map rdv l).length : Int) := of_decide_eq_true e3
        obtain ⟨x23, hx23⟩ : ∃ vv, l[i]? = some vv := ⟨_, List.getElem?_eq_getElem (by first | omega | exact Nat.mod_lt _ (by omega))⟩
        have hzx23 := hl x23 (List.mem_of_getElem? hx23)
        have hpx23 := pts_at hx23
        refine k_ix i [D.v (.bool x23.1.s), D.v (.string x23.1.a), D.v (.string x23.1.d), D.v (.bool x23.2.s), D.v (.string x23.2.a), D.v (.string x23.2.d)] (by first | rfl | omega | (rw [wrap64 _ (by omega) (by omega)]; omega)) (map_at hx23) rfl ?_
        refine ⟨Nat, fun k => [(0, .val (.one (.d (.list (List.map rdv l))))), (5, int ((List.map rdv l).length : Int)), (6, int (i : Int)), (7, .val (.one (.ptr 7 0))), (8, int (k : Int)), (18, .val (.one (.d (.list (List.map rdv l))))), (19, int ((List.map rdv l).length : Int)), (20, int (i : Int))],
          fun k => [(7, .var 43 [.d (.v (.bool x23.1.s)), .d (.v (.string x23.1.a)), .d (.v (.string x23.1.d)), .d (.v (.bool x23.2.s)), .d (.v (.string x23.2.a)), .d (.v (.string x23.2.d))])], fun k => 2 ≤ k ∧ ∀ k', 2 ≤ k' → k' < k → k' < l.length → 0 < poly.ori (pts l i) (pts l ((i + 1) % l.length)) (pts l ((i + k') % l.length)), fun k => l.length - k, 2, ?_, ⟨Nat.le_refl _, fun k' h1 h2 => by omega⟩, fun k hs => ?_⟩
        · constructor <;> (repeat' (first | exact rfl | exact True.intro | exact ⟨_, _, rfl⟩ | exact (by decide) | apply And.intro))
          all_goals first | exact congrArg (fun n : Int => D.v (.int .i64 n)) (by omega) | exact congrArg (fun n : Int => D.v (.int .i64 n)) (by rw [wrap64 _ (by omega) (by omega)]; omega) | (simp; done)
        obtain ⟨hk, hin0⟩ := hs
        refine ⟨fun e4 => ?_, fun e4 => ?_⟩
        · have f27 : (k : Int) < ((List.map rdv l).length : Int) := of_decide_eq_true e4
          refine k_remW (i + 1) l.length (by first | rfl | omega | (rw [wrap64 _ (by omega) (by omega)]; omega)) (by first | rfl | omega | (rw [wrap64 _ (by omega) (by omega)]; omega)) (by omega) ?_
          obtain ⟨x36, hx36⟩ : ∃ vv, l[((i + 1) % l.length)]? = some vv := ⟨_, List.getElem?_eq_getElem (by first | omega | exact Nat.mod_lt _ (by omega))⟩
          have hzx36 := hl x36 (List.mem_of_getElem? hx36)
          have hpx36 := pts_at hx36
          refine k_ix ((i + 1) % l.length) [D.v (.bool x36.1.s), D.v (.string x36.1.a), D.v (.string x36.1.d), D.v (.bool x36.2.s), D.v (.string x36.2.a), D.v (.string x36.2.d)] (by first | rfl | omega | (rw [wrap64 _ (by omega) (by omega)]; omega)) (map_at hx36) rfl ?_
          refine k_remW (i + k) l.length (by first | rfl | omega | (rw [wrap64 _ (by omega) (by omega)]; omega)) (by first | rfl | omega | (rw [wrap64 _ (by omega) (by omega)]; omega)) (by omega) ?_
          obtain ⟨x44, hx44⟩ : ∃ vv, l[((i + k) % l.length)]? = some vv := ⟨_, List.getElem?_eq_getElem (by first | omega | exact Nat.mod_lt _ (by omega))⟩
          have hzx44 := hl x44 (List.mem_of_getElem? hx44)
          have hpx44 := pts_at hx44
          refine k_ix ((i + k) % l.length) [D.v (.bool x44.1.s), D.v (.string x44.1.a), D.v (.string x44.1.d), D.v (.bool x44.2.s), D.v (.string x44.2.a), D.v (.string x44.2.d)] (by first | rfl | omega | (rw [wrap64 _ (by omega) (by omega)]; omega)) (map_at hx44) rfl ?_
          refine k_left (x := x23.1) (y := x23.2) (z := x36.1) (t := x36.2) (u := x44.1) (v := x44.2) (by omega) (by omega) (by omega) (by omega) (by omega) (by omega) (fun n46 hk_46_1 => ?_)
          refine ⟨by kernel_rfl, ?_⟩
          refine ⟨fun e5 => ?_, fun e5 => ?_⟩
          · have f47 : (x36.1.q - x23.1.q) * (x44.2.q - x23.2.q) - (x36.2.q - x23.2.q) * (x44.1.q - x23.1.q) ≤ 0 := (sg0_le hk_46_1).1 (of_decide_eq_true e5)
            refine Eq.trans (b := int 3) ?_ rfl
            rw [convE_4 (by omega) (by omega) (fun hE => by have := hE i k (by omega) hk (by omega); rw [hpx23, hpx36, hpx44] at this; exact absurd f47 (Rat.not_le.2 this))]
          · have f47 : ¬ ((x36.1.q - x23.1.q) * (x44.2.q - x23.2.q) - (x36.2.q - x23.2.q) * (x44.1.q - x23.1.q) ≤ 0) := fun hh => of_decide_eq_false e5 ((sg0_le hk_46_1).2 hh)
            have hpos : 0 < poly.ori (pts l i) (pts l ((i + 1) % l.length)) (pts l ((i + k) % l.length)) := by rw [hpx23, hpx36, hpx44]; exact Rat.not_le.1 f47
            refine ⟨k + 1, ⟨by omega, fun k' h1 h2 h3 => by
                      by_cases e : k' = k
                      · subst e; exact hpos
                      · exact hin0 k' h1 (by omega) h3⟩, by simp only; omega, ?_⟩
            constructor <;> (repeat' (first | exact rfl | exact True.intro | apply And.intro))
            all_goals first
              | exact congrArg (fun n : Int => D.v (.int .i64 n)) (by rw [wrap64 _ (by omega) (by omega)]; omega)
              | exact congrArg (fun n : Int => D.v (.int .i64 n)) (by omega)
        · have f27 : ¬ ((k : Int) < ((List.map rdv l).length : Int)) := of_decide_eq_false e4
          have hin : ∀ k', 2 ≤ k' → k' < l.length → 0 < poly.ori (pts l i) (pts l ((i + 1) % l.length)) (pts l ((i + k') % l.length)) := fun k' h1 h2 => hin0 k' h1 (by omega) h2
          refine ⟨i + 1, ⟨by omega, fun i' k h1 h2 h3 => by
                by_cases e : i' = i
                · subst e; exact hin k h2 h3
                · exact hall i' k (by omega) h2 h3⟩, by simp only; omega, ?_⟩
          constructor <;> (repeat' (first | exact rfl | exact True.intro | apply And.intro))
          all_goals first
            | exact congrArg (fun n : Int => D.v (.int .i64 n)) (by rw [wrap64 _ (by omega) (by omega)]; omega)
            | exact congrArg (fun n : Int => D.v (.int .i64 n)) (by omega)
      · have f21 : ¬ ((i : Int) < ((List.map rdv l).length : Int)) := of_decide_eq_false e3
        refine Eq.trans (b := int 0) ?_ rfl
        rw [convE_0 (by omega) (by omega) (fun i' k h1 h2 h3 => hall i' k (by omega) h2 h3)]
set_option maxRecDepth 100000 in
theorem Convex_spec (l : List (RV × RV)) (hl : ∀ p, p ∈ l → p.1.z ≤ 67108864 ∧ p.2.z ≤ 67108864) (hn : l.length ≤ 1073741824) : Spec Tryd.prog Tab 22 [.val (.one (.d (.list (List.map rdv l))))] (int (convE 64 l)) := by
  refine fn_spec Tryd.func22 rfl rfl Tryd.ntmps22 rfl (by kernel_rfl) rfl rfl ?_
  refine use (check_spec l (64) hl hn) rfl ?_
  refine Eq.trans (b := int (convE 64 l)) ?_ rfl
  subst_vars; rfl
theorem k_Convex {l : List (RV × RV)} (hl : ∀ p, p ∈ l → p.1.z ≤ 67108864 ∧ p.2.z ≤ 67108864) (hn : l.length ≤ 1073741824) (k : ∀ n, n = convE 64 l → K (int n)) : Ask 22 [vecs l] K := use (Convex_spec l hl hn) rfl (k _ rfl)
set_option maxRecDepth 100000 in
theorem PCheck_spec (l : List (RV × RV)) (hl : ∀ p, p ∈ l → p.1.z ≤ 67108864 ∧ p.2.z ≤ 67108864) (hn : l.length ≤ 1073741824) : Spec Tryd.prog Tab 21 [.val (.one (.d (.list (List.map rdv l))))] (int (convE 8 l)) := by
  refine fn_spec Tryd.func21 rfl rfl Tryd.ntmps21 rfl (by kernel_rfl) rfl rfl ?_
  refine use (check_spec l (8) hl hn) rfl ?_
  refine Eq.trans (b := int (convE 8 l)) ?_ rfl
  subst_vars; rfl
theorem k_PCheck {l : List (RV × RV)} (hl : ∀ p, p ∈ l → p.1.z ≤ 67108864 ∧ p.2.z ≤ 67108864) (hn : l.length ≤ 1073741824) (k : ∀ n, n = convE 8 l → K (int n)) : Ask 21 [vecs l] K := use (PCheck_spec l hl hn) rfl (k _ rfl)
set_option maxHeartbeats 400000 in
set_option maxRecDepth 100000 in
theorem RRing_spec (l : List (RV × RV)) (m : Int) (hl : ∀ p, p ∈ l → p.1.z ≤ 67108864 ∧ p.2.z ≤ 67108864) (hn : l.length ≤ 1073741824) : Spec Tryd.prog Tab 20 [.val (.one (.d (.list (List.map rdv l)))), int m] (int (convE m l)) := by
  have hL : (List.map rdv l).length = l.length := List.length_map ..
  refine fn_spec Tryd.func20 rfl rfl Tryd.ntmps20 rfl (by kernel_rfl) rfl rfl ?_
  refine ⟨fun e1 => ?_, fun e1 => ?_⟩
  · have f11 : ((List.map rdv l).length : Int) > m := of_decide_eq_true e1
    refine Eq.trans (b := int 2) ?_ rfl
    rw [convE_2 (by omega)]
  · have f11 : ¬ (((List.map rdv l).length : Int) > m) := of_decide_eq_false e1
    refine ⟨fun e2 => ?_, fun e2 => ?_⟩
    · have f14 : ((List.map rdv l).length : Int) < 3 := of_decide_eq_true e2
      refine Eq.trans (b := int 3) ?_ rfl
      rw [convE_3 (by omega) (by omega)]
    · have f14 : ¬ (((List.map rdv l).length : Int) < 3) := of_decide_eq_false e2
      refine ⟨Nat, fun i => [(0, .val (.one (.d (.list (List.map rdv l))))), (16, int ((List.map rdv l).length : Int)), (17, int (i : Int))],
        fun i => [], fun i => i ≤ l.length ∧ ∀ j k i', j < k → k < i' → i' < i → 0 < poly.ori (pts l j) (pts l k) (pts l i'), fun i => l.length - i, 0, ?_, ⟨Nat.zero_le _, fun j k i' _ _ h => absurd h (Nat.not_lt_zero _)⟩, fun i hs => ?_⟩
      · constructor <;> (repeat' (first | exact rfl | exact True.intro | exact ⟨_, _, rfl⟩ | exact (by decide) | apply And.intro))
        all_goals first | exact congrArg (fun n : Int => D.v (.int .i64 n)) (by omega) | exact congrArg (fun n : Int => D.v (.int .i64 n)) (by rw [wrap64 _ (by omega) (by omega)]; omega) | (simp; done)
      obtain ⟨hi, h1⟩ := hs
      refine ⟨fun e3 => ?_, fun e3 => ?_⟩
      · have f18 : (i : Int) < ((List.map rdv l).length : Int) := of_decide_eq_true e3
        refine ⟨Nat, fun k => [(0, .val (.one (.d (.list (List.map rdv l))))), (5, int (i : Int)), (16, int ((List.map rdv l).length : Int)), (17, int (i : Int)), (20, int (i : Int)), (21, int (k : Int))],
          fun k => [], fun k => k ≤ i ∧ ∀ j k', j < k' → k' < k → 0 < poly.ori (pts l j) (pts l k') (pts l i), fun k => i - k, 0, ?_, ⟨Nat.zero_le _, fun j k' _ h => absurd h (Nat.not_lt_zero _)⟩, fun k hs => ?_⟩
        · constructor <;> (repeat' (first | exact rfl | exact True.intro | exact ⟨_, _, rfl⟩ | exact (by decide) | apply And.intro))
          all_goals first | exact congrArg (fun n : Int => D.v (.int .i64 n)) (by omega) | exact congrArg (fun n : Int => D.v (.int .i64 n)) (by rw [wrap64 _ (by omega) (by omega)]; omega) | (simp; done)
        obtain ⟨hk, h20⟩ := hs
        refine ⟨fun e4 => ?_, fun e4 => ?_⟩
        · have f22 : (k : Int) < (i : Int) := of_decide_eq_true e4
          refine ⟨Nat, fun j => [(0, .val (.one (.d (.list (List.map rdv l))))), (5, int (i : Int)), (6, int (k : Int)), (16, int ((List.map rdv l).length : Int)), (17, int (i : Int)), (20, int (i : Int)), (21, int (k : Int)), (24, int (k : Int)), (25, int (j : Int))],
            fun j => [], fun j => j ≤ k ∧ ∀ j', j' < j → 0 < poly.ori (pts l j') (pts l k) (pts l i), fun j => k - j, 0, ?_, ⟨Nat.zero_le _, fun j' h => absurd h (Nat.not_lt_zero _)⟩, fun j hs => ?_⟩
          · constructor <;> (repeat' (first | exact rfl | exact True.intro | exact ⟨_, _, rfl⟩ | exact (by decide) | apply And.intro))
            all_goals first | exact congrArg (fun n : Int => D.v (.int .i64 n)) (by omega) | exact congrArg (fun n : Int => D.v (.int .i64 n)) (by rw [wrap64 _ (by omega) (by omega)]; omega) | (simp; done)
          obtain ⟨hj, h30⟩ := hs
          refine ⟨fun e5 => ?_, fun e5 => ?_⟩
          · have f26 : (j : Int) < (k : Int) := of_decide_eq_true e5
            obtain ⟨x30, hx30⟩ : ∃ vv, l[j]? = some vv := ⟨_, List.getElem?_eq_getElem (by first | omega | exact Nat.mod_lt _ (by omega))⟩
            have hzx30 := hl x30 (List.mem_of_getElem? hx30)
            have hpx30 := pts_at hx30
            refine k_ix j [D.v (.bool x30.1.s), D.v (.string x30.1.a), D.v (.string x30.1.d), D.v (.bool x30.2.s), D.v (.string x30.2.a), D.v (.string x30.2.d)] (by first | rfl | omega | (rw [wrap64 _ (by omega) (by omega)]; omega)) (map_at hx30) rfl ?_
            obtain ⟨x34, hx34⟩ : ∃ vv, l[k]? = some vv := ⟨_, List.getElem?_eq_getElem (by first | omega | exact Nat.mod_lt _ (by omega))⟩
            have hzx34 := hl x34 (List.mem_of_getElem? hx34)
            have hpx34 := pts_at hx34
            refine k_ix k [D.v (.bool x34.1.s), D.v (.string x34.1.a), D.v (.string x34.1.d), D.v (.bool x34.2.s), D.v (.string x34.2.a), D.v (.string x34.2.d)] (by first | rfl | omega | (rw [wrap64 _ (by omega) (by omega)]; omega)) (map_at hx34) rfl ?_
            obtain ⟨x38, hx38⟩ : ∃ vv, l[i]? = some vv := ⟨_, List.getElem?_eq_getElem (by first | omega | exact Nat.mod_lt _ (by omega))⟩
            have hzx38 := hl x38 (List.mem_of_getElem? hx38)
            have hpx38 := pts_at hx38
            refine k_ix i [D.v (.bool x38.1.s), D.v (.string x38.1.a), D.v (.string x38.1.d), D.v (.bool x38.2.s), D.v (.string x38.2.a), D.v (.string x38.2.d)] (by first | rfl | omega | (rw [wrap64 _ (by omega) (by omega)]; omega)) (map_at hx38) rfl ?_
            refine k_RSide (x := x30.1) (y := x30.2) (z := x34.1) (t := x34.2) (u := x38.1) (v := x38.2) (by omega) (by omega) (by omega) (by omega) (by omega) (by omega) (fun n40 hk_40_1 => ?_)
            refine ⟨by kernel_rfl, ?_⟩
            refine ⟨fun e6 => ?_, fun e6 => ?_⟩
            · have f41 : (x34.1.q - x30.1.q) * (x38.2.q - x30.2.q) - (x34.2.q - x30.2.q) * (x38.1.q - x30.1.q) ≤ 0 := (sg0_le hk_40_1).1 (of_decide_eq_true e6)
              refine Eq.trans (b := int 3) ?_ rfl
              rw [convE_4 (by omega) (by omega) (fun hE => by have := poly.ring_of_edges hE j k i (by omega) (by omega) (by omega); rw [hpx30, hpx34, hpx38] at this; exact absurd f41 (Rat.not_le.2 this))]
            · have f41 : ¬ ((x34.1.q - x30.1.q) * (x38.2.q - x30.2.q) - (x34.2.q - x30.2.q) * (x38.1.q - x30.1.q) ≤ 0) := fun hh => of_decide_eq_false e6 ((sg0_le hk_40_1).2 hh)
              have hpos : 0 < poly.ori (pts l j) (pts l k) (pts l i) := by rw [hpx30, hpx34, hpx38]; exact Rat.not_le.1 f41
              refine ⟨j + 1, ⟨by omega, fun j' g1 => by
                by_cases e : j' = j
                · subst e; exact hpos
                · exact h30 j' (by omega)⟩, by simp only; omega, ?_⟩
              constructor <;> (repeat' (first | exact rfl | exact True.intro | apply And.intro))
              all_goals first
                | exact congrArg (fun n : Int => D.v (.int .i64 n)) (by rw [wrap64 _ (by omega) (by omega)]; omega)
                | exact congrArg (fun n : Int => D.v (.int .i64 n)) (by omega)
          · have f26 : ¬ ((j : Int) < (k : Int)) := of_decide_eq_false e5
            have h3 : ∀ j, j < k → 0 < poly.ori (pts l j) (pts l k) (pts l i) := fun j h => h30 j (by omega)
            refine ⟨k + 1, ⟨by omega, fun j k' g1 g2 => by
              by_cases e : k' = k
              · subst e; exact h3 j g1
              · exact h20 j k' g1 (by omega)⟩, by simp only; omega, ?_⟩
            constructor <;> (repeat' (first | exact rfl | exact True.intro | apply And.intro))
            all_goals first
              | exact congrArg (fun n : Int => D.v (.int .i64 n)) (by rw [wrap64 _ (by omega) (by omega)]; omega)
              | exact congrArg (fun n : Int => D.v (.int .i64 n)) (by omega)
        · have f22 : ¬ ((k : Int) < (i : Int)) := of_decide_eq_false e4
          have h2 : ∀ j k, j < k → k < i → 0 < poly.ori (pts l j) (pts l k) (pts l i) := fun j k h h' => h20 j k h (by omega)
          refine ⟨i + 1, ⟨by omega, fun j k i' g1 g2 g3 => by
            by_cases e : i' = i
            · subst e; exact h2 j k g1 g2
            · exact h1 j k i' g1 g2 (by omega)⟩, by simp only; omega, ?_⟩
          constructor <;> (repeat' (first | exact rfl | exact True.intro | apply And.intro))
          all_goals first
            | exact congrArg (fun n : Int => D.v (.int .i64 n)) (by rw [wrap64 _ (by omega) (by omega)]; omega)
            | exact congrArg (fun n : Int => D.v (.int .i64 n)) (by omega)
      · have f18 : ¬ ((i : Int) < ((List.map rdv l).length : Int)) := of_decide_eq_false e3
        refine Eq.trans (b := int 0) ?_ rfl
        rw [convE_0 (by omega) (by omega) (poly.edges_of_ring fun j k i' g1 g2 g3 => h1 j k i' g1 g2 (by omega))]
theorem k_RRing {l : List (RV × RV)} (hl : ∀ p, p ∈ l → p.1.z ≤ 67108864 ∧ p.2.z ≤ 67108864) (hn : l.length ≤ 1073741824) (m : Int) (k : ∀ n, n = convE m l → K (int n)) : Ask 20 [vecs l, int m] K := use (RRing_spec l m hl hn) rfl (k _ rfl)
open Classical in
/-- whether a polygon has a point -/
noncomputable def hasP (l : List (RV × RV)) (x y : RV) : Bool := decide (convE 64 l = 0 ∧ poly.Inside (pts l) l.length (x.q, y.q))
open Classical in
noncomputable def innP (l : List (RV × RV)) (x y : RV) : Bool := decide (∃ i, 2 ≤ i ∧ i < l.length ∧ poly.InTri (pts l) (x.q, y.q) i)
open Classical in
theorem hasP_t {l : List (RV × RV)} {x y : RV} (h : convE 64 l = 0 ∧ poly.Inside (pts l) l.length (x.q, y.q)) : hasP l x y = true := by unfold hasP; exact decide_eq_true h
open Classical in
theorem hasP_f {l : List (RV × RV)} {x y : RV} (h : ¬ (convE 64 l = 0 ∧ poly.Inside (pts l) l.length (x.q, y.q))) : hasP l x y = false := by unfold hasP; exact decide_eq_false h
open Classical in
theorem innP_t {l : List (RV × RV)} {x y : RV} (h : ∃ i, 2 ≤ i ∧ i < l.length ∧ poly.InTri (pts l) (x.q, y.q) i) : innP l x y = true := by unfold innP; exact decide_eq_true h
open Classical in
theorem innP_f {l : List (RV × RV)} {x y : RV} (h : ¬ ∃ i, 2 ≤ i ∧ i < l.length ∧ poly.InTri (pts l) (x.q, y.q) i) : innP l x y = false := by unfold innP; exact decide_eq_false h
theorem has_inn {l : List (RV × RV)} {x y : RV} (h : convE 64 l = 0) : hasP l x y = innP l x y := by
  obtain ⟨h1, h2, h3⟩ := convE_ok.1 h
  have := poly.inside_iff h3 (by omega) (x.q, y.q)
  by_cases e : poly.Inside (pts l) l.length (x.q, y.q)
  · rw [hasP_t ⟨h, e⟩, innP_t (this.1 e)]
  · rw [hasP_f fun g => e g.2, innP_f fun g => e (this.2 g)]
set_option maxRecDepth 100000 in
theorem pHas_spec (l : List (RV × RV)) (x y : RV) (hl : ∀ p, p ∈ l → p.1.z ≤ 67108864 ∧ p.2.z ≤ 67108864) (hn : l.length ≤ 1073741824) (hx : x.z ≤ 67108864) (hy : y.z ≤ 67108864) : Spec Tryd.prog Tab 25 [.val (.one (.d (.list (List.map rdv l)))), pair x y] (bool (hasP l x y)) := by
  have hL : (List.map rdv l).length = l.length := List.length_map ..
  refine fn_spec Tryd.func25 rfl rfl Tryd.ntmps25 rfl (by kernel_rfl) rfl rfl ?_
  refine k_Convex (l := l) (by assumption) (by omega) (fun n8 hk_8_1 => ?_)
  refine ⟨fun e1 => ?_, fun e1 => ?_⟩
  · have f9 : n8 ≠ 0 := bne_t e1
    refine Eq.trans (b := bool false) ?_ rfl
    rw [hasP_f fun h => by omega]
  · have f9 : ¬ (n8 ≠ 0) := fun hh => hh (bne_f e1)
    have hc : convE 64 l = 0 := by omega
    obtain ⟨_, c2, _⟩ := convE_ok.1 hc
    refine ⟨Nat, fun i => [(0, .val (.one (.d (.list (List.map rdv l))))), (3, .val (.one (.ptr 3 0))), (10, .val (.one (.d (.list (List.map rdv l))))), (11, int ((List.map rdv l).length : Int)), (12, int (i : Int))],
      fun i => [(3, .var 43 [.d (.v (.bool x.s)), .d (.v (.string x.a)), .d (.v (.string x.d)), .d (.v (.bool y.s)), .d (.v (.string y.a)), .d (.v (.string y.d))])], fun i => i ≤ l.length ∧ ∀ i', i' < i → 0 ≤ poly.ori (pts l i') (pts l ((i' + 1) % l.length)) (x.q, y.q), fun i => l.length - i, 0, ?_, ⟨Nat.zero_le _, fun i' h => absurd h (Nat.not_lt_zero _)⟩, fun i hs => ?_⟩
    · constructor <;> (repeat' (first | exact rfl | exact True.intro | exact ⟨_, _, rfl⟩ | exact (by decide) | apply And.intro))
      all_goals first | exact congrArg (fun n : Int => D.v (.int .i64 n)) (by omega) | exact congrArg (fun n : Int => D.v (.int .i64 n)) (by rw [wrap64 _ (by omega) (by omega)]; omega) | (simp; done)
    obtain ⟨hi, h1⟩ := hs
    refine ⟨fun e2 => ?_, fun e2 => ?_⟩
    · have f13 : (i : Int) < ((List.map rdv l).length : Int) := of_decide_eq_true e2
      obtain ⟨x15, hx15⟩ : ∃ vv, l[i]? = some vv := ⟨_, List.getElem?_eq_getElem (by first | omega | exact Nat.mod_lt _ (by omega))⟩
      have hzx15 := hl x15 (List.mem_of_getElem? hx15)
      have hpx15 := pts_at hx15
      refine k_ix i [D.v (.bool x15.1.s), D.v (.string x15.1.a), D.v (.string x15.1.d), D.v (.bool x15.2.s), D.v (.string x15.2.a), D.v (.string x15.2.d)] (by first | rfl | omega | (rw [wrap64 _ (by omega) (by omega)]; omega)) (map_at hx15) rfl ?_
      refine k_remW (i + 1) l.length (by first | rfl | omega | (rw [wrap64 _ (by omega) (by omega)]; omega)) (by first | rfl | omega | (rw [wrap64 _ (by omega) (by omega)]; omega)) (by omega) ?_
      obtain ⟨x24, hx24⟩ : ∃ vv, l[((i + 1) % l.length)]? = some vv := ⟨_, List.getElem?_eq_getElem (by first | omega | exact Nat.mod_lt _ (by omega))⟩
      have hzx24 := hl x24 (List.mem_of_getElem? hx24)
      have hpx24 := pts_at hx24
      refine k_ix ((i + 1) % l.length) [D.v (.bool x24.1.s), D.v (.string x24.1.a), D.v (.string x24.1.d), D.v (.bool x24.2.s), D.v (.string x24.2.a), D.v (.string x24.2.d)] (by first | rfl | omega | (rw [wrap64 _ (by omega) (by omega)]; omega)) (map_at hx24) rfl ?_
      refine k_left (x := x15.1) (y := x15.2) (z := x24.1) (t := x24.2) (u := x) (v := y) (by omega) (by omega) (by omega) (by omega) (by omega) (by omega) (fun n27 hk_27_1 => ?_)
      refine ⟨by kernel_rfl, ?_⟩
      refine ⟨fun e3 => ?_, fun e3 => ?_⟩
      · have f28 : (x24.1.q - x15.1.q) * (y.q - x15.2.q) - (x24.2.q - x15.2.q) * (x.q - x15.1.q) < 0 := (sg0_lt hk_27_1).1 (of_decide_eq_true e3)
        refine Eq.trans (b := bool false) ?_ rfl
        rw [hasP_f fun h => by have := h.2 i (by omega); rw [hpx15, hpx24] at this; exact absurd f28 (Rat.not_lt.2 this)]
      · have f28 : ¬ ((x24.1.q - x15.1.q) * (y.q - x15.2.q) - (x24.2.q - x15.2.q) * (x.q - x15.1.q) < 0) := fun hh => of_decide_eq_false e3 ((sg0_lt hk_27_1).2 hh)
        have hpos : 0 ≤ poly.ori (pts l i) (pts l ((i + 1) % l.length)) (x.q, y.q) := by rw [hpx15, hpx24]; exact Rat.not_lt.1 f28
        refine ⟨i + 1, ⟨by omega, fun i' g => by
          by_cases e : i' = i
          · subst e; exact hpos
          · exact h1 i' (by omega)⟩, by simp only; omega, ?_⟩
        constructor <;> (repeat' (first | exact rfl | exact True.intro | apply And.intro))
        all_goals first
          | exact congrArg (fun n : Int => D.v (.int .i64 n)) (by rw [wrap64 _ (by omega) (by omega)]; omega)
          | exact congrArg (fun n : Int => D.v (.int .i64 n)) (by omega)
    · have f13 : ¬ ((i : Int) < ((List.map rdv l).length : Int)) := of_decide_eq_false e2
      refine Eq.trans (b := bool true) ?_ rfl
      rw [hasP_t ⟨hc, fun i' g => h1 i' (by omega)⟩]
theorem k_pHas {l : List (RV × RV)} (hl : ∀ p, p ∈ l → p.1.z ≤ 67108864 ∧ p.2.z ≤ 67108864) (hn : l.length ≤ 1073741824) {x y : RV} (hx : x.z ≤ 67108864) (hy : y.z ≤ 67108864) (k : ∀ b, b = hasP l x y → K (bool b)) : Ask 25 [vecs l, pair x y] K := use (pHas_spec l x y hl hn hx hy) rfl (k _ rfl)
set_option maxRecDepth 100000 in
theorem RInner_spec (l : List (RV × RV)) (x y : RV) (hl : ∀ p, p ∈ l → p.1.z ≤ 67108864 ∧ p.2.z ≤ 67108864) (hn : l.length ≤ 1073741824) (hx : x.z ≤ 67108864) (hy : y.z ≤ 67108864) : Spec Tryd.prog Tab 31 [.val (.one (.d (.list (List.map rdv l)))), pair x y] (bool (innP l x y)) := by
  have hL : (List.map rdv l).length = l.length := List.length_map ..
  refine fn_spec Tryd.func31 rfl rfl Tryd.ntmps31 rfl (by kernel_rfl) rfl rfl ?_
  refine ⟨Nat, fun i => [(0, .val (.one (.d (.list (List.map rdv l))))), (3, .val (.one (.ptr 3 0))), (5, int (i : Int))],
    fun i => [(3, .var 43 [.d (.v (.bool x.s)), .d (.v (.string x.a)), .d (.v (.string x.d)), .d (.v (.bool y.s)), .d (.v (.string y.a)), .d (.v (.string y.d))])], fun i => 2 ≤ i ∧ ∀ i', 2 ≤ i' → i' < i → i' < l.length → ¬ poly.InTri (pts l) (x.q, y.q) i', fun i => l.length - i, 2, ?_, ⟨Nat.le_refl _, fun i' g h => by omega⟩, fun i hs => ?_⟩
  · constructor <;> (repeat' (first | exact rfl | exact True.intro | exact ⟨_, _, rfl⟩ | exact (by decide) | apply And.intro))
    all_goals first | exact congrArg (fun n : Int => D.v (.int .i64 n)) (by omega) | exact congrArg (fun n : Int => D.v (.int .i64 n)) (by rw [wrap64 _ (by omega) (by omega)]; omega) | (simp; done)
  obtain ⟨hi, h1⟩ := hs
  refine ⟨fun e1 => ?_, fun e1 => ?_⟩
  · have f9 : (i : Int) < ((List.map rdv l).length : Int) := of_decide_eq_true e1
    obtain ⟨x13, hx13⟩ : ∃ vv, l[0]? = some vv := ⟨_, List.getElem?_eq_getElem (by first | omega | exact Nat.mod_lt _ (by omega))⟩
    have hzx13 := hl x13 (List.mem_of_getElem? hx13)
    have hpx13 := pts_at hx13
    refine k_ix 0 [D.v (.bool x13.1.s), D.v (.string x13.1.a), D.v (.string x13.1.d), D.v (.bool x13.2.s), D.v (.string x13.2.a), D.v (.string x13.2.d)] (by first | rfl | omega | (rw [wrap64 _ (by omega) (by omega)]; omega)) (map_at hx13) rfl ?_
    obtain ⟨x18, hx18⟩ : ∃ vv, l[(i - 1)]? = some vv := ⟨_, List.getElem?_eq_getElem (by first | omega | exact Nat.mod_lt _ (by omega))⟩
    have hzx18 := hl x18 (List.mem_of_getElem? hx18)
    have hpx18 := pts_at hx18
    refine k_ix (i - 1) [D.v (.bool x18.1.s), D.v (.string x18.1.a), D.v (.string x18.1.d), D.v (.bool x18.2.s), D.v (.string x18.2.a), D.v (.string x18.2.d)] (by first | rfl | omega | (rw [wrap64 _ (by omega) (by omega)]; omega)) (map_at hx18) rfl ?_
    refine k_RSide (x := x13.1) (y := x13.2) (z := x18.1) (t := x18.2) (u := x) (v := y) (by omega) (by omega) (by omega) (by omega) (by omega) (by omega) (fun n21 hk_21_1 => ?_)
    refine fork (fun e2 => ?_) (fun e2 => ?_)
    · have f23 : 0 ≤ (x18.1.q - x13.1.q) * (y.q - x13.2.q) - (x18.2.q - x13.2.q) * (x.q - x13.1.q) := (sg0_ge hk_21_1).1 (of_decide_eq_true e2)
      refine k_ix (i - 1) [D.v (.bool x18.1.s), D.v (.string x18.1.a), D.v (.string x18.1.d), D.v (.bool x18.2.s), D.v (.string x18.2.a), D.v (.string x18.2.d)] (by first | rfl | omega | (rw [wrap64 _ (by omega) (by omega)]; omega)) (map_at hx18) rfl ?_
      obtain ⟨x31, hx31⟩ : ∃ vv, l[i]? = some vv := ⟨_, List.getElem?_eq_getElem (by first | omega | exact Nat.mod_lt _ (by omega))⟩
      have hzx31 := hl x31 (List.mem_of_getElem? hx31)
      have hpx31 := pts_at hx31
      refine k_ix i [D.v (.bool x31.1.s), D.v (.string x31.1.a), D.v (.string x31.1.d), D.v (.bool x31.2.s), D.v (.string x31.2.a), D.v (.string x31.2.d)] (by first | rfl | omega | (rw [wrap64 _ (by omega) (by omega)]; omega)) (map_at hx31) rfl ?_
      refine k_RSide (x := x18.1) (y := x18.2) (z := x31.1) (t := x31.2) (u := x) (v := y) (by omega) (by omega) (by omega) (by omega) (by omega) (by omega) (fun n34 hk_34_1 => ?_)
      refine fork (fun e3 => ?_) (fun e3 => ?_)
      · have f37 : 0 ≤ (x31.1.q - x18.1.q) * (y.q - x18.2.q) - (x31.2.q - x18.2.q) * (x.q - x18.1.q) := (sg0_ge hk_34_1).1 (of_decide_eq_true e3)
        refine k_ix i [D.v (.bool x31.1.s), D.v (.string x31.1.a), D.v (.string x31.1.d), D.v (.bool x31.2.s), D.v (.string x31.2.a), D.v (.string x31.2.d)] (by first | rfl | omega | (rw [wrap64 _ (by omega) (by omega)]; omega)) (map_at hx31) rfl ?_
        refine k_ix 0 [D.v (.bool x13.1.s), D.v (.string x13.1.a), D.v (.string x13.1.d), D.v (.bool x13.2.s), D.v (.string x13.2.a), D.v (.string x13.2.d)] (by first | rfl | omega | (rw [wrap64 _ (by omega) (by omega)]; omega)) (map_at hx13) rfl ?_
        refine k_RSide (x := x31.1) (y := x31.2) (z := x13.1) (t := x13.2) (u := x) (v := y) (by omega) (by omega) (by omega) (by omega) (by omega) (by omega) (fun n46 hk_46_1 => ?_)
        refine ⟨by kernel_rfl, ?_⟩
        refine ⟨fun e4 => ?_, fun e4 => ?_⟩
        · have f48 : 0 ≤ (x13.1.q - x31.1.q) * (y.q - x31.2.q) - (x13.2.q - x31.2.q) * (x.q - x31.1.q) := (sg0_ge hk_46_1).1 (of_decide_eq_true e4)
          refine Eq.trans (b := bool true) ?_ rfl
          rw [innP_t ⟨i, by omega, by omega, by rw [hpx13, hpx18]; exact f23, by rw [hpx18, hpx31]; exact f37, by rw [hpx31, hpx13]; exact f48⟩]
        · have f48 : ¬ (0 ≤ (x13.1.q - x31.1.q) * (y.q - x31.2.q) - (x13.2.q - x31.2.q) * (x.q - x31.1.q)) := fun hh => of_decide_eq_false e4 ((sg0_ge hk_46_1).2 hh)
          have hno : ¬ poly.InTri (pts l) (x.q, y.q) i := by
            intro h; have := h.2.2; rw [hpx31, hpx13] at this
            first | exact f48 (Rat.not_lt.1 fun hh => absurd hh (Rat.not_lt.2 this)) | exact absurd this f48
          refine ⟨i + 1, ⟨by omega, fun i' g1 g2 g3 => by
            by_cases e : i' = i
            · subst e; exact hno
            · exact h1 i' g1 (by omega) g3⟩, by simp only; omega, ?_⟩
          constructor <;> (repeat' (first | exact rfl | exact True.intro | apply And.intro))
          all_goals first
            | exact congrArg (fun n : Int => D.v (.int .i64 n)) (by rw [wrap64 _ (by omega) (by omega)]; omega)
            | exact congrArg (fun n : Int => D.v (.int .i64 n)) (by omega)
      · have f37 : ¬ (0 ≤ (x31.1.q - x18.1.q) * (y.q - x18.2.q) - (x31.2.q - x18.2.q) * (x.q - x18.1.q)) := fun hh => of_decide_eq_false e3 ((sg0_ge hk_34_1).2 hh)
        refine ⟨by kernel_rfl, ?_⟩
        refine ⟨fun e => absurd e (by decide), fun _ => ?_⟩
        have hno : ¬ poly.InTri (pts l) (x.q, y.q) i := by
          intro h; have := h.2.1; rw [hpx18, hpx31] at this
          first | exact f37 (Rat.not_lt.1 fun hh => absurd hh (Rat.not_lt.2 this)) | exact absurd this f37
        refine ⟨i + 1, ⟨by omega, fun i' g1 g2 g3 => by
          by_cases e : i' = i
          · subst e; exact hno
          · exact h1 i' g1 (by omega) g3⟩, by simp only; omega, ?_⟩
        constructor <;> (repeat' (first | exact rfl | exact True.intro | apply And.intro))
        all_goals first
          | exact congrArg (fun n : Int => D.v (.int .i64 n)) (by rw [wrap64 _ (by omega) (by omega)]; omega)
          | exact congrArg (fun n : Int => D.v (.int .i64 n)) (by omega)
    · have f23 : ¬ (0 ≤ (x18.1.q - x13.1.q) * (y.q - x13.2.q) - (x18.2.q - x13.2.q) * (x.q - x13.1.q)) := fun hh => of_decide_eq_false e2 ((sg0_ge hk_21_1).2 hh)
      refine ⟨by kernel_rfl, ?_⟩
      refine ⟨fun e => absurd e (by decide), fun _ => ?_⟩
      have hno : ¬ poly.InTri (pts l) (x.q, y.q) i := by
        intro h; have := h.1; rw [hpx13, hpx18] at this
        first | exact f23 (Rat.not_lt.1 fun hh => absurd hh (Rat.not_lt.2 this)) | exact absurd this f23
      refine ⟨i + 1, ⟨by omega, fun i' g1 g2 g3 => by
        by_cases e : i' = i
        · subst e; exact hno
        · exact h1 i' g1 (by omega) g3⟩, by simp only; omega, ?_⟩
      constructor <;> (repeat' (first | exact rfl | exact True.intro | apply And.intro))
      all_goals first
        | exact congrArg (fun n : Int => D.v (.int .i64 n)) (by rw [wrap64 _ (by omega) (by omega)]; omega)
        | exact congrArg (fun n : Int => D.v (.int .i64 n)) (by omega)
  · have f9 : ¬ ((i : Int) < ((List.map rdv l).length : Int)) := of_decide_eq_false e1
    refine Eq.trans (b := bool false) ?_ rfl
    rw [innP_f fun ⟨i', g1, g2, g3⟩ => h1 i' g1 (by omega) g2 g3]
theorem k_RInner {l : List (RV × RV)} (hl : ∀ p, p ∈ l → p.1.z ≤ 67108864 ∧ p.2.z ≤ 67108864) (hn : l.length ≤ 1073741824) {x y : RV} (hx : x.z ≤ 67108864) (hy : y.z ≤ 67108864) (k : ∀ b, b = innP l x y → K (bool b)) : Ask 31 [vecs l, pair x y] K := use (RInner_spec l x y hl hn hx hy) rfl (k _ rfl)
end
end Go.Proofs.YtdhpmdkfmgpcmaaDoor.eng

/- Contracts: areas, supports and boxes of polygons. Printed by wip/gp_polyb.py. -/
namespace Go.Proofs.YtdhpmdkfmgpcmaaDoor.eng
open Go.RowKit num mem seg q held ratA ratB ratC ratD ratE vars ratF
section
variable {K : AV → Prop}
theorem rlt {a b c : Rat} (h : a ≤ b) (g : b < c) : a < c := Rat.not_le.1 fun hh => absurd g (Rat.not_lt.2 (Rat.le_trans hh h))
theorem pts_z {l : List (RV × RV)} (hl : ∀ p, p ∈ l → p.1.z ≤ 67108864 ∧ p.2.z ≤ 67108864) (i : Nat) : qs (pts l i).1 ≤ 67108865 ∧ qs (pts l i).2 ≤ 67108865 := by
  unfold pts
  cases h : l[i]? with
  | none => simp only [Option.getD_none, z0q]; exact ⟨by decide +kernel, by decide +kernel⟩
  | some p =>
    simp only [Option.getD_some]
    have := hl p (List.mem_of_getElem? h)
    have a := p.1.z1; have b := p.2.z1
    omega
theorem qs_sumTo {f : Nat → Rat} {B : Nat} (h : ∀ i, qs (f i) ≤ B) : ∀ n, qs (poly.sumTo f n) ≤ n * (B + 1) + 8
  | 0 => by show qs (0 : Rat) ≤ _; have : qs (0 : Rat) ≤ 8 := by decide +kernel
            omega
  | n + 1 => by
    have := qs_sumTo h n; have := h n; have := qs_add (poly.sumTo f n) (f n)
    show qs (poly.sumTo f n + f n) ≤ _
    rw [Nat.add_mul]; omega
theorem qs_ori {a b c : poly.Pt} {B : Nat} (ha : qs a.1 ≤ B ∧ qs a.2 ≤ B) (hb : qs b.1 ≤ B ∧ qs b.2 ≤ B) (hc : qs c.1 ≤ B ∧ qs c.2 ≤ B) : qs (poly.ori a b c) ≤ 8 * B + 8 := by
  unfold poly.ori
  have := qs_sub b.1 a.1; have := qs_sub c.2 a.2; have := qs_sub b.2 a.2; have := qs_sub c.1 a.1
  have := qs_mul (b.1 - a.1) (c.2 - a.2); have := qs_mul (b.2 - a.2) (c.1 - a.1)
  have := qs_sub ((b.1 - a.1) * (c.2 - a.2)) ((b.2 - a.2) * (c.1 - a.1))
  omega
theorem qs_cr {a b : poly.Pt} {B : Nat} (ha : qs a.1 ≤ B ∧ qs a.2 ≤ B) (hb : qs b.1 ≤ B ∧ qs b.2 ≤ B) : qs (poly.cr a b) ≤ 4 * B + 4 := by
  unfold poly.cr
  have := qs_mul a.1 b.2; have := qs_mul a.2 b.1; have := qs_sub (a.1 * b.2) (a.2 * b.1)
  omega
open Classical in
noncomputable def areaQ (l : List (RV × RV)) : Rat := if convE 64 l = 0 then ((1 : Int) : Rat) / ((2 : Int) : Rat) * poly.ringSum (pts l) l.length else 0
set_option maxRecDepth 100000 in
theorem pArea_spec (l : List (RV × RV)) (hl : ∀ p, p ∈ l → p.1.z ≤ 67108864 ∧ p.2.z ≤ 67108864) (hn : l.length ≤ 1073741824) : Spec Tryd.prog Tab 26 [.val (.one (.d (.list (List.map rdv l))))] (rat (cn (areaQ l))) := by
  have hL : (List.map rdv l).length = l.length := List.length_map ..
  refine fn_spec Tryd.func26 rfl rfl Tryd.ntmps26 rfl (by kernel_rfl) rfl rfl ?_
  refine k_of (0) (by omega) (by omega) fun q8 h8 z8 => ?_
  simp only [cn_z] at z8
  refine k_Convex (l := l) (by assumption) (by omega) (fun n10 hk_10_1 => ?_)
  refine ⟨fun e1 => ?_, fun e1 => ?_⟩
  · have f11 : n10 ≠ 0 := bne_t e1
    refine Eq.trans (b := rat (cn q8)) ?_ rfl
    rw [h8, areaQ, if_neg (by omega)]; rfl
  · have f11 : ¬ (n10 ≠ 0) := fun hh => hh (bne_f e1)
    have hc : convE 64 l = 0 := by omega
    obtain ⟨c1, c2, _⟩ := convE_ok.1 hc
    obtain rfl : q8 = 0 := by rw [h8]; rfl
    refine ⟨Nat, fun i => [(0, .val (.one (.d (.list (List.map rdv l))))), (2, .val (.one (.ptr 2 0))), (3, .val (.one (.ptr 3 0))), (13, .val (.one (.d (.list (List.map rdv l))))), (14, int ((List.map rdv l).length : Int)), (15, int (i : Int))],
      fun i => [(2, .var 23 [.d (.v (.bool z0.s)), .d (.v (.string z0.a)), .d (.v (.string z0.d))]), (3, .var 23 [.d (.v (.bool (cn (poly.sumTo (fun i => poly.cr (pts l i) (pts l ((i + 1) % l.length))) i)).s)), .d (.v (.string (cn (poly.sumTo (fun i => poly.cr (pts l i) (pts l ((i + 1) % l.length))) i)).a)), .d (.v (.string (cn (poly.sumTo (fun i => poly.cr (pts l i) (pts l ((i + 1) % l.length))) i)).d))])], fun i => i ≤ l.length, fun i => l.length - i, 0, ?_, Nat.zero_le _, fun i hs => ?_⟩
    · constructor <;> (repeat' (first | exact rfl | exact True.intro | exact ⟨_, _, rfl⟩ | exact (by decide) | apply And.intro))
      all_goals first | exact congrArg (fun n : Int => D.v (.int .i64 n)) (by omega) | exact congrArg (fun n : Int => D.v (.int .i64 n)) (by rw [wrap64 _ (by omega) (by omega)]; omega) | (simp; done)
    have hq := qs_sumTo (f := (fun i => poly.cr (pts l i) (pts l ((i + 1) % l.length)))) (B := 268435464) (fun j => Nat.le_trans (qs_cr (pts_z hl j) (pts_z hl _)) (by decide)) i
    have hq2 : i * (268435464 + 1) ≤ 64 * (268435464 + 1) := Nat.mul_le_mul_right _ (by omega)
    refine ⟨fun e2 => ?_, fun e2 => ?_⟩
    · have f16 : (i : Int) < ((List.map rdv l).length : Int) := of_decide_eq_true e2
      obtain ⟨x18, hx18⟩ : ∃ vv, l[i]? = some vv := ⟨_, List.getElem?_eq_getElem (by first | omega | exact Nat.mod_lt _ (by omega))⟩
      have hzx18 := hl x18 (List.mem_of_getElem? hx18)
      have hpx18 := pts_at hx18
      refine k_ix i [D.v (.bool x18.1.s), D.v (.string x18.1.a), D.v (.string x18.1.d), D.v (.bool x18.2.s), D.v (.string x18.2.a), D.v (.string x18.2.d)] (by first | rfl | omega | (rw [wrap64 _ (by omega) (by omega)]; omega)) (map_at hx18) rfl ?_
      refine k_remW (i + 1) l.length (by first | rfl | omega | (rw [wrap64 _ (by omega) (by omega)]; omega)) (by first | rfl | omega | (rw [wrap64 _ (by omega) (by omega)]; omega)) (by omega) ?_
      obtain ⟨x28, hx28⟩ : ∃ vv, l[((i + 1) % l.length)]? = some vv := ⟨_, List.getElem?_eq_getElem (by first | omega | exact Nat.mod_lt _ (by omega))⟩
      have hzx28 := hl x28 (List.mem_of_getElem? hx28)
      have hpx28 := pts_at hx28
      refine k_ix ((i + 1) % l.length) [D.v (.bool x28.1.s), D.v (.string x28.1.a), D.v (.string x28.1.d), D.v (.bool x28.2.s), D.v (.string x28.2.a), D.v (.string x28.2.d)] (by first | rfl | omega | (rw [wrap64 _ (by omega) (by omega)]; omega)) (map_at hx28) rfl ?_
      refine k_vCross (x := x18.1) (y := x18.2) (z := x28.1) (t := x28.2) (by omega) (by omega) (by omega) (by omega) (fun q30 hk_30_1 hk_30_2 => ?_)
      simp only [cn_z] at hk_30_2
      refine k_add (x := cn (poly.sumTo (fun i => poly.cr (pts l i) (pts l ((i + 1) % l.length))) i)) (y := cn q30) (by simp only [cn_z]; omega) (by simp only [cn_z]; omega) fun q31 h31 z31 => ?_
      simp only [cn_z] at z31
      simp only [cn_q] at h31
      refine ⟨by kernel_rfl, ?_⟩
      obtain rfl : q31 = poly.sumTo (fun i => poly.cr (pts l i) (pts l ((i + 1) % l.length))) (i + 1) := by
        rw [h31, hk_30_1]; show _ = poly.sumTo (fun i => poly.cr (pts l i) (pts l ((i + 1) % l.length))) i + poly.cr (pts l i) (pts l ((i + 1) % l.length)); rw [hpx18, hpx28]; rfl
      refine ⟨i + 1, by omega, by simp only; omega, ?_⟩
      constructor <;> (repeat' (first | exact rfl | exact True.intro | apply And.intro))
      all_goals first
        | exact congrArg (fun n : Int => D.v (.int .i64 n)) (by rw [wrap64 _ (by omega) (by omega)]; omega)
        | exact congrArg (fun n : Int => D.v (.int .i64 n)) (by omega)
    · have f16 : ¬ ((i : Int) < ((List.map rdv l).length : Int)) := of_decide_eq_false e2
      refine k_make  1 2 (by omega) (by omega) (by omega) (by omega) (by decide +kernel) (fun q34 hk_34_1 hk_34_2 => ?_)
      simp only [cn_z] at hk_34_2
      refine k_mul (x := cn q34) (y := cn (poly.sumTo (fun i => poly.cr (pts l i) (pts l ((i + 1) % l.length))) i)) (by simp only [cn_z]; omega) (by simp only [cn_z]; omega) fun q39 h39 z39 => ?_
      simp only [cn_z] at z39
      simp only [cn_q] at h39
      refine Eq.trans (b := rat (cn q39)) ?_ rfl
      rw [h39, hk_34_1, areaQ, if_pos hc, show l.length = i by omega]; rfl
theorem k_pArea {l : List (RV × RV)} (hl : ∀ p, p ∈ l → p.1.z ≤ 67108864 ∧ p.2.z ≤ 67108864) (hn : l.length ≤ 1073741824) (k : ∀ q, q = areaQ l → K (rat (cn q))) : Ask 26 [vecs l] K := use (pArea_spec l hl hn) rfl (k _ rfl)
set_option maxRecDepth 100000 in
theorem RArea_spec (l : List (RV × RV)) (hl : ∀ p, p ∈ l → p.1.z ≤ 67108864 ∧ p.2.z ≤ 67108864) (hn : l.length ≤ 64) : Spec Tryd.prog Tab 32 [.val (.one (.d (.list (List.map rdv l))))] (rat (cn (poly.fanSum (pts l) l.length / ((2 : Int) : Rat)))) := by
  have hL : (List.map rdv l).length = l.length := List.length_map ..
  refine fn_spec Tryd.func32 rfl rfl Tryd.ntmps32 rfl (by kernel_rfl) rfl rfl ?_
  refine k_I (0) (by omega) (by omega) fun q7 h7 z7 => ?_
  simp only [cn_z] at z7
  obtain rfl : q7 = 0 := by rw [h7]; rfl
  refine ⟨Nat, fun j => [(0, .val (.one (.d (.list (List.map rdv l))))), (2, .val (.one (.ptr 2 0))), (3, .val (.one (.ptr 3 0))), (4, int ((j + 2 : Nat) : Int))],
    fun j => [(2, .var 23 [.d (.v (.bool z0.s)), .d (.v (.string z0.a)), .d (.v (.string z0.d))]), (3, .var 23 [.d (.v (.bool (cn (poly.sumTo (poly.fanF (pts l)) j)).s)), .d (.v (.string (cn (poly.sumTo (poly.fanF (pts l)) j)).a)), .d (.v (.string (cn (poly.sumTo (poly.fanF (pts l)) j)).d))])], fun j => j = 0 ∨ j + 2 ≤ l.length, fun j => l.length - j, 0, ?_, .inl rfl, fun j hs => ?_⟩
  · constructor <;> (repeat' (first | exact rfl | exact True.intro | exact ⟨_, _, rfl⟩ | exact (by decide) | apply And.intro))
    all_goals first | exact congrArg (fun n : Int => D.v (.int .i64 n)) (by omega) | exact congrArg (fun n : Int => D.v (.int .i64 n)) (by rw [wrap64 _ (by omega) (by omega)]; omega) | (simp; done)
  have hq := qs_sumTo (f := poly.fanF (pts l)) (B := 536870928) (fun k => Nat.le_trans (qs_ori (pts_z hl 0) (pts_z hl (k + 1)) (pts_z hl (k + 2))) (by decide)) j
  have hq2 : j * (536870928 + 1) ≤ 64 * (536870928 + 1) := Nat.mul_le_mul_right _ (by omega)
  refine ⟨fun e1 => ?_, fun e1 => ?_⟩
  · have f11 : ((j + 2 : Nat) : Int) < ((List.map rdv l).length : Int) := of_decide_eq_true e1
    obtain ⟨x16, hx16⟩ : ∃ vv, l[0]? = some vv := ⟨_, List.getElem?_eq_getElem (by first | omega | exact Nat.mod_lt _ (by omega))⟩
    have hzx16 := hl x16 (List.mem_of_getElem? hx16)
    have hpx16 := pts_at hx16
    refine k_ix 0 [D.v (.bool x16.1.s), D.v (.string x16.1.a), D.v (.string x16.1.d), D.v (.bool x16.2.s), D.v (.string x16.2.a), D.v (.string x16.2.d)] (by first | rfl | omega | (rw [wrap64 _ (by omega) (by omega)]; omega)) (map_at hx16) rfl ?_
    obtain ⟨x21, hx21⟩ : ∃ vv, l[((j + 2) - 1)]? = some vv := ⟨_, List.getElem?_eq_getElem (by first | omega | exact Nat.mod_lt _ (by omega))⟩
    have hzx21 := hl x21 (List.mem_of_getElem? hx21)
    have hpx21 := pts_at hx21
    refine k_ix ((j + 2) - 1) [D.v (.bool x21.1.s), D.v (.string x21.1.a), D.v (.string x21.1.d), D.v (.bool x21.2.s), D.v (.string x21.2.a), D.v (.string x21.2.d)] (by first | rfl | omega | (rw [wrap64 _ (by omega) (by omega)]; omega)) (map_at hx21) rfl ?_
    refine k_RV (x := x16.1) (y := x16.2) (z := x21.1) (t := x21.2) (by omega) (by omega) (by omega) (by omega) (fun p23 q23 hk_23_2 hk_23_3 hk_23_4 hk_23_5 => ?_)
    simp only [cn_z] at hk_23_4
    simp only [cn_z] at hk_23_5
    refine k_ix 0 [D.v (.bool x16.1.s), D.v (.string x16.1.a), D.v (.string x16.1.d), D.v (.bool x16.2.s), D.v (.string x16.2.a), D.v (.string x16.2.d)] (by first | rfl | omega | (rw [wrap64 _ (by omega) (by omega)]; omega)) (map_at hx16) rfl ?_
    obtain ⟨x29, hx29⟩ : ∃ vv, l[(j + 2)]? = some vv := ⟨_, List.getElem?_eq_getElem (by first | omega | exact Nat.mod_lt _ (by omega))⟩
    have hzx29 := hl x29 (List.mem_of_getElem? hx29)
    have hpx29 := pts_at hx29
    refine k_ix (j + 2) [D.v (.bool x29.1.s), D.v (.string x29.1.a), D.v (.string x29.1.d), D.v (.bool x29.2.s), D.v (.string x29.2.a), D.v (.string x29.2.d)] (by first | rfl | omega | (rw [wrap64 _ (by omega) (by omega)]; omega)) (map_at hx29) rfl ?_
    refine k_RV (x := x16.1) (y := x16.2) (z := x29.1) (t := x29.2) (by omega) (by omega) (by omega) (by omega) (fun p31 q31 hk_31_2 hk_31_3 hk_31_4 hk_31_5 => ?_)
    simp only [cn_z] at hk_31_4
    simp only [cn_z] at hk_31_5
    refine k_RCross (x := cn p23) (y := cn q23) (z := cn p31) (t := cn q31) (by simp only [cn_z]; omega) (by simp only [cn_z]; omega) (by simp only [cn_z]; omega) (by simp only [cn_z]; omega) (fun q32 hk_32_1 hk_32_2 => ?_)
    try simp only [cn_q] at hk_32_1
    simp only [cn_z] at hk_32_2
    refine k_add (x := cn (poly.sumTo (poly.fanF (pts l)) j)) (y := cn q32) (by simp only [cn_z]; omega) (by simp only [cn_z]; omega) fun q33 h33 z33 => ?_
    simp only [cn_z] at z33
    simp only [cn_q] at h33
    refine ⟨by kernel_rfl, ?_⟩
    obtain rfl : q33 = poly.sumTo (poly.fanF (pts l)) (j + 1) := by
      rw [h33]; show _ = poly.sumTo (poly.fanF (pts l)) j + poly.ori (pts l 0) (pts l (j + 1)) (pts l (j + 2)); rw [hpx16, show pts l (j + 1) = _ from hpx21, hpx29]; subst_vars; rfl
    refine ⟨j + 1, .inr (by omega), by simp only; omega, ?_⟩
    constructor <;> (repeat' (first | exact rfl | exact True.intro | apply And.intro))
    all_goals first
      | exact congrArg (fun n : Int => D.v (.int .i64 n)) (by rw [wrap64 _ (by omega) (by omega)]; omega)
      | exact congrArg (fun n : Int => D.v (.int .i64 n)) (by omega)
  · have f11 : ¬ (((j + 2 : Nat) : Int) < ((List.map rdv l).length : Int)) := of_decide_eq_false e1
    refine k_I (2) (by omega) (by omega) fun q36 h36 z36 => ?_
    simp only [cn_z] at z36
    refine k_div (x := cn (poly.sumTo (poly.fanF (pts l)) j)) (y := cn q36) (by simp only [cn_z]; omega) (by simp only [cn_z]; omega) (by rw [cn_q, h36]; decide +kernel) fun q37 h37 z37 => ?_
    simp only [cn_z] at z37
    simp only [cn_q] at h37
    refine ⟨by kernel_rfl, ?_⟩
    refine Eq.trans (b := rat (cn q37)) ?_ rfl
    subst_vars; unfold poly.fanSum; rw [show l.length - 2 = j by omega]
theorem k_RArea {l : List (RV × RV)} (hl : ∀ p, p ∈ l → p.1.z ≤ 67108864 ∧ p.2.z ≤ 67108864) (hn : l.length ≤ 64) (k : ∀ q, q = poly.fanSum (pts l) l.length / ((2 : Int) : Rat) → K (rat (cn q))) : Ask 32 [vecs l] K := use (RArea_spec l hl hn) rfl (k _ rfl)
theorem area_same {l : List (RV × RV)} (h : convE 64 l = 0) : areaQ l = poly.fanSum (pts l) l.length / ((2 : Int) : Rat) := by
  obtain ⟨_, h2, _⟩ := convE_ok.1 h
  rw [areaQ, if_pos h, poly.area_eq (by omega)]
  generalize poly.ringSum (pts l) l.length = s
  have : ((2 : Int) : Rat) ≠ 0 := by decide +kernel
  rw [show ((1 : Int) : Rat) = 1 from rfl]; grind
/-- the products with a direction -/
def dotF (l : List (RV × RV)) (x y : RV) (j : Nat) : Rat := (pts l j).1 * x.q + (pts l j).2 * y.q
theorem dotF_at {l : List (RV × RV)} {x y : RV} {j : Nat} {p : RV × RV} (h : l[j]? = some p) : dotF l x y j = p.1.q * x.q + p.2.q * y.q := by rw [dotF, pts_at h]
open Classical in
noncomputable def supI (l : List (RV × RV)) (x y : RV) : Int := if h : convE 64 l = 0 ∧ ∃ b, poly.First (dotF l x y) l.length b then ((Classical.choose h.2 : Nat) : Int) else -1
theorem supI_is {l : List (RV × RV)} {x y : RV} {b : Nat} (hc : convE 64 l = 0) (h : poly.First (dotF l x y) l.length b) : supI l x y = (b : Int) := by
  have e : convE 64 l = 0 ∧ ∃ b, poly.First (dotF l x y) l.length b := ⟨hc, b, h⟩
  unfold supI
  rw [dif_pos e, poly.first_unique (Classical.choose_spec e.2) h]
theorem supI_no {l : List (RV × RV)} {x y : RV} (hc : convE 64 l ≠ 0) : supI l x y = -1 := by
  unfold supI; rw [dif_neg fun h => hc h.1]
set_option maxRecDepth 100000 in
theorem pSup_spec (l : List (RV × RV)) (x y : RV) (hl : ∀ p, p ∈ l → p.1.z ≤ 67108864 ∧ p.2.z ≤ 67108864) (hn : l.length ≤ 1073741824) (hx : x.z ≤ 67108864) (hy : y.z ≤ 67108864) : Spec Tryd.prog Tab 28 [.val (.one (.d (.list (List.map rdv l)))), pair x y] (int (supI l x y)) := by
  have hL : (List.map rdv l).length = l.length := List.length_map ..
  refine fn_spec Tryd.func28 rfl rfl Tryd.ntmps28 rfl (by kernel_rfl) rfl rfl ?_
  refine k_Convex (l := l) (by assumption) (by omega) (fun n9 hk_9_1 => ?_)
  refine ⟨fun e1 => ?_, fun e1 => ?_⟩
  · have f10 : n9 ≠ 0 := bne_t e1
    refine Eq.trans (b := int (-1)) ?_ rfl
    rw [supI_no (by omega)]
  · have f10 : ¬ (n9 ≠ 0) := fun hh => hh (bne_f e1)
    have hc : convE 64 l = 0 := by omega
    obtain ⟨c1, c2, _⟩ := convE_ok.1 hc
    refine ⟨Nat × Nat, fun (i, b) => [(0, .val (.one (.d (.list (List.map rdv l))))), (3, .val (.one (.ptr 3 0))), (5, int (b : Int)), (11, .val (.one (.d (.list (List.map rdv l))))), (12, int ((List.map rdv l).length : Int)), (13, int (i : Int))],
      fun (i, b) => [(3, .var 43 [.d (.v (.bool x.s)), .d (.v (.string x.a)), .d (.v (.string x.d)), .d (.v (.bool y.s)), .d (.v (.string y.a)), .d (.v (.string y.d))])], fun (i, b) => i ≤ l.length ∧ b < max i 1 ∧ (∀ j, j < i → dotF l x y j ≤ dotF l x y b) ∧ ∀ j, j < b → dotF l x y j < dotF l x y b, fun (i, b) => l.length - i, (0, 0), ?_, ⟨Nat.zero_le _, by decide, fun j h => absurd h (Nat.not_lt_zero _), fun j h => absurd h (Nat.not_lt_zero _)⟩, fun s hs => ?_⟩
    · constructor <;> (repeat' (first | exact rfl | exact True.intro | exact ⟨_, _, rfl⟩ | exact (by decide) | apply And.intro))
      all_goals first | exact congrArg (fun n : Int => D.v (.int .i64 n)) (by omega) | exact congrArg (fun n : Int => D.v (.int .i64 n)) (by rw [wrap64 _ (by omega) (by omega)]; omega) | (simp; done)
    obtain ⟨i, b⟩ := s
    obtain ⟨h1, h2, h3, h4⟩ := hs
    refine ⟨fun e2 => ?_, fun e2 => ?_⟩
    · have f14 : (i : Int) < ((List.map rdv l).length : Int) := of_decide_eq_true e2
      obtain ⟨x16, hx16⟩ : ∃ vv, l[i]? = some vv := ⟨_, List.getElem?_eq_getElem (by first | omega | exact Nat.mod_lt _ (by omega))⟩
      have hzx16 := hl x16 (List.mem_of_getElem? hx16)
      have hpx16 := pts_at hx16
      refine k_ix i [D.v (.bool x16.1.s), D.v (.string x16.1.a), D.v (.string x16.1.d), D.v (.bool x16.2.s), D.v (.string x16.2.a), D.v (.string x16.2.d)] (by first | rfl | omega | (rw [wrap64 _ (by omega) (by omega)]; omega)) (map_at hx16) rfl ?_
      refine k_vDot (x := x16.1) (y := x16.2) (z := x) (t := y) (by omega) (by omega) (by omega) (by omega) (fun q20 hk_20_1 hk_20_2 => ?_)
      simp only [cn_z] at hk_20_2
      obtain ⟨x23, hx23⟩ : ∃ vv, l[b]? = some vv := ⟨_, List.getElem?_eq_getElem (by first | omega | exact Nat.mod_lt _ (by omega))⟩
      have hzx23 := hl x23 (List.mem_of_getElem? hx23)
      have hpx23 := pts_at hx23
      refine k_ix b [D.v (.bool x23.1.s), D.v (.string x23.1.a), D.v (.string x23.1.d), D.v (.bool x23.2.s), D.v (.string x23.2.a), D.v (.string x23.2.d)] (by first | rfl | omega | (rw [wrap64 _ (by omega) (by omega)]; omega)) (map_at hx23) rfl ?_
      refine k_vDot (x := x23.1) (y := x23.2) (z := x) (t := y) (by omega) (by omega) (by omega) (by omega) (fun q26 hk_26_1 hk_26_2 => ?_)
      simp only [cn_z] at hk_26_2
      refine k_cmp (x := cn q20) (y := cn q26) (by simp only [cn_z]; omega) (by simp only [cn_z]; omega) fun n27 h27 => ?_
      simp only [cn_q] at h27
      refine ⟨by kernel_rfl, ?_⟩
      refine ⟨fun e3 => ?_, fun e3 => ?_⟩
      · have f28 : q26 < q20 := (cq_gt h27).1 (of_decide_eq_true e3)
        have hgt : dotF l x y b < dotF l x y i := by rw [dotF_at hx23, dotF_at hx16, ← hk_26_1, ← hk_20_1]; exact f28
        refine ⟨(i + 1, i), ⟨by omega, by omega, fun j hj => by
          by_cases e : j = i
          · subst e; exact Rat.le_refl
          · exact Rat.le_trans (h3 j (by omega)) (Rat.le_of_lt hgt), fun j hj => by have := h3 j (by omega); exact rlt this hgt⟩, by simp only; omega, ?_⟩
        constructor <;> (repeat' (first | exact rfl | exact True.intro | apply And.intro))
        all_goals first
          | exact congrArg (fun n : Int => D.v (.int .i64 n)) (by rw [wrap64 _ (by omega) (by omega)]; omega)
          | exact congrArg (fun n : Int => D.v (.int .i64 n)) (by omega)
      · have f28 : ¬ (q26 < q20) := fun hh => of_decide_eq_false e3 ((cq_gt h27).2 hh)
        have hle : dotF l x y i ≤ dotF l x y b := by rw [dotF_at hx23, dotF_at hx16, ← hk_26_1, ← hk_20_1]; exact Rat.not_lt.1 f28
        refine ⟨(i + 1, b), ⟨by omega, by omega, fun j hj => by
          by_cases e : j = i
          · subst e; exact hle
          · exact h3 j (by omega), h4⟩, by simp only; omega, ?_⟩
        constructor <;> (repeat' (first | exact rfl | exact True.intro | apply And.intro))
        all_goals first
          | exact congrArg (fun n : Int => D.v (.int .i64 n)) (by rw [wrap64 _ (by omega) (by omega)]; omega)
          | exact congrArg (fun n : Int => D.v (.int .i64 n)) (by omega)
    · have f14 : ¬ ((i : Int) < ((List.map rdv l).length : Int)) := of_decide_eq_false e2
      refine Eq.trans (b := int (b : Int)) ?_ rfl
      rw [supI_is hc ⟨by omega, fun j hj => h3 j (by omega), h4⟩]
theorem k_pSup {l : List (RV × RV)} (hl : ∀ p, p ∈ l → p.1.z ≤ 67108864 ∧ p.2.z ≤ 67108864) (hn : l.length ≤ 1073741824) {x y : RV} (hx : x.z ≤ 67108864) (hy : y.z ≤ 67108864) (k : ∀ n, n = supI l x y → K (int n)) : Ask 28 [vecs l, pair x y] K := use (pSup_spec l x y hl hn hx hy) rfl (k _ rfl)
end
end Go.Proofs.YtdhpmdkfmgpcmaaDoor.eng

/- Contracts: boxes of polygons, squares; the law PolyChecks. Printed by wip/gp_polyb.py. -/
namespace Go.Proofs.YtdhpmdkfmgpcmaaDoor.eng
open Go.RowKit num mem seg q held ratA ratB ratC ratD ratE vars ratF
section
variable {K : AV → Prop}
theorem lowF_min (m a : Rat) : lowF m a = minQ m a := by
  unfold lowF minQ
  by_cases h : a < m
  · rw [if_pos h, if_neg (Rat.not_le.2 h)]
  · rw [if_neg h, if_pos (Rat.not_lt.1 h)]
theorem highF_max (m a : Rat) : highF m a = maxQ m a := by
  unfold highF maxQ
  by_cases h : m < a
  · rw [if_pos h, if_neg (Rat.not_le.2 h)]
  · rw [if_neg h, if_pos (Rat.not_lt.1 h)]
theorem lowL_snoc (q a : Rat) (l : List Rat) : lowL q (l ++ [a]) = minQ (lowL q l) a := by unfold lowL; rw [List.foldl_append, ← lowF_min]; rfl
theorem highL_snoc (q a : Rat) (l : List Rat) : highL q (l ++ [a]) = maxQ (highL q l) a := by unfold highL; rw [List.foldl_append, ← highF_max]; rfl
theorem xs_snoc {l : List (RV × RV)} {i : Nat} {p : RV × RV} (h : l[i]? = some p) : xsQ (l.take (i + 1)) = xsQ (l.take i) ++ [p.1.q] ∧ ysQ (l.take (i + 1)) = ysQ (l.take i) ++ [p.2.q] := by
  rw [List.take_add_one, h]; simp [xsQ, ysQ]
theorem qs_lowL {B : Nat} {l : List Rat} : ∀ {q : Rat}, qs q ≤ B → (∀ a, a ∈ l → qs a ≤ B) → qs (lowL q l) ≤ B := by
  induction l with
  | nil => intro q h _; exact h
  | cons a l ih =>
    intro q h h2
    show qs (lowL (lowF q a) l) ≤ B
    exact ih (by unfold lowF; split; exact h2 a (by simp); exact h) fun b hb => h2 b (by simp [hb])
theorem qs_highL {B : Nat} {l : List Rat} : ∀ {q : Rat}, qs q ≤ B → (∀ a, a ∈ l → qs a ≤ B) → qs (highL q l) ≤ B := by
  induction l with
  | nil => intro q h _; exact h
  | cons a l ih =>
    intro q h h2
    show qs (highL (highF q a) l) ≤ B
    exact ih (by unfold highF; split; exact h2 a (by simp); exact h) fun b hb => h2 b (by simp [hb])
theorem xs_z {l : List (RV × RV)} {B : Nat} (hl : ∀ p, p ∈ l → p.1.z ≤ B ∧ p.2.z ≤ B) (i : Nat) : (∀ a, a ∈ xsQ (l.take i) → qs a ≤ B + 1) ∧ ∀ a, a ∈ ysQ (l.take i) → qs a ≤ B + 1 := by
  constructor <;> intro a ha <;> obtain ⟨p, hp, rfl⟩ := List.mem_map.1 ha <;> have := hl p (List.mem_of_mem_take hp)
  · have := p.1.z1; omega
  · have := p.2.z1; omega
set_option maxRecDepth 100000 in
theorem pBox0_spec  : Spec Tryd.prog Tab 23 [.val (.one (.d (.list (List.map rdv ([] : List (RV × RV))))))] (box (cn 0) (cn 0) (cn 0) (cn 0)) := by
  have h0 := z0q
  refine fn_spec Tryd.func23 rfl rfl Tryd.ntmps23 rfl (by kernel_rfl) rfl rfl ?_
  refine k_vAdd (x := z0) (y := z0) (z := z0) (t := z0) (by simp only [z0z]; omega) (by simp only [z0z]; omega) (by simp only [z0z]; omega) (by simp only [z0z]; omega) (fun p10 q10 hk_10_2 hk_10_3 hk_10_4 hk_10_5 => ?_)
  simp only [cn_z, z0z] at hk_10_4
  simp only [cn_z, z0z] at hk_10_5
  refine ⟨fun e1 => ?_, fun e1 => ?_⟩
  · have f13 : ((List.map rdv ([] : List (RV × RV))).length : Int) = 0 := beq_t e1
    refine Eq.trans (b := box (cn p10) (cn q10) (cn p10) (cn q10)) ?_ rfl
    obtain rfl : p10 = 0 := by rw [hk_10_2, z0q, Rat.add_zero]
    obtain rfl : q10 = 0 := by rw [hk_10_3, z0q, Rat.add_zero]
    rfl
  · have f13 : ¬ (((List.map rdv ([] : List (RV × RV))).length : Int) = 0) := beq_f e1
    exfalso
    exact f13 rfl
theorem k_pBox0 {l : List (RV × RV)} (h : l = []) (k : K (box (cn 0) (cn 0) (cn 0) (cn 0))) : Ask 23 [vecs l] K := by subst h; exact use pBox0_spec rfl k
set_option maxHeartbeats 1000000 in
set_option maxRecDepth 100000 in
theorem pBox_spec (p0 : RV × RV) (l : List (RV × RV)) (hl : ∀ p, p ∈ p0 :: l → p.1.z ≤ 67108864 ∧ p.2.z ≤ 67108864) (hn : (p0 :: l).length ≤ 1073741824) : Spec Tryd.prog Tab 23 [.val (.one (.d (.list (List.map rdv (p0 :: l)))))] (box (cn (lowL p0.1.q (xsQ l))) (cn (lowL p0.2.q (ysQ l))) (cn (highL p0.1.q (xsQ l))) (cn (highL p0.2.q (ysQ l)))) := by
  have hL : (List.map rdv l).length = l.length := List.length_map ..
  have hL0 : (List.map rdv (p0 :: l)).length = l.length + 1 := by simp
  have hn0 : (p0 :: l).length = l.length + 1 := rfl
  have hp00 := hl p0 (by simp)
  refine fn_spec Tryd.func23 rfl rfl Tryd.ntmps23 rfl (by kernel_rfl) rfl rfl ?_
  refine k_vAdd (x := z0) (y := z0) (z := z0) (t := z0) (by simp only [z0z]; omega) (by simp only [z0z]; omega) (by simp only [z0z]; omega) (by simp only [z0z]; omega) (fun p10 q10 hk_10_2 hk_10_3 hk_10_4 hk_10_5 => ?_)
  simp only [cn_z, z0z] at hk_10_4
  simp only [cn_z, z0z] at hk_10_5
  refine ⟨fun e1 => ?_, fun e1 => ?_⟩
  · have f13 : ((List.map rdv (p0 :: l)).length : Int) = 0 := beq_t e1
    exfalso
    omega
  · have f13 : ¬ (((List.map rdv (p0 :: l)).length : Int) = 0) := beq_f e1
    refine k_ix 0 [D.v (.bool p0.1.s), D.v (.string p0.1.a), D.v (.string p0.1.d), D.v (.bool p0.2.s), D.v (.string p0.2.a), D.v (.string p0.2.d)] (by first | rfl | omega | (rw [wrap64 _ (by omega) (by omega)]; omega)) (map_at rfl) rfl ?_
    refine k_vAdd (x := p0.1) (y := p0.2) (z := cn p10) (t := cn q10) (by omega) (by omega) (by simp only [cn_z]; omega) (by simp only [cn_z]; omega) (fun p21 q21 hk_21_2 hk_21_3 hk_21_4 hk_21_5 => ?_)
    try simp only [cn_q] at hk_21_2
    try simp only [cn_q] at hk_21_3
    simp only [cn_z] at hk_21_4
    simp only [cn_z] at hk_21_5
    refine ⟨by kernel_rfl, ?_⟩
    refine k_drop 1 (List.map rdv l) (by first | omega | (simp; omega) | simp) (by first | rfl | omega | (rw [wrap64 _ (by omega) (by omega)]; omega)) (map_rows fun _ => rfl) (rfl) ?_
    have hz0 : p10 = 0 ∧ q10 = 0 := by rw [hk_10_2, hk_10_3, z0q, Rat.add_zero]; exact ⟨rfl, rfl⟩
    obtain rfl : p21 = p0.1.q := by rw [hk_21_2, hz0.1, Rat.add_zero]
    obtain rfl : q21 = p0.2.q := by rw [hk_21_3, hz0.2, Rat.add_zero]
    refine ⟨Nat, fun i => [(2, .val (.one (.ptr 2 0))), (5, .val (.one (.ptr 5 0))), (26, .val (.one (.d (.list (List.map rdv l))))), (27, int ((List.map rdv l).length : Int)), (28, int (i : Int))],
      fun i => [(2, .var 48 [.d (.v (.bool z0.s)), .d (.v (.string z0.a)), .d (.v (.string z0.d)), .d (.v (.bool z0.s)), .d (.v (.string z0.a)), .d (.v (.string z0.d)), .d (.v (.bool z0.s)), .d (.v (.string z0.a)), .d (.v (.string z0.d)), .d (.v (.bool z0.s)), .d (.v (.string z0.a)), .d (.v (.string z0.d))]), (5, .var 48 [.d (.v (.bool (cn (lowL p0.1.q (xsQ (l.take i)))).s)), .d (.v (.string (cn (lowL p0.1.q (xsQ (l.take i)))).a)), .d (.v (.string (cn (lowL p0.1.q (xsQ (l.take i)))).d)), .d (.v (.bool (cn (lowL p0.2.q (ysQ (l.take i)))).s)), .d (.v (.string (cn (lowL p0.2.q (ysQ (l.take i)))).a)), .d (.v (.string (cn (lowL p0.2.q (ysQ (l.take i)))).d)), .d (.v (.bool (cn (highL p0.1.q (xsQ (l.take i)))).s)), .d (.v (.string (cn (highL p0.1.q (xsQ (l.take i)))).a)), .d (.v (.string (cn (highL p0.1.q (xsQ (l.take i)))).d)), .d (.v (.bool (cn (highL p0.2.q (ysQ (l.take i)))).s)), .d (.v (.string (cn (highL p0.2.q (ysQ (l.take i)))).a)), .d (.v (.string (cn (highL p0.2.q (ysQ (l.take i)))).d))])], fun i => i ≤ l.length, fun i => l.length - i, 0, ?_, Nat.zero_le _, fun i hs => ?_⟩
    · constructor <;> (repeat' (first | exact rfl | exact True.intro | exact ⟨_, _, rfl⟩ | exact (by decide) | apply And.intro))
      all_goals first | exact congrArg (fun n : Int => D.v (.int .i64 n)) (by omega) | exact congrArg (fun n : Int => D.v (.int .i64 n)) (by rw [wrap64 _ (by omega) (by omega)]; omega) | (simp; done)
    have hz2 := xs_z (B := 67108864) (l := l) (fun p hp => hl p (by simp [hp])) i
    have hp0 := hl p0 (by simp)
    have z1 := p0.1.z1
    have z2 := p0.2.z1
    have b1 := qs_lowL (B := 67108865) (q := p0.1.q) (by omega) hz2.1
    have b2 := qs_lowL (B := 67108865) (q := p0.2.q) (by omega) hz2.2
    have b3 := qs_highL (B := 67108865) (q := p0.1.q) (by omega) hz2.1
    have b4 := qs_highL (B := 67108865) (q := p0.2.q) (by omega) hz2.2
    refine ⟨fun e2 => ?_, fun e2 => ?_⟩
    · have f29 : (i : Int) < ((List.map rdv l).length : Int) := of_decide_eq_true e2
      obtain ⟨x30, hx30⟩ : ∃ vv, l[i]? = some vv := ⟨_, List.getElem?_eq_getElem (by first | omega | exact Nat.mod_lt _ (by omega))⟩
      have hzx30 := hl x30 (List.mem_cons_of_mem _ (List.mem_of_getElem? hx30))
      refine k_ix i [D.v (.bool x30.1.s), D.v (.string x30.1.a), D.v (.string x30.1.d), D.v (.bool x30.2.s), D.v (.string x30.2.a), D.v (.string x30.2.d)] (by first | rfl | omega | (rw [wrap64 _ (by omega) (by omega)]; omega)) (map_at hx30) rfl ?_
      refine k_min (x := cn (lowL p0.1.q (xsQ (l.take i)))) (y := x30.1) (by simp only [cn_z]; omega) (by omega) fun q37 h37 z37 => ?_
      simp only [cn_z] at z37
      simp only [cn_q] at h37
      refine k_min (x := cn (lowL p0.2.q (ysQ (l.take i)))) (y := x30.2) (by simp only [cn_z]; omega) (by omega) fun q43 h43 z43 => ?_
      simp only [cn_z] at z43
      simp only [cn_q] at h43
      refine ⟨by kernel_rfl, ?_⟩
      refine k_max (x := cn (highL p0.1.q (xsQ (l.take i)))) (y := x30.1) (by simp only [cn_z]; omega) (by omega) fun q51 h51 z51 => ?_
      simp only [cn_z] at z51
      simp only [cn_q] at h51
      refine k_max (x := cn (highL p0.2.q (ysQ (l.take i)))) (y := x30.2) (by simp only [cn_z]; omega) (by omega) fun q57 h57 z57 => ?_
      simp only [cn_z] at z57
      simp only [cn_q] at h57
      refine ⟨by kernel_rfl, ?_⟩
      have hxs := xs_snoc hx30
      obtain rfl : q37 = lowL p0.1.q (xsQ (l.take (i + 1))) := by rw [h37, hxs.1, lowL_snoc]
      obtain rfl : q43 = lowL p0.2.q (ysQ (l.take (i + 1))) := by rw [h43, hxs.2, lowL_snoc]
      obtain rfl : q51 = highL p0.1.q (xsQ (l.take (i + 1))) := by rw [h51, hxs.1, highL_snoc]
      obtain rfl : q57 = highL p0.2.q (ysQ (l.take (i + 1))) := by rw [h57, hxs.2, highL_snoc]
      refine ⟨i + 1, by omega, by simp only; omega, ?_⟩
      constructor <;> (repeat' (first | exact rfl | exact True.intro | apply And.intro))
      all_goals first
        | exact congrArg (fun n : Int => D.v (.int .i64 n)) (by rw [wrap64 _ (by omega) (by omega)]; omega)
        | exact congrArg (fun n : Int => D.v (.int .i64 n)) (by omega)
    · have f29 : ¬ ((i : Int) < ((List.map rdv l).length : Int)) := of_decide_eq_false e2
      refine Eq.trans (b := box (cn (lowL p0.1.q (xsQ (l.take i)))) (cn (lowL p0.2.q (ysQ (l.take i)))) (cn (highL p0.1.q (xsQ (l.take i)))) (cn (highL p0.2.q (ysQ (l.take i))))) ?_ rfl
      rw [List.take_of_length_le (show l.length ≤ i by omega)]
theorem k_pBox {p0 : RV × RV} {l : List (RV × RV)} (hl : ∀ p, p ∈ p0 :: l → p.1.z ≤ 67108864 ∧ p.2.z ≤ 67108864) (hn : (p0 :: l).length ≤ 1073741824) (k : ∀ p q r u, p = lowL p0.1.q (xsQ l) → q = lowL p0.2.q (ysQ l) → r = highL p0.1.q (xsQ l) → u = highL p0.2.q (ysQ l) → K (box (cn p) (cn q) (cn r) (cn u))) : Ask 23 [vecs (p0 :: l)] K := use (pBox_spec p0 l hl hn) rfl (k _ _ _ _ rfl rfl rfl rfl)
def bx1 : List (RV × RV) → Rat
  | [] => 0
  | p :: l => lowL p.1.q (xsQ l)
def bx2 : List (RV × RV) → Rat
  | [] => 0
  | p :: l => lowL p.2.q (ysQ l)
def bx3 : List (RV × RV) → Rat
  | [] => 0
  | p :: l => highL p.1.q (xsQ l)
def bx4 : List (RV × RV) → Rat
  | [] => 0
  | p :: l => highL p.2.q (ysQ l)
theorem k_pBoxA {l : List (RV × RV)} (hl : ∀ p, p ∈ l → p.1.z ≤ 67108864 ∧ p.2.z ≤ 67108864) (hn : l.length ≤ 1073741824) (k : ∀ p q r u, p = bx1 l → q = bx2 l → r = bx3 l → u = bx4 l → K (box (cn p) (cn q) (cn r) (cn u))) : Ask 23 [vecs l] K := by
  cases l with
  | nil => exact k_pBox0 rfl (k _ _ _ _ rfl rfl rfl rfl)
  | cons p l => exact k_pBox hl hn k
set_option maxRecDepth 100000 in
theorem RBound0_spec  : Spec Tryd.prog Tab 24 [.val (.one (.d (.list (List.map rdv ([] : List (RV × RV))))))] (box (cn 0) (cn 0) (cn 0) (cn 0)) := by
  refine fn_spec Tryd.func24 rfl rfl Tryd.ntmps24 rfl (by kernel_rfl) rfl rfl ?_
  refine ⟨fun e1 => ?_, fun e1 => ?_⟩
  · have f12 : ((List.map rdv ([] : List (RV × RV))).length : Int) = 0 := beq_t e1
    refine k_I (0) (by omega) (by omega) fun q13 h13 z13 => ?_
    simp only [cn_z] at z13
    refine k_I (0) (by omega) (by omega) fun q14 h14 z14 => ?_
    simp only [cn_z] at z14
    refine Eq.trans (b := box (cn q13) (cn q14) (cn q13) (cn q14)) ?_ rfl
    subst_vars; rfl
  · have f12 : ¬ (((List.map rdv ([] : List (RV × RV))).length : Int) = 0) := beq_f e1
    exfalso
    exact f12 rfl
theorem k_RBoundA {l : List (RV × RV)} (hl : ∀ p, p ∈ l → p.1.z ≤ 67108864 ∧ p.2.z ≤ 67108864) (hn : l.length ≤ 1073741824) (k : ∀ p q r u, p = bx1 l → q = bx2 l → r = bx3 l → u = bx4 l → K (box (cn p) (cn q) (cn r) (cn u))) : Ask 24 [vecs l] K := by
  cases l with
  | nil => exact use RBound0_spec rfl (k _ _ _ _ rfl rfl rfl rfl)
  | cons p l => exact use (RBound_spec p l (fun p hp => ⟨Nat.le_trans (hl p hp).1 (by decide), Nat.le_trans (hl p hp).2 (by decide)⟩) (Nat.le_of_succ_le hn)) rfl (k _ _ _ _ rfl rfl rfl rfl)
set_option maxRecDepth 100000 in
theorem sqAt_spec (n m : Int) (h1 : -9223372036854775808 ≤ n) (h2 : n ≤ 9223372036854775807) (h3 : -9223372036854775808 ≤ m) (h4 : m ≤ 9223372036854775807) : Spec Tryd.prog Tab 155 [int n, int m] (pair (cn (n : Rat)) (cn (m : Rat))) := by
  refine fn_spec Tryd.func155 rfl rfl Tryd.ntmps155 rfl (by kernel_rfl) rfl rfl ?_
  refine k_I (n) (by omega) (by omega) fun q6 h6 z6 => ?_
  simp only [cn_z] at z6
  refine k_I (m) (by omega) (by omega) fun q8 h8 z8 => ?_
  simp only [cn_z] at z8
  refine Eq.trans (b := pair (cn q6) (cn q8)) ?_ rfl
  subst_vars; rfl
/-- corners by their values -/
def cvl (m : List (Rat × Rat)) : List (RV × RV) := m.map fun p => (cn p.1, cn p.2)
theorem cvl_len (m : List (Rat × Rat)) : (cvl m).length = m.length := by simp [cvl]
theorem cvl_pts (m : List (Rat × Rat)) : pts (cvl m) = fun i => (m[i]?).getD (0, 0) := by
  funext i
  unfold pts cvl
  rw [List.getElem?_map]
  cases m[i]? with
  | none => simp [z0q]
  | some p => simp [cn_q]
theorem edges_by {P : Nat → poly.Pt} {n : Nat} (h : ((List.range n).all fun i => (List.range n).all fun k => decide (k < 2) || decide (0 < poly.ori (P i) (P ((i + 1) % n)) (P ((i + k) % n)))) = true) : poly.Edges P n := by
  intro i k hi h2 hk
  rw [List.all_eq_true] at h
  have := h i (List.mem_range.2 hi)
  rw [List.all_eq_true] at this
  have := this k (List.mem_range.2 hk)
  simp only [Bool.or_eq_true, decide_eq_true_eq] at this
  rcases this with h3 | h3
  · omega
  · exact h3
theorem cvl_z {m : List (Rat × Rat)} {B : Nat} (h : (m.all fun p => decide (qs p.1 ≤ B) && decide (qs p.2 ≤ B)) = true) : ∀ p, p ∈ cvl m → p.1.z ≤ B ∧ p.2.z ≤ B := by
  intro p hp
  obtain ⟨q, hq, rfl⟩ := List.mem_map.1 hp
  have := List.all_eq_true.1 h q hq
  simpa [cn_z] using this
/-- a square -/
def sqL (x y s : Int) : List (Rat × Rat) := [((x : Rat), (y : Rat)), (((x + s : Int) : Rat), (y : Rat)), (((x + s : Int) : Rat), ((y + s : Int) : Rat)), ((x : Rat), ((y + s : Int) : Rat))]
set_option maxRecDepth 100000 in
theorem square_spec (x y s : Int) (hx : 0 ≤ x ∧ x ≤ 100) (hy : 0 ≤ y ∧ y ≤ 100) (hs : 0 ≤ s ∧ s ≤ 100) : Spec Tryd.prog Tab 83 [int x, int y, int s] (.val (.one (.d (.list (List.map rdv (cvl (sqL x y s))))))) := by
  have w1 : IntKind.i64.wrap (x + s) = x + s := wrap64 _ (by omega) (by omega)
  have w2 : IntKind.i64.wrap (y + s) = y + s := wrap64 _ (by omega) (by omega)
  refine fn_spec Tryd.func83 rfl rfl Tryd.ntmps83 rfl (by kernel_rfl) rfl rfl ?_
  refine use (sqAt_spec x y (by omega) (by omega) (by omega) (by omega)) rfl ?_
  refine use (sqAt_spec (IntKind.i64.wrap (x + s)) y (by omega) (by omega) (by omega) (by omega)) rfl ?_
  refine use (sqAt_spec (IntKind.i64.wrap (x + s)) (IntKind.i64.wrap (y + s)) (by omega) (by omega) (by omega) (by omega)) rfl ?_
  refine use (sqAt_spec x (IntKind.i64.wrap (y + s)) (by omega) (by omega) (by omega) (by omega)) rfl ?_
  refine Eq.trans (b := .val (.one (.d (.list ([[D.v (.bool (cn ((x : Int) : Rat)).s), D.v (.string (cn ((x : Int) : Rat)).a), D.v (.string (cn ((x : Int) : Rat)).d), D.v (.bool (cn ((y : Int) : Rat)).s), D.v (.string (cn ((y : Int) : Rat)).a), D.v (.string (cn ((y : Int) : Rat)).d)], [D.v (.bool (cn ((IntKind.i64.wrap (x + s) : Int) : Rat)).s), D.v (.string (cn ((IntKind.i64.wrap (x + s) : Int) : Rat)).a), D.v (.string (cn ((IntKind.i64.wrap (x + s) : Int) : Rat)).d), D.v (.bool (cn ((y : Int) : Rat)).s), D.v (.string (cn ((y : Int) : Rat)).a), D.v (.string (cn ((y : Int) : Rat)).d)], [D.v (.bool (cn ((IntKind.i64.wrap (x + s) : Int) : Rat)).s), D.v (.string (cn ((IntKind.i64.wrap (x + s) : Int) : Rat)).a), D.v (.string (cn ((IntKind.i64.wrap (x + s) : Int) : Rat)).d), D.v (.bool (cn ((IntKind.i64.wrap (y + s) : Int) : Rat)).s), D.v (.string (cn ((IntKind.i64.wrap (y + s) : Int) : Rat)).a), D.v (.string (cn ((IntKind.i64.wrap (y + s) : Int) : Rat)).d)], [D.v (.bool (cn ((x : Int) : Rat)).s), D.v (.string (cn ((x : Int) : Rat)).a), D.v (.string (cn ((x : Int) : Rat)).d), D.v (.bool (cn ((IntKind.i64.wrap (y + s) : Int) : Rat)).s), D.v (.string (cn ((IntKind.i64.wrap (y + s) : Int) : Rat)).a), D.v (.string (cn ((IntKind.i64.wrap (y + s) : Int) : Rat)).d)]]))))) ?_ rfl
  rw [w1, w2]; rfl
theorem sq2 : areaQ (cvl (sqL 0 0 2)) = 4 ∧ convE 64 (cvl (sqL 0 0 2)) = 0 := by
  have h : convE 64 (cvl (sqL 0 0 2)) = 0 := convE_ok.2 ⟨by decide, by decide, by rw [cvl_pts]; exact edges_by (by decide +kernel)⟩
  refine ⟨?_, h⟩
  rw [areaQ, if_pos h, cvl_pts]
  decide +kernel
set_option maxRecDepth 100000 in
theorem polyBegun_spec  : Spec Tryd.prog Tab 19 [] (bool true) := by
  refine fn_spec Tryd.func19 rfl rfl Tryd.ntmps19 rfl (by kernel_rfl) rfl rfl ?_
  refine k_ratBegun   ?_
  refine use (square_spec 0 0 2 (by decide) (by decide) (by decide)) rfl ?_
  refine k_pArea (l := cvl (sqL 0 0 2)) (cvl_z (by decide +kernel)) (by decide) (fun q4 hk_4_1 => ?_)
  refine k_I (4) (by omega) (by omega) fun q5 h5 z5 => ?_
  simp only [cn_z] at z5
  refine k_eql_rat_t (by rw [hk_4_1, h5, sq2.1]; rfl) ?_
  refine Eq.trans (b := bool true) ?_ rfl
  rfl
theorem k_polyBegun (k : K (bool true)) : Ask 19 [] K := use polyBegun_spec rfl k
end
end Go.Proofs.YtdhpmdkfmgpcmaaDoor.eng

