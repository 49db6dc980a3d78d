/- Contracts: quotients of spans, spans rounded outward; gantlaw1.SpanMuls returns true. Joined by wip/merge_tpl.py out of XEngSpan3 XLawSm. -/
import Derived.Test.YtnnffjolkgomhaaDoorEngSpan2
import Derived.Test.YtnnffjolkgomhaaDoorEngFl
namespace Go.Proofs.YtnnffjolkgomhaaDoor.eng
open Go.RowKit num mem seg q held ratA ratB ratC ratD ratE vars ratF trq
section
variable {x y z t : RV} {K : AV → Prop}
theorem lowL_prop : ∀ (l : List Rat) (q0 : Rat), (lowL q0 l = q0 ∨ lowL q0 l ∈ l) ∧ lowL q0 l ≤ q0 ∧ ∀ a, a ∈ l → lowL q0 l ≤ a
  | [], q0 => ⟨.inl rfl, Rat.le_refl, fun a h => by simp at h⟩
  | b :: l, q0 => by
    obtain ⟨h1, h2, h3⟩ := lowL_prop l (lowF q0 b)
    have e : lowL q0 (b :: l) = lowL (lowF q0 b) l := rfl
    have hf : (lowF q0 b = q0 ∧ q0 ≤ b) ∨ (lowF q0 b = b ∧ b ≤ q0) := by
      unfold lowF
      split
      · rename_i h; exact .inr ⟨rfl, Rat.le_of_lt h⟩
      · rename_i h; exact .inl ⟨rfl, Rat.not_lt.1 h⟩
    rw [e]
    refine ⟨?_, ?_, fun a ha => ?_⟩
    · rcases h1 with h1 | h1
      · rw [h1]; rcases hf with ⟨h, _⟩ | ⟨h, _⟩
        · exact .inl h
        · exact .inr (by rw [h]; exact List.mem_cons_self)
      · exact .inr (List.mem_cons_of_mem _ h1)
    · rcases hf with ⟨h, _⟩ | ⟨h, g⟩
      · rw [h] at h2; rw [h]; exact h2
      · rw [h] at h2; rw [h]; exact Rat.le_trans h2 g
    · rcases List.mem_cons.1 ha with rfl | ha
      · rcases hf with ⟨h, g⟩ | ⟨h, g⟩
        · rw [h] at h2; rw [h]; exact Rat.le_trans h2 g
        · rw [h] at h2; rw [h]; exact h2
      · exact h3 a ha
theorem highL_prop : ∀ (l : List Rat) (q0 : Rat), (highL q0 l = q0 ∨ highL q0 l ∈ l) ∧ q0 ≤ highL q0 l ∧ ∀ a, a ∈ l → a ≤ highL q0 l
  | [], q0 => ⟨.inl rfl, Rat.le_refl, fun a h => by simp at h⟩
  | b :: l, q0 => by
    obtain ⟨h1, h2, h3⟩ := highL_prop l (highF q0 b)
    have e : highL q0 (b :: l) = highL (highF q0 b) l := rfl
    have hf : (highF q0 b = q0 ∧ b ≤ q0) ∨ (highF q0 b = b ∧ q0 ≤ b) := by
      unfold highF
      split
      · rename_i h; exact .inr ⟨rfl, Rat.le_of_lt h⟩
      · rename_i h; exact .inl ⟨rfl, Rat.not_lt.1 h⟩
    rw [e]
    refine ⟨?_, ?_, fun a ha => ?_⟩
    · rcases h1 with h1 | h1
      · rw [h1]; rcases hf with ⟨h, _⟩ | ⟨h, _⟩
        · exact .inl h
        · exact .inr (by rw [h]; exact List.mem_cons_self)
      · exact .inr (List.mem_cons_of_mem _ h1)
    · rcases hf with ⟨h, _⟩ | ⟨h, g⟩
      · rw [h] at h2; rw [h]; exact h2
      · rw [h] at h2; rw [h]; exact Rat.le_trans g h2
    · rcases List.mem_cons.1 ha with rfl | ha
      · rcases hf with ⟨h, g⟩ | ⟨h, g⟩
        · rw [h] at h2; rw [h]; exact Rat.le_trans g h2
        · rw [h] at h2; rw [h]; exact h2
      · exact h3 a ha
/-- the least of the same numbers in another order -/
theorem low_perm {q0 r0 : Rat} {l m : List Rat} (h1 : ∀ a, a ∈ q0 :: l → a ∈ r0 :: m) (h2 : ∀ a, a ∈ r0 :: m → a ∈ q0 :: l) : lowL q0 l = lowL r0 m := by
  obtain ⟨a1, a2, a3⟩ := lowL_prop m r0
  have hall : ∀ a, a ∈ r0 :: m → lowL r0 m ≤ a := fun a ha => by
    rcases List.mem_cons.1 ha with rfl | ha
    · exact a2
    · exact a3 a ha
  have hmem : lowL r0 m ∈ r0 :: m := by
    rcases a1 with h | h
    · rw [h]; exact List.mem_cons_self
    · exact List.mem_cons_of_mem _ h
  have := h2 _ hmem
  refine low_is (List.mem_cons.1 this) (hall _ (h1 _ List.mem_cons_self)) fun a ha => hall _ (h1 _ (List.mem_cons_of_mem _ ha))
theorem high_perm {q0 r0 : Rat} {l m : List Rat} (h1 : ∀ a, a ∈ q0 :: l → a ∈ r0 :: m) (h2 : ∀ a, a ∈ r0 :: m → a ∈ q0 :: l) : highL q0 l = highL r0 m := by
  obtain ⟨a1, a2, a3⟩ := highL_prop m r0
  have hall : ∀ a, a ∈ r0 :: m → a ≤ highL r0 m := fun a ha => by
    rcases List.mem_cons.1 ha with rfl | ha
    · exact a2
    · exact a3 a ha
  have hmem : highL r0 m ∈ r0 :: m := by
    rcases a1 with h | h
    · rw [h]; exact List.mem_cons_self
    · exact List.mem_cons_of_mem _ h
  have := h2 _ hmem
  refine high_is (List.mem_cons.1 this) (hall _ (h1 _ List.mem_cons_self)) fun a ha => hall _ (h1 _ (List.mem_cons_of_mem _ ha))

theorem sgn_cases (q : Rat) : (q < 0 ∧ sgnQ q = -1) ∨ (q = 0 ∧ sgnQ q = 0) ∨ (0 < q ∧ sgnQ q = 1) := by
  unfold sgnQ
  by_cases h0 : q.num = 0
  · rw [if_pos h0]; exact .inr (.inl ⟨(sgn_zero q).1 h0, rfl⟩)
  · rw [if_neg h0]
    by_cases h1 : q.num < 0
    · rw [if_pos h1]; exact .inl ⟨(sgn_neg q).1 h1, rfl⟩
    · rw [if_neg h1]
      refine .inr (.inr ⟨?_, rfl⟩)
      have g1 : ¬ q < 0 := fun h => h1 ((sgn_neg q).2 h)
      have g0 : ¬ q = 0 := fun h => h0 ((sgn_zero q).2 h)
      grind
theorem sgn_mul {c d : Rat} (h : c ≤ d) : (IntKind.i64.wrap (sgnQ c * sgnQ d) ≤ 0) ↔ (c ≤ 0 ∧ 0 ≤ d) := by
  rcases sgn_cases c with ⟨h1, e1⟩ | ⟨h1, e1⟩ | ⟨h1, e1⟩ <;> rcases sgn_cases d with ⟨h2, e2⟩ | ⟨h2, e2⟩ | ⟨h2, e2⟩ <;> rw [e1, e2]
  · exact ⟨fun e => absurd e (by decide), fun ⟨_, e⟩ => absurd e (Rat.not_le.2 h2)⟩
  · exact ⟨fun _ => ⟨Rat.le_of_lt h1, by rw [h2]; exact Rat.le_refl⟩, fun _ => by decide⟩
  · exact ⟨fun _ => ⟨Rat.le_of_lt h1, Rat.le_of_lt h2⟩, fun _ => by decide⟩
  · exact ⟨fun _ => absurd h (by rw [h1]; exact Rat.not_le.2 h2), fun _ => by decide⟩
  · exact ⟨fun _ => ⟨by rw [h1]; exact Rat.le_refl, by rw [h2]; exact Rat.le_refl⟩, fun _ => by decide⟩
  · exact ⟨fun _ => ⟨by rw [h1]; exact Rat.le_refl, Rat.le_of_lt h2⟩, fun _ => by decide⟩
  · exact ⟨fun _ => absurd h (Rat.not_le.2 (by grind)), fun ⟨e, _⟩ => absurd e (Rat.not_le.2 h1)⟩
  · exact ⟨fun _ => absurd h (by rw [h2]; exact Rat.not_le.2 h1), fun ⟨e, _⟩ => absurd e (Rat.not_le.2 h1)⟩
  · exact ⟨fun e => absurd e (by decide), fun ⟨e, _⟩ => absurd e (Rat.not_le.2 h1)⟩
theorem has_iff (a b c : Rat) : hasQ a b c = true ↔ (a ≤ c ∧ c ≤ b) := by
  unfold hasQ; rw [Bool.and_eq_true, decide_eq_true_eq, decide_eq_true_eq]
theorem z_cast : ((0 : Int) : Rat) = 0 := rfl
theorem inv_le {c d : Rat} (h : c ≤ d) (hn : ¬ (c ≤ 0 ∧ 0 ≤ d)) : c ≠ 0 ∧ d ≠ 0 ∧ ((1 : Int) : Rat) / d ≤ ((1 : Int) : Rat) / c := by
  have one : ((1 : Int) : Rat) = 1 := rfl
  have hs : (0 < c ∧ 0 < d) ∨ (c < 0 ∧ d < 0) := by
    by_cases h1 : c ≤ 0
    · have h2 : d < 0 := Rat.not_le.1 (fun e => hn ⟨h1, e⟩)
      exact .inr ⟨by grind, h2⟩
    · have h1 := Rat.not_le.1 h1
      exact .inl ⟨h1, by grind⟩
  have hc : c ≠ 0 := by rcases hs with ⟨g, _⟩ | ⟨g, _⟩ <;> grind
  have hd : d ≠ 0 := by rcases hs with ⟨_, g⟩ | ⟨_, g⟩ <;> grind
  refine ⟨hc, hd, ?_⟩
  rw [one]
  have hp : 0 < c * d := by
    rcases hs with ⟨g1, g2⟩ | ⟨g1, g2⟩
    · exact Rat.mul_pos g1 g2
    · have := Rat.mul_pos (show 0 < -c by grind) (show 0 < -d by grind)
      grind
  have hi : 0 < (c * d)⁻¹ := Rat.inv_pos.2 hp
  have e1 : 1 / d = c * (c * d)⁻¹ := by grind
  have e2 : 1 / c = d * (c * d)⁻¹ := by grind
  rw [e1, e2]
  exact Rat.mul_le_mul_of_nonneg_right h (Rat.le_of_lt hi)
def dvLo (a b c d : Rat) : Rat := mulLo a b (((1 : Int) : Rat) / d) (((1 : Int) : Rat) / c)
def dvHi (a b c d : Rat) : Rat := mulHi a b (((1 : Int) : Rat) / d) (((1 : Int) : Rat) / c)
set_option maxRecDepth 100000 in
theorem sDiv0_spec (x y z t : RV) (hx : x.z ≤ 1048576) (hy : y.z ≤ 1048576) (hz : z.z ≤ 1048576) (ht : t.z ≤ 1048576) (h0 : hasQ (slo z t) (shi z t) ((0 : Int) : Rat) = true) : Spec Tryd.prog Tab 73 [pair x y, pair z t] (two (pair z0 z0) (int 12)) := by
  refine fn_spec Tryd.func73 rfl rfl Tryd.ntmps73 rfl (by kernel_rfl) rfl rfl ?_
  refine k_sFit (by omega) (by omega) fun p1 q1 e1 h1 y1 z1 => ?_
  refine k_sFit (by omega) (by omega) fun p2 q2 e2 h2 y2 z2 => ?_
  refine ⟨by kernel_rfl, ?_⟩
  refine k_sign (by omega) fun n1 m1 => ?_
  refine k_sign (by omega) fun n2 m2 => ?_
  rw [cn_q] at m1 m2
  refine ⟨by kernel_rfl, ?_⟩
  refine ⟨fun _ => ?_, fun e => ?_⟩
  · exact rfl
  · exact absurd ((sgn_mul (slo_le z t)).2 (by rw [has_iff] at h0; exact h0)) (by rw [← e2, ← h2, ← m1, ← m2]; exact of_decide_eq_false e)
set_option maxRecDepth 100000 in
theorem sDiv1_spec (x y z t : RV) (hx : x.z ≤ 1048576) (hy : y.z ≤ 1048576) (hz : z.z ≤ 1048576) (ht : t.z ≤ 1048576) (h0 : ¬ hasQ (slo z t) (shi z t) ((0 : Int) : Rat) = true) : Spec Tryd.prog Tab 73 [pair x y, pair z t] (two (pair (cn (dvLo (slo x y) (shi x y) (slo z t) (shi z t))) (cn (dvHi (slo x y) (shi x y) (slo z t) (shi z t)))) (int 0)) := by
  obtain ⟨hc, hd, hle⟩ := inv_le (slo_le z t) (fun h => h0 ((has_iff _ _ _).2 h))
  refine fn_spec Tryd.func73 rfl rfl Tryd.ntmps73 rfl (by kernel_rfl) rfl rfl ?_
  refine k_sFit (by omega) (by omega) fun p1 q1 e1 h1 y1 z1 => ?_
  refine k_sFit (by omega) (by omega) fun p2 q2 e2 h2 y2 z2 => ?_
  refine ⟨by kernel_rfl, ?_⟩
  refine k_sign (by omega) fun n1 m1 => ?_
  refine k_sign (by omega) fun n2 m2 => ?_
  rw [cn_q] at m1 m2
  refine ⟨by kernel_rfl, ?_⟩
  refine ⟨fun e => ?_, fun _ => ?_⟩
  · exact absurd ((sgn_mul (slo_le z t)).1 (by rw [← e2, ← h2, ← m1, ← m2]; exact of_decide_eq_true e)) (fun h => h0 ((has_iff _ _ _).2 h))
  refine k_of 1 (by omega) (by omega) fun i1 j1 v1 => ?_
  refine k_div (by omega) (by omega) (by rw [cn_q, h2]; exact hd) fun l1 g1 w1 => ?_
  simp only [cn_q] at g1
  refine ⟨by kernel_rfl, ?_⟩
  refine k_of 1 (by omega) (by omega) fun i2 j2 v2 => ?_
  refine k_div (by omega) (by omega) (by rw [cn_q, e2]; exact hc) fun l2 g2 w2 => ?_
  simp only [cn_q] at g2
  refine ⟨by kernel_rfl, ?_⟩
  refine k_sMul (by omega) (by omega) (by omega) (by omega) fun r1 r2 f1 f2 _ _ => ?_
  rw [slo_cn (by rw [e1, h1]; exact slo_le x y), shi_cn (by rw [e1, h1]; exact slo_le x y), slo_cn (by rw [g1, g2, j1, j2, e2, h2]; exact hle), shi_cn (by rw [g1, g2, j1, j2, e2, h2]; exact hle)] at f1 f2
  refine Eq.trans (b := two (pair (cn r1) (cn r2)) (int 0)) ?_ rfl
  rw [f1, f2, g1, g2, j1, j2, e1, h1, e2, h2]; rfl
set_option maxRecDepth 100000 in
theorem sOut_spec (x y : RV) (n : Int) (hx : x.z ≤ 1048576) (hy : y.z ≤ 1048576) (hn : n ≤ 9223372036854775807) : Spec Tryd.prog Tab 79 [pair x y, int n] (pair (cn (downQ (slo x y) n)) (cn (upQ (shi x y) n))) := by
  refine fn_spec Tryd.func79 rfl rfl Tryd.ntmps79 rfl (by kernel_rfl) rfl rfl ?_
  refine k_sFit (by omega) (by omega) fun p1 q1 e1 h1 y1 z1 => ?_
  refine k_down (by omega) hn fun p2 e2 z2 => ?_
  refine k_up (by omega) hn fun p3 e3 z3 => ?_
  simp only [cn_q] at e2 e3
  refine ⟨by kernel_rfl, ?_⟩
  refine Eq.trans (b := pair (cn _) (cn _)) ?_ rfl
  subst_vars; rfl
end

section
variable {x y z t : RV} {K : AV → Prop}
theorem k_sDiv_c (hx : x.z ≤ 1048576) (hy : y.z ≤ 1048576) (hz : z.z ≤ 1048576) (ht : t.z ≤ 1048576)
    (k0 : hasQ (slo z t) (shi z t) ((0 : Int) : Rat) = true → K (two (pair z0 z0) (int 12)))
    (k1 : ¬ hasQ (slo z t) (shi z t) ((0 : Int) : Rat) = true → ∀ p q, p = dvLo (slo x y) (shi x y) (slo z t) (shi z t) → q = dvHi (slo x y) (shi x y) (slo z t) (shi z t) → K (two (pair (cn p) (cn q)) (int 0))) : Ask 73 [pair x y, pair z t] K := by
  by_cases h : hasQ (slo z t) (shi z t) ((0 : Int) : Rat) = true
  · exact use (sDiv0_spec x y z t hx hy hz ht h) rfl (k0 h)
  · exact use (sDiv1_spec x y z t hx hy hz ht h) rfl (k1 h _ _ rfl rfl)
theorem k_sOut {n : Int} (hx : x.z ≤ 1048576) (hy : y.z ≤ 1048576) (hn : n ≤ 9223372036854775807) (k : ∀ p q, p = downQ (slo x y) n → q = upQ (shi x y) n → K (pair (cn p) (cn q))) : Ask 79 [pair x y, int n] K :=
  use (sOut_spec x y n hx hy hn) rfl (k _ _ rfl rfl)
set_option maxRecDepth 100000 in
theorem muls1_spec (x y : RV) (hx : x.z ≤ 4194304) (hy : y.z ≤ 4194304) (h0 : y.q ≠ 0) : Spec Tryd.prog Tab 74 [rat x, rat y] (rat (cn (x.q / y.q))) := by
  refine fn_spec Tryd.func74 rfl rfl Tryd.ntmps74 rfl (by kernel_rfl) rfl rfl ?_
  refine k_div (by omega) (by omega) h0 fun q1 e1 z1 => ?_
  refine Eq.trans (b := rat (cn q1)) ?_ rfl
  rw [e1]
theorem endz {p : Rat} (h : p = slo x y ∨ p = shi x y) (hx : x.z ≤ 1048576) (hy : y.z ≤ 1048576) : (cn p).z ≤ 1048584 := by
  have h1 := slo_z x y
  have h2 := shi_z x y
  rcases h with rfl | rfl <;> omega
theorem k_EndsMul (hx : x.z ≤ 1048576) (hy : y.z ≤ 1048576) (hz : z.z ≤ 1048576) (ht : t.z ≤ 1048576) (k : ∀ p q, p = mulLo (slo x y) (shi x y) (slo z t) (shi z t) → q = mulHi (slo x y) (shi x y) (slo z t) (shi z t) → K (pair (cn p) (cn q))) : Ask 61 [pair x y, pair z t, fv 76] K := by
  have hs := REnds_spec 4194304 (by decide) 76 (· * ·) x y z t (by omega) (by omega) (by omega) (by omega) (fun p q hp hq K k => by
    have h1 := endz hp hx hy
    have h2 := endz hq hz ht
    refine k_mul (x := cn p) (y := cn q) (by omega) (by omega) fun r e z => k r (by simpa only [cn_q] using e) ?_
    rw [cn_z] at z; omega)
  exact use hs rfl (k _ _ rfl rfl)
theorem k_EndsDiv (hx : x.z ≤ 1048576) (hy : y.z ≤ 1048576) (hz : z.z ≤ 1048576) (ht : t.z ≤ 1048576) (h0 : ¬ hasQ (slo z t) (shi z t) ((0 : Int) : Rat) = true) (k : ∀ p q, p = dvLo (slo x y) (shi x y) (slo z t) (shi z t) → q = dvHi (slo x y) (shi x y) (slo z t) (shi z t) → K (pair (cn p) (cn q))) : Ask 61 [pair x y, pair z t, fv 74] K := by
  obtain ⟨hc, hd, _⟩ := inv_le (slo_le z t) (fun h => h0 ((has_iff _ _ _).2 h))
  have hs := REnds_spec 4194304 (by decide) 74 (· / ·) x y z t (by omega) (by omega) (by omega) (by omega) (fun p q hp hq K k => by
    have h1 := endz hp hx hy
    have h2 := endz hq hz ht
    have hq0 : q ≠ 0 := by rcases hq with rfl | rfl <;> assumption
    refine use (muls1_spec (cn p) (cn q) (by omega) (by omega) (by rw [cn_q]; exact hq0)) rfl (k _ (by rw [cn_q, cn_q]) ?_)
    have := qs_div (cn p).q (cn q).q
    have := (cn p).z1
    have := (cn q).z1
    omega)
  have dv : ∀ a b : Rat, a * (((1 : Int) : Rat) / b) = a / b := fun a b => by
    have one : ((1 : Int) : Rat) = 1 := rfl
    rw [one, Rat.div_def, Rat.div_def, Rat.one_mul]
  refine use hs rfl (k _ _ ?_ ?_)
  · unfold dvLo mulLo
    simp only [dv]
    refine low_perm ?_ ?_ <;> (intro a ha; simp only [List.mem_cons, List.mem_nil_iff, or_false] at ha ⊢; rcases ha with rfl | rfl | rfl | rfl <;> simp)
  · unfold dvHi mulHi
    simp only [dv]
    refine high_perm ?_ ?_ <;> (intro a ha; simp only [List.mem_cons, List.mem_nil_iff, or_false] at ha ⊢; rcases ha with rfl | rfl | rfl | rfl <;> simp)
theorem sq_nonneg (a : Rat) : 0 ≤ a * a := by
  by_cases h : 0 ≤ a
  · exact Rat.mul_nonneg h h
  · have h := Rat.not_le.1 h
    have := Rat.mul_nonneg (show 0 ≤ -a by grind) (show 0 ≤ -a by grind)
    grind
theorem low_sq0 (a b : Rat) : lowL (lowL (a * a) [b * b]) [highL (a * a) [b * b], ((0 : Int) : Rat)] = ((0 : Int) : Rat) := by
  obtain ⟨h1, h2, h3⟩ := lowL_prop [b * b] (a * a)
  obtain ⟨g1, g2, g3⟩ := highL_prop [b * b] (a * a)
  have ha := sq_nonneg a
  have hb := sq_nonneg b
  rw [z_cast]
  refine low_is (.inr (by simp)) ?_ ?_
  · simp only [List.mem_singleton] at h1
    rcases h1 with h1 | h1 <;> rw [h1] <;> assumption
  · intro c hc
    simp only [List.mem_cons, List.mem_nil_iff, or_false] at hc
    rcases hc with rfl | rfl
    · exact Rat.le_trans ha g2
    · exact Rat.le_refl
theorem high_sq0 (a b : Rat) : highL (lowL (a * a) [b * b]) [highL (a * a) [b * b], ((0 : Int) : Rat)] = highL (a * a) [b * b] := by
  obtain ⟨h1, h2, h3⟩ := lowL_prop [b * b] (a * a)
  obtain ⟨g1, g2, g3⟩ := highL_prop [b * b] (a * a)
  have ha := sq_nonneg a
  rw [z_cast]
  refine high_is (.inr (by simp)) (Rat.le_trans h2 g2) ?_
  intro c hc
  simp only [List.mem_cons, List.mem_nil_iff, or_false] at hc
  rcases hc with rfl | rfl
  · exact Rat.le_refl
  · exact Rat.le_trans ha g2
set_option maxHeartbeats 4000000 in
set_option maxRecDepth 100000 in
theorem spanMuls_spec (x y z t : RV) (n : Int) (hx : x.z ≤ 1048576) (hy : y.z ≤ 1048576) (hz : z.z ≤ 1048576) (ht : t.z ≤ 1048576) (hn : n ≤ 9223372036854775807) : Spec Tryd.prog Tab 10 [pair x y, pair z t, int n] (bool true) := by
  refine fn_spec Tryd.func10 rfl rfl Tryd.ntmps10 rfl (by kernel_rfl) rfl rfl ?_
  refine k_spanBegun ?_
  refine ⟨fun e => by simp at e, fun _ => ?_⟩
  refine k_RPair (by omega) (by omega) fun p1 q1 e1 h1 y1 z1 => ?_
  refine k_RPair (by omega) (by omega) fun p2 q2 e2 h2 y2 z2 => ?_
  refine ⟨by kernel_rfl, ?_⟩
  refine k_sDiv_c (by omega) (by omega) (by omega) (by omega) (fun hd => ?_) (fun hd => fun dl dh f1 f2 => ?_)
  · skip
    refine k_I 0 (by omega) (by omega) fun i1 j1 w1 => ?_
    refine k_RIn (by omega) (by omega) (by omega) fun b1 d1 => ?_
    simp only [cn_q] at d1
    rw [e2, h2, j1] at d1
    refine ⟨by kernel_rfl, ?_⟩
    refine ⟨fun e4 => ?_, fun e4 => ?_⟩
    · refine k_neq_span_t ⟨rfl, rfl⟩ ?_
      refine ⟨fun e => by simp at e, fun _ => ?_⟩
      refine k_mul (by omega) (by omega) fun s1 u1 _ => ?_
      refine k_mul (by omega) (by omega) fun s2 u2 _ => ?_
      simp only [cn_q] at u1 u2
      have zs1 : qs s1 ≤ 16777216 := by rw [← cn_z]; omega
      have zs2 : qs s2 ≤ 16777216 := by rw [← cn_z]; omega
      refine k_RAro 16777216 (by decide) s1 [s2] rfl (by intro q hq; simp only [List.mem_cons, List.mem_nil_iff, or_false] at hq; rcases hq with rfl | rfl <;> assumption) (by simp) fun l1 l2 c1 c2 v1 v2 => ?_
      refine ⟨by kernel_rfl, ?_⟩
      refine k_I 0 (by omega) (by omega) fun i2 j2 w2 => ?_
      refine k_RIn (by omega) (by omega) (by omega) fun b2 d2 => ?_
      simp only [cn_q] at d2
      refine ⟨by kernel_rfl, ?_⟩
      refine ⟨fun e5 => ?_, fun e5 => ?_⟩
      · skip
        refine k_I 0 (by omega) (by omega) fun i3 j3 w3 => ?_
        rw [cn_z] at v1 v2 w3
        refine k_RAro 16777216 (by decide) l1 [l2, i3] rfl (by intro q hq; simp only [List.mem_cons, List.mem_nil_iff, or_false] at hq; rcases hq with rfl | rfl | rfl <;> omega) (by simp) fun o1 o2 r1 r2 _ _ => ?_
        refine ⟨by kernel_rfl, ?_⟩
        refine k_sMul (by omega) (by omega) (by omega) (by omega) fun m1 m2 n1 n2 _ _ => ?_
        refine k_EndsMul (by omega) (by omega) (by omega) (by omega) fun m3 m4 n3 n4 => ?_
        refine k_eql_span_t ⟨congrArg cn (by rw [n1, n3]), congrArg cn (by rw [n2, n4])⟩ ?_
        refine k_sSq (by omega) (by omega) fun q3 q4 t3 t4 _ _ => ?_
        have hh : hasQ (slo x y) (shi x y) ((0 : Int) : Rat) = true := by rw [← e1, ← h1, ← j2, ← d2]; exact e5
        refine k_eql_span_t ⟨congrArg cn (by rw [t3, r1, c1, c2, u1, u2, e1, h1, j3, low_sq0, sqLo, if_pos hh]), congrArg cn (by rw [t4, r2, c1, c2, u1, u2, e1, h1, j3, high_sq0]; rfl)⟩ ?_
        refine k_sOut (by omega) (by omega) hn fun x1 x2 a1 a2 => ?_
        refine k_down (by omega) hn fun x3 a3 _ => ?_
        refine k_up (by omega) hn fun x4 a4 _ => ?_
        simp only [cn_q] at a3 a4
        refine k_eql_span_t ⟨congrArg cn (by rw [a1, a3, e1]), congrArg cn (by rw [a2, a4, h1])⟩ ?_
        refine ⟨by kernel_rfl, ?_⟩
        exact rfl
      · skip
        refine k_sMul (by omega) (by omega) (by omega) (by omega) fun m1 m2 n1 n2 _ _ => ?_
        refine k_EndsMul (by omega) (by omega) (by omega) (by omega) fun m3 m4 n3 n4 => ?_
        refine k_eql_span_t ⟨congrArg cn (by rw [n1, n3]), congrArg cn (by rw [n2, n4])⟩ ?_
        refine k_sSq (by omega) (by omega) fun q3 q4 t3 t4 _ _ => ?_
        have hh : ¬ hasQ (slo x y) (shi x y) ((0 : Int) : Rat) = true := by rw [← e1, ← h1, ← j2, ← d2]; exact ne_true_of_eq_false e5
        refine k_eql_span_t ⟨congrArg cn (by rw [t3, c1, u1, u2, e1, h1, sqLo, if_neg hh]), congrArg cn (by rw [t4, c2, u1, u2, e1, h1]; rfl)⟩ ?_
        refine k_sOut (by omega) (by omega) hn fun x1 x2 a1 a2 => ?_
        refine k_down (by omega) hn fun x3 a3 _ => ?_
        refine k_up (by omega) hn fun x4 a4 _ => ?_
        simp only [cn_q] at a3 a4
        refine k_eql_span_t ⟨congrArg cn (by rw [a1, a3, e1]), congrArg cn (by rw [a2, a4, h1])⟩ ?_
        refine ⟨by kernel_rfl, ?_⟩
        exact rfl
    · exact absurd (d1.trans hd) (ne_true_of_eq_false e4)
  · skip
    refine k_I 0 (by omega) (by omega) fun i1 j1 w1 => ?_
    refine k_RIn (by omega) (by omega) (by omega) fun b1 d1 => ?_
    simp only [cn_q] at d1
    rw [e2, h2, j1] at d1
    refine ⟨by kernel_rfl, ?_⟩
    refine ⟨fun e4 => ?_, fun e4 => ?_⟩
    · exact absurd (d1.symm.trans e4) hd
    · refine k_EndsDiv (by omega) (by omega) (by omega) (by omega) hd fun g1 g2 k1 k2 => ?_
      refine k_neq_span_t ⟨congrArg cn (by rw [f1, k1]), congrArg cn (by rw [f2, k2])⟩ ?_
      refine ⟨by kernel_rfl, ?_⟩
      refine ⟨fun e => by simp at e, fun _ => ?_⟩
      refine k_mul (by omega) (by omega) fun s1 u1 _ => ?_
      refine k_mul (by omega) (by omega) fun s2 u2 _ => ?_
      simp only [cn_q] at u1 u2
      have zs1 : qs s1 ≤ 16777216 := by rw [← cn_z]; omega
      have zs2 : qs s2 ≤ 16777216 := by rw [← cn_z]; omega
      refine k_RAro 16777216 (by decide) s1 [s2] rfl (by intro q hq; simp only [List.mem_cons, List.mem_nil_iff, or_false] at hq; rcases hq with rfl | rfl <;> assumption) (by simp) fun l1 l2 c1 c2 v1 v2 => ?_
      refine ⟨by kernel_rfl, ?_⟩
      refine k_I 0 (by omega) (by omega) fun i2 j2 w2 => ?_
      refine k_RIn (by omega) (by omega) (by omega) fun b2 d2 => ?_
      simp only [cn_q] at d2
      refine ⟨by kernel_rfl, ?_⟩
      refine ⟨fun e5 => ?_, fun e5 => ?_⟩
      · skip
        refine k_I 0 (by omega) (by omega) fun i3 j3 w3 => ?_
        rw [cn_z] at v1 v2 w3
        refine k_RAro 16777216 (by decide) l1 [l2, i3] rfl (by intro q hq; simp only [List.mem_cons, List.mem_nil_iff, or_false] at hq; rcases hq with rfl | rfl | rfl <;> omega) (by simp) fun o1 o2 r1 r2 _ _ => ?_
        refine ⟨by kernel_rfl, ?_⟩
        refine k_sMul (by omega) (by omega) (by omega) (by omega) fun m1 m2 n1 n2 _ _ => ?_
        refine k_EndsMul (by omega) (by omega) (by omega) (by omega) fun m3 m4 n3 n4 => ?_
        refine k_eql_span_t ⟨congrArg cn (by rw [n1, n3]), congrArg cn (by rw [n2, n4])⟩ ?_
        refine k_sSq (by omega) (by omega) fun q3 q4 t3 t4 _ _ => ?_
        have hh : hasQ (slo x y) (shi x y) ((0 : Int) : Rat) = true := by rw [← e1, ← h1, ← j2, ← d2]; exact e5
        refine k_eql_span_t ⟨congrArg cn (by rw [t3, r1, c1, c2, u1, u2, e1, h1, j3, low_sq0, sqLo, if_pos hh]), congrArg cn (by rw [t4, r2, c1, c2, u1, u2, e1, h1, j3, high_sq0]; rfl)⟩ ?_
        refine k_sOut (by omega) (by omega) hn fun x1 x2 a1 a2 => ?_
        refine k_down (by omega) hn fun x3 a3 _ => ?_
        refine k_up (by omega) hn fun x4 a4 _ => ?_
        simp only [cn_q] at a3 a4
        refine k_eql_span_t ⟨congrArg cn (by rw [a1, a3, e1]), congrArg cn (by rw [a2, a4, h1])⟩ ?_
        refine ⟨by kernel_rfl, ?_⟩
        exact rfl
      · skip
        refine k_sMul (by omega) (by omega) (by omega) (by omega) fun m1 m2 n1 n2 _ _ => ?_
        refine k_EndsMul (by omega) (by omega) (by omega) (by omega) fun m3 m4 n3 n4 => ?_
        refine k_eql_span_t ⟨congrArg cn (by rw [n1, n3]), congrArg cn (by rw [n2, n4])⟩ ?_
        refine k_sSq (by omega) (by omega) fun q3 q4 t3 t4 _ _ => ?_
        have hh : ¬ hasQ (slo x y) (shi x y) ((0 : Int) : Rat) = true := by rw [← e1, ← h1, ← j2, ← d2]; exact ne_true_of_eq_false e5
        refine k_eql_span_t ⟨congrArg cn (by rw [t3, c1, u1, u2, e1, h1, sqLo, if_neg hh]), congrArg cn (by rw [t4, c2, u1, u2, e1, h1]; rfl)⟩ ?_
        refine k_sOut (by omega) (by omega) hn fun x1 x2 a1 a2 => ?_
        refine k_down (by omega) hn fun x3 a3 _ => ?_
        refine k_up (by omega) hn fun x4 a4 _ => ?_
        simp only [cn_q] at a3 a4
        refine k_eql_span_t ⟨congrArg cn (by rw [a1, a3, e1]), congrArg cn (by rw [a2, a4, h1])⟩ ?_
        refine ⟨by kernel_rfl, ?_⟩
        exact rfl
theorem spanMuls_walk (s0 : Bool) (a0 d0 : ByteArray) (s1 : Bool) (a1 d1 : ByteArray) (s2 : Bool) (a2 d2 : ByteArray) (s3 : Bool) (a3 d3 : ByteArray) (n : Int) (N : Nat) (w : World) (_ : 1 ≤ N) (hN : N ≤ 1048576)
    (k1 : a0.size ≤ N) (k2 : d0.size ≤ N) (k3 : a1.size ≤ N) (k4 : d1.size ≤ N) (k5 : a2.size ≤ N) (k6 : d2.size ≤ N) (k7 : a3.size ≤ N) (k8 : d3.size ≤ N) (hn : -9223372036854775808 ≤ n ∧ n ≤ 9223372036854775807) (hT : Tab w) :
    Calls Tryd.prog 10 #[.agg #[.bool s0, .string a0, .string d0, .bool s1, .string a1, .string d1], .agg #[.bool s2, .string a2, .string d2, .bool s3, .string a3, .string d3], .int .i64 n] w fun e w' => e = .returned (.bool true) ∧ Below w.heap.size w w' :=
  have zz : ∀ (s : Bool) (a d : ByteArray), a.size ≤ N → d.size ≤ N → RV.z ⟨s, a, d⟩ ≤ 1048576 := fun s a d h1 h2 => by unfold RV.z; exact Nat.le_trans (Nat.max_le.2 ⟨h1, h2⟩) hN
  calls_of_spec (spanMuls_spec ⟨s0, a0, d0⟩ ⟨s1, a1, d1⟩ ⟨s2, a2, d2⟩ ⟨s3, a3, d3⟩ n (zz _ _ _ k1 k2) (zz _ _ _ k3 k4) (zz _ _ _ k5 k6) (zz _ _ _ k7 k8) hn.2) rfl hT
    (pvl_rel (vs := [pair ⟨s0, a0, d0⟩ ⟨s1, a1, d1⟩, pair ⟨s2, a2, d2⟩ ⟨s3, a3, d3⟩, int n]) rfl)
end

end Go.Proofs.YtnnffjolkgomhaaDoor.eng
