/- Joined by wip/bundle.py: XGeo XGeo2 XGeo3 XApartC XApartT. -/
import Derived.Test.YtdhpmdkfmgpcmaaDoorGrpP
import Derived.Test.YtdhpmdkfmgpcmaaDoorApartA
import Derived.Test.YtdhpmdkfmgpcmaaDoorApartB
/- Plain geometry, no program: two convex polygons have a point in common, or an edge of one of them has the other one beyond it. -/
namespace Go.Proofs.YtdhpmdkfmgpcmaaDoor.poly
def crs (u v : Pt) : Rat := u.1 * v.2 - u.2 * v.1
def dt (u v : Pt) : Rat := u.1 * v.1 + u.2 * v.2
def sb (u v : Pt) : Pt := (u.1 - v.1, u.2 - v.2)
theorem ori_crs (a b c : Pt) : ori a b c = crs (sb b a) (sb c a) := rfl
theorem crs_anti (u v : Pt) : crs u v = - crs v u := by unfold crs; grind
theorem crs_self (u : Pt) : crs u u = 0 := by unfold crs; grind
theorem dt_comm (u v : Pt) : dt u v = dt v u := by unfold dt; grind
theorem sq_nonneg (a : Rat) : 0 ≤ a * a := by
  rcases Rat.le_total (a := 0) (b := a) with h | h
  · exact Rat.mul_nonneg h h
  · have := Rat.mul_nonneg (a := -a) (b := -a) (by grind) (by grind)
    grind
theorem sq_pos {a : Rat} (h : a ≠ 0) : 0 < a * a := by
  have := sq_nonneg a
  have h2 : a * a ≠ 0 := fun e => h (by rcases Rat.mul_eq_zero.1 e with h | h <;> exact h)
  grind
theorem dt_pos {u : Pt} (h : ¬ (u.1 = 0 ∧ u.2 = 0)) : 0 < dt u u := by
  unfold dt
  have h1 := sq_nonneg u.1; have h2 := sq_nonneg u.2
  by_cases e : u.1 = 0
  · have := sq_pos (a := u.2) (fun e2 => h ⟨e, e2⟩); grind
  · have := sq_pos e; grind
theorem div_nonneg {a b : Rat} (h : 0 ≤ a) (g : 0 < b) : 0 ≤ a / b := by
  rw [Rat.div_def]; exact Rat.mul_nonneg h (Rat.le_of_lt (Rat.inv_pos.2 g))
theorem div_pos {a b : Rat} (h : 0 < a) (g : 0 < b) : 0 < a / b := by
  rw [Rat.div_def]; exact Rat.mul_pos h (Rat.inv_pos.2 g)
/-- the least of finitely many values -/
theorem least_of {p : Nat → Prop} (f : Nat → Rat) : ∀ n, (∃ i, i < n ∧ p i) → ∃ i, i < n ∧ p i ∧ ∀ j, j < n → p j → f i ≤ f j := by
  intro n
  induction n with
  | zero => rintro ⟨i, h, _⟩; omega
  | succ n ih =>
    rintro ⟨i, hi, hp⟩
    by_cases h : ∃ i, i < n ∧ p i
    · obtain ⟨k, h1, h2, h3⟩ := ih h
      by_cases hn : p n ∧ f n < f k
      · refine ⟨n, by omega, hn.1, fun j hj hpj => ?_⟩
        by_cases e : j = n
        · subst e; exact Rat.le_refl
        · exact Rat.le_trans (Rat.le_of_lt hn.2) (h3 j (by omega) hpj)
      · refine ⟨k, by omega, h2, fun j hj hpj => ?_⟩
        by_cases e : j = n
        · subst e; exact Rat.not_lt.1 fun hh => hn ⟨hpj, hh⟩
        · exact h3 j (by omega) hpj
    · have e : i = n := by
        by_cases e : i = n
        · exact e
        · exact absurd ⟨i, by omega, hp⟩ h
      subst e
      refine ⟨i, by omega, hp, fun j hj hpj => ?_⟩
      by_cases e : j = i
      · subst e; exact Rat.le_refl
      · exact absurd ⟨j, by omega, hpj⟩ h
/-! ### vectors on one side of a line through 0 -/
/-- where a vector lies to the left of another one, by slopes -/
theorem slope_le {N v w : Pt} (hv : 0 < dt N v) (hw : 0 < dt N w) (h : crs N v / dt N v ≤ crs N w / dt N w) : 0 ≤ crs v w := by
  have hN : 0 < dt N N := dt_pos fun ⟨h1, h2⟩ => by unfold dt at hv; rw [h1, h2] at hv; grind
  have key : dt N N * crs v w = dt N v * crs N w - crs N v * dt N w := by unfold dt crs; grind
  have h2 : 0 ≤ dt N v * crs N w - crs N v * dt N w := by
    have e : dt N v * crs N w - crs N v * dt N w = dt N v * dt N w * (crs N w / dt N w - crs N v / dt N v) := by
      have a := Rat.ne_of_gt hv; have b := Rat.ne_of_gt hw; grind
    rw [e]
    exact Rat.mul_nonneg (Rat.le_of_lt (Rat.mul_pos hv hw)) (by grind)
  rw [← key] at h2
  exact nonneg_of_mul hN h2
/-- Gordan: all vectors lie on one side, or some of them weigh out to 0 -/
def Weigh (l : List Pt) : Prop := ∃ a b c, a ∈ l ∧ b ∈ l ∧ c ∈ l ∧ ∃ x y z : Rat, 0 ≤ x ∧ 0 ≤ y ∧ 0 ≤ z ∧ 0 < x + y + z ∧ x * a.1 + y * b.1 + z * c.1 = 0 ∧ x * a.2 + y * b.2 + z * c.2 = 0
theorem Weigh.mono {l m : List Pt} (h : Weigh l) (hs : ∀ a, a ∈ l → a ∈ m) : Weigh m := by
  obtain ⟨a, b, c, h1, h2, h3, r⟩ := h
  exact ⟨a, b, c, hs a h1, hs b h2, hs c h3, r⟩
theorem extreme {N : Pt} : ∀ {l : List Pt}, l ≠ [] → (∀ x, x ∈ l → 0 < dt N x) → ∃ r s, r ∈ l ∧ s ∈ l ∧ ∀ x, x ∈ l → 0 ≤ crs r x ∧ 0 ≤ crs x s
  | [], h, _ => absurd rfl h
  | [a], _, _ => ⟨a, a, by simp, by simp, fun x hx => by rw [List.mem_singleton.1 hx, crs_self]; exact ⟨Rat.le_refl, Rat.le_refl⟩⟩
  | a :: b :: l, _, hN => by
    obtain ⟨r, s, hr, hs, h⟩ := extreme (N := N) (l := b :: l) (by simp) (fun x hx => hN x (by simp [hx]))
    have ha := hN a (by simp)
    have hr' := hN r (List.mem_cons_of_mem _ hr)
    have hs' := hN s (List.mem_cons_of_mem _ hs)
    have tr : ∀ u v w : Pt, 0 < dt N u → 0 < dt N v → 0 < dt N w → 0 ≤ crs u v → 0 ≤ crs v w → 0 ≤ crs u w := by
      intro u v w hu hv hw h1 h2
      have key : dt N v * crs u w = dt N u * crs v w + dt N w * crs u v := by unfold dt crs; grind
      refine nonneg_of_mul hv ?_
      rw [key]
      have := Rat.mul_nonneg (Rat.le_of_lt hu) h2; have := Rat.mul_nonneg (Rat.le_of_lt hw) h1; grind
    -- the right end
    have R : ∃ r', r' ∈ a :: b :: l ∧ ∀ x, x ∈ a :: b :: l → 0 ≤ crs r' x := by
      by_cases e : 0 ≤ crs a r
      · refine ⟨a, by simp, fun x hx => ?_⟩
        rcases List.mem_cons.1 hx with rfl | hx'
        · rw [crs_self]; exact Rat.le_refl
        · exact tr a r x ha hr' (hN x hx) e (h x hx').1
      · refine ⟨r, List.mem_cons_of_mem _ hr, fun x hx => ?_⟩
        rcases List.mem_cons.1 hx with rfl | hx'
        · rw [crs_anti]; have := Rat.not_le.1 e; grind
        · exact (h x hx').1
    have L : ∃ s', s' ∈ a :: b :: l ∧ ∀ x, x ∈ a :: b :: l → 0 ≤ crs x s' := by
      by_cases e : 0 ≤ crs s a
      · refine ⟨a, by simp, fun x hx => ?_⟩
        rcases List.mem_cons.1 hx with rfl | hx'
        · rw [crs_self]; exact Rat.le_refl
        · exact tr x s a (hN x hx) hs' ha (h x hx').2 e
      · refine ⟨s, List.mem_cons_of_mem _ hs, fun x hx => ?_⟩
        rcases List.mem_cons.1 hx with rfl | hx'
        · rw [crs_anti]; have := Rat.not_le.1 e; grind
        · exact (h x hx').2
    obtain ⟨r', h1, h2⟩ := R
    obtain ⟨s', h3, h4⟩ := L
    exact ⟨r', s', h1, h3, fun x hx => ⟨h2 x hx, h4 x hx⟩⟩
theorem tilt {a b : Rat} (ha : 0 < a) (hb : b ≤ 0) : 0 < a + a / (1 - b) * b := by
  have h1 : 0 < 1 - b := by grind
  have e : a + a / (1 - b) * b = a / (1 - b) := by have := Rat.ne_of_gt h1; grind
  rw [e]; exact div_pos ha h1
theorem gordan : ∀ l : List Pt, (∃ N : Pt, ∀ x, x ∈ l → 0 < dt N x) ∨ Weigh l
  | [] => .inl ⟨(0, 0), fun x hx => by simp at hx⟩
  | d :: l => by
    rcases gordan l with ⟨N, hN⟩ | hw
    · by_cases hd : 0 < dt N d
      · exact .inl ⟨N, fun x hx => by rcases List.mem_cons.1 hx with rfl | h; exact hd; exact hN x h⟩
      have hd := Rat.not_lt.1 hd
      by_cases h0 : d.1 = 0 ∧ d.2 = 0
      · exact .inr ⟨d, d, d, by simp, by simp, by simp, 1, 0, 0, by decide +kernel, by decide +kernel, by decide +kernel, by decide +kernel, by rw [h0.1]; grind, by rw [h0.2]; grind⟩
      have hdd := dt_pos h0
      by_cases hl : l = []
      · subst hl
        exact .inl ⟨d, fun x hx => by rw [List.mem_singleton.1 hx]; exact hdd⟩
      obtain ⟨r, s, hr, hs, hx⟩ := extreme hl hN
      by_cases c1 : 0 < crs r d
      · refine .inl ⟨(-r.2 + crs r d / (1 - dt N d) * N.1, r.1 + crs r d / (1 - dt N d) * N.2), fun x hxm => ?_⟩
        have e : dt (-r.2 + crs r d / (1 - dt N d) * N.1, r.1 + crs r d / (1 - dt N d) * N.2) x = crs r x + crs r d / (1 - dt N d) * dt N x := by
          generalize crs r d / (1 - dt N d) = k; unfold dt crs; grind
        rw [e]
        rcases List.mem_cons.1 hxm with rfl | hxm
        · exact tilt c1 hd
        · have h1 := (hx x hxm).1
          have h2 := Rat.mul_pos (div_pos c1 (show 0 < 1 - dt N d by grind)) (hN x hxm)
          grind
      by_cases c2 : 0 < crs d s
      · refine .inl ⟨(s.2 + crs d s / (1 - dt N d) * N.1, -s.1 + crs d s / (1 - dt N d) * N.2), fun x hxm => ?_⟩
        have e : dt (s.2 + crs d s / (1 - dt N d) * N.1, -s.1 + crs d s / (1 - dt N d) * N.2) x = crs x s + crs d s / (1 - dt N d) * dt N x := by
          generalize crs d s / (1 - dt N d) = k; unfold dt crs; grind
        rw [e]
        rcases List.mem_cons.1 hxm with rfl | hxm
        · exact tilt c2 hd
        · have h1 := (hx x hxm).2
          have h2 := Rat.mul_pos (div_pos c2 (show 0 < 1 - dt N d by grind)) (hN x hxm)
          grind
      have c1 := Rat.not_lt.1 c1
      have c2 := Rat.not_lt.1 c2
      refine .inr ?_
      have hrs := (hx s hs).1
      rcases Rat.le_iff_lt_or_eq.1 hrs with h | h
      · -- crs r s * d + crs d s * (- r).. : the vector -d between r and s
        refine ⟨d, r, s, by simp, List.mem_cons_of_mem _ hr, List.mem_cons_of_mem _ hs, crs r s, - crs d s, - crs r d, hrs, by grind, by grind, by grind, ?_, ?_⟩
        · unfold crs; grind
        · unfold crs; grind
      · -- r and s on one line: so is d
        have hrN := hN r hr
        have hsN := hN s hs
        have k1 : dt N r * crs d s = dt N d * crs r s + dt N s * crs d r := by unfold dt crs; grind
        rw [← h, Rat.mul_zero, Rat.zero_add] at k1
        have e1 : crs d r = 0 := by
          have g1 : 0 ≤ crs d r := by rw [crs_anti]; grind
          have g2 : dt N r * crs d s ≤ 0 := by have := Rat.mul_nonneg (Rat.le_of_lt hrN) (show 0 ≤ - crs d s by grind); grind
          have g3 : dt N s * crs d r ≤ 0 := by rw [← k1]; exact g2
          have g4 : crs d r ≤ 0 := Rat.not_lt.1 fun hh => by have := Rat.mul_pos hsN hh; grind
          exact Rat.le_antisymm g4 g1
        refine ⟨d, r, r, by simp, List.mem_cons_of_mem _ hr, List.mem_cons_of_mem _ hr, dt N r, - dt N d, 0, Rat.le_of_lt hrN, by grind, Rat.le_refl, by grind, ?_, ?_⟩
        · have : dt N r * d.1 - dt N d * r.1 = N.2 * crs d r := by unfold dt crs; grind
          rw [e1] at this; grind
        · have : dt N r * d.2 - dt N d * r.2 = N.1 * (- crs d r) := by unfold dt crs; grind
          rw [e1] at this; grind
    · exact .inr (hw.mono fun a h => List.mem_cons_of_mem _ h)
end Go.Proofs.YtdhpmdkfmgpcmaaDoor.poly

/- Plain geometry, no program: an edge between two convex polygons that a line keeps apart; a common point of two that no edge keeps apart; what a common point brings. -/
namespace Go.Proofs.YtdhpmdkfmgpcmaaDoor.poly
section
variable {P Q : Nat → Pt} {n m : Nat}
/-- an edge of P has Q strictly beyond it -/
def Beyond (P : Nat → Pt) (n : Nat) (Q : Nat → Pt) (m : Nat) : Prop := ∃ i, i < n ∧ ∀ j, j < m → ori (P i) (P ((i + 1) % n)) (Q j) < 0
def prev (n i : Nat) : Nat := (i + (n - 1)) % n
theorem prev_lt (hn : 0 < n) (i : Nat) : prev n i < n := Nat.mod_lt _ hn
theorem prev_next {i : Nat} (hi : i < n) : (prev n i + 1) % n = i := by
  unfold prev
  rw [Nat.mod_add_mod, show i + (n - 1) + 1 = i + n by omega, Nat.add_mod_right, Nat.mod_eq_of_lt hi]
theorem next_ne (hn : 3 ≤ n) {i : Nat} (hi : i < n) : (i + 1) % n ≠ i := by
  by_cases h : i + 1 < n
  · rw [Nat.mod_eq_of_lt h]; omega
  · rw [show i + 1 = n by omega, Nat.mod_self]; omega
/-- three corners in a row turn left -/
theorem turn_at (h : Edges P n) (hn : 3 ≤ n) {i : Nat} (hi : i < n) : 0 < ori (P (prev n i)) (P i) (P ((i + 1) % n)) := by
  have := h (prev n i) 2 (prev_lt (by omega) i) (by omega) (by omega)
  rw [prev_next hi] at this
  rwa [show (prev n i + 2) % n = ((prev n i + 1) % n + 1) % n by rw [Nat.mod_add_mod], prev_next hi] at this
theorem left_of (h : Edges P n) {i j : Nat} (hi : i < n) (hj : j < n) : 0 ≤ ori (P i) (P ((i + 1) % n)) (P j) := edges_all h hi hj
theorem extreme_pair {N : Pt} (hn : 0 < n) (hm : 0 < m) (hN : ∀ i j, i < n → j < m → 0 < dt N (sb (Q j) (P i))) :
    ∃ i0 j0, i0 < n ∧ j0 < m ∧ ∀ i j, i < n → j < m → 0 ≤ crs (sb (Q j0) (P i0)) (sb (Q j) (P i)) ∧ (crs (sb (Q j0) (P i0)) (sb (Q j) (P i)) = 0 → dt N (sb (Q j0) (P i0)) ≤ dt N (sb (Q j) (P i))) := by
  let w : Nat → Pt := fun k => sb (Q (k % m)) (P (k / m))
  have hk : ∀ k, k < n * m → k / m < n ∧ k % m < m := fun k hk => ⟨(Nat.div_lt_iff_lt_mul hm).2 hk, Nat.mod_lt _ hm⟩
  have hw : ∀ k, k < n * m → 0 < dt N (w k) := fun k h => hN _ _ (hk k h).1 (hk k h).2
  have hpos : 0 < n * m := Nat.mul_pos hn hm
  obtain ⟨a, a1, _, a3⟩ := least_of (p := fun _ => True) (fun k => crs N (w k) / dt N (w k)) (n * m) ⟨0, hpos, trivial⟩
  obtain ⟨b, b1, b2, b3⟩ := least_of (p := fun k => crs N (w k) / dt N (w k) ≤ crs N (w a) / dt N (w a)) (fun k => dt N (w k)) (n * m) ⟨a, a1, Rat.le_refl⟩
  refine ⟨b / m, b % m, (hk b b1).1, (hk b b1).2, fun i j hi hj => ?_⟩
  obtain ⟨c, hc, ec⟩ : ∃ c, c < n * m ∧ w c = sb (Q j) (P i) := by
    refine ⟨i * m + j, ?_, ?_⟩
    · calc i * m + j < i * m + m := by omega
        _ = (i + 1) * m := by rw [Nat.add_mul, Nat.one_mul]
        _ ≤ n * m := Nat.mul_le_mul_right _ hi
    · show sb (Q ((i * m + j) % m)) (P ((i * m + j) / m)) = _
      rw [Nat.mul_comm i m, Nat.mul_add_mod, Nat.mod_eq_of_lt hj, Nat.mul_add_div hm, Nat.div_eq_of_lt hj, Nat.add_zero]
  rw [← ec]
  have hle : crs N (w b) / dt N (w b) ≤ crs N (w c) / dt N (w c) := Rat.le_trans b2 (a3 c hc trivial)
  have h1 := slope_le (hw b b1) (hw c hc) hle
  refine ⟨h1, fun h0 => b3 c hc ?_⟩
  -- on one ray: the same slope
  have key : dt N N * crs (w b) (w c) = dt N (w b) * crs N (w c) - crs N (w b) * dt N (w c) := by unfold dt crs; grind
  have h0' : crs (w b) (w c) = 0 := h0
  rw [h0', Rat.mul_zero] at key
  have e : crs N (w c) / dt N (w c) = crs N (w b) / dt N (w b) := by
    have p1 := Rat.ne_of_gt (hw b b1); have p2 := Rat.ne_of_gt (hw c hc); grind
  rw [e]; exact b2
/-- one of the two edges that come in at the extreme pair has 0 beyond it -/
theorem beyond_of_line {N : Pt} (hP : Edges P n) (hQ : Edges Q m) (hn : 3 ≤ n) (hm : 3 ≤ m) (hN : ∀ i j, i < n → j < m → 0 < dt N (sb (Q j) (P i))) : Beyond P n Q m ∨ Beyond Q m P n := by
  obtain ⟨i0, j0, hi0, hj0, hx⟩ := extreme_pair (by omega) (by omega) hN
  -- the two directions
  have tP := turn_at hP hn hi0
  have tQ := turn_at hQ hm hj0
  have eP : ∀ i, i < n → 0 ≤ ori (P (prev n i0)) (P i0) (P i) := fun i hi => by have := left_of hP (prev_lt (by omega) i0) hi; rwa [prev_next hi0] at this
  have eQ : ∀ j, j < m → 0 ≤ ori (Q (prev m j0)) (Q j0) (Q j) := fun j hj => by have := left_of hQ (prev_lt (by omega) j0) hj; rwa [prev_next hj0] at this
  have hvN := hN i0 j0 hi0 hj0
  have xB := hx i0 (prev m j0) hi0 (prev_lt (by omega) j0)
  have xA := hx (prev n i0) j0 (prev_lt (by omega) i0) hj0
  have xP : ∀ i, i < n → 0 ≤ crs (sb (Q j0) (P i0)) (sb (P i0) (P i)) := fun i hi => by
    have := (hx i j0 hi hj0).1
    have e : crs (sb (Q j0) (P i0)) (sb (Q j0) (P i)) = crs (sb (Q j0) (P i0)) (sb (P i0) (P i)) := by unfold crs sb; grind
    rwa [e] at this
  have xQ : ∀ j, j < m → 0 ≤ crs (sb (Q j0) (P i0)) (sb (Q j) (Q j0)) := fun j hj => by
    have := (hx i0 j hi0 hj).1
    have e : crs (sb (Q j0) (P i0)) (sb (Q j) (P i0)) = crs (sb (Q j0) (P i0)) (sb (Q j) (Q j0)) := by unfold crs sb; grind
    rwa [e] at this
  -- in words of v, dB, dA
  have step : ∀ (v d e : Pt), 0 < dt N v → 0 ≤ crs d v → (crs d v = 0 → dt N d ≤ 0) → 0 ≤ crs e v → (crs e v = 0 → dt N e ≤ 0) → ¬ (e.1 = 0 ∧ e.2 = 0) → ¬ (d.1 = 0 ∧ d.2 = 0) → 0 ≤ crs e d →
      (∃ u, 0 ≤ crs v u ∧ 0 ≤ crs e u ∧ ¬ crs v u = 0) → 0 < crs d v ∧ ∀ u, 0 ≤ crs v u → 0 ≤ crs e u → 0 ≤ crs d u := by
    intro v d e hv h1 h2 h3 h4 he hd h5 hu
    rcases Rat.le_iff_lt_or_eq.1 h3 with h3 | h3
    · have hpos : 0 < crs d v := by
        rcases Rat.le_iff_lt_or_eq.1 h1 with h1 | h1
        · exact h1
        · exfalso
          have k := h2 h1.symm
          -- d is a multiple of v
          have e1 : crs e v * d.1 = crs e d * v.1 + crs d v * e.1 := by unfold crs; grind
          have e2 : crs e v * d.2 = crs e d * v.2 + crs d v * e.2 := by unfold crs; grind
          rw [← h1] at e1 e2
          have e3 : crs e v * dt N d = crs e d * dt N v := by unfold dt; grind
          have e4 : crs e d * dt N v ≤ 0 := by rw [← e3]; have := Rat.mul_nonneg (Rat.le_of_lt h3) (show 0 ≤ - dt N d by grind); grind
          have e5 : crs e d = 0 := by
            rcases Rat.le_iff_lt_or_eq.1 h5 with h5 | h5
            · have := Rat.mul_pos h5 hv; grind
            · exact h5.symm
          rw [e5] at e1 e2
          refine hd ⟨?_, ?_⟩
          · have : crs e v * d.1 = 0 := by rw [e1]; grind
            rcases Rat.mul_eq_zero.1 this with h | h
            · exact absurd h (Rat.ne_of_gt h3)
            · exact h
          · have : crs e v * d.2 = 0 := by rw [e2]; grind
            rcases Rat.mul_eq_zero.1 this with h | h
            · exact absurd h (Rat.ne_of_gt h3)
            · exact h
      refine ⟨hpos, fun u g1 g2 => ?_⟩
      have key : crs e v * crs d u = crs d v * crs e u + crs e d * crs v u := by unfold crs; grind
      refine nonneg_of_mul h3 ?_
      rw [key]
      have := Rat.mul_nonneg h1 g2; have := Rat.mul_nonneg h5 g1; grind
    · exfalso
      -- e points away from v
      have k := h4 h3.symm
      obtain ⟨u, g1, g2, g3⟩ := hu
      have key : dt N v * crs e u = dt N e * crs v u + dt N u * crs e v := by unfold dt crs; grind
      rw [← h3, Rat.mul_zero, Rat.add_zero] at key
      have hvu : 0 < crs v u := by rcases Rat.le_iff_lt_or_eq.1 g1 with h | h; exact h; exact absurd h.symm g3
      have hle : dt N e * crs v u ≤ 0 := by have := Rat.mul_nonneg (show 0 ≤ - dt N e by grind) g1; grind
      have h0 : dt N v * crs e u = 0 := by have := Rat.mul_nonneg (Rat.le_of_lt hv) g2; grind
      have h6 : dt N e * crs v u = 0 := by rw [← key]; exact h0
      have h7 : dt N e = 0 := by
        rcases Rat.mul_eq_zero.1 h6 with h | h
        · exact h
        · exact absurd h g3
      -- e on the line of v, and at right angles to N: it is 0
      have a1 : dt N v * e.1 = dt N e * v.1 + N.2 * crs e v := by unfold dt crs; grind
      have a2 : dt N v * e.2 = dt N e * v.2 - N.1 * crs e v := by unfold dt crs; grind
      rw [h7, ← h3] at a1 a2
      refine he ⟨?_, ?_⟩
      · have : dt N v * e.1 = 0 := by rw [a1]; grind
        rcases Rat.mul_eq_zero.1 this with h | h
        · exact absurd h (Rat.ne_of_gt hv)
        · exact h
      · have : dt N v * e.2 = 0 := by rw [a2]; grind
        rcases Rat.mul_eq_zero.1 this with h | h
        · exact absurd h (Rat.ne_of_gt hv)
        · exact h
  -- what is known of both
  have b1 : 0 ≤ crs (sb (Q j0) (Q (prev m j0))) (sb (Q j0) (P i0)) := by
    have := xB.1
    have e : crs (sb (Q j0) (P i0)) (sb (Q (prev m j0)) (P i0)) = crs (sb (Q j0) (Q (prev m j0))) (sb (Q j0) (P i0)) := by unfold crs sb; grind
    rwa [e] at this
  have b2 : crs (sb (Q j0) (Q (prev m j0))) (sb (Q j0) (P i0)) = 0 → dt N (sb (Q j0) (Q (prev m j0))) ≤ 0 := fun h => by
    have e : crs (sb (Q j0) (P i0)) (sb (Q (prev m j0)) (P i0)) = crs (sb (Q j0) (Q (prev m j0))) (sb (Q j0) (P i0)) := by unfold crs sb; grind
    have := xB.2 (by rw [e]; exact h)
    unfold dt sb at this ⊢; grind
  have a1 : 0 ≤ crs (sb (P (prev n i0)) (P i0)) (sb (Q j0) (P i0)) := by
    have := xA.1
    have e : crs (sb (Q j0) (P i0)) (sb (Q j0) (P (prev n i0))) = crs (sb (P (prev n i0)) (P i0)) (sb (Q j0) (P i0)) := by unfold crs sb; grind
    rwa [e] at this
  have a2 : crs (sb (P (prev n i0)) (P i0)) (sb (Q j0) (P i0)) = 0 → dt N (sb (P (prev n i0)) (P i0)) ≤ 0 := fun h => by
    have e : crs (sb (Q j0) (P i0)) (sb (Q j0) (P (prev n i0))) = crs (sb (P (prev n i0)) (P i0)) (sb (Q j0) (P i0)) := by unfold crs sb; grind
    have := xA.2 (by rw [e]; exact h)
    unfold dt sb at this ⊢; grind
  have neB : ¬ ((sb (Q j0) (Q (prev m j0))).1 = 0 ∧ (sb (Q j0) (Q (prev m j0))).2 = 0) := fun ⟨g1, g2⟩ => by
    have : ori (Q (prev m j0)) (Q j0) (Q ((j0 + 1) % m)) = 0 := by unfold ori; unfold sb at g1 g2; simp only at g1 g2; rw [g1, g2]; grind
    rw [this] at tQ; exact Rat.lt_irrefl tQ
  have neA : ¬ ((sb (P (prev n i0)) (P i0)).1 = 0 ∧ (sb (P (prev n i0)) (P i0)).2 = 0) := fun ⟨g1, g2⟩ => by
    have : ori (P (prev n i0)) (P i0) (P ((i0 + 1) % n)) = 0 := by
      have h1 : (P i0).1 - (P (prev n i0)).1 = 0 := by unfold sb at g1; simp only at g1; grind
      have h2 : (P i0).2 - (P (prev n i0)).2 = 0 := by unfold sb at g2; simp only at g2; grind
      unfold ori; rw [h1, h2]; grind
    rw [this] at tP; exact Rat.lt_irrefl tP
  -- left of the edges
  have lQ : ∀ j, j < m → 0 ≤ crs (sb (Q j0) (Q (prev m j0))) (sb (Q j) (Q j0)) := fun j hj => by
    have := eQ j hj
    have e : ori (Q (prev m j0)) (Q j0) (Q j) = crs (sb (Q j0) (Q (prev m j0))) (sb (Q j) (Q j0)) := by unfold ori crs sb; grind
    rwa [e] at this
  have lP : ∀ i, i < n → 0 ≤ crs (sb (P (prev n i0)) (P i0)) (sb (P i0) (P i)) := fun i hi => by
    have := eP i hi
    have e : ori (P (prev n i0)) (P i0) (P i) = crs (sb (P (prev n i0)) (P i0)) (sb (P i0) (P i)) := by unfold ori crs sb; grind
    rwa [e] at this
  rcases Rat.le_total (a := 0) (b := crs (sb (P (prev n i0)) (P i0)) (sb (Q j0) (Q (prev m j0)))) with hc | hc
  · -- the edge of Q
    refine .inr ⟨prev m j0, prev_lt (by omega) j0, ?_⟩
    rw [prev_next hj0]
    obtain ⟨s1, s2⟩ := step (sb (Q j0) (P i0)) (sb (Q j0) (Q (prev m j0))) (sb (P (prev n i0)) (P i0)) hvN b1 b2 a1 a2 neA neB hc (by
      by_cases h1 : crs (sb (Q j0) (P i0)) (sb (P i0) (P (prev n i0))) = 0
      · refine ⟨sb (P i0) (P ((i0 + 1) % n)), xP _ (Nat.mod_lt _ (by omega)), lP _ (Nat.mod_lt _ (by omega)), fun h2 => ?_⟩
        -- both neighbours on the line of v: not a corner
        have key : dt N (sb (Q j0) (P i0)) * crs (sb (P i0) (P (prev n i0))) (sb (P i0) (P ((i0 + 1) % n))) = dt N (sb (P i0) (P (prev n i0))) * crs (sb (Q j0) (P i0)) (sb (P i0) (P ((i0 + 1) % n))) - dt N (sb (P i0) (P ((i0 + 1) % n))) * crs (sb (Q j0) (P i0)) (sb (P i0) (P (prev n i0))) := by
          generalize sb (Q j0) (P i0) = v; generalize sb (P i0) (P (prev n i0)) = a; generalize sb (P i0) (P ((i0 + 1) % n)) = b
          unfold dt crs; grind
        rw [h1, h2] at key
        have e : ori (P (prev n i0)) (P i0) (P ((i0 + 1) % n)) = - crs (sb (P i0) (P (prev n i0))) (sb (P i0) (P ((i0 + 1) % n))) := by unfold ori crs sb; grind
        rw [e] at tP
        have h3 : dt N (sb (Q j0) (P i0)) * crs (sb (P i0) (P (prev n i0))) (sb (P i0) (P ((i0 + 1) % n))) = 0 := by rw [key]; grind
        rcases Rat.mul_eq_zero.1 h3 with h | h
        · exact absurd h (Rat.ne_of_gt hvN)
        · rw [h] at tP; exact absurd tP (by decide +kernel)
      · exact ⟨sb (P i0) (P (prev n i0)), xP _ (prev_lt (by omega) i0), lP _ (prev_lt (by omega) i0), h1⟩)
    intro i hi
    have h1 := s2 _ (xP i hi) (lP i hi)
    have e : ori (Q (prev m j0)) (Q j0) (P i) = - crs (sb (Q j0) (Q (prev m j0))) (sb (Q j0) (P i0)) - crs (sb (Q j0) (Q (prev m j0))) (sb (P i0) (P i)) := by unfold ori crs sb; grind
    rw [e]; grind
  · -- the edge of P
    refine .inl ⟨prev n i0, prev_lt (by omega) i0, ?_⟩
    rw [prev_next hi0]
    obtain ⟨s1, s2⟩ := step (sb (Q j0) (P i0)) (sb (P (prev n i0)) (P i0)) (sb (Q j0) (Q (prev m j0))) hvN a1 a2 b1 b2 neB neA (by rw [crs_anti]; grind) (by
      by_cases h1 : crs (sb (Q j0) (P i0)) (sb (Q (prev m j0)) (Q j0)) = 0
      · refine ⟨sb (Q ((j0 + 1) % m)) (Q j0), xQ _ (Nat.mod_lt _ (by omega)), lQ _ (Nat.mod_lt _ (by omega)), fun h2 => ?_⟩
        have key : dt N (sb (Q j0) (P i0)) * crs (sb (Q (prev m j0)) (Q j0)) (sb (Q ((j0 + 1) % m)) (Q j0)) = dt N (sb (Q (prev m j0)) (Q j0)) * crs (sb (Q j0) (P i0)) (sb (Q ((j0 + 1) % m)) (Q j0)) - dt N (sb (Q ((j0 + 1) % m)) (Q j0)) * crs (sb (Q j0) (P i0)) (sb (Q (prev m j0)) (Q j0)) := by
          generalize sb (Q j0) (P i0) = v; generalize sb (Q (prev m j0)) (Q j0) = a; generalize sb (Q ((j0 + 1) % m)) (Q j0) = b
          unfold dt crs; grind
        rw [h1, h2] at key
        have e : ori (Q (prev m j0)) (Q j0) (Q ((j0 + 1) % m)) = - crs (sb (Q (prev m j0)) (Q j0)) (sb (Q ((j0 + 1) % m)) (Q j0)) := by unfold ori crs sb; grind
        rw [e] at tQ
        have h3 : dt N (sb (Q j0) (P i0)) * crs (sb (Q (prev m j0)) (Q j0)) (sb (Q ((j0 + 1) % m)) (Q j0)) = 0 := by rw [key]; grind
        rcases Rat.mul_eq_zero.1 h3 with h | h
        · exact absurd h (Rat.ne_of_gt hvN)
        · rw [h] at tQ; exact absurd tQ (by decide +kernel)
      · exact ⟨sb (Q (prev m j0)) (Q j0), xQ _ (prev_lt (by omega) j0), lQ _ (prev_lt (by omega) j0), h1⟩)
    intro j hj
    have h1 := s2 _ (xQ j hj) (lQ j hj)
    have e : ori (P (prev n i0)) (P i0) (Q j) = - crs (sb (P (prev n i0)) (P i0)) (sb (Q j0) (P i0)) - crs (sb (P (prev n i0)) (P i0)) (sb (Q j) (Q j0)) := by unfold ori crs sb; grind
    rw [e]; grind
end
end Go.Proofs.YtdhpmdkfmgpcmaaDoor.poly

/- Plain geometry, no program: two convex polygons touch (a corner inside, or edges that cross) iff no edge of either has the other one beyond it. -/
namespace Go.Proofs.YtdhpmdkfmgpcmaaDoor.poly
section
variable {P Q : Nat → Pt} {n m : Nat}
/-- the point at a part of the way -/
def at_ (u v : Pt) (t : Rat) : Pt := (u.1 + t * (v.1 - u.1), u.2 + t * (v.2 - u.2))
theorem ori_at (a b u v : Pt) (t : Rat) : ori a b (at_ u v t) = (1 - t) * ori a b u + t * ori a b v := by unfold ori at_; grind
/-- on the segment from a to b -/
def On (a b z : Pt) : Prop := ∃ s : Rat, 0 ≤ s ∧ s ≤ 1 ∧ z = at_ a b s
theorem ne_of_ori {a b c : Pt} (h : ori a b c ≠ 0) : ¬ (b.1 - a.1 = 0 ∧ b.2 - a.2 = 0) := fun ⟨h1, h2⟩ => h (by unfold ori; rw [h1, h2]; grind)
/-- a point on a line, by its part of the way -/
theorem on_line {a b z : Pt} (hab : ¬ (b.1 - a.1 = 0 ∧ b.2 - a.2 = 0)) (h : ori a b z = 0) : ∃ s : Rat, z = at_ a b s := by
  unfold ori at h
  by_cases h1 : b.1 - a.1 = 0
  · have h2 : b.2 - a.2 ≠ 0 := fun h2 => hab ⟨h1, h2⟩
    refine ⟨(z.2 - a.2) / (b.2 - a.2), ?_⟩
    rw [h1] at h
    have h3 : (b.2 - a.2) * (z.1 - a.1) = 0 := by grind
    have h4 : z.1 - a.1 = 0 := by
      rcases Rat.mul_eq_zero.1 h3 with h | h
      · exact absurd h h2
      · exact h
    unfold at_
    rw [h1]
    ext
    · show z.1 = a.1 + _ * 0; grind
    · show z.2 = a.2 + (z.2 - a.2) / (b.2 - a.2) * (b.2 - a.2); grind
  · refine ⟨(z.1 - a.1) / (b.1 - a.1), ?_⟩
    unfold at_
    ext
    · show z.1 = a.1 + (z.1 - a.1) / (b.1 - a.1) * (b.1 - a.1); grind
    · show z.2 = a.2 + (z.1 - a.1) / (b.1 - a.1) * (b.2 - a.2); grind
theorem edge_ne (h : Edges P n) (hn : 3 ≤ n) {i : Nat} (hi : i < n) : ¬ ((P ((i + 1) % n)).1 - (P i).1 = 0 ∧ (P ((i + 1) % n)).2 - (P i).2 = 0) :=
  ne_of_ori (c := P ((i + 2) % n)) (Rat.ne_of_gt (h i 2 hi (by omega) (by omega)))
/-- inside and on an edge's line: on the edge -/
theorem on_edge (h : Edges P n) (hn : 3 ≤ n) {i : Nat} (hi : i < n) {z : Pt} (hz : Inside P n z) (h0 : ori (P i) (P ((i + 1) % n)) z = 0) : On (P i) (P ((i + 1) % n)) z := by
  obtain ⟨s, rfl⟩ := on_line (edge_ne h hn hi) h0
  refine ⟨s, ?_, ?_, rfl⟩
  · have h1 := hz (prev n i) (prev_lt (by omega) i)
    rw [prev_next hi] at h1
    have h2 := turn_at h hn hi
    have e : ori (P (prev n i)) (P i) (at_ (P i) (P ((i + 1) % n)) s) = ori (P (prev n i)) (P i) (P ((i + 1) % n)) * s := by
      rw [ori_at, ori_bb]; grind
    rw [e] at h1
    exact nonneg_of_mul h2 h1
  · have h1 := hz ((i + 1) % n) (Nat.mod_lt _ (by omega))
    have h2 : 0 < ori (P ((i + 1) % n)) (P (((i + 1) % n + 1) % n)) (P i) := by
      have := turn_at h hn (Nat.mod_lt (i + 1) (show 0 < n by omega))
      have e : prev n ((i + 1) % n) = i := by
        unfold prev
        rw [Nat.mod_add_mod, show i + 1 + (n - 1) = i + n by omega, Nat.add_mod_right, Nat.mod_eq_of_lt hi]
      rw [e] at this
      rwa [ori_rot] at this
    have e : ori (P ((i + 1) % n)) (P (((i + 1) % n + 1) % n)) (at_ (P i) (P ((i + 1) % n)) s) = ori (P ((i + 1) % n)) (P (((i + 1) % n + 1) % n)) (P i) * (1 - s) := by
      rw [ori_at, ori_aa]; grind
    rw [e] at h1
    have := nonneg_of_mul h2 h1
    grind
/-- from a point inside to one that is not: over an edge -/
theorem leave (h : Edges P n) (hn : 3 ≤ n) {u v : Pt} (hu : Inside P n u) (hv : ¬ Inside P n v) : ∃ i z, i < n ∧ On (P i) (P ((i + 1) % n)) z ∧ On u v z ∧ Inside P n z := by
  have hex : ∃ k, k < n ∧ ori (P k) (P ((k + 1) % n)) v < 0 := by
    refine Classical.byContradiction fun hc => hv fun k hk => Rat.not_lt.1 fun hh => hc ⟨k, hk, hh⟩
  obtain ⟨i, hi, hiv, hmin⟩ := least_of (p := fun k => ori (P k) (P ((k + 1) % n)) v < 0) (fun k => ori (P k) (P ((k + 1) % n)) u / (ori (P k) (P ((k + 1) % n)) u - ori (P k) (P ((k + 1) % n)) v)) n hex
  let t : Rat := ori (P i) (P ((i + 1) % n)) u / (ori (P i) (P ((i + 1) % n)) u - ori (P i) (P ((i + 1) % n)) v)
  have hiu := hu i hi
  have hd : 0 < ori (P i) (P ((i + 1) % n)) u - ori (P i) (P ((i + 1) % n)) v := by grind
  have t0 : 0 ≤ t := div_nonneg hiu hd
  have et : t * (ori (P i) (P ((i + 1) % n)) u - ori (P i) (P ((i + 1) % n)) v) = ori (P i) (P ((i + 1) % n)) u := by
    have := Rat.ne_of_gt hd; show _ / _ * _ = _; grind
  have t1 : t ≤ 1 := by
    refine Rat.not_lt.1 fun hh => ?_
    have := Rat.mul_pos (show 0 < t - 1 by grind) hd
    grind
  have hz : Inside P n (at_ u v t) := by
    intro k hk
    rw [ori_at]
    have hku := hu k hk
    by_cases hkv : ori (P k) (P ((k + 1) % n)) v < 0
    · have hle := hmin k hk hkv
      have hdk : 0 < ori (P k) (P ((k + 1) % n)) u - ori (P k) (P ((k + 1) % n)) v := by grind
      have ek : ori (P k) (P ((k + 1) % n)) u / (ori (P k) (P ((k + 1) % n)) u - ori (P k) (P ((k + 1) % n)) v) * (ori (P k) (P ((k + 1) % n)) u - ori (P k) (P ((k + 1) % n)) v) = ori (P k) (P ((k + 1) % n)) u := by
        have := Rat.ne_of_gt hdk; grind
      have := Rat.mul_nonneg (show 0 ≤ ori (P k) (P ((k + 1) % n)) u / (ori (P k) (P ((k + 1) % n)) u - ori (P k) (P ((k + 1) % n)) v) - t by show 0 ≤ _ - (_ / _); grind) (Rat.le_of_lt hdk)
      grind
    · have hkv := Rat.not_lt.1 hkv
      have := Rat.mul_nonneg (show 0 ≤ 1 - t by grind) hku
      have := Rat.mul_nonneg t0 hkv
      grind
  refine ⟨i, at_ u v t, hi, on_edge h hn hi hz ?_, ⟨t, t0, t1, rfl⟩, hz⟩
  rw [ori_at]; grind
/-! ### edges that cross -/
def onB (a b p : Pt) (side : Rat) : Prop := side = 0 ∧ dt (sb a p) (sb b p) ≤ 0
def Cross (a b c d : Pt) : Prop :=
  (ori a b c * ori a b d < 0 ∧ ori c d a * ori c d b < 0) ∨ onB a b c (ori a b c) ∨ onB a b d (ori a b d) ∨ onB c d a (ori c d a) ∨ onB c d b (ori c d b)
theorem on_onB {a b z : Pt} (h : On a b z) : onB a b z (ori a b z) := by
  obtain ⟨s, h1, h2, rfl⟩ := h
  refine ⟨by rw [ori_at, ori_aa, ori_bb]; grind, ?_⟩
  have e : dt (sb a (at_ a b s)) (sb b (at_ a b s)) = - (s * (1 - s) * dt (sb b a) (sb b a)) := by unfold dt sb at_; grind
  rw [e]
  have h3 := Rat.mul_nonneg (Rat.mul_nonneg h1 (show 0 ≤ 1 - s by grind)) (show 0 ≤ dt (sb b a) (sb b a) by unfold dt; have := sq_nonneg (sb b a).1; have := sq_nonneg (sb b a).2; grind)
  grind
theorem onB_on {a b p : Pt} (hab : ¬ (b.1 - a.1 = 0 ∧ b.2 - a.2 = 0)) (h : onB a b p (ori a b p)) : On a b p := by
  obtain ⟨s, rfl⟩ := on_line hab h.1
  have e : dt (sb a (at_ a b s)) (sb b (at_ a b s)) = - (dt (sb b a) (sb b a) * (s * (1 - s))) := by unfold dt sb at_; grind
  have h2 := h.2
  rw [e] at h2
  have hp : 0 < dt (sb b a) (sb b a) := dt_pos (by unfold sb; exact hab)
  have h3 : 0 ≤ s * (1 - s) := nonneg_of_mul hp (by grind)
  refine ⟨s, Rat.not_lt.1 fun hh => ?_, Rat.not_lt.1 fun hh => ?_, rfl⟩
  · have := Rat.mul_pos (show 0 < -s by grind) (show 0 < 1 - s by grind); grind
  · have := Rat.mul_pos (show 0 < s by grind) (show 0 < s - 1 by grind); grind
theorem lin0 {x y t : Rat} (h : (1 - t) * x + t * y = 0) (hx : x ≠ 0) (hy : y ≠ 0) (h0 : 0 ≤ t) (h1 : t ≤ 1) : x * y < 0 := by
  have t0 : t ≠ 0 := fun e => hx (by rw [e] at h; grind)
  have t1 : t ≠ 1 := fun e => hy (by rw [e] at h; grind)
  have p0 : 0 < t := by rcases Rat.le_iff_lt_or_eq.1 h0 with h | h; exact h; exact absurd h.symm t0
  have p1 : 0 < 1 - t := by rcases Rat.le_iff_lt_or_eq.1 h1 with h | h; grind; exact absurd h t1
  have e : t * (x * y) = - ((1 - t) * (x * x)) := by grind
  have := Rat.mul_pos p1 (sq_pos hx)
  refine Rat.not_le.1 fun hh => ?_
  have := Rat.mul_nonneg (Rat.le_of_lt p0) hh
  grind
/-- two segments with a point in common -/
theorem cross_of {a b c d z : Pt} (hab : ¬ (b.1 - a.1 = 0 ∧ b.2 - a.2 = 0)) (_hcd : ¬ (d.1 - c.1 = 0 ∧ d.2 - c.2 = 0)) (h1 : On a b z) (h2 : On c d z) : Cross a b c d := by
  obtain ⟨s, s0, s1, hs⟩ := h1
  obtain ⟨t, t0, t1, ht⟩ := h2
  have e1 : (1 - t) * ori a b c + t * ori a b d = 0 := by rw [← ori_at, ← ht, hs, ori_at, ori_aa, ori_bb]; grind
  have e2 : (1 - s) * ori c d a + s * ori c d b = 0 := by rw [← ori_at, ← hs, ht, ori_at, ori_aa, ori_bb]; grind
  have e3 : ori a b c - ori a b d = - (ori c d a - ori c d b) := by unfold ori; grind
  have za : s = 0 → On c d a := fun e => ⟨t, t0, t1, by rw [← ht, hs, e]; unfold at_; ext <;> grind⟩
  have zb : s = 1 → On c d b := fun e => ⟨t, t0, t1, by rw [← ht, hs, e]; unfold at_; ext <;> grind⟩
  have zc : t = 0 → On a b c := fun e => ⟨s, s0, s1, by rw [← hs, ht, e]; unfold at_; ext <;> grind⟩
  have zd : t = 1 → On a b d := fun e => ⟨s, s0, s1, by rw [← hs, ht, e]; unfold at_; ext <;> grind⟩
  by_cases hp : ori a b c = 0
  · by_cases hq : ori a b d = 0
    · -- all on one line
      obtain ⟨g, hg⟩ := on_line hab hp
      obtain ⟨k, hk⟩ := on_line hab hq
      have hE : 0 < dt (sb b a) (sb b a) := dt_pos (by unfold sb; exact hab)
      have hst : s = g + t * (k - g) := by
        have h3 : at_ a b s = at_ a b (g + t * (k - g)) := by
          rw [← hs, ht, hg, hk]; unfold at_; ext <;> simp only <;> grind
        have h4 : (s - (g + t * (k - g))) * dt (sb b a) (sb b a) = 0 := by
          have x1 := congrArg Prod.fst h3; have x2 := congrArg Prod.snd h3
          unfold at_ at x1 x2; simp only at x1 x2
          unfold dt sb; simp only; grind
        rcases Rat.mul_eq_zero.1 h4 with h | h
        · grind
        · exact absurd h (Rat.ne_of_gt hE)
      by_cases c1 : onB a b c (ori a b c)
      · exact .inr (.inl c1)
      by_cases c2 : onB a b d (ori a b d)
      · exact .inr (.inr (.inl c2))
      by_cases c3 : onB c d a (ori c d a)
      · exact .inr (.inr (.inr (.inl c3)))
      by_cases c4 : onB c d b (ori c d b)
      · exact .inr (.inr (.inr (.inr c4)))
      exfalso
      have r0 : ori c d a = 0 := by rw [hg, hk]; unfold ori at_; grind
      have q0 : ori c d b = 0 := by rw [hg, hk]; unfold ori at_; grind
      have d1 : 0 < dt (sb b a) (sb b a) * (g * (g - 1)) := by
        have : ¬ dt (sb a c) (sb b c) ≤ 0 := fun hh => c1 ⟨hp, hh⟩
        have e : dt (sb a c) (sb b c) = dt (sb b a) (sb b a) * (g * (g - 1)) := by rw [hg]; unfold dt sb at_; grind
        rw [← e]; exact Rat.not_le.1 this
      have d2 : 0 < dt (sb b a) (sb b a) * (k * (k - 1)) := by
        have : ¬ dt (sb a d) (sb b d) ≤ 0 := fun hh => c2 ⟨hq, hh⟩
        have e : dt (sb a d) (sb b d) = dt (sb b a) (sb b a) * (k * (k - 1)) := by rw [hk]; unfold dt sb at_; grind
        rw [← e]; exact Rat.not_le.1 this
      have d3 : 0 < dt (sb b a) (sb b a) * (g * k) := by
        have : ¬ dt (sb c a) (sb d a) ≤ 0 := fun hh => c3 ⟨r0, hh⟩
        have e : dt (sb c a) (sb d a) = dt (sb b a) (sb b a) * (g * k) := by rw [hg, hk]; unfold dt sb at_; grind
        rw [← e]; exact Rat.not_le.1 this
      have d4 : 0 < dt (sb b a) (sb b a) * ((g - 1) * (k - 1)) := by
        have : ¬ dt (sb c b) (sb d b) ≤ 0 := fun hh => c4 ⟨q0, hh⟩
        have e : dt (sb c b) (sb d b) = dt (sb b a) (sb b a) * ((g - 1) * (k - 1)) := by rw [hg, hk]; unfold dt sb at_; grind
        rw [← e]; exact Rat.not_le.1 this
      have f1 := pos_of_mul hE d1; have f2 := pos_of_mul hE d2; have f3 := pos_of_mul hE d3; have f4 := pos_of_mul hE d4
      by_cases hg0 : 0 < g
      · have hg1 : 0 < g - 1 := pos_of_mul hg0 f1
        have hk1 : 0 < k - 1 := pos_of_mul hg1 f4
        have := Rat.mul_nonneg (show 0 ≤ 1 - t by grind) (Rat.le_of_lt hg1)
        have := Rat.mul_nonneg t0 (Rat.le_of_lt hk1)
        have hs1 : s = 1 := by
          refine Rat.le_antisymm s1 ?_
          rw [hst]; grind
        exact c4 (on_onB (zb hs1))
      · have hgn : g ≠ 0 := fun e => by rw [e] at f3; grind
        have hg0 : 0 < - g := by
          rcases Rat.le_iff_lt_or_eq.1 (Rat.not_lt.1 hg0) with h | h
          · grind
          · exact absurd h hgn
        have hk0 : 0 < - k := pos_of_mul hg0 (by grind)
        have := Rat.mul_nonneg (show 0 ≤ 1 - t by grind) (Rat.le_of_lt hg0)
        have := Rat.mul_nonneg t0 (Rat.le_of_lt hk0)
        have hs1 : s = 0 := by
          refine Rat.le_antisymm ?_ s0
          rw [hst]; grind
        exact c3 (on_onB (za hs1))
    · have ht0 : t = 0 := by
        rw [hp] at e1
        have : t * ori a b d = 0 := by grind
        rcases Rat.mul_eq_zero.1 this with h | h
        · exact h
        · exact absurd h hq
      exact .inr (.inl (on_onB (zc ht0)))
  · by_cases hq : ori a b d = 0
    · have ht1 : t = 1 := by
        rw [hq] at e1
        have : (1 - t) * ori a b c = 0 := by grind
        rcases Rat.mul_eq_zero.1 this with h | h
        · grind
        · exact absurd h hp
      exact .inr (.inr (.inl (on_onB (zd ht1))))
    · have hpq := lin0 e1 hp hq t0 t1
      by_cases hr : ori c d a = 0
      · have hsd : ori c d b ≠ 0 := fun e => by rw [hr, e] at e3; have : ori a b c = ori a b d := by grind
                                                rw [this] at hpq; have := sq_nonneg (ori a b d); grind
        have hs0 : s = 0 := by
          rw [hr] at e2
          have : s * ori c d b = 0 := by grind
          rcases Rat.mul_eq_zero.1 this with h | h
          · exact h
          · exact absurd h hsd
        exact .inr (.inr (.inr (.inl (on_onB (za hs0)))))
      · by_cases hsd : ori c d b = 0
        · have hs1 : s = 1 := by
            rw [hsd] at e2
            have : (1 - s) * ori c d a = 0 := by grind
            rcases Rat.mul_eq_zero.1 this with h | h
            · grind
            · exact absurd h hr
          exact .inr (.inr (.inr (.inr (on_onB (zb hs1)))))
        · exact .inl ⟨hpq, lin0 e2 hr hsd s0 s1⟩
/-- a line that keeps two segments apart: they do not cross -/
theorem cross_not {x y a b c d : Pt} (hab : ¬ (b.1 - a.1 = 0 ∧ b.2 - a.2 = 0)) (hcd : ¬ (d.1 - c.1 = 0 ∧ d.2 - c.2 = 0)) (ha : 0 ≤ ori x y a) (hb : 0 ≤ ori x y b) (hc : ori x y c < 0) (hd : ori x y d < 0) : ¬ Cross a b c d := by
  have seg1 : ∀ z, On a b z → 0 ≤ ori x y z := fun z ⟨s, h1, h2, e⟩ => by
    rw [e, ori_at]
    have := Rat.mul_nonneg (show 0 ≤ 1 - s by grind) ha; have := Rat.mul_nonneg h1 hb; grind
  have seg2 : ∀ z, On c d z → ori x y z < 0 := fun z ⟨s, h1, h2, e⟩ => by
    rw [e, ori_at]
    have h3 := Rat.mul_nonneg (show 0 ≤ 1 - s by grind) (show 0 ≤ - ori x y c by grind)
    have h4 := Rat.mul_nonneg h1 (show 0 ≤ - ori x y d by grind)
    by_cases hs : s = 0
    · rw [hs]; grind
    · have := Rat.mul_pos (show 0 < s by rcases Rat.le_iff_lt_or_eq.1 h1 with h | h; exact h; exact absurd h.symm hs) (show 0 < - ori x y d by grind)
      grind
  rintro (⟨h1, h2⟩ | h | h | h | h)
  · have key : ori a b c * ori x y d - ori a b d * ori x y c = ori c d b * ori x y a - ori c d a * ori x y b := by unfold ori; grind
    have e3 : ori a b c - ori a b d = ori c d b - ori c d a := by unfold ori; grind
    rcases Rat.le_total (a := 0) (b := ori a b c) with hp | hp
    · have hp' : 0 < ori a b c := by rcases Rat.le_iff_lt_or_eq.1 hp with h | h; exact h; rw [← h] at h1; grind
      have hq : 0 < - ori a b d := pos_of_mul hp' (by grind)
      have hr : 0 ≤ ori c d b := by
        refine Rat.not_lt.1 fun hh => ?_
        have : 0 < ori c d a := by
          refine Rat.not_le.1 fun h5 => ?_
          have := Rat.mul_nonneg (show 0 ≤ - ori c d a by grind) (show 0 ≤ - ori c d b by grind); grind
        grind
      have hs : 0 ≤ - ori c d a := by
        refine Rat.not_lt.1 fun hh => ?_
        have := Rat.mul_nonneg (show 0 ≤ ori c d a by grind) hr; grind
      have := Rat.mul_pos hp' (show 0 < - ori x y d by grind); have := Rat.mul_pos hq (show 0 < - ori x y c by grind)
      have := Rat.mul_nonneg hr ha; have := Rat.mul_nonneg hs hb
      grind
    · have hp' : 0 < - ori a b c := by rcases Rat.le_iff_lt_or_eq.1 hp with h | h; grind; rw [h] at h1; grind
      have hq : 0 < ori a b d := pos_of_mul hp' (by grind)
      have hr : 0 ≤ - ori c d b := by
        refine Rat.not_lt.1 fun hh => ?_
        have : 0 < - ori c d a := by
          refine Rat.not_le.1 fun h5 => ?_
          have := Rat.mul_nonneg (show 0 ≤ ori c d a by grind) (show 0 ≤ ori c d b by grind); grind
        grind
      have hs : 0 ≤ ori c d a := by
        refine Rat.not_lt.1 fun hh => ?_
        have := Rat.mul_nonneg (show 0 ≤ - ori c d a by grind) hr; grind
      have := Rat.mul_pos hp' (show 0 < - ori x y d by grind); have := Rat.mul_pos hq (show 0 < - ori x y c by grind)
      have := Rat.mul_nonneg hr ha; have := Rat.mul_nonneg hs hb
      grind
  · have := seg1 _ (onB_on hab h); grind
  · have := seg1 _ (onB_on hab h); grind
  · have := seg2 _ (onB_on hcd h); grind
  · have := seg2 _ (onB_on hcd h); grind
/-- a corner inside, or edges that cross -/
def Touch (P : Nat → Pt) (n : Nat) (Q : Nat → Pt) (m : Nat) : Prop := Inside P n (Q 0) ∨ Inside Q m (P 0) ∨ ∃ i k, i < n ∧ k < m ∧ Cross (P i) (P ((i + 1) % n)) (Q k) (Q ((k + 1) % m))
theorem inside_neg (h : Edges Q m) (hm : 3 ≤ m) {x y p : Pt} (hp : Inside Q m p) (hn : ∀ j, j < m → ori x y (Q j) < 0) : ori x y p < 0 := by
  obtain ⟨i, i2, hi, t1, t2, t3⟩ := (inside_iff h hm p).1 hp
  have hT := ring_of_edges h 0 (i - 1) i (by omega) (by omega) hi
  have key := ori_bary (Q 0) (Q (i - 1)) (Q i) x y p
  have s := ori_bary (Q 0) (Q (i - 1)) (Q i) (Q 0) (Q (i - 1)) p
  have sum : ori (Q (i - 1)) (Q i) p + ori (Q i) (Q 0) p + ori (Q 0) (Q (i - 1)) p = ori (Q 0) (Q (i - 1)) (Q i) := by unfold ori; grind
  have n0 := hn 0 (by omega); have n1 := hn (i - 1) (by omega); have n2 := hn i hi
  refine Rat.not_le.1 fun hh => ?_
  have a0 := Rat.mul_nonneg (Rat.le_of_lt hT) hh
  have m0 := Rat.mul_nonneg t2 (show 0 ≤ - ori x y (Q 0) by grind)
  have m1 := Rat.mul_nonneg t3 (show 0 ≤ - ori x y (Q (i - 1)) by grind)
  have m2 := Rat.mul_nonneg t1 (show 0 ≤ - ori x y (Q i) by grind)
  -- all three weights are 0
  have z0 : ori (Q (i - 1)) (Q i) p * (- ori x y (Q 0)) = 0 := by grind
  have z1 : ori (Q i) (Q 0) p * (- ori x y (Q (i - 1))) = 0 := by grind
  have z2 : ori (Q 0) (Q (i - 1)) p * (- ori x y (Q i)) = 0 := by grind
  have w0 : ori (Q (i - 1)) (Q i) p = 0 := by rcases Rat.mul_eq_zero.1 z0 with h | h; exact h; grind
  have w1 : ori (Q i) (Q 0) p = 0 := by rcases Rat.mul_eq_zero.1 z1 with h | h; exact h; grind
  have w2 : ori (Q 0) (Q (i - 1)) p = 0 := by rcases Rat.mul_eq_zero.1 z2 with h | h; exact h; grind
  rw [w0, w1, w2] at sum; grind
theorem touch_not (hP : Edges P n) (hQ : Edges Q m) (hn : 3 ≤ n) (hm : 3 ≤ m) (h : Touch P n Q m) : ¬ Beyond P n Q m := by
  rintro ⟨i, hi, hj⟩
  rcases h with h | h | ⟨a, k, ha, hk, hc⟩
  · have := h i hi; have := hj 0 (by omega); grind
  · have := inside_neg hQ hm h hj; have := left_of hP hi (show 0 < n by omega); grind
  · exact cross_not (edge_ne hP hn ha) (edge_ne hQ hm hk) (left_of hP hi ha) (left_of hP hi (Nat.mod_lt _ (by omega))) (hj k hk) (hj _ (Nat.mod_lt _ (by omega))) hc
theorem cross_sym {a b c d : Pt} (h : Cross a b c d) : Cross c d a b := by
  rcases h with ⟨h1, h2⟩ | h | h | h | h
  · exact .inl ⟨h2, h1⟩
  · exact .inr (.inr (.inr (.inl h)))
  · exact .inr (.inr (.inr (.inr h)))
  · exact .inr (.inl h)
  · exact .inr (.inr (.inl h))
theorem touch_sym (h : Touch P n Q m) : Touch Q m P n := by
  rcases h with h | h | ⟨a, k, ha, hk, hc⟩
  · exact .inr (.inl h)
  · exact .inl h
  · exact .inr (.inr ⟨k, a, hk, ha, cross_sym hc⟩)
theorem on_part {a b z u w : Pt} (h : On a b z) (g : On z u w) (e : u = a) : On a b w := by
  obtain ⟨s, s0, s1, rfl⟩ := h
  obtain ⟨t, t0, t1, rfl⟩ := g
  subst e
  refine ⟨s * (1 - t), Rat.mul_nonneg s0 (by grind), ?_, by unfold at_; ext <;> simp only <;> grind⟩
  have := Rat.mul_nonneg s0 t0
  grind
theorem inside_at {u v : Pt} {t : Rat} (hu : Inside P n u) (hv : Inside P n v) (t0 : 0 ≤ t) (t1 : t ≤ 1) : Inside P n (at_ u v t) := by
  intro k hk
  rw [ori_at]
  have := Rat.mul_nonneg (show 0 ≤ 1 - t by grind) (hu k hk); have := Rat.mul_nonneg t0 (hv k hk); grind
theorem corner_in (h : Edges P n) {j : Nat} (hj : j < n) : Inside P n (P j) := fun _ hi => left_of h hi hj
/-- a common point: they touch -/
theorem touch_of (hP : Edges P n) (hQ : Edges Q m) (hn : 3 ≤ n) (hm : 3 ≤ m) {x : Pt} (h1 : Inside P n x) (h2 : Inside Q m x) : Touch P n Q m := by
  by_cases c1 : Inside P n (Q 0)
  · exact .inl c1
  by_cases c2 : Inside Q m (P 0)
  · exact .inr (.inl c2)
  refine .inr (.inr ?_)
  obtain ⟨i, z, hi, hz1, hz2, _⟩ := leave hP hn h1 c1
  have hzQ : Inside Q m z := by
    obtain ⟨t, t0, t1, rfl⟩ := hz2
    exact inside_at h2 (corner_in hQ (by omega)) t0 t1
  by_cases c3 : Inside Q m (P i)
  · -- on from corner i to corner 0: somewhere out of Q
    have walk : ∀ d j, j + d = n → j < n → Inside Q m (P j) → ∃ j, j < n ∧ Inside Q m (P j) ∧ ¬ Inside Q m (P ((j + 1) % n)) := by
      intro d
      induction d with
      | zero => intro j h hj; omega
      | succ d ih =>
        intro j h hj hin
        by_cases c : Inside Q m (P ((j + 1) % n))
        · by_cases hj1 : j + 1 < n
          · rw [Nat.mod_eq_of_lt hj1] at c
            exact ih (j + 1) (by omega) hj1 c
          · rw [show j + 1 = n by omega, Nat.mod_self] at c
            exact absurd c c2
        · exact ⟨j, hj, hin, c⟩
    obtain ⟨j, hj, hin, hout⟩ := walk (n - i) i (by omega) hi c3
    obtain ⟨k, z', hk, g1, g2, _⟩ := leave hQ hm hin hout
    exact ⟨j, k, hj, hk, cross_of (edge_ne hP hn hj) (edge_ne hQ hm hk) g2 g1⟩
  · obtain ⟨k, z', hk, g1, g2, _⟩ := leave hQ hm hzQ c3
    exact ⟨i, k, hi, hk, cross_of (edge_ne hP hn hi) (edge_ne hQ hm hk) (on_part hz1 g2 rfl) g1⟩
/-- no edge keeps them apart: a common point -/
theorem common_of (hP : Edges P n) (hQ : Edges Q m) (hn : 3 ≤ n) (hm : 3 ≤ m) (h1 : ¬ Beyond P n Q m) (h2 : ¬ Beyond Q m P n) : ∃ x, Inside P n x ∧ Inside Q m x := by
  let w : Nat → Pt := fun k => sb (Q (k % m)) (P (k / m))
  have hk : ∀ k, k < n * m → k / m < n ∧ k % m < m := fun k hk => ⟨(Nat.div_lt_iff_lt_mul (by omega)).2 hk, Nat.mod_lt _ (by omega)⟩
  rcases gordan ((List.range (n * m)).map w) with ⟨N, hN⟩ | ⟨a, b, c, ha, hb, hc, x, y, z, x0, y0, z0, hs, e1, e2⟩
  · exfalso
    rcases beyond_of_line hP hQ hn hm (N := N) (fun i j hi hj => by
      refine hN _ (List.mem_map.2 ⟨i * m + j, List.mem_range.2 ?_, ?_⟩)
      · calc i * m + j < i * m + m := by omega
          _ = (i + 1) * m := by rw [Nat.add_mul, Nat.one_mul]
          _ ≤ n * m := Nat.mul_le_mul_right _ hi
      · show sb (Q ((i * m + j) % m)) (P ((i * m + j) / m)) = _
        rw [Nat.mul_comm i m, Nat.mul_add_mod, Nat.mod_eq_of_lt hj, Nat.mul_add_div (by omega), Nat.div_eq_of_lt hj, Nat.add_zero]) with h | h
    · exact h1 h
    · exact h2 h
  · obtain ⟨ka, hka, rfl⟩ := List.mem_map.1 ha
    obtain ⟨kb, hkb, rfl⟩ := List.mem_map.1 hb
    obtain ⟨kc, hkc, rfl⟩ := List.mem_map.1 hc
    obtain ⟨a1, a2⟩ := hk ka (List.mem_range.1 hka)
    obtain ⟨b1, b2⟩ := hk kb (List.mem_range.1 hkb)
    obtain ⟨c1, c2⟩ := hk kc (List.mem_range.1 hkc)
    have hne := Rat.ne_of_gt hs
    -- the weighted mean
    have mean : ∀ {R : Nat → Pt} {r : Nat} (u v t : Pt), (∀ k, k < r → 0 ≤ ori (R k) (R ((k + 1) % r)) u ∧ 0 ≤ ori (R k) (R ((k + 1) % r)) v ∧ 0 ≤ ori (R k) (R ((k + 1) % r)) t) → Inside R r ((x * u.1 + y * v.1 + z * t.1) / (x + y + z), (x * u.2 + y * v.2 + z * t.2) / (x + y + z)) := by
      intro R r u v t hh k hk
      obtain ⟨g1, g2, g3⟩ := hh k hk
      have e : (x + y + z) * ori (R k) (R ((k + 1) % r)) ((x * u.1 + y * v.1 + z * t.1) / (x + y + z), (x * u.2 + y * v.2 + z * t.2) / (x + y + z)) = x * ori (R k) (R ((k + 1) % r)) u + y * ori (R k) (R ((k + 1) % r)) v + z * ori (R k) (R ((k + 1) % r)) t := by
        unfold ori; simp only; grind
      refine nonneg_of_mul hs ?_
      rw [e]
      have := Rat.mul_nonneg x0 g1; have := Rat.mul_nonneg y0 g2; have := Rat.mul_nonneg z0 g3; grind
    refine ⟨((x * (P (ka / m)).1 + y * (P (kb / m)).1 + z * (P (kc / m)).1) / (x + y + z), (x * (P (ka / m)).2 + y * (P (kb / m)).2 + z * (P (kc / m)).2) / (x + y + z)), mean _ _ _ fun k hk => ⟨left_of hP hk a1, left_of hP hk b1, left_of hP hk c1⟩, ?_⟩
    have g1 : x * (Q (ka % m)).1 + y * (Q (kb % m)).1 + z * (Q (kc % m)).1 = x * (P (ka / m)).1 + y * (P (kb / m)).1 + z * (P (kc / m)).1 := by
      have : x * ((Q (ka % m)).1 - (P (ka / m)).1) + y * ((Q (kb % m)).1 - (P (kb / m)).1) + z * ((Q (kc % m)).1 - (P (kc / m)).1) = 0 := e1
      grind
    have g2 : x * (Q (ka % m)).2 + y * (Q (kb % m)).2 + z * (Q (kc % m)).2 = x * (P (ka / m)).2 + y * (P (kb / m)).2 + z * (P (kc / m)).2 := by
      have : x * ((Q (ka % m)).2 - (P (ka / m)).2) + y * ((Q (kb % m)).2 - (P (kb / m)).2) + z * ((Q (kc % m)).2 - (P (kc / m)).2) = 0 := e2
      grind
    rw [← g1, ← g2]
    exact mean _ _ _ fun k hk => ⟨left_of hQ hk a2, left_of hQ hk b2, left_of hQ hk c2⟩
theorem touch_iff (hP : Edges P n) (hQ : Edges Q m) (hn : 3 ≤ n) (hm : 3 ≤ m) : Touch P n Q m ↔ ¬ Beyond P n Q m ∧ ¬ Beyond Q m P n := by
  constructor
  · exact fun h => ⟨touch_not hP hQ hn hm h, touch_not hQ hP hm hn (touch_sym h)⟩
  · rintro ⟨h1, h2⟩
    obtain ⟨x, g1, g2⟩ := common_of hP hQ hn hm h1 h2
    exact touch_of hP hQ hn hm g1 g2
end
end Go.Proofs.YtdhpmdkfmgpcmaaDoor.poly

/- Contracts: gantref1.cross, Touch, reach, Gap. Printed by wip/gp_apartc.py. -/
namespace Go.Proofs.YtdhpmdkfmgpcmaaDoor.eng
open Go.RowKit num mem seg q held ratA ratB ratC ratD ratE vars ratF
section
variable {K : AV → Prop}
theorem sgn_cases (p : Rat) : (sgnQ p = 1 ∧ 0 < p) ∨ (sgnQ p = 0 ∧ p = 0) ∨ (sgnQ p = -1 ∧ p < 0) := by
  have h1 := sg0_gt (n := sgnQ p) rfl; have h2 := sg0_eq (n := sgnQ p) rfl; have h3 := sg0_lt (n := sgnQ p) rfl
  have : sgnQ p = 1 ∨ sgnQ p = 0 ∨ sgnQ p = -1 := by unfold sgnQ; split; exact .inr (.inl rfl); split; exact .inr (.inr rfl); exact .inl rfl
  rcases this with h | h | h
  · exact .inl ⟨h, h1.1 (by omega)⟩
  · exact .inr (.inl ⟨h, h2.1 h⟩)
  · exact .inr (.inr ⟨h, h3.1 (by omega)⟩)
theorem sgn_mul {n m : Int} {p q : Rat} (h : n = sgnQ p) (g : m = sgnQ q) : IntKind.i64.wrap (n * m) < 0 ↔ p * q < 0 := by
  subst h g
  have neg : ∀ {a b : Rat}, 0 < a → b < 0 → a * b < 0 := fun {a b} ha hb => by have := Rat.mul_pos ha (show 0 < -b by grind); grind
  rcases sgn_cases p with ⟨e1, p1⟩ | ⟨e1, p1⟩ | ⟨e1, p1⟩ <;> rcases sgn_cases q with ⟨e2, p2⟩ | ⟨e2, p2⟩ | ⟨e2, p2⟩ <;> rw [e1, e2]
  · have := Rat.mul_pos p1 p2; exact ⟨fun h => absurd h (by decide), fun h => by grind⟩
  · exact ⟨fun h => absurd h (by decide), fun h => by rw [p2] at h; grind⟩
  · exact ⟨fun _ => neg p1 p2, fun _ => by decide⟩
  · exact ⟨fun h => absurd h (by decide), fun h => by rw [p1] at h; grind⟩
  · exact ⟨fun h => absurd h (by decide), fun h => by rw [p1] at h; grind⟩
  · exact ⟨fun h => absurd h (by decide), fun h => by rw [p1] at h; grind⟩
  · exact ⟨fun _ => by have := neg p2 p1; grind, fun _ => by decide⟩
  · exact ⟨fun h => absurd h (by decide), fun h => by rw [p2] at h; grind⟩
  · have := Rat.mul_pos (show 0 < -p by grind) (show 0 < -q by grind); exact ⟨fun h => absurd h (by decide), fun h => by grind⟩
instance (a b p : poly.Pt) (s : Rat) : Decidable (poly.onB a b p s) := by unfold poly.onB; infer_instance
instance (a b c d : poly.Pt) : Decidable (poly.Cross a b c d) := by unfold poly.Cross; infer_instance
set_option maxRecDepth 100000 in
theorem Ron_spec (x y z t u v : RV) (s : Int) (p : Rat) (hx : x.z ≤ 33554432) (hy : y.z ≤ 33554432) (hz : z.z ≤ 33554432) (ht : t.z ≤ 33554432) (hu : u.z ≤ 33554432) (hv : v.z ≤ 33554432) (hs : s = sgnQ p) : Spec Tryd.prog Tab 161 [pair x y, pair z t, pair u v, int s] (bool (decide (poly.onB (x.q, y.q) (z.q, t.q) (u.q, v.q) p))) := by
  refine fn_spec Tryd.func161 rfl rfl Tryd.ntmps161 rfl (by kernel_rfl) rfl rfl ?_
  refine fork (fun e1 => ?_) (fun e1 => ?_)
  · have f11 : p = 0 := (sg0_eq hs).1 (beq_t e1)
    refine k_RV (x := u) (y := v) (z := x) (t := y) (by omega) (by omega) (by omega) (by omega) (fun p14 q14 hk_14_2 hk_14_3 hk_14_4 hk_14_5 => ?_)
    simp only [cn_z] at hk_14_4
    simp only [cn_z] at hk_14_5
    refine k_RV (x := u) (y := v) (z := z) (t := t) (by omega) (by omega) (by omega) (by omega) (fun p17 q17 hk_17_2 hk_17_3 hk_17_4 hk_17_5 => ?_)
    simp only [cn_z] at hk_17_4
    simp only [cn_z] at hk_17_5
    refine k_RDot (x := cn p14) (y := cn q14) (z := cn p17) (t := cn q17) (by simp only [cn_z]; omega) (by simp only [cn_z]; omega) (by simp only [cn_z]; omega) (by simp only [cn_z]; omega) (fun q18 hk_18_1 hk_18_2 => ?_)
    try simp only [cn_q] at hk_18_1
    simp only [cn_z] at hk_18_2
    refine k_sign (x := cn q18) (by simp only [cn_z]; omega) fun n19 h19 => ?_
    simp only [cn_q] at h19
    refine ⟨by kernel_rfl, ?_⟩
    refine Eq.trans (b := bool (decide (n19 ≤ 0))) ?_ rfl
    rw [show decide (poly.onB (x.q, y.q) (z.q, t.q) (u.q, v.q) p) = (decide (n19 ≤ 0)) from decide_eq_decide.2 ⟨fun h => (sg0_le h19).2 (by rw [hk_18_1, hk_14_2, hk_14_3, hk_17_2, hk_17_3]; exact h.2), fun hh => ⟨f11, by have := (sg0_le h19).1 hh; rwa [hk_18_1, hk_14_2, hk_14_3, hk_17_2, hk_17_3] at this⟩⟩]
  · have f11 : ¬ (p = 0) := fun hh => beq_f e1 ((sg0_eq hs).2 hh)
    refine ⟨by kernel_rfl, ?_⟩
    refine Eq.trans (b := bool false) ?_ rfl
    rw [show decide (poly.onB (x.q, y.q) (z.q, t.q) (u.q, v.q) p) = false from decide_eq_false fun h => f11 h.1]
set_option maxHeartbeats 2000000 in
set_option maxRecDepth 100000 in
theorem Rcross_spec (x y z t u v a b : RV) (hx : x.z ≤ 33554432) (hy : y.z ≤ 33554432) (hz : z.z ≤ 33554432) (ht : t.z ≤ 33554432) (hu : u.z ≤ 33554432) (hv : v.z ≤ 33554432) (ha : a.z ≤ 33554432) (hb : b.z ≤ 33554432) : Spec Tryd.prog Tab 103 [pair x y, pair z t, pair u v, pair a b] (bool (decide (poly.Cross (x.q, y.q) (z.q, t.q) (u.q, v.q) (a.q, b.q)))) := by
  refine fn_spec Tryd.func103 rfl rfl Tryd.ntmps103 rfl (by kernel_rfl) rfl rfl ?_
  refine k_RSide (x := x) (y := y) (z := z) (t := t) (u := u) (v := v) (by omega) (by omega) (by omega) (by omega) (by omega) (by omega) (fun n17 hk_17_1 => ?_)
  refine k_RSide (x := x) (y := y) (z := z) (t := t) (u := a) (v := b) (by omega) (by omega) (by omega) (by omega) (by omega) (by omega) (fun n21 hk_21_1 => ?_)
  refine k_RSide (x := u) (y := v) (z := a) (t := b) (u := x) (v := y) (by omega) (by omega) (by omega) (by omega) (by omega) (by omega) (fun n25 hk_25_1 => ?_)
  refine k_RSide (x := u) (y := v) (z := a) (t := b) (u := z) (v := t) (by omega) (by omega) (by omega) (by omega) (by omega) (by omega) (fun n29 hk_29_1 => ?_)
  refine ⟨by kernel_rfl, ?_⟩
  refine fork (fun e1 => ?_) (fun e1 => ?_)
  · have f34 : IntKind.i64.wrap (n17 * n21) < 0 := of_decide_eq_true e1
    refine ⟨fun e2 => ?_, fun e2 => ?_⟩
    · have f39 : IntKind.i64.wrap (n25 * n29) < 0 := of_decide_eq_true e2
      refine Eq.trans (b := bool true) ?_ rfl
      rw [show decide (poly.Cross (x.q, y.q) (z.q, t.q) (u.q, v.q) (a.q, b.q)) = true from decide_eq_true (.inl ⟨(sgn_mul hk_17_1 hk_21_1).1 f34, (sgn_mul hk_25_1 hk_29_1).1 f39⟩)]
    · have f39 : ¬ (IntKind.i64.wrap (n25 * n29) < 0) := of_decide_eq_false e2
      refine use (Ron_spec x y z t u v n17 _ (by omega) (by omega) (by omega) (by omega) (by omega) (by omega) hk_17_1) rfl ?_
      refine fork (fun e3 => ?_) (fun e3 => ?_)
      · have f46 : poly.onB (x.q, y.q) (z.q, t.q) (u.q, v.q) (poly.ori (x.q, y.q) (z.q, t.q) (u.q, v.q)) := of_decide_eq_true e3
        refine Eq.trans (b := bool true) ?_ rfl
        rw [show decide (poly.Cross (x.q, y.q) (z.q, t.q) (u.q, v.q) (a.q, b.q)) = true from decide_eq_true (.inr (.inl f46))]
      · have f46 : ¬ (poly.onB (x.q, y.q) (z.q, t.q) (u.q, v.q) (poly.ori (x.q, y.q) (z.q, t.q) (u.q, v.q))) := of_decide_eq_false e3
        refine use (Ron_spec x y z t a b n21 _ (by omega) (by omega) (by omega) (by omega) (by omega) (by omega) hk_21_1) rfl ?_
        refine fork (fun e4 => ?_) (fun e4 => ?_)
        · have f54 : poly.onB (x.q, y.q) (z.q, t.q) (a.q, b.q) (poly.ori (x.q, y.q) (z.q, t.q) (a.q, b.q)) := of_decide_eq_true e4
          refine Eq.trans (b := bool true) ?_ rfl
          rw [show decide (poly.Cross (x.q, y.q) (z.q, t.q) (u.q, v.q) (a.q, b.q)) = true from decide_eq_true (.inr (.inr (.inl f54)))]
        · have f54 : ¬ (poly.onB (x.q, y.q) (z.q, t.q) (a.q, b.q) (poly.ori (x.q, y.q) (z.q, t.q) (a.q, b.q))) := of_decide_eq_false e4
          refine use (Ron_spec u v a b x y n25 _ (by omega) (by omega) (by omega) (by omega) (by omega) (by omega) hk_25_1) rfl ?_
          refine fork (fun e5 => ?_) (fun e5 => ?_)
          · have f62 : poly.onB (u.q, v.q) (a.q, b.q) (x.q, y.q) (poly.ori (u.q, v.q) (a.q, b.q) (x.q, y.q)) := of_decide_eq_true e5
            refine Eq.trans (b := bool true) ?_ rfl
            rw [show decide (poly.Cross (x.q, y.q) (z.q, t.q) (u.q, v.q) (a.q, b.q)) = true from decide_eq_true (.inr (.inr (.inr (.inl f62))))]
          · have f62 : ¬ (poly.onB (u.q, v.q) (a.q, b.q) (x.q, y.q) (poly.ori (u.q, v.q) (a.q, b.q) (x.q, y.q))) := of_decide_eq_false e5
            refine use (Ron_spec u v a b z t n29 _ (by omega) (by omega) (by omega) (by omega) (by omega) (by omega) hk_29_1) rfl ?_
            refine Eq.trans (b := bool (decide (poly.onB (u.q, v.q) (a.q, b.q) (z.q, t.q) (poly.ori (u.q, v.q) (a.q, b.q) (z.q, t.q))))) ?_ rfl
            have no : ¬ (poly.ori (x.q, y.q) (z.q, t.q) (u.q, v.q) * poly.ori (x.q, y.q) (z.q, t.q) (a.q, b.q) < 0 ∧ poly.ori (u.q, v.q) (a.q, b.q) (x.q, y.q) * poly.ori (u.q, v.q) (a.q, b.q) (z.q, t.q) < 0) := fun h => f39 ((sgn_mul hk_25_1 hk_29_1).2 h.2)
            rw [show decide (poly.Cross (x.q, y.q) (z.q, t.q) (u.q, v.q) (a.q, b.q)) = (decide (poly.onB (u.q, v.q) (a.q, b.q) (z.q, t.q) (poly.ori (u.q, v.q) (a.q, b.q) (z.q, t.q)))) from decide_eq_decide.2 ⟨fun h => by
              rcases h with h | h | h | h | h
              · exact absurd h no
              · exact absurd h f46
              · exact absurd h f54
              · exact absurd h f62
              · exact h, fun h => .inr (.inr (.inr (.inr h)))⟩]
  · have f34 : ¬ (IntKind.i64.wrap (n17 * n21) < 0) := of_decide_eq_false e1
    refine ⟨fun e => absurd e (by decide), fun _ => ?_⟩
    refine use (Ron_spec x y z t u v n17 _ (by omega) (by omega) (by omega) (by omega) (by omega) (by omega) hk_17_1) rfl ?_
    refine fork (fun e6 => ?_) (fun e6 => ?_)
    · have f46 : poly.onB (x.q, y.q) (z.q, t.q) (u.q, v.q) (poly.ori (x.q, y.q) (z.q, t.q) (u.q, v.q)) := of_decide_eq_true e6
      refine Eq.trans (b := bool true) ?_ rfl
      rw [show decide (poly.Cross (x.q, y.q) (z.q, t.q) (u.q, v.q) (a.q, b.q)) = true from decide_eq_true (.inr (.inl f46))]
    · have f46 : ¬ (poly.onB (x.q, y.q) (z.q, t.q) (u.q, v.q) (poly.ori (x.q, y.q) (z.q, t.q) (u.q, v.q))) := of_decide_eq_false e6
      refine use (Ron_spec x y z t a b n21 _ (by omega) (by omega) (by omega) (by omega) (by omega) (by omega) hk_21_1) rfl ?_
      refine fork (fun e7 => ?_) (fun e7 => ?_)
      · have f54 : poly.onB (x.q, y.q) (z.q, t.q) (a.q, b.q) (poly.ori (x.q, y.q) (z.q, t.q) (a.q, b.q)) := of_decide_eq_true e7
        refine Eq.trans (b := bool true) ?_ rfl
        rw [show decide (poly.Cross (x.q, y.q) (z.q, t.q) (u.q, v.q) (a.q, b.q)) = true from decide_eq_true (.inr (.inr (.inl f54)))]
      · have f54 : ¬ (poly.onB (x.q, y.q) (z.q, t.q) (a.q, b.q) (poly.ori (x.q, y.q) (z.q, t.q) (a.q, b.q))) := of_decide_eq_false e7
        refine use (Ron_spec u v a b x y n25 _ (by omega) (by omega) (by omega) (by omega) (by omega) (by omega) hk_25_1) rfl ?_
        refine fork (fun e8 => ?_) (fun e8 => ?_)
        · have f62 : poly.onB (u.q, v.q) (a.q, b.q) (x.q, y.q) (poly.ori (u.q, v.q) (a.q, b.q) (x.q, y.q)) := of_decide_eq_true e8
          refine Eq.trans (b := bool true) ?_ rfl
          rw [show decide (poly.Cross (x.q, y.q) (z.q, t.q) (u.q, v.q) (a.q, b.q)) = true from decide_eq_true (.inr (.inr (.inr (.inl f62))))]
        · have f62 : ¬ (poly.onB (u.q, v.q) (a.q, b.q) (x.q, y.q) (poly.ori (u.q, v.q) (a.q, b.q) (x.q, y.q))) := of_decide_eq_false e8
          refine use (Ron_spec u v a b z t n29 _ (by omega) (by omega) (by omega) (by omega) (by omega) (by omega) hk_29_1) rfl ?_
          refine Eq.trans (b := bool (decide (poly.onB (u.q, v.q) (a.q, b.q) (z.q, t.q) (poly.ori (u.q, v.q) (a.q, b.q) (z.q, t.q))))) ?_ rfl
          have no : ¬ (poly.ori (x.q, y.q) (z.q, t.q) (u.q, v.q) * poly.ori (x.q, y.q) (z.q, t.q) (a.q, b.q) < 0 ∧ poly.ori (u.q, v.q) (a.q, b.q) (x.q, y.q) * poly.ori (u.q, v.q) (a.q, b.q) (z.q, t.q) < 0) := fun h => f34 ((sgn_mul hk_17_1 hk_21_1).2 h.1)
          rw [show decide (poly.Cross (x.q, y.q) (z.q, t.q) (u.q, v.q) (a.q, b.q)) = (decide (poly.onB (u.q, v.q) (a.q, b.q) (z.q, t.q) (poly.ori (u.q, v.q) (a.q, b.q) (z.q, t.q)))) from decide_eq_decide.2 ⟨fun h => by
            rcases h with h | h | h | h | h
            · exact absurd h no
            · exact absurd h f46
            · exact absurd h f54
            · exact absurd h f62
            · exact h, fun h => .inr (.inr (.inr (.inr h)))⟩]
theorem k_Rcross {x y z t u v a b : RV} (hx : x.z ≤ 33554432) (hy : y.z ≤ 33554432) (hz : z.z ≤ 33554432) (ht : t.z ≤ 33554432) (hu : u.z ≤ 33554432) (hv : v.z ≤ 33554432) (ha : a.z ≤ 33554432) (hb : b.z ≤ 33554432) (k : ∀ bb, bb = decide (poly.Cross (x.q, y.q) (z.q, t.q) (u.q, v.q) (a.q, b.q)) → K (bool bb)) : Ask 103 [pair x y, pair z t, pair u v, pair a b] K := use (Rcross_spec x y z t u v a b hx hy hz ht hu hv ha hb) rfl (k _ rfl)
open Classical in
noncomputable def touB (a b : List (RV × RV)) : Bool := decide (poly.Touch (pts a) a.length (pts b) b.length)
open Classical in
theorem touB_is (a b : List (RV × RV)) : touB a b = decide (poly.Touch (pts a) a.length (pts b) b.length) := rfl
theorem innP_iff {l : List (RV × RV)} {x y : RV} (h : convE 64 l = 0) : innP l x y = true ↔ poly.Inside (pts l) l.length (x.q, y.q) := by
  rw [← has_inn h]
  constructor
  · intro e
    refine Classical.byContradiction fun hc => ?_
    rw [hasP_f fun g => hc g.2] at e; exact Bool.noConfusion e
  · exact fun e => hasP_t ⟨h, e⟩
open Classical in
theorem touB_t {a b : List (RV × RV)} (h : poly.Touch (pts a) a.length (pts b) b.length) : touB a b = true := by rw [touB_is]; exact decide_eq_true h
open Classical in
theorem touB_f {a b : List (RV × RV)} (h : ¬ poly.Touch (pts a) a.length (pts b) b.length) : touB a b = false := by rw [touB_is]; exact decide_eq_false h
set_option maxHeartbeats 2000000 in
set_option maxRecDepth 100000 in
theorem RTouch_spec (a b : List (RV × RV)) (ha : ∀ p, p ∈ a → p.1.z ≤ 33554432 ∧ p.2.z ≤ 33554432) (hb : ∀ p, p ∈ b → p.1.z ≤ 33554432 ∧ p.2.z ≤ 33554432) (hna : a.length ≤ 1073741824) (hnb : b.length ≤ 1073741824) (ca : convE 64 a = 0) (cb : convE 64 b = 0) : Spec Tryd.prog Tab 37 [.val (.one (.d (.list (List.map rdv a)))), .val (.one (.d (.list (List.map rdv b))))] (bool (touB a b)) := by
  have ha2 : ∀ p, p ∈ a → p.1.z ≤ 67108864 ∧ p.2.z ≤ 67108864 := fun p h => ⟨Nat.le_trans (ha p h).1 (by decide), Nat.le_trans (ha p h).2 (by decide)⟩
  have hb2 : ∀ p, p ∈ b → p.1.z ≤ 67108864 ∧ p.2.z ≤ 67108864 := fun p h => ⟨Nat.le_trans (hb p h).1 (by decide), Nat.le_trans (hb p h).2 (by decide)⟩
  have hLa : (List.map rdv a).length = a.length := List.length_map ..
  have hLb : (List.map rdv b).length = b.length := List.length_map ..
  have ca0 := convE_ok.1 ca
  have cb0 := convE_ok.1 cb
  refine fn_spec Tryd.func37 rfl rfl Tryd.ntmps37 rfl (by kernel_rfl) rfl rfl ?_
  obtain ⟨x9, hx9⟩ : ∃ vv, b[0]? = some vv := ⟨_, List.getElem?_eq_getElem (by first | omega | exact Nat.mod_lt _ (by omega))⟩
  have hzx9 := hb x9 (List.mem_of_getElem? hx9)
  have hpx9 := pts_at hx9
  refine k_ix 0 [D.v (.bool x9.1.s), D.v (.string x9.1.a), D.v (.string x9.1.d), D.v (.bool x9.2.s), D.v (.string x9.2.a), D.v (.string x9.2.d)] (by first | rfl | omega | (rw [wrap64 _ (by omega) (by omega)]; omega)) (map_at hx9) rfl ?_
  refine k_RInner (l := a) (x := x9.1) (y := x9.2) (by assumption) (by omega) (by omega) (by omega) (fun b11 hk_11_1 => ?_)
  refine fork (fun e1 => ?_) (fun e1 => ?_)
  · have f12 : innP a x9.1 x9.2 = true := hk_11_1.symm.trans e1
    refine ⟨fun _ => ?_, fun e => absurd e (by decide)⟩
    refine Eq.trans (b := bool true) ?_ rfl
    rw [touB_t (.inl (by rw [hpx9]; exact (innP_iff ca).1 f12))]
  · have f12 : ¬ (innP a x9.1 x9.2 = true) := fun hh => absurd (hh.symm.trans (hk_11_1.symm.trans e1)) (by decide)
    obtain ⟨x15, hx15⟩ : ∃ vv, a[0]? = some vv := ⟨_, List.getElem?_eq_getElem (by first | omega | exact Nat.mod_lt _ (by omega))⟩
    have hzx15 := ha x15 (List.mem_of_getElem? hx15)
    have hpx15 := pts_at hx15
    refine k_ix 0 [D.v (.bool x15.1.s), D.v (.string x15.1.a), D.v (.string x15.1.d), D.v (.bool x15.2.s), D.v (.string x15.2.a), D.v (.string x15.2.d)] (by first | rfl | omega | (rw [wrap64 _ (by omega) (by omega)]; omega)) (map_at hx15) rfl ?_
    refine k_RInner (l := b) (x := x15.1) (y := x15.2) (by assumption) (by omega) (by omega) (by omega) (fun b17 hk_17_1 => ?_)
    refine ⟨fun e2 => ?_, fun e2 => ?_⟩
    · have f18 : innP b x15.1 x15.2 = true := hk_17_1.symm.trans e2
      refine Eq.trans (b := bool true) ?_ rfl
      rw [touB_t (.inr (.inl (by rw [hpx15]; exact (innP_iff cb).1 f18)))]
    · have f18 : ¬ (innP b x15.1 x15.2 = true) := fun hh => absurd (hh.symm.trans (hk_17_1.symm.trans e2)) (by decide)
      refine ⟨Nat, fun i => [(0, .val (.one (.d (.list (List.map rdv a))))), (1, .val (.one (.d (.list (List.map rdv b))))), (20, int ((List.map rdv a).length : Int)), (21, int (i : Int))],
        fun i => [], fun i => i ≤ a.length ∧ ∀ i' k, i' < i → k < b.length → ¬ poly.Cross (pts a i') (pts a ((i' + 1) % a.length)) (pts b k) (pts b ((k + 1) % b.length)), fun i => a.length - i, 0, ?_, ⟨Nat.zero_le _, fun i' k h => absurd h (Nat.not_lt_zero _)⟩, fun i hs => ?_⟩
      · constructor <;> (repeat' (first | exact rfl | exact True.intro | exact ⟨_, _, rfl⟩ | exact (by decide) | apply And.intro))
        all_goals first | exact congrArg (fun n : Int => D.v (.int .i64 n)) (by omega) | exact congrArg (fun n : Int => D.v (.int .i64 n)) (by rw [wrap64 _ (by omega) (by omega)]; omega) | (simp; done)
      obtain ⟨hi, h1⟩ := hs
      refine ⟨fun e3 => ?_, fun e3 => ?_⟩
      · have f22 : (i : Int) < ((List.map rdv a).length : Int) := of_decide_eq_true e3
        refine ⟨Nat, fun k => [(0, .val (.one (.d (.list (List.map rdv a))))), (1, .val (.one (.d (.list (List.map rdv b))))), (5, int (i : Int)), (20, int ((List.map rdv a).length : Int)), (21, int (i : Int)), (25, int ((List.map rdv b).length : Int)), (26, int (k : Int))],
          fun k => [], fun k => k ≤ b.length ∧ ∀ k', k' < k → ¬ poly.Cross (pts a i) (pts a ((i + 1) % a.length)) (pts b k') (pts b ((k' + 1) % b.length)), fun k => b.length - k, 0, ?_, ⟨Nat.zero_le _, fun k' h => absurd h (Nat.not_lt_zero _)⟩, fun k hs => ?_⟩
        · constructor <;> (repeat' (first | exact rfl | exact True.intro | exact ⟨_, _, rfl⟩ | exact (by decide) | apply And.intro))
          all_goals first | exact congrArg (fun n : Int => D.v (.int .i64 n)) (by omega) | exact congrArg (fun n : Int => D.v (.int .i64 n)) (by rw [wrap64 _ (by omega) (by omega)]; omega) | (simp; done)
        obtain ⟨hk, h2⟩ := hs
        refine ⟨fun e4 => ?_, fun e4 => ?_⟩
        · have f27 : (k : Int) < ((List.map rdv b).length : Int) := of_decide_eq_true e4
          obtain ⟨x31, hx31⟩ : ∃ vv, a[i]? = some vv := ⟨_, List.getElem?_eq_getElem (by first | omega | exact Nat.mod_lt _ (by omega))⟩
          have hzx31 := ha x31 (List.mem_of_getElem? hx31)
          have hpx31 := pts_at hx31
          refine k_ix i [D.v (.bool x31.1.s), D.v (.string x31.1.a), D.v (.string x31.1.d), D.v (.bool x31.2.s), D.v (.string x31.2.a), D.v (.string x31.2.d)] (by first | rfl | omega | (rw [wrap64 _ (by omega) (by omega)]; omega)) (map_at hx31) rfl ?_
          refine k_remW (i + 1) a.length (by first | rfl | omega | (rw [wrap64 _ (by omega) (by omega)]; omega)) (by first | rfl | omega | (rw [wrap64 _ (by omega) (by omega)]; omega)) (by omega) ?_
          obtain ⟨x39, hx39⟩ : ∃ vv, a[((i + 1) % a.length)]? = some vv := ⟨_, List.getElem?_eq_getElem (by first | omega | exact Nat.mod_lt _ (by omega))⟩
          have hzx39 := ha x39 (List.mem_of_getElem? hx39)
          have hpx39 := pts_at hx39
          refine k_ix ((i + 1) % a.length) [D.v (.bool x39.1.s), D.v (.string x39.1.a), D.v (.string x39.1.d), D.v (.bool x39.2.s), D.v (.string x39.2.a), D.v (.string x39.2.d)] (by first | rfl | omega | (rw [wrap64 _ (by omega) (by omega)]; omega)) (map_at hx39) rfl ?_
          obtain ⟨x43, hx43⟩ : ∃ vv, b[k]? = some vv := ⟨_, List.getElem?_eq_getElem (by first | omega | exact Nat.mod_lt _ (by omega))⟩
          have hzx43 := hb x43 (List.mem_of_getElem? hx43)
          have hpx43 := pts_at hx43
          refine k_ix k [D.v (.bool x43.1.s), D.v (.string x43.1.a), D.v (.string x43.1.d), D.v (.bool x43.2.s), D.v (.string x43.2.a), D.v (.string x43.2.d)] (by first | rfl | omega | (rw [wrap64 _ (by omega) (by omega)]; omega)) (map_at hx43) rfl ?_
          refine k_remW (k + 1) b.length (by first | rfl | omega | (rw [wrap64 _ (by omega) (by omega)]; omega)) (by first | rfl | omega | (rw [wrap64 _ (by omega) (by omega)]; omega)) (by omega) ?_
          obtain ⟨x51, hx51⟩ : ∃ vv, b[((k + 1) % b.length)]? = some vv := ⟨_, List.getElem?_eq_getElem (by first | omega | exact Nat.mod_lt _ (by omega))⟩
          have hzx51 := hb x51 (List.mem_of_getElem? hx51)
          have hpx51 := pts_at hx51
          refine k_ix ((k + 1) % b.length) [D.v (.bool x51.1.s), D.v (.string x51.1.a), D.v (.string x51.1.d), D.v (.bool x51.2.s), D.v (.string x51.2.a), D.v (.string x51.2.d)] (by first | rfl | omega | (rw [wrap64 _ (by omega) (by omega)]; omega)) (map_at hx51) rfl ?_
          refine k_Rcross (x := x31.1) (y := x31.2) (z := x39.1) (t := x39.2) (u := x43.1) (v := x43.2) (a := x51.1) (b := x51.2) (by omega) (by omega) (by omega) (by omega) (by omega) (by omega) (by omega) (by omega) (fun bb53 hk_53_1 => ?_)
          refine ⟨by kernel_rfl, ?_⟩
          refine ⟨fun e5 => ?_, fun e5 => ?_⟩
          · have f53 : poly.Cross (x31.1.q, x31.2.q) (x39.1.q, x39.2.q) (x43.1.q, x43.2.q) (x51.1.q, x51.2.q) := of_decide_eq_true (hk_53_1.symm.trans e5)
            refine Eq.trans (b := bool true) ?_ rfl
            have hc := f53
            rw [touB_t (.inr (.inr ⟨i, k, by omega, by omega, by rw [hpx31, hpx39, hpx43, hpx51]; exact f53⟩))]
          · have f53 : ¬ (poly.Cross (x31.1.q, x31.2.q) (x39.1.q, x39.2.q) (x43.1.q, x43.2.q) (x51.1.q, x51.2.q)) := of_decide_eq_false (hk_53_1.symm.trans e5)
            have hno : ¬ poly.Cross (pts a i) (pts a ((i + 1) % a.length)) (pts b k) (pts b ((k + 1) % b.length)) := by rw [hpx31, hpx39, hpx43, hpx51]; exact f53
            refine ⟨k + 1, ⟨by omega, fun k' g1 => by
              by_cases e : k' = k
              · subst e; exact hno
              · exact h2 k' (by omega)⟩, by simp only; omega, ?_⟩
            constructor <;> (repeat' (first | exact rfl | exact True.intro | apply And.intro))
            all_goals first
              | exact congrArg (fun n : Int => D.v (.int .i64 n)) (by rw [wrap64 _ (by omega) (by omega)]; omega)
              | exact congrArg (fun n : Int => D.v (.int .i64 n)) (by omega)
        · have f27 : ¬ ((k : Int) < ((List.map rdv b).length : Int)) := of_decide_eq_false e4
          have h2 : ∀ k, k < b.length → ¬ poly.Cross (pts a i) (pts a ((i + 1) % a.length)) (pts b k) (pts b ((k + 1) % b.length)) := fun k g => h2 k (by omega)
          refine ⟨i + 1, ⟨by omega, fun i' k g1 g2 => by
            by_cases e : i' = i
            · subst e; exact h2 k (by omega)
            · exact h1 i' k (by omega) g2⟩, by simp only; omega, ?_⟩
          constructor <;> (repeat' (first | exact rfl | exact True.intro | apply And.intro))
          all_goals first
            | exact congrArg (fun n : Int => D.v (.int .i64 n)) (by rw [wrap64 _ (by omega) (by omega)]; omega)
            | exact congrArg (fun n : Int => D.v (.int .i64 n)) (by omega)
      · have f22 : ¬ ((i : Int) < ((List.map rdv a).length : Int)) := of_decide_eq_false e3
        refine Eq.trans (b := bool false) ?_ rfl
        rw [touB_f fun h => by
          rcases h with h | h | ⟨i', k, g1, g2, h⟩
          · rw [hpx9] at h; exact f12 ((innP_iff ca).2 h)
          · rw [hpx15] at h; exact f18 ((innP_iff cb).2 h)
          · exact h1 i' k (by omega) g2 h]
theorem k_RTouch {a b : List (RV × RV)} (ha : ∀ p, p ∈ a → p.1.z ≤ 33554432 ∧ p.2.z ≤ 33554432) (hb : ∀ p, p ∈ b → p.1.z ≤ 33554432 ∧ p.2.z ≤ 33554432) (hna : a.length ≤ 1073741824) (hnb : b.length ≤ 1073741824) (ca : convE 64 a = 0) (cb : convE 64 b = 0) (k : ∀ bb, bb = touB a b → K (bool bb)) : Ask 37 [vecs a, vecs b] K := use (RTouch_spec a b ha hb hna hnb ca cb) rfl (k _ rfl)
def clampQ (t : Rat) : Rat := if ((1 : Int) : Rat) < (if t < 0 then ((0 : Int) : Rat) else t) then ((1 : Int) : Rat) else (if t < 0 then ((0 : Int) : Rat) else t)
def partQ (p a b : poly.Pt) : Rat := clampQ (((p.1 - a.1) * (b.1 - a.1) + (p.2 - a.2) * (b.2 - a.2)) / ((b.1 - a.1) * (b.1 - a.1) + (b.2 - a.2) * (b.2 - a.2)))
/-- the square of the distance from a segment, as gantref1 computes it -/
def reachQ (p a b : poly.Pt) : Rat := (a.1 + partQ p a b * (b.1 - a.1) - p.1) * (a.1 + partQ p a b * (b.1 - a.1) - p.1) + (a.2 + partQ p a b * (b.2 - a.2) - p.2) * (a.2 + partQ p a b * (b.2 - a.2) - p.2)
theorem reach_dist {p a b : poly.Pt} (h : (b.1 - a.1) * (b.1 - a.1) + (b.2 - a.2) * (b.2 - a.2) ≠ 0) : reachQ p a b = distQ p a b := by
  have hpos : 0 < (b.1 - a.1) * (b.1 - a.1) + (b.2 - a.2) * (b.2 - a.2) := by
    have h1 := poly.sq_nonneg (b.1 - a.1); have h2 := poly.sq_nonneg (b.2 - a.2); grind
  unfold reachQ partQ distQ clampQ
  generalize hz : (b.1 - a.1) * (b.1 - a.1) + (b.2 - a.2) * (b.2 - a.2) = z at *
  generalize hd : (p.1 - a.1) * (b.1 - a.1) + (p.2 - a.2) * (b.2 - a.2) = d at *
  have e0 : d / z * z = d := by grind
  rw [show ((1 : Int) : Rat) = 1 from rfl, show ((0 : Int) : Rat) = 0 from rfl]
  by_cases c1 : d / z < 0
  · have hd0 : d < 0 := by
      have := Rat.mul_pos (show 0 < -(d / z) by grind) hpos; grind
    rw [if_pos c1, if_neg (by decide +kernel), if_pos (Rat.le_of_lt hd0)]
    grind
  · rw [if_neg c1]
    have c1 := Rat.not_lt.1 c1
    by_cases c2 : 1 < d / z
    · rw [if_pos c2]
      have hdz : z ≤ d := by have := Rat.mul_pos (show 0 < d / z - 1 by grind) hpos; grind
      rw [if_neg (by grind), if_pos hdz]
      grind
    · rw [if_neg c2]
      have c2 := Rat.not_lt.1 c2
      have hd0 : 0 ≤ d := by have := Rat.mul_nonneg c1 (Rat.le_of_lt hpos); grind
      have hdz : d ≤ z := by have := Rat.mul_nonneg (show 0 ≤ 1 - d / z by grind) (Rat.le_of_lt hpos); grind
      by_cases c3 : d ≤ 0
      · have : d = 0 := Rat.le_antisymm c3 hd0
        rw [if_pos c3]
        have e : d / z = 0 := by rw [this]; grind
        rw [e]; grind
      · rw [if_neg c3]
        by_cases c4 : z ≤ d
        · have : d = z := Rat.le_antisymm hdz c4
          rw [if_pos c4]
          have e : d / z = 1 := by rw [this]; grind
          rw [e]; grind
        · rw [if_neg c4]
          grind
set_option maxHeartbeats 1000000 in
set_option maxRecDepth 100000 in
theorem Rreach_spec (x y z t u v : RV) (hx : x.z ≤ 33554432) (hy : y.z ≤ 33554432) (hz : z.z ≤ 33554432) (ht : t.z ≤ 33554432) (hu : u.z ≤ 33554432) (hv : v.z ≤ 33554432) (hne : (u.q - z.q) * (u.q - z.q) + (v.q - t.q) * (v.q - t.q) ≠ 0) : Spec Tryd.prog Tab 104 [pair x y, pair z t, pair u v] (rat (cn (reachQ (x.q, y.q) (z.q, t.q) (u.q, v.q)))) := by
  refine fn_spec Tryd.func104 rfl rfl Tryd.ntmps104 rfl (by kernel_rfl) rfl rfl ?_
  refine k_RV (x := z) (y := t) (z := u) (t := v) (by omega) (by omega) (by omega) (by omega) (fun p13 q13 hk_13_2 hk_13_3 hk_13_4 hk_13_5 => ?_)
  simp only [cn_z] at hk_13_4
  simp only [cn_z] at hk_13_5
  refine k_RV (x := z) (y := t) (z := x) (t := y) (by omega) (by omega) (by omega) (by omega) (fun p17 q17 hk_17_2 hk_17_3 hk_17_4 hk_17_5 => ?_)
  simp only [cn_z] at hk_17_4
  simp only [cn_z] at hk_17_5
  refine k_RDot (x := cn p17) (y := cn q17) (z := cn p13) (t := cn q13) (by simp only [cn_z]; omega) (by simp only [cn_z]; omega) (by simp only [cn_z]; omega) (by simp only [cn_z]; omega) (fun q19 hk_19_1 hk_19_2 => ?_)
  try simp only [cn_q] at hk_19_1
  simp only [cn_z] at hk_19_2
  refine k_RDot (x := cn p13) (y := cn q13) (z := cn p13) (t := cn q13) (by simp only [cn_z]; omega) (by simp only [cn_z]; omega) (by simp only [cn_z]; omega) (by simp only [cn_z]; omega) (fun q22 hk_22_1 hk_22_2 => ?_)
  try simp only [cn_q] at hk_22_1
  simp only [cn_z] at hk_22_2
  refine k_div (x := cn q19) (y := cn q22) (by simp only [cn_z]; omega) (by simp only [cn_z]; omega) (by rw [cn_q, hk_22_1, hk_13_2, hk_13_3]; exact hne) fun q23 h23 z23 => ?_
  simp only [cn_z] at z23
  simp only [cn_q] at h23
  refine ⟨by kernel_rfl, ?_⟩
  refine k_sign (x := cn q23) (by simp only [cn_z]; omega) fun n27 h27 => ?_
  simp only [cn_q] at h27
  refine ⟨fun e1 => ?_, fun e1 => ?_⟩
  · have f28 : q23 < 0 := (sg0_lt h27).1 (of_decide_eq_true e1)
    refine k_I (0) (by omega) (by omega) fun q29 h29 z29 => ?_
    simp only [cn_z] at z29
    refine k_I (1) (by omega) (by omega) fun q31 h31 z31 => ?_
    simp only [cn_z] at z31
    refine k_cmp (x := cn q29) (y := cn q31) (by simp only [cn_z]; omega) (by simp only [cn_z]; omega) fun n32 h32 => ?_
    simp only [cn_q] at h32
    refine ⟨by kernel_rfl, ?_⟩
    refine ⟨fun e2 => ?_, fun e2 => ?_⟩
    · have f33 : q31 < q29 := (cq_gt h32).1 (of_decide_eq_true e2)
      refine k_I (1) (by omega) (by omega) fun q34 h34 z34 => ?_
      simp only [cn_z] at z34
      refine k_mul (x := cn q34) (y := cn p13) (by simp only [cn_z]; omega) (by simp only [cn_z]; omega) fun q41 h41 z41 => ?_
      simp only [cn_z] at z41
      simp only [cn_q] at h41
      refine k_add (x := z) (y := cn q41) (by omega) (by simp only [cn_z]; omega) fun q42 h42 z42 => ?_
      simp only [cn_z] at z42
      simp only [cn_q] at h42
      refine k_mul (x := cn q34) (y := cn q13) (by simp only [cn_z]; omega) (by simp only [cn_z]; omega) fun q48 h48 z48 => ?_
      simp only [cn_z] at z48
      simp only [cn_q] at h48
      refine k_add (x := t) (y := cn q48) (by omega) (by simp only [cn_z]; omega) fun q49 h49 z49 => ?_
      simp only [cn_z] at z49
      simp only [cn_q] at h49
      refine k_RV (x := x) (y := y) (z := cn q42) (t := cn q49) (by omega) (by omega) (by simp only [cn_z]; omega) (by simp only [cn_z]; omega) (fun p51 q51 hk_51_2 hk_51_3 hk_51_4 hk_51_5 => ?_)
      try simp only [cn_q] at hk_51_2
      try simp only [cn_q] at hk_51_3
      simp only [cn_z] at hk_51_4
      simp only [cn_z] at hk_51_5
      refine ⟨by kernel_rfl, ?_⟩
      refine k_RDot (x := cn p51) (y := cn q51) (z := cn p51) (t := cn q51) (by simp only [cn_z]; omega) (by simp only [cn_z]; omega) (by simp only [cn_z]; omega) (by simp only [cn_z]; omega) (fun q54 hk_54_1 hk_54_2 => ?_)
      try simp only [cn_q] at hk_54_1
      simp only [cn_z] at hk_54_2
      refine Eq.trans (b := rat (cn q54)) ?_ rfl
      have et : q23 = ((x.q - z.q) * (u.q - z.q) + (y.q - t.q) * (v.q - t.q)) / ((u.q - z.q) * (u.q - z.q) + (v.q - t.q) * (v.q - t.q)) := by rw [h23, hk_19_1, hk_22_1, hk_17_2, hk_17_3, hk_13_2, hk_13_3]
      have ec : partQ (x.q, y.q) (z.q, t.q) (u.q, v.q) = q34 := by
        unfold partQ; simp only; rw [← et]; unfold clampQ
        rw [if_pos f28, if_pos (by rw [← h29, ← h31]; exact f33), h34]
      rw [hk_54_1, hk_51_2, hk_51_3, h42, h49, h41, h48, hk_13_2, hk_13_3, reachQ, ec]
    · have f33 : ¬ (q31 < q29) := fun hh => of_decide_eq_false e2 ((cq_gt h32).2 hh)
      refine k_mul (x := cn q29) (y := cn p13) (by simp only [cn_z]; omega) (by simp only [cn_z]; omega) fun q41 h41 z41 => ?_
      simp only [cn_z] at z41
      simp only [cn_q] at h41
      refine k_add (x := z) (y := cn q41) (by omega) (by simp only [cn_z]; omega) fun q42 h42 z42 => ?_
      simp only [cn_z] at z42
      simp only [cn_q] at h42
      refine k_mul (x := cn q29) (y := cn q13) (by simp only [cn_z]; omega) (by simp only [cn_z]; omega) fun q48 h48 z48 => ?_
      simp only [cn_z] at z48
      simp only [cn_q] at h48
      refine k_add (x := t) (y := cn q48) (by omega) (by simp only [cn_z]; omega) fun q49 h49 z49 => ?_
      simp only [cn_z] at z49
      simp only [cn_q] at h49
      refine k_RV (x := x) (y := y) (z := cn q42) (t := cn q49) (by omega) (by omega) (by simp only [cn_z]; omega) (by simp only [cn_z]; omega) (fun p51 q51 hk_51_2 hk_51_3 hk_51_4 hk_51_5 => ?_)
      try simp only [cn_q] at hk_51_2
      try simp only [cn_q] at hk_51_3
      simp only [cn_z] at hk_51_4
      simp only [cn_z] at hk_51_5
      refine ⟨by kernel_rfl, ?_⟩
      refine k_RDot (x := cn p51) (y := cn q51) (z := cn p51) (t := cn q51) (by simp only [cn_z]; omega) (by simp only [cn_z]; omega) (by simp only [cn_z]; omega) (by simp only [cn_z]; omega) (fun q54 hk_54_1 hk_54_2 => ?_)
      try simp only [cn_q] at hk_54_1
      simp only [cn_z] at hk_54_2
      refine Eq.trans (b := rat (cn q54)) ?_ rfl
      have et : q23 = ((x.q - z.q) * (u.q - z.q) + (y.q - t.q) * (v.q - t.q)) / ((u.q - z.q) * (u.q - z.q) + (v.q - t.q) * (v.q - t.q)) := by rw [h23, hk_19_1, hk_22_1, hk_17_2, hk_17_3, hk_13_2, hk_13_3]
      have ec : partQ (x.q, y.q) (z.q, t.q) (u.q, v.q) = q29 := by
        unfold partQ; simp only; rw [← et]; unfold clampQ
        rw [if_pos f28, if_neg (by rw [← h29, ← h31]; exact f33), h29]
      rw [hk_54_1, hk_51_2, hk_51_3, h42, h49, h41, h48, hk_13_2, hk_13_3, reachQ, ec]
  · have f28 : ¬ (q23 < 0) := fun hh => of_decide_eq_false e1 ((sg0_lt h27).2 hh)
    refine k_I (1) (by omega) (by omega) fun q31 h31 z31 => ?_
    simp only [cn_z] at z31
    refine k_cmp (x := cn q23) (y := cn q31) (by simp only [cn_z]; omega) (by simp only [cn_z]; omega) fun n32 h32 => ?_
    simp only [cn_q] at h32
    refine ⟨by kernel_rfl, ?_⟩
    refine ⟨fun e3 => ?_, fun e3 => ?_⟩
    · have f33 : q31 < q23 := (cq_gt h32).1 (of_decide_eq_true e3)
      refine k_I (1) (by omega) (by omega) fun q34 h34 z34 => ?_
      simp only [cn_z] at z34
      refine k_mul (x := cn q34) (y := cn p13) (by simp only [cn_z]; omega) (by simp only [cn_z]; omega) fun q41 h41 z41 => ?_
      simp only [cn_z] at z41
      simp only [cn_q] at h41
      refine k_add (x := z) (y := cn q41) (by omega) (by simp only [cn_z]; omega) fun q42 h42 z42 => ?_
      simp only [cn_z] at z42
      simp only [cn_q] at h42
      refine k_mul (x := cn q34) (y := cn q13) (by simp only [cn_z]; omega) (by simp only [cn_z]; omega) fun q48 h48 z48 => ?_
      simp only [cn_z] at z48
      simp only [cn_q] at h48
      refine k_add (x := t) (y := cn q48) (by omega) (by simp only [cn_z]; omega) fun q49 h49 z49 => ?_
      simp only [cn_z] at z49
      simp only [cn_q] at h49
      refine k_RV (x := x) (y := y) (z := cn q42) (t := cn q49) (by omega) (by omega) (by simp only [cn_z]; omega) (by simp only [cn_z]; omega) (fun p51 q51 hk_51_2 hk_51_3 hk_51_4 hk_51_5 => ?_)
      try simp only [cn_q] at hk_51_2
      try simp only [cn_q] at hk_51_3
      simp only [cn_z] at hk_51_4
      simp only [cn_z] at hk_51_5
      refine ⟨by kernel_rfl, ?_⟩
      refine k_RDot (x := cn p51) (y := cn q51) (z := cn p51) (t := cn q51) (by simp only [cn_z]; omega) (by simp only [cn_z]; omega) (by simp only [cn_z]; omega) (by simp only [cn_z]; omega) (fun q54 hk_54_1 hk_54_2 => ?_)
      try simp only [cn_q] at hk_54_1
      simp only [cn_z] at hk_54_2
      refine Eq.trans (b := rat (cn q54)) ?_ rfl
      have et : q23 = ((x.q - z.q) * (u.q - z.q) + (y.q - t.q) * (v.q - t.q)) / ((u.q - z.q) * (u.q - z.q) + (v.q - t.q) * (v.q - t.q)) := by rw [h23, hk_19_1, hk_22_1, hk_17_2, hk_17_3, hk_13_2, hk_13_3]
      have ec : partQ (x.q, y.q) (z.q, t.q) (u.q, v.q) = q34 := by
        unfold partQ; simp only; rw [← et]; unfold clampQ
        rw [if_neg f28, if_pos (by rw [← h31]; exact f33), h34]
      rw [hk_54_1, hk_51_2, hk_51_3, h42, h49, h41, h48, hk_13_2, hk_13_3, reachQ, ec]
    · have f33 : ¬ (q31 < q23) := fun hh => of_decide_eq_false e3 ((cq_gt h32).2 hh)
      refine k_mul (x := cn q23) (y := cn p13) (by simp only [cn_z]; omega) (by simp only [cn_z]; omega) fun q41 h41 z41 => ?_
      simp only [cn_z] at z41
      simp only [cn_q] at h41
      refine k_add (x := z) (y := cn q41) (by omega) (by simp only [cn_z]; omega) fun q42 h42 z42 => ?_
      simp only [cn_z] at z42
      simp only [cn_q] at h42
      refine k_mul (x := cn q23) (y := cn q13) (by simp only [cn_z]; omega) (by simp only [cn_z]; omega) fun q48 h48 z48 => ?_
      simp only [cn_z] at z48
      simp only [cn_q] at h48
      refine k_add (x := t) (y := cn q48) (by omega) (by simp only [cn_z]; omega) fun q49 h49 z49 => ?_
      simp only [cn_z] at z49
      simp only [cn_q] at h49
      refine k_RV (x := x) (y := y) (z := cn q42) (t := cn q49) (by omega) (by omega) (by simp only [cn_z]; omega) (by simp only [cn_z]; omega) (fun p51 q51 hk_51_2 hk_51_3 hk_51_4 hk_51_5 => ?_)
      try simp only [cn_q] at hk_51_2
      try simp only [cn_q] at hk_51_3
      simp only [cn_z] at hk_51_4
      simp only [cn_z] at hk_51_5
      refine ⟨by kernel_rfl, ?_⟩
      refine k_RDot (x := cn p51) (y := cn q51) (z := cn p51) (t := cn q51) (by simp only [cn_z]; omega) (by simp only [cn_z]; omega) (by simp only [cn_z]; omega) (by simp only [cn_z]; omega) (fun q54 hk_54_1 hk_54_2 => ?_)
      try simp only [cn_q] at hk_54_1
      simp only [cn_z] at hk_54_2
      refine Eq.trans (b := rat (cn q54)) ?_ rfl
      have et : q23 = ((x.q - z.q) * (u.q - z.q) + (y.q - t.q) * (v.q - t.q)) / ((u.q - z.q) * (u.q - z.q) + (v.q - t.q) * (v.q - t.q)) := by rw [h23, hk_19_1, hk_22_1, hk_17_2, hk_17_3, hk_13_2, hk_13_3]
      have ec : partQ (x.q, y.q) (z.q, t.q) (u.q, v.q) = q23 := by
        unfold partQ; simp only; rw [← et]; unfold clampQ
        rw [if_neg f28, if_neg (by rw [← h31]; exact f33)]
      rw [hk_54_1, hk_51_2, hk_51_3, h42, h49, h41, h48, hk_13_2, hk_13_3, reachQ, ec]
theorem k_Rreach {x y z t u v : RV} (hx : x.z ≤ 33554432) (hy : y.z ≤ 33554432) (hz : z.z ≤ 33554432) (ht : t.z ≤ 33554432) (hu : u.z ≤ 33554432) (hv : v.z ≤ 33554432) (hne : (u.q - z.q) * (u.q - z.q) + (v.q - t.q) * (v.q - t.q) ≠ 0) (k : ∀ q, q = reachQ (x.q, y.q) (z.q, t.q) (u.q, v.q) → K (rat (cn q))) : Ask 104 [pair x y, pair z t, pair u v] K := use (Rreach_spec x y z t u v hx hy hz ht hu hv hne) rfl (k _ rfl)
def gapP (a b : List (RV × RV)) (i k : Nat) : List Rat := [reachQ (pts a i) (pts b k) (pts b ((k + 1) % b.length)), reachQ (pts b k) (pts a i) (pts a ((i + 1) % a.length))]
def gapRow (a b : List (RV × RV)) (i k : Nat) : List Rat := (List.range k).flatMap (gapP a b i)
def gapL (a b : List (RV × RV)) (i k : Nat) : List Rat := (List.range i).flatMap (fun i => gapRow a b i b.length) ++ gapRow a b i k
theorem gapRow_len (a b : List (RV × RV)) (i k : Nat) : (gapRow a b i k).length = 2 * k := by
  unfold gapRow
  induction k with
  | zero => rfl
  | succ k ih => rw [List.range_succ, List.flatMap_append, List.length_append, ih]; simp [gapP]; omega
theorem gapL_len (a b : List (RV × RV)) (i k : Nat) : (gapL a b i k).length = 2 * (i * b.length) + 2 * k := by
  unfold gapL
  rw [List.length_append, gapRow_len]
  congr 1
  induction i with
  | zero => simp
  | succ i ih => rw [List.range_succ, List.flatMap_append, List.length_append, ih]; simp [gapRow_len]; rw [Nat.add_mul]; omega
theorem gapL_succ (a b : List (RV × RV)) (i k : Nat) : gapL a b i (k + 1) = gapL a b i k ++ gapP a b i k := by
  unfold gapL gapRow
  rw [List.range_succ, List.flatMap_append, List.append_assoc]; simp
theorem gapL_next (a b : List (RV × RV)) (i : Nat) : gapL a b (i + 1) 0 = gapL a b i b.length := by
  unfold gapL
  rw [List.range_succ, List.flatMap_append]; simp [gapRow]
def gapQ (a b : List (RV × RV)) : Rat := lowL ((gapL a b a.length 0).headD 0) (gapL a b a.length 0)
theorem mem_gapL {a b : List (RV × RV)} {i k : Nat} {q : Rat} : q ∈ gapL a b i k ↔ ∃ i' k', ((i' < i ∧ k' < b.length) ∨ (i' = i ∧ k' < k)) ∧ q ∈ gapP a b i' k' := by
  unfold gapL gapRow
  simp only [List.mem_append, List.mem_flatMap, List.mem_range]
  constructor
  · rintro (⟨i', h1, k', h2, h3⟩ | ⟨k', h2, h3⟩)
    · exact ⟨i', k', .inl ⟨h1, h2⟩, h3⟩
    · exact ⟨i, k', .inr ⟨rfl, h2⟩, h3⟩
  · rintro ⟨i', k', ⟨h1, h2⟩ | ⟨rfl, h2⟩, h3⟩
    · exact .inl ⟨i', h1, k', h2, h3⟩
    · exact .inr ⟨k', h2, h3⟩
/-- edges of a valid polygon have two ends -/
theorem edge_sq {a : List (RV × RV)} (ca : convE 64 a = 0) {i : Nat} (hi : i < a.length) : ((pts a ((i + 1) % a.length)).1 - (pts a i).1) * ((pts a ((i + 1) % a.length)).1 - (pts a i).1) + ((pts a ((i + 1) % a.length)).2 - (pts a i).2) * ((pts a ((i + 1) % a.length)).2 - (pts a i).2) ≠ 0 := by
  obtain ⟨_, h3, hE⟩ := convE_ok.1 ca
  have := poly.dt_pos (u := poly.sb (pts a ((i + 1) % a.length)) (pts a i)) (by unfold poly.sb; exact poly.edge_ne hE (by omega) hi)
  exact Rat.ne_of_gt this
theorem gap_z {a b : List (RV × RV)} (ha : ∀ p, p ∈ a → p.1.z ≤ 33554432 ∧ p.2.z ≤ 33554432) (hb : ∀ p, p ∈ b → p.1.z ≤ 33554432 ∧ p.2.z ≤ 33554432) (ca : convE 64 a = 0) (cb : convE 64 b = 0) {i k : Nat} (hi : i ≤ a.length) (hk : k ≤ b.length) (hk0 : i = a.length → k = 0) : ∀ q, q ∈ gapL a b i k → qs q ≤ 1610612800 := by
  intro q hq
  have ha : ∀ p, p ∈ a → p.1.z ≤ 67108864 ∧ p.2.z ≤ 67108864 := fun p h => ⟨Nat.le_trans (ha p h).1 (by decide), Nat.le_trans (ha p h).2 (by decide)⟩
  have hb : ∀ p, p ∈ b → p.1.z ≤ 67108864 ∧ p.2.z ≤ 67108864 := fun p h => ⟨Nat.le_trans (hb p h).1 (by decide), Nat.le_trans (hb p h).2 (by decide)⟩
  obtain ⟨i', k', h, hm⟩ := mem_gapL.1 hq
  have hi' : i' < a.length := by rcases h with h | h; omega; by_cases e : i = a.length; have := hk0 e; omega; omega
  have hk' : k' < b.length := by rcases h with h | h <;> omega
  unfold gapP at hm
  rcases List.mem_cons.1 hm with rfl | hm
  · rw [reach_dist (edge_sq cb hk')]; exact Nat.le_trans (qs_dist (pts_z ha _) (pts_z hb _) (pts_z hb _)) (by decide)
  · rw [List.mem_singleton.1 hm, reach_dist (edge_sq ca hi')]; exact Nat.le_trans (qs_dist (pts_z hb _) (pts_z ha _) (pts_z ha _)) (by decide)
set_option maxHeartbeats 2000000 in
set_option maxRecDepth 100000 in
theorem RGap_spec (a b : List (RV × RV)) (ha : ∀ p, p ∈ a → p.1.z ≤ 33554432 ∧ p.2.z ≤ 33554432) (hb : ∀ p, p ∈ b → p.1.z ≤ 33554432 ∧ p.2.z ≤ 33554432) (hna : a.length ≤ 1073741824) (hnb : b.length ≤ 1073741824) (ca : convE 64 a = 0) (cb : convE 64 b = 0) : Spec Tryd.prog Tab 38 [.val (.one (.d (.list (List.map rdv a)))), .val (.one (.d (.list (List.map rdv b))))] (rat (cn (gapQ a b))) := by
  have ha2 : ∀ p, p ∈ a → p.1.z ≤ 67108864 ∧ p.2.z ≤ 67108864 := fun p h => ⟨Nat.le_trans (ha p h).1 (by decide), Nat.le_trans (ha p h).2 (by decide)⟩
  have hb2 : ∀ p, p ∈ b → p.1.z ≤ 67108864 ∧ p.2.z ≤ 67108864 := fun p h => ⟨Nat.le_trans (hb p h).1 (by decide), Nat.le_trans (hb p h).2 (by decide)⟩
  have hLa : (List.map rdv a).length = a.length := List.length_map ..
  have hLb : (List.map rdv b).length = b.length := List.length_map ..
  have ca0 := convE_ok.1 ca
  have cb0 := convE_ok.1 cb
  refine fn_spec Tryd.func38 rfl rfl Tryd.ntmps38 rfl (by kernel_rfl) rfl rfl ?_
  refine ⟨Nat, fun i => [(0, .val (.one (.d (.list (List.map rdv a))))), (1, .val (.one (.d (.list (List.map rdv b))))), (4, .val (.one (.ptr 4 0))), (5, .val (.one (.row 54 0))), (9, int ((List.map rdv a).length : Int)), (10, int (i : Int))],
    fun i => [(4, .var 23 [.d (.v (.bool z0.s)), .d (.v (.string z0.a)), .d (.v (.string z0.d))]), (54, .row 23 3 0 (List.map rdc (gapL a b i 0)) true)], fun i => i ≤ a.length, fun i => a.length - i, 0, ?_, Nat.zero_le _, fun i hs => ?_⟩
  · constructor <;> (repeat' (first | exact rfl | exact True.intro | exact ⟨_, _, rfl⟩ | exact (by decide) | apply And.intro))
    all_goals first | exact congrArg (fun n : Int => D.v (.int .i64 n)) (by omega) | exact congrArg (fun n : Int => D.v (.int .i64 n)) (by rw [wrap64 _ (by omega) (by omega)]; omega) | (simp; done)
  refine ⟨fun e1 => ?_, fun e1 => ?_⟩
  · have f11 : (i : Int) < ((List.map rdv a).length : Int) := of_decide_eq_true e1
    refine ⟨Nat, fun k => [(0, .val (.one (.d (.list (List.map rdv a))))), (1, .val (.one (.d (.list (List.map rdv b))))), (4, .val (.one (.ptr 4 0))), (5, .val (.one (.row 54 0))), (6, int (i : Int)), (9, int ((List.map rdv a).length : Int)), (10, int (i : Int)), (14, int ((List.map rdv b).length : Int)), (15, int (k : Int))],
      fun k => [(4, .var 23 [.d (.v (.bool z0.s)), .d (.v (.string z0.a)), .d (.v (.string z0.d))]), (54, .row 23 3 0 (List.map rdc (gapL a b i k)) true)], fun k => k ≤ b.length, fun k => b.length - k, 0, ?_, Nat.zero_le _, fun k hs => ?_⟩
    · constructor <;> (repeat' (first | exact rfl | exact True.intro | exact ⟨_, _, rfl⟩ | exact (by decide) | apply And.intro))
      all_goals first | exact congrArg (fun n : Int => D.v (.int .i64 n)) (by omega) | exact congrArg (fun n : Int => D.v (.int .i64 n)) (by rw [wrap64 _ (by omega) (by omega)]; omega) | (simp; done)
    have hgl : (List.map rdc (gapL a b i k)).length = 2 * (i * b.length) + 2 * k := by rw [List.length_map, gapL_len]
    have hin : i * b.length ≤ 64 * 64 := Nat.mul_le_mul (by omega) (by omega)
    refine ⟨fun e2 => ?_, fun e2 => ?_⟩
    · have f16 : (k : Int) < ((List.map rdv b).length : Int) := of_decide_eq_true e2
      obtain ⟨x21, hx21⟩ : ∃ vv, a[i]? = some vv := ⟨_, List.getElem?_eq_getElem (by first | omega | exact Nat.mod_lt _ (by omega))⟩
      have hzx21 := ha x21 (List.mem_of_getElem? hx21)
      have hpx21 := pts_at hx21
      refine k_ix i [D.v (.bool x21.1.s), D.v (.string x21.1.a), D.v (.string x21.1.d), D.v (.bool x21.2.s), D.v (.string x21.2.a), D.v (.string x21.2.d)] (by first | rfl | omega | (rw [wrap64 _ (by omega) (by omega)]; omega)) (map_at hx21) rfl ?_
      obtain ⟨x25, hx25⟩ : ∃ vv, b[k]? = some vv := ⟨_, List.getElem?_eq_getElem (by first | omega | exact Nat.mod_lt _ (by omega))⟩
      have hzx25 := hb x25 (List.mem_of_getElem? hx25)
      have hpx25 := pts_at hx25
      refine k_ix k [D.v (.bool x25.1.s), D.v (.string x25.1.a), D.v (.string x25.1.d), D.v (.bool x25.2.s), D.v (.string x25.2.a), D.v (.string x25.2.d)] (by first | rfl | omega | (rw [wrap64 _ (by omega) (by omega)]; omega)) (map_at hx25) rfl ?_
      refine k_remW (k + 1) b.length (by first | rfl | omega | (rw [wrap64 _ (by omega) (by omega)]; omega)) (by first | rfl | omega | (rw [wrap64 _ (by omega) (by omega)]; omega)) (by omega) ?_
      obtain ⟨x33, hx33⟩ : ∃ vv, b[((k + 1) % b.length)]? = some vv := ⟨_, List.getElem?_eq_getElem (by first | omega | exact Nat.mod_lt _ (by omega))⟩
      have hzx33 := hb x33 (List.mem_of_getElem? hx33)
      have hpx33 := pts_at hx33
      refine k_ix ((k + 1) % b.length) [D.v (.bool x33.1.s), D.v (.string x33.1.a), D.v (.string x33.1.d), D.v (.bool x33.2.s), D.v (.string x33.2.a), D.v (.string x33.2.d)] (by first | rfl | omega | (rw [wrap64 _ (by omega) (by omega)]; omega)) (map_at hx33) rfl ?_
      refine k_Rreach (x := x21.1) (y := x21.2) (z := x25.1) (t := x25.2) (u := x33.1) (v := x33.2) (by omega) (by omega) (by omega) (by omega) (by omega) (by omega) (by have := edge_sq cb (i := k) (by omega); rw [hpx25, hpx33] at this; exact this) (fun q35 hk_35_1 => ?_)
      refine k_ix k [D.v (.bool x25.1.s), D.v (.string x25.1.a), D.v (.string x25.1.d), D.v (.bool x25.2.s), D.v (.string x25.2.a), D.v (.string x25.2.d)] (by first | rfl | omega | (rw [wrap64 _ (by omega) (by omega)]; omega)) (map_at hx25) rfl ?_
      refine k_ix i [D.v (.bool x21.1.s), D.v (.string x21.1.a), D.v (.string x21.1.d), D.v (.bool x21.2.s), D.v (.string x21.2.a), D.v (.string x21.2.d)] (by first | rfl | omega | (rw [wrap64 _ (by omega) (by omega)]; omega)) (map_at hx21) rfl ?_
      refine k_remW (i + 1) a.length (by first | rfl | omega | (rw [wrap64 _ (by omega) (by omega)]; omega)) (by first | rfl | omega | (rw [wrap64 _ (by omega) (by omega)]; omega)) (by omega) ?_
      obtain ⟨x50, hx50⟩ : ∃ vv, a[((i + 1) % a.length)]? = some vv := ⟨_, List.getElem?_eq_getElem (by first | omega | exact Nat.mod_lt _ (by omega))⟩
      have hzx50 := ha x50 (List.mem_of_getElem? hx50)
      have hpx50 := pts_at hx50
      refine k_ix ((i + 1) % a.length) [D.v (.bool x50.1.s), D.v (.string x50.1.a), D.v (.string x50.1.d), D.v (.bool x50.2.s), D.v (.string x50.2.a), D.v (.string x50.2.d)] (by first | rfl | omega | (rw [wrap64 _ (by omega) (by omega)]; omega)) (map_at hx50) rfl ?_
      refine k_Rreach (x := x25.1) (y := x25.2) (z := x21.1) (t := x21.2) (u := x50.1) (v := x50.2) (by omega) (by omega) (by omega) (by omega) (by omega) (by omega) (by have := edge_sq ca (i := i) (by omega); rw [hpx21, hpx50] at this; exact this) (fun q52 hk_52_1 => ?_)
      refine ⟨⟨rown (by simp), (by show ((List.map rdc (gapL a b i k)).length + 2) * 40 ≤ _; omega), (by show ((List.map rdc (gapL a b i k)).length + 2) ≤ _; omega)⟩, ?_⟩
      refine ⟨by kernel_rfl, ?_⟩
      have hgk : gapL a b i (k + 1) = gapL a b i k ++ [q35, q52] := by rw [gapL_succ, gapP, hpx21, hpx25, hpx33, hpx50, hk_35_1, hk_52_1]
      refine ⟨k + 1, by omega, by simp only; omega, ?_⟩
      constructor <;> (repeat' (first | exact rfl | exact True.intro | apply And.intro))
      all_goals first
        | (rw [hgk, List.map_append]; rfl)
        | exact congrArg (fun n : Int => D.v (.int .i64 n)) (by rw [wrap64 _ (by omega) (by omega)]; omega)
        | exact congrArg (fun n : Int => D.v (.int .i64 n)) (by omega)
    · have f16 : ¬ ((k : Int) < ((List.map rdv b).length : Int)) := of_decide_eq_false e2
      have hgap : gapL a b (i + 1) 0 = gapL a b i k := by rw [gapL_next, show b.length = k by omega]
      refine ⟨i + 1, by omega, by simp only; omega, ?_⟩
      constructor <;> (repeat' (first | exact rfl | exact True.intro | apply And.intro))
      all_goals first
        | rw [hgap]
        | exact congrArg (fun n : Int => D.v (.int .i64 n)) (by rw [wrap64 _ (by omega) (by omega)]; omega)
        | exact congrArg (fun n : Int => D.v (.int .i64 n)) (by omega)
  · have f11 : ¬ ((i : Int) < ((List.map rdv a).length : Int)) := of_decide_eq_false e1
    obtain ⟨q0, rest, hcons⟩ : ∃ q0 rest, gapL a b i 0 = q0 :: rest := by
      have hl := gapL_len a b i 0
      have hpos : 0 < i * b.length := Nat.mul_pos (by omega) (by omega)
      cases h : gapL a b i 0 with
      | nil => rw [h] at hl; simp at hl; omega
      | cons q0 rest => exact ⟨q0, rest, rfl⟩
    have hia : a.length = i := by omega
    have hin : i * b.length ≤ 64 * 64 := Nat.mul_le_mul (by omega) (by omega)
    have hll := gapL_len a b i 0
    rw [hcons] at hll
    simp only [List.length_cons] at hll
    refine k_RAround q0 rest (by rw [hcons]; rfl) (fun q hq => Nat.le_trans (gap_z ha hb ca cb (i := i) (k := 0) (by omega) (by omega) (fun _ => rfl) q (by rw [hcons]; exact hq)) (by decide)) (by omega) fun p58 q58 hp58 hq58 => ?_
    refine Eq.trans (b := rat (cn p58)) ?_ rfl
    rw [hp58, gapQ, hia, hcons]; rfl
theorem k_RGap {a b : List (RV × RV)} (ha : ∀ p, p ∈ a → p.1.z ≤ 33554432 ∧ p.2.z ≤ 33554432) (hb : ∀ p, p ∈ b → p.1.z ≤ 33554432 ∧ p.2.z ≤ 33554432) (hna : a.length ≤ 1073741824) (hnb : b.length ≤ 1073741824) (ca : convE 64 a = 0) (cb : convE 64 b = 0) (k : ∀ q, q = gapQ a b → K (rat (cn q))) : Ask 38 [vecs a, vecs b] K := use (RGap_spec a b ha hb hna hnb ca cb) rfl (k _ rfl)
end
end Go.Proofs.YtdhpmdkfmgpcmaaDoor.eng

/- Contract of gantlaw1.ApartTells: it returns true. Printed by wip/gp_apartd.py. -/
namespace Go.Proofs.YtdhpmdkfmgpcmaaDoor.eng
open Go.RowKit num mem seg q held ratA ratB ratC ratD ratE vars ratF
section
variable {K : AV → Prop}
theorem farTo_iff {P Q : Nat → poly.Pt} {n i m : Nat} : farTo P n Q i m = true ↔ ∀ j, j < m → poly.ori (P i) (P ((i + 1) % n)) (Q j) < 0 := by
  unfold farTo
  rw [List.all_eq_true]
  have e : ∀ j, (outN P n i).1 * ((Q j).1 - (P i).1) + (outN P n i).2 * ((Q j).2 - (P i).2) = - poly.ori (P i) (P ((i + 1) % n)) (Q j) := fun j => by unfold outN poly.ori; grind
  constructor
  · intro h j hj
    have := of_decide_eq_true (h j (List.mem_range.2 hj))
    rw [e] at this; grind
  · intro h j hj
    have := h j (List.mem_range.1 hj)
    exact decide_eq_true (by rw [e]; grind)
theorem bey_iff {a b : List (RV × RV)} : (bey a b).isSome = true ↔ poly.Beyond (pts a) a.length (pts b) b.length := by
  unfold bey poly.Beyond
  rw [List.find?_isSome]
  constructor
  · rintro ⟨i, h1, h2⟩; exact ⟨i, List.mem_range.1 h1, farTo_iff.1 h2⟩
  · rintro ⟨i, h1, h2⟩; exact ⟨i, List.mem_range.2 h1, farTo_iff.2 h2⟩
theorem tch_iff {a b : List (RV × RV)} (ca : convE 64 a = 0) (cb : convE 64 b = 0) : poly.Touch (pts a) a.length (pts b) b.length ↔ ¬ (bey a b).isSome = true ∧ ¬ (bey b a).isSome = true := by
  obtain ⟨_, a3, aE⟩ := convE_ok.1 ca
  obtain ⟨_, b3, bE⟩ := convE_ok.1 cb
  rw [bey_iff, bey_iff]; exact poly.touch_iff aE bE (by omega) (by omega)
theorem mem_pts {l : List (RV × RV)} {p : RV × RV} (h : p ∈ l) : ∃ i, i < l.length ∧ pts l i = (p.1.q, p.2.q) := by
  obtain ⟨i, hi, e⟩ := List.mem_iff_getElem.1 h
  exact ⟨i, hi, pts_at (by rw [List.getElem?_eq_getElem hi, e])⟩
theorem beyV_sep {a b : List (RV × RV)} (ca : convE 64 a = 0) (h : (bey a b).isSome = true) : ∃ c : Rat, (∀ p, p ∈ a → (beyV a b).1.q * p.1.q + (beyV a b).2.q * p.2.q ≤ c) ∧ ∀ q, q ∈ b → c < (beyV a b).1.q * q.1.q + (beyV a b).2.q * q.2.q := by
  obtain ⟨_, _, aE⟩ := convE_ok.1 ca
  unfold beyV
  cases e : bey a b with
  | none => rw [e] at h; exact absurd h Bool.false_ne_true
  | some i =>
    have hi : i < a.length := List.mem_range.1 (List.mem_of_find?_eq_some e)
    have hf := farTo_iff.1 (List.find?_some (p := fun i => farTo (pts a) a.length (pts b) i b.length) e)
    simp only [cn_q]
    refine ⟨(outN (pts a) a.length i).1 * (pts a i).1 + (outN (pts a) a.length i).2 * (pts a i).2, fun p hp => ?_, fun q hq => ?_⟩
    · obtain ⟨j, hj, ej⟩ := mem_pts hp
      have := poly.left_of aE hi hj
      rw [ej] at this; revert this; unfold outN poly.ori; simp only; intro this; grind
    · obtain ⟨j, hj, ej⟩ := mem_pts hq
      have := hf j hj
      rw [ej] at this; revert this; unfold outN poly.ori; simp only; intro this; grind
theorem both_eq {a b : List (RV × RV)} : (if convE 64 a = 0 then convE 64 b else convE 64 a) = bothE a b := rfl
theorem ax_sep {a b : List (RV × RV)} (h0 : bothE a b = 0) (ht : ¬ poly.Touch (pts a) a.length (pts b) b.length) : axE a b = 0 ∧ ∀ p q, p ∈ a → q ∈ b → (axV a b).1.q * p.1.q + (axV a b).2.q * p.2.q < (axV a b).1.q * q.1.q + (axV a b).2.q * q.2.q := by
  obtain ⟨ca, cb⟩ := bothE_ok.1 h0
  rw [tch_iff ca cb] at ht
  unfold axE axV
  rw [if_pos h0, if_pos h0]
  by_cases h1 : (bey a b).isSome = true
  · rw [if_pos h1, if_pos h1]
    obtain ⟨c, h2, h3⟩ := beyV_sep ca h1
    exact ⟨rfl, fun p q hp hq => by have := h2 p hp; have := h3 q hq; grind⟩
  · have h2 : (bey b a).isSome = true := Classical.byContradiction fun h => ht ⟨h1, h⟩
    rw [if_neg h1, if_neg h1, if_pos h2, if_pos h2]
    obtain ⟨c, h3, h4⟩ := beyV_sep cb h2
    refine ⟨rfl, fun p q hp hq => ?_⟩
    have h5 := h3 q hq; have h6 := h4 p hp
    simp only [cn_q, z0q]
    grind
theorem ax_z {a b : List (RV × RV)} (ha : ∀ p, p ∈ a → p.1.z ≤ 67108864 ∧ p.2.z ≤ 67108864) (hb : ∀ p, p ∈ b → p.1.z ≤ 67108864 ∧ p.2.z ≤ 67108864) : (axV a b).1.z ≤ 134217800 ∧ (axV a b).2.z ≤ 134217800 := by
  have h1 := bey_z (b := b) ha
  have h2 := bey_z (b := a) hb
  have hz0 := z0z
  unfold axV
  split
  · split
    · exact ⟨by omega, by omega⟩
    · split
      · have e1 := qs_sub z0.q (beyV b a).1.q; have e2 := qs_sub z0.q (beyV b a).2.q
        have e3 := (beyV b a).1.z1; have e4 := (beyV b a).2.z1; have e5 := z0.z1
        simp only [cn_z]; omega
      · exact ⟨Nat.zero_le _, Nat.zero_le _⟩
  · exact ⟨Nat.zero_le _, Nat.zero_le _⟩
def gapV (a b : List (RV × RV)) (q : Rat) : Prop := ∃ i k, i < a.length ∧ k < b.length ∧ (q = distQ (pts a i) (pts b k) (pts b ((k + 1) % b.length)) ∨ q = distQ (pts b k) (pts a i) (pts a ((i + 1) % a.length)))
theorem near_is {l : List (RV × RV)} (h : 3 ≤ l.length) (p : poly.Pt) : (∃ k, k < l.length ∧ nearQ l p = distQ p (pts l k) (pts l ((k + 1) % l.length))) ∧ ∀ k, k < l.length → nearQ l p ≤ distQ p (pts l k) (pts l ((k + 1) % l.length)) := by
  have h1 := lowL_mem (nearL (pts l) l.length p l.length) (distQ p (pts l 0) (pts l 1))
  have h2 := lowL_le (nearL (pts l) l.length p l.length) (distQ p (pts l 0) (pts l 1))
  unfold nearQ
  constructor
  · rcases h1 with h1 | h1
    · exact ⟨0, by omega, by rw [h1, Nat.mod_eq_of_lt (show 0 + 1 < l.length by omega)]⟩
    · obtain ⟨k, hk, e⟩ := List.mem_map.1 h1
      exact ⟨k, List.mem_range.1 hk, e.symm⟩
  · intro k hk
    exact h2.2 _ (List.mem_map.2 ⟨k, List.mem_range.2 hk, rfl⟩)
theorem sqQ_is {a b : List (RV × RV)} (ha : 3 ≤ a.length) (hb : 3 ≤ b.length) : gapV a b (sqQ a b) ∧ ∀ q, gapV a b q → sqQ a b ≤ q := by
  have h1 := lowL_mem (sqL1 b a b.length) (lowL (nearQ b (pts a 0)) (sqL1 a b a.length))
  have h2 := lowL_le (sqL1 b a b.length) (lowL (nearQ b (pts a 0)) (sqL1 a b a.length))
  have h3 := lowL_mem (sqL1 a b a.length) (nearQ b (pts a 0))
  have h4 := lowL_le (sqL1 a b a.length) (nearQ b (pts a 0))
  have row : ∀ (c d : List (RV × RV)) (i : Nat), i < c.length → nearQ d (pts c i) ∈ sqL1 c d c.length := by
    intro c d i hi
    unfold sqL1
    rw [List.take_length]
    exact List.mem_map.2 ⟨c[i], List.getElem_mem hi, by rw [pts_at (List.getElem?_eq_getElem hi)]⟩
  have row2 : ∀ (c d : List (RV × RV)) (q : Rat), q ∈ sqL1 c d c.length → ∃ i, i < c.length ∧ q = nearQ d (pts c i) := by
    intro c d q hq
    unfold sqL1 at hq
    rw [List.take_length] at hq
    obtain ⟨p, hp, e⟩ := List.mem_map.1 hq
    obtain ⟨i, hi, ei⟩ := mem_pts hp
    exact ⟨i, hi, by rw [ei, ← e]⟩
  have nv : ∀ i, i < a.length → gapV a b (nearQ b (pts a i)) := fun i hi => by
    obtain ⟨k, hk, e⟩ := (near_is hb (pts a i)).1
    exact ⟨i, k, hi, hk, .inl e⟩
  have nw : ∀ k, k < b.length → gapV a b (nearQ a (pts b k)) := fun k hk => by
    obtain ⟨i, hi, e⟩ := (near_is ha (pts b k)).1
    exact ⟨i, k, hi, hk, .inr e⟩
  unfold sqQ
  constructor
  · rcases h1 with h1 | h1
    · rw [h1]
      rcases h3 with h3 | h3
      · rw [h3]; exact nv 0 (by omega)
      · obtain ⟨i, hi, e⟩ := row2 _ _ _ h3
        rw [e]; exact nv i hi
    · obtain ⟨i, hi, e⟩ := row2 _ _ _ h1
      rw [e]; exact nw i hi
  · rintro q ⟨i, k, hi, hk, e | e⟩
    · rw [e]
      exact Rat.le_trans h2.1 (Rat.le_trans (h4.2 _ (row a b i hi)) ((near_is hb (pts a i)).2 k hk))
    · rw [e]
      exact Rat.le_trans (h2.2 _ (row b a k hk)) ((near_is ha (pts b k)).2 i hi)
theorem gapQ_is {a b : List (RV × RV)} (ca : convE 64 a = 0) (cb : convE 64 b = 0) : gapV a b (gapQ a b) ∧ ∀ q, gapV a b q → gapQ a b ≤ q := by
  obtain ⟨_, a3, _⟩ := convE_ok.1 ca
  obtain ⟨_, b3, _⟩ := convE_ok.1 cb
  have mem : ∀ q, q ∈ gapL a b a.length 0 ↔ gapV a b q := by
    intro q
    rw [mem_gapL]
    constructor
    · rintro ⟨i, k, h, hm⟩
      have hi : i < a.length ∧ k < b.length := by rcases h with h | h; exact h; omega
      refine ⟨i, k, hi.1, hi.2, ?_⟩
      unfold gapP at hm
      rw [reach_dist (edge_sq cb hi.2), reach_dist (edge_sq ca hi.1)] at hm
      rcases List.mem_cons.1 hm with e | hm
      · exact .inl e
      · exact .inr (List.mem_singleton.1 hm)
    · rintro ⟨i, k, hi, hk, e⟩
      refine ⟨i, k, .inl ⟨hi, hk⟩, ?_⟩
      unfold gapP
      rw [reach_dist (edge_sq cb hk), reach_dist (edge_sq ca hi)]
      rcases e with rfl | rfl
      · exact List.mem_cons_self ..
      · exact List.mem_cons_of_mem _ (List.mem_singleton.2 rfl)
  have h1 := lowL_mem (gapL a b a.length 0) ((gapL a b a.length 0).headD 0)
  have h2 := lowL_le (gapL a b a.length 0) ((gapL a b a.length 0).headD 0)
  have hh : (gapL a b a.length 0).headD 0 ∈ gapL a b a.length 0 := by
    have hm := (mem _).2 (⟨0, 0, by omega, by omega, .inl rfl⟩ : gapV a b _)
    cases e : gapL a b a.length 0 with
    | nil => rw [e] at hm; exact absurd hm List.not_mem_nil
    | cons x l => exact List.mem_cons_self ..
  unfold gapQ
  constructor
  · rcases h1 with h1 | h1
    · rw [h1]; exact (mem _).1 hh
    · exact (mem _).1 h1
  · intro q hq; exact h2.2 _ ((mem q).2 hq)
theorem sq_gap {a b : List (RV × RV)} (h0 : bothE a b = 0) : sqQ a b = gapQ a b := by
  obtain ⟨ca, cb⟩ := bothE_ok.1 h0
  obtain ⟨_, a3, _⟩ := convE_ok.1 ca
  obtain ⟨_, b3, _⟩ := convE_ok.1 cb
  have h1 := sqQ_is (a := a) (b := b) (by omega) (by omega)
  have h2 := gapQ_is ca cb
  exact Rat.le_antisymm (h1.2 _ h2.1) (h2.2 _ h1.1)
theorem meet_b {a b : List (RV × RV)} (h0 : bothE a b = 0) : meetB a b = true ↔ poly.Touch (pts a) a.length (pts b) b.length := by
  obtain ⟨ca, cb⟩ := bothE_ok.1 h0
  rw [tch_iff ca cb]
  unfold meetB
  rw [h0]
  cases bey a b <;> cases bey b a <;> simp
/-- the three cases, as the three operations tell them -/
theorem tells_bad {a b : List (RV × RV)} (h : ¬ bothE a b = 0) : meetB a b = false ∧ sqV a b = z0 ∧ axV a b = (z0, z0) ∧ axE a b = bothE a b :=
  ⟨by unfold meetB; rw [beq_false_of_ne h]; rfl, if_neg h, if_neg h, if_neg h⟩
theorem tells_meet {a b : List (RV × RV)} (h : bothE a b = 0) (ht : poly.Touch (pts a) a.length (pts b) b.length) : meetB a b = true ∧ sqV a b = cn ((0 : Int) : Rat) ∧ axV a b = (z0, z0) ∧ axE a b = 10 := by
  have hm := (meet_b h).2 ht
  obtain ⟨ca, cb⟩ := bothE_ok.1 h
  obtain ⟨h1, h2⟩ := (tch_iff ca cb).1 ht
  exact ⟨hm, by rw [sqV, if_pos h, if_pos hm]; rfl, by rw [axV, if_pos h, if_neg h1, if_neg h2], by rw [axE, if_pos h, if_neg h1, if_neg h2]⟩
theorem tells_apart {a b : List (RV × RV)} (h : bothE a b = 0) (ht : ¬ poly.Touch (pts a) a.length (pts b) b.length) : meetB a b = false ∧ sqV a b = cn (gapQ a b) ∧ axE a b = 0 := by
  have hm : meetB a b = false := Bool.eq_false_iff.2 fun e => ht ((meet_b h).1 e)
  exact ⟨hm, by rw [sqV, if_pos h, if_neg (by rw [hm]; exact Bool.false_ne_true), sq_gap h], (ax_sep h ht).1⟩
theorem kk_meet {a b : List (RV × RV)} (ha : ∀ p, p ∈ a → p.1.z ≤ 67108864 ∧ p.2.z ≤ 67108864) (hb : ∀ p, p ∈ b → p.1.z ≤ 67108864 ∧ p.2.z ≤ 67108864) (hna : a.length ≤ 1073741824) (hnb : b.length ≤ 1073741824) {m : Bool} {n : Int} (h : meetB a b = m) (g : bothE a b = n) (k : K (two (bool m) (int n))) : Ask 34 [vecs a, vecs b] K := by subst h; subst g; exact use (meet_spec a b ha hb hna hnb) rfl k
theorem kk_sq {a b : List (RV × RV)} (ha : ∀ p, p ∈ a → p.1.z ≤ 67108864 ∧ p.2.z ≤ 67108864) (hb : ∀ p, p ∈ b → p.1.z ≤ 67108864 ∧ p.2.z ≤ 67108864) (hna : a.length ≤ 1073741824) (hnb : b.length ≤ 1073741824) {v : RV} {n : Int} (h : sqV a b = v) (g : bothE a b = n) (k : K (two (rat v) (int n))) : Ask 35 [vecs a, vecs b] K := by subst h; subst g; exact use (sq_spec a b ha hb hna hnb) rfl k
theorem kk_axis {a b : List (RV × RV)} (ha : ∀ p, p ∈ a → p.1.z ≤ 67108864 ∧ p.2.z ≤ 67108864) (hb : ∀ p, p ∈ b → p.1.z ≤ 67108864 ∧ p.2.z ≤ 67108864) (hna : a.length ≤ 1073741824) (hnb : b.length ≤ 1073741824) {v : RV × RV} {n : Int} (h : axV a b = v) (g : axE a b = n) (k : K (two (pair v.1 v.2) (int n))) : Ask 36 [vecs a, vecs b] K := by subst h; subst g; exact use (axis_spec a b ha hb hna hnb) rfl k
theorem kk_touch {a b : List (RV × RV)} (ha : ∀ p, p ∈ a → p.1.z ≤ 33554432 ∧ p.2.z ≤ 33554432) (hb : ∀ p, p ∈ b → p.1.z ≤ 33554432 ∧ p.2.z ≤ 33554432) (hna : a.length ≤ 1073741824) (hnb : b.length ≤ 1073741824) (ca : convE 64 a = 0) (cb : convE 64 b = 0) {t : Bool} (h : touB a b = t) (k : K (bool t)) : Ask 37 [vecs a, vecs b] K := by subst h; exact use (RTouch_spec a b ha hb hna hnb ca cb) rfl k
theorem kk_gap {a b : List (RV × RV)} (ha : ∀ p, p ∈ a → p.1.z ≤ 33554432 ∧ p.2.z ≤ 33554432) (hb : ∀ p, p ∈ b → p.1.z ≤ 33554432 ∧ p.2.z ≤ 33554432) (hna : a.length ≤ 1073741824) (hnb : b.length ≤ 1073741824) (ca : convE 64 a = 0) (cb : convE 64 b = 0) (k : K (rat (cn (gapQ a b)))) : Ask 38 [vecs a, vecs b] K := use (RGap_spec a b ha hb hna hnb ca cb) rfl k
set_option maxHeartbeats 4000000 in
set_option maxRecDepth 100000 in
theorem apartTells_spec (a b : List (RV × RV)) (ha0 : ∀ p, p ∈ a → p.1.z ≤ 1048576 ∧ p.2.z ≤ 1048576) (hna0 : a.length ≤ 1048576) (hb0 : ∀ p, p ∈ b → p.1.z ≤ 1048576 ∧ p.2.z ≤ 1048576) (hnb0 : b.length ≤ 1048576) : Spec Tryd.prog Tab 5 [.val (.one (.d (.list (List.map rdv a)))), .val (.one (.d (.list (List.map rdv b))))] (bool true) := by
  have ha : ∀ p, p ∈ a → p.1.z ≤ 67108864 ∧ p.2.z ≤ 67108864 := fun p hp => ⟨Nat.le_trans (ha0 p hp).1 (by decide), Nat.le_trans (ha0 p hp).2 (by decide)⟩
  have hb : ∀ p, p ∈ b → p.1.z ≤ 67108864 ∧ p.2.z ≤ 67108864 := fun p hp => ⟨Nat.le_trans (hb0 p hp).1 (by decide), Nat.le_trans (hb0 p hp).2 (by decide)⟩
  have ha3 : ∀ p, p ∈ a → p.1.z ≤ 33554432 ∧ p.2.z ≤ 33554432 := fun p hp => ⟨Nat.le_trans (ha0 p hp).1 (by decide), Nat.le_trans (ha0 p hp).2 (by decide)⟩
  have hb3 : ∀ p, p ∈ b → p.1.z ≤ 33554432 ∧ p.2.z ≤ 33554432 := fun p hp => ⟨Nat.le_trans (hb0 p hp).1 (by decide), Nat.le_trans (hb0 p hp).2 (by decide)⟩
  have hna : a.length ≤ 1073741824 := by omega
  have hnb : b.length ≤ 1073741824 := by omega
  have hLa : (List.map rdv a).length = a.length := List.length_map ..
  have hLb : (List.map rdv b).length = b.length := List.length_map ..
  have hz0 := z0z
  refine fn_spec Tryd.func5 rfl rfl Tryd.ntmps5 rfl (by kernel_rfl) rfl rfl ?_
  refine k_apartBegun   ?_
  refine ⟨fun e => absurd e (by decide), fun _ => ?_⟩
  by_cases h0 : bothE a b = 0
  · by_cases ht : poly.Touch (pts a) a.length (pts b) b.length
    · obtain ⟨t1, t2, t3, t4⟩ := tells_meet h0 ht
      obtain ⟨ca, cb⟩ := bothE_ok.1 h0
      refine kk_meet ha hb hna hnb t1 h0 ?_
      refine kk_sq ha hb hna hnb t2 h0 ?_
      refine kk_axis ha hb hna hnb t3 t4 ?_
      refine k_RRing (l := a) (by assumption) (by omega) 64 (fun n37 hk_37_1 => ?_)
      refine ⟨fun e1 => ?_, fun e1 => ?_⟩
      · have f39 : n37 = 0 := beq_t e1
        refine k_RRing (l := b) (by assumption) (by omega) 64 (fun n41 hk_41_1 => ?_)
        refine ⟨fun e2 => ?_, fun e2 => ?_⟩
        · have f43 : n41 ≠ 0 := bne_t e2
          exfalso
          exact f43 (by rw [hk_41_1]; exact cb)
        · have f43 : ¬ (n41 ≠ 0) := fun hh => hh (bne_f e2)
          refine kk_touch ha3 hb3 hna hnb ca cb (touB_t ht) ?_
          refine ⟨fun _ => ?_, fun e => absurd e (by decide)⟩
          refine k_I (0) (by omega) (by omega) fun q81 h81 z81 => ?_
          simp only [cn_z] at z81
          refine k_eql_rat_t (by rw [h81]) ?_
          refine k_eql_vec_t ⟨rfl, rfl⟩ ?_
          refine ⟨by kernel_rfl, ?_⟩
          refine Eq.trans (b := bool true) ?_ rfl
          rfl
      · have f39 : ¬ (n37 = 0) := beq_f e1
        exfalso
        exact f39 (by rw [hk_37_1]; exact ca)
    · obtain ⟨t1, t2, t4⟩ := tells_apart h0 ht
      have hsep := (ax_sep h0 ht).2
      obtain ⟨ca, cb⟩ := bothE_ok.1 h0
      refine kk_meet ha hb hna hnb t1 h0 ?_
      refine kk_sq ha hb hna hnb t2 h0 ?_
      have hz := ax_z ha hb
      obtain ⟨⟨v1, v2⟩, hv⟩ : ∃ v, axV a b = v := ⟨_, rfl⟩
      rw [hv] at hz hsep
      simp only at hz hsep
      refine kk_axis ha hb hna hnb hv t4 ?_
      refine k_RRing (l := a) (by assumption) (by omega) 64 (fun n37 hk_37_1 => ?_)
      refine ⟨fun e5 => ?_, fun e5 => ?_⟩
      · have f39 : n37 = 0 := beq_t e5
        refine k_RRing (l := b) (by assumption) (by omega) 64 (fun n41 hk_41_1 => ?_)
        refine ⟨fun e6 => ?_, fun e6 => ?_⟩
        · have f43 : n41 ≠ 0 := bne_t e6
          exfalso
          exact f43 (by rw [hk_41_1]; exact cb)
        · have f43 : ¬ (n41 ≠ 0) := fun hh => hh (bne_f e6)
          refine kk_touch ha3 hb3 hna hnb ca cb (touB_f ht) ?_
          refine ⟨fun e => absurd e (by decide), fun _ => ?_⟩
          refine ⟨Nat, fun i => [(0, .val (.one (.d (.list (List.map rdv a))))), (1, .val (.one (.d (.list (List.map rdv b))))), (5, bool false), (6, int 0), (7, .val (.one (.ptr 7 0))), (8, int 0), (9, .val (.one (.ptr 9 0))), (10, int 0), (97, .val (.one (.d (.list (List.map rdv a))))), (98, int ((List.map rdv a).length : Int)), (99, int (i : Int))],
            fun i => [(7, .var 23 [.d (.v (.bool (cn (gapQ a b)).s)), .d (.v (.string (cn (gapQ a b)).a)), .d (.v (.string (cn (gapQ a b)).d))]), (9, .var 43 [.d (.v (.bool v1.s)), .d (.v (.string v1.a)), .d (.v (.string v1.d)), .d (.v (.bool v2.s)), .d (.v (.string v2.a)), .d (.v (.string v2.d))])], fun i => i ≤ a.length, fun i => a.length - i, 0, ?_, Nat.zero_le _, fun i hs => ?_⟩
          · constructor <;> (repeat' (first | exact rfl | exact True.intro | exact ⟨_, _, rfl⟩ | exact (by decide) | apply And.intro))
            all_goals first | exact congrArg (fun n : Int => D.v (.int .i64 n)) (by omega) | exact congrArg (fun n : Int => D.v (.int .i64 n)) (by rw [wrap64 _ (by omega) (by omega)]; omega) | (simp; done)
          refine ⟨fun e7 => ?_, fun e7 => ?_⟩
          · have f100 : (i : Int) < ((List.map rdv a).length : Int) := of_decide_eq_true e7
            obtain ⟨x101, hx101⟩ : ∃ vv, a[i]? = some vv := ⟨_, List.getElem?_eq_getElem (by first | omega | exact Nat.mod_lt _ (by omega))⟩
            have hmx101 := List.mem_of_getElem? hx101
            have hzx101 := ha x101 hmx101
            refine k_ix i [D.v (.bool x101.1.s), D.v (.string x101.1.a), D.v (.string x101.1.d), D.v (.bool x101.2.s), D.v (.string x101.2.a), D.v (.string x101.2.d)] (by first | rfl | omega | (rw [wrap64 _ (by omega) (by omega)]; omega)) (map_at hx101) rfl ?_
            refine ⟨Nat, fun k => [(0, .val (.one (.d (.list (List.map rdv a))))), (1, .val (.one (.d (.list (List.map rdv b))))), (5, bool false), (6, int 0), (7, .val (.one (.ptr 7 0))), (8, int 0), (9, .val (.one (.ptr 9 0))), (10, int 0), (13, .val (.one (.ptr 13 0))), (97, .val (.one (.d (.list (List.map rdv a))))), (98, int ((List.map rdv a).length : Int)), (99, int (i : Int)), (103, .val (.one (.d (.list (List.map rdv b))))), (104, int ((List.map rdv b).length : Int)), (105, int (k : Int))],
              fun k => [(7, .var 23 [.d (.v (.bool (cn (gapQ a b)).s)), .d (.v (.string (cn (gapQ a b)).a)), .d (.v (.string (cn (gapQ a b)).d))]), (9, .var 43 [.d (.v (.bool v1.s)), .d (.v (.string v1.a)), .d (.v (.string v1.d)), .d (.v (.bool v2.s)), .d (.v (.string v2.a)), .d (.v (.string v2.d))]), (13, .var 43 [.d (.v (.bool x101.1.s)), .d (.v (.string x101.1.a)), .d (.v (.string x101.1.d)), .d (.v (.bool x101.2.s)), .d (.v (.string x101.2.a)), .d (.v (.string x101.2.d))])], fun k => k ≤ b.length, fun k => b.length - k, 0, ?_, Nat.zero_le _, fun k hs => ?_⟩
            · constructor <;> (repeat' (first | exact rfl | exact True.intro | exact ⟨_, _, rfl⟩ | exact (by decide) | apply And.intro))
              all_goals first | exact congrArg (fun n : Int => D.v (.int .i64 n)) (by omega) | exact congrArg (fun n : Int => D.v (.int .i64 n)) (by rw [wrap64 _ (by omega) (by omega)]; omega) | (simp; done)
            refine ⟨fun e8 => ?_, fun e8 => ?_⟩
            · have f106 : (k : Int) < ((List.map rdv b).length : Int) := of_decide_eq_true e8
              obtain ⟨x107, hx107⟩ : ∃ vv, b[k]? = some vv := ⟨_, List.getElem?_eq_getElem (by first | omega | exact Nat.mod_lt _ (by omega))⟩
              have hmx107 := List.mem_of_getElem? hx107
              have hzx107 := hb x107 hmx107
              refine k_ix k [D.v (.bool x107.1.s), D.v (.string x107.1.a), D.v (.string x107.1.d), D.v (.bool x107.2.s), D.v (.string x107.2.a), D.v (.string x107.2.d)] (by first | rfl | omega | (rw [wrap64 _ (by omega) (by omega)]; omega)) (map_at hx107) rfl ?_
              refine k_RDot (x := v1) (y := v2) (z := x101.1) (t := x101.2) (by omega) (by omega) (by omega) (by omega) (fun q111 hk_111_1 hk_111_2 => ?_)
              simp only [cn_z] at hk_111_2
              refine k_RDot (x := v1) (y := v2) (z := x107.1) (t := x107.2) (by omega) (by omega) (by omega) (by omega) (fun q114 hk_114_1 hk_114_2 => ?_)
              simp only [cn_z] at hk_114_2
              refine k_cmp (x := cn q111) (y := cn q114) (by simp only [cn_z]; omega) (by simp only [cn_z]; omega) fun n115 h115 => ?_
              simp only [cn_q] at h115
              refine ⟨by kernel_rfl, ?_⟩
              refine ⟨fun e9 => ?_, fun e9 => ?_⟩
              · have f116 : q114 ≤ q111 := (cq_ge h115).1 (of_decide_eq_true e9)
                exfalso
                have := hsep _ _ hmx101 hmx107; rw [← hk_111_1, ← hk_114_1] at this; exact absurd this (Rat.not_lt.2 f116)
              · have f116 : ¬ (q114 ≤ q111) := fun hh => of_decide_eq_false e9 ((cq_ge h115).2 hh)
                refine ⟨k + 1, by omega, by simp only; omega, ?_⟩
                constructor <;> (repeat' (first | exact rfl | exact True.intro | apply And.intro))
                all_goals first
                  | exact congrArg (fun n : Int => D.v (.int .i64 n)) (by rw [wrap64 _ (by omega) (by omega)]; omega)
                  | exact congrArg (fun n : Int => D.v (.int .i64 n)) (by omega)
            · have f106 : ¬ ((k : Int) < ((List.map rdv b).length : Int)) := of_decide_eq_false e8
              refine ⟨i + 1, by omega, by simp only; omega, ?_⟩
              constructor <;> (repeat' (first | exact rfl | exact True.intro | apply And.intro))
              all_goals first
                | exact congrArg (fun n : Int => D.v (.int .i64 n)) (by rw [wrap64 _ (by omega) (by omega)]; omega)
                | exact congrArg (fun n : Int => D.v (.int .i64 n)) (by omega)
          · have f100 : ¬ ((i : Int) < ((List.map rdv a).length : Int)) := of_decide_eq_false e7
            refine kk_gap ha3 hb3 hna hnb ca cb ?_
            refine k_eql_rat_t rfl ?_
            refine ⟨by kernel_rfl, ?_⟩
            refine Eq.trans (b := bool true) ?_ rfl
            rfl
      · have f39 : ¬ (n37 = 0) := beq_f e5
        exfalso
        exact f39 (by rw [hk_37_1]; exact ca)
  · obtain ⟨t1, t2, t3, t4⟩ := tells_bad h0
    obtain ⟨n0, hn0⟩ : ∃ n, n = bothE a b := ⟨_, rfl⟩
    rw [← hn0] at h0 t4
    refine kk_meet ha hb hna hnb t1 hn0.symm ?_
    refine kk_sq ha hb hna hnb t2 hn0.symm ?_
    refine kk_axis ha hb hna hnb t3 t4 ?_
    refine k_RRing (l := a) (by assumption) (by omega) 64 (fun n37 hk_37_1 => ?_)
    refine ⟨fun e11 => ?_, fun e11 => ?_⟩
    · have f39 : n37 = 0 := beq_t e11
      refine k_RRing (l := b) (by assumption) (by omega) 64 (fun n41 hk_41_1 => ?_)
      refine ⟨fun e12 => ?_, fun e12 => ?_⟩
      · have f43 : n41 ≠ 0 := bne_t e12
        have hq : n0 = n41 := by rw [hn0, bothE, if_pos (by rw [← hk_37_1]; exact f39), hk_41_1]
        refine fork (fun e13 => ?_) (fun e13 => ?_)
        · have f51 : n0 = n41 := beq_t e13
          refine k_eql_rat_t rfl ?_
          refine fork (fun e15 => ?_) (fun e15 => ?_)
          · have f61 : n0 = n41 := beq_t e15
            refine k_eql_vec_t ⟨rfl, rfl⟩ ?_
            refine Eq.trans (b := bool (n0 == n41)) ?_ rfl
            rw [show (n0 == n41) = true from by rw [hq]; exact beq_self_eq_true _]
          · have f61 : ¬ (n0 = n41) := beq_f e15
            exfalso
            exact f61 hq
        · have f51 : ¬ (n0 = n41) := beq_f e13
          exfalso
          exact f51 hq
      · have f43 : ¬ (n41 ≠ 0) := fun hh => hh (bne_f e12)
        exfalso
        exact h0 (by rw [hn0]; exact bothE_ok.2 ⟨by omega, by omega⟩)
    · have f39 : ¬ (n37 = 0) := beq_f e11
      refine ⟨fun e17 => ?_, fun e17 => ?_⟩
      · have f43 : n37 ≠ 0 := bne_t e17
        have hq : n0 = n37 := by rw [hn0, bothE, if_neg (by rw [← hk_37_1]; exact f39), hk_37_1]
        refine fork (fun e18 => ?_) (fun e18 => ?_)
        · have f51 : n0 = n37 := beq_t e18
          refine k_eql_rat_t rfl ?_
          refine fork (fun e20 => ?_) (fun e20 => ?_)
          · have f61 : n0 = n37 := beq_t e20
            refine k_eql_vec_t ⟨rfl, rfl⟩ ?_
            refine Eq.trans (b := bool (n0 == n37)) ?_ rfl
            rw [show (n0 == n37) = true from by rw [hq]; exact beq_self_eq_true _]
          · have f61 : ¬ (n0 = n37) := beq_f e20
            exfalso
            exact f61 hq
        · have f51 : ¬ (n0 = n37) := beq_f e18
          exfalso
          exact f51 hq
      · have f43 : ¬ (n37 ≠ 0) := fun hh => hh (bne_f e17)
        exfalso
        omega
theorem apartTells_walk (v0 : Value) (a : List (RV × RV)) (v1 : Value) (b : List (RV × RV)) (N : Nat) (w : World) (_ : 1 ≤ N) (hN : N ≤ 1048576)
    (h0 : Den w (fun b => b < w.heap.size) v0 (.list (a.map rdv))) (l1 : a.length ≤ N) (l2 : ∀ x, x ∈ a → x.1.z ≤ N ∧ x.2.z ≤ N)
    (h1 : Den w (fun b => b < w.heap.size) v1 (.list (b.map rdv))) (m1 : b.length ≤ N) (m2 : ∀ x, x ∈ b → x.1.z ≤ N ∧ x.2.z ≤ N) (hT : Tab w) :
    Calls Tryd.prog 5 #[v0, v1] w fun e w' => e = .returned (.bool true) ∧ Below w.heap.size w w' :=
  calls_of_specI (I := fun b => b < w.heap.size) (apartTells_spec a b (fun x hx => ⟨Nat.le_trans (l2 x hx).1 hN, Nat.le_trans (l2 x hx).2 hN⟩) (Nat.le_trans l1 hN) (fun x hx => ⟨Nat.le_trans (m2 x hx).1 hN, Nat.le_trans (m2 x hx).2 hN⟩) (Nat.le_trans m1 hN)) rfl hT (fun _ h => h)
    (((pvl_rel (vs := []) rfl).cons (show DenAV _ _ _ _ v1 (.val (.one (.d (.list _)))) from h1)).cons (show DenAV _ _ _ _ v0 (.val (.one (.d (.list _)))) from h0))
end
end Go.Proofs.YtdhpmdkfmgpcmaaDoor.eng

