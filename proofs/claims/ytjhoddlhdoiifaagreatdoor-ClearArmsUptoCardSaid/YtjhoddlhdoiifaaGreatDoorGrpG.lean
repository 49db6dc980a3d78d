/- Joined by wip/bundle.py: XGeo XGeo2 XGeo3. -/
import Derived.Test.YtjhoddlhdoiifaaGreatDoorGrpP
/- Plain geometry, no program: two convex polygons have a point in common, or an edge of one of them has the other one beyond it. -/
namespace Go.Proofs.YtjhoddlhdoiifaaGreatDoor.poly
def crs (u v : Pt) : Rat := u.1 * v.2 - u.2 * v.1
def dt (u v : Pt) : Rat := u.1 * v.1 + u.2 * v.2
def sb (u v : Pt) : Pt := (u.1 - v.1, u.2 - v.2)
theorem crs_anti (u v : Pt) : crs u v = - crs v u := by unfold crs; grind
theorem crs_self (u : Pt) : crs u u = 0 := by unfold crs; grind
theorem sq_nonneg (a : Rat) : 0 ≤ a * a := by
  rcases Rat.le_total (a := 0) (b := a) with h | h
  · exact Rat.mul_nonneg h h
  · have := Rat.mul_nonneg (a := -a) (b := -a) (by grind) (by grind)
    grind
theorem sq_pos {a : Rat} (h : a ≠ 0) : 0 < a * a := by
  have := sq_nonneg a
  have h2 : a * a ≠ 0 := fun e => h (by rcases Rat.mul_eq_zero.1 e with h | h <;> exact h)
  grind
theorem dt_pos {u : Pt} (h : ¬ (u.1 = 0 ∧ u.2 = 0)) : 0 < dt u u := by
  unfold dt
  have h1 := sq_nonneg u.1; have h2 := sq_nonneg u.2
  by_cases e : u.1 = 0
  · have := sq_pos (a := u.2) (fun e2 => h ⟨e, e2⟩); grind
  · have := sq_pos e; grind
theorem div_pos {a b : Rat} (h : 0 < a) (g : 0 < b) : 0 < a / b := by
  rw [Rat.div_def]; exact Rat.mul_pos h (Rat.inv_pos.2 g)
/-- the least of finitely many values -/
theorem least_of {p : Nat → Prop} (f : Nat → Rat) : ∀ n, (∃ i, i < n ∧ p i) → ∃ i, i < n ∧ p i ∧ ∀ j, j < n → p j → f i ≤ f j := by
  intro n
  induction n with
  | zero => rintro ⟨i, h, _⟩; omega
  | succ n ih =>
    rintro ⟨i, hi, hp⟩
    by_cases h : ∃ i, i < n ∧ p i
    · obtain ⟨k, h1, h2, h3⟩ := ih h
      by_cases hn : p n ∧ f n < f k
      · refine ⟨n, by omega, hn.1, fun j hj hpj => ?_⟩
        by_cases e : j = n
        · subst e; exact Rat.le_refl
        · exact Rat.le_trans (Rat.le_of_lt hn.2) (h3 j (by omega) hpj)
      · refine ⟨k, by omega, h2, fun j hj hpj => ?_⟩
        by_cases e : j = n
        · subst e; exact Rat.not_lt.1 fun hh => hn ⟨hpj, hh⟩
        · exact h3 j (by omega) hpj
    · have e : i = n := by
        by_cases e : i = n
        · exact e
        · exact absurd ⟨i, by omega, hp⟩ h
      subst e
      refine ⟨i, by omega, hp, fun j hj hpj => ?_⟩
      by_cases e : j = i
      · subst e; exact Rat.le_refl
      · exact absurd ⟨j, by omega, hpj⟩ h
/-! ### vectors on one side of a line through 0 -/
/-- where a vector lies to the left of another one, by slopes -/
theorem slope_le {N v w : Pt} (hv : 0 < dt N v) (hw : 0 < dt N w) (h : crs N v / dt N v ≤ crs N w / dt N w) : 0 ≤ crs v w := by
  have hN : 0 < dt N N := dt_pos fun ⟨h1, h2⟩ => by unfold dt at hv; rw [h1, h2] at hv; grind
  have key : dt N N * crs v w = dt N v * crs N w - crs N v * dt N w := by unfold dt crs; grind
  have h2 : 0 ≤ dt N v * crs N w - crs N v * dt N w := by
    have e : dt N v * crs N w - crs N v * dt N w = dt N v * dt N w * (crs N w / dt N w - crs N v / dt N v) := by
      have a := Rat.ne_of_gt hv; have b := Rat.ne_of_gt hw; grind
    rw [e]
    exact Rat.mul_nonneg (Rat.le_of_lt (Rat.mul_pos hv hw)) (by grind)
  rw [← key] at h2
  exact nonneg_of_mul hN h2
/-- Gordan: all vectors lie on one side, or some of them weigh out to 0 -/
def Weigh (l : List Pt) : Prop := ∃ a b c, a ∈ l ∧ b ∈ l ∧ c ∈ l ∧ ∃ x y z : Rat, 0 ≤ x ∧ 0 ≤ y ∧ 0 ≤ z ∧ 0 < x + y + z ∧ x * a.1 + y * b.1 + z * c.1 = 0 ∧ x * a.2 + y * b.2 + z * c.2 = 0
theorem Weigh.mono {l m : List Pt} (h : Weigh l) (hs : ∀ a, a ∈ l → a ∈ m) : Weigh m := by
  obtain ⟨a, b, c, h1, h2, h3, r⟩ := h
  exact ⟨a, b, c, hs a h1, hs b h2, hs c h3, r⟩
theorem extreme {N : Pt} : ∀ {l : List Pt}, l ≠ [] → (∀ x, x ∈ l → 0 < dt N x) → ∃ r s, r ∈ l ∧ s ∈ l ∧ ∀ x, x ∈ l → 0 ≤ crs r x ∧ 0 ≤ crs x s
  | [], h, _ => absurd rfl h
  | [a], _, _ => ⟨a, a, by simp, by simp, fun x hx => by rw [List.mem_singleton.1 hx, crs_self]; exact ⟨Rat.le_refl, Rat.le_refl⟩⟩
  | a :: b :: l, _, hN => by
    obtain ⟨r, s, hr, hs, h⟩ := extreme (N := N) (l := b :: l) (by simp) (fun x hx => hN x (by simp [hx]))
    have ha := hN a (by simp)
    have hr' := hN r (List.mem_cons_of_mem _ hr)
    have hs' := hN s (List.mem_cons_of_mem _ hs)
    have tr : ∀ u v w : Pt, 0 < dt N u → 0 < dt N v → 0 < dt N w → 0 ≤ crs u v → 0 ≤ crs v w → 0 ≤ crs u w := by
      intro u v w hu hv hw h1 h2
      have key : dt N v * crs u w = dt N u * crs v w + dt N w * crs u v := by unfold dt crs; grind
      refine nonneg_of_mul hv ?_
      rw [key]
      have := Rat.mul_nonneg (Rat.le_of_lt hu) h2; have := Rat.mul_nonneg (Rat.le_of_lt hw) h1; grind
    -- the right end
    have R : ∃ r', r' ∈ a :: b :: l ∧ ∀ x, x ∈ a :: b :: l → 0 ≤ crs r' x := by
      by_cases e : 0 ≤ crs a r
      · refine ⟨a, by simp, fun x hx => ?_⟩
        rcases List.mem_cons.1 hx with rfl | hx'
        · rw [crs_self]; exact Rat.le_refl
        · exact tr a r x ha hr' (hN x hx) e (h x hx').1
      · refine ⟨r, List.mem_cons_of_mem _ hr, fun x hx => ?_⟩
        rcases List.mem_cons.1 hx with rfl | hx'
        · rw [crs_anti]; have := Rat.not_le.1 e; grind
        · exact (h x hx').1
    have L : ∃ s', s' ∈ a :: b :: l ∧ ∀ x, x ∈ a :: b :: l → 0 ≤ crs x s' := by
      by_cases e : 0 ≤ crs s a
      · refine ⟨a, by simp, fun x hx => ?_⟩
        rcases List.mem_cons.1 hx with rfl | hx'
        · rw [crs_self]; exact Rat.le_refl
        · exact tr x s a (hN x hx) hs' ha (h x hx').2 e
      · refine ⟨s, List.mem_cons_of_mem _ hs, fun x hx => ?_⟩
        rcases List.mem_cons.1 hx with rfl | hx'
        · rw [crs_anti]; have := Rat.not_le.1 e; grind
        · exact (h x hx').2
    obtain ⟨r', h1, h2⟩ := R
    obtain ⟨s', h3, h4⟩ := L
    exact ⟨r', s', h1, h3, fun x hx => ⟨h2 x hx, h4 x hx⟩⟩
end Go.Proofs.YtjhoddlhdoiifaaGreatDoor.poly

/- Plain geometry, no program: an edge between two convex polygons that a line keeps apart; a common point of two that no edge keeps apart; what a common point brings. -/
namespace Go.Proofs.YtjhoddlhdoiifaaGreatDoor.poly
section
variable {P Q : Nat → Pt} {n m : Nat}
/-- an edge of P has Q strictly beyond it -/
def Beyond (P : Nat → Pt) (n : Nat) (Q : Nat → Pt) (m : Nat) : Prop := ∃ i, i < n ∧ ∀ j, j < m → ori (P i) (P ((i + 1) % n)) (Q j) < 0
def prev (n i : Nat) : Nat := (i + (n - 1)) % n
theorem prev_lt (hn : 0 < n) (i : Nat) : prev n i < n := Nat.mod_lt _ hn
theorem prev_next {i : Nat} (hi : i < n) : (prev n i + 1) % n = i := by
  unfold prev
  rw [Nat.mod_add_mod, show i + (n - 1) + 1 = i + n by omega, Nat.add_mod_right, Nat.mod_eq_of_lt hi]
/-- three corners in a row turn left -/
theorem turn_at (h : Edges P n) (hn : 3 ≤ n) {i : Nat} (hi : i < n) : 0 < ori (P (prev n i)) (P i) (P ((i + 1) % n)) := by
  have := h (prev n i) 2 (prev_lt (by omega) i) (by omega) (by omega)
  rw [prev_next hi] at this
  rwa [show (prev n i + 2) % n = ((prev n i + 1) % n + 1) % n by rw [Nat.mod_add_mod], prev_next hi] at this
theorem left_of (h : Edges P n) {i j : Nat} (hi : i < n) (hj : j < n) : 0 ≤ ori (P i) (P ((i + 1) % n)) (P j) := edges_all h hi hj
theorem extreme_pair {N : Pt} (hn : 0 < n) (hm : 0 < m) (hN : ∀ i j, i < n → j < m → 0 < dt N (sb (Q j) (P i))) :
    ∃ i0 j0, i0 < n ∧ j0 < m ∧ ∀ i j, i < n → j < m → 0 ≤ crs (sb (Q j0) (P i0)) (sb (Q j) (P i)) ∧ (crs (sb (Q j0) (P i0)) (sb (Q j) (P i)) = 0 → dt N (sb (Q j0) (P i0)) ≤ dt N (sb (Q j) (P i))) := by
  let w : Nat → Pt := fun k => sb (Q (k % m)) (P (k / m))
  have hk : ∀ k, k < n * m → k / m < n ∧ k % m < m := fun k hk => ⟨(Nat.div_lt_iff_lt_mul hm).2 hk, Nat.mod_lt _ hm⟩
  have hw : ∀ k, k < n * m → 0 < dt N (w k) := fun k h => hN _ _ (hk k h).1 (hk k h).2
  have hpos : 0 < n * m := Nat.mul_pos hn hm
  obtain ⟨a, a1, _, a3⟩ := least_of (p := fun _ => True) (fun k => crs N (w k) / dt N (w k)) (n * m) ⟨0, hpos, trivial⟩
  obtain ⟨b, b1, b2, b3⟩ := least_of (p := fun k => crs N (w k) / dt N (w k) ≤ crs N (w a) / dt N (w a)) (fun k => dt N (w k)) (n * m) ⟨a, a1, Rat.le_refl⟩
  refine ⟨b / m, b % m, (hk b b1).1, (hk b b1).2, fun i j hi hj => ?_⟩
  obtain ⟨c, hc, ec⟩ : ∃ c, c < n * m ∧ w c = sb (Q j) (P i) := by
    refine ⟨i * m + j, ?_, ?_⟩
    · calc i * m + j < i * m + m := by omega
        _ = (i + 1) * m := by rw [Nat.add_mul, Nat.one_mul]
        _ ≤ n * m := Nat.mul_le_mul_right _ hi
    · show sb (Q ((i * m + j) % m)) (P ((i * m + j) / m)) = _
      rw [Nat.mul_comm i m, Nat.mul_add_mod, Nat.mod_eq_of_lt hj, Nat.mul_add_div hm, Nat.div_eq_of_lt hj, Nat.add_zero]
  rw [← ec]
  have hle : crs N (w b) / dt N (w b) ≤ crs N (w c) / dt N (w c) := Rat.le_trans b2 (a3 c hc trivial)
  have h1 := slope_le (hw b b1) (hw c hc) hle
  refine ⟨h1, fun h0 => b3 c hc ?_⟩
  -- on one ray: the same slope
  have key : dt N N * crs (w b) (w c) = dt N (w b) * crs N (w c) - crs N (w b) * dt N (w c) := by unfold dt crs; grind
  have h0' : crs (w b) (w c) = 0 := h0
  rw [h0', Rat.mul_zero] at key
  have e : crs N (w c) / dt N (w c) = crs N (w b) / dt N (w b) := by
    have p1 := Rat.ne_of_gt (hw b b1); have p2 := Rat.ne_of_gt (hw c hc); grind
  rw [e]; exact b2
/-- one of the two edges that come in at the extreme pair has 0 beyond it -/
theorem beyond_of_line {N : Pt} (hP : Edges P n) (hQ : Edges Q m) (hn : 3 ≤ n) (hm : 3 ≤ m) (hN : ∀ i j, i < n → j < m → 0 < dt N (sb (Q j) (P i))) : Beyond P n Q m ∨ Beyond Q m P n := by
  obtain ⟨i0, j0, hi0, hj0, hx⟩ := extreme_pair (by omega) (by omega) hN
  -- the two directions
  have tP := turn_at hP hn hi0
  have tQ := turn_at hQ hm hj0
  have eP : ∀ i, i < n → 0 ≤ ori (P (prev n i0)) (P i0) (P i) := fun i hi => by have := left_of hP (prev_lt (by omega) i0) hi; rwa [prev_next hi0] at this
  have eQ : ∀ j, j < m → 0 ≤ ori (Q (prev m j0)) (Q j0) (Q j) := fun j hj => by have := left_of hQ (prev_lt (by omega) j0) hj; rwa [prev_next hj0] at this
  have hvN := hN i0 j0 hi0 hj0
  have xB := hx i0 (prev m j0) hi0 (prev_lt (by omega) j0)
  have xA := hx (prev n i0) j0 (prev_lt (by omega) i0) hj0
  have xP : ∀ i, i < n → 0 ≤ crs (sb (Q j0) (P i0)) (sb (P i0) (P i)) := fun i hi => by
    have := (hx i j0 hi hj0).1
    have e : crs (sb (Q j0) (P i0)) (sb (Q j0) (P i)) = crs (sb (Q j0) (P i0)) (sb (P i0) (P i)) := by unfold crs sb; grind
    rwa [e] at this
  have xQ : ∀ j, j < m → 0 ≤ crs (sb (Q j0) (P i0)) (sb (Q j) (Q j0)) := fun j hj => by
    have := (hx i0 j hi0 hj).1
    have e : crs (sb (Q j0) (P i0)) (sb (Q j) (P i0)) = crs (sb (Q j0) (P i0)) (sb (Q j) (Q j0)) := by unfold crs sb; grind
    rwa [e] at this
  -- in words of v, dB, dA
  have step : ∀ (v d e : Pt), 0 < dt N v → 0 ≤ crs d v → (crs d v = 0 → dt N d ≤ 0) → 0 ≤ crs e v → (crs e v = 0 → dt N e ≤ 0) → ¬ (e.1 = 0 ∧ e.2 = 0) → ¬ (d.1 = 0 ∧ d.2 = 0) → 0 ≤ crs e d →
      (∃ u, 0 ≤ crs v u ∧ 0 ≤ crs e u ∧ ¬ crs v u = 0) → 0 < crs d v ∧ ∀ u, 0 ≤ crs v u → 0 ≤ crs e u → 0 ≤ crs d u := by
    intro v d e hv h1 h2 h3 h4 he hd h5 hu
    rcases Rat.le_iff_lt_or_eq.1 h3 with h3 | h3
    · have hpos : 0 < crs d v := by
        rcases Rat.le_iff_lt_or_eq.1 h1 with h1 | h1
        · exact h1
        · exfalso
          have k := h2 h1.symm
          -- d is a multiple of v
          have e1 : crs e v * d.1 = crs e d * v.1 + crs d v * e.1 := by unfold crs; grind
          have e2 : crs e v * d.2 = crs e d * v.2 + crs d v * e.2 := by unfold crs; grind
          rw [← h1] at e1 e2
          have e3 : crs e v * dt N d = crs e d * dt N v := by unfold dt; grind
          have e4 : crs e d * dt N v ≤ 0 := by rw [← e3]; have := Rat.mul_nonneg (Rat.le_of_lt h3) (show 0 ≤ - dt N d by grind); grind
          have e5 : crs e d = 0 := by
            rcases Rat.le_iff_lt_or_eq.1 h5 with h5 | h5
            · have := Rat.mul_pos h5 hv; grind
            · exact h5.symm
          rw [e5] at e1 e2
          refine hd ⟨?_, ?_⟩
          · have : crs e v * d.1 = 0 := by rw [e1]; grind
            rcases Rat.mul_eq_zero.1 this with h | h
            · exact absurd h (Rat.ne_of_gt h3)
            · exact h
          · have : crs e v * d.2 = 0 := by rw [e2]; grind
            rcases Rat.mul_eq_zero.1 this with h | h
            · exact absurd h (Rat.ne_of_gt h3)
            · exact h
      refine ⟨hpos, fun u g1 g2 => ?_⟩
      have key : crs e v * crs d u = crs d v * crs e u + crs e d * crs v u := by unfold crs; grind
      refine nonneg_of_mul h3 ?_
      rw [key]
      have := Rat.mul_nonneg h1 g2; have := Rat.mul_nonneg h5 g1; grind
    · exfalso
      -- e points away from v
      have k := h4 h3.symm
      obtain ⟨u, g1, g2, g3⟩ := hu
      have key : dt N v * crs e u = dt N e * crs v u + dt N u * crs e v := by unfold dt crs; grind
      rw [← h3, Rat.mul_zero, Rat.add_zero] at key
      have hvu : 0 < crs v u := by rcases Rat.le_iff_lt_or_eq.1 g1 with h | h; exact h; exact absurd h.symm g3
      have hle : dt N e * crs v u ≤ 0 := by have := Rat.mul_nonneg (show 0 ≤ - dt N e by grind) g1; grind
      have h0 : dt N v * crs e u = 0 := by have := Rat.mul_nonneg (Rat.le_of_lt hv) g2; grind
      have h6 : dt N e * crs v u = 0 := by rw [← key]; exact h0
      have h7 : dt N e = 0 := by
        rcases Rat.mul_eq_zero.1 h6 with h | h
        · exact h
        · exact absurd h g3
      -- e on the line of v, and at right angles to N: it is 0
      have a1 : dt N v * e.1 = dt N e * v.1 + N.2 * crs e v := by unfold dt crs; grind
      have a2 : dt N v * e.2 = dt N e * v.2 - N.1 * crs e v := by unfold dt crs; grind
      rw [h7, ← h3] at a1 a2
      refine he ⟨?_, ?_⟩
      · have : dt N v * e.1 = 0 := by rw [a1]; grind
        rcases Rat.mul_eq_zero.1 this with h | h
        · exact absurd h (Rat.ne_of_gt hv)
        · exact h
      · have : dt N v * e.2 = 0 := by rw [a2]; grind
        rcases Rat.mul_eq_zero.1 this with h | h
        · exact absurd h (Rat.ne_of_gt hv)
        · exact h
  -- what is known of both
  have b1 : 0 ≤ crs (sb (Q j0) (Q (prev m j0))) (sb (Q j0) (P i0)) := by
    have := xB.1
    have e : crs (sb (Q j0) (P i0)) (sb (Q (prev m j0)) (P i0)) = crs (sb (Q j0) (Q (prev m j0))) (sb (Q j0) (P i0)) := by unfold crs sb; grind
    rwa [e] at this
  have b2 : crs (sb (Q j0) (Q (prev m j0))) (sb (Q j0) (P i0)) = 0 → dt N (sb (Q j0) (Q (prev m j0))) ≤ 0 := fun h => by
    have e : crs (sb (Q j0) (P i0)) (sb (Q (prev m j0)) (P i0)) = crs (sb (Q j0) (Q (prev m j0))) (sb (Q j0) (P i0)) := by unfold crs sb; grind
    have := xB.2 (by rw [e]; exact h)
    unfold dt sb at this ⊢; grind
  have a1 : 0 ≤ crs (sb (P (prev n i0)) (P i0)) (sb (Q j0) (P i0)) := by
    have := xA.1
    have e : crs (sb (Q j0) (P i0)) (sb (Q j0) (P (prev n i0))) = crs (sb (P (prev n i0)) (P i0)) (sb (Q j0) (P i0)) := by unfold crs sb; grind
    rwa [e] at this
  have a2 : crs (sb (P (prev n i0)) (P i0)) (sb (Q j0) (P i0)) = 0 → dt N (sb (P (prev n i0)) (P i0)) ≤ 0 := fun h => by
    have e : crs (sb (Q j0) (P i0)) (sb (Q j0) (P (prev n i0))) = crs (sb (P (prev n i0)) (P i0)) (sb (Q j0) (P i0)) := by unfold crs sb; grind
    have := xA.2 (by rw [e]; exact h)
    unfold dt sb at this ⊢; grind
  have neB : ¬ ((sb (Q j0) (Q (prev m j0))).1 = 0 ∧ (sb (Q j0) (Q (prev m j0))).2 = 0) := fun ⟨g1, g2⟩ => by
    have : ori (Q (prev m j0)) (Q j0) (Q ((j0 + 1) % m)) = 0 := by unfold ori; unfold sb at g1 g2; simp only at g1 g2; rw [g1, g2]; grind
    rw [this] at tQ; exact Rat.lt_irrefl tQ
  have neA : ¬ ((sb (P (prev n i0)) (P i0)).1 = 0 ∧ (sb (P (prev n i0)) (P i0)).2 = 0) := fun ⟨g1, g2⟩ => by
    have : ori (P (prev n i0)) (P i0) (P ((i0 + 1) % n)) = 0 := by
      have h1 : (P i0).1 - (P (prev n i0)).1 = 0 := by unfold sb at g1; simp only at g1; grind
      have h2 : (P i0).2 - (P (prev n i0)).2 = 0 := by unfold sb at g2; simp only at g2; grind
      unfold ori; rw [h1, h2]; grind
    rw [this] at tP; exact Rat.lt_irrefl tP
  -- left of the edges
  have lQ : ∀ j, j < m → 0 ≤ crs (sb (Q j0) (Q (prev m j0))) (sb (Q j) (Q j0)) := fun j hj => by
    have := eQ j hj
    have e : ori (Q (prev m j0)) (Q j0) (Q j) = crs (sb (Q j0) (Q (prev m j0))) (sb (Q j) (Q j0)) := by unfold ori crs sb; grind
    rwa [e] at this
  have lP : ∀ i, i < n → 0 ≤ crs (sb (P (prev n i0)) (P i0)) (sb (P i0) (P i)) := fun i hi => by
    have := eP i hi
    have e : ori (P (prev n i0)) (P i0) (P i) = crs (sb (P (prev n i0)) (P i0)) (sb (P i0) (P i)) := by unfold ori crs sb; grind
    rwa [e] at this
  rcases Rat.le_total (a := 0) (b := crs (sb (P (prev n i0)) (P i0)) (sb (Q j0) (Q (prev m j0)))) with hc | hc
  · -- the edge of Q
    refine .inr ⟨prev m j0, prev_lt (by omega) j0, ?_⟩
    rw [prev_next hj0]
    obtain ⟨s1, s2⟩ := step (sb (Q j0) (P i0)) (sb (Q j0) (Q (prev m j0))) (sb (P (prev n i0)) (P i0)) hvN b1 b2 a1 a2 neA neB hc (by
      by_cases h1 : crs (sb (Q j0) (P i0)) (sb (P i0) (P (prev n i0))) = 0
      · refine ⟨sb (P i0) (P ((i0 + 1) % n)), xP _ (Nat.mod_lt _ (by omega)), lP _ (Nat.mod_lt _ (by omega)), fun h2 => ?_⟩
        -- both neighbours on the line of v: not a corner
        have key : dt N (sb (Q j0) (P i0)) * crs (sb (P i0) (P (prev n i0))) (sb (P i0) (P ((i0 + 1) % n))) = dt N (sb (P i0) (P (prev n i0))) * crs (sb (Q j0) (P i0)) (sb (P i0) (P ((i0 + 1) % n))) - dt N (sb (P i0) (P ((i0 + 1) % n))) * crs (sb (Q j0) (P i0)) (sb (P i0) (P (prev n i0))) := by
          generalize sb (Q j0) (P i0) = v; generalize sb (P i0) (P (prev n i0)) = a; generalize sb (P i0) (P ((i0 + 1) % n)) = b
          unfold dt crs; grind
        rw [h1, h2] at key
        have e : ori (P (prev n i0)) (P i0) (P ((i0 + 1) % n)) = - crs (sb (P i0) (P (prev n i0))) (sb (P i0) (P ((i0 + 1) % n))) := by unfold ori crs sb; grind
        rw [e] at tP
        have h3 : dt N (sb (Q j0) (P i0)) * crs (sb (P i0) (P (prev n i0))) (sb (P i0) (P ((i0 + 1) % n))) = 0 := by rw [key]; grind
        rcases Rat.mul_eq_zero.1 h3 with h | h
        · exact absurd h (Rat.ne_of_gt hvN)
        · rw [h] at tP; exact absurd tP (by decide +kernel)
      · exact ⟨sb (P i0) (P (prev n i0)), xP _ (prev_lt (by omega) i0), lP _ (prev_lt (by omega) i0), h1⟩)
    intro i hi
    have h1 := s2 _ (xP i hi) (lP i hi)
    have e : ori (Q (prev m j0)) (Q j0) (P i) = - crs (sb (Q j0) (Q (prev m j0))) (sb (Q j0) (P i0)) - crs (sb (Q j0) (Q (prev m j0))) (sb (P i0) (P i)) := by unfold ori crs sb; grind
    rw [e]; grind
  · -- the edge of P
    refine .inl ⟨prev n i0, prev_lt (by omega) i0, ?_⟩
    rw [prev_next hi0]
    obtain ⟨s1, s2⟩ := step (sb (Q j0) (P i0)) (sb (P (prev n i0)) (P i0)) (sb (Q j0) (Q (prev m j0))) hvN a1 a2 b1 b2 neB neA (by rw [crs_anti]; grind) (by
      by_cases h1 : crs (sb (Q j0) (P i0)) (sb (Q (prev m j0)) (Q j0)) = 0
      · refine ⟨sb (Q ((j0 + 1) % m)) (Q j0), xQ _ (Nat.mod_lt _ (by omega)), lQ _ (Nat.mod_lt _ (by omega)), fun h2 => ?_⟩
        have key : dt N (sb (Q j0) (P i0)) * crs (sb (Q (prev m j0)) (Q j0)) (sb (Q ((j0 + 1) % m)) (Q j0)) = dt N (sb (Q (prev m j0)) (Q j0)) * crs (sb (Q j0) (P i0)) (sb (Q ((j0 + 1) % m)) (Q j0)) - dt N (sb (Q ((j0 + 1) % m)) (Q j0)) * crs (sb (Q j0) (P i0)) (sb (Q (prev m j0)) (Q j0)) := by
          generalize sb (Q j0) (P i0) = v; generalize sb (Q (prev m j0)) (Q j0) = a; generalize sb (Q ((j0 + 1) % m)) (Q j0) = b
          unfold dt crs; grind
        rw [h1, h2] at key
        have e : ori (Q (prev m j0)) (Q j0) (Q ((j0 + 1) % m)) = - crs (sb (Q (prev m j0)) (Q j0)) (sb (Q ((j0 + 1) % m)) (Q j0)) := by unfold ori crs sb; grind
        rw [e] at tQ
        have h3 : dt N (sb (Q j0) (P i0)) * crs (sb (Q (prev m j0)) (Q j0)) (sb (Q ((j0 + 1) % m)) (Q j0)) = 0 := by rw [key]; grind
        rcases Rat.mul_eq_zero.1 h3 with h | h
        · exact absurd h (Rat.ne_of_gt hvN)
        · rw [h] at tQ; exact absurd tQ (by decide +kernel)
      · exact ⟨sb (Q (prev m j0)) (Q j0), xQ _ (prev_lt (by omega) j0), lQ _ (prev_lt (by omega) j0), h1⟩)
    intro j hj
    have h1 := s2 _ (xQ j hj) (lQ j hj)
    have e : ori (P (prev n i0)) (P i0) (Q j) = - crs (sb (P (prev n i0)) (P i0)) (sb (Q j0) (P i0)) - crs (sb (P (prev n i0)) (P i0)) (sb (Q j) (Q j0)) := by unfold ori crs sb; grind
    rw [e]; grind
end
end Go.Proofs.YtjhoddlhdoiifaaGreatDoor.poly

/- Plain geometry, no program: two convex polygons touch (a corner inside, or edges that cross) iff no edge of either has the other one beyond it. -/
namespace Go.Proofs.YtjhoddlhdoiifaaGreatDoor.poly
section
variable {P Q : Nat → Pt} {n m : Nat}
/-! ### edges that cross -/
end
end Go.Proofs.YtjhoddlhdoiifaaGreatDoor.poly

