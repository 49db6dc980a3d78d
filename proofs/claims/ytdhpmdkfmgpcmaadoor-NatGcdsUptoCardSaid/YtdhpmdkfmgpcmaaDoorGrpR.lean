/- Joined by wip/bundle.py: XLawQc XEngQ5 XEngQ6 XLawQd. -/
import Derived.Test.YtdhpmdkfmgpcmaaDoorGrpQ
/- Contract of gantlaw1.RatFloors: it returns true. -/
namespace Go.Proofs.YtdhpmdkfmgpcmaaDoor.eng
open Go.RowKit num mem seg q held ratA ratB ratC ratD ratE vars ratF natC natD natI
section
variable {K : AV → Prop} {a b : ByteArray} {x y r t : RV} {p q : Rat}
/-- a whole number as a fraction -/
def Fr1 (r : RV) (m : Int) : Prop := r.d = ⟨#[1]⟩ ∧ sg r.s (nv r.a) = m
theorem Fr1.abs {m : Int} (h : Fr1 r m) : nv r.a = m.natAbs := by rw [← h.2, sg_abs]
theorem Fr1.fr {m : Int} (h : Fr1 r m) : Fr r (m : Rat) := by
  refine ⟨by rw [h.1, nv_one]; decide, ?_⟩
  rw [h.1, nv_one, h.2, Rat.mkRat_one]
theorem Fr1.over {m : Int} (h : Fr1 r m) {d : ByteArray} {n : Nat} (hd : nv d = n) (hn : 0 < n) : Fr ⟨r.s, r.a, d⟩ (mkRat m n) := by
  subst hd
  exact ⟨hn, by show mkRat (sg r.s (nv r.a)) (nv d) = _; rw [h.2]⟩
theorem Fr1.neg {m : Int} (h : Fr1 r m) : Fr1 ⟨!r.s, r.a, r.d⟩ (-m) := by
  refine ⟨h.1, ?_⟩
  rw [← h.2]
  show sg (!r.s) (nv r.a) = _
  cases r.s <;> simp [sg]
theorem fr_floor (h : Fr r p) : sg r.s (nv r.a) / (nv r.d : Int) = p.floor := by
  obtain ⟨h1, h2⟩ := h
  rw [Rat.floor_def]
  by_cases h0 : nv r.a = 0
  · rw [h0] at h2 ⊢
    have : p = 0 := by rw [← h2]; cases r.s <;> simp [sg, Rat.zero_mkRat]
    rw [this]
    cases r.s <;> simp [sg]
  · have hs := mk_is (s := r.s) (n := nv r.a) (d := nv r.d) (by omega) h1
    rw [h2] at hs
    obtain ⟨e1, e2, e3⟩ := hs
    have e2 := enc_inj e2
    have e3 := enc_inj e3
    have hg : 0 < Nat.gcd (nv r.a) (nv r.d) := Nat.gcd_pos_of_pos_right _ h1
    have ha : nv r.a = Nat.gcd (nv r.a) (nv r.d) * (nv r.a / Nat.gcd (nv r.a) (nv r.d)) := (Nat.mul_div_cancel' (Nat.gcd_dvd_left _ _)).symm
    have hd : nv r.d = Nat.gcd (nv r.a) (nv r.d) * (nv r.d / Nat.gcd (nv r.a) (nv r.d)) := (Nat.mul_div_cancel' (Nat.gcd_dvd_right _ _)).symm
    have hn := sg_neg p
    rw [← e1, ← e2] at hn
    rw [← hn, ← e3]
    generalize Nat.gcd (nv r.a) (nv r.d) = G at *
    have hsg : sg r.s (nv r.a) = (G : Int) * sg r.s (nv r.a / G) := by
      conv => lhs; rw [ha]
      cases r.s <;> simp [sg, Int.mul_neg]
    rw [hsg]
    conv => lhs; rw [hd]
    rw [Int.natCast_mul, Int.mul_ediv_mul_of_pos _ _ (by omega)]
theorem nCmp_spec (a b : ByteArray) : Spec Tryd.prog Tab 95 [str a, str b] (int (cmpN (nv a) (nv b))) :=
  spec_calls (enters_of Tryd.func95 rfl rfl) rfl rfl fun w _ => (Cmp_any a b w).mono fun _ _ h => ⟨h.1, h.2 ▸ Below.refl _ _⟩
theorem k_nCmp (n m : Nat) (ha : nv a = n) (hb : nv b = m) (k : ∀ c, c = cmpN n m → K (int c)) : Ask 95 [str a, str b] K := by
  subst ha hb; exact use (nCmp_spec a b) rfl (k _ rfl)
theorem cmpN_le {a b : Nat} : cmpN a b ≤ 0 ↔ a ≤ b := by
  unfold cmpN
  split
  · omega
  · split <;> omega
theorem cmpN_gt {a b : Nat} : 0 < cmpN a b ↔ b < a := by
  unfold cmpN
  split
  · omega
  · split <;> omega
def smallP (x : RV) : Prop := x.good ∧ nv x.a ≤ 1000000 ∧ nv x.d ≤ 1000
instance (x : RV) : Decidable (smallP x) := by unfold smallP; infer_instance
theorem intV_big {n : Nat} (h : 9223372036854775807 < n) : intV n = 0 := by unfold intV; rw [if_neg (by omega)]
theorem intE_big {n : Nat} (h : 9223372036854775807 < n) : intE n = 2 := by unfold intE; rw [if_neg (by omega)]
theorem intV_small {n : Nat} (h : n ≤ 9223372036854775807) : intV n = n := by unfold intV; rw [if_pos h]
theorem intE_small {n : Nat} (h : n ≤ 9223372036854775807) : intE n = 0 := by unfold intE; rw [if_pos h]
theorem nv_max : nv ⟨#[127, 255, 255, 255, 255, 255, 255, 255]⟩ = 9223372036854775807 := by decide
theorem dn_max (den : Int) : (if den > 1 then den else 1) = dnN den := by unfold dnN; split <;> split <;> omega
end
end Go.Proofs.YtdhpmdkfmgpcmaaDoor.eng

/- Contracts: gantref1.Squared, nat.Root. -/
namespace Go.Proofs.YtdhpmdkfmgpcmaaDoor.eng
open Go.RowKit num mem seg q held ratA ratB ratC ratD ratE vars ratF natC natD natI
/-- r is the square root of a, rounded down -/
def IsRoot (a r : Nat) : Prop := r * r ≤ a ∧ a < (r + 1) * (r + 1)
theorem root_unique {a r t : Nat} (h : IsRoot a r) (g : IsRoot a t) : r = t := by
  obtain ⟨h1, h2⟩ := h
  obtain ⟨g1, g2⟩ := g
  rcases Nat.lt_trichotomy r t with h | h | h
  · have := Nat.mul_le_mul (show r + 1 ≤ t by omega) (show r + 1 ≤ t by omega); omega
  · exact h
  · have := Nat.mul_le_mul (show t + 1 ≤ r by omega) (show t + 1 ≤ r by omega); omega
theorem root_exists (a : Nat) : ∃ r, IsRoot a r := by
  induction a with
  | zero => exact ⟨0, by decide, by decide⟩
  | succ a ih =>
    obtain ⟨r, h1, h2⟩ := ih
    by_cases h : a + 1 < (r + 1) * (r + 1)
    · exact ⟨r, by omega, h⟩
    · refine ⟨r + 1, by omega, ?_⟩
      have : (r + 1) * (r + 1) = a + 1 := by omega
      have h3 : (r + 1 + 1) * (r + 1 + 1) = (r + 1) * (r + 1) + 2 * (r + 1) + 1 := by
        rw [Nat.add_mul (r + 1) 1, Nat.mul_add (r + 1)]; omega
      omega
noncomputable def rootN (a : Nat) : Nat := Classical.choose (root_exists a)
theorem rootN_is (a : Nat) : IsRoot a (rootN a) := Classical.choose_spec (root_exists a)
theorem root_eq {a r : Nat} (h : IsRoot a r) : r = rootN a := root_unique h (rootN_is a)
theorem sq_ge (r : Nat) : r ≤ r * r := by
  rcases Nat.eq_zero_or_pos r with h | h
  · subst h; omega
  · exact Nat.le_mul_of_pos_left r h
/-- one step of the digits -/
theorem root_step {r s v b : Nat} (h : r * r + s = v) (hs : s ≤ 2 * r) (hb : b ≤ 3) :
    (4 * r + 1 ≤ 4 * s + b → (2 * r + 1) * (2 * r + 1) + (4 * s + b - (4 * r + 1)) = 4 * v + b ∧ 4 * s + b - (4 * r + 1) ≤ 2 * (2 * r + 1)) ∧
    (¬ 4 * r + 1 ≤ 4 * s + b → (2 * r) * (2 * r) + (4 * s + b) = 4 * v + b ∧ 4 * s + b ≤ 2 * (2 * r)) := by
  have e1 : (2 * r + 1) * (2 * r + 1) = 4 * (r * r) + 4 * r + 1 := by
    rw [Nat.add_mul, Nat.mul_add, Nat.mul_mul_mul_comm]; omega
  have e2 : (2 * r) * (2 * r) = 4 * (r * r) := Nat.mul_mul_mul_comm 2 r 2 r
  constructor
  · intro hle; rw [e1]; omega
  · intro hle; rw [e2]; omega
theorem pair_bits (n i : Nat) : n / 4 ^ i % 4 = 2 * (n / 2 ^ (2 * i + 1) % 2) + n / 2 ^ (2 * i) % 2 := by
  have e : (4 : Nat) ^ i = 2 ^ (2 * i) := by rw [Nat.pow_mul]
  rw [e, Nat.pow_succ, ← Nat.div_div_eq_div_mul]
  generalize n / 2 ^ (2 * i) = x
  omega
theorem top_step (n i : Nat) : n / 4 ^ i = 4 * (n / 4 ^ (i + 1)) + n / 4 ^ i % 4 := by
  rw [Nat.pow_succ, ← Nat.div_div_eq_div_mul]
  omega
/-- Newton's step from above -/
theorem newton {a x r : Nat} (hx : 0 < x) (hr : r * r ≤ a) : r ≤ (x + a / x) / 2 := by
  rw [Nat.le_div_iff_mul_le (by decide)]
  by_cases h : r * 2 ≤ x
  · generalize a / x = q; omega
  · have h1 : (r * 2 - x) ≤ a / x := by
      rw [Nat.le_div_iff_mul_le hx]
      refine Nat.le_trans ?_ hr
      rcases Nat.le_total x r with hxr | hxr
      · obtain ⟨d, rfl⟩ := Nat.le.dest hxr
        have e : (x + d) * 2 - x = x + 2 * d := by omega
        rw [e]
        have e1 : (x + 2 * d) * x = x * x + 2 * (d * x) := by rw [Nat.add_mul, Nat.mul_assoc]
        have e2 : (x + d) * (x + d) = x * x + d * x + (x * d + d * d) := by rw [Nat.mul_add, Nat.add_mul, Nat.add_mul]
        have e3 := Nat.mul_comm d x
        rw [e1, e2]
        omega
      · obtain ⟨d, rfl⟩ := Nat.le.dest hxr
        have e : r * 2 - (r + d) = r - d := by omega
        rw [e]
        have hd : d ≤ r := by omega
        obtain ⟨c, rfl⟩ := Nat.le.dest hd
        rw [show d + c - d = c by omega]
        have e1 : c * (d + c + d) = c * d + c * c + c * d := by rw [Nat.mul_add, Nat.mul_add]
        have e2 : (d + c) * (d + c) = d * d + c * d + (d * c + c * c) := by rw [Nat.add_mul, Nat.mul_add, Nat.mul_add]; omega
        have e3 := Nat.mul_comm c d
        rw [e1, e2]
        omega
    generalize a / x = q at *
    omega
theorem newton_stop {a x : Nat} (hx : 0 < x) (h : x ≤ (x + a / x) / 2) : x * x ≤ a := by
  have h1 : x ≤ a / x := by omega
  exact (Nat.le_div_iff_mul_le hx).1 h1
end Go.Proofs.YtdhpmdkfmgpcmaaDoor.eng

/- Walks: gantref1.Squared, nat.Root. -/
namespace Go.Proofs.YtdhpmdkfmgpcmaaDoor.eng
open Go.RowKit num mem seg q held ratA ratB ratC ratD ratE vars ratF natA natC natD natI
section
variable {K : AV → Prop} {a b : ByteArray} {n m : Nat}
theorem bz_dbl (x : Nat) : bz (x + x) ≤ bz x + 1 := by have := bz_add x x; omega
theorem nv_str1 (b : Nat) (h : b < 256) : nv (strOfNums [(b : Int)]) = b := by
  simp [nv, nvl, strOfNums_data]; omega
theorem uq_u8 : Tryd.prog.underlying 5 = some (.int .u8) := by kernel_rfl
theorem uq_bytes : Tryd.prog.underlying 124 = some (.slice 5) := by kernel_rfl
theorem uq_str : Tryd.prog.underlying 9 = some .string := by kernel_rfl
theorem sq_int : (Tryd.prog.underlying 3).isSome = true := by kernel_rfl
theorem kq_conv {src dst : TypeId} {x : Int} {k' : IntKind} (hs : (Tryd.prog.underlying src).isSome = true) (hd : Tryd.prog.underlying dst = some (.int k')) (y : Int) (hy : y = k'.wrap x) (k : K (one (.int k' y))) :
    ∃ r, (∃ k', (Tryd.prog.underlying src).isSome = true ∧ Tryd.prog.underlying dst = some (.int k') ∧ r = one (.int k' (k'.wrap x))) ∧ K r := ⟨_, ⟨k', hs, hd, rfl⟩, by subst hy; exact k⟩
theorem eqGuard_quoq (T : TypeId) (ox oy : Operand) (x y : Value) : eqGuard .quo T ox oy x y = pure () := rfl
theorem binOp_quoq (T : TypeId) (x y : Int) : binOp .quo T (.int .i64 x) (.int .i64 y) = Op.intDiv .quo .i64 x y := rfl
theorem run_quoq (T : TypeId) (ox oy : Operand) (n d : Nat) (hd : 0 < d) (hn : n < 9223372036854775808) (w : World) : (do eqGuard .quo T ox oy (.int .i64 (n : Int)) (.int .i64 (d : Int)); binOp .quo T (.int .i64 (n : Int)) (.int .i64 (d : Int)) : Sem Value).run Tryd.prog w = .ok (.int .i64 ((n / d : Nat) : Int)) w := by
  have h0 : ¬ (d : Int) = 0 := by omega
  have h1 : n / d ≤ n := Nat.div_le_self n d
  have e1 : (n : Int).tdiv (d : Int) = ((n / d : Nat) : Int) := rfl
  have hb : Op.intDiv .quo .i64 (n : Int) (d : Int) = pure (.int .i64 ((n / d : Nat) : Int)) := by
    unfold Op.intDiv
    rw [if_neg h0]
    show pure (Value.int .i64 (IntKind.i64.wrap ((n : Int).tdiv (d : Int)))) = _
    rw [e1]
    generalize n / d = z at h1
    rw [wrap64 _ (by omega) (by omega)]
  rw [eqGuard_quoq, binOp_quoq, hb]
  rfl
theorem kq_quo {T : TypeId} {ox oy : Operand} {x y : Int} (n d : Nat) (hx : x = n) (hy : y = d) (hd : 0 < d) (hn : n < 9223372036854775808) (k : K (int ((n / d : Nat) : Int))) : AskB .quo T ox oy (.int .i64 x) (.int .i64 y) K := by
  subst hx hy
  exact ⟨_, ⟨_, rfl, rfl, run_quoq T ox oy n d hd hn⟩, k⟩
set_option maxHeartbeats 1000000 in
set_option maxRecDepth 100000 in
theorem Squared_spec (a : ByteArray) (ha : a.size ≤ 1099511627776) : Spec Tryd.prog Tab 45 [str a] (nst (rootN (nv a))) := by
  have zA := Nat.le_trans (bz_nv a) ha
  have hlt : nv a < 4 ^ (4 * a.size) := by
    have := nv_lt a
    rwa [show (4 : Nat) ^ (4 * a.size) = 256 ^ a.size by rw [Nat.pow_mul]]
  obtain ⟨N, hN⟩ : ∃ N, N = 4 * a.size := ⟨_, rfl⟩
  rw [← hN] at hlt
  generalize hA : nv a = A at *
  have hw0 : IntKind.i64.wrap (IntKind.i64.wrap (4 * ((a.size : Nat) : Int)) - 1) = (N : Int) - 1 := by rw [wrap64 (4 * ((a.size : Nat) : Int)) (by omega) (by omega), wrap64 _ (by omega) (by omega)]; omega
  refine fn_spec Tryd.func45 rfl rfl Tryd.ntmps45 rfl (by kernel_rfl) rfl rfl ?_
  refine ⟨Nat × Nat × Nat, fun s => [(0, str a), (3, nst s.2.1), (4, nst s.2.2), (5, int ((N : Int) - 1 - (s.1 : Int)))], fun _ => [],
    fun s => s.1 ≤ N ∧ s.2.1 * s.2.1 + s.2.2 = A / 4 ^ (N - s.1) ∧ s.2.2 ≤ 2 * s.2.1, fun s => N - s.1, (0, 0, 0), ?_, ⟨Nat.zero_le _, ?_, Nat.zero_le _⟩, fun s hs => ?_⟩
  · constructor <;> (repeat' (first | exact rfl | exact True.intro | apply And.intro))
    all_goals first
      | exact congrArg (fun b : ByteArray => D.v (.string b)) enc_zero
      | exact congrArg (fun n : Int => D.v (.int .i64 n)) (show (N : Int) - 1 - ((0 : Nat) : Int) = _ by rw [hw0]; omega)
  · simp only [Nat.sub_zero]
    rw [Nat.div_eq_of_lt hlt]
  obtain ⟨j, r, s⟩ := s
  obtain ⟨h1, h2, h3⟩ := hs
  simp only at h1 h2 h3
  refine ⟨fun e => ?_, fun e => ?_⟩
  · have hj : j < N := by have := of_decide_eq_true e; simp only at this; omega
    obtain ⟨i, hi⟩ : ∃ i, i = N - 1 - j := ⟨_, rfl⟩
    have hi1 : N - j = i + 1 := by omega
    have hi2 : N - (j + 1) = i := by omega
    have hii : (N : Int) - 1 - (j : Int) = (i : Int) := by omega
    rw [hi1] at h2
    have hvle : A / 4 ^ i ≤ A := Nat.div_le_self _ _
    have hvle1 : A / 4 ^ (i + 1) ≤ A := Nat.div_le_self _ _
    have hstep := top_step A i
    have hpair := pair_bits A i
    have hb3 : A / 4 ^ i % 4 ≤ 3 := by have := Nat.mod_lt (A / 4 ^ i) (show 0 < 4 by decide); omega
    obtain ⟨b1, hb1⟩ : ∃ b, b = A / 2 ^ (2 * i + 1) % 2 := ⟨_, rfl⟩
    obtain ⟨b0, hb0⟩ : ∃ b, b = A / 2 ^ (2 * i) % 2 := ⟨_, rfl⟩
    rw [← hb1, ← hb0] at hpair
    obtain ⟨b, hb⟩ : ∃ b, b = A / 4 ^ i % 4 := ⟨_, rfl⟩
    rw [← hb] at hstep hpair hb3
    have hsq := sq_ge r
    have hrA : r ≤ A := by omega
    have hsA : s ≤ A := by omega
    have zr := Nat.le_trans (bz_mono hrA) zA
    have zs := Nat.le_trans (bz_mono hsA) zA
    have z1 := bz_dbl r
    have z2 := bz_dbl s
    have z3 := bz_dbl (r + r)
    have z4 := bz_dbl (s + s)
    have z5 := bz_add (s + s + (s + s)) b
    have z6 := bz_add (r + r + (r + r)) 1
    have z7 : bz b ≤ 1 := bz_le.2 (by omega)
    have z8 := bz_one
    obtain ⟨st1, st2⟩ := root_step h2 h3 hb3
    have cast : ∀ (x k : Nat), bz x ≤ k → (enc x).size ≤ k := fun _ _ h => h
    refine k_rPlus r r (nv_enc r) (nv_enc r) (cast r _ (by omega)) (cast r _ (by omega)) ?_
    refine k_rPlus s s (nv_enc s) (nv_enc s) (cast s _ (by omega)) (cast s _ (by omega)) ?_
    refine k_rPlus (s + s) (s + s) (nv_enc _) (nv_enc _) (cast _ _ (by omega)) (cast _ _ (by omega)) ?_
    have hw1 : IntKind.i64.wrap (2 * ((N : Int) - 1 - (j : Int))) = ((2 * i : Nat) : Int) := by rw [hii, wrap64 _ (by omega) (by omega)]; omega
    have hw2 : IntKind.i64.wrap (IntKind.i64.wrap (2 * ((N : Int) - 1 - (j : Int))) + 1) = ((2 * i + 1 : Nat) : Int) := by rw [hw1, wrap64 _ (by omega) (by omega)]; omega
    refine k_rbit A (2 * i + 1) hA hw2 (by omega) (by omega) ?_
    refine k_rbit A (2 * i) hA hw1 (by omega) (by omega) ?_
    rw [← hb1, ← hb0]
    have hw3 : IntKind.i64.wrap (IntKind.i64.wrap (2 * (b1 : Int)) + (b0 : Int)) = (b : Int) := by
      rw [wrap64 (2 * (b1 : Int)) (by omega) (by omega), wrap64 _ (by omega) (by omega)]; omega
    refine kq_conv sq_int uq_u8 (b : Int) (by rw [hw3]; unfold IntKind.wrap; simp [IntKind.signed, IntKind.bits]; omega) ?_
    refine ⟨_, ⟨5, [(b : Int)], rfl, uq_bytes, uq_u8, uq_str, rfl⟩, ?_⟩
    refine k_rPlus (s + s + (s + s)) b (nv_enc _) (nv_str1 b (by omega)) (cast _ _ (by omega)) (by rw [strOfNums_size]; show 1 ≤ _; decide) ?_
    refine k_rPlus (r + r) (r + r) (nv_enc _) (nv_enc _) (cast _ _ (by omega)) (cast _ _ (by omega)) ?_
    refine k_rPlus (r + r + (r + r)) 1 (nv_enc _) nv_one (cast _ _ (by omega)) (by decide) ?_
    refine k_rCompare (s + s + (s + s) + b) (r + r + (r + r) + 1) (nv_enc _) (nv_enc _) (cast _ _ (by omega)) (cast _ _ (by omega)) fun c hc => ?_
    have hwj : IntKind.i64.wrap ((N : Int) - 1 - (j : Int) - 1) = (N : Int) - 1 - ((j + 1 : Nat) : Int) := by rw [wrap64 _ (by omega) (by omega)]; omega
    refine ⟨fun e2 => ?_, fun e2 => ?_⟩
    · have hle : r + r + (r + r) + 1 ≤ s + s + (s + s) + b := cmpN_ge.1 (by rw [← hc]; exact of_decide_eq_true e2)
      refine k_rPlus (r + r) 1 (nv_enc _) nv_one (cast _ _ (by omega)) (by decide) ?_
      refine k_rLess (s + s + (s + s) + b) (r + r + (r + r) + 1) (nv_enc _) (nv_enc _) hle (cast _ _ (by omega)) (cast _ _ (by omega)) ?_
      have g1 := (st1 (by omega)).1
      have g2 := (st1 (by omega)).2
      refine ⟨(j + 1, r + r + 1, s + s + (s + s) + b - (r + r + (r + r) + 1)), ⟨hj, ?_, by simp only; omega⟩, by simp only; omega, ?_⟩
      · simp only
        rw [hi2, hstep, ← g1]
        rw [show r + r + 1 = 2 * r + 1 by omega, show s + s + (s + s) + b - (r + r + (r + r) + 1) = 4 * s + b - (4 * r + 1) by omega]
      constructor <;> (repeat' (first | exact rfl | exact True.intro | apply And.intro))
      all_goals exact congrArg (fun n : Int => D.v (.int .i64 n)) hwj.symm
    · have hle : ¬ (r + r + (r + r) + 1 ≤ s + s + (s + s) + b) := fun h => of_decide_eq_false e2 (by rw [hc]; exact cmpN_ge.2 h)
      have g1 := (st2 (by omega)).1
      have g2 := (st2 (by omega)).2
      refine ⟨(j + 1, r + r, s + s + (s + s) + b), ⟨hj, ?_, by simp only; omega⟩, by simp only; omega, ?_⟩
      · simp only
        rw [hi2, hstep, ← g1]
        rw [show r + r = 2 * r by omega, show s + s + (s + s) + b = 4 * s + b by omega]
      constructor <;> (repeat' (first | exact rfl | exact True.intro | apply And.intro))
      all_goals exact congrArg (fun n : Int => D.v (.int .i64 n)) hwj.symm
  · have hj : j = N := by have := of_decide_eq_false e; simp only at this; omega
    subst hj
    rw [Nat.sub_self, Nat.pow_zero, Nat.div_one] at h2
    refine Eq.trans (b := nst r) ?_ rfl
    have : IsRoot A r := ⟨by omega, by rw [Nat.add_mul, Nat.mul_add]; omega⟩
    rw [root_eq this]
theorem k_Squared (n : Nat) (ha : nv a = n) (za : a.size ≤ 1099511627776) (k : K (nst (rootN n))) : Ask 45 [str a] K := by
  subst ha; exact use (Squared_spec a za) rfl k
/-! ### the root by Newton -/
theorem nTrim_spec (a : ByteArray) : Spec Tryd.prog Tab 107 [str a] (nst (nv a)) :=
  spec_calls (enters_of Tryd.func107 rfl rfl) rfl rfl fun w _ => (trim_any a w).mono fun _ _ h => ⟨h.1, h.2 ▸ Below.refl _ _⟩
theorem rep_spec (c : Nat) (h1 : 1 ≤ c) (hc : c ≤ 140737488355328) : Spec Tryd.prog Tab 119 [str ⟨#[0]⟩, int (c : Int)] (str ⟨(Lib.repeatL [0] c).toArray⟩) := by
  refine spec_calls (enters_of Tryd.func119 rfl rfl) rfl rfl fun w _ => ?_
  by_cases h : c = 1
  · subst h
    exact (Tryd.strings_Repeat_one ⟨#[0]⟩ w).mono fun _ _ h => ⟨h.1, h.2 ▸ Below.refl _ _⟩
  · exact (Tryd.strings_Repeat_main ⟨#[0]⟩ c w (by omega) (by omega) (by show 1 * c ≤ _; omega) (by decide)).mono fun _ _ h => h
theorem add_str (ox oy : Operand) (s t : ByteArray) (h : s.size + t.size ≤ 9223372036854775807) (w : World) : (do eqGuard .add 9 ox oy (.string s) (.string t); binOp .add 9 (.string s) (.string t) : Sem Value).run Tryd.prog w = .ok (.string (s ++ t)) w := by
  simp [go_sem]; omega
theorem k_add_str {ox oy : Operand} {s t : ByteArray} (h : s.size + t.size ≤ 9223372036854775807) (k : K (str (s ++ t))) : AskB .add 9 ox oy (.string s) (.string t) K := ⟨_, ⟨.string (s ++ t), rfl, rfl, add_str ox oy s t h⟩, k⟩
theorem rep_zero (c : Nat) : nvl (Lib.repeatL [0] c) = 0 ∧ (Lib.repeatL [0] c).length = c := by
  induction c with
  | zero => exact ⟨rfl, rfl⟩
  | succ c ih =>
    obtain ⟨h1, h2⟩ := ih
    have e : Lib.repeatL [0] (c + 1) = 0 :: Lib.repeatL [0] c := rfl
    rw [e, nvl_cons, h1, List.length_cons, h2]
    exact ⟨by simp, rfl⟩
theorem start_is (c : Nat) : (⟨#[1]⟩ : ByteArray) ++ ⟨(Lib.repeatL [0] c).toArray⟩ = enc (256 ^ c) := by
  have hd : ((⟨#[1]⟩ : ByteArray) ++ ⟨(Lib.repeatL [0] c).toArray⟩).data.toList = 1 :: Lib.repeatL [0] c := by
    simp [ByteArray.data_append]
  have hn : nv ((⟨#[1]⟩ : ByteArray) ++ ⟨(Lib.repeatL [0] c).toArray⟩) = 256 ^ c := by
    unfold nv
    rw [hd, nvl_cons, (rep_zero c).1, (rep_zero c).2]; simp
  rw [← hn]
  refine (enc_nv_of_nz fun x r h => ?_).symm
  rw [hd] at h
  injection h with h1 h2
  subst h1
  decide
set_option maxHeartbeats 1000000 in
set_option maxRecDepth 100000 in
theorem Root_spec (a : ByteArray) (ha : a.size ≤ 1099511627776) : Spec Tryd.prog Tab 44 [str a] (nst (rootN (nv a))) := by
  have zA := Nat.le_trans (bz_nv a) ha
  generalize hA : nv a = A at *
  refine fn_spec Tryd.func44 rfl rfl Tryd.ntmps44 rfl (by kernel_rfl) rfl rfl ?_
  refine use (nTrim_spec a) rfl ?_
  rw [hA]
  refine k_eq_nil A rfl (fun e1 => ?_) (fun e1 => ?_)
  · refine ⟨fun _ => ?_, fun e => by simp at e⟩
    refine Eq.trans (b := str ⟨#[]⟩) ?_ rfl
    have : rootN A = 0 := (root_eq (a := A) (r := 0) ⟨by omega, by omega⟩).symm
    rw [this]
    show str (enc 0) = _
    rw [enc_zero]
  refine ⟨fun e => by simp at e, fun _ => ?_⟩
  obtain ⟨L, hL⟩ : ∃ L, L = bz A := ⟨_, rfl⟩
  have hAL : A < 256 ^ L := bz_le.1 (by omega)
  have hL1 : 1 ≤ L := by
    rcases Nat.eq_zero_or_pos L with h | h
    · rw [h] at hAL; simp at hAL; omega
    · exact h
  obtain ⟨c, hc⟩ : ∃ c, c = (L + 1) / 2 := ⟨_, rfl⟩
  have hw : IntKind.i64.wrap ((((enc A).size : Nat) : Int) + 1) = ((L + 1 : Nat) : Int) := by
    show IntKind.i64.wrap (((bz A : Nat) : Int) + 1) = _
    rw [← hL, wrap64 _ (by omega) (by omega)]; omega
  refine kq_quo (L + 1) 2 hw rfl (by decide) (by omega) ?_
  rw [← hc]
  refine use (rep_spec c (by omega) (by omega)) rfl ?_
  refine k_add_str (by show 1 + _ ≤ _; have := (rep_zero c).2; simp only [ByteArray.size, List.size_toArray]; omega) ?_
  rw [start_is]
  have hbig : ∀ r, r * r ≤ A → r ≤ 256 ^ c := by
    intro r hr
    refine Nat.le_of_not_lt fun h => ?_
    have h1 : 256 ^ c * 256 ^ c ≤ r * r := Nat.mul_le_mul (by omega) (by omega)
    have h2 : (256 : Nat) ^ L ≤ 256 ^ c * 256 ^ c := by rw [← Nat.pow_add]; exact Nat.pow_le_pow_right (by decide) (by omega)
    omega
  refine ⟨Nat, fun x => [(0, nst A), (3, nst x)], fun _ => [], fun x => 0 < x ∧ (∀ r, r * r ≤ A → r ≤ x) ∧ bz x ≤ L + 2, fun x => x, 256 ^ c, ?_, ⟨Nat.pow_pos (by decide), hbig, ?_⟩, fun x hs => ?_⟩
  · constructor <;> (repeat' (first | exact rfl | exact True.intro | apply And.intro))
  · exact bz_le.2 (Nat.pow_lt_pow_right (by decide) (by omega))
  obtain ⟨h1, h2, h3⟩ := hs
  have zq := bz_div A x
  have zx := bz_add x (A / x)
  have cast : ∀ (x k : Nat), bz x ≤ k → (enc x).size ≤ k := fun _ _ h => h
  refine k_nDiv (a := enc A) (b := enc x) (cast _ _ (by omega)) (cast _ _ (by omega)) (by rw [nv_enc]; exact h1) ?_
  rw [nv_enc, nv_enc]
  refine k_nAdd (a := enc x) (b := enc (A / x)) (cast _ _ (by omega)) (cast _ _ (by omega)) ?_
  rw [nv_enc, nv_enc]
  refine k_nDiv (a := enc (x + A / x)) (b := ⟨#[2]⟩) (cast _ _ (by omega)) (by decide) (by decide) ?_
  rw [nv_enc, show nv ⟨#[2]⟩ = 2 by decide]
  refine k_nCmp ((x + A / x) / 2) x (nv_enc _) (nv_enc _) fun n hn => ?_
  refine ⟨fun e => ?_, fun e => ?_⟩
  · have hle : x ≤ (x + A / x) / 2 := cmpN_ge.1 (by rw [← hn]; exact of_decide_eq_true e)
    have hr : IsRoot A x := ⟨newton_stop h1 hle, by
      refine Nat.lt_of_not_le fun h => ?_
      have := h2 (x + 1) h; omega⟩
    refine Eq.trans (b := nst x) ?_ rfl
    rw [root_eq hr]
  · have hlt : (x + A / x) / 2 < x := Nat.lt_of_not_le fun h => of_decide_eq_false e (by rw [hn]; exact cmpN_ge.2 h)
    refine ⟨(x + A / x) / 2, ⟨newton h1 (r := 1) (by omega), fun r hr => newton h1 hr, ?_⟩, hlt, ?_⟩
    · exact Nat.le_trans (bz_mono (Nat.le_of_lt hlt)) h3
    constructor <;> (repeat' (first | exact rfl | exact True.intro | apply And.intro))
end
end Go.Proofs.YtdhpmdkfmgpcmaaDoor.eng

/- Contract of gantlaw1.NatGcds: it returns true. -/
namespace Go.Proofs.YtdhpmdkfmgpcmaaDoor.eng
open Go.RowKit num mem seg q held ratA ratB ratC ratD ratE vars ratF natA natC natD natI natO
section
variable {K : AV → Prop} {a b : ByteArray}
theorem nGcd_spec (a b : ByteArray) (ha : a.size ≤ 17592186044416) (hb : b.size ≤ 17592186044416) : Spec Tryd.prog Tab 42 [str a, str b] (nst (Nat.gcd (nv a) (nv b))) :=
  spec_calls (enters_of Tryd.func42 rfl rfl) rfl rfl fun w hT => (Gcd_any a b w ha hb hT).mono fun _ _ h => h
theorem k_nGcd (n m : Nat) (ha : nv a = n) (hb : nv b = m) (za : a.size ≤ 17592186044416) (zb : b.size ≤ 17592186044416) (k : K (nst (Nat.gcd n m))) : Ask 42 [str a, str b] K := by
  subst ha hb; exact use (nGcd_spec a b za zb) rfl k
set_option maxRecDepth 100000 in
theorem natGcds_spec (a b : ByteArray) (ha : a.size ≤ 1048576) (hb : b.size ≤ 1048576) : Spec Tryd.prog Tab 7 [str a, str b] (bool true) := by
  refine fn_spec Tryd.func7 rfl rfl Tryd.ntmps7 rfl (by kernel_rfl) rfl rfl ?_
  refine k_nGcd 4 6 (by decide) (by decide) (by decide) (by decide) ?_
  refine k_eql_str_c (fun _ => ?_) (fun h => absurd (show enc (Nat.gcd 4 6) = ⟨#[2]⟩ by rw [show Nat.gcd 4 6 = 2 from rfl]; exact enc_two) h)
  refine k_nGcd (nv a) (nv b) rfl rfl (by omega) (by omega) ?_
  refine k_rCommon (nv a) (nv b) rfl rfl (by omega) (by omega) ?_
  refine k_eql_str_c (fun _ => ?_) (fun h => absurd rfl h)
  refine use (Root_spec a (by omega)) rfl ?_
  refine k_Squared (nv a) rfl (by omega) ?_
  refine k_eql_str_c (fun _ => ?_) (fun h => absurd rfl h)
  exact rfl
theorem natGcds_walk (a b : ByteArray) (N : Nat) (w : World) (_ : 1 ≤ N) (hN : N ≤ 1048576) (ha : a.size ≤ N) (hb : b.size ≤ N) (hT : Tab w) :
    Calls Tryd.prog 7 #[.string a, .string b] w fun e w' => e = .returned (.bool true) ∧ Below w.heap.size w w' :=
  calls_of_spec (natGcds_spec a b (Nat.le_trans ha hN) (Nat.le_trans hb hN)) rfl hT (pvl_rel (vs := [str a, str b]) rfl)
end
end Go.Proofs.YtdhpmdkfmgpcmaaDoor.eng

