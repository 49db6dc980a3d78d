/- Contract of gantlaw1.SpanAdds: it returns true. Printed by wip/gen_laws.py. -/
import Derived.Test.YtnnffjolkgomhaaDoorEngSpan2
namespace Go.Proofs.YtnnffjolkgomhaaDoor.eng
open Go.RowKit num mem seg q held ratA ratB ratC ratD ratE vars ratF trq
section
variable {x y z t : RV} {K : AV → Prop}
theorem k_RIn_c (hx : x.z ≤ 1099511627776) (hy : y.z ≤ 1099511627776) (hz : z.z ≤ 1099511627776) (k1 : hasQ x.q y.q z.q = true → K (bool true)) (k0 : hasQ x.q y.q z.q = false → K (bool false)) : Ask 56 [pair x y, rat z] K :=
  k_RIn hx hy hz fun b e => by
    cases H : hasQ x.q y.q z.q
    · rw [H] at e; subst e; exact k0 H
    · rw [H] at e; subst e; exact k1 H
theorem meet_t {a b c d : Rat} (h2 : c ≤ d) (h : hasQ a b c = true) : meetQ a b c d = true := by
  simp only [hasQ, meetQ, Bool.and_eq_true, decide_eq_true_eq] at *
  exact ⟨Rat.le_trans h.1 h2, h.2⟩
theorem meet_f {a b c d : Rat} (h1 : a ≤ b) (h : hasQ a b c = false) : meetQ a b c d = hasQ c d a := by
  have h3 : ¬ (a ≤ c ∧ c ≤ b) := fun hh => by simp [hasQ, hh.1, hh.2] at h
  simp only [hasQ, meetQ]
  by_cases h4 : c ≤ b
  · have h5 : ¬ a ≤ c := fun hh => h3 ⟨hh, h4⟩
    have h6 : c ≤ a := Rat.le_of_lt (Rat.not_le.1 h5)
    simp [h4, h6]
  · have h6 : ¬ c ≤ a := fun hh => h4 (Rat.le_trans hh h1)
    simp [h4, h6]
theorem low_add {a b c d : Rat} (h1 : a ≤ b) (h2 : c ≤ d) : lowL (a + c) [a + d, b + c, b + d] = a + c :=
  low_is (.inl rfl) Rat.le_refl (by simp only [List.mem_cons, List.mem_nil_iff, or_false]; rintro q (rfl | rfl | rfl) <;> grind)
theorem high_add {a b c d : Rat} (h1 : a ≤ b) (h2 : c ≤ d) : highL (a + c) [a + d, b + c, b + d] = b + d :=
  high_is (.inr (by simp)) (by grind) (by simp only [List.mem_cons, List.mem_nil_iff, or_false]; rintro q (rfl | rfl | rfl) <;> grind)
theorem low_sub {a b c d : Rat} (h1 : a ≤ b) (h2 : c ≤ d) : lowL (a - c) [a - d, b - c, b - d] = a - d :=
  low_is (.inr (by simp)) (by grind) (by simp only [List.mem_cons, List.mem_nil_iff, or_false]; rintro q (rfl | rfl | rfl) <;> grind)
theorem high_sub {a b c d : Rat} (h1 : a ≤ b) (h2 : c ≤ d) : highL (a - c) [a - d, b - c, b - d] = b - c :=
  high_is (.inr (by simp)) (by grind) (by simp only [List.mem_cons, List.mem_nil_iff, or_false]; rintro q (rfl | rfl | rfl) <;> grind)
theorem low_join {a b c d : Rat} (h1 : a ≤ b) (h2 : c ≤ d) : lowL a [b, c, d] = minQ a c := by
  unfold minQ
  split
  · exact low_is (.inl rfl) Rat.le_refl (by simp only [List.mem_cons, List.mem_nil_iff, or_false]; rintro q (rfl | rfl | rfl) <;> grind)
  · rename_i h; have h := Rat.not_le.1 h
    exact low_is (.inr (by simp)) (by grind) (by simp only [List.mem_cons, List.mem_nil_iff, or_false]; rintro q (rfl | rfl | rfl) <;> grind)
theorem high_join {a b c d : Rat} (h1 : a ≤ b) (h2 : c ≤ d) : highL a [b, c, d] = maxQ b d := by
  unfold maxQ
  split
  · exact high_is (.inr (by simp)) (by grind) (by simp only [List.mem_cons, List.mem_nil_iff, or_false]; rintro q (rfl | rfl | rfl) <;> grind)
  · rename_i h; have h := Rat.not_le.1 h
    exact high_is (.inr (by simp)) (by grind) (by simp only [List.mem_cons, List.mem_nil_iff, or_false]; rintro q (rfl | rfl | rfl) <;> grind)
theorem end_z {p : Rat} (h : p = slo x y ∨ p = shi x y) (hx : x.z ≤ 1048576) (hy : y.z ≤ 1048576) : (cn p).z ≤ 1048584 := by
  have h1 := slo_z x y
  have h2 := shi_z x y
  rcases h with rfl | rfl <;> omega
theorem k_EndsAdd (hx : x.z ≤ 1048576) (hy : y.z ≤ 1048576) (hz : z.z ≤ 1048576) (ht : t.z ≤ 1048576) (k : ∀ p q, p = slo x y + slo z t → q = shi x y + shi z t → (cn p).z ≤ 4194304 → (cn q).z ≤ 4194304 → K (pair (cn p) (cn q))) : Ask 61 [pair x y, pair z t, fv 46] K := by
  have hs := REnds_spec 4194304 (by decide) 46 (· + ·) x y z t (by omega) (by omega) (by omega) (by omega) (fun p q hp hq K k => by
    have h1 := end_z hp hx hy
    have h2 := end_z hq hz ht
    refine k_add (x := cn p) (y := cn q) (by omega) (by omega) fun r e z => k r (by simpa only [cn_q] using e) ?_
    rw [cn_z] at z; omega)
  simp only [low_add (slo_le x y) (slo_le z t), high_add (slo_le x y) (slo_le z t)] at hs
  have h1 := slo_z x y
  have h2 := slo_z z t
  have h3 := shi_z x y
  have h4 := shi_z z t
  have h5 := qs_add (slo x y) (slo z t)
  have h6 := qs_add (shi x y) (shi z t)
  simp only [cn_z] at h1 h2 h3 h4
  exact use hs rfl (k _ _ rfl rfl (by rw [cn_z]; omega) (by rw [cn_z]; omega))
theorem k_EndsSub (hx : x.z ≤ 1048576) (hy : y.z ≤ 1048576) (hz : z.z ≤ 1048576) (ht : t.z ≤ 1048576) (k : ∀ p q, p = slo x y - shi z t → q = shi x y - slo z t → (cn p).z ≤ 4194304 → (cn q).z ≤ 4194304 → K (pair (cn p) (cn q))) : Ask 61 [pair x y, pair z t, fv 63] K := by
  have hs := REnds_spec 4194304 (by decide) 63 (· - ·) x y z t (by omega) (by omega) (by omega) (by omega) (fun p q hp hq K k => by
    have h1 := end_z hp hx hy
    have h2 := end_z hq hz ht
    refine k_sub (x := cn p) (y := cn q) (by omega) (by omega) fun r e z => k r (by simpa only [cn_q] using e) ?_
    rw [cn_z] at z; omega)
  simp only [low_sub (slo_le x y) (slo_le z t), high_sub (slo_le x y) (slo_le z t)] at hs
  have h1 := slo_z x y
  have h2 := slo_z z t
  have h3 := shi_z x y
  have h4 := shi_z z t
  have h5 := qs_sub (slo x y) (shi z t)
  have h6 := qs_sub (shi x y) (slo z t)
  simp only [cn_z] at h1 h2 h3 h4
  exact use hs rfl (k _ _ rfl rfl (by rw [cn_z]; omega) (by rw [cn_z]; omega))
set_option maxHeartbeats 8000000 in
set_option maxRecDepth 100000 in
theorem spanAdds_spec (x y z t a b : RV) (hx : x.z ≤ 1048576) (hy : y.z ≤ 1048576) (hz : z.z ≤ 1048576) (ht : t.z ≤ 1048576) (ha : a.z ≤ 1048576) (hb : b.z ≤ 1048576) : Spec Tryd.prog Tab 8 [pair x y, pair z t, rat a, rat b] (bool true) := by
  refine fn_spec Tryd.func8 rfl rfl Tryd.ntmps8 rfl (by kernel_rfl) rfl rfl ?_
  refine k_spanBegun ?_
  refine ⟨fun e => by simp at e, fun _ => ?_⟩
  refine k_RPair (by omega) (by omega) fun p1 q1 e1 h1 y1 z1 => ?_
  try simp only [cn_q] at e1 h1
  refine k_RPair (by omega) (by omega) fun p2 q2 e2 h2 y2 z2 => ?_
  try simp only [cn_q] at e2 h2
  refine ⟨by kernel_rfl, ?_⟩
  refine k_sMake_c (by omega) (by omega) (fun gt => ?_) (fun gf p3 q3 e3 h3 y3 z3 => ?_)
  · skip
    refine k_cmp (by omega) (by omega) fun n4 h4 => ?_
    have hn : n4 = cmpQ _ _ := h4
    refine ⟨fun _ => ?_, fun e => absurd ((cmp_pos _ _).2 gt) (by rw [← hn]; exact of_decide_eq_false e)⟩
    refine k_neq_span_t (x := z0) (y := z0) (x' := z0) (y' := z0) ⟨rfl, rfl⟩ ?_
    refine ⟨fun e => by simp at e, fun _ => ?_⟩
    refine k_good_c (by omega) (fun g6 => ?_) (fun g6 => ?_)
    · skip
      refine k_good_c (by omega) (fun g7 => ?_) (fun g7 => ?_)
      · skip
        refine k_cmp (by omega) (by omega) fun n8 h8 => ?_
        refine k_RIn_c (by omega) (by omega) (by omega) (fun i9 => ?_) (fun i9 => ?_)
        · have hi := i9
          refine k_sGood (by omega) (by omega) fun b10 h10 => ?_
          refine k_eql_bool_t (by subst_vars; first | exact decide_eq_decide.2 ⟨fun h => (cmp_le _ _).2 h.2.2, fun h => ⟨by assumption, by assumption, (cmp_le _ _).1 h⟩⟩ | exact decide_eq_false fun h => absurd h.1 (by assumption) | exact decide_eq_false fun h => absurd h.2.1 (by assumption)) ?_
          refine k_sOf (by omega) fun q12 h12 z12 => ?_
          try simp only [cn_q] at h12
          refine k_I (0) (by omega) (by omega) fun q13 h13 z13 => ?_
          refine k_add (by omega) (by omega) fun q14 h14 z14 => ?_
          try simp only [cn_q] at h14
          refine k_RAro 4194304 (by decide) q14 [] rfl (by intro q hq; simp only [List.mem_cons, List.mem_nil_iff, or_false] at hq; subst hq <;> (simp only [cn_z] at *; omega)) (by simp) fun p15 q15 e15 h15 y15 z15 => ?_
          refine k_eql_span_t ⟨congrArg cn (by subst_vars; simp only [cn_q, Rat.intCast_zero, Rat.add_zero]; rfl), congrArg cn (by subst_vars; simp only [cn_q, Rat.intCast_zero, Rat.add_zero]; rfl)⟩ ?_
          refine k_sAdd (by omega) (by omega) (by omega) (by omega) fun p17 q17 e17 h17 y17 z17 => ?_
          try simp only [cn_q] at e17 h17
          refine k_EndsAdd (by omega) (by omega) (by omega) (by omega) fun p18 q18 e18 h18 y18 z18 => ?_
          try simp only [cn_q] at e18 h18
          refine k_eql_span_t ⟨congrArg cn (by subst_vars; rfl), congrArg cn (by subst_vars; rfl)⟩ ?_
          refine k_sSub (by omega) (by omega) (by omega) (by omega) fun p20 q20 e20 h20 y20 z20 => ?_
          try simp only [cn_q] at e20 h20
          refine k_EndsSub (by omega) (by omega) (by omega) (by omega) fun p21 q21 e21 h21 y21 z21 => ?_
          try simp only [cn_q] at e21 h21
          refine k_eql_span_t ⟨congrArg cn (by subst_vars; rfl), congrArg cn (by subst_vars; rfl)⟩ ?_
          refine k_sJoin (by omega) (by omega) (by omega) (by omega) fun p23 q23 e23 h23 y23 z23 => ?_
          try simp only [cn_q] at e23 h23
          refine k_RAro 4194304 (by decide) p1 [q1, p2, q2] rfl (by intro q hq; simp only [List.mem_cons, List.mem_nil_iff, or_false] at hq; rcases hq with rfl | rfl | rfl | rfl <;> (simp only [cn_z] at *; omega)) (by simp) fun p24 q24 e24 h24 y24 z24 => ?_
          refine k_eql_span_t ⟨congrArg cn (by subst_vars; exact (low_join (slo_le _ _) (slo_le _ _)).symm), congrArg cn (by subst_vars; exact (high_join (slo_le _ _) (slo_le _ _)).symm)⟩ ?_
          refine k_sHas (by omega) (by omega) (by omega) fun b26 h26 => ?_
          refine k_RIn (by omega) (by omega) (by omega) fun b27 h27 => ?_
          refine k_eql_bool_t (by subst_vars; simp only [cn_q]) ?_
          refine k_sMeet (by omega) (by omega) (by omega) (by omega) fun b29 h29 => ?_
          refine k_eql_bool_t (by subst_vars; simp only [cn_q] at hi ⊢; first | exact meet_t (slo_le _ _) hi | exact meet_f (slo_le _ _) hi) ?_
          refine ⟨by kernel_rfl, ?_⟩
          exact rfl
        · have hi := i9
          refine k_RIn (by omega) (by omega) (by omega) fun b31 h31 => ?_
          refine k_sGood (by omega) (by omega) fun b32 h32 => ?_
          refine k_eql_bool_t (by subst_vars; first | exact decide_eq_decide.2 ⟨fun h => (cmp_le _ _).2 h.2.2, fun h => ⟨by assumption, by assumption, (cmp_le _ _).1 h⟩⟩ | exact decide_eq_false fun h => absurd h.1 (by assumption) | exact decide_eq_false fun h => absurd h.2.1 (by assumption)) ?_
          refine k_sOf (by omega) fun q34 h34 z34 => ?_
          try simp only [cn_q] at h34
          refine k_I (0) (by omega) (by omega) fun q35 h35 z35 => ?_
          refine k_add (by omega) (by omega) fun q36 h36 z36 => ?_
          try simp only [cn_q] at h36
          refine k_RAro 4194304 (by decide) q36 [] rfl (by intro q hq; simp only [List.mem_cons, List.mem_nil_iff, or_false] at hq; subst hq <;> (simp only [cn_z] at *; omega)) (by simp) fun p37 q37 e37 h37 y37 z37 => ?_
          refine k_eql_span_t ⟨congrArg cn (by subst_vars; simp only [cn_q, Rat.intCast_zero, Rat.add_zero]; rfl), congrArg cn (by subst_vars; simp only [cn_q, Rat.intCast_zero, Rat.add_zero]; rfl)⟩ ?_
          refine k_sAdd (by omega) (by omega) (by omega) (by omega) fun p39 q39 e39 h39 y39 z39 => ?_
          try simp only [cn_q] at e39 h39
          refine k_EndsAdd (by omega) (by omega) (by omega) (by omega) fun p40 q40 e40 h40 y40 z40 => ?_
          try simp only [cn_q] at e40 h40
          refine k_eql_span_t ⟨congrArg cn (by subst_vars; rfl), congrArg cn (by subst_vars; rfl)⟩ ?_
          refine k_sSub (by omega) (by omega) (by omega) (by omega) fun p42 q42 e42 h42 y42 z42 => ?_
          try simp only [cn_q] at e42 h42
          refine k_EndsSub (by omega) (by omega) (by omega) (by omega) fun p43 q43 e43 h43 y43 z43 => ?_
          try simp only [cn_q] at e43 h43
          refine k_eql_span_t ⟨congrArg cn (by subst_vars; rfl), congrArg cn (by subst_vars; rfl)⟩ ?_
          refine k_sJoin (by omega) (by omega) (by omega) (by omega) fun p45 q45 e45 h45 y45 z45 => ?_
          try simp only [cn_q] at e45 h45
          refine k_RAro 4194304 (by decide) p1 [q1, p2, q2] rfl (by intro q hq; simp only [List.mem_cons, List.mem_nil_iff, or_false] at hq; rcases hq with rfl | rfl | rfl | rfl <;> (simp only [cn_z] at *; omega)) (by simp) fun p46 q46 e46 h46 y46 z46 => ?_
          refine k_eql_span_t ⟨congrArg cn (by subst_vars; exact (low_join (slo_le _ _) (slo_le _ _)).symm), congrArg cn (by subst_vars; exact (high_join (slo_le _ _) (slo_le _ _)).symm)⟩ ?_
          refine k_sHas (by omega) (by omega) (by omega) fun b48 h48 => ?_
          refine k_RIn (by omega) (by omega) (by omega) fun b49 h49 => ?_
          refine k_eql_bool_t (by subst_vars; simp only [cn_q]) ?_
          refine k_sMeet (by omega) (by omega) (by omega) (by omega) fun b51 h51 => ?_
          refine k_eql_bool_t (by subst_vars; simp only [cn_q] at hi ⊢; first | exact meet_t (slo_le _ _) hi | exact meet_f (slo_le _ _) hi) ?_
          refine ⟨by kernel_rfl, ?_⟩
          exact rfl
      · skip
        refine k_RIn_c (by omega) (by omega) (by omega) (fun i53 => ?_) (fun i53 => ?_)
        · have hi := i53
          refine k_sGood (by omega) (by omega) fun b54 h54 => ?_
          refine k_eql_bool_t (by subst_vars; first | exact decide_eq_decide.2 ⟨fun h => (cmp_le _ _).2 h.2.2, fun h => ⟨by assumption, by assumption, (cmp_le _ _).1 h⟩⟩ | exact decide_eq_false fun h => absurd h.1 (by assumption) | exact decide_eq_false fun h => absurd h.2.1 (by assumption)) ?_
          refine k_sOf (by omega) fun q56 h56 z56 => ?_
          try simp only [cn_q] at h56
          refine k_I (0) (by omega) (by omega) fun q57 h57 z57 => ?_
          refine k_add (by omega) (by omega) fun q58 h58 z58 => ?_
          try simp only [cn_q] at h58
          refine k_RAro 4194304 (by decide) q58 [] rfl (by intro q hq; simp only [List.mem_cons, List.mem_nil_iff, or_false] at hq; subst hq <;> (simp only [cn_z] at *; omega)) (by simp) fun p59 q59 e59 h59 y59 z59 => ?_
          refine k_eql_span_t ⟨congrArg cn (by subst_vars; simp only [cn_q, Rat.intCast_zero, Rat.add_zero]; rfl), congrArg cn (by subst_vars; simp only [cn_q, Rat.intCast_zero, Rat.add_zero]; rfl)⟩ ?_
          refine k_sAdd (by omega) (by omega) (by omega) (by omega) fun p61 q61 e61 h61 y61 z61 => ?_
          try simp only [cn_q] at e61 h61
          refine k_EndsAdd (by omega) (by omega) (by omega) (by omega) fun p62 q62 e62 h62 y62 z62 => ?_
          try simp only [cn_q] at e62 h62
          refine k_eql_span_t ⟨congrArg cn (by subst_vars; rfl), congrArg cn (by subst_vars; rfl)⟩ ?_
          refine k_sSub (by omega) (by omega) (by omega) (by omega) fun p64 q64 e64 h64 y64 z64 => ?_
          try simp only [cn_q] at e64 h64
          refine k_EndsSub (by omega) (by omega) (by omega) (by omega) fun p65 q65 e65 h65 y65 z65 => ?_
          try simp only [cn_q] at e65 h65
          refine k_eql_span_t ⟨congrArg cn (by subst_vars; rfl), congrArg cn (by subst_vars; rfl)⟩ ?_
          refine k_sJoin (by omega) (by omega) (by omega) (by omega) fun p67 q67 e67 h67 y67 z67 => ?_
          try simp only [cn_q] at e67 h67
          refine k_RAro 4194304 (by decide) p1 [q1, p2, q2] rfl (by intro q hq; simp only [List.mem_cons, List.mem_nil_iff, or_false] at hq; rcases hq with rfl | rfl | rfl | rfl <;> (simp only [cn_z] at *; omega)) (by simp) fun p68 q68 e68 h68 y68 z68 => ?_
          refine k_eql_span_t ⟨congrArg cn (by subst_vars; exact (low_join (slo_le _ _) (slo_le _ _)).symm), congrArg cn (by subst_vars; exact (high_join (slo_le _ _) (slo_le _ _)).symm)⟩ ?_
          refine k_sHas (by omega) (by omega) (by omega) fun b70 h70 => ?_
          refine k_RIn (by omega) (by omega) (by omega) fun b71 h71 => ?_
          refine k_eql_bool_t (by subst_vars; simp only [cn_q]) ?_
          refine k_sMeet (by omega) (by omega) (by omega) (by omega) fun b73 h73 => ?_
          refine k_eql_bool_t (by subst_vars; simp only [cn_q] at hi ⊢; first | exact meet_t (slo_le _ _) hi | exact meet_f (slo_le _ _) hi) ?_
          refine ⟨by kernel_rfl, ?_⟩
          exact rfl
        · have hi := i53
          refine k_RIn (by omega) (by omega) (by omega) fun b75 h75 => ?_
          refine k_sGood (by omega) (by omega) fun b76 h76 => ?_
          refine k_eql_bool_t (by subst_vars; first | exact decide_eq_decide.2 ⟨fun h => (cmp_le _ _).2 h.2.2, fun h => ⟨by assumption, by assumption, (cmp_le _ _).1 h⟩⟩ | exact decide_eq_false fun h => absurd h.1 (by assumption) | exact decide_eq_false fun h => absurd h.2.1 (by assumption)) ?_
          refine k_sOf (by omega) fun q78 h78 z78 => ?_
          try simp only [cn_q] at h78
          refine k_I (0) (by omega) (by omega) fun q79 h79 z79 => ?_
          refine k_add (by omega) (by omega) fun q80 h80 z80 => ?_
          try simp only [cn_q] at h80
          refine k_RAro 4194304 (by decide) q80 [] rfl (by intro q hq; simp only [List.mem_cons, List.mem_nil_iff, or_false] at hq; subst hq <;> (simp only [cn_z] at *; omega)) (by simp) fun p81 q81 e81 h81 y81 z81 => ?_
          refine k_eql_span_t ⟨congrArg cn (by subst_vars; simp only [cn_q, Rat.intCast_zero, Rat.add_zero]; rfl), congrArg cn (by subst_vars; simp only [cn_q, Rat.intCast_zero, Rat.add_zero]; rfl)⟩ ?_
          refine k_sAdd (by omega) (by omega) (by omega) (by omega) fun p83 q83 e83 h83 y83 z83 => ?_
          try simp only [cn_q] at e83 h83
          refine k_EndsAdd (by omega) (by omega) (by omega) (by omega) fun p84 q84 e84 h84 y84 z84 => ?_
          try simp only [cn_q] at e84 h84
          refine k_eql_span_t ⟨congrArg cn (by subst_vars; rfl), congrArg cn (by subst_vars; rfl)⟩ ?_
          refine k_sSub (by omega) (by omega) (by omega) (by omega) fun p86 q86 e86 h86 y86 z86 => ?_
          try simp only [cn_q] at e86 h86
          refine k_EndsSub (by omega) (by omega) (by omega) (by omega) fun p87 q87 e87 h87 y87 z87 => ?_
          try simp only [cn_q] at e87 h87
          refine k_eql_span_t ⟨congrArg cn (by subst_vars; rfl), congrArg cn (by subst_vars; rfl)⟩ ?_
          refine k_sJoin (by omega) (by omega) (by omega) (by omega) fun p89 q89 e89 h89 y89 z89 => ?_
          try simp only [cn_q] at e89 h89
          refine k_RAro 4194304 (by decide) p1 [q1, p2, q2] rfl (by intro q hq; simp only [List.mem_cons, List.mem_nil_iff, or_false] at hq; rcases hq with rfl | rfl | rfl | rfl <;> (simp only [cn_z] at *; omega)) (by simp) fun p90 q90 e90 h90 y90 z90 => ?_
          refine k_eql_span_t ⟨congrArg cn (by subst_vars; exact (low_join (slo_le _ _) (slo_le _ _)).symm), congrArg cn (by subst_vars; exact (high_join (slo_le _ _) (slo_le _ _)).symm)⟩ ?_
          refine k_sHas (by omega) (by omega) (by omega) fun b92 h92 => ?_
          refine k_RIn (by omega) (by omega) (by omega) fun b93 h93 => ?_
          refine k_eql_bool_t (by subst_vars; simp only [cn_q]) ?_
          refine k_sMeet (by omega) (by omega) (by omega) (by omega) fun b95 h95 => ?_
          refine k_eql_bool_t (by subst_vars; simp only [cn_q] at hi ⊢; first | exact meet_t (slo_le _ _) hi | exact meet_f (slo_le _ _) hi) ?_
          refine ⟨by kernel_rfl, ?_⟩
          exact rfl
    · skip
      refine k_RIn_c (by omega) (by omega) (by omega) (fun i97 => ?_) (fun i97 => ?_)
      · have hi := i97
        refine k_sGood (by omega) (by omega) fun b98 h98 => ?_
        refine k_eql_bool_t (by subst_vars; first | exact decide_eq_decide.2 ⟨fun h => (cmp_le _ _).2 h.2.2, fun h => ⟨by assumption, by assumption, (cmp_le _ _).1 h⟩⟩ | exact decide_eq_false fun h => absurd h.1 (by assumption) | exact decide_eq_false fun h => absurd h.2.1 (by assumption)) ?_
        refine k_sOf (by omega) fun q100 h100 z100 => ?_
        try simp only [cn_q] at h100
        refine k_I (0) (by omega) (by omega) fun q101 h101 z101 => ?_
        refine k_add (by omega) (by omega) fun q102 h102 z102 => ?_
        try simp only [cn_q] at h102
        refine k_RAro 4194304 (by decide) q102 [] rfl (by intro q hq; simp only [List.mem_cons, List.mem_nil_iff, or_false] at hq; subst hq <;> (simp only [cn_z] at *; omega)) (by simp) fun p103 q103 e103 h103 y103 z103 => ?_
        refine k_eql_span_t ⟨congrArg cn (by subst_vars; simp only [cn_q, Rat.intCast_zero, Rat.add_zero]; rfl), congrArg cn (by subst_vars; simp only [cn_q, Rat.intCast_zero, Rat.add_zero]; rfl)⟩ ?_
        refine k_sAdd (by omega) (by omega) (by omega) (by omega) fun p105 q105 e105 h105 y105 z105 => ?_
        try simp only [cn_q] at e105 h105
        refine k_EndsAdd (by omega) (by omega) (by omega) (by omega) fun p106 q106 e106 h106 y106 z106 => ?_
        try simp only [cn_q] at e106 h106
        refine k_eql_span_t ⟨congrArg cn (by subst_vars; rfl), congrArg cn (by subst_vars; rfl)⟩ ?_
        refine k_sSub (by omega) (by omega) (by omega) (by omega) fun p108 q108 e108 h108 y108 z108 => ?_
        try simp only [cn_q] at e108 h108
        refine k_EndsSub (by omega) (by omega) (by omega) (by omega) fun p109 q109 e109 h109 y109 z109 => ?_
        try simp only [cn_q] at e109 h109
        refine k_eql_span_t ⟨congrArg cn (by subst_vars; rfl), congrArg cn (by subst_vars; rfl)⟩ ?_
        refine k_sJoin (by omega) (by omega) (by omega) (by omega) fun p111 q111 e111 h111 y111 z111 => ?_
        try simp only [cn_q] at e111 h111
        refine k_RAro 4194304 (by decide) p1 [q1, p2, q2] rfl (by intro q hq; simp only [List.mem_cons, List.mem_nil_iff, or_false] at hq; rcases hq with rfl | rfl | rfl | rfl <;> (simp only [cn_z] at *; omega)) (by simp) fun p112 q112 e112 h112 y112 z112 => ?_
        refine k_eql_span_t ⟨congrArg cn (by subst_vars; exact (low_join (slo_le _ _) (slo_le _ _)).symm), congrArg cn (by subst_vars; exact (high_join (slo_le _ _) (slo_le _ _)).symm)⟩ ?_
        refine k_sHas (by omega) (by omega) (by omega) fun b114 h114 => ?_
        refine k_RIn (by omega) (by omega) (by omega) fun b115 h115 => ?_
        refine k_eql_bool_t (by subst_vars; simp only [cn_q]) ?_
        refine k_sMeet (by omega) (by omega) (by omega) (by omega) fun b117 h117 => ?_
        refine k_eql_bool_t (by subst_vars; simp only [cn_q] at hi ⊢; first | exact meet_t (slo_le _ _) hi | exact meet_f (slo_le _ _) hi) ?_
        refine ⟨by kernel_rfl, ?_⟩
        exact rfl
      · have hi := i97
        refine k_RIn (by omega) (by omega) (by omega) fun b119 h119 => ?_
        refine k_sGood (by omega) (by omega) fun b120 h120 => ?_
        refine k_eql_bool_t (by subst_vars; first | exact decide_eq_decide.2 ⟨fun h => (cmp_le _ _).2 h.2.2, fun h => ⟨by assumption, by assumption, (cmp_le _ _).1 h⟩⟩ | exact decide_eq_false fun h => absurd h.1 (by assumption) | exact decide_eq_false fun h => absurd h.2.1 (by assumption)) ?_
        refine k_sOf (by omega) fun q122 h122 z122 => ?_
        try simp only [cn_q] at h122
        refine k_I (0) (by omega) (by omega) fun q123 h123 z123 => ?_
        refine k_add (by omega) (by omega) fun q124 h124 z124 => ?_
        try simp only [cn_q] at h124
        refine k_RAro 4194304 (by decide) q124 [] rfl (by intro q hq; simp only [List.mem_cons, List.mem_nil_iff, or_false] at hq; subst hq <;> (simp only [cn_z] at *; omega)) (by simp) fun p125 q125 e125 h125 y125 z125 => ?_
        refine k_eql_span_t ⟨congrArg cn (by subst_vars; simp only [cn_q, Rat.intCast_zero, Rat.add_zero]; rfl), congrArg cn (by subst_vars; simp only [cn_q, Rat.intCast_zero, Rat.add_zero]; rfl)⟩ ?_
        refine k_sAdd (by omega) (by omega) (by omega) (by omega) fun p127 q127 e127 h127 y127 z127 => ?_
        try simp only [cn_q] at e127 h127
        refine k_EndsAdd (by omega) (by omega) (by omega) (by omega) fun p128 q128 e128 h128 y128 z128 => ?_
        try simp only [cn_q] at e128 h128
        refine k_eql_span_t ⟨congrArg cn (by subst_vars; rfl), congrArg cn (by subst_vars; rfl)⟩ ?_
        refine k_sSub (by omega) (by omega) (by omega) (by omega) fun p130 q130 e130 h130 y130 z130 => ?_
        try simp only [cn_q] at e130 h130
        refine k_EndsSub (by omega) (by omega) (by omega) (by omega) fun p131 q131 e131 h131 y131 z131 => ?_
        try simp only [cn_q] at e131 h131
        refine k_eql_span_t ⟨congrArg cn (by subst_vars; rfl), congrArg cn (by subst_vars; rfl)⟩ ?_
        refine k_sJoin (by omega) (by omega) (by omega) (by omega) fun p133 q133 e133 h133 y133 z133 => ?_
        try simp only [cn_q] at e133 h133
        refine k_RAro 4194304 (by decide) p1 [q1, p2, q2] rfl (by intro q hq; simp only [List.mem_cons, List.mem_nil_iff, or_false] at hq; rcases hq with rfl | rfl | rfl | rfl <;> (simp only [cn_z] at *; omega)) (by simp) fun p134 q134 e134 h134 y134 z134 => ?_
        refine k_eql_span_t ⟨congrArg cn (by subst_vars; exact (low_join (slo_le _ _) (slo_le _ _)).symm), congrArg cn (by subst_vars; exact (high_join (slo_le _ _) (slo_le _ _)).symm)⟩ ?_
        refine k_sHas (by omega) (by omega) (by omega) fun b136 h136 => ?_
        refine k_RIn (by omega) (by omega) (by omega) fun b137 h137 => ?_
        refine k_eql_bool_t (by subst_vars; simp only [cn_q]) ?_
        refine k_sMeet (by omega) (by omega) (by omega) (by omega) fun b139 h139 => ?_
        refine k_eql_bool_t (by subst_vars; simp only [cn_q] at hi ⊢; first | exact meet_t (slo_le _ _) hi | exact meet_f (slo_le _ _) hi) ?_
        refine ⟨by kernel_rfl, ?_⟩
        exact rfl
  · skip
    refine k_cmp (by omega) (by omega) fun n141 h141 => ?_
    have hn : n141 = cmpQ _ _ := h141
    refine ⟨fun e => absurd ((cmp_pos _ _).1 (by rw [← hn]; exact of_decide_eq_true e)) gf, fun _ => ?_⟩
    refine k_I (0) (by omega) (by omega) fun q142 h142 z142 => ?_
    refine k_add (by omega) (by omega) fun q143 h143 z143 => ?_
    try simp only [cn_q] at h143
    refine k_I (0) (by omega) (by omega) fun q144 h144 z144 => ?_
    refine k_add (by omega) (by omega) fun q145 h145 z145 => ?_
    try simp only [cn_q] at h145
    refine k_neq_span_t ⟨by subst_vars; simp only [cn_q, Rat.intCast_zero, Rat.add_zero], by subst_vars; simp only [cn_q, Rat.intCast_zero, Rat.add_zero]⟩ ?_
    refine ⟨by kernel_rfl, ?_⟩
    refine ⟨fun e => by simp at e, fun _ => ?_⟩
    refine k_good_c (by omega) (fun g147 => ?_) (fun g147 => ?_)
    · skip
      refine k_good_c (by omega) (fun g148 => ?_) (fun g148 => ?_)
      · skip
        refine k_cmp (by omega) (by omega) fun n149 h149 => ?_
        refine k_RIn_c (by omega) (by omega) (by omega) (fun i150 => ?_) (fun i150 => ?_)
        · have hi := i150
          refine k_sGood (by omega) (by omega) fun b151 h151 => ?_
          refine k_eql_bool_t (by subst_vars; first | exact decide_eq_decide.2 ⟨fun h => (cmp_le _ _).2 h.2.2, fun h => ⟨by assumption, by assumption, (cmp_le _ _).1 h⟩⟩ | exact decide_eq_false fun h => absurd h.1 (by assumption) | exact decide_eq_false fun h => absurd h.2.1 (by assumption)) ?_
          refine k_sOf (by omega) fun q153 h153 z153 => ?_
          try simp only [cn_q] at h153
          refine k_I (0) (by omega) (by omega) fun q154 h154 z154 => ?_
          refine k_add (by omega) (by omega) fun q155 h155 z155 => ?_
          try simp only [cn_q] at h155
          refine k_RAro 4194304 (by decide) q155 [] rfl (by intro q hq; simp only [List.mem_cons, List.mem_nil_iff, or_false] at hq; subst hq <;> (simp only [cn_z] at *; omega)) (by simp) fun p156 q156 e156 h156 y156 z156 => ?_
          refine k_eql_span_t ⟨congrArg cn (by subst_vars; simp only [cn_q, Rat.intCast_zero, Rat.add_zero]; rfl), congrArg cn (by subst_vars; simp only [cn_q, Rat.intCast_zero, Rat.add_zero]; rfl)⟩ ?_
          refine k_sAdd (by omega) (by omega) (by omega) (by omega) fun p158 q158 e158 h158 y158 z158 => ?_
          try simp only [cn_q] at e158 h158
          refine k_EndsAdd (by omega) (by omega) (by omega) (by omega) fun p159 q159 e159 h159 y159 z159 => ?_
          try simp only [cn_q] at e159 h159
          refine k_eql_span_t ⟨congrArg cn (by subst_vars; rfl), congrArg cn (by subst_vars; rfl)⟩ ?_
          refine k_sSub (by omega) (by omega) (by omega) (by omega) fun p161 q161 e161 h161 y161 z161 => ?_
          try simp only [cn_q] at e161 h161
          refine k_EndsSub (by omega) (by omega) (by omega) (by omega) fun p162 q162 e162 h162 y162 z162 => ?_
          try simp only [cn_q] at e162 h162
          refine k_eql_span_t ⟨congrArg cn (by subst_vars; rfl), congrArg cn (by subst_vars; rfl)⟩ ?_
          refine k_sJoin (by omega) (by omega) (by omega) (by omega) fun p164 q164 e164 h164 y164 z164 => ?_
          try simp only [cn_q] at e164 h164
          refine k_RAro 4194304 (by decide) p1 [q1, p2, q2] rfl (by intro q hq; simp only [List.mem_cons, List.mem_nil_iff, or_false] at hq; rcases hq with rfl | rfl | rfl | rfl <;> (simp only [cn_z] at *; omega)) (by simp) fun p165 q165 e165 h165 y165 z165 => ?_
          refine k_eql_span_t ⟨congrArg cn (by subst_vars; exact (low_join (slo_le _ _) (slo_le _ _)).symm), congrArg cn (by subst_vars; exact (high_join (slo_le _ _) (slo_le _ _)).symm)⟩ ?_
          refine k_sHas (by omega) (by omega) (by omega) fun b167 h167 => ?_
          refine k_RIn (by omega) (by omega) (by omega) fun b168 h168 => ?_
          refine k_eql_bool_t (by subst_vars; simp only [cn_q]) ?_
          refine k_sMeet (by omega) (by omega) (by omega) (by omega) fun b170 h170 => ?_
          refine k_eql_bool_t (by subst_vars; simp only [cn_q] at hi ⊢; first | exact meet_t (slo_le _ _) hi | exact meet_f (slo_le _ _) hi) ?_
          refine ⟨by kernel_rfl, ?_⟩
          exact rfl
        · have hi := i150
          refine k_RIn (by omega) (by omega) (by omega) fun b172 h172 => ?_
          refine k_sGood (by omega) (by omega) fun b173 h173 => ?_
          refine k_eql_bool_t (by subst_vars; first | exact decide_eq_decide.2 ⟨fun h => (cmp_le _ _).2 h.2.2, fun h => ⟨by assumption, by assumption, (cmp_le _ _).1 h⟩⟩ | exact decide_eq_false fun h => absurd h.1 (by assumption) | exact decide_eq_false fun h => absurd h.2.1 (by assumption)) ?_
          refine k_sOf (by omega) fun q175 h175 z175 => ?_
          try simp only [cn_q] at h175
          refine k_I (0) (by omega) (by omega) fun q176 h176 z176 => ?_
          refine k_add (by omega) (by omega) fun q177 h177 z177 => ?_
          try simp only [cn_q] at h177
          refine k_RAro 4194304 (by decide) q177 [] rfl (by intro q hq; simp only [List.mem_cons, List.mem_nil_iff, or_false] at hq; subst hq <;> (simp only [cn_z] at *; omega)) (by simp) fun p178 q178 e178 h178 y178 z178 => ?_
          refine k_eql_span_t ⟨congrArg cn (by subst_vars; simp only [cn_q, Rat.intCast_zero, Rat.add_zero]; rfl), congrArg cn (by subst_vars; simp only [cn_q, Rat.intCast_zero, Rat.add_zero]; rfl)⟩ ?_
          refine k_sAdd (by omega) (by omega) (by omega) (by omega) fun p180 q180 e180 h180 y180 z180 => ?_
          try simp only [cn_q] at e180 h180
          refine k_EndsAdd (by omega) (by omega) (by omega) (by omega) fun p181 q181 e181 h181 y181 z181 => ?_
          try simp only [cn_q] at e181 h181
          refine k_eql_span_t ⟨congrArg cn (by subst_vars; rfl), congrArg cn (by subst_vars; rfl)⟩ ?_
          refine k_sSub (by omega) (by omega) (by omega) (by omega) fun p183 q183 e183 h183 y183 z183 => ?_
          try simp only [cn_q] at e183 h183
          refine k_EndsSub (by omega) (by omega) (by omega) (by omega) fun p184 q184 e184 h184 y184 z184 => ?_
          try simp only [cn_q] at e184 h184
          refine k_eql_span_t ⟨congrArg cn (by subst_vars; rfl), congrArg cn (by subst_vars; rfl)⟩ ?_
          refine k_sJoin (by omega) (by omega) (by omega) (by omega) fun p186 q186 e186 h186 y186 z186 => ?_
          try simp only [cn_q] at e186 h186
          refine k_RAro 4194304 (by decide) p1 [q1, p2, q2] rfl (by intro q hq; simp only [List.mem_cons, List.mem_nil_iff, or_false] at hq; rcases hq with rfl | rfl | rfl | rfl <;> (simp only [cn_z] at *; omega)) (by simp) fun p187 q187 e187 h187 y187 z187 => ?_
          refine k_eql_span_t ⟨congrArg cn (by subst_vars; exact (low_join (slo_le _ _) (slo_le _ _)).symm), congrArg cn (by subst_vars; exact (high_join (slo_le _ _) (slo_le _ _)).symm)⟩ ?_
          refine k_sHas (by omega) (by omega) (by omega) fun b189 h189 => ?_
          refine k_RIn (by omega) (by omega) (by omega) fun b190 h190 => ?_
          refine k_eql_bool_t (by subst_vars; simp only [cn_q]) ?_
          refine k_sMeet (by omega) (by omega) (by omega) (by omega) fun b192 h192 => ?_
          refine k_eql_bool_t (by subst_vars; simp only [cn_q] at hi ⊢; first | exact meet_t (slo_le _ _) hi | exact meet_f (slo_le _ _) hi) ?_
          refine ⟨by kernel_rfl, ?_⟩
          exact rfl
      · skip
        refine k_RIn_c (by omega) (by omega) (by omega) (fun i194 => ?_) (fun i194 => ?_)
        · have hi := i194
          refine k_sGood (by omega) (by omega) fun b195 h195 => ?_
          refine k_eql_bool_t (by subst_vars; first | exact decide_eq_decide.2 ⟨fun h => (cmp_le _ _).2 h.2.2, fun h => ⟨by assumption, by assumption, (cmp_le _ _).1 h⟩⟩ | exact decide_eq_false fun h => absurd h.1 (by assumption) | exact decide_eq_false fun h => absurd h.2.1 (by assumption)) ?_
          refine k_sOf (by omega) fun q197 h197 z197 => ?_
          try simp only [cn_q] at h197
          refine k_I (0) (by omega) (by omega) fun q198 h198 z198 => ?_
          refine k_add (by omega) (by omega) fun q199 h199 z199 => ?_
          try simp only [cn_q] at h199
          refine k_RAro 4194304 (by decide) q199 [] rfl (by intro q hq; simp only [List.mem_cons, List.mem_nil_iff, or_false] at hq; subst hq <;> (simp only [cn_z] at *; omega)) (by simp) fun p200 q200 e200 h200 y200 z200 => ?_
          refine k_eql_span_t ⟨congrArg cn (by subst_vars; simp only [cn_q, Rat.intCast_zero, Rat.add_zero]; rfl), congrArg cn (by subst_vars; simp only [cn_q, Rat.intCast_zero, Rat.add_zero]; rfl)⟩ ?_
          refine k_sAdd (by omega) (by omega) (by omega) (by omega) fun p202 q202 e202 h202 y202 z202 => ?_
          try simp only [cn_q] at e202 h202
          refine k_EndsAdd (by omega) (by omega) (by omega) (by omega) fun p203 q203 e203 h203 y203 z203 => ?_
          try simp only [cn_q] at e203 h203
          refine k_eql_span_t ⟨congrArg cn (by subst_vars; rfl), congrArg cn (by subst_vars; rfl)⟩ ?_
          refine k_sSub (by omega) (by omega) (by omega) (by omega) fun p205 q205 e205 h205 y205 z205 => ?_
          try simp only [cn_q] at e205 h205
          refine k_EndsSub (by omega) (by omega) (by omega) (by omega) fun p206 q206 e206 h206 y206 z206 => ?_
          try simp only [cn_q] at e206 h206
          refine k_eql_span_t ⟨congrArg cn (by subst_vars; rfl), congrArg cn (by subst_vars; rfl)⟩ ?_
          refine k_sJoin (by omega) (by omega) (by omega) (by omega) fun p208 q208 e208 h208 y208 z208 => ?_
          try simp only [cn_q] at e208 h208
          refine k_RAro 4194304 (by decide) p1 [q1, p2, q2] rfl (by intro q hq; simp only [List.mem_cons, List.mem_nil_iff, or_false] at hq; rcases hq with rfl | rfl | rfl | rfl <;> (simp only [cn_z] at *; omega)) (by simp) fun p209 q209 e209 h209 y209 z209 => ?_
          refine k_eql_span_t ⟨congrArg cn (by subst_vars; exact (low_join (slo_le _ _) (slo_le _ _)).symm), congrArg cn (by subst_vars; exact (high_join (slo_le _ _) (slo_le _ _)).symm)⟩ ?_
          refine k_sHas (by omega) (by omega) (by omega) fun b211 h211 => ?_
          refine k_RIn (by omega) (by omega) (by omega) fun b212 h212 => ?_
          refine k_eql_bool_t (by subst_vars; simp only [cn_q]) ?_
          refine k_sMeet (by omega) (by omega) (by omega) (by omega) fun b214 h214 => ?_
          refine k_eql_bool_t (by subst_vars; simp only [cn_q] at hi ⊢; first | exact meet_t (slo_le _ _) hi | exact meet_f (slo_le _ _) hi) ?_
          refine ⟨by kernel_rfl, ?_⟩
          exact rfl
        · have hi := i194
          refine k_RIn (by omega) (by omega) (by omega) fun b216 h216 => ?_
          refine k_sGood (by omega) (by omega) fun b217 h217 => ?_
          refine k_eql_bool_t (by subst_vars; first | exact decide_eq_decide.2 ⟨fun h => (cmp_le _ _).2 h.2.2, fun h => ⟨by assumption, by assumption, (cmp_le _ _).1 h⟩⟩ | exact decide_eq_false fun h => absurd h.1 (by assumption) | exact decide_eq_false fun h => absurd h.2.1 (by assumption)) ?_
          refine k_sOf (by omega) fun q219 h219 z219 => ?_
          try simp only [cn_q] at h219
          refine k_I (0) (by omega) (by omega) fun q220 h220 z220 => ?_
          refine k_add (by omega) (by omega) fun q221 h221 z221 => ?_
          try simp only [cn_q] at h221
          refine k_RAro 4194304 (by decide) q221 [] rfl (by intro q hq; simp only [List.mem_cons, List.mem_nil_iff, or_false] at hq; subst hq <;> (simp only [cn_z] at *; omega)) (by simp) fun p222 q222 e222 h222 y222 z222 => ?_
          refine k_eql_span_t ⟨congrArg cn (by subst_vars; simp only [cn_q, Rat.intCast_zero, Rat.add_zero]; rfl), congrArg cn (by subst_vars; simp only [cn_q, Rat.intCast_zero, Rat.add_zero]; rfl)⟩ ?_
          refine k_sAdd (by omega) (by omega) (by omega) (by omega) fun p224 q224 e224 h224 y224 z224 => ?_
          try simp only [cn_q] at e224 h224
          refine k_EndsAdd (by omega) (by omega) (by omega) (by omega) fun p225 q225 e225 h225 y225 z225 => ?_
          try simp only [cn_q] at e225 h225
          refine k_eql_span_t ⟨congrArg cn (by subst_vars; rfl), congrArg cn (by subst_vars; rfl)⟩ ?_
          refine k_sSub (by omega) (by omega) (by omega) (by omega) fun p227 q227 e227 h227 y227 z227 => ?_
          try simp only [cn_q] at e227 h227
          refine k_EndsSub (by omega) (by omega) (by omega) (by omega) fun p228 q228 e228 h228 y228 z228 => ?_
          try simp only [cn_q] at e228 h228
          refine k_eql_span_t ⟨congrArg cn (by subst_vars; rfl), congrArg cn (by subst_vars; rfl)⟩ ?_
          refine k_sJoin (by omega) (by omega) (by omega) (by omega) fun p230 q230 e230 h230 y230 z230 => ?_
          try simp only [cn_q] at e230 h230
          refine k_RAro 4194304 (by decide) p1 [q1, p2, q2] rfl (by intro q hq; simp only [List.mem_cons, List.mem_nil_iff, or_false] at hq; rcases hq with rfl | rfl | rfl | rfl <;> (simp only [cn_z] at *; omega)) (by simp) fun p231 q231 e231 h231 y231 z231 => ?_
          refine k_eql_span_t ⟨congrArg cn (by subst_vars; exact (low_join (slo_le _ _) (slo_le _ _)).symm), congrArg cn (by subst_vars; exact (high_join (slo_le _ _) (slo_le _ _)).symm)⟩ ?_
          refine k_sHas (by omega) (by omega) (by omega) fun b233 h233 => ?_
          refine k_RIn (by omega) (by omega) (by omega) fun b234 h234 => ?_
          refine k_eql_bool_t (by subst_vars; simp only [cn_q]) ?_
          refine k_sMeet (by omega) (by omega) (by omega) (by omega) fun b236 h236 => ?_
          refine k_eql_bool_t (by subst_vars; simp only [cn_q] at hi ⊢; first | exact meet_t (slo_le _ _) hi | exact meet_f (slo_le _ _) hi) ?_
          refine ⟨by kernel_rfl, ?_⟩
          exact rfl
    · skip
      refine k_RIn_c (by omega) (by omega) (by omega) (fun i238 => ?_) (fun i238 => ?_)
      · have hi := i238
        refine k_sGood (by omega) (by omega) fun b239 h239 => ?_
        refine k_eql_bool_t (by subst_vars; first | exact decide_eq_decide.2 ⟨fun h => (cmp_le _ _).2 h.2.2, fun h => ⟨by assumption, by assumption, (cmp_le _ _).1 h⟩⟩ | exact decide_eq_false fun h => absurd h.1 (by assumption) | exact decide_eq_false fun h => absurd h.2.1 (by assumption)) ?_
        refine k_sOf (by omega) fun q241 h241 z241 => ?_
        try simp only [cn_q] at h241
        refine k_I (0) (by omega) (by omega) fun q242 h242 z242 => ?_
        refine k_add (by omega) (by omega) fun q243 h243 z243 => ?_
        try simp only [cn_q] at h243
        refine k_RAro 4194304 (by decide) q243 [] rfl (by intro q hq; simp only [List.mem_cons, List.mem_nil_iff, or_false] at hq; subst hq <;> (simp only [cn_z] at *; omega)) (by simp) fun p244 q244 e244 h244 y244 z244 => ?_
        refine k_eql_span_t ⟨congrArg cn (by subst_vars; simp only [cn_q, Rat.intCast_zero, Rat.add_zero]; rfl), congrArg cn (by subst_vars; simp only [cn_q, Rat.intCast_zero, Rat.add_zero]; rfl)⟩ ?_
        refine k_sAdd (by omega) (by omega) (by omega) (by omega) fun p246 q246 e246 h246 y246 z246 => ?_
        try simp only [cn_q] at e246 h246
        refine k_EndsAdd (by omega) (by omega) (by omega) (by omega) fun p247 q247 e247 h247 y247 z247 => ?_
        try simp only [cn_q] at e247 h247
        refine k_eql_span_t ⟨congrArg cn (by subst_vars; rfl), congrArg cn (by subst_vars; rfl)⟩ ?_
        refine k_sSub (by omega) (by omega) (by omega) (by omega) fun p249 q249 e249 h249 y249 z249 => ?_
        try simp only [cn_q] at e249 h249
        refine k_EndsSub (by omega) (by omega) (by omega) (by omega) fun p250 q250 e250 h250 y250 z250 => ?_
        try simp only [cn_q] at e250 h250
        refine k_eql_span_t ⟨congrArg cn (by subst_vars; rfl), congrArg cn (by subst_vars; rfl)⟩ ?_
        refine k_sJoin (by omega) (by omega) (by omega) (by omega) fun p252 q252 e252 h252 y252 z252 => ?_
        try simp only [cn_q] at e252 h252
        refine k_RAro 4194304 (by decide) p1 [q1, p2, q2] rfl (by intro q hq; simp only [List.mem_cons, List.mem_nil_iff, or_false] at hq; rcases hq with rfl | rfl | rfl | rfl <;> (simp only [cn_z] at *; omega)) (by simp) fun p253 q253 e253 h253 y253 z253 => ?_
        refine k_eql_span_t ⟨congrArg cn (by subst_vars; exact (low_join (slo_le _ _) (slo_le _ _)).symm), congrArg cn (by subst_vars; exact (high_join (slo_le _ _) (slo_le _ _)).symm)⟩ ?_
        refine k_sHas (by omega) (by omega) (by omega) fun b255 h255 => ?_
        refine k_RIn (by omega) (by omega) (by omega) fun b256 h256 => ?_
        refine k_eql_bool_t (by subst_vars; simp only [cn_q]) ?_
        refine k_sMeet (by omega) (by omega) (by omega) (by omega) fun b258 h258 => ?_
        refine k_eql_bool_t (by subst_vars; simp only [cn_q] at hi ⊢; first | exact meet_t (slo_le _ _) hi | exact meet_f (slo_le _ _) hi) ?_
        refine ⟨by kernel_rfl, ?_⟩
        exact rfl
      · have hi := i238
        refine k_RIn (by omega) (by omega) (by omega) fun b260 h260 => ?_
        refine k_sGood (by omega) (by omega) fun b261 h261 => ?_
        refine k_eql_bool_t (by subst_vars; first | exact decide_eq_decide.2 ⟨fun h => (cmp_le _ _).2 h.2.2, fun h => ⟨by assumption, by assumption, (cmp_le _ _).1 h⟩⟩ | exact decide_eq_false fun h => absurd h.1 (by assumption) | exact decide_eq_false fun h => absurd h.2.1 (by assumption)) ?_
        refine k_sOf (by omega) fun q263 h263 z263 => ?_
        try simp only [cn_q] at h263
        refine k_I (0) (by omega) (by omega) fun q264 h264 z264 => ?_
        refine k_add (by omega) (by omega) fun q265 h265 z265 => ?_
        try simp only [cn_q] at h265
        refine k_RAro 4194304 (by decide) q265 [] rfl (by intro q hq; simp only [List.mem_cons, List.mem_nil_iff, or_false] at hq; subst hq <;> (simp only [cn_z] at *; omega)) (by simp) fun p266 q266 e266 h266 y266 z266 => ?_
        refine k_eql_span_t ⟨congrArg cn (by subst_vars; simp only [cn_q, Rat.intCast_zero, Rat.add_zero]; rfl), congrArg cn (by subst_vars; simp only [cn_q, Rat.intCast_zero, Rat.add_zero]; rfl)⟩ ?_
        refine k_sAdd (by omega) (by omega) (by omega) (by omega) fun p268 q268 e268 h268 y268 z268 => ?_
        try simp only [cn_q] at e268 h268
        refine k_EndsAdd (by omega) (by omega) (by omega) (by omega) fun p269 q269 e269 h269 y269 z269 => ?_
        try simp only [cn_q] at e269 h269
        refine k_eql_span_t ⟨congrArg cn (by subst_vars; rfl), congrArg cn (by subst_vars; rfl)⟩ ?_
        refine k_sSub (by omega) (by omega) (by omega) (by omega) fun p271 q271 e271 h271 y271 z271 => ?_
        try simp only [cn_q] at e271 h271
        refine k_EndsSub (by omega) (by omega) (by omega) (by omega) fun p272 q272 e272 h272 y272 z272 => ?_
        try simp only [cn_q] at e272 h272
        refine k_eql_span_t ⟨congrArg cn (by subst_vars; rfl), congrArg cn (by subst_vars; rfl)⟩ ?_
        refine k_sJoin (by omega) (by omega) (by omega) (by omega) fun p274 q274 e274 h274 y274 z274 => ?_
        try simp only [cn_q] at e274 h274
        refine k_RAro 4194304 (by decide) p1 [q1, p2, q2] rfl (by intro q hq; simp only [List.mem_cons, List.mem_nil_iff, or_false] at hq; rcases hq with rfl | rfl | rfl | rfl <;> (simp only [cn_z] at *; omega)) (by simp) fun p275 q275 e275 h275 y275 z275 => ?_
        refine k_eql_span_t ⟨congrArg cn (by subst_vars; exact (low_join (slo_le _ _) (slo_le _ _)).symm), congrArg cn (by subst_vars; exact (high_join (slo_le _ _) (slo_le _ _)).symm)⟩ ?_
        refine k_sHas (by omega) (by omega) (by omega) fun b277 h277 => ?_
        refine k_RIn (by omega) (by omega) (by omega) fun b278 h278 => ?_
        refine k_eql_bool_t (by subst_vars; simp only [cn_q]) ?_
        refine k_sMeet (by omega) (by omega) (by omega) (by omega) fun b280 h280 => ?_
        refine k_eql_bool_t (by subst_vars; simp only [cn_q] at hi ⊢; first | exact meet_t (slo_le _ _) hi | exact meet_f (slo_le _ _) hi) ?_
        refine ⟨by kernel_rfl, ?_⟩
        exact rfl
end
theorem spanAdds_walk (s00 : Bool) (a00 d00 : ByteArray) (s01 : Bool) (a01 d01 : ByteArray) (s10 : Bool) (a10 d10 : ByteArray) (s11 : Bool) (a11 d11 : ByteArray) (s20 : Bool) (a20 d20 : ByteArray) (s30 : Bool) (a30 d30 : ByteArray) (N : Nat) (w : World) (_ : 1 ≤ N) (hN : N ≤ 1048576)
    (k1 : a00.size ≤ N) (k2 : d00.size ≤ N) (k3 : a01.size ≤ N) (k4 : d01.size ≤ N) (k5 : a10.size ≤ N) (k6 : d10.size ≤ N) (k7 : a11.size ≤ N) (k8 : d11.size ≤ N) (k9 : a20.size ≤ N) (k10 : d20.size ≤ N) (k11 : a30.size ≤ N) (k12 : d30.size ≤ N) (hT : Tab w) :
    Calls Tryd.prog 8 #[.agg #[.bool s00, .string a00, .string d00, .bool s01, .string a01, .string d01], .agg #[.bool s10, .string a10, .string d10, .bool s11, .string a11, .string d11], .agg #[.bool s20, .string a20, .string d20], .agg #[.bool s30, .string a30, .string d30]] w fun e w' => e = .returned (.bool true) ∧ Below w.heap.size w w' :=
  have zz : ∀ (s : Bool) (a d : ByteArray), a.size ≤ N → d.size ≤ N → RV.z ⟨s, a, d⟩ ≤ 1048576 := fun s a d h1 h2 => by unfold RV.z; exact Nat.le_trans (Nat.max_le.2 ⟨h1, h2⟩) hN
  calls_of_spec (spanAdds_spec ⟨s00, a00, d00⟩ ⟨s01, a01, d01⟩ ⟨s10, a10, d10⟩ ⟨s11, a11, d11⟩ ⟨s20, a20, d20⟩ ⟨s30, a30, d30⟩ (zz _ _ _ k1 k2) (zz _ _ _ k3 k4) (zz _ _ _ k5 k6) (zz _ _ _ k7 k8) (zz _ _ _ k9 k10) (zz _ _ _ k11 k12)) rfl hT
    (pvl_rel (vs := [pair ⟨s00, a00, d00⟩ ⟨s01, a01, d01⟩, pair ⟨s10, a10, d10⟩ ⟨s11, a11, d11⟩, rat ⟨s20, a20, d20⟩, rat ⟨s30, a30, d30⟩]) rfl)
end Go.Proofs.YtnnffjolkgomhaaDoor.eng
