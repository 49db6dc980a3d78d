/- Contracts: package turn; gantref1's turns. Printed by wip/gen_et.py. -/
import Derived.Test.YtdhpmdkfmgpcmaaDoorEngU
import Derived.Test.YtdhpmdkfmgpcmaaDoorTrq
namespace Go.Proofs.YtdhpmdkfmgpcmaaDoor.eng
open Go.RowKit num mem seg q held ratA ratB ratC ratD ratE vars ratF trq
section
variable {x y : RV} {h g : Bool} {K : AV → Prop}

theorem tq_z (h : Bool) (x : RV) : (cn (tq h x.q)).z ≤ x.z + 8 := by
  rw [cn_z]; unfold tq; split
  · have := qs_i64 (n := 0) (by decide) (by decide); omega
  · have := x.z1; omega
/-- numbers of at most so many bytes: what holds of their sums, products, quotients -/
theorem b_add (p q : Rat) : qs (p + q) ≤ qs p + qs q + 1 := qs_add p q
theorem qs_one : qs ((1 : Int) : Rat) ≤ 8 := qs_i64 (by decide) (by decide)
theorem qs_m1 : qs ((-1 : Int) : Rat) ≤ 8 := qs_i64 (by decide) (by decide)
theorem qs_0 : qs ((0 : Int) : Rat) ≤ 8 := qs_i64 (by decide) (by decide)
theorem qs_2 : qs ((2 : Int) : Rat) ≤ 8 := qs_i64 (by decide) (by decide)
theorem qs_cosq (h : Bool) (p : Rat) : qs (cosq h p) ≤ 4 * qs p + 30 := by
  unfold cosq
  split
  · have := qs_m1; omega
  · have h1 := qs_mul p p
    have h2 := qs_sub ((1 : Int) : Rat) (p * p)
    have h3 := qs_add ((1 : Int) : Rat) (p * p)
    have h4 := qs_div (((1 : Int) : Rat) - p * p) (((1 : Int) : Rat) + p * p)
    have := qs_one
    omega
theorem qs_sinq (p : Rat) : qs (sinq p) ≤ 4 * qs p + 30 := by
  unfold sinq
  have h1 := qs_mul p p
  have h2 := qs_add p p
  have h3 := qs_add ((1 : Int) : Rat) (p * p)
  have h4 := qs_div (p + p) (((1 : Int) : Rat) + p * p)
  have := qs_one
  omega
theorem qs_oppQ (p : Rat) : qs (oppQ p) ≤ qs p + 9 := by
  unfold oppQ
  split
  · have := qs_0; omega
  · have := qs_div ((-1 : Int) : Rat) p; have := qs_m1; omega
def tcmp (h g : Bool) (p q : Rat) : Int := if h then (if g then 0 else 1) else if g then -1 else cmpQ p q
set_option maxRecDepth 100000 in
theorem I_spec (n : Int) (h1 : -9223372036854775808 ≤ n) (h2 : n ≤ 9223372036854775807) : Spec Tryd.prog Tab 27 [int n] (rat (cn (n : Rat))) := by
  refine fn_spec Tryd.func27 rfl rfl Tryd.ntmps27 rfl (by kernel_rfl) rfl rfl ?_
  refine k_of _ (by omega) (by omega) fun q1 h1 z1 => ?_
  refine Eq.trans (b := rat (cn _)) ?_ rfl
  subst_vars; rfl
theorem k_I (n : Int) (h1 : -9223372036854775808 ≤ n) (h2 : n ≤ 9223372036854775807) (k : ∀ q, q = (n : Rat) → (cn q).z ≤ 8 → K (rat (cn q))) : Ask 27 [int n] K :=
  use (I_spec n h1 h2) rfl (k _ rfl (by have := qs_i64 h1 h2; rw [cn_z]; omega))
set_option maxRecDepth 100000 in
theorem plain_spec (x : RV) (hx : x.z ≤ 68719476736) : Spec Tryd.prog Tab 88 [rat x] (rat (cn x.q)) := by
  refine fn_spec Tryd.func88 rfl rfl Tryd.ntmps88 rfl (by kernel_rfl) rfl rfl ?_
  refine k_I (0) (by omega) (by omega) fun q1 h1 z1 => ?_
  refine k_add (by omega) (by omega) fun q2 h2 z2 => ?_
  try simp only [cn_q] at h2
  refine ⟨by kernel_rfl, ?_⟩
  refine Eq.trans (b := rat (cn _)) ?_ rfl
  subst_vars; simp only [Rat.intCast_zero, Rat.add_zero]
theorem k_plain (hx : x.z ≤ 68719476736) (k : ∀ q, q = x.q → (cn q).z ≤ x.z + 1 → K (rat (cn q))) : Ask 88 [rat x] K :=
  use (plain_spec x hx) rfl (k _ rfl (by have := x.z1; rw [cn_z]; omega))
theorem circ_is (p : Rat) : circ false p = ((2 : Int) : Rat) / (((1 : Int) : Rat) + p * p) - ((1 : Int) : Rat) := by unfold circ; simp only [Bool.false_eq_true, if_false, Rat.intCast_zero, Rat.add_zero]
theorem sirc_is (p : Rat) : sirc false p = p * (((2 : Int) : Rat) / (((1 : Int) : Rat) + p * p)) := by unfold sirc; simp only [Bool.false_eq_true, if_false, Rat.intCast_zero, Rat.add_zero]
theorem qs_circ (h : Bool) (p : Rat) : qs (circ h p) ≤ 2 * qs p + 60 := by
  cases h
  · rw [circ_is]
    have h1 := qs_mul p p
    have h3 := qs_add ((1 : Int) : Rat) (p * p)
    have h4 := qs_div ((2 : Int) : Rat) (((1 : Int) : Rat) + p * p)
    have h5 := qs_sub (((2 : Int) : Rat) / (((1 : Int) : Rat) + p * p)) ((1 : Int) : Rat)
    have := qs_one; have := qs_2
    omega
  · have := qs_m1
    show qs ((-1 : Int) : Rat) ≤ _
    omega
theorem qs_sirc (h : Bool) (p : Rat) : qs (sirc h p) ≤ 3 * qs p + 60 := by
  cases h
  · rw [sirc_is]
    have h1 := qs_mul p p
    have h3 := qs_add ((1 : Int) : Rat) (p * p)
    have h4 := qs_div ((2 : Int) : Rat) (((1 : Int) : Rat) + p * p)
    have h5 := qs_mul p (((2 : Int) : Rat) / (((1 : Int) : Rat) + p * p))
    have := qs_one; have := qs_2
    omega
  · have := qs_0
    show qs ((0 : Int) : Rat) ≤ _
    omega
theorem qs_tofQ (p q : Rat) : qs (tofQ p q) ≤ qs p + qs q + 30 := by
  unfold tofQ
  have := qs_0
  split
  · omega
  · have h1 := qs_add ((1 : Int) : Rat) p
    have h2 := qs_div q (((1 : Int) : Rat) + p)
    have := qs_one
    omega
theorem circ_cos (h : Bool) (p : Rat) : circ h p = cosq h p := by
  cases h
  · rw [circ_is]
    show _ = (((1 : Int) : Rat) - p * p) / (((1 : Int) : Rat) + p * p)
    have h0 := one_sq p
    simp only [Rat.intCast_one] at h0 ⊢
    have h2 : ((2 : Int) : Rat) = 1 + 1 := by decide +kernel
    rw [h2]
    grind
  · rfl
theorem sirc_sin (h : Bool) (p : Rat) : sirc h p = sinq (tq h p) := by
  cases h
  · rw [sirc_is]
    show _ = (p + p) / (((1 : Int) : Rat) + p * p)
    have h0 := one_sq p
    simp only [Rat.intCast_one] at h0 ⊢
    have h2 : ((2 : Int) : Rat) = 1 + 1 := by decide +kernel
    rw [h2]
    grind
  · exact sin_zero.symm
theorem qs_thnQ (h g : Bool) (p q : Rat) : qs (thnQ h g p q) ≤ 2 * qs p + 2 * qs q + 30 := by
  unfold thnQ
  have := qs_0
  have := qs_oppQ p
  have := qs_oppQ q
  have h1 := qs_mul p q
  have h2 := qs_sub ((1 : Int) : Rat) (p * q)
  have h3 := qs_add p q
  have h4 := qs_div (p + q) (((1 : Int) : Rat) - p * q)
  have := qs_one
  split
  · split <;> omega
  · split
    · omega
    · split <;> omega
theorem rMake_spec (n m : Int) (h1 : -9223372036854775808 ≤ n) (h2 : n ≤ 9223372036854775807) (h3 : -9223372036854775808 ≤ m) (h4 : m ≤ 9223372036854775807) : Spec Tryd.prog Tab 92 [int n, int m] (two (rat (quotR (n : Rat) (m : Rat))) (int (quotE (m : Rat)))) := by
  refine spec_calls (enters_of Tryd.func92 rfl rfl) rfl rfl fun w hT => ?_
  refine (rMake_any n m w h1 h2 h3 h4 hT).mono fun e w' ⟨u, c, f, k, he, hi, hb⟩ => ?_
  refine ⟨he.trans ?_, hb⟩
  rcases hi with ⟨h5, rfl, rfl, rfl, rfl⟩ | ⟨h5, rfl, hi⟩
  · simp only [quotR, quotE, if_pos h5, z0]
  · obtain ⟨rfl, rfl, rfl⟩ := is_cn hi
    simp only [quotR, quotE, if_neg h5]
theorem k_make (n m : Int) (h1 : -9223372036854775808 ≤ n) (h2 : n ≤ 9223372036854775807) (h3 : -9223372036854775808 ≤ m) (h4 : m ≤ 9223372036854775807) (h0 : (m : Rat) ≠ 0) (k : ∀ q, q = (n : Rat) / (m : Rat) → (cn q).z ≤ 17 → K (two (rat (cn q)) (int 0))) : Ask 92 [int n, int m] K :=
  use (by have := rMake_spec n m h1 h2 h3 h4; simp only [quotR, quotE, if_neg h0] at this; exact this) rfl (k _ rfl (by have := qs_div (n : Rat) (m : Rat); have := qs_i64 h1 h2; have := qs_i64 h3 h4; rw [cn_z]; omega))
theorem ratBegun_spec : Spec Tryd.prog Tab 46 [] (bool true) :=
  spec_calls (enters_of Tryd.func46 rfl rfl) rfl rfl fun w hT => ratBegun_any w hT
theorem k_ratBegun (K1 : K (bool true)) : Ask 46 [] K := use ratBegun_spec rfl K1
set_option maxRecDepth 100000 in
theorem num_spec (n m : Int) (h1 : -9223372036854775808 ≤ n) (h2 : n ≤ 9223372036854775807) (h3 : -9223372036854775808 ≤ m) (h4 : m ≤ 9223372036854775807) (hm : (m : Rat) ≠ 0) : Spec Tryd.prog Tab 60 [int n, int m] (rat (cn ((n : Rat) / (m : Rat)))) := by
  refine fn_spec Tryd.func60 rfl rfl Tryd.ntmps60 rfl (by kernel_rfl) rfl rfl ?_
  refine k_make _ _ (by omega) (by omega) (by omega) (by omega) hm fun q1 h1 z1 => ?_
  refine Eq.trans (b := rat (cn _)) ?_ rfl
  subst_vars; rfl
theorem k_num (n m : Int) (h1 : -9223372036854775808 ≤ n) (h2 : n ≤ 9223372036854775807) (h3 : -9223372036854775808 ≤ m) (h4 : m ≤ 9223372036854775807) (h0 : (m : Rat) ≠ 0) (k : ∀ q, q = (n : Rat) / (m : Rat) → (cn q).z ≤ 17 → K (rat (cn q))) : Ask 60 [int n, int m] K :=
  use (num_spec n m h1 h2 h3 h4 h0) rfl (k _ rfl (by have := qs_div (n : Rat) (m : Rat); have := qs_i64 h1 h2; have := qs_i64 h3 h4; rw [cn_z]; omega))
theorem z0_q : z0.q = 0 := by
  have : ¬ q.good false ⟨#[]⟩ ⟨#[]⟩ := by decide +kernel
  show qv false ⟨#[]⟩ ⟨#[]⟩ = 0
  unfold qv
  rw [if_neg this]
theorem z0_z : z0.z = 0 := rfl
end
end Go.Proofs.YtdhpmdkfmgpcmaaDoor.eng
