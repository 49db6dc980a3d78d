/- Contracts: package turn; gantref1's turns. Printed by wip/gen_et.py. -/
import Derived.Test.YtnnffjolkgomhaaDoorEngU
import Derived.Test.YtnnffjolkgomhaaDoorTrq
namespace Go.Proofs.YtnnffjolkgomhaaDoor.eng
open Go.RowKit num mem seg q held ratA ratB ratC ratD ratE vars ratF trq
section
variable {x y : RV} {h g : Bool} {K : AV → Prop}

set_option maxRecDepth 100000 in
theorem tOf_spec (x : RV) (hx : x.z ≤ 4398046511104) : Spec Tryd.prog Tab 45 [rat x] (turn false (cn x.q)) := by
  refine fn_spec Tryd.func45 rfl rfl Tryd.ntmps45 rfl (by kernel_rfl) rfl rfl ?_
  refine k_same (by omega) fun q1 h1 z1 => ?_
  try simp only [cn_q] at h1
  refine Eq.trans (b := turn false (cn _)) ?_ rfl
  rw [h1]
theorem k_tOf (hx : x.z ≤ 4398046511104) (k : ∀ q, q = x.q → (cn q).z ≤ x.z + 1 → K (turn false (cn q))) : Ask 45 [rat x] K :=
  use (tOf_spec x hx) rfl (k _ rfl (by have := x.z1; rw [cn_z]; omega))
set_option maxRecDepth 100000 in
theorem tHalf_spec  : Spec Tryd.prog Tab 141 [] (turn true (cn ((0 : Int) : Rat))) := by
  refine fn_spec Tryd.func141 rfl rfl Tryd.ntmps141 rfl (by kernel_rfl) rfl rfl ?_
  refine k_of (0) (by omega) (by omega) fun q1 h1 z1 => ?_
  refine Eq.trans (b := turn true (cn _)) ?_ rfl
  rw [h1]
theorem k_tHalf (k : ∀ q, q = ((0 : Int) : Rat) → (cn q).z ≤ 8 → K (turn true (cn q))) : Ask 141 [] K :=
  use tHalf_spec rfl (k _ rfl (by have := qs_i64 (n := 0) (by decide) (by decide); rw [cn_z]; omega))
set_option maxRecDepth 100000 in
theorem tFit_spec (h : Bool) (x : RV) (hx : x.z ≤ 4398046511104) : Spec Tryd.prog Tab 139 [turn h x] (turn h (cn (tq h x.q))) := by
  refine fn_spec Tryd.func139 rfl rfl Tryd.ntmps139 rfl (by kernel_rfl) rfl rfl ?_
  refine ⟨fun e1 => ?_, fun e1 => ?_⟩
  · subst e1
    refine k_tHalf fun q2 h2 z2 => ?_
    refine Eq.trans (b := turn _ (cn _)) ?_ rfl
    subst_vars; rfl
  · subst e1
    refine k_tOf (by omega) fun q3 h3 z3 => ?_
    try simp only [cn_q] at h3
    refine Eq.trans (b := turn _ (cn _)) ?_ rfl
    subst_vars; rfl
theorem tq_z (h : Bool) (x : RV) : (cn (tq h x.q)).z ≤ x.z + 8 := by
  rw [cn_z]; unfold tq; split
  · have := qs_i64 (n := 0) (by decide) (by decide); omega
  · have := x.z1; omega
theorem k_tFit (hx : x.z ≤ 4398046511104) (k : ∀ q, q = tq h x.q → (cn q).z ≤ x.z + 8 → K (turn h (cn q))) : Ask 139 [turn h x] K :=
  use (tFit_spec h x hx) rfl (k _ rfl (tq_z h x))
/-- numbers of at most so many bytes: what holds of their sums, products, quotients -/
theorem b_add (p q : Rat) : qs (p + q) ≤ qs p + qs q + 1 := qs_add p q
set_option maxRecDepth 100000 in
theorem tCos_spec (h : Bool) (x : RV) (hx : x.z ≤ 68719476736) : Spec Tryd.prog Tab 47 [turn h x] (rat (cn (cosq h x.q))) := by
  refine fn_spec Tryd.func47 rfl rfl Tryd.ntmps47 rfl (by kernel_rfl) rfl rfl ?_
  refine k_tFit (by omega) fun q1 h1 z1 => ?_
  try simp only [cn_q] at h1
  refine ⟨fun e2 => ?_, fun e2 => ?_⟩
  · subst e2
    refine k_of (-1) (by omega) (by omega) fun q3 h3 z3 => ?_
    refine Eq.trans (b := rat (cn _)) ?_ rfl
    subst_vars; rfl
  · subst e2
    refine k_mul (by omega) (by omega) fun q4 h4 z4 => ?_
    try simp only [cn_q] at h4
    refine k_of (1) (by omega) (by omega) fun q5 h5 z5 => ?_
    refine k_sub (by omega) (by omega) fun q6 h6 z6 => ?_
    try simp only [cn_q] at h6
    refine k_of (1) (by omega) (by omega) fun q7 h7 z7 => ?_
    refine k_add (by omega) (by omega) fun q8 h8 z8 => ?_
    try simp only [cn_q] at h8
    refine k_div (by omega) (by omega) (by subst_vars; simp only [cn_q]; exact one_sq _) fun q9 h9 z9 => ?_
    try simp only [cn_q] at h9
    refine ⟨by kernel_rfl, ?_⟩
    refine Eq.trans (b := rat (cn _)) ?_ rfl
    subst_vars; rfl
set_option maxRecDepth 100000 in
theorem tSin_spec (h : Bool) (x : RV) (hx : x.z ≤ 68719476736) : Spec Tryd.prog Tab 48 [turn h x] (rat (cn (sinq (tq h x.q)))) := by
  refine fn_spec Tryd.func48 rfl rfl Tryd.ntmps48 rfl (by kernel_rfl) rfl rfl ?_
  refine k_tFit (by omega) fun q1 h1 z1 => ?_
  try simp only [cn_q] at h1
  refine k_add (by omega) (by omega) fun q2 h2 z2 => ?_
  try simp only [cn_q] at h2
  refine k_of (1) (by omega) (by omega) fun q3 h3 z3 => ?_
  refine k_mul (by omega) (by omega) fun q4 h4 z4 => ?_
  try simp only [cn_q] at h4
  refine k_add (by omega) (by omega) fun q5 h5 z5 => ?_
  try simp only [cn_q] at h5
  refine k_div (by omega) (by omega) (by subst_vars; simp only [cn_q]; exact one_sq _) fun q6 h6 z6 => ?_
  try simp only [cn_q] at h6
  refine ⟨by kernel_rfl, ?_⟩
  refine Eq.trans (b := rat (cn _)) ?_ rfl
  subst_vars; rfl
theorem qs_one : qs ((1 : Int) : Rat) ≤ 8 := qs_i64 (by decide) (by decide)
theorem qs_m1 : qs ((-1 : Int) : Rat) ≤ 8 := qs_i64 (by decide) (by decide)
theorem qs_0 : qs ((0 : Int) : Rat) ≤ 8 := qs_i64 (by decide) (by decide)
theorem qs_2 : qs ((2 : Int) : Rat) ≤ 8 := qs_i64 (by decide) (by decide)
theorem qs_cosq (h : Bool) (p : Rat) : qs (cosq h p) ≤ 4 * qs p + 30 := by
  unfold cosq
  split
  · have := qs_m1; omega
  · have h1 := qs_mul p p
    have h2 := qs_sub ((1 : Int) : Rat) (p * p)
    have h3 := qs_add ((1 : Int) : Rat) (p * p)
    have h4 := qs_div (((1 : Int) : Rat) - p * p) (((1 : Int) : Rat) + p * p)
    have := qs_one
    omega
theorem qs_sinq (p : Rat) : qs (sinq p) ≤ 4 * qs p + 30 := by
  unfold sinq
  have h1 := qs_mul p p
  have h2 := qs_add p p
  have h3 := qs_add ((1 : Int) : Rat) (p * p)
  have h4 := qs_div (p + p) (((1 : Int) : Rat) + p * p)
  have := qs_one
  omega
theorem k_tCos (hx : x.z ≤ 68719476736) (k : ∀ q, q = cosq h x.q → (cn q).z ≤ 4 * x.z + 34 → K (rat (cn q))) : Ask 47 [turn h x] K :=
  use (tCos_spec h x hx) rfl (k _ rfl (by have := qs_cosq h x.q; have := x.z1; rw [cn_z]; omega))
theorem k_tSin (hx : x.z ≤ 68719476736) (k : ∀ q, q = sinq (tq h x.q) → (cn q).z ≤ 4 * x.z + 70 → K (rat (cn q))) : Ask 48 [turn h x] K :=
  use (tSin_spec h x hx) rfl (k _ rfl (by have h1 := qs_sinq (tq h x.q); have h2 := tq_z h x; rw [cn_z] at h2 ⊢; omega))
set_option maxRecDepth 100000 in
theorem tOpp_spec (h : Bool) (x : RV) (hx : x.z ≤ 68719476736) : Spec Tryd.prog Tab 140 [turn h x] (turn (oppH x.q) (cn (oppQ x.q))) := by
  refine fn_spec Tryd.func140 rfl rfl Tryd.ntmps140 rfl (by kernel_rfl) rfl rfl ?_
  refine k_of (-1) (by omega) (by omega) fun q1 h1 z1 => ?_
  refine k_div_c (by omega) (by omega) (fun gn q2 h2 z2 => ?_) (fun gz => ?_)
  · try simp only [cn_q] at gn h2
    refine ⟨by kernel_rfl, ?_⟩
    refine ⟨fun e => by simp at e, fun _ => ?_⟩
    refine k_tOf (by omega) fun q3 h3 z3 => ?_
    try simp only [cn_q] at h3
    refine Eq.trans (b := turn _ (cn _)) ?_ rfl
    unfold oppH oppQ
    first
      | (rw [decide_eq_true (Decidable.not_not.1 gz), if_pos (Decidable.not_not.1 gz)]; subst_vars; rfl)
      | (rw [decide_eq_false gn, if_neg gn]; subst_vars; rfl)
  · try simp only [cn_q] at gz
    refine ⟨by kernel_rfl, ?_⟩
    refine ⟨fun _ => ?_, fun e => by simp at e⟩
    refine k_tHalf fun q4 h4 z4 => ?_
    refine Eq.trans (b := turn _ (cn _)) ?_ rfl
    unfold oppH oppQ
    first
      | (rw [decide_eq_true (Decidable.not_not.1 gz), if_pos (Decidable.not_not.1 gz)]; subst_vars; rfl)
      | (rw [decide_eq_false gn, if_neg gn]; subst_vars; rfl)
theorem qs_oppQ (p : Rat) : qs (oppQ p) ≤ qs p + 9 := by
  unfold oppQ
  split
  · have := qs_0; omega
  · have := qs_div ((-1 : Int) : Rat) p; have := qs_m1; omega
theorem k_tOpp (hx : x.z ≤ 68719476736) (k : ∀ b q, b = oppH x.q → q = oppQ x.q → (cn q).z ≤ x.z + 10 → K (turn b (cn q))) : Ask 140 [turn h x] K :=
  use (tOpp_spec h x hx) rfl (k _ _ rfl rfl (by have := qs_oppQ x.q; have := x.z1; rw [cn_z]; omega))
set_option maxRecDepth 100000 in
theorem tThen_spec (h g : Bool) (x y : RV) (hx : x.z ≤ 17179869184) (hy : y.z ≤ 17179869184) : Spec Tryd.prog Tab 50 [turn h x, turn g y] (turn (thnH h g x.q y.q) (cn (thnQ h g x.q y.q))) := by
  cases h <;> cases g
  · refine fn_spec Tryd.func50 rfl rfl Tryd.ntmps50 rfl (by kernel_rfl) rfl rfl ?_
    refine k_tFit (by omega) fun q1 h1 z1 => ?_
    try simp only [cn_q] at h1
    refine k_tFit (by omega) fun q2 h2 z2 => ?_
    try simp only [cn_q] at h2
    refine ⟨by kernel_rfl, ?_⟩
    refine ⟨fun e => by simp at e, fun _ => ?_⟩
    refine ⟨fun e => by simp at e, fun _ => ?_⟩
    refine ⟨fun e => by simp at e, fun _ => ?_⟩
    refine k_add (by omega) (by omega) fun q3 h3 z3 => ?_
    try simp only [cn_q] at h3
    refine k_of (1) (by omega) (by omega) fun q4 h4 z4 => ?_
    refine k_mul (by omega) (by omega) fun q5 h5 z5 => ?_
    try simp only [cn_q] at h5
    refine k_sub (by omega) (by omega) fun q6 h6 z6 => ?_
    try simp only [cn_q] at h6
    refine k_div_c (by omega) (by omega) (fun gn q7 h7 z7 => ?_) (fun gz => ?_)
    · try simp only [cn_q] at gn h7
      refine ⟨by kernel_rfl, ?_⟩
      refine ⟨fun e => by simp at e, fun _ => ?_⟩
      refine k_tOf (by omega) fun q8 h8 z8 => ?_
      try simp only [cn_q] at h8
      refine Eq.trans (b := turn _ (cn _)) ?_ rfl
      unfold thnH thnQ
      simp only [Bool.false_eq_true, if_false]
      first
        | (rw [decide_eq_true (by subst_vars; exact Decidable.not_not.1 gz), if_pos (by subst_vars; exact Decidable.not_not.1 gz)]; subst_vars; rfl)
        | (rw [decide_eq_false (by subst_vars; exact gn), if_neg (by subst_vars; exact gn)]; subst_vars; rfl)
    · try simp only [cn_q] at gz
      refine ⟨by kernel_rfl, ?_⟩
      refine ⟨fun _ => ?_, fun e => by simp at e⟩
      refine k_tHalf fun q9 h9 z9 => ?_
      refine Eq.trans (b := turn _ (cn _)) ?_ rfl
      unfold thnH thnQ
      simp only [Bool.false_eq_true, if_false]
      first
        | (rw [decide_eq_true (by subst_vars; exact Decidable.not_not.1 gz), if_pos (by subst_vars; exact Decidable.not_not.1 gz)]; subst_vars; rfl)
        | (rw [decide_eq_false (by subst_vars; exact gn), if_neg (by subst_vars; exact gn)]; subst_vars; rfl)
  · refine fn_spec Tryd.func50 rfl rfl Tryd.ntmps50 rfl (by kernel_rfl) rfl rfl ?_
    refine k_tFit (by omega) fun q1 h1 z1 => ?_
    try simp only [cn_q] at h1
    refine k_tFit (by omega) fun q2 h2 z2 => ?_
    try simp only [cn_q] at h2
    refine ⟨by kernel_rfl, ?_⟩
    refine ⟨fun e => by simp at e, fun _ => ?_⟩
    refine ⟨fun e => by simp at e, fun _ => ?_⟩
    refine ⟨fun _ => ?_, fun e => by simp at e⟩
    refine k_tOpp (by omega) fun b3 q3 e3 h3 z3 => ?_
    try simp only [cn_q] at e3 h3
    refine Eq.trans (b := turn _ (cn _)) ?_ rfl
    subst_vars; rfl
  · refine fn_spec Tryd.func50 rfl rfl Tryd.ntmps50 rfl (by kernel_rfl) rfl rfl ?_
    refine k_tFit (by omega) fun q1 h1 z1 => ?_
    try simp only [cn_q] at h1
    refine k_tFit (by omega) fun q2 h2 z2 => ?_
    try simp only [cn_q] at h2
    refine ⟨by kernel_rfl, ?_⟩
    refine ⟨fun e => by simp at e, fun _ => ?_⟩
    refine ⟨fun _ => ?_, fun e => by simp at e⟩
    refine k_tOpp (by omega) fun b3 q3 e3 h3 z3 => ?_
    try simp only [cn_q] at e3 h3
    refine Eq.trans (b := turn _ (cn _)) ?_ rfl
    subst_vars; rfl
  · refine fn_spec Tryd.func50 rfl rfl Tryd.ntmps50 rfl (by kernel_rfl) rfl rfl ?_
    refine k_tFit (by omega) fun q1 h1 z1 => ?_
    try simp only [cn_q] at h1
    refine k_tFit (by omega) fun q2 h2 z2 => ?_
    try simp only [cn_q] at h2
    refine ⟨by kernel_rfl, ?_⟩
    refine ⟨fun _ => ?_, fun e => by simp at e⟩
    refine k_of (0) (by omega) (by omega) fun q3 h3 z3 => ?_
    refine k_tOf (by omega) fun q4 h4 z4 => ?_
    try simp only [cn_q] at h4
    refine Eq.trans (b := turn _ (cn _)) ?_ rfl
    subst_vars; rfl
set_option maxRecDepth 100000 in
theorem tBack_spec (h : Bool) (x : RV) (hx : x.z ≤ 68719476736) : Spec Tryd.prog Tab 51 [turn h x] (turn h (cn (-tq h x.q))) := by
  refine fn_spec Tryd.func51 rfl rfl Tryd.ntmps51 rfl (by kernel_rfl) rfl rfl ?_
  refine k_tFit (by omega) fun q1 h1 z1 => ?_
  try simp only [cn_q] at h1
  refine k_neg (by omega) fun q2 h2 z2 => ?_
  try simp only [cn_q] at h2
  refine Eq.trans (b := turn _ (cn _)) ?_ rfl
  subst_vars; rfl
def tcmp (h g : Bool) (p q : Rat) : Int := if h then (if g then 0 else 1) else if g then -1 else cmpQ p q
set_option maxRecDepth 100000 in
theorem tCmp_spec (h g : Bool) (x y : RV) (hx : x.z ≤ 17179869184) (hy : y.z ≤ 17179869184) : Spec Tryd.prog Tab 52 [turn h x, turn g y] (int (tcmp h g x.q y.q)) := by
  cases h <;> cases g
  · refine fn_spec Tryd.func52 rfl rfl Tryd.ntmps52 rfl (by kernel_rfl) rfl rfl ?_
    refine k_tFit (by omega) fun q1 h1 z1 => ?_
    try simp only [cn_q] at h1
    refine k_tFit (by omega) fun q2 h2 z2 => ?_
    try simp only [cn_q] at h2
    refine ⟨by kernel_rfl, ?_⟩
    refine ⟨fun e => by simp at e, fun _ => ?_⟩
    refine ⟨fun e => by simp at e, fun _ => ?_⟩
    refine ⟨fun e => by simp at e, fun _ => ?_⟩
    refine k_cmp (by omega) (by omega) fun n3 h3 => ?_
    try simp only [cn_q] at h3
    refine Eq.trans (b := int _) ?_ rfl
    subst_vars; rfl
  · refine fn_spec Tryd.func52 rfl rfl Tryd.ntmps52 rfl (by kernel_rfl) rfl rfl ?_
    refine k_tFit (by omega) fun q1 h1 z1 => ?_
    try simp only [cn_q] at h1
    refine k_tFit (by omega) fun q2 h2 z2 => ?_
    try simp only [cn_q] at h2
    refine ⟨by kernel_rfl, ?_⟩
    refine ⟨fun e => by simp at e, fun _ => ?_⟩
    refine ⟨fun e => by simp at e, fun _ => ?_⟩
    refine ⟨fun _ => ?_, fun e => by simp at e⟩
    refine Eq.trans (b := int _) ?_ rfl
    subst_vars; rfl
  · refine fn_spec Tryd.func52 rfl rfl Tryd.ntmps52 rfl (by kernel_rfl) rfl rfl ?_
    refine k_tFit (by omega) fun q1 h1 z1 => ?_
    try simp only [cn_q] at h1
    refine k_tFit (by omega) fun q2 h2 z2 => ?_
    try simp only [cn_q] at h2
    refine ⟨by kernel_rfl, ?_⟩
    refine ⟨fun e => by simp at e, fun _ => ?_⟩
    refine ⟨fun _ => ?_, fun e => by simp at e⟩
    refine Eq.trans (b := int _) ?_ rfl
    subst_vars; rfl
  · refine fn_spec Tryd.func52 rfl rfl Tryd.ntmps52 rfl (by kernel_rfl) rfl rfl ?_
    refine k_tFit (by omega) fun q1 h1 z1 => ?_
    try simp only [cn_q] at h1
    refine k_tFit (by omega) fun q2 h2 z2 => ?_
    try simp only [cn_q] at h2
    refine ⟨by kernel_rfl, ?_⟩
    refine ⟨fun _ => ?_, fun e => by simp at e⟩
    refine Eq.trans (b := int _) ?_ rfl
    subst_vars; rfl
set_option maxRecDepth 100000 in
theorem I_spec (n : Int) (h1 : -9223372036854775808 ≤ n) (h2 : n ≤ 9223372036854775807) : Spec Tryd.prog Tab 33 [int n] (rat (cn (n : Rat))) := by
  refine fn_spec Tryd.func33 rfl rfl Tryd.ntmps33 rfl (by kernel_rfl) rfl rfl ?_
  refine k_of _ (by omega) (by omega) fun q1 h1 z1 => ?_
  refine Eq.trans (b := rat (cn _)) ?_ rfl
  subst_vars; rfl
theorem k_I (n : Int) (h1 : -9223372036854775808 ≤ n) (h2 : n ≤ 9223372036854775807) (k : ∀ q, q = (n : Rat) → (cn q).z ≤ 8 → K (rat (cn q))) : Ask 33 [int n] K :=
  use (I_spec n h1 h2) rfl (k _ rfl (by have := qs_i64 h1 h2; rw [cn_z]; omega))
set_option maxRecDepth 100000 in
theorem plain_spec (x : RV) (hx : x.z ≤ 68719476736) : Spec Tryd.prog Tab 133 [rat x] (rat (cn x.q)) := by
  refine fn_spec Tryd.func133 rfl rfl Tryd.ntmps133 rfl (by kernel_rfl) rfl rfl ?_
  refine k_I (0) (by omega) (by omega) fun q1 h1 z1 => ?_
  refine k_add (by omega) (by omega) fun q2 h2 z2 => ?_
  try simp only [cn_q] at h2
  refine ⟨by kernel_rfl, ?_⟩
  refine Eq.trans (b := rat (cn _)) ?_ rfl
  subst_vars; simp only [Rat.intCast_zero, Rat.add_zero]
theorem k_plain (hx : x.z ≤ 68719476736) (k : ∀ q, q = x.q → (cn q).z ≤ x.z + 1 → K (rat (cn q))) : Ask 133 [rat x] K :=
  use (plain_spec x hx) rfl (k _ rfl (by have := x.z1; rw [cn_z]; omega))
theorem circ_is (p : Rat) : circ false p = ((2 : Int) : Rat) / (((1 : Int) : Rat) + p * p) - ((1 : Int) : Rat) := by unfold circ; simp only [Bool.false_eq_true, if_false, Rat.intCast_zero, Rat.add_zero]
theorem sirc_is (p : Rat) : sirc false p = p * (((2 : Int) : Rat) / (((1 : Int) : Rat) + p * p)) := by unfold sirc; simp only [Bool.false_eq_true, if_false, Rat.intCast_zero, Rat.add_zero]
theorem qs_circ (h : Bool) (p : Rat) : qs (circ h p) ≤ 2 * qs p + 60 := by
  cases h
  · rw [circ_is]
    have h1 := qs_mul p p
    have h3 := qs_add ((1 : Int) : Rat) (p * p)
    have h4 := qs_div ((2 : Int) : Rat) (((1 : Int) : Rat) + p * p)
    have h5 := qs_sub (((2 : Int) : Rat) / (((1 : Int) : Rat) + p * p)) ((1 : Int) : Rat)
    have := qs_one; have := qs_2
    omega
  · have := qs_m1
    show qs ((-1 : Int) : Rat) ≤ _
    omega
theorem qs_sirc (h : Bool) (p : Rat) : qs (sirc h p) ≤ 3 * qs p + 60 := by
  cases h
  · rw [sirc_is]
    have h1 := qs_mul p p
    have h3 := qs_add ((1 : Int) : Rat) (p * p)
    have h4 := qs_div ((2 : Int) : Rat) (((1 : Int) : Rat) + p * p)
    have h5 := qs_mul p (((2 : Int) : Rat) / (((1 : Int) : Rat) + p * p))
    have := qs_one; have := qs_2
    omega
  · have := qs_0
    show qs ((0 : Int) : Rat) ≤ _
    omega
set_option maxRecDepth 100000 in
theorem RCircle_spec (h : Bool) (x : RV) (hx : x.z ≤ 68719476736) : Spec Tryd.prog Tab 40 [turn h x] (two (rat (cn (circ h x.q))) (rat (cn (sirc h x.q)))) := by
  refine fn_spec Tryd.func40 rfl rfl Tryd.ntmps40 rfl (by kernel_rfl) rfl rfl ?_
  refine ⟨fun e1 => ?_, fun e1 => ?_⟩
  · subst e1
    refine k_I (-1) (by omega) (by omega) fun q2 h2 z2 => ?_
    refine k_I (0) (by omega) (by omega) fun q3 h3 z3 => ?_
    refine Eq.trans (b := two (rat (cn _)) (rat (cn _))) ?_ rfl
    first
      | (subst_vars; rfl)
      | (rw [circ_is, sirc_is]; subst_vars; rfl)
  · subst e1
    refine k_plain (by omega) fun q4 h4 z4 => ?_
    try simp only [cn_q] at h4
    refine k_I (2) (by omega) (by omega) fun q5 h5 z5 => ?_
    refine k_I (1) (by omega) (by omega) fun q6 h6 z6 => ?_
    refine k_mul (by omega) (by omega) fun q7 h7 z7 => ?_
    try simp only [cn_q] at h7
    refine k_add (by omega) (by omega) fun q8 h8 z8 => ?_
    try simp only [cn_q] at h8
    refine k_div (by omega) (by omega) (by subst_vars; simp only [cn_q]; exact one_sq _) fun q9 h9 z9 => ?_
    try simp only [cn_q] at h9
    refine ⟨by kernel_rfl, ?_⟩
    refine k_I (1) (by omega) (by omega) fun q10 h10 z10 => ?_
    refine k_sub (by omega) (by omega) fun q11 h11 z11 => ?_
    try simp only [cn_q] at h11
    refine k_mul (by omega) (by omega) fun q12 h12 z12 => ?_
    try simp only [cn_q] at h12
    refine ⟨by kernel_rfl, ?_⟩
    refine Eq.trans (b := two (rat (cn _)) (rat (cn _))) ?_ rfl
    first
      | (subst_vars; rfl)
      | (rw [circ_is, sirc_is]; subst_vars; rfl)
theorem k_RCircle (hx : x.z ≤ 68719476736) (k : ∀ p q, p = circ h x.q → q = sirc h x.q → (cn p).z ≤ 2 * x.z + 62 → (cn q).z ≤ 3 * x.z + 63 → K (two (rat (cn p)) (rat (cn q)))) : Ask 40 [turn h x] K :=
  use (RCircle_spec h x hx) rfl (k _ _ rfl rfl (by have := qs_circ h x.q; have := x.z1; rw [cn_z]; omega) (by have := qs_sirc h x.q; have := x.z1; rw [cn_z]; omega))
set_option maxRecDepth 100000 in
theorem RTurnOf_spec (x y : RV) (hx : x.z ≤ 17179869184) (hy : y.z ≤ 17179869184) : Spec Tryd.prog Tab 41 [rat x, rat y] (turn (tofH x.q) (cn (tofQ x.q y.q))) := by
  refine fn_spec Tryd.func41 rfl rfl Tryd.ntmps41 rfl (by kernel_rfl) rfl rfl ?_
  refine k_I (1) (by omega) (by omega) fun q1 h1 z1 => ?_
  refine k_add (by omega) (by omega) fun q2 h2 z2 => ?_
  try simp only [cn_q] at h2
  refine k_div_c (by omega) (by omega) (fun gn q3 h3 z3 => ?_) (fun gz => ?_)
  · try simp only [cn_q] at gn h3
    refine ⟨by kernel_rfl, ?_⟩
    refine ⟨fun e => by simp at e, fun _ => ?_⟩
    refine Eq.trans (b := turn _ (cn _)) ?_ rfl
    unfold tofH tofQ
    first
      | (rw [decide_eq_true (by subst_vars; exact Decidable.not_not.1 gz), if_pos (by subst_vars; exact Decidable.not_not.1 gz)]; subst_vars; rfl)
      | (rw [decide_eq_false (by subst_vars; exact gn), if_neg (by subst_vars; exact gn)]; subst_vars; rfl)
  · try simp only [cn_q] at gz
    refine ⟨by kernel_rfl, ?_⟩
    refine ⟨fun _ => ?_, fun e => by simp at e⟩
    refine k_I (0) (by omega) (by omega) fun q4 h4 z4 => ?_
    refine Eq.trans (b := turn _ (cn _)) ?_ rfl
    unfold tofH tofQ
    first
      | (rw [decide_eq_true (by subst_vars; exact Decidable.not_not.1 gz), if_pos (by subst_vars; exact Decidable.not_not.1 gz)]; subst_vars; rfl)
      | (rw [decide_eq_false (by subst_vars; exact gn), if_neg (by subst_vars; exact gn)]; subst_vars; rfl)
theorem qs_tofQ (p q : Rat) : qs (tofQ p q) ≤ qs p + qs q + 30 := by
  unfold tofQ
  have := qs_0
  split
  · omega
  · have h1 := qs_add ((1 : Int) : Rat) p
    have h2 := qs_div q (((1 : Int) : Rat) + p)
    have := qs_one
    omega
theorem k_RTurnOf (hx : x.z ≤ 17179869184) (hy : y.z ≤ 17179869184) (k : ∀ b q, b = tofH x.q → q = tofQ x.q y.q → (cn q).z ≤ x.z + y.z + 32 → K (turn b (cn q))) : Ask 41 [rat x, rat y] K :=
  use (RTurnOf_spec x y hx hy) rfl (k _ _ rfl rfl (by have := qs_tofQ x.q y.q; have := x.z1; have := y.z1; rw [cn_z]; omega))
theorem circ_cos (h : Bool) (p : Rat) : circ h p = cosq h p := by
  cases h
  · rw [circ_is]
    show _ = (((1 : Int) : Rat) - p * p) / (((1 : Int) : Rat) + p * p)
    have h0 := one_sq p
    simp only [Rat.intCast_one] at h0 ⊢
    have h2 : ((2 : Int) : Rat) = 1 + 1 := by decide +kernel
    rw [h2]
    grind
  · rfl
theorem sirc_sin (h : Bool) (p : Rat) : sirc h p = sinq (tq h p) := by
  cases h
  · rw [sirc_is]
    show _ = (p + p) / (((1 : Int) : Rat) + p * p)
    have h0 := one_sq p
    simp only [Rat.intCast_one] at h0 ⊢
    have h2 : ((2 : Int) : Rat) = 1 + 1 := by decide +kernel
    rw [h2]
    grind
  · exact sin_zero.symm
set_option maxRecDepth 100000 in
theorem RBoth_spec (h g : Bool) (x y : RV) (hx : x.z ≤ 1073741824) (hy : y.z ≤ 1073741824) : Spec Tryd.prog Tab 43 [turn h x, turn g y] (turn (thnH h g x.q y.q) (cn (thnQ h g x.q y.q))) := by
  refine fn_spec Tryd.func43 rfl rfl Tryd.ntmps43 rfl (by kernel_rfl) rfl rfl ?_
  refine k_RCircle (by omega) fun p1 q1 e1 h1 y1 z1 => ?_
  try simp only [cn_q] at e1 h1
  refine k_RCircle (by omega) fun p2 q2 e2 h2 y2 z2 => ?_
  try simp only [cn_q] at e2 h2
  refine k_mul (by omega) (by omega) fun q3 h3 z3 => ?_
  try simp only [cn_q] at h3
  refine k_mul (by omega) (by omega) fun q4 h4 z4 => ?_
  try simp only [cn_q] at h4
  refine k_sub (by omega) (by omega) fun q5 h5 z5 => ?_
  try simp only [cn_q] at h5
  refine k_mul (by omega) (by omega) fun q6 h6 z6 => ?_
  try simp only [cn_q] at h6
  refine k_mul (by omega) (by omega) fun q7 h7 z7 => ?_
  try simp only [cn_q] at h7
  refine k_add (by omega) (by omega) fun q8 h8 z8 => ?_
  try simp only [cn_q] at h8
  refine k_RTurnOf (by omega) (by omega) fun b9 q9 e9 h9 z9 => ?_
  try simp only [cn_q] at e9 h9
  refine ⟨by kernel_rfl, ?_⟩
  refine Eq.trans (b := turn _ (cn _)) ?_ rfl
  obtain ⟨j1, j2⟩ := both_then h g x.q y.q
  rw [← j1, ← j2, ← circ_cos, ← circ_cos, ← sirc_sin, ← sirc_sin]
  subst_vars; rfl
theorem qs_thnQ (h g : Bool) (p q : Rat) : qs (thnQ h g p q) ≤ 2 * qs p + 2 * qs q + 30 := by
  unfold thnQ
  have := qs_0
  have := qs_oppQ p
  have := qs_oppQ q
  have h1 := qs_mul p q
  have h2 := qs_sub ((1 : Int) : Rat) (p * q)
  have h3 := qs_add p q
  have h4 := qs_div (p + q) (((1 : Int) : Rat) - p * q)
  have := qs_one
  split
  · split <;> omega
  · split
    · omega
    · split <;> omega
theorem k_RBoth (hx : x.z ≤ 1073741824) (hy : y.z ≤ 1073741824) (k : ∀ b q, b = thnH h g x.q y.q → q = thnQ h g x.q y.q → (cn q).z ≤ 2 * x.z + 2 * y.z + 34 → K (turn b (cn q))) : Ask 43 [turn h x, turn g y] K :=
  use (RBoth_spec h g x y hx hy) rfl (k _ _ rfl rfl (by have := qs_thnQ h g x.q y.q; have := x.z1; have := y.z1; rw [cn_z]; omega))
theorem k_tThen (hx : x.z ≤ 17179869184) (hy : y.z ≤ 17179869184) (k : ∀ b q, b = thnH h g x.q y.q → q = thnQ h g x.q y.q → (cn q).z ≤ 2 * x.z + 2 * y.z + 34 → K (turn b (cn q))) : Ask 50 [turn h x, turn g y] K :=
  use (tThen_spec h g x y hx hy) rfl (k _ _ rfl rfl (by have := qs_thnQ h g x.q y.q; have := x.z1; have := y.z1; rw [cn_z]; omega))
theorem k_tBack (hx : x.z ≤ 68719476736) (k : ∀ q, q = -tq h x.q → (cn q).z ≤ x.z + 8 → K (turn h (cn q))) : Ask 51 [turn h x] K :=
  use (tBack_spec h x hx) rfl (k _ rfl (by have h1 := tq_z h x; rw [cn_z] at h1 ⊢; rw [qs_neg]; exact h1))
theorem k_tCmp (hx : x.z ≤ 17179869184) (hy : y.z ≤ 17179869184) (k : ∀ n, n = tcmp h g x.q y.q → K (int n)) : Ask 52 [turn h x, turn g y] K :=
  use (tCmp_spec h g x y hx hy) rfl (k _ rfl)
set_option maxRecDepth 100000 in
theorem RSame_spec (h : Bool) (x : RV) : Spec Tryd.prog Tab 49 [turn h x, turn h x] (bool true) := by
  refine fn_spec Tryd.func49 rfl rfl Tryd.ntmps49 rfl (by kernel_rfl) rfl rfl ?_
  refine k_eql_bool_t rfl ?_
  refine k_eql_rat_t rfl ?_
  refine Eq.trans (b := bool _) ?_ rfl
  rfl
theorem k_RSame (K1 : K (bool true)) : Ask 49 [turn h x, turn h x] K := use (RSame_spec h x) rfl K1
theorem rMake_spec (n m : Int) (h1 : -9223372036854775808 ≤ n) (h2 : n ≤ 9223372036854775807) (h3 : -9223372036854775808 ≤ m) (h4 : m ≤ 9223372036854775807) : Spec Tryd.prog Tab 124 [int n, int m] (two (rat (quotR (n : Rat) (m : Rat))) (int (quotE (m : Rat)))) := by
  refine spec_calls (enters_of Tryd.func124 rfl rfl) rfl rfl fun w hT => ?_
  refine (rMake_any n m w h1 h2 h3 h4 hT).mono fun e w' ⟨u, c, f, k, he, hi, hb⟩ => ?_
  refine ⟨he.trans ?_, hb⟩
  rcases hi with ⟨h5, rfl, rfl, rfl, rfl⟩ | ⟨h5, rfl, hi⟩
  · simp only [quotR, quotE, if_pos h5, z0]
  · obtain ⟨rfl, rfl, rfl⟩ := is_cn hi
    simp only [quotR, quotE, if_neg h5]
theorem k_make (n m : Int) (h1 : -9223372036854775808 ≤ n) (h2 : n ≤ 9223372036854775807) (h3 : -9223372036854775808 ≤ m) (h4 : m ≤ 9223372036854775807) (h0 : (m : Rat) ≠ 0) (k : ∀ q, q = (n : Rat) / (m : Rat) → (cn q).z ≤ 17 → K (two (rat (cn q)) (int 0))) : Ask 124 [int n, int m] K :=
  use (by have := rMake_spec n m h1 h2 h3 h4; simp only [quotR, quotE, if_neg h0] at this; exact this) rfl (k _ rfl (by have := qs_div (n : Rat) (m : Rat); have := qs_i64 h1 h2; have := qs_i64 h3 h4; rw [cn_z]; omega))
theorem ratBegun_spec : Spec Tryd.prog Tab 132 [] (bool true) :=
  spec_calls (enters_of Tryd.func132 rfl rfl) rfl rfl fun w hT => ratBegun_any w hT
theorem k_ratBegun (K1 : K (bool true)) : Ask 132 [] K := use ratBegun_spec rfl K1
set_option maxRecDepth 100000 in
theorem num_spec (n m : Int) (h1 : -9223372036854775808 ≤ n) (h2 : n ≤ 9223372036854775807) (h3 : -9223372036854775808 ≤ m) (h4 : m ≤ 9223372036854775807) (hm : (m : Rat) ≠ 0) : Spec Tryd.prog Tab 131 [int n, int m] (rat (cn ((n : Rat) / (m : Rat)))) := by
  refine fn_spec Tryd.func131 rfl rfl Tryd.ntmps131 rfl (by kernel_rfl) rfl rfl ?_
  refine k_make _ _ (by omega) (by omega) (by omega) (by omega) hm fun q1 h1 z1 => ?_
  refine Eq.trans (b := rat (cn _)) ?_ rfl
  subst_vars; rfl
theorem k_num (n m : Int) (h1 : -9223372036854775808 ≤ n) (h2 : n ≤ 9223372036854775807) (h3 : -9223372036854775808 ≤ m) (h4 : m ≤ 9223372036854775807) (h0 : (m : Rat) ≠ 0) (k : ∀ q, q = (n : Rat) / (m : Rat) → (cn q).z ≤ 17 → K (rat (cn q))) : Ask 131 [int n, int m] K :=
  use (num_spec n m h1 h2 h3 h4 h0) rfl (k _ rfl (by have := qs_div (n : Rat) (m : Rat); have := qs_i64 h1 h2; have := qs_i64 h3 h4; rw [cn_z]; omega))
set_option maxRecDepth 100000 in
theorem turnBegun_spec  : Spec Tryd.prog Tab 39 [] (bool true) := by
  refine fn_spec Tryd.func39 rfl rfl Tryd.ntmps39 rfl (by kernel_rfl) rfl rfl ?_
  refine k_num (1) (2) (by omega) (by omega) (by omega) (by omega) (by decide +kernel) fun q1 h1 z1 => ?_
  refine k_tOf (by omega) fun q2 h2 z2 => ?_
  try simp only [cn_q] at h2
  refine k_ratBegun ?_
  refine k_tCos (by omega) fun q3 h3 z3 => ?_
  try simp only [cn_q] at h3
  refine k_num (3) (5) (by omega) (by omega) (by omega) (by omega) (by decide +kernel) fun q4 h4 z4 => ?_
  refine k_eql_rat_t (by subst_vars; exact congrArg cn (by decide +kernel)) ?_
  refine k_tSin (by omega) fun q6 h6 z6 => ?_
  try simp only [cn_q] at h6
  refine k_num (4) (5) (by omega) (by omega) (by omega) (by omega) (by decide +kernel) fun q7 h7 z7 => ?_
  refine k_eql_rat_t (by subst_vars; exact congrArg cn (by decide +kernel)) ?_
  refine Eq.trans (b := bool _) ?_ rfl
  rfl
theorem k_turnBegun (K1 : K (bool true)) : Ask 39 [] K := use turnBegun_spec rfl K1
theorem k_RSame_eq (H : h = g) (X : x = y) (K1 : K (bool true)) : Ask 49 [turn h x, turn g y] K := by subst H X; exact k_RSame K1
theorem z0_q : z0.q = 0 := by
  have : ¬ q.good false ⟨#[]⟩ ⟨#[]⟩ := by decide +kernel
  show qv false ⟨#[]⟩ ⟨#[]⟩ = 0
  unfold qv
  rw [if_neg this]
theorem z0_z : z0.z = 0 := rfl
theorem k_RBoth0 (hx : x.z ≤ 1073741824) (k : ∀ q, q = tq h x.q → (cn q).z ≤ x.z + 8 → K (turn h (cn q))) : Ask 43 [turn h x, turn false z0] K := by
  have := RBoth_spec h false x z0 hx (by rw [z0_z]; omega)
  rw [z0_q, (thn_zero h x.q).1, (thn_zero h x.q).2] at this
  exact use this rfl (k _ rfl (tq_z h x))

end
end Go.Proofs.YtnnffjolkgomhaaDoor.eng
