/- Joined by wip/bundle.py: XTrq XEngTurn. -/
import Derived.Test.YtpejadencgfnnaaGreatDoorQ
import Derived.Test.YtpejadencgfnnaaGreatDoorEngU
/- Plain law: turns by the tangents of half their angles: cosines and sines, the sum of two turns, the turn back. -/
namespace Go.Proofs.YtpejadencgfnnaaGreatDoor.trq
open q

def tq (h : Bool) (p : Rat) : Rat := if h then ((0 : Int) : Rat) else p
def cosq (h : Bool) (p : Rat) : Rat := if h then ((-1 : Int) : Rat) else (((1 : Int) : Rat) - p * p) / (((1 : Int) : Rat) + p * p)
def sinq (p : Rat) : Rat := (p + p) / (((1 : Int) : Rat) + p * p)
def circ (h : Bool) (p : Rat) : Rat := if h then ((-1 : Int) : Rat) else ((2 : Int) : Rat) / (((1 : Int) : Rat) + (p + ((0 : Int) : Rat)) * (p + ((0 : Int) : Rat))) - ((1 : Int) : Rat)
theorem one_sq (p : Rat) : ((1 : Int) : Rat) + p * p ≠ 0 := by
  have h0 : 0 ≤ p * p := by
    rcases Rat.le_total (a := 0) (b := p) with h | h
    · exact Rat.mul_nonneg h h
    · have h' : 0 ≤ -p := by have := Rat.neg_le_neg h; simpa using this
      have := Rat.mul_nonneg h' h'
      rwa [Rat.neg_mul, Rat.mul_neg, Rat.neg_neg] at this
  intro h
  have h1 : (1 : Rat) + 0 ≤ 1 + p * p := Rat.add_le_add_left.2 h0
  rw [Rat.intCast_one] at h
  rw [h] at h1
  exact absurd h1 (by decide +kernel)

/-- the four quotients by what they satisfy -/
theorem cs_facts (p : Rat) : cosq false p * (1 + p * p) = 1 - p * p ∧ sinq p * (1 + p * p) = 2 * p ∧ 1 + p * p ≠ 0 := by
  have h := one_sq p
  simp only [Rat.intCast_one] at h
  refine ⟨?_, ?_, h⟩
  · unfold cosq; simp only [Bool.false_eq_true, if_false, Rat.intCast_one]; grind
  · unfold sinq; simp only [Rat.intCast_one]; grind
theorem sin_zero : sinq ((0 : Int) : Rat) = 0 := by decide +kernel
theorem cos_half (p : Rat) : cosq true p = -1 := by unfold cosq; simp only [if_true]; decide +kernel
theorem tq_true (p : Rat) : tq true p = ((0 : Int) : Rat) := rfl
theorem tq_false (p : Rat) : tq false p = p := rfl
end Go.Proofs.YtpejadencgfnnaaGreatDoor.trq

/- Contracts: package turn; gantref1's turns. Printed by wip/gen_et.py. -/
namespace Go.Proofs.YtpejadencgfnnaaGreatDoor.eng
open Go.RowKit num mem seg q held ratA ratB ratC ratD ratE vars ratF trq
section
variable {x y : RV} {h g : Bool} {K : AV → Prop}

set_option maxRecDepth 100000 in
theorem tOf_spec (x : RV) (hx : x.z ≤ 4398046511104) : Spec Tryz.prog Tab 171 [rat x] (turn false (cn x.q)) := by
  refine fn_spec Tryz.func171 rfl rfl Tryz.ntmps171 rfl (by kernel_rfl) rfl rfl ?_
  refine k_same (by omega) fun q1 h1 z1 => ?_
  try simp only [cn_q] at h1
  refine Eq.trans (b := turn false (cn _)) ?_ rfl
  rw [h1]
theorem k_tOf (hx : x.z ≤ 4398046511104) (k : ∀ q, q = x.q → (cn q).z ≤ x.z + 1 → K (turn false (cn q))) : Ask 171 [rat x] K :=
  use (tOf_spec x hx) rfl (k _ rfl (by have := x.z1; rw [cn_z]; omega))
set_option maxRecDepth 100000 in
theorem tHalf_spec  : Spec Tryz.prog Tab 178 [] (turn true (cn ((0 : Int) : Rat))) := by
  refine fn_spec Tryz.func178 rfl rfl Tryz.ntmps178 rfl (by kernel_rfl) rfl rfl ?_
  refine k_of (0) (by omega) (by omega) fun q1 h1 z1 => ?_
  refine Eq.trans (b := turn true (cn _)) ?_ rfl
  rw [h1]
theorem k_tHalf (k : ∀ q, q = ((0 : Int) : Rat) → (cn q).z ≤ 8 → K (turn true (cn q))) : Ask 178 [] K :=
  use tHalf_spec rfl (k _ rfl (by have := qs_i64 (n := 0) (by decide) (by decide); rw [cn_z]; omega))
set_option maxRecDepth 100000 in
theorem tFit_spec (h : Bool) (x : RV) (hx : x.z ≤ 4398046511104) : Spec Tryz.prog Tab 239 [turn h x] (turn h (cn (tq h x.q))) := by
  refine fn_spec Tryz.func239 rfl rfl Tryz.ntmps239 rfl (by kernel_rfl) rfl rfl ?_
  refine ⟨fun e1 => ?_, fun e1 => ?_⟩
  · subst e1
    refine k_tHalf fun q2 h2 z2 => ?_
    refine Eq.trans (b := turn _ (cn _)) ?_ rfl
    subst_vars; rfl
  · subst e1
    refine k_tOf (by omega) fun q3 h3 z3 => ?_
    try simp only [cn_q] at h3
    refine Eq.trans (b := turn _ (cn _)) ?_ rfl
    subst_vars; rfl
theorem tq_z (h : Bool) (x : RV) : (cn (tq h x.q)).z ≤ x.z + 8 := by
  rw [cn_z]; unfold tq; split
  · have := qs_i64 (n := 0) (by decide) (by decide); omega
  · have := x.z1; omega
theorem k_tFit (hx : x.z ≤ 4398046511104) (k : ∀ q, q = tq h x.q → (cn q).z ≤ x.z + 8 → K (turn h (cn q))) : Ask 239 [turn h x] K :=
  use (tFit_spec h x hx) rfl (k _ rfl (tq_z h x))
set_option maxRecDepth 100000 in
theorem tCos_spec (h : Bool) (x : RV) (hx : x.z ≤ 68719476736) : Spec Tryz.prog Tab 174 [turn h x] (rat (cn (cosq h x.q))) := by
  refine fn_spec Tryz.func174 rfl rfl Tryz.ntmps174 rfl (by kernel_rfl) rfl rfl ?_
  refine k_tFit (by omega) fun q1 h1 z1 => ?_
  try simp only [cn_q] at h1
  refine ⟨fun e2 => ?_, fun e2 => ?_⟩
  · subst e2
    refine k_of (-1) (by omega) (by omega) fun q3 h3 z3 => ?_
    refine Eq.trans (b := rat (cn _)) ?_ rfl
    subst_vars; rfl
  · subst e2
    refine k_mul (by omega) (by omega) fun q4 h4 z4 => ?_
    try simp only [cn_q] at h4
    refine k_of (1) (by omega) (by omega) fun q5 h5 z5 => ?_
    refine k_sub (by omega) (by omega) fun q6 h6 z6 => ?_
    try simp only [cn_q] at h6
    refine k_of (1) (by omega) (by omega) fun q7 h7 z7 => ?_
    refine k_add (by omega) (by omega) fun q8 h8 z8 => ?_
    try simp only [cn_q] at h8
    refine k_div (by omega) (by omega) (by subst_vars; simp only [cn_q]; exact one_sq _) fun q9 h9 z9 => ?_
    try simp only [cn_q] at h9
    refine ⟨by kernel_rfl, ?_⟩
    refine Eq.trans (b := rat (cn _)) ?_ rfl
    subst_vars; rfl
set_option maxRecDepth 100000 in
theorem tSin_spec (h : Bool) (x : RV) (hx : x.z ≤ 68719476736) : Spec Tryz.prog Tab 175 [turn h x] (rat (cn (sinq (tq h x.q)))) := by
  refine fn_spec Tryz.func175 rfl rfl Tryz.ntmps175 rfl (by kernel_rfl) rfl rfl ?_
  refine k_tFit (by omega) fun q1 h1 z1 => ?_
  try simp only [cn_q] at h1
  refine k_add (by omega) (by omega) fun q2 h2 z2 => ?_
  try simp only [cn_q] at h2
  refine k_of (1) (by omega) (by omega) fun q3 h3 z3 => ?_
  refine k_mul (by omega) (by omega) fun q4 h4 z4 => ?_
  try simp only [cn_q] at h4
  refine k_add (by omega) (by omega) fun q5 h5 z5 => ?_
  try simp only [cn_q] at h5
  refine k_div (by omega) (by omega) (by subst_vars; simp only [cn_q]; exact one_sq _) fun q6 h6 z6 => ?_
  try simp only [cn_q] at h6
  refine ⟨by kernel_rfl, ?_⟩
  refine Eq.trans (b := rat (cn _)) ?_ rfl
  subst_vars; rfl
theorem qs_one : qs ((1 : Int) : Rat) ≤ 8 := qs_i64 (by decide) (by decide)
theorem qs_m1 : qs ((-1 : Int) : Rat) ≤ 8 := qs_i64 (by decide) (by decide)
theorem qs_0 : qs ((0 : Int) : Rat) ≤ 8 := qs_i64 (by decide) (by decide)
theorem qs_cosq (h : Bool) (p : Rat) : qs (cosq h p) ≤ 4 * qs p + 30 := by
  unfold cosq
  split
  · have := qs_m1; omega
  · have h1 := qs_mul p p
    have h2 := qs_sub ((1 : Int) : Rat) (p * p)
    have h3 := qs_add ((1 : Int) : Rat) (p * p)
    have h4 := qs_div (((1 : Int) : Rat) - p * p) (((1 : Int) : Rat) + p * p)
    have := qs_one
    omega
theorem qs_sinq (p : Rat) : qs (sinq p) ≤ 4 * qs p + 30 := by
  unfold sinq
  have h1 := qs_mul p p
  have h2 := qs_add p p
  have h3 := qs_add ((1 : Int) : Rat) (p * p)
  have h4 := qs_div (p + p) (((1 : Int) : Rat) + p * p)
  have := qs_one
  omega
theorem k_tCos (hx : x.z ≤ 68719476736) (k : ∀ q, q = cosq h x.q → (cn q).z ≤ 4 * x.z + 34 → K (rat (cn q))) : Ask 174 [turn h x] K :=
  use (tCos_spec h x hx) rfl (k _ rfl (by have := qs_cosq h x.q; have := x.z1; rw [cn_z]; omega))
theorem k_tSin (hx : x.z ≤ 68719476736) (k : ∀ q, q = sinq (tq h x.q) → (cn q).z ≤ 4 * x.z + 70 → K (rat (cn q))) : Ask 175 [turn h x] K :=
  use (tSin_spec h x hx) rfl (k _ rfl (by have h1 := qs_sinq (tq h x.q); have h2 := tq_z h x; rw [cn_z] at h2 ⊢; omega))
theorem circ_is (p : Rat) : circ false p = ((2 : Int) : Rat) / (((1 : Int) : Rat) + p * p) - ((1 : Int) : Rat) := by unfold circ; simp only [Bool.false_eq_true, if_false, Rat.intCast_zero, Rat.add_zero]
theorem circ_cos (h : Bool) (p : Rat) : circ h p = cosq h p := by
  cases h
  · rw [circ_is]
    show _ = (((1 : Int) : Rat) - p * p) / (((1 : Int) : Rat) + p * p)
    have h0 := one_sq p
    simp only [Rat.intCast_one] at h0 ⊢
    have h2 : ((2 : Int) : Rat) = 1 + 1 := by decide +kernel
    rw [h2]
    grind
  · rfl
end
end Go.Proofs.YtpejadencgfnnaaGreatDoor.eng

