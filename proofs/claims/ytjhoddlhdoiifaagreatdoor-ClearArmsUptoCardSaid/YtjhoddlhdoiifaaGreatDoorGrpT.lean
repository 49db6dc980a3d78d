/- Joined by wip/bundle.py: XTrq XEngTurn. -/
import Derived.Test.YtjhoddlhdoiifaaGreatDoorQ
import Derived.Test.YtjhoddlhdoiifaaGreatDoorEngU
/- Plain law: turns by the tangents of half their angles: cosines and sines, the sum of two turns, the turn back. -/
namespace Go.Proofs.YtjhoddlhdoiifaaGreatDoor.trq
open q

def tq (h : Bool) (p : Rat) : Rat := if h then ((0 : Int) : Rat) else p
def cosq (h : Bool) (p : Rat) : Rat := if h then ((-1 : Int) : Rat) else (((1 : Int) : Rat) - p * p) / (((1 : Int) : Rat) + p * p)
def sinq (p : Rat) : Rat := (p + p) / (((1 : Int) : Rat) + p * p)
theorem one_sq (p : Rat) : ((1 : Int) : Rat) + p * p ≠ 0 := by
  have h0 : 0 ≤ p * p := by
    rcases Rat.le_total (a := 0) (b := p) with h | h
    · exact Rat.mul_nonneg h h
    · have h' : 0 ≤ -p := by have := Rat.neg_le_neg h; simpa using this
      have := Rat.mul_nonneg h' h'
      rwa [Rat.neg_mul, Rat.mul_neg, Rat.neg_neg] at this
  intro h
  have h1 : (1 : Rat) + 0 ≤ 1 + p * p := Rat.add_le_add_left.2 h0
  rw [Rat.intCast_one] at h
  rw [h] at h1
  exact absurd h1 (by decide +kernel)

def oppH (q : Rat) : Bool := decide (q = 0)
def oppQ (q : Rat) : Rat := if q = 0 then ((0 : Int) : Rat) else ((-1 : Int) : Rat) / q
def tofH (c : Rat) : Bool := decide (((1 : Int) : Rat) + c = 0)
def tofQ (c s : Rat) : Rat := if ((1 : Int) : Rat) + c = 0 then ((0 : Int) : Rat) else s / (((1 : Int) : Rat) + c)
def thnH (h g : Bool) (p q : Rat) : Bool := if h then (if g then false else oppH q) else if g then oppH p else decide (((1 : Int) : Rat) - p * q = 0)
def thnQ (h g : Bool) (p q : Rat) : Rat := if h then (if g then ((0 : Int) : Rat) else oppQ q) else if g then oppQ p else if ((1 : Int) : Rat) - p * q = 0 then ((0 : Int) : Rat) else (p + q) / (((1 : Int) : Rat) - p * q)
/-- the four quotients by what they satisfy -/
theorem cs_facts (p : Rat) : cosq false p * (1 + p * p) = 1 - p * p ∧ sinq p * (1 + p * p) = 2 * p ∧ 1 + p * p ≠ 0 := by
  have h := one_sq p
  simp only [Rat.intCast_one] at h
  refine ⟨?_, ?_, h⟩
  · unfold cosq; simp only [Bool.false_eq_true, if_false, Rat.intCast_one]; grind
  · unfold sinq; simp only [Rat.intCast_one]; grind
theorem sin_zero : sinq ((0 : Int) : Rat) = 0 := by decide +kernel
theorem cos_half (p : Rat) : cosq true p = -1 := by unfold cosq; simp only [if_true]; decide +kernel
theorem tq_true (p : Rat) : tq true p = ((0 : Int) : Rat) := rfl
theorem tq_false (p : Rat) : tq false p = p := rfl
/-- the turn of a cosine and a sine, by what it satisfies -/
theorem tof_is {c s r : Rat} (h : 1 + c ≠ 0) (e : r * (1 + c) = s) : tofH c = false ∧ tofQ c s = r := by
  unfold tofH tofQ
  simp only [Rat.intCast_one]
  rw [if_neg h]
  exact ⟨decide_eq_false h, by grind⟩
theorem tof_half {c s : Rat} (h : 1 + c = 0) : tofH c = true ∧ tofQ c s = ((0 : Int) : Rat) := by
  unfold tofH tofQ
  simp only [Rat.intCast_one]
  rw [if_pos h]
  exact ⟨decide_eq_true h, rfl⟩
theorem thn_opp {c s q : Rat} (h1 : c * (1 + q * q) = - (1 - q * q)) (h2 : s * (1 + q * q) = - (2 * q)) (h3 : 1 + q * q ≠ 0) : tofH c = oppH q ∧ tofQ c s = oppQ q := by
  by_cases hq : q = 0
  · have : 1 + c = 0 := by grind
    have e := tof_half (s := s) this
    unfold oppH oppQ
    rw [if_pos hq]
    exact ⟨e.1.trans (decide_eq_true hq).symm, e.2⟩
  · have h : 1 + c ≠ 0 := by grind
    have e := tof_is (s := s) (r := (-1) / q) h (by grind)
    unfold oppH oppQ
    rw [if_neg hq]
    refine ⟨e.1.trans (decide_eq_false hq).symm, e.2.trans ?_⟩
    congr 1
theorem both_then (h g : Bool) (p q : Rat) :
    tofH (cosq h p * cosq g q - sinq (tq h p) * sinq (tq g q)) = thnH h g p q ∧
    tofQ (cosq h p * cosq g q - sinq (tq h p) * sinq (tq g q)) (sinq (tq h p) * cosq g q + cosq h p * sinq (tq g q)) = thnQ h g p q := by
  obtain ⟨a1, a2, a3⟩ := cs_facts p
  obtain ⟨b1, b2, b3⟩ := cs_facts q
  cases h <;> cases g <;> simp only [tq_true, tq_false, cos_half, sin_zero]
  · show _ = decide _ ∧ _ = (if _ then _ else _)
    simp only [Rat.intCast_one]
    by_cases hz : 1 - p * q = 0
    · rw [if_pos hz]
      have e := tof_half (c := cosq false p * cosq false q - sinq p * sinq q) (s := sinq p * cosq false q + cosq false p * sinq q) (by grind)
      exact ⟨e.1.trans (decide_eq_true hz).symm, e.2⟩
    · rw [if_neg hz]
      have e := tof_is (c := cosq false p * cosq false q - sinq p * sinq q) (s := sinq p * cosq false q + cosq false p * sinq q) (r := (p + q) / (1 - p * q)) (by grind) (by grind)
      exact ⟨e.1.trans (decide_eq_false hz).symm, e.2⟩
  · exact thn_opp (by grind) (by grind) a3
  · exact thn_opp (by grind) (by grind) b3
  · exact tof_is (r := ((0 : Int) : Rat)) (by grind) (by rw [Rat.intCast_zero]; grind)
theorem thn_zero (h : Bool) (p : Rat) : thnH h false p 0 = h ∧ thnQ h false p 0 = tq h p := by
  cases h
  · unfold thnH thnQ tq
    simp only [Bool.false_eq_true, if_false, Rat.intCast_one, Rat.mul_zero]
    exact ⟨by decide +kernel, by rw [if_neg (by decide +kernel)]; grind⟩
  · unfold thnH thnQ tq oppH oppQ
    simp
end Go.Proofs.YtjhoddlhdoiifaaGreatDoor.trq

/- Contracts: package turn; gantref1's turns. Printed by wip/gen_et.py. -/
namespace Go.Proofs.YtjhoddlhdoiifaaGreatDoor.eng
open Go.RowKit num mem seg q held ratA ratB ratC ratD ratE vars ratF trq
section
variable {x y : RV} {h g : Bool} {K : AV → Prop}

set_option maxRecDepth 100000 in
theorem tOf_spec (x : RV) (hx : x.z ≤ 4398046511104) : Spec Tryz.prog Tab 95 [rat x] (turn false (cn x.q)) := by
  refine fn_spec Tryz.func95 rfl rfl Tryz.ntmps95 rfl (by kernel_rfl) rfl rfl ?_
  refine k_same (by omega) fun q1 h1 z1 => ?_
  try simp only [cn_q] at h1
  refine Eq.trans (b := turn false (cn _)) ?_ rfl
  rw [h1]
theorem k_tOf (hx : x.z ≤ 4398046511104) (k : ∀ q, q = x.q → (cn q).z ≤ x.z + 1 → K (turn false (cn q))) : Ask 95 [rat x] K :=
  use (tOf_spec x hx) rfl (k _ rfl (by have := x.z1; rw [cn_z]; omega))
set_option maxRecDepth 100000 in
theorem tHalf_spec  : Spec Tryz.prog Tab 204 [] (turn true (cn ((0 : Int) : Rat))) := by
  refine fn_spec Tryz.func204 rfl rfl Tryz.ntmps204 rfl (by kernel_rfl) rfl rfl ?_
  refine k_of (0) (by omega) (by omega) fun q1 h1 z1 => ?_
  refine Eq.trans (b := turn true (cn _)) ?_ rfl
  rw [h1]
theorem k_tHalf (k : ∀ q, q = ((0 : Int) : Rat) → (cn q).z ≤ 8 → K (turn true (cn q))) : Ask 204 [] K :=
  use tHalf_spec rfl (k _ rfl (by have := qs_i64 (n := 0) (by decide) (by decide); rw [cn_z]; omega))
set_option maxRecDepth 100000 in
theorem tFit_spec (h : Bool) (x : RV) (hx : x.z ≤ 4398046511104) : Spec Tryz.prog Tab 161 [turn h x] (turn h (cn (tq h x.q))) := by
  refine fn_spec Tryz.func161 rfl rfl Tryz.ntmps161 rfl (by kernel_rfl) rfl rfl ?_
  refine ⟨fun e1 => ?_, fun e1 => ?_⟩
  · subst e1
    refine k_tHalf fun q2 h2 z2 => ?_
    refine Eq.trans (b := turn _ (cn _)) ?_ rfl
    subst_vars; rfl
  · subst e1
    refine k_tOf (by omega) fun q3 h3 z3 => ?_
    try simp only [cn_q] at h3
    refine Eq.trans (b := turn _ (cn _)) ?_ rfl
    subst_vars; rfl
theorem tq_z (h : Bool) (x : RV) : (cn (tq h x.q)).z ≤ x.z + 8 := by
  rw [cn_z]; unfold tq; split
  · have := qs_i64 (n := 0) (by decide) (by decide); omega
  · have := x.z1; omega
theorem k_tFit (hx : x.z ≤ 4398046511104) (k : ∀ q, q = tq h x.q → (cn q).z ≤ x.z + 8 → K (turn h (cn q))) : Ask 161 [turn h x] K :=
  use (tFit_spec h x hx) rfl (k _ rfl (tq_z h x))
set_option maxRecDepth 100000 in
theorem tCos_spec (h : Bool) (x : RV) (hx : x.z ≤ 68719476736) : Spec Tryz.prog Tab 102 [turn h x] (rat (cn (cosq h x.q))) := by
  refine fn_spec Tryz.func102 rfl rfl Tryz.ntmps102 rfl (by kernel_rfl) rfl rfl ?_
  refine k_tFit (by omega) fun q1 h1 z1 => ?_
  try simp only [cn_q] at h1
  refine ⟨fun e2 => ?_, fun e2 => ?_⟩
  · subst e2
    refine k_of (-1) (by omega) (by omega) fun q3 h3 z3 => ?_
    refine Eq.trans (b := rat (cn _)) ?_ rfl
    subst_vars; rfl
  · subst e2
    refine k_mul (by omega) (by omega) fun q4 h4 z4 => ?_
    try simp only [cn_q] at h4
    refine k_of (1) (by omega) (by omega) fun q5 h5 z5 => ?_
    refine k_sub (by omega) (by omega) fun q6 h6 z6 => ?_
    try simp only [cn_q] at h6
    refine k_of (1) (by omega) (by omega) fun q7 h7 z7 => ?_
    refine k_add (by omega) (by omega) fun q8 h8 z8 => ?_
    try simp only [cn_q] at h8
    refine k_div (by omega) (by omega) (by subst_vars; simp only [cn_q]; exact one_sq _) fun q9 h9 z9 => ?_
    try simp only [cn_q] at h9
    refine ⟨by kernel_rfl, ?_⟩
    refine Eq.trans (b := rat (cn _)) ?_ rfl
    subst_vars; rfl
set_option maxRecDepth 100000 in
theorem tSin_spec (h : Bool) (x : RV) (hx : x.z ≤ 68719476736) : Spec Tryz.prog Tab 103 [turn h x] (rat (cn (sinq (tq h x.q)))) := by
  refine fn_spec Tryz.func103 rfl rfl Tryz.ntmps103 rfl (by kernel_rfl) rfl rfl ?_
  refine k_tFit (by omega) fun q1 h1 z1 => ?_
  try simp only [cn_q] at h1
  refine k_add (by omega) (by omega) fun q2 h2 z2 => ?_
  try simp only [cn_q] at h2
  refine k_of (1) (by omega) (by omega) fun q3 h3 z3 => ?_
  refine k_mul (by omega) (by omega) fun q4 h4 z4 => ?_
  try simp only [cn_q] at h4
  refine k_add (by omega) (by omega) fun q5 h5 z5 => ?_
  try simp only [cn_q] at h5
  refine k_div (by omega) (by omega) (by subst_vars; simp only [cn_q]; exact one_sq _) fun q6 h6 z6 => ?_
  try simp only [cn_q] at h6
  refine ⟨by kernel_rfl, ?_⟩
  refine Eq.trans (b := rat (cn _)) ?_ rfl
  subst_vars; rfl
theorem qs_one : qs ((1 : Int) : Rat) ≤ 8 := qs_i64 (by decide) (by decide)
theorem qs_m1 : qs ((-1 : Int) : Rat) ≤ 8 := qs_i64 (by decide) (by decide)
theorem qs_0 : qs ((0 : Int) : Rat) ≤ 8 := qs_i64 (by decide) (by decide)
theorem qs_cosq (h : Bool) (p : Rat) : qs (cosq h p) ≤ 4 * qs p + 30 := by
  unfold cosq
  split
  · have := qs_m1; omega
  · have h1 := qs_mul p p
    have h2 := qs_sub ((1 : Int) : Rat) (p * p)
    have h3 := qs_add ((1 : Int) : Rat) (p * p)
    have h4 := qs_div (((1 : Int) : Rat) - p * p) (((1 : Int) : Rat) + p * p)
    have := qs_one
    omega
theorem qs_sinq (p : Rat) : qs (sinq p) ≤ 4 * qs p + 30 := by
  unfold sinq
  have h1 := qs_mul p p
  have h2 := qs_add p p
  have h3 := qs_add ((1 : Int) : Rat) (p * p)
  have h4 := qs_div (p + p) (((1 : Int) : Rat) + p * p)
  have := qs_one
  omega
theorem k_tCos (hx : x.z ≤ 68719476736) (k : ∀ q, q = cosq h x.q → (cn q).z ≤ 4 * x.z + 34 → K (rat (cn q))) : Ask 102 [turn h x] K :=
  use (tCos_spec h x hx) rfl (k _ rfl (by have := qs_cosq h x.q; have := x.z1; rw [cn_z]; omega))
theorem k_tSin (hx : x.z ≤ 68719476736) (k : ∀ q, q = sinq (tq h x.q) → (cn q).z ≤ 4 * x.z + 70 → K (rat (cn q))) : Ask 103 [turn h x] K :=
  use (tSin_spec h x hx) rfl (k _ rfl (by have h1 := qs_sinq (tq h x.q); have h2 := tq_z h x; rw [cn_z] at h2 ⊢; omega))
set_option maxRecDepth 100000 in
theorem tOpp_spec (h : Bool) (x : RV) (hx : x.z ≤ 68719476736) : Spec Tryz.prog Tab 203 [turn h x] (turn (oppH x.q) (cn (oppQ x.q))) := by
  refine fn_spec Tryz.func203 rfl rfl Tryz.ntmps203 rfl (by kernel_rfl) rfl rfl ?_
  refine k_of (-1) (by omega) (by omega) fun q1 h1 z1 => ?_
  refine k_div_c (by omega) (by omega) (fun gn q2 h2 z2 => ?_) (fun gz => ?_)
  · try simp only [cn_q] at gn h2
    refine ⟨by kernel_rfl, ?_⟩
    refine ⟨fun e => by simp at e, fun _ => ?_⟩
    refine k_tOf (by omega) fun q3 h3 z3 => ?_
    try simp only [cn_q] at h3
    refine Eq.trans (b := turn _ (cn _)) ?_ rfl
    unfold oppH oppQ
    first
      | (rw [decide_eq_true (Decidable.not_not.1 gz), if_pos (Decidable.not_not.1 gz)]; subst_vars; rfl)
      | (rw [decide_eq_false gn, if_neg gn]; subst_vars; rfl)
  · try simp only [cn_q] at gz
    refine ⟨by kernel_rfl, ?_⟩
    refine ⟨fun _ => ?_, fun e => by simp at e⟩
    refine k_tHalf fun q4 h4 z4 => ?_
    refine Eq.trans (b := turn _ (cn _)) ?_ rfl
    unfold oppH oppQ
    first
      | (rw [decide_eq_true (Decidable.not_not.1 gz), if_pos (Decidable.not_not.1 gz)]; subst_vars; rfl)
      | (rw [decide_eq_false gn, if_neg gn]; subst_vars; rfl)
theorem qs_oppQ (p : Rat) : qs (oppQ p) ≤ qs p + 9 := by
  unfold oppQ
  split
  · have := qs_0; omega
  · have := qs_div ((-1 : Int) : Rat) p; have := qs_m1; omega
theorem k_tOpp (hx : x.z ≤ 68719476736) (k : ∀ b q, b = oppH x.q → q = oppQ x.q → (cn q).z ≤ x.z + 10 → K (turn b (cn q))) : Ask 203 [turn h x] K :=
  use (tOpp_spec h x hx) rfl (k _ _ rfl rfl (by have := qs_oppQ x.q; have := x.z1; rw [cn_z]; omega))
set_option maxRecDepth 100000 in
theorem tThen_spec (h g : Bool) (x y : RV) (hx : x.z ≤ 17179869184) (hy : y.z ≤ 17179869184) : Spec Tryz.prog Tab 160 [turn h x, turn g y] (turn (thnH h g x.q y.q) (cn (thnQ h g x.q y.q))) := by
  cases h <;> cases g
  · refine fn_spec Tryz.func160 rfl rfl Tryz.ntmps160 rfl (by kernel_rfl) rfl rfl ?_
    refine k_tFit (by omega) fun q1 h1 z1 => ?_
    try simp only [cn_q] at h1
    refine k_tFit (by omega) fun q2 h2 z2 => ?_
    try simp only [cn_q] at h2
    refine ⟨by kernel_rfl, ?_⟩
    refine ⟨fun e => by simp at e, fun _ => ?_⟩
    refine ⟨fun e => by simp at e, fun _ => ?_⟩
    refine ⟨fun e => by simp at e, fun _ => ?_⟩
    refine k_add (by omega) (by omega) fun q3 h3 z3 => ?_
    try simp only [cn_q] at h3
    refine k_of (1) (by omega) (by omega) fun q4 h4 z4 => ?_
    refine k_mul (by omega) (by omega) fun q5 h5 z5 => ?_
    try simp only [cn_q] at h5
    refine k_sub (by omega) (by omega) fun q6 h6 z6 => ?_
    try simp only [cn_q] at h6
    refine k_div_c (by omega) (by omega) (fun gn q7 h7 z7 => ?_) (fun gz => ?_)
    · try simp only [cn_q] at gn h7
      refine ⟨by kernel_rfl, ?_⟩
      refine ⟨fun e => by simp at e, fun _ => ?_⟩
      refine k_tOf (by omega) fun q8 h8 z8 => ?_
      try simp only [cn_q] at h8
      refine Eq.trans (b := turn _ (cn _)) ?_ rfl
      unfold thnH thnQ
      simp only [Bool.false_eq_true, if_false]
      first
        | (rw [decide_eq_true (by subst_vars; exact Decidable.not_not.1 gz), if_pos (by subst_vars; exact Decidable.not_not.1 gz)]; subst_vars; rfl)
        | (rw [decide_eq_false (by subst_vars; exact gn), if_neg (by subst_vars; exact gn)]; subst_vars; rfl)
    · try simp only [cn_q] at gz
      refine ⟨by kernel_rfl, ?_⟩
      refine ⟨fun _ => ?_, fun e => by simp at e⟩
      refine k_tHalf fun q9 h9 z9 => ?_
      refine Eq.trans (b := turn _ (cn _)) ?_ rfl
      unfold thnH thnQ
      simp only [Bool.false_eq_true, if_false]
      first
        | (rw [decide_eq_true (by subst_vars; exact Decidable.not_not.1 gz), if_pos (by subst_vars; exact Decidable.not_not.1 gz)]; subst_vars; rfl)
        | (rw [decide_eq_false (by subst_vars; exact gn), if_neg (by subst_vars; exact gn)]; subst_vars; rfl)
  · refine fn_spec Tryz.func160 rfl rfl Tryz.ntmps160 rfl (by kernel_rfl) rfl rfl ?_
    refine k_tFit (by omega) fun q1 h1 z1 => ?_
    try simp only [cn_q] at h1
    refine k_tFit (by omega) fun q2 h2 z2 => ?_
    try simp only [cn_q] at h2
    refine ⟨by kernel_rfl, ?_⟩
    refine ⟨fun e => by simp at e, fun _ => ?_⟩
    refine ⟨fun e => by simp at e, fun _ => ?_⟩
    refine ⟨fun _ => ?_, fun e => by simp at e⟩
    refine k_tOpp (by omega) fun b3 q3 e3 h3 z3 => ?_
    try simp only [cn_q] at e3 h3
    refine Eq.trans (b := turn _ (cn _)) ?_ rfl
    subst_vars; rfl
  · refine fn_spec Tryz.func160 rfl rfl Tryz.ntmps160 rfl (by kernel_rfl) rfl rfl ?_
    refine k_tFit (by omega) fun q1 h1 z1 => ?_
    try simp only [cn_q] at h1
    refine k_tFit (by omega) fun q2 h2 z2 => ?_
    try simp only [cn_q] at h2
    refine ⟨by kernel_rfl, ?_⟩
    refine ⟨fun e => by simp at e, fun _ => ?_⟩
    refine ⟨fun _ => ?_, fun e => by simp at e⟩
    refine k_tOpp (by omega) fun b3 q3 e3 h3 z3 => ?_
    try simp only [cn_q] at e3 h3
    refine Eq.trans (b := turn _ (cn _)) ?_ rfl
    subst_vars; rfl
  · refine fn_spec Tryz.func160 rfl rfl Tryz.ntmps160 rfl (by kernel_rfl) rfl rfl ?_
    refine k_tFit (by omega) fun q1 h1 z1 => ?_
    try simp only [cn_q] at h1
    refine k_tFit (by omega) fun q2 h2 z2 => ?_
    try simp only [cn_q] at h2
    refine ⟨by kernel_rfl, ?_⟩
    refine ⟨fun _ => ?_, fun e => by simp at e⟩
    refine k_of (0) (by omega) (by omega) fun q3 h3 z3 => ?_
    refine k_tOf (by omega) fun q4 h4 z4 => ?_
    try simp only [cn_q] at h4
    refine Eq.trans (b := turn _ (cn _)) ?_ rfl
    subst_vars; rfl
theorem qs_thnQ (h g : Bool) (p q : Rat) : qs (thnQ h g p q) ≤ 2 * qs p + 2 * qs q + 30 := by
  unfold thnQ
  have := qs_0
  have := qs_oppQ p
  have := qs_oppQ q
  have h1 := qs_mul p q
  have h2 := qs_sub ((1 : Int) : Rat) (p * q)
  have h3 := qs_add p q
  have h4 := qs_div (p + q) (((1 : Int) : Rat) - p * q)
  have := qs_one
  split
  · split <;> omega
  · split
    · omega
    · split <;> omega
theorem k_tThen (hx : x.z ≤ 17179869184) (hy : y.z ≤ 17179869184) (k : ∀ b q, b = thnH h g x.q y.q → q = thnQ h g x.q y.q → (cn q).z ≤ 2 * x.z + 2 * y.z + 34 → K (turn b (cn q))) : Ask 160 [turn h x, turn g y] K :=
  use (tThen_spec h g x y hx hy) rfl (k _ _ rfl rfl (by have := qs_thnQ h g x.q y.q; have := x.z1; have := y.z1; rw [cn_z]; omega))
end
end Go.Proofs.YtjhoddlhdoiifaaGreatDoor.eng

