/- Plain law: turns by the tangents of half their angles: cosines and sines, the sum of two turns, the turn back. -/
import Derived.Test.YtdhpmdkfmgpcmaaDoorQ
namespace Go.Proofs.YtdhpmdkfmgpcmaaDoor.trq
open q

def tq (h : Bool) (p : Rat) : Rat := if h then ((0 : Int) : Rat) else p
def cosq (h : Bool) (p : Rat) : Rat := if h then ((-1 : Int) : Rat) else (((1 : Int) : Rat) - p * p) / (((1 : Int) : Rat) + p * p)
def sinq (p : Rat) : Rat := (p + p) / (((1 : Int) : Rat) + p * p)
def circ (h : Bool) (p : Rat) : Rat := if h then ((-1 : Int) : Rat) else ((2 : Int) : Rat) / (((1 : Int) : Rat) + (p + ((0 : Int) : Rat)) * (p + ((0 : Int) : Rat))) - ((1 : Int) : Rat)
def sirc (h : Bool) (p : Rat) : Rat := if h then ((0 : Int) : Rat) else (p + ((0 : Int) : Rat)) * (((2 : Int) : Rat) / (((1 : Int) : Rat) + (p + ((0 : Int) : Rat)) * (p + ((0 : Int) : Rat))))
theorem one_sq (p : Rat) : ((1 : Int) : Rat) + p * p ≠ 0 := by
  have h0 : 0 ≤ p * p := by
    rcases Rat.le_total (a := 0) (b := p) with h | h
    · exact Rat.mul_nonneg h h
    · have h' : 0 ≤ -p := by have := Rat.neg_le_neg h; simpa using this
      have := Rat.mul_nonneg h' h'
      rwa [Rat.neg_mul, Rat.mul_neg, Rat.neg_neg] at this
  intro h
  have h1 : (1 : Rat) + 0 ≤ 1 + p * p := Rat.add_le_add_left.2 h0
  rw [Rat.intCast_one] at h
  rw [h] at h1
  exact absurd h1 (by decide +kernel)

def oppH (q : Rat) : Bool := decide (q = 0)
def oppQ (q : Rat) : Rat := if q = 0 then ((0 : Int) : Rat) else ((-1 : Int) : Rat) / q
def tofH (c : Rat) : Bool := decide (((1 : Int) : Rat) + c = 0)
def tofQ (c s : Rat) : Rat := if ((1 : Int) : Rat) + c = 0 then ((0 : Int) : Rat) else s / (((1 : Int) : Rat) + c)
def thnH (h g : Bool) (p q : Rat) : Bool := if h then (if g then false else oppH q) else if g then oppH p else decide (((1 : Int) : Rat) - p * q = 0)
def thnQ (h g : Bool) (p q : Rat) : Rat := if h then (if g then ((0 : Int) : Rat) else oppQ q) else if g then oppQ p else if ((1 : Int) : Rat) - p * q = 0 then ((0 : Int) : Rat) else (p + q) / (((1 : Int) : Rat) - p * q)
/-- the four quotients by what they satisfy -/
theorem cs_facts (p : Rat) : cosq false p * (1 + p * p) = 1 - p * p ∧ sinq p * (1 + p * p) = 2 * p ∧ 1 + p * p ≠ 0 := by
  have h := one_sq p
  simp only [Rat.intCast_one] at h
  refine ⟨?_, ?_, h⟩
  · unfold cosq; simp only [Bool.false_eq_true, if_false, Rat.intCast_one]; grind
  · unfold sinq; simp only [Rat.intCast_one]; grind
theorem sin_zero : sinq ((0 : Int) : Rat) = 0 := by decide +kernel
theorem cos_half (p : Rat) : cosq true p = -1 := by unfold cosq; simp only [if_true]; decide +kernel
theorem tq_true (p : Rat) : tq true p = ((0 : Int) : Rat) := rfl
theorem tq_false (p : Rat) : tq false p = p := rfl
/-- the turn of a cosine and a sine, by what it satisfies -/
theorem tof_is {c s r : Rat} (h : 1 + c ≠ 0) (e : r * (1 + c) = s) : tofH c = false ∧ tofQ c s = r := by
  unfold tofH tofQ
  simp only [Rat.intCast_one]
  rw [if_neg h]
  exact ⟨decide_eq_false h, by grind⟩
theorem tof_half {c s : Rat} (h : 1 + c = 0) : tofH c = true ∧ tofQ c s = ((0 : Int) : Rat) := by
  unfold tofH tofQ
  simp only [Rat.intCast_one]
  rw [if_pos h]
  exact ⟨decide_eq_true h, rfl⟩
theorem thn_opp {c s q : Rat} (h1 : c * (1 + q * q) = - (1 - q * q)) (h2 : s * (1 + q * q) = - (2 * q)) (h3 : 1 + q * q ≠ 0) : tofH c = oppH q ∧ tofQ c s = oppQ q := by
  by_cases hq : q = 0
  · have : 1 + c = 0 := by grind
    have e := tof_half (s := s) this
    unfold oppH oppQ
    rw [if_pos hq]
    exact ⟨e.1.trans (decide_eq_true hq).symm, e.2⟩
  · have h : 1 + c ≠ 0 := by grind
    have e := tof_is (s := s) (r := (-1) / q) h (by grind)
    unfold oppH oppQ
    rw [if_neg hq]
    refine ⟨e.1.trans (decide_eq_false hq).symm, e.2.trans ?_⟩
    congr 1
theorem both_then (h g : Bool) (p q : Rat) :
    tofH (cosq h p * cosq g q - sinq (tq h p) * sinq (tq g q)) = thnH h g p q ∧
    tofQ (cosq h p * cosq g q - sinq (tq h p) * sinq (tq g q)) (sinq (tq h p) * cosq g q + cosq h p * sinq (tq g q)) = thnQ h g p q := by
  obtain ⟨a1, a2, a3⟩ := cs_facts p
  obtain ⟨b1, b2, b3⟩ := cs_facts q
  cases h <;> cases g <;> simp only [tq_true, tq_false, cos_half, sin_zero]
  · show _ = decide _ ∧ _ = (if _ then _ else _)
    simp only [Rat.intCast_one]
    by_cases hz : 1 - p * q = 0
    · rw [if_pos hz]
      have e := tof_half (c := cosq false p * cosq false q - sinq p * sinq q) (s := sinq p * cosq false q + cosq false p * sinq q) (by grind)
      exact ⟨e.1.trans (decide_eq_true hz).symm, e.2⟩
    · rw [if_neg hz]
      have e := tof_is (c := cosq false p * cosq false q - sinq p * sinq q) (s := sinq p * cosq false q + cosq false p * sinq q) (r := (p + q) / (1 - p * q)) (by grind) (by grind)
      exact ⟨e.1.trans (decide_eq_false hz).symm, e.2⟩
  · exact thn_opp (by grind) (by grind) a3
  · exact thn_opp (by grind) (by grind) b3
  · exact tof_is (r := ((0 : Int) : Rat)) (by grind) (by rw [Rat.intCast_zero]; grind)
theorem back_law (h : Bool) (p : Rat) : tofH (cosq h p) = h ∧ tofQ (cosq h p) (-sinq (tq h p)) = -tq h p := by
  cases h
  · obtain ⟨a1, a2, a3⟩ := cs_facts p
    exact tof_is (by grind) (by rw [tq_false]; grind)
  · have e := tof_half (c := cosq true p) (s := -sinq (tq true p)) (by rw [cos_half]; decide +kernel)
    exact ⟨e.1, e.2.trans (by rw [tq_true]; decide +kernel)⟩
theorem thn_zero (h : Bool) (p : Rat) : thnH h false p 0 = h ∧ thnQ h false p 0 = tq h p := by
  cases h
  · unfold thnH thnQ tq
    simp only [Bool.false_eq_true, if_false, Rat.intCast_one, Rat.mul_zero]
    exact ⟨by decide +kernel, by rw [if_neg (by decide +kernel)]; grind⟩
  · unfold thnH thnQ tq oppH oppQ
    simp
end Go.Proofs.YtdhpmdkfmgpcmaaDoor.trq
