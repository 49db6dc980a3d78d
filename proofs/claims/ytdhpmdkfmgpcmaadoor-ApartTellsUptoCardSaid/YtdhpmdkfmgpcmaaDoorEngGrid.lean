/- Contracts: package grid's sides, gantref1's boxes. -/
import Derived.Test.YtdhpmdkfmgpcmaaDoorEngL
import Derived.Test.YtdhpmdkfmgpcmaaDoorEngFl
namespace Go.Proofs.YtdhpmdkfmgpcmaaDoor.eng
open Go.RowKit num mem seg q held ratA ratB ratC ratD ratE vars ratF natC natD natI
section
variable {x y z t : RV} {K : AV → Prop}
/-- results of a call, one by one -/
def one3 (a b : Int) (c : Bool) : AV := .tup [.one (.d (.v (.int .i64 a))), .one (.d (.v (.int .i64 b))), .one (.d (.v (.bool c)))]
/-- the first and the last cell -/
def c0 (p : Rat) : Int := -(-p).floor - 1
def c1 (q : Rat) : Int := q.floor
def inG (p q : Rat) : Prop := ((-64 : Int) : Rat) < p ∧ q < ((64 : Int) : Rat)
instance (p q : Rat) : Decidable (inG p q) := by unfold inG; infer_instance
theorem flE_zero {q : Rat} : flE q = 0 ↔ q.floor.natAbs ≤ 9223372036854775807 := by
  unfold flE intE; split <;> simp <;> omega
theorem flV_is {q : Rat} (h : flE q = 0) : flV q = q.floor := by
  have h := flE_zero.1 h
  unfold flV intV
  rw [if_pos h]
  split <;> omega
theorem flV_range (q : Rat) : -9223372036854775807 ≤ flV q ∧ flV q ≤ 9223372036854775807 := by
  have := intV_range q.floor.natAbs
  unfold flV; split <;> omega
theorem c0_ge (p : Rat) : -64 ≤ c0 p ↔ ((-64 : Int) : Rat) < p := by
  unfold c0
  have h := @Rat.floor_lt_iff (-p) 64
  constructor
  · intro h1
    have := h.1 (by omega)
    have e : ((64 : Int) : Rat) = 64 := rfl
    have e2 : ((-64 : Int) : Rat) = -64 := rfl
    rw [e] at this; rw [e2]; grind
  · intro h1
    have e : ((64 : Int) : Rat) = 64 := rfl
    have e2 : ((-64 : Int) : Rat) = -64 := rfl
    rw [e2] at h1
    have := h.2 (by rw [e]; grind)
    omega
theorem c1_lt (q : Rat) : c1 q < 64 ↔ q < ((64 : Int) : Rat) := Rat.floor_lt_iff
theorem c0_le_c1 {p q : Rat} (h : p ≤ q) : c0 p ≤ c1 q := by
  unfold c0 c1
  have h1 : ((-(-p).floor - 1 : Int) : Rat) ≤ q := by
    have h2 := @Rat.floor_lt_iff (-p) ((-p).floor + 1)
    have h3 := h2.1 (by omega)
    have e : ((-(-p).floor - 1 : Int) : Rat) = -(((-p).floor + 1 : Int) : Rat) := by
      rw [← Rat.intCast_neg]; congr 1; omega
    rw [e]; grind
  exact Rat.le_floor_iff.2 h1
theorem side_ok {p q : Rat} (h : p ≤ q) : (((-64 ≤ c0 p ∧ c0 p < 64) ∧ (-64 ≤ c1 q ∧ c1 q < 64)) ↔ inG p q) := by
  have h1 := c0_le_c1 h
  have h2 := c0_ge p
  have h3 := c1_lt q
  unfold inG
  constructor
  · rintro ⟨⟨a, _⟩, _, b⟩; exact ⟨h2.1 a, h3.1 b⟩
  · rintro ⟨a, b⟩
    have a' := h2.2 a
    have b' := h3.2 b
    omega
theorem side_bad {p q : Rat} (h : p ≤ q) (hg : inG p q) : flE q = 0 ∧ flE (-p) = 0 := by
  have h1 := c0_le_c1 h
  have h2 := (c0_ge p).2 hg.1
  have h3 := (c1_lt q).2 hg.2
  unfold c0 at h1 h2
  unfold c1 at h1 h3
  constructor <;> (rw [flE_zero]; omega)
theorem sgn_ge0g {p q : Rat} : 0 ≤ sgnQ (p - q) ↔ q ≤ p := by
  have h : sgnQ (p - q) < 0 ↔ p - q < 0 := by
    rw [← sgn_neg]
    unfold sgnQ
    split
    · omega
    · split <;> omega
  constructor
  · intro h1
    have : ¬ p - q < 0 := fun h2 => by have := h.2 h2; omega
    grind
  · intro h1
    apply Int.not_lt.1
    intro h2
    have := h.1 h2
    grind
def bxOk (x y z t : RV) : Prop := x.q ≤ z.q ∧ y.q ≤ t.q
set_option maxRecDepth 100000 in
theorem BoxIs_spec (x y z t : RV) (hx : x.z ≤ 1099511627776) (hy : y.z ≤ 1099511627776) (hz : z.z ≤ 1099511627776) (ht : t.z ≤ 1099511627776) (b : Bool) (hb : b = true ↔ bxOk x y z t) : Spec Tryd.prog Tab 40 [box x y z t] (bool b) := by
  refine fn_spec Tryd.func40 rfl rfl Tryd.ntmps40 rfl (by kernel_rfl) rfl rfl ?_
  refine k_sub (by omega) (by omega) fun p hp zp => ?_
  refine k_sign (by omega) fun n hn => ?_
  rw [cn_q, hp] at hn
  refine fork (fun e => ?_) (fun e => ?_)
  · have h1 := of_decide_eq_true e
    rw [hn] at h1
    refine k_sub (by omega) (by omega) fun p2 hp2 zp2 => ?_
    refine k_sign (by omega) fun n2 hn2 => ?_
    rw [cn_q, hp2] at hn2
    refine Eq.trans (b := bool (decide (n2 ≥ 0))) ?_ rfl
    congr 1
    rw [Bool.eq_iff_iff, hb, decide_eq_true_eq, hn2, ge_iff_le, sgn_ge0g]
    exact ⟨fun h => h.2, fun h => ⟨sgn_ge0g.1 h1, h⟩⟩
  · have h1 := of_decide_eq_false e
    rw [hn] at h1
    refine Eq.trans (b := bool false) ?_ rfl
    congr 1
    rw [Bool.eq_iff_iff, hb]
    exact ⟨fun h => absurd (sgn_ge0g.2 h.1) h1, fun h => by simp at h⟩
theorem k_BoxIs_c (hx : x.z ≤ 1099511627776) (hy : y.z ≤ 1099511627776) (hz : z.z ≤ 1099511627776) (ht : t.z ≤ 1099511627776) (k1 : bxOk x y z t → K (bool true)) (k0 : ¬ bxOk x y z t → K (bool false)) : Ask 40 [box x y z t] K := by
  by_cases h : bxOk x y z t
  · exact use (BoxIs_spec x y z t hx hy hz ht true ⟨fun _ => h, fun _ => rfl⟩) rfl (k1 h)
  · exact use (BoxIs_spec x y z t hx hy hz ht false ⟨fun e => by simp at e, fun e => absurd e h⟩) rfl (k0 h)
end
end Go.Proofs.YtdhpmdkfmgpcmaaDoor.eng
