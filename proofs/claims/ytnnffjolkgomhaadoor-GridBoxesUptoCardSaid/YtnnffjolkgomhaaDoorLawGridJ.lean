/- Contracts: package grid, gantref1's columns and cells; gantlaw1.GridBoxes returns true. Joined by wip/merge_tpl.py out of XEngGrid XEngGrid2 XEngGrid3 XLawGrid. -/
import Derived.Test.YtnnffjolkgomhaaDoorEngL
import Derived.Test.YtnnffjolkgomhaaDoorEngFl
import Derived.Test.YtnnffjolkgomhaaDoorEngTurn
namespace Go.Proofs.YtnnffjolkgomhaaDoor.eng
open Go.RowKit num mem seg q held ratA ratB ratC ratD ratE vars ratF natC natD natI
section
variable {x y z t : RV} {K : AV → Prop}
/-- results of a call, one by one -/
def one3 (a b : Int) (c : Bool) : AV := .tup [.one (.d (.v (.int .i64 a))), .one (.d (.v (.int .i64 b))), .one (.d (.v (.bool c)))]
set_option maxRecDepth 100000 in
theorem on_spec (n : Int) : Spec Tryd.prog Tab 162 [int n] (bool (decide (-64 ≤ n ∧ n < 64))) := by
  refine fn_spec Tryd.func162 rfl rfl Tryd.ntmps162 rfl (by kernel_rfl) rfl rfl ?_
  refine fork (fun e => ?_) (fun e => ?_)
  · refine Eq.trans (b := bool (decide (n < 64))) ?_ rfl
    have h := of_decide_eq_true e
    congr 1
    rw [decide_eq_decide]; omega
  · refine Eq.trans (b := bool false) ?_ rfl
    have h := of_decide_eq_false e
    rw [decide_eq_false (by omega)]
theorem k_on (n : Int) (k : ∀ b, b = decide (-64 ≤ n ∧ n < 64) → K (bool b)) : Ask 162 [int n] K := use (on_spec n) rfl (k _ rfl)
/-- the first and the last cell -/
def c0 (p : Rat) : Int := -(-p).floor - 1
def c1 (q : Rat) : Int := q.floor
def inG (p q : Rat) : Prop := ((-64 : Int) : Rat) < p ∧ q < ((64 : Int) : Rat)
instance (p q : Rat) : Decidable (inG p q) := by unfold inG; infer_instance
theorem flE_zero {q : Rat} : flE q = 0 ↔ q.floor.natAbs ≤ 9223372036854775807 := by
  unfold flE intE; split <;> simp <;> omega
theorem flV_is {q : Rat} (h : flE q = 0) : flV q = q.floor := by
  have h := flE_zero.1 h
  unfold flV intV
  rw [if_pos h]
  split <;> omega
theorem flV_range (q : Rat) : -9223372036854775807 ≤ flV q ∧ flV q ≤ 9223372036854775807 := by
  have := intV_range q.floor.natAbs
  unfold flV; split <;> omega
theorem c0_ge (p : Rat) : -64 ≤ c0 p ↔ ((-64 : Int) : Rat) < p := by
  unfold c0
  have h := @Rat.floor_lt_iff (-p) 64
  constructor
  · intro h1
    have := h.1 (by omega)
    have e : ((64 : Int) : Rat) = 64 := rfl
    have e2 : ((-64 : Int) : Rat) = -64 := rfl
    rw [e] at this; rw [e2]; grind
  · intro h1
    have e : ((64 : Int) : Rat) = 64 := rfl
    have e2 : ((-64 : Int) : Rat) = -64 := rfl
    rw [e2] at h1
    have := h.2 (by rw [e]; grind)
    omega
theorem c1_lt (q : Rat) : c1 q < 64 ↔ q < ((64 : Int) : Rat) := Rat.floor_lt_iff
theorem c0_le_c1 {p q : Rat} (h : p ≤ q) : c0 p ≤ c1 q := by
  unfold c0 c1
  have h1 : ((-(-p).floor - 1 : Int) : Rat) ≤ q := by
    have h2 := @Rat.floor_lt_iff (-p) ((-p).floor + 1)
    have h3 := h2.1 (by omega)
    have e : ((-(-p).floor - 1 : Int) : Rat) = -(((-p).floor + 1 : Int) : Rat) := by
      rw [← Rat.intCast_neg]; congr 1; omega
    rw [e]; grind
  exact Rat.le_floor_iff.2 h1
theorem side_ok {p q : Rat} (h : p ≤ q) : (((-64 ≤ c0 p ∧ c0 p < 64) ∧ (-64 ≤ c1 q ∧ c1 q < 64)) ↔ inG p q) := by
  have h1 := c0_le_c1 h
  have h2 := c0_ge p
  have h3 := c1_lt q
  unfold inG
  constructor
  · rintro ⟨⟨a, _⟩, _, b⟩; exact ⟨h2.1 a, h3.1 b⟩
  · rintro ⟨a, b⟩
    have a' := h2.2 a
    have b' := h3.2 b
    omega
theorem side_bad {p q : Rat} (h : p ≤ q) (hg : inG p q) : flE q = 0 ∧ flE (-p) = 0 := by
  have h1 := c0_le_c1 h
  have h2 := (c0_ge p).2 hg.1
  have h3 := (c1_lt q).2 hg.2
  unfold c0 at h1 h2
  unfold c1 at h1 h3
  constructor <;> (rw [flE_zero]; omega)
set_option maxHeartbeats 2000000 in
set_option maxRecDepth 100000 in
theorem sides1_spec (x y : RV) (hx : x.z ≤ 1099511627776) (hy : y.z ≤ 1099511627776) (hle : x.q ≤ y.q) (hg : inG x.q y.q) : Spec Tryd.prog Tab 103 [rat x, rat y] (one3 (c0 x.q) (c1 y.q) true) := by
  obtain ⟨z1, z2⟩ := side_bad hle hg
  obtain ⟨⟨g1, g2⟩, g3, g4⟩ := (side_ok hle).2 hg
  refine fn_spec Tryd.func103 rfl rfl Tryd.ntmps103 rfl (by kernel_rfl) rfl rfl ?_
  refine k_floor (by omega) fun v e hv he => ?_
  refine k_neg (by omega) fun p hp zp => ?_
  refine k_floor (by omega) fun v2 e2 hv2 he2 => ?_
  rw [cn_q, hp] at hv2 he2
  rw [flV_is z1] at hv
  rw [flV_is z2] at hv2
  have hw : IntKind.i64.wrap (IntKind.i64.wrap (0 - v2) - 1) = c0 x.q := by
    have hc : c0 x.q = -v2 - 1 := by rw [hv2]; rfl
    rw [wrap64 (0 - v2) (by omega) (by omega), wrap64 _ (by omega) (by omega)]; omega
  have hv' : v = c1 y.q := hv
  refine fork (fun _ => ?_) (fun e5 => absurd (show (e == 0) = false from e5) (by rw [he, z1]; decide))
  refine fork (fun _ => ?_) (fun e5 => absurd (show (e2 == 0) = false from e5) (by rw [he2, z2]; decide))
  refine k_on _ fun b1 h1 => ?_
  have h1' : b1 = true := by rw [h1, hw]; exact decide_eq_true ⟨g1, g2⟩
  subst h1'
  refine k_on v fun b2 h2 => ?_
  have h2' : b2 = true := by rw [h2, hv']; exact decide_eq_true ⟨g3, g4⟩
  subst h2'
  refine Eq.trans (b := one3 (IntKind.i64.wrap (IntKind.i64.wrap (0 - v2) - 1)) v true) ?_ rfl
  rw [hv', hw]
set_option maxRecDepth 100000 in
theorem sides0_spec (x y : RV) (hx : x.z ≤ 1099511627776) (hy : y.z ≤ 1099511627776) (hle : x.q ≤ y.q) (hg : ¬ inG x.q y.q) : ∃ a b, Spec Tryd.prog Tab 103 [rat x, rat y] (one3 a b false) := by
  refine ⟨IntKind.i64.wrap (IntKind.i64.wrap (0 - flV (-x.q)) - 1), flV y.q, ?_⟩
  refine fn_spec Tryd.func103 rfl rfl Tryd.ntmps103 rfl (by kernel_rfl) rfl rfl ?_
  refine k_floor (by omega) fun v e hv he => ?_
  refine k_neg (by omega) fun p hp zp => ?_
  refine k_floor (by omega) fun v2 e2 hv2 he2 => ?_
  rw [cn_q, hp] at hv2 he2
  have fin : ∀ b : Bool, b = false → one3 (IntKind.i64.wrap (IntKind.i64.wrap (0 - flV (-x.q)) - 1)) (flV y.q) false = one3 (IntKind.i64.wrap (IntKind.i64.wrap (0 - v2) - 1)) v b := fun b hb => by rw [hb, hv, hv2]
  refine fork (fun e5 => ?_) (fun _ => fin false rfl)
  have z1 : flE y.q = 0 := by rw [← he]; exact eq_of_beq e5
  refine fork (fun e6 => ?_) (fun _ => fin false rfl)
  have z2 : flE (-x.q) = 0 := by rw [← he2]; exact eq_of_beq e6
  have r2 := flV_range (-x.q)
  have hw : IntKind.i64.wrap (IntKind.i64.wrap (0 - v2) - 1) = c0 x.q := by
    have hc : c0 x.q = -v2 - 1 := by rw [hv2, flV_is z2]; rfl
    rw [← hv2] at r2
    rw [wrap64 (0 - v2) (by omega) (by omega), wrap64 _ (by omega) (by omega)]; omega
  refine k_on _ fun b1 h1 => ?_
  cases b1 with
  | false => exact fin false rfl
  | true =>
    refine k_on v fun b2 h2 => ?_
    refine fin b2 ?_
    rw [h2]
    refine decide_eq_false fun h3 => hg ((side_ok hle).1 ⟨?_, ?_⟩)
    · have := of_decide_eq_true h1.symm
      rw [hw] at this; exact this
    · rw [hv, flV_is z1] at h3; exact h3
theorem k_sides_c (hx : x.z ≤ 1099511627776) (hy : y.z ≤ 1099511627776) (hle : x.q ≤ y.q) (k1 : inG x.q y.q → K (one3 (c0 x.q) (c1 y.q) true)) (k0 : ¬ inG x.q y.q → ∀ a b, K (one3 a b false)) : Ask 103 [rat x, rat y] K := by
  by_cases h : inG x.q y.q
  · exact use (sides1_spec x y hx hy hle h) rfl (k1 h)
  · obtain ⟨a, b, hs⟩ := sides0_spec x y hx hy hle h
    exact use hs rfl (k0 h a b)
theorem sgn_ge0g {p q : Rat} : 0 ≤ sgnQ (p - q) ↔ q ≤ p := by
  have h : sgnQ (p - q) < 0 ↔ p - q < 0 := by
    rw [← sgn_neg]
    unfold sgnQ
    split
    · omega
    · split <;> omega
  constructor
  · intro h1
    have : ¬ p - q < 0 := fun h2 => by have := h.2 h2; omega
    grind
  · intro h1
    apply Int.not_lt.1
    intro h2
    have := h.1 h2
    grind
def bxOk (x y z t : RV) : Prop := x.q ≤ z.q ∧ y.q ≤ t.q
set_option maxRecDepth 100000 in
theorem BoxIs_spec (x y z t : RV) (hx : x.z ≤ 1099511627776) (hy : y.z ≤ 1099511627776) (hz : z.z ≤ 1099511627776) (ht : t.z ≤ 1099511627776) (b : Bool) (hb : b = true ↔ bxOk x y z t) : Spec Tryd.prog Tab 104 [box x y z t] (bool b) := by
  refine fn_spec Tryd.func104 rfl rfl Tryd.ntmps104 rfl (by kernel_rfl) rfl rfl ?_
  refine k_sub (by omega) (by omega) fun p hp zp => ?_
  refine k_sign (by omega) fun n hn => ?_
  rw [cn_q, hp] at hn
  refine fork (fun e => ?_) (fun e => ?_)
  · have h1 := of_decide_eq_true e
    rw [hn] at h1
    refine k_sub (by omega) (by omega) fun p2 hp2 zp2 => ?_
    refine k_sign (by omega) fun n2 hn2 => ?_
    rw [cn_q, hp2] at hn2
    refine Eq.trans (b := bool (decide (n2 ≥ 0))) ?_ rfl
    congr 1
    rw [Bool.eq_iff_iff, hb, decide_eq_true_eq, hn2, ge_iff_le, sgn_ge0g]
    exact ⟨fun h => h.2, fun h => ⟨sgn_ge0g.1 h1, h⟩⟩
  · have h1 := of_decide_eq_false e
    rw [hn] at h1
    refine Eq.trans (b := bool false) ?_ rfl
    congr 1
    rw [Bool.eq_iff_iff, hb]
    exact ⟨fun h => absurd (sgn_ge0g.2 h.1) h1, fun h => by simp at h⟩
theorem k_BoxIs_c (hx : x.z ≤ 1099511627776) (hy : y.z ≤ 1099511627776) (hz : z.z ≤ 1099511627776) (ht : t.z ≤ 1099511627776) (k1 : bxOk x y z t → K (bool true)) (k0 : ¬ bxOk x y z t → K (bool false)) : Ask 104 [box x y z t] K := by
  by_cases h : bxOk x y z t
  · exact use (BoxIs_spec x y z t hx hy hz ht true ⟨fun _ => h, fun _ => rfl⟩) rfl (k1 h)
  · exact use (BoxIs_spec x y z t hx hy hz ht false ⟨fun e => by simp at e, fun e => absurd e h⟩) rfl (k0 h)
end

def IL (l : List Int) : List (List D) := l.map fun (n : Int) => [D.v (.int .i64 n)]
def CL (l : List (Int × Int)) : List (List D) := l.map fun c => [D.v (.int .i64 c.1), D.v (.int .i64 c.2)]
def ilv (l : List Int) : AV := .val (.one (.d (.list (IL l))))
def clv (l : List (Int × Int)) : AV := .val (.one (.d (.list (CL l))))
def ivl (a b : Int) : List Int := (List.range (b - a + 1).toNat).map fun i : Nat => a + (i : Int)
theorem ivl_len (a b : Int) : (ivl a b).length = (b - a + 1).toNat := by simp [ivl]
theorem ivl_at {a b : Int} {i : Nat} (h : i < (b - a + 1).toNat) : (ivl a b)[i]? = some (a + (i : Int)) := by
  unfold ivl
  rw [List.getElem?_map, List.getElem?_range h]; rfl
def inC (p q : Rat) (n : Int) : Bool := decide ((n : Rat) ≤ q ∧ p ≤ ((n + 1 : Int) : Rat))
def colsN (p q : Rat) (i : Nat) : List Int := ((List.range i).map fun k : Nat => (k : Int) - 64).filter (inC p q)
theorem colsN_succ (p q : Rat) (i : Nat) : colsN p q (i + 1) = if inC p q ((i : Int) - 64) = true then colsN p q i ++ [(i : Int) - 64] else colsN p q i := by
  unfold colsN
  rw [List.range_succ, List.map_append, List.filter_append]
  simp only [List.map_cons, List.map_nil, List.filter_cons, List.filter_nil]
  split <;> simp
theorem colsN_len (p q : Rat) (i : Nat) : (colsN p q i).length ≤ i := by
  have := List.length_filter_le (inC p q) ((List.range i).map fun k : Nat => (k : Int) - 64)
  unfold colsN
  simpa using this
theorem inC_iff (p q : Rat) (n : Int) : inC p q n = true ↔ (c0 p ≤ n ∧ n ≤ c1 q) := by
  unfold inC c0 c1
  rw [decide_eq_true_eq, ← Rat.le_floor_iff]
  have h : p ≤ ((n + 1 : Int) : Rat) ↔ -(-p).floor - 1 ≤ n := by
    have h1 := @Rat.le_floor_iff (-(n + 1)) (-p)
    rw [Rat.intCast_neg] at h1
    constructor
    · intro h2
      have := h1.2 (by grind)
      omega
    · intro h2
      have := h1.1 (by omega)
      grind
  rw [h]
  exact ⟨fun ⟨a, b⟩ => ⟨b, a⟩, fun ⟨a, b⟩ => ⟨b, a⟩⟩
/-- in the grid, the columns are an interval -/
theorem cols_ivl {p q : Rat} (h : p ≤ q) (hg : inG p q) : colsN p q 128 = ivl (c0 p) (c1 q) := by
  have h1 := (c0_ge p).2 hg.1
  have h2 := (c1_lt q).2 hg.2
  have h3 := c0_le_c1 h
  have key : ∀ i : Nat, i ≤ 128 → colsN p q i = (List.range ((min ((i : Int) - 65) (c1 q)) - c0 p + 1).toNat).map fun k : Nat => c0 p + (k : Int) := by
    intro i
    induction i with
    | zero =>
      intro _
      have : ((min (((0 : Nat) : Int) - 65) (c1 q)) - c0 p + 1).toNat = 0 := by omega
      rw [this]; rfl
    | succ i ih =>
      intro hi
      rw [colsN_succ, ih (by omega)]
      by_cases hc : inC p q ((i : Int) - 64) = true
      · rw [if_pos hc]
        obtain ⟨g1, g2⟩ := (inC_iff _ _ _).1 hc
        have e1 : ((min ((i : Int) - 65) (c1 q)) - c0 p + 1).toNat = ((i : Int) - 64 - c0 p).toNat := by omega
        have e2 : ((min (((i + 1 : Nat) : Int) - 65) (c1 q)) - c0 p + 1).toNat = ((i : Int) - 64 - c0 p).toNat + 1 := by omega
        rw [e1, e2, List.range_succ, List.map_append]
        congr 1
        simp only [List.map_cons, List.map_nil]
        congr 1; omega
      · rw [if_neg hc]
        have hn : ¬ (c0 p ≤ (i : Int) - 64 ∧ (i : Int) - 64 ≤ c1 q) := fun h => hc ((inC_iff _ _ _).2 h)
        have e : ((min ((i : Int) - 65) (c1 q)) - c0 p + 1).toNat = ((min (((i + 1 : Nat) : Int) - 65) (c1 q)) - c0 p + 1).toNat := by omega
        rw [e]
  rw [key 128 (Nat.le_refl _)]
  unfold ivl
  have : ((min (((128 : Nat) : Int) - 65) (c1 q)) - c0 p + 1).toNat = (c1 q - c0 p + 1).toNat := by omega
  rw [this]
theorem IL_rows (l : List Int) : ∀ r, r ∈ IL l → r.length = 1 := by
  intro r hr
  obtain ⟨x, _, rfl⟩ := List.mem_map.1 hr
  rfl
section
variable {x y z t : RV} {K : AV → Prop}
set_option maxHeartbeats 2000000 in
set_option maxRecDepth 100000 in
theorem Columns_spec (x y : RV) (hx : x.z ≤ 1099511627776) (hy : y.z ≤ 1099511627776) : Spec Tryd.prog Tab 105 [rat x, rat y] (two (ilv (colsN x.q y.q 128)) (bool (decide (inG x.q y.q)))) := by
  refine fn_spec Tryd.func105 rfl rfl Tryd.ntmps105 rfl (by kernel_rfl) rfl rfl ?_
  refine ⟨Nat, fun i => [(2, .val (.one (.ptr 2 0))), (3, .val (.one (.ptr 3 0))), (6, .val (.one (.row 28 0))), (7, int ((i : Int) - 64))],
    fun i => [(2, .var 23 (rc x)), (3, .var 23 (rc y)), (28, .row 3 1 0 (IL (colsN x.q y.q i)) true)],
    fun i => i ≤ 128, fun i => 128 - i, 0, ?_, Nat.zero_le _, fun i hs => ?_⟩
  · constructor <;> (repeat' (first | exact rfl | exact True.intro | exact ⟨_, _, rfl⟩ | exact (by decide : 0 < 1) | apply And.intro))
  have hlen := colsN_len x.q y.q i
  refine ⟨fun e => ?_, fun e => ?_⟩
  · have hi : i < 128 := by have := of_decide_eq_true e; omega
    have hw : IntKind.i64.wrap (((i : Int) - 64) + 1) = ((i + 1 : Nat) : Int) - 64 := by rw [wrap64 _ (by omega) (by omega)]; omega
    have hsucc := colsN_succ x.q y.q i
    have fin0 : inC x.q y.q ((i : Int) - 64) ≠ true → IL (colsN x.q y.q (i + 1)) = IL (colsN x.q y.q i) := fun h => by rw [hsucc, if_neg h]
    refine k_I _ (by omega) (by omega) fun r hr zr => ?_
    refine k_cmp (by omega) (by omega) fun n1 hn1 => ?_
    rw [cn_q, hr] at hn1
    refine fork (fun e1 => ?_) (fun e1 => ?_)
    · have h1 := (cmp_le _ _).1 (by rw [← hn1]; exact of_decide_eq_true e1)
      refine k_I _ (by rw [hw]; omega) (by rw [hw]; omega) fun r2 hr2 zr2 => ?_
      rw [wrap64 _ (by omega) (by omega)] at hr2
      refine k_cmp (by omega) (by omega) fun n2 hn2 => ?_
      rw [cn_q, hr2] at hn2
      refine ⟨by kernel_rfl, ?_⟩
      refine ⟨fun e2 => ?_, fun e2 => ?_⟩
      · have h2 := (cmp_ge _ _).1 (by rw [← hn2]; exact of_decide_eq_true e2)
        have hin : inC x.q y.q ((i : Int) - 64) = true := decide_eq_true ⟨h1, h2⟩
        rw [if_pos hin] at hsucc
        refine ⟨⟨fun row hrow => by rw [List.mem_singleton.1 hrow]; rfl, ?_, ?_⟩, ?_⟩
        · show ((IL (colsN x.q y.q i)).length + 1) * 8 ≤ _
          unfold IL; rw [List.length_map]; omega
        · show (IL (colsN x.q y.q i)).length + 1 ≤ _
          unfold IL; rw [List.length_map]; omega
        refine ⟨i + 1, by omega, by simp only; omega, ?_⟩
        constructor <;> (repeat' (first | exact rfl | exact True.intro | apply And.intro))
        all_goals first
          | exact congrArg (fun n : Int => D.v (.int .i64 n)) hw.symm
          | (rw [hsucc]; unfold IL; rw [List.map_append]; rfl)
      · have h2 : ¬ x.q ≤ (((i : Int) - 64 + 1 : Int) : Rat) := fun h => of_decide_eq_false e2 (by rw [hn2]; exact (cmp_ge _ _).2 h)
        have hne : inC x.q y.q ((i : Int) - 64) ≠ true := fun h => h2 (of_decide_eq_true h).2
        refine ⟨i + 1, by omega, by simp only; omega, ?_⟩
        constructor <;> (repeat' (first | exact rfl | exact True.intro | apply And.intro))
        all_goals first
          | exact congrArg (fun n : Int => D.v (.int .i64 n)) hw.symm
          | exact fin0 hne
    · have h1 : ¬ ((((i : Int) - 64 : Int)) : Rat) ≤ y.q := fun h => of_decide_eq_false e1 (by rw [hn1]; exact (cmp_le _ _).2 h)
      have hne : inC x.q y.q ((i : Int) - 64) ≠ true := fun h => h1 (of_decide_eq_true h).1
      refine ⟨by kernel_rfl, ?_⟩
      refine ⟨fun e => by simp at e, fun _ => ?_⟩
      refine ⟨i + 1, by omega, by simp only; omega, ?_⟩
      constructor <;> (repeat' (first | exact rfl | exact True.intro | apply And.intro))
      all_goals first
        | exact congrArg (fun n : Int => D.v (.int .i64 n)) hw.symm
        | exact fin0 hne
  · have hi : i = 128 := by have := of_decide_eq_false e; omega
    subst hi
    refine k_I (-64) (by omega) (by omega) fun r hr zr => ?_
    refine k_cmp (by omega) (by omega) fun n1 hn1 => ?_
    rw [cn_q, hr] at hn1
    refine fork (fun e1 => ?_) (fun e1 => ?_)
    · have h1 := (cmp_pos _ _).1 (by rw [← hn1]; exact of_decide_eq_true e1)
      refine k_I 64 (by omega) (by omega) fun r2 hr2 zr2 => ?_
      refine k_cmp (by omega) (by omega) fun n2 hn2 => ?_
      rw [cn_q, hr2] at hn2
      refine ⟨by kernel_rfl, ?_⟩
      refine Eq.trans (b := two (ilv (colsN x.q y.q 128)) (bool (decide (n2 < 0)))) ?_ rfl
      have : decide (inG x.q y.q) = decide (n2 < 0) := by
        rw [decide_eq_decide, hn2, cmp_neg]
        exact ⟨fun h => h.2, fun h => ⟨h1, h⟩⟩
      rw [this]
    · have h1 : ¬ ((-64 : Int) : Rat) < x.q := fun h => of_decide_eq_false e1 (by rw [hn1]; exact (cmp_pos _ _).2 h)
      refine ⟨by kernel_rfl, ?_⟩
      refine Eq.trans (b := two (ilv (colsN x.q y.q 128)) (bool false)) ?_ rfl
      rw [decide_eq_false (fun h => h1 h.1)]
theorem k_Columns_c (hx : x.z ≤ 1099511627776) (hy : y.z ≤ 1099511627776) (hle : x.q ≤ y.q) (k1 : inG x.q y.q → K (two (ilv (ivl (c0 x.q) (c1 y.q))) (bool true))) (k0 : ¬ inG x.q y.q → ∀ l, K (two (ilv l) (bool false))) : Ask 105 [rat x, rat y] K := by
  have hs := Columns_spec x y hx hy
  by_cases h : inG x.q y.q
  · rw [decide_eq_true h, cols_ivl hle h] at hs; exact use hs rfl (k1 h)
  · rw [decide_eq_false h] at hs; exact use hs rfl (k0 h _)
end

/-- the cells of columns and rows -/
def cellsL (xs ys : List Int) : List (Int × Int) := ys.flatMap fun v => xs.map fun u => (u, v)
def rowC (xs : List Int) (v : Int) (i : Nat) : List (Int × Int) := (xs.take i).map fun u => (u, v)
theorem CL_app (l m : List (Int × Int)) : CL (l ++ m) = CL l ++ CL m := by simp [CL]
theorem cellsL_len (xs ys : List Int) : (cellsL xs ys).length = ys.length * xs.length := by
  unfold cellsL
  induction ys with
  | nil => simp
  | cons v ys ih => rw [List.flatMap_cons, List.length_append, ih, List.length_map, List.length_cons, Nat.add_mul, Nat.one_mul, Nat.add_comm]
theorem rowC_succ {xs : List Int} {v u : Int} {i : Nat} (h : xs[i]? = some u) : rowC xs v (i + 1) = rowC xs v i ++ [(u, v)] := by
  unfold rowC
  rw [List.take_add_one, h]; simp
theorem rowC_all {xs : List Int} {v : Int} {i : Nat} (h : xs.length ≤ i) : rowC xs v i = xs.map fun u => (u, v) := by unfold rowC; rw [List.take_of_length_le h]
theorem cellsL_succ {xs ys : List Int} {v : Int} {j : Nat} (h : ys[j]? = some v) : cellsL xs (ys.take (j + 1)) = cellsL xs (ys.take j) ++ xs.map fun u => (u, v) := by
  unfold cellsL
  rw [List.take_add_one, h, List.flatMap_append]; simp
theorem rowC_len (xs : List Int) (v : Int) (i : Nat) : (rowC xs v i).length ≤ xs.length := by unfold rowC; rw [List.length_map, List.length_take]; omega
theorem part_len (xs ys : List Int) (v : Int) (i j : Nat) (hx : xs.length ≤ 128) (hy : ys.length ≤ 128) : (CL (cellsL xs (ys.take j) ++ rowC xs v i)).length ≤ 32768 := by
  have h1 := rowC_len xs v i
  have h2 : (ys.take j).length * xs.length ≤ 128 * 128 := Nat.mul_le_mul (by rw [List.length_take]; omega) hx
  unfold CL
  rw [List.length_map, List.length_append, cellsL_len]; omega
section
variable {x y z t : RV} {K : AV → Prop}
instance (x y z t : RV) : Decidable (bxOk x y z t) := by unfold bxOk; infer_instance
/-- the cells and the error -/
def gridR (x y z t : RV) : List (Int × Int) × Int :=
  if bxOk x y z t then (if inG x.q z.q ∧ inG y.q t.q then (if (c1 z.q - c0 x.q + 1) * (c1 t.q - c0 y.q + 1) > 400 then ([], 2) else (cellsL (ivl (c0 x.q) (c1 z.q)) (ivl (c0 y.q) (c1 t.q)), 0)) else ([], 17)) else ([], 1)
theorem ivl_le {p q : Rat} (h : p ≤ q) (hg : inG p q) : -64 ≤ c0 p ∧ c1 q < 64 ∧ c0 p ≤ c1 q ∧ (ivl (c0 p) (c1 q)).length ≤ 128 := by
  have h1 := (c0_ge p).2 hg.1
  have h2 := (c1_lt q).2 hg.2
  have h3 := c0_le_c1 h
  rw [ivl_len]; omega
set_option maxHeartbeats 4000000 in
set_option maxRecDepth 100000 in
theorem gOf_spec (x y z t : RV) (hx : x.z ≤ 1099511627776) (hy : y.z ≤ 1099511627776) (hz : z.z ≤ 1099511627776) (ht : t.z ≤ 1099511627776) : Spec Tryd.prog Tab 15 [box x y z t] (two (clv (gridR x y z t).1) (int (gridR x y z t).2)) := by
  have bad : ¬ bxOk x y z t → two (clv (gridR x y z t).1) (int (gridR x y z t).2) = two (clv []) (int 1) := fun h => by unfold gridR; rw [if_neg h]
  have far : bxOk x y z t → ¬ (inG x.q z.q ∧ inG y.q t.q) → two (clv (gridR x y z t).1) (int (gridR x y z t).2) = two (clv []) (int 17) := fun h h2 => by unfold gridR; rw [if_pos h, if_neg h2]
  refine fn_spec Tryd.func15 rfl rfl Tryd.ntmps15 rfl (by kernel_rfl) rfl rfl ?_
  refine k_cmp (by omega) (by omega) fun n1 h1 => ?_
  refine fork (fun e1 => ?_) (fun e1 => ?_)
  · have hlt := (cmp_pos _ _).1 (by rw [← h1]; exact of_decide_eq_true e1)
    refine ⟨fun _ => ?_, fun e => by simp at e⟩
    exact bad (fun h => absurd h.1 (Rat.not_le.2 hlt))
  have hxz : x.q ≤ z.q := Rat.not_lt.1 (fun h => of_decide_eq_false e1 (by rw [h1]; exact (cmp_pos _ _).2 h))
  refine k_cmp (by omega) (by omega) fun n2 h2 => ?_
  refine ⟨fun e2 => ?_, fun e2 => ?_⟩
  · have hlt := (cmp_pos _ _).1 (by rw [← h2]; exact of_decide_eq_true e2)
    exact bad (fun h => absurd h.2 (Rat.not_le.2 hlt))
  have hyt : y.q ≤ t.q := Rat.not_lt.1 (fun h => of_decide_eq_false e2 (by rw [h2]; exact (cmp_pos _ _).2 h))
  refine k_sides_c (by omega) (by omega) hxz (fun g1 => ?_) (fun g1 a b => ?_)
  · refine k_sides_c (by omega) (by omega) hyt (fun g2 => ?_) (fun g2 a b => ?_)
    · obtain ⟨p1, p2, p3, p4⟩ := ivl_le hxz g1
      obtain ⟨r1, r2, r3, r4⟩ := ivl_le hyt g2
      refine ⟨fun e => by simp at e, fun _ => ?_⟩
      have hw1 : IntKind.i64.wrap (IntKind.i64.wrap (c1 z.q - c0 x.q) + 1) = c1 z.q - c0 x.q + 1 := by rw [wrap64 (c1 z.q - c0 x.q) (by omega) (by omega), wrap64 _ (by omega) (by omega)]
      have hw2 : IntKind.i64.wrap (IntKind.i64.wrap (c1 t.q - c0 y.q) + 1) = c1 t.q - c0 y.q + 1 := by rw [wrap64 (c1 t.q - c0 y.q) (by omega) (by omega), wrap64 _ (by omega) (by omega)]
      have hm : 0 ≤ (c1 z.q - c0 x.q + 1) * (c1 t.q - c0 y.q + 1) ∧ (c1 z.q - c0 x.q + 1) * (c1 t.q - c0 y.q + 1) ≤ 128 * 128 := ⟨Int.mul_nonneg (by omega) (by omega), Int.mul_le_mul (by omega) (by omega) (by omega) (by omega)⟩
      have hw3 : IntKind.i64.wrap (IntKind.i64.wrap (IntKind.i64.wrap (c1 z.q - c0 x.q) + 1) * IntKind.i64.wrap (IntKind.i64.wrap (c1 t.q - c0 y.q) + 1)) = (c1 z.q - c0 x.q + 1) * (c1 t.q - c0 y.q + 1) := by rw [hw1, hw2, wrap64 _ (by omega) (by omega)]
      refine ⟨fun e4 => ?_, fun e4 => ?_⟩
      · have h5 := of_decide_eq_true e4
        rw [hw3] at h5
        show two (clv (gridR x y z t).1) (int (gridR x y z t).2) = two (clv []) (int 2)
        unfold gridR
        rw [if_pos ⟨hxz, hyt⟩, if_pos ⟨g1, g2⟩, if_pos h5]
      · have h5 := of_decide_eq_false e4
        rw [hw3] at h5
        have hres : two (clv (gridR x y z t).1) (int (gridR x y z t).2) = two (clv (cellsL (ivl (c0 x.q) (c1 z.q)) (ivl (c0 y.q) (c1 t.q)))) (int 0) := by
          unfold gridR
          rw [if_pos ⟨hxz, hyt⟩, if_pos ⟨g1, g2⟩, if_neg h5]
        have lx := ivl_len (c0 x.q) (c1 z.q)
        have ly := ivl_len (c0 y.q) (c1 t.q)
        refine ⟨Nat, fun j => [(4, int (c0 x.q)), (5, int (c1 z.q)), (8, int (c1 t.q)), (10, .val (.one (.row 86 0))), (11, int (c0 y.q + (j : Int)))],
          fun j => [(86, .row 35 2 0 (CL (cellsL (ivl (c0 x.q) (c1 z.q)) ((ivl (c0 y.q) (c1 t.q)).take j))) true)],
          fun j => j ≤ (ivl (c0 y.q) (c1 t.q)).length, fun j => (ivl (c0 y.q) (c1 t.q)).length - j, 0, ?_, Nat.zero_le _, fun j hj => ?_⟩
        · constructor <;> (repeat' (first | exact rfl | exact True.intro | exact ⟨_, _, rfl⟩ | exact (by decide : 0 < 2) | apply And.intro))
          all_goals exact congrArg (fun n : Int => D.v (.int .i64 n)) (show c0 y.q + ((0 : Nat) : Int) = c0 y.q by omega)
        refine ⟨fun e5 => ?_, fun e5 => ?_⟩
        · have h6 := of_decide_eq_true e5
          have hjl : j < (c1 t.q - c0 y.q + 1).toNat := by omega
          have hat := ivl_at hjl
          refine ⟨Nat, fun i => [(4, int (c0 x.q)), (5, int (c1 z.q)), (8, int (c1 t.q)), (10, .val (.one (.row 86 0))), (11, int (c0 y.q + (j : Int))), (12, int (c0 x.q + (i : Int)))],
            fun i => [(86, .row 35 2 0 (CL (cellsL (ivl (c0 x.q) (c1 z.q)) ((ivl (c0 y.q) (c1 t.q)).take j) ++ rowC (ivl (c0 x.q) (c1 z.q)) (c0 y.q + (j : Int)) i)) true)],
            fun i => i ≤ (ivl (c0 x.q) (c1 z.q)).length, fun i => (ivl (c0 x.q) (c1 z.q)).length - i, 0, ?_, Nat.zero_le _, fun i hi => ?_⟩
          · constructor <;> (repeat' (first | exact rfl | exact True.intro | apply And.intro))
            all_goals first
              | exact congrArg (fun n : Int => D.v (.int .i64 n)) (show c0 x.q + ((0 : Nat) : Int) = c0 x.q by omega)
              | exact congrArg CL (List.append_nil _)
          have hpl := part_len (ivl (c0 x.q) (c1 z.q)) (ivl (c0 y.q) (c1 t.q)) (c0 y.q + (j : Int)) i j p4 r4
          refine ⟨fun e6 => ?_, fun e6 => ?_⟩
          · have h7 := of_decide_eq_true e6
            have hil : i < (c1 z.q - c0 x.q + 1).toNat := by omega
            have hati := ivl_at hil
            refine ⟨⟨fun row hrow => by rw [List.mem_singleton.1 hrow]; rfl, ?_, ?_⟩, ?_⟩
            · show ((CL (cellsL (ivl (c0 x.q) (c1 z.q)) ((ivl (c0 y.q) (c1 t.q)).take j) ++ rowC (ivl (c0 x.q) (c1 z.q)) (c0 y.q + (j : Int)) i)).length + 1) * 16 ≤ _
              omega
            · show (CL (cellsL (ivl (c0 x.q) (c1 z.q)) ((ivl (c0 y.q) (c1 t.q)).take j) ++ rowC (ivl (c0 x.q) (c1 z.q)) (c0 y.q + (j : Int)) i)).length + 1 ≤ _
              omega
            refine ⟨i + 1, by simp only; omega, by simp only; omega, ?_⟩
            constructor <;> (repeat' (first | exact rfl | exact True.intro | apply And.intro))
            all_goals first
              | exact congrArg (fun n : Int => D.v (.int .i64 n)) (show c0 x.q + ((i + 1 : Nat) : Int) = IntKind.i64.wrap (c0 x.q + (i : Int) + 1) by rw [wrap64 _ (by omega) (by omega)]; omega)
              | (rw [rowC_succ hati, ← List.append_assoc, CL_app]; exact rfl)
          · have h7 := of_decide_eq_false e6
            have hil : (ivl (c0 x.q) (c1 z.q)).length ≤ i := by omega
            refine ⟨j + 1, by simp only; omega, by simp only; omega, ?_⟩
            constructor <;> (repeat' (first | exact rfl | exact True.intro | apply And.intro))
            all_goals first
              | exact congrArg (fun n : Int => D.v (.int .i64 n)) (show c0 y.q + ((j + 1 : Nat) : Int) = IntKind.i64.wrap (c0 y.q + (j : Int) + 1) by rw [wrap64 _ (by omega) (by omega)]; omega)
              | (rw [cellsL_succ hat, rowC_all hil])
        · have h6 := of_decide_eq_false e5
          have hjl : (ivl (c0 y.q) (c1 t.q)).length ≤ j := by omega
          refine Eq.trans hres ?_
          refine Eq.trans (b := two (clv (cellsL (ivl (c0 x.q) (c1 z.q)) ((ivl (c0 y.q) (c1 t.q)).take j))) (int 0)) ?_ rfl
          rw [List.take_of_length_le hjl]
    · refine ⟨fun _ => ?_, fun e => by simp at e⟩
      exact far ⟨hxz, hyt⟩ (fun h => g2 h.2)
  · by_cases g2 : inG y.q t.q
    · refine k_sides_c (by omega) (by omega) hyt (fun g2 => ?_) (fun g3 => absurd g2 g3)
      refine ⟨fun _ => ?_, fun e => by simp at e⟩
      exact far ⟨hxz, hyt⟩ (fun h => g1 h.1)
    · refine k_sides_c (by omega) (by omega) hyt (fun g3 => absurd g3 g2) (fun g3 a b => ?_)
      refine ⟨fun _ => ?_, fun e => by simp at e⟩
      exact far ⟨hxz, hyt⟩ (fun h => g1 h.1)
end

section
variable {x y z t : RV} {K : AV → Prop}
theorem IL_at {l : List Int} {i : Nat} {n : Int} (h : l[i]? = some n) : (IL l)[i]? = some [D.v (.int .i64 n)] := by simp [IL, h]
theorem CL_at {l : List (Int × Int)} {i : Nat} {c : Int × Int} (h : l[i]? = some c) : (CL l)[i]? = some [D.v (.int .i64 c.1), D.v (.int .i64 c.2)] := by simp [CL, h]
set_option maxHeartbeats 4000000 in
set_option maxRecDepth 100000 in
theorem Cells_spec (x y z t : RV) (hx : x.z ≤ 1099511627776) (hy : y.z ≤ 1099511627776) (hz : z.z ≤ 1099511627776) (ht : t.z ≤ 1099511627776) : Spec Tryd.prog Tab 16 [box x y z t] (two (clv (gridR x y z t).1) (int (gridR x y z t).2)) := by
  have bad : ¬ bxOk x y z t → two (clv (gridR x y z t).1) (int (gridR x y z t).2) = two (clv []) (int 1) := fun h => by unfold gridR; rw [if_neg h]
  have far : bxOk x y z t → ¬ (inG x.q z.q ∧ inG y.q t.q) → two (clv (gridR x y z t).1) (int (gridR x y z t).2) = two (clv []) (int 17) := fun h h2 => by unfold gridR; rw [if_pos h, if_neg h2]
  refine fn_spec Tryd.func16 rfl rfl Tryd.ntmps16 rfl (by kernel_rfl) rfl rfl ?_
  refine k_BoxIs_c (by omega) (by omega) (by omega) (by omega) (fun hb => ?_) (fun hb => ?_)
  · refine ⟨fun e => by simp at e, fun _ => ?_⟩
    obtain ⟨hxz, hyt⟩ := hb
    refine k_Columns_c (by omega) (by omega) hxz (fun g1 => ?_) (fun g1 l => ?_)
    · refine k_Columns_c (by omega) (by omega) hyt (fun g2 => ?_) (fun g2 l => ?_)
      · obtain ⟨p1, p2, p3, p4⟩ := ivl_le hxz g1
        obtain ⟨r1, r2, r3, r4⟩ := ivl_le hyt g2
        have lx := ivl_len (c0 x.q) (c1 z.q)
        have ly := ivl_len (c0 y.q) (c1 t.q)
        have llx : (IL (ivl (c0 x.q) (c1 z.q))).length = (ivl (c0 x.q) (c1 z.q)).length := by unfold IL; rw [List.length_map]
        have lly : (IL (ivl (c0 y.q) (c1 t.q))).length = (ivl (c0 y.q) (c1 t.q)).length := by unfold IL; rw [List.length_map]
        refine ⟨fun e => by simp at e, fun _ => ?_⟩
        have hm : 0 ≤ (c1 z.q - c0 x.q + 1) * (c1 t.q - c0 y.q + 1) ∧ (c1 z.q - c0 x.q + 1) * (c1 t.q - c0 y.q + 1) ≤ 128 * 128 := ⟨Int.mul_nonneg (by omega) (by omega), Int.mul_le_mul (by omega) (by omega) (by omega) (by omega)⟩
        have hw3 : IntKind.i64.wrap (((IL (ivl (c0 x.q) (c1 z.q))).length : Int) * ((IL (ivl (c0 y.q) (c1 t.q))).length : Int)) = (c1 z.q - c0 x.q + 1) * (c1 t.q - c0 y.q + 1) := by
          rw [llx, lly, lx, ly, Int.toNat_of_nonneg (by omega), Int.toNat_of_nonneg (by omega), wrap64 _ (by omega) (by omega)]
        refine ⟨fun e4 => ?_, fun e4 => ?_⟩
        · have h5 := of_decide_eq_true e4
          rw [hw3] at h5
          show two (clv (gridR x y z t).1) (int (gridR x y z t).2) = two (clv []) (int 2)
          unfold gridR
          rw [if_pos ⟨hxz, hyt⟩, if_pos ⟨g1, g2⟩, if_pos h5]
        · have h5 := of_decide_eq_false e4
          rw [hw3] at h5
          have hres : two (clv (gridR x y z t).1) (int (gridR x y z t).2) = two (clv (cellsL (ivl (c0 x.q) (c1 z.q)) (ivl (c0 y.q) (c1 t.q)))) (int 0) := by
            unfold gridR
            rw [if_pos ⟨hxz, hyt⟩, if_pos ⟨g1, g2⟩, if_neg h5]
          generalize hX : ivl (c0 x.q) (c1 z.q) = xs at *
          generalize hY : ivl (c0 y.q) (c1 t.q) = ys at *
          refine ⟨Nat, fun j => [(4, ilv xs), (8, .val (.one (.row 67 0))), (50, ilv ys), (51, int ((ys.length : Nat) : Int)), (52, int (j : Int))],
            fun j => [(67, .row 35 2 0 (CL (cellsL xs (ys.take j))) true)],
            fun j => j ≤ ys.length, fun j => ys.length - j, 0, ?_, Nat.zero_le _, fun j hj => ?_⟩
          · constructor <;> (repeat' (first | exact rfl | exact True.intro | exact ⟨_, _, rfl⟩ | exact (by decide : 0 < 2) | apply And.intro))
            all_goals exact congrArg (fun n : Nat => D.v (.int .i64 (n : Int))) lly.symm
          refine ⟨fun e5 => ?_, fun e5 => ?_⟩
          · have h6 := of_decide_eq_true e5
            have hjl : j < ys.length := by omega
            obtain ⟨v, hv⟩ : ∃ v, ys[j]? = some v := ⟨_, List.getElem?_eq_getElem hjl⟩
            refine k_at [D.v (.int .i64 v)] (Int.natCast_nonneg _) (by rw [Int.toNat_natCast]; exact IL_at hv) rfl ?_
            refine ⟨Nat, fun i => [(4, ilv xs), (8, .val (.one (.row 67 0))), (10, int v), (50, ilv ys), (51, int ((ys.length : Nat) : Int)), (52, int (j : Int)), (56, ilv xs), (57, int ((xs.length : Nat) : Int)), (58, int (i : Int))],
              fun i => [(67, .row 35 2 0 (CL (cellsL xs (ys.take j) ++ rowC xs v i)) true)],
              fun i => i ≤ xs.length, fun i => xs.length - i, 0, ?_, Nat.zero_le _, fun i hi => ?_⟩
            · constructor <;> (repeat' (first | exact rfl | exact True.intro | apply And.intro))
              all_goals first
                | exact congrArg (fun n : Nat => D.v (.int .i64 (n : Int))) llx.symm
                | exact congrArg CL (List.append_nil _)
            have hpl := part_len xs ys v i j p4 r4
            refine ⟨fun e6 => ?_, fun e6 => ?_⟩
            · have h7 := of_decide_eq_true e6
              have hil : i < xs.length := by omega
              obtain ⟨u, hu⟩ : ∃ u, xs[i]? = some u := ⟨_, List.getElem?_eq_getElem hil⟩
              refine k_at [D.v (.int .i64 u)] (Int.natCast_nonneg _) (by rw [Int.toNat_natCast]; exact IL_at hu) rfl ?_
              refine ⟨⟨fun row hrow => by rw [List.mem_singleton.1 hrow]; rfl, ?_, ?_⟩, ?_⟩
              · show ((CL (cellsL xs (ys.take j) ++ rowC xs v i)).length + 1) * 16 ≤ _
                omega
              · show (CL (cellsL xs (ys.take j) ++ rowC xs v i)).length + 1 ≤ _
                omega
              refine ⟨i + 1, by simp only; omega, by simp only; omega, ?_⟩
              constructor <;> (repeat' (first | exact rfl | exact True.intro | apply And.intro))
              all_goals first
                | exact congrArg (fun n : Int => D.v (.int .i64 n)) (show ((i + 1 : Nat) : Int) = IntKind.i64.wrap ((i : Int) + 1) by rw [wrap64 _ (by omega) (by omega)]; omega)
                | (rw [rowC_succ hu, ← List.append_assoc, CL_app]; exact rfl)
            · have h7 := of_decide_eq_false e6
              have hil : xs.length ≤ i := by omega
              refine ⟨j + 1, by simp only; omega, by simp only; omega, ?_⟩
              constructor <;> (repeat' (first | exact rfl | exact True.intro | apply And.intro))
              all_goals first
                | exact congrArg (fun n : Int => D.v (.int .i64 n)) (show ((j + 1 : Nat) : Int) = IntKind.i64.wrap ((j : Int) + 1) by rw [wrap64 _ (by omega) (by omega)]; omega)
                | (rw [cellsL_succ hv, rowC_all hil])
          · have h6 := of_decide_eq_false e5
            have hjl : ys.length ≤ j := by omega
            refine Eq.trans hres ?_
            refine Eq.trans (b := two (clv (cellsL xs (ys.take j))) (int 0)) ?_ rfl
            rw [List.take_of_length_le hjl]
      · refine ⟨fun _ => ?_, fun e => by simp at e⟩
        exact far ⟨hxz, hyt⟩ (fun h => g2 h.2)
    · by_cases g2 : inG y.q t.q
      · refine k_Columns_c (by omega) (by omega) hyt (fun g2 => ?_) (fun g3 => absurd g2 g3)
        refine ⟨fun _ => ?_, fun e => by simp at e⟩
        exact far ⟨hxz, hyt⟩ (fun h => g1 h.1)
      · refine k_Columns_c (by omega) (by omega) hyt (fun g3 => absurd g3 g2) (fun g3 l2 => ?_)
        refine ⟨fun _ => ?_, fun e => by simp at e⟩
        exact far ⟨hxz, hyt⟩ (fun h => g1 h.1)
  · refine ⟨fun _ => ?_, fun e => by simp at e⟩
    exact bad hb
set_option maxRecDepth 100000 in
theorem EqualC_spec (l : List (Int × Int)) (hn : l.length ≤ 1099511627776) : Spec Tryd.prog Tab 17 [clv l, clv l] (bool true) := by
  have hl : (CL l).length = l.length := by unfold CL; rw [List.length_map]
  refine fn_spec Tryd.func17 rfl rfl Tryd.ntmps17 rfl (by kernel_rfl) rfl rfl ?_
  refine ⟨fun e => absurd (show ((((CL l).length : Nat) : Int) != (((CL l).length : Nat) : Int)) = true from e) (by simp), fun _ => ?_⟩
  refine ⟨Nat, fun i => [(0, clv l), (1, clv l), (12, int ((l.length : Nat) : Int)), (13, int (i : Int))], fun _ => [], fun i => i ≤ l.length, fun i => l.length - i, 0, ?_, Nat.zero_le _, fun i hi => ?_⟩
  · constructor <;> (repeat' (first | exact rfl | exact True.intro | apply And.intro))
    all_goals exact congrArg (fun n : Nat => D.v (.int .i64 (n : Int))) hl.symm
  refine ⟨fun e => ?_, fun e => ?_⟩
  · have h1 := of_decide_eq_true e
    have hil : i < l.length := by omega
    obtain ⟨c, hc⟩ : ∃ c, l[i]? = some c := ⟨_, List.getElem?_eq_getElem hil⟩
    refine k_at [D.v (.int .i64 c.1), D.v (.int .i64 c.2)] (Int.natCast_nonneg _) (by rw [Int.toNat_natCast]; exact CL_at hc) rfl ?_
    refine k_at [D.v (.int .i64 c.1), D.v (.int .i64 c.2)] (Int.natCast_nonneg _) (by rw [Int.toNat_natCast]; exact CL_at hc) rfl ?_
    refine k_neq_cell_t ⟨rfl, rfl⟩ ?_
    refine ⟨by kernel_rfl, ?_⟩
    refine ⟨fun e => by simp at e, fun _ => ?_⟩
    refine ⟨i + 1, by simp only; omega, by simp only; omega, ?_⟩
    constructor <;> (repeat' (first | exact rfl | exact True.intro | apply And.intro))
    all_goals exact congrArg (fun n : Int => D.v (.int .i64 n)) (show ((i + 1 : Nat) : Int) = IntKind.i64.wrap ((i : Int) + 1) by rw [wrap64 _ (by omega) (by omega)]; omega)
  · exact rfl
theorem gridR_zero : gridR z0 z0 z0 z0 = ([(-1, -1), (0, -1), (-1, 0), (0, 0)], 0) := by
  have h1 : bxOk z0 z0 z0 z0 := ⟨Rat.le_refl, Rat.le_refl⟩
  have h2 : inG z0.q z0.q := by rw [z0_q]; decide +kernel
  have h3 : c0 z0.q = -1 := by rw [z0_q]; decide +kernel
  have h4 : c1 z0.q = 0 := by rw [z0_q]; decide +kernel
  unfold gridR
  rw [if_pos h1, if_pos ⟨h2, h2⟩, h3, h4]
  decide
theorem gridR_len (x y z t : RV) : (gridR x y z t).1.length ≤ 1099511627776 := by
  unfold gridR
  split
  · rename_i hb
    split
    · rename_i hg
      split
      · decide
      · obtain ⟨_, _, _, p4⟩ := ivl_le hb.1 hg.1
        obtain ⟨_, _, _, r4⟩ := ivl_le hb.2 hg.2
        simp only
        rw [cellsL_len]
        have := Nat.mul_le_mul r4 p4
        omega
    · decide
  · decide
theorem k_gOf (hx : x.z ≤ 1099511627776) (hy : y.z ≤ 1099511627776) (hz : z.z ≤ 1099511627776) (ht : t.z ≤ 1099511627776) (r : List (Int × Int) × Int) (hr : gridR x y z t = r) (k : K (two (clv r.1) (int r.2))) : Ask 15 [box x y z t] K := by
  subst hr; exact use (gOf_spec x y z t hx hy hz ht) rfl k
set_option maxRecDepth 100000 in
theorem gridBegun_spec : Spec Tryd.prog Tab 14 [] (bool true) := by
  refine fn_spec Tryd.func14 rfl rfl Tryd.ntmps14 rfl (by kernel_rfl) rfl rfl ?_
  have hz0 : z0.z ≤ 1099511627776 := by rw [z0_z]; omega
  refine k_gOf (x := z0) (y := z0) (z := z0) (t := z0) hz0 hz0 hz0 hz0 _ gridR_zero ?_
  refine k_at [D.v (.int .i64 (-1)), D.v (.int .i64 (-1))] (by decide) rfl rfl ?_
  refine k_eql_cell_t ⟨rfl, rfl⟩ ?_
  exact rfl
set_option maxRecDepth 100000 in
theorem gridBoxes_spec (x y z t : RV) (hx : x.z ≤ 1048576) (hy : y.z ≤ 1048576) (hz : z.z ≤ 1048576) (ht : t.z ≤ 1048576) : Spec Tryd.prog Tab 3 [box x y z t] (bool true) := by
  refine fn_spec Tryd.func3 rfl rfl Tryd.ntmps3 rfl (by kernel_rfl) rfl rfl ?_
  refine use gridBegun_spec rfl ?_
  refine ⟨fun e => by simp at e, fun _ => ?_⟩
  refine k_gOf (by omega) (by omega) (by omega) (by omega) _ rfl ?_
  refine use (Cells_spec x y z t (by omega) (by omega) (by omega) (by omega)) rfl ?_
  refine fork (fun _ => ?_) (fun e => absurd (show ((gridR x y z t).2 == (gridR x y z t).2) = false from e) (by simp))
  refine use (EqualC_spec (gridR x y z t).1 (gridR_len x y z t)) rfl ?_
  exact rfl
theorem gridBoxes_walk (s0 : Bool) (a0 d0 : ByteArray) (s1 : Bool) (a1 d1 : ByteArray) (s2 : Bool) (a2 d2 : ByteArray) (s3 : Bool) (a3 d3 : ByteArray) (N : Nat) (w : World) (_ : 1 ≤ N) (hN : N ≤ 1048576)
    (k1 : a0.size ≤ N) (k2 : d0.size ≤ N) (k3 : a1.size ≤ N) (k4 : d1.size ≤ N) (k5 : a2.size ≤ N) (k6 : d2.size ≤ N) (k7 : a3.size ≤ N) (k8 : d3.size ≤ N) (hT : Tab w) :
    Calls Tryd.prog 3 #[.agg #[.bool s0, .string a0, .string d0, .bool s1, .string a1, .string d1, .bool s2, .string a2, .string d2, .bool s3, .string a3, .string d3]] w fun e w' => e = .returned (.bool true) ∧ Below w.heap.size w w' :=
  have zz : ∀ (s : Bool) (a d : ByteArray), a.size ≤ N → d.size ≤ N → RV.z ⟨s, a, d⟩ ≤ 1048576 := fun s a d h1 h2 => by unfold RV.z; exact Nat.le_trans (Nat.max_le.2 ⟨h1, h2⟩) hN
  calls_of_spec (gridBoxes_spec ⟨s0, a0, d0⟩ ⟨s1, a1, d1⟩ ⟨s2, a2, d2⟩ ⟨s3, a3, d3⟩ (zz _ _ _ k1 k2) (zz _ _ _ k3 k4) (zz _ _ _ k5 k6) (zz _ _ _ k7 k8)) rfl hT
    (pvl_rel (vs := [box ⟨s0, a0, d0⟩ ⟨s1, a1, d1⟩ ⟨s2, a2, d2⟩ ⟨s3, a3, d3⟩]) rfl)
end

end Go.Proofs.YtnnffjolkgomhaaDoor.eng
