/- Contracts: package apart. Printed by wip/gp_apart.py. -/
import Derived.Test.YtdhpmdkfmgpcmaaDoorGrpP
namespace Go.Proofs.YtdhpmdkfmgpcmaaDoor.eng
open Go.RowKit num mem seg q held ratA ratB ratC ratD ratE vars ratF
section
variable {K : AV → Prop}
/-- the square of the distance of a point from a segment, as package apart computes it -/
def distQ (p a b : poly.Pt) : Rat :=
  if (p.1 - a.1) * (b.1 - a.1) + (p.2 - a.2) * (b.2 - a.2) ≤ 0 then (p.1 - a.1) * (p.1 - a.1) + (p.2 - a.2) * (p.2 - a.2)
  else if (b.1 - a.1) * (b.1 - a.1) + (b.2 - a.2) * (b.2 - a.2) ≤ (p.1 - a.1) * (b.1 - a.1) + (p.2 - a.2) * (b.2 - a.2) then (p.1 - b.1) * (p.1 - b.1) + (p.2 - b.2) * (p.2 - b.2)
  else ((b.1 - a.1) * (p.2 - a.2) - (b.2 - a.2) * (p.1 - a.1)) * ((b.1 - a.1) * (p.2 - a.2) - (b.2 - a.2) * (p.1 - a.1)) / ((b.1 - a.1) * (b.1 - a.1) + (b.2 - a.2) * (b.2 - a.2))
theorem qs_dot2 (a b c d : Rat) {B : Nat} (ha : qs a ≤ B) (hb : qs b ≤ B) (hc : qs c ≤ B) (hd : qs d ≤ B) : qs (a * b + c * d) ≤ 4 * B + 3 ∧ qs (a * b - c * d) ≤ 4 * B + 3 := by
  have := qs_mul a b; have := qs_mul c d; have := qs_add (a * b) (c * d); have := qs_sub (a * b) (c * d); omega
theorem qs_dist {p a b : poly.Pt} {B : Nat} (hp : qs p.1 ≤ B ∧ qs p.2 ≤ B) (ha : qs a.1 ≤ B ∧ qs a.2 ≤ B) (hb : qs b.1 ≤ B ∧ qs b.2 ≤ B) : qs (distQ p a b) ≤ 24 * B + 40 := by
  have s1 := qs_sub p.1 a.1; have s2 := qs_sub p.2 a.2; have s3 := qs_sub p.1 b.1; have s4 := qs_sub p.2 b.2; have s5 := qs_sub b.1 a.1; have s6 := qs_sub b.2 a.2
  have d1 := qs_dot2 (B := 2 * B + 1) (p.1 - a.1) (p.1 - a.1) (p.2 - a.2) (p.2 - a.2) (by omega) (by omega) (by omega) (by omega)
  have d2 := qs_dot2 (B := 2 * B + 1) (p.1 - b.1) (p.1 - b.1) (p.2 - b.2) (p.2 - b.2) (by omega) (by omega) (by omega) (by omega)
  have d3 := qs_dot2 (B := 2 * B + 1) (b.1 - a.1) (p.2 - a.2) (b.2 - a.2) (p.1 - a.1) (by omega) (by omega) (by omega) (by omega)
  have d4 := qs_dot2 (B := 2 * B + 1) (b.1 - a.1) (b.1 - a.1) (b.2 - a.2) (b.2 - a.2) (by omega) (by omega) (by omega) (by omega)
  unfold distQ
  split
  · omega
  · split
    · omega
    · generalize (b.1 - a.1) * (p.2 - a.2) - (b.2 - a.2) * (p.1 - a.1) = c at *
      generalize (b.1 - a.1) * (b.1 - a.1) + (b.2 - a.2) * (b.2 - a.2) = z at *
      have := qs_mul c c; have := qs_div (c * c) z; omega
set_option maxHeartbeats 1000000 in
set_option maxRecDepth 100000 in
theorem toEdge_spec (x y z t u v : RV) (hx : x.z ≤ 67108864) (hy : y.z ≤ 67108864) (hz : z.z ≤ 67108864) (ht : t.z ≤ 67108864) (hu : u.z ≤ 67108864) (hv : v.z ≤ 67108864) : Spec Tryd.prog Tab 160 [pair x y, pair z t, pair u v] (rat (cn (distQ (x.q, y.q) (z.q, t.q) (u.q, v.q)))) := by
  refine fn_spec Tryd.func160 rfl rfl Tryd.ntmps160 rfl (by kernel_rfl) rfl rfl ?_
  refine k_vSub (x := u) (y := v) (z := z) (t := t) (by omega) (by omega) (by omega) (by omega) (fun p17 q17 hk_17_2 hk_17_3 hk_17_4 hk_17_5 => ?_)
  simp only [cn_z] at hk_17_4
  simp only [cn_z] at hk_17_5
  refine k_vSub (x := x) (y := y) (z := z) (t := t) (by omega) (by omega) (by omega) (by omega) (fun p20 q20 hk_20_2 hk_20_3 hk_20_4 hk_20_5 => ?_)
  simp only [cn_z] at hk_20_4
  simp only [cn_z] at hk_20_5
  refine ⟨by kernel_rfl, ?_⟩
  refine k_vDot (x := cn p20) (y := cn q20) (z := cn p17) (t := cn q17) (by simp only [cn_z]; omega) (by simp only [cn_z]; omega) (by simp only [cn_z]; omega) (by simp only [cn_z]; omega) (fun q23 hk_23_1 hk_23_2 => ?_)
  try simp only [cn_q] at hk_23_1
  simp only [cn_z] at hk_23_2
  refine k_vDot (x := cn p17) (y := cn q17) (z := cn p17) (t := cn q17) (by simp only [cn_z]; omega) (by simp only [cn_z]; omega) (by simp only [cn_z]; omega) (by simp only [cn_z]; omega) (fun q26 hk_26_1 hk_26_2 => ?_)
  try simp only [cn_q] at hk_26_1
  simp only [cn_z] at hk_26_2
  refine k_sign (x := cn q23) (by simp only [cn_z]; omega) fun n29 h29 => ?_
  simp only [cn_q] at h29
  refine ⟨fun e1 => ?_, fun e1 => ?_⟩
  · have f27 : q23 ≤ 0 := (sg0_le h29).1 (of_decide_eq_true e1)
    refine k_vDot (x := cn p20) (y := cn q20) (z := cn p20) (t := cn q20) (by simp only [cn_z]; omega) (by simp only [cn_z]; omega) (by simp only [cn_z]; omega) (by simp only [cn_z]; omega) (fun q33 hk_33_1 hk_33_2 => ?_)
    try simp only [cn_q] at hk_33_1
    simp only [cn_z] at hk_33_2
    refine Eq.trans (b := rat (cn q33)) ?_ rfl
    subst_vars; rw [distQ, if_pos f27]
  · have f27 : ¬ (q23 ≤ 0) := fun hh => of_decide_eq_false e1 ((sg0_le h29).2 hh)
    refine k_cmp (x := cn q23) (y := cn q26) (by simp only [cn_z]; omega) (by simp only [cn_z]; omega) fun n37 h37 => ?_
    simp only [cn_q] at h37
    refine ⟨fun e2 => ?_, fun e2 => ?_⟩
    · have f34 : q26 ≤ q23 := (cq_ge h37).1 (of_decide_eq_true e2)
      refine k_vSub (x := x) (y := y) (z := u) (t := v) (by omega) (by omega) (by omega) (by omega) (fun p41 q41 hk_41_2 hk_41_3 hk_41_4 hk_41_5 => ?_)
      simp only [cn_z] at hk_41_4
      simp only [cn_z] at hk_41_5
      refine k_vDot (x := cn p41) (y := cn q41) (z := cn p41) (t := cn q41) (by simp only [cn_z]; omega) (by simp only [cn_z]; omega) (by simp only [cn_z]; omega) (by simp only [cn_z]; omega) (fun q44 hk_44_1 hk_44_2 => ?_)
      try simp only [cn_q] at hk_44_1
      simp only [cn_z] at hk_44_2
      refine Eq.trans (b := rat (cn q44)) ?_ rfl
      subst_vars; rw [distQ, if_neg f27, if_pos f34]
    · have f34 : ¬ (q26 ≤ q23) := fun hh => of_decide_eq_false e2 ((cq_ge h37).2 hh)
      refine k_vCross (x := cn p17) (y := cn q17) (z := cn p20) (t := cn q20) (by simp only [cn_z]; omega) (by simp only [cn_z]; omega) (by simp only [cn_z]; omega) (by simp only [cn_z]; omega) (fun q47 hk_47_1 hk_47_2 => ?_)
      try simp only [cn_q] at hk_47_1
      simp only [cn_z] at hk_47_2
      refine k_mul (x := cn q47) (y := cn q47) (by simp only [cn_z]; omega) (by simp only [cn_z]; omega) fun q51 h51 z51 => ?_
      simp only [cn_z] at z51
      simp only [cn_q] at h51
      refine k_div (x := cn q51) (y := cn q26) (by simp only [cn_z]; omega) (by simp only [cn_z]; omega) (by
        rw [cn_q, hk_26_1]
        intro h0
        apply f34
        rw [hk_26_1, h0]
        exact Rat.le_of_lt (Rat.not_le.1 f27)) fun q53 h53 z53 => ?_
      simp only [cn_z] at z53
      simp only [cn_q] at h53
      refine ⟨by kernel_rfl, ?_⟩
      refine Eq.trans (b := rat (cn q53)) ?_ rfl
      subst_vars; rw [distQ, if_neg f27, if_neg f34]
theorem k_toEdge {x y z t u v : RV} (hx : x.z ≤ 67108864) (hy : y.z ≤ 67108864) (hz : z.z ≤ 67108864) (ht : t.z ≤ 67108864) (hu : u.z ≤ 67108864) (hv : v.z ≤ 67108864) (k : ∀ q, q = distQ (x.q, y.q) (z.q, t.q) (u.q, v.q) → K (rat (cn q))) : Ask 160 [pair x y, pair z t, pair u v] K := use (toEdge_spec x y z t u v hx hy hz ht hu hv) rfl (k _ rfl)
/-- the squares of the distances of a point from the first k edges of n -/
def nearL (P : Nat → poly.Pt) (n : Nat) (p : poly.Pt) (k : Nat) : List Rat := (List.range k).map fun i => distQ p (P i) (P ((i + 1) % n))
def nearQ (l : List (RV × RV)) (p : poly.Pt) : Rat := lowL (distQ p (pts l 0) (pts l 1)) (nearL (pts l) l.length p l.length)
theorem nearL_succ (P : Nat → poly.Pt) (n : Nat) (p : poly.Pt) (k : Nat) : nearL P n p (k + 1) = nearL P n p k ++ [distQ p (P k) (P ((k + 1) % n))] := by simp [nearL, List.range_succ]
theorem nearL_z {l : List (RV × RV)} (hl : ∀ p, p ∈ l → p.1.z ≤ 67108864 ∧ p.2.z ≤ 67108864) {p : poly.Pt} (hp : qs p.1 ≤ 67108865 ∧ qs p.2 ≤ 67108865) (n k : Nat) : ∀ a, a ∈ nearL (pts l) n p k → qs a ≤ 1610612800 := by
  intro a ha
  obtain ⟨i, _, rfl⟩ := List.mem_map.1 ha
  exact Nat.le_trans (qs_dist hp (pts_z hl i) (pts_z hl _)) (by decide)
theorem nearQ_z {l : List (RV × RV)} (hl : ∀ p, p ∈ l → p.1.z ≤ 67108864 ∧ p.2.z ≤ 67108864) {p : poly.Pt} (hp : qs p.1 ≤ 67108865 ∧ qs p.2 ≤ 67108865) : qs (nearQ l p) ≤ 1610612800 :=
  qs_lowL (Nat.le_trans (qs_dist hp (pts_z hl 0) (pts_z hl 1)) (by decide)) (nearL_z hl hp _ _)
theorem rv_z {x : RV} (h : x.z ≤ 67108864) : qs x.q ≤ 67108865 := by have := x.z1; omega
set_option maxHeartbeats 1000000 in
set_option maxRecDepth 100000 in
theorem near_spec (x y : RV) (l : List (RV × RV)) (hx : x.z ≤ 67108864) (hy : y.z ≤ 67108864) (hl : ∀ p, p ∈ l → p.1.z ≤ 67108864 ∧ p.2.z ≤ 67108864) (h2 : 2 ≤ l.length) (hn : l.length ≤ 1073741824) : Spec Tryd.prog Tab 101 [pair x y, .val (.one (.d (.list (List.map rdv l))))] (rat (cn (nearQ l (x.q, y.q)))) := by
  have hL : (List.map rdv l).length = l.length := List.length_map ..
  refine fn_spec Tryd.func101 rfl rfl Tryd.ntmps101 rfl (by kernel_rfl) rfl rfl ?_
  obtain ⟨x10, hx10⟩ : ∃ vv, l[0]? = some vv := ⟨_, List.getElem?_eq_getElem (by first | omega | exact Nat.mod_lt _ (by omega))⟩
  have hzx10 := hl x10 (List.mem_of_getElem? hx10)
  have hpx10 := pts_at hx10
  refine k_ix 0 [D.v (.bool x10.1.s), D.v (.string x10.1.a), D.v (.string x10.1.d), D.v (.bool x10.2.s), D.v (.string x10.2.a), D.v (.string x10.2.d)] (by first | rfl | omega | (rw [wrap64 _ (by omega) (by omega)]; omega)) (map_at hx10) rfl ?_
  obtain ⟨x13, hx13⟩ : ∃ vv, l[1]? = some vv := ⟨_, List.getElem?_eq_getElem (by first | omega | exact Nat.mod_lt _ (by omega))⟩
  have hzx13 := hl x13 (List.mem_of_getElem? hx13)
  have hpx13 := pts_at hx13
  refine k_ix 1 [D.v (.bool x13.1.s), D.v (.string x13.1.a), D.v (.string x13.1.d), D.v (.bool x13.2.s), D.v (.string x13.2.a), D.v (.string x13.2.d)] (by first | rfl | omega | (rw [wrap64 _ (by omega) (by omega)]; omega)) (map_at hx13) rfl ?_
  refine k_toEdge (x := x) (y := y) (z := x10.1) (t := x10.2) (u := x13.1) (v := x13.2) (by omega) (by omega) (by omega) (by omega) (by omega) (by omega) (fun q15 hk_15_1 => ?_)
  refine ⟨by kernel_rfl, ?_⟩
  obtain rfl : q15 = distQ (x.q, y.q) (pts l 0) (pts l 1) := by rw [hk_15_1, hpx10, hpx13]
  refine ⟨Nat, fun i => [(1, .val (.one (.d (.list (List.map rdv l))))), (2, .val (.one (.ptr 2 0))), (4, .val (.one (.ptr 4 0))), (5, .val (.one (.ptr 5 0))), (16, .val (.one (.d (.list (List.map rdv l))))), (17, int ((List.map rdv l).length : Int)), (18, int (i : Int))],
    fun i => [(2, .var 43 [.d (.v (.bool x.s)), .d (.v (.string x.a)), .d (.v (.string x.d)), .d (.v (.bool y.s)), .d (.v (.string y.a)), .d (.v (.string y.d))]), (4, .var 23 [.d (.v (.bool z0.s)), .d (.v (.string z0.a)), .d (.v (.string z0.d))]), (5, .var 23 [.d (.v (.bool (cn (lowL (distQ (x.q, y.q) (pts l 0) (pts l 1)) (nearL (pts l) l.length (x.q, y.q) i))).s)), .d (.v (.string (cn (lowL (distQ (x.q, y.q) (pts l 0) (pts l 1)) (nearL (pts l) l.length (x.q, y.q) i))).a)), .d (.v (.string (cn (lowL (distQ (x.q, y.q) (pts l 0) (pts l 1)) (nearL (pts l) l.length (x.q, y.q) i))).d))])], fun i => i ≤ l.length, fun i => l.length - i, 0, ?_, Nat.zero_le _, fun i hs => ?_⟩
  · constructor <;> (repeat' (first | exact rfl | exact True.intro | exact ⟨_, _, rfl⟩ | exact (by decide) | apply And.intro))
    all_goals first | exact congrArg (fun n : Int => D.v (.int .i64 n)) (by omega) | exact congrArg (fun n : Int => D.v (.int .i64 n)) (by rw [wrap64 _ (by omega) (by omega)]; omega) | (simp; done)
  have hb := qs_lowL (Nat.le_trans (qs_dist (p := (x.q, y.q)) ⟨rv_z hx, rv_z hy⟩ (pts_z hl 0) (pts_z hl 1)) (by decide)) (nearL_z hl (p := (x.q, y.q)) ⟨rv_z hx, rv_z hy⟩ l.length i)
  have hb2 := Nat.le_trans (qs_dist (p := (x.q, y.q)) ⟨rv_z hx, rv_z hy⟩ (pts_z hl i) (pts_z hl ((i + 1) % l.length))) (show _ ≤ 1610612800 by decide)
  refine ⟨fun e1 => ?_, fun e1 => ?_⟩
  · have f19 : (i : Int) < ((List.map rdv l).length : Int) := of_decide_eq_true e1
    obtain ⟨x21, hx21⟩ : ∃ vv, l[i]? = some vv := ⟨_, List.getElem?_eq_getElem (by first | omega | exact Nat.mod_lt _ (by omega))⟩
    have hzx21 := hl x21 (List.mem_of_getElem? hx21)
    have hpx21 := pts_at hx21
    refine k_ix i [D.v (.bool x21.1.s), D.v (.string x21.1.a), D.v (.string x21.1.d), D.v (.bool x21.2.s), D.v (.string x21.2.a), D.v (.string x21.2.d)] (by first | rfl | omega | (rw [wrap64 _ (by omega) (by omega)]; omega)) (map_at hx21) rfl ?_
    refine k_remW (i + 1) l.length (by first | rfl | omega | (rw [wrap64 _ (by omega) (by omega)]; omega)) (by first | rfl | omega | (rw [wrap64 _ (by omega) (by omega)]; omega)) (by omega) ?_
    obtain ⟨x32, hx32⟩ : ∃ vv, l[((i + 1) % l.length)]? = some vv := ⟨_, List.getElem?_eq_getElem (by first | omega | exact Nat.mod_lt _ (by omega))⟩
    have hzx32 := hl x32 (List.mem_of_getElem? hx32)
    have hpx32 := pts_at hx32
    refine k_ix ((i + 1) % l.length) [D.v (.bool x32.1.s), D.v (.string x32.1.a), D.v (.string x32.1.d), D.v (.bool x32.2.s), D.v (.string x32.2.a), D.v (.string x32.2.d)] (by first | rfl | omega | (rw [wrap64 _ (by omega) (by omega)]; omega)) (map_at hx32) rfl ?_
    refine k_toEdge (x := x) (y := y) (z := x21.1) (t := x21.2) (u := x32.1) (v := x32.2) (by omega) (by omega) (by omega) (by omega) (by omega) (by omega) (fun q34 hk_34_1 => ?_)
    rw [hpx21, hpx32, ← hk_34_1] at hb2
    refine k_min (x := cn (lowL (distQ (x.q, y.q) (pts l 0) (pts l 1)) (nearL (pts l) l.length (x.q, y.q) i))) (y := cn q34) (by simp only [cn_z]; omega) (by simp only [cn_z]; omega) fun q35 h35 z35 => ?_
    simp only [cn_z] at z35
    simp only [cn_q] at h35
    refine ⟨by kernel_rfl, ?_⟩
    obtain rfl : q35 = lowL (distQ (x.q, y.q) (pts l 0) (pts l 1)) (nearL (pts l) l.length (x.q, y.q) (i + 1)) := by rw [h35, nearL_succ, lowL_snoc, hpx21, hpx32, hk_34_1]
    refine ⟨i + 1, by omega, by simp only; omega, ?_⟩
    constructor <;> (repeat' (first | exact rfl | exact True.intro | apply And.intro))
    all_goals first
      | exact congrArg (fun n : Int => D.v (.int .i64 n)) (by rw [wrap64 _ (by omega) (by omega)]; omega)
      | exact congrArg (fun n : Int => D.v (.int .i64 n)) (by omega)
  · have f19 : ¬ ((i : Int) < ((List.map rdv l).length : Int)) := of_decide_eq_false e1
    refine Eq.trans (b := rat (cn (lowL (distQ (x.q, y.q) (pts l 0) (pts l 1)) (nearL (pts l) l.length (x.q, y.q) i)))) ?_ rfl
    rw [nearQ, show l.length = i by omega]
theorem k_near {x y : RV} {l : List (RV × RV)} (hx : x.z ≤ 67108864) (hy : y.z ≤ 67108864) (hl : ∀ p, p ∈ l → p.1.z ≤ 67108864 ∧ p.2.z ≤ 67108864) (h2 : 2 ≤ l.length) (hn : l.length ≤ 1073741824) (k : ∀ q, q = nearQ l (x.q, y.q) → qs q ≤ 1610612800 → K (rat (cn q))) : Ask 101 [pair x y, vecs l] K := use (near_spec x y l hx hy hl h2 hn) rfl (k _ rfl (nearQ_z hl ⟨rv_z hx, rv_z hy⟩))
noncomputable def bothE (a b : List (RV × RV)) : Int := if convE 64 a = 0 then convE 64 b else convE 64 a
theorem bothE_ok {a b : List (RV × RV)} : bothE a b = 0 ↔ convE 64 a = 0 ∧ convE 64 b = 0 := by
  unfold bothE
  by_cases h : convE 64 a = 0 <;> simp [h]
def outN (P : Nat → poly.Pt) (n i : Nat) : poly.Pt := ((P ((i + 1) % n)).2 - (P i).2, -((P ((i + 1) % n)).1 - (P i).1))
def farTo (P : Nat → poly.Pt) (n : Nat) (Q : Nat → poly.Pt) (i k : Nat) : Bool := (List.range k).all fun j => decide (0 < (outN P n i).1 * ((Q j).1 - (P i).1) + (outN P n i).2 * ((Q j).2 - (P i).2))
theorem farTo_succ (P : Nat → poly.Pt) (n : Nat) (Q : Nat → poly.Pt) (i k : Nat) : farTo P n Q i (k + 1) = (farTo P n Q i k && decide (0 < (outN P n i).1 * ((Q k).1 - (P i).1) + (outN P n i).2 * ((Q k).2 - (P i).2))) := by simp [farTo, List.range_succ]
/-- the first edge beyond which another polygon lies -/
def bey (a b : List (RV × RV)) : Option Nat := (List.range a.length).find? fun i => farTo (pts a) a.length (pts b) i b.length
def beyV (a b : List (RV × RV)) : RV × RV := match bey a b with
  | some i => (cn (outN (pts a) a.length i).1, cn (outN (pts a) a.length i).2)
  | none => (z0, z0)
theorem find_first {n : Nat} {p : Nat → Bool} {i : Nat} (hi : i < n) (h : ∀ j, j < i → p j = false) (hp : p i = true) : (List.range n).find? p = some i := by
  rw [List.find?_range_eq_some]
  exact ⟨hp, List.mem_range.2 hi, fun j hj => by rw [h j hj]; rfl⟩
theorem find_none {n : Nat} {p : Nat → Bool} (h : ∀ j, j < n → p j = false) : (List.range n).find? p = none := by
  rw [List.find?_eq_none]
  intro x hx; rw [h x (List.mem_range.1 hx)]; exact Bool.false_ne_true
theorem bey_z {a b : List (RV × RV)} (ha : ∀ p, p ∈ a → p.1.z ≤ 67108864 ∧ p.2.z ≤ 67108864) : (beyV a b).1.z ≤ 134217740 ∧ (beyV a b).2.z ≤ 134217740 := by
  unfold beyV
  split
  · rename_i i _
    have h1 := pts_z ha i; have h2 := pts_z ha ((i + 1) % a.length)
    have := qs_sub (pts a ((i + 1) % a.length)).2 (pts a i).2; have := qs_sub (pts a ((i + 1) % a.length)).1 (pts a i).1; have := qs_neg ((pts a ((i + 1) % a.length)).1 - (pts a i).1)
    simp only [cn_z, outN]; omega
  · exact ⟨Nat.zero_le _, Nat.zero_le _⟩
set_option maxRecDepth 100000 in
theorem both_spec (a b : List (RV × RV)) (ha : ∀ p, p ∈ a → p.1.z ≤ 67108864 ∧ p.2.z ≤ 67108864) (hb : ∀ p, p ∈ b → p.1.z ≤ 67108864 ∧ p.2.z ≤ 67108864) (hna : a.length ≤ 1073741824) (hnb : b.length ≤ 1073741824) : Spec Tryd.prog Tab 99 [.val (.one (.d (.list (List.map rdv a)))), .val (.one (.d (.list (List.map rdv b))))] (int (bothE a b)) := by
  refine fn_spec Tryd.func99 rfl rfl Tryd.ntmps99 rfl (by kernel_rfl) rfl rfl ?_
  refine k_Convex (l := a) (by assumption) (by omega) (fun n7 hk_7_1 => ?_)
  refine ⟨fun e1 => ?_, fun e1 => ?_⟩
  · have f9 : n7 ≠ 0 := bne_t e1
    refine Eq.trans (b := int n7) ?_ rfl
    rw [bothE, if_neg (by omega)]; exact congrArg int (by omega)
  · have f9 : ¬ (n7 ≠ 0) := fun hh => hh (bne_f e1)
    refine k_Convex (l := b) (by assumption) (by omega) (fun n12 hk_12_1 => ?_)
    refine Eq.trans (b := int n12) ?_ rfl
    rw [bothE, if_pos (by omega)]; exact congrArg int (by omega)
theorem k_both {a b : List (RV × RV)} (ha : ∀ p, p ∈ a → p.1.z ≤ 67108864 ∧ p.2.z ≤ 67108864) (hb : ∀ p, p ∈ b → p.1.z ≤ 67108864 ∧ p.2.z ≤ 67108864) (hna : a.length ≤ 1073741824) (hnb : b.length ≤ 1073741824) (k : ∀ n, n = bothE a b → K (int n)) : Ask 99 [vecs a, vecs b] K := use (both_spec a b ha hb hna hnb) rfl (k _ rfl)
set_option maxHeartbeats 2000000 in
set_option maxRecDepth 100000 in
theorem beyond_spec (a b : List (RV × RV)) (ha : ∀ p, p ∈ a → p.1.z ≤ 67108864 ∧ p.2.z ≤ 67108864) (hb : ∀ p, p ∈ b → p.1.z ≤ 67108864 ∧ p.2.z ≤ 67108864) (hna : a.length ≤ 1073741824) (hnb : b.length ≤ 1073741824) : Spec Tryd.prog Tab 100 [.val (.one (.d (.list (List.map rdv a)))), .val (.one (.d (.list (List.map rdv b))))] (.tup [.agg [.d (.v (.bool ((beyV a b).1).s)), .d (.v (.string ((beyV a b).1).a)), .d (.v (.string ((beyV a b).1).d)), .d (.v (.bool ((beyV a b).2).s)), .d (.v (.string ((beyV a b).2).a)), .d (.v (.string ((beyV a b).2).d))], .one (.d (.v (.bool ((bey a b).isSome))))]) := by
  have hLa : (List.map rdv a).length = a.length := List.length_map ..
  have hLb : (List.map rdv b).length = b.length := List.length_map ..
  refine fn_spec Tryd.func100 rfl rfl Tryd.ntmps100 rfl (by kernel_rfl) rfl rfl ?_
  refine ⟨Nat, fun i => [(0, .val (.one (.d (.list (List.map rdv a))))), (1, .val (.one (.d (.list (List.map rdv b))))), (4, .val (.one (.ptr 4 0))), (13, .val (.one (.d (.list (List.map rdv a))))), (14, int ((List.map rdv a).length : Int)), (15, int (i : Int))],
    fun i => [(4, .var 43 [.d (.v (.bool z0.s)), .d (.v (.string z0.a)), .d (.v (.string z0.d)), .d (.v (.bool z0.s)), .d (.v (.string z0.a)), .d (.v (.string z0.d))])], fun i => i ≤ a.length ∧ ∀ i', i' < i → farTo (pts a) a.length (pts b) i' b.length = false, fun i => a.length - i, 0, ?_, ⟨Nat.zero_le _, fun i' h => absurd h (Nat.not_lt_zero _)⟩, fun i hs => ?_⟩
  · constructor <;> (repeat' (first | exact rfl | exact True.intro | exact ⟨_, _, rfl⟩ | exact (by decide) | apply And.intro))
    all_goals first | exact congrArg (fun n : Int => D.v (.int .i64 n)) (by omega) | exact congrArg (fun n : Int => D.v (.int .i64 n)) (by rw [wrap64 _ (by omega) (by omega)]; omega) | (simp; done)
  obtain ⟨hi, h1⟩ := hs
  refine ⟨fun e1 => ?_, fun e1 => ?_⟩
  · have f16 : (i : Int) < ((List.map rdv a).length : Int) := of_decide_eq_true e1
    obtain ⟨x18, hx18⟩ : ∃ vv, a[i]? = some vv := ⟨_, List.getElem?_eq_getElem (by first | omega | exact Nat.mod_lt _ (by omega))⟩
    have hzx18 := ha x18 (List.mem_of_getElem? hx18)
    have hpx18 := pts_at hx18
    refine k_ix i [D.v (.bool x18.1.s), D.v (.string x18.1.a), D.v (.string x18.1.d), D.v (.bool x18.2.s), D.v (.string x18.2.a), D.v (.string x18.2.d)] (by first | rfl | omega | (rw [wrap64 _ (by omega) (by omega)]; omega)) (map_at hx18) rfl ?_
    refine k_remW (i + 1) a.length (by first | rfl | omega | (rw [wrap64 _ (by omega) (by omega)]; omega)) (by first | rfl | omega | (rw [wrap64 _ (by omega) (by omega)]; omega)) (by omega) ?_
    obtain ⟨x26, hx26⟩ : ∃ vv, a[((i + 1) % a.length)]? = some vv := ⟨_, List.getElem?_eq_getElem (by first | omega | exact Nat.mod_lt _ (by omega))⟩
    have hzx26 := ha x26 (List.mem_of_getElem? hx26)
    have hpx26 := pts_at hx26
    refine k_ix ((i + 1) % a.length) [D.v (.bool x26.1.s), D.v (.string x26.1.a), D.v (.string x26.1.d), D.v (.bool x26.2.s), D.v (.string x26.2.a), D.v (.string x26.2.d)] (by first | rfl | omega | (rw [wrap64 _ (by omega) (by omega)]; omega)) (map_at hx26) rfl ?_
    refine k_vSub (x := x26.1) (y := x26.2) (z := x18.1) (t := x18.2) (by omega) (by omega) (by omega) (by omega) (fun p29 q29 hk_29_2 hk_29_3 hk_29_4 hk_29_5 => ?_)
    simp only [cn_z] at hk_29_4
    simp only [cn_z] at hk_29_5
    refine ⟨by kernel_rfl, ?_⟩
    refine k_neg (x := cn p29) (by simp only [cn_z]; omega) fun q34 h34 z34 => ?_
    simp only [cn_z] at z34
    simp only [cn_q] at h34
    refine ⟨by kernel_rfl, ?_⟩
    refine ⟨Nat, fun k => [(0, .val (.one (.d (.list (List.map rdv a))))), (1, .val (.one (.d (.list (List.map rdv b))))), (4, .val (.one (.ptr 4 0))), (7, .val (.one (.ptr 7 0))), (9, .val (.one (.ptr 9 0))), (10, bool (farTo (pts a) a.length (pts b) i k)), (13, .val (.one (.d (.list (List.map rdv a))))), (14, int ((List.map rdv a).length : Int)), (15, int (i : Int)), (36, .val (.one (.d (.list (List.map rdv b))))), (37, int ((List.map rdv b).length : Int)), (38, int (k : Int))],
      fun k => [(4, .var 43 [.d (.v (.bool z0.s)), .d (.v (.string z0.a)), .d (.v (.string z0.d)), .d (.v (.bool z0.s)), .d (.v (.string z0.a)), .d (.v (.string z0.d))]), (7, .var 43 [.d (.v (.bool x18.1.s)), .d (.v (.string x18.1.a)), .d (.v (.string x18.1.d)), .d (.v (.bool x18.2.s)), .d (.v (.string x18.2.a)), .d (.v (.string x18.2.d))]), (9, .var 43 [.d (.v (.bool (cn q29).s)), .d (.v (.string (cn q29).a)), .d (.v (.string (cn q29).d)), .d (.v (.bool (cn q34).s)), .d (.v (.string (cn q34).a)), .d (.v (.string (cn q34).d))])], fun k => k ≤ b.length, fun k => b.length - k, 0, ?_, Nat.zero_le _, fun k hs => ?_⟩
    · constructor <;> (repeat' (first | exact rfl | exact True.intro | exact ⟨_, _, rfl⟩ | exact (by decide) | apply And.intro))
      all_goals first | exact congrArg (fun n : Int => D.v (.int .i64 n)) (by omega) | exact congrArg (fun n : Int => D.v (.int .i64 n)) (by rw [wrap64 _ (by omega) (by omega)]; omega) | (simp; done)
    refine ⟨fun e2 => ?_, fun e2 => ?_⟩
    · have f39 : (k : Int) < ((List.map rdv b).length : Int) := of_decide_eq_true e2
      obtain ⟨x40, hx40⟩ : ∃ vv, b[k]? = some vv := ⟨_, List.getElem?_eq_getElem (by first | omega | exact Nat.mod_lt _ (by omega))⟩
      have hzx40 := hb x40 (List.mem_of_getElem? hx40)
      have hpx40 := pts_at hx40
      refine k_ix k [D.v (.bool x40.1.s), D.v (.string x40.1.a), D.v (.string x40.1.d), D.v (.bool x40.2.s), D.v (.string x40.2.a), D.v (.string x40.2.d)] (by first | rfl | omega | (rw [wrap64 _ (by omega) (by omega)]; omega)) (map_at hx40) rfl ?_
      refine fork (fun e3 => ?_) (fun e3 => ?_)
      · have f43 : farTo (pts a) a.length (pts b) i k = true := e3
        refine k_vSub (x := x40.1) (y := x40.2) (z := x18.1) (t := x18.2) (by omega) (by omega) (by omega) (by omega) (fun p47 q47 hk_47_2 hk_47_3 hk_47_4 hk_47_5 => ?_)
        simp only [cn_z] at hk_47_4
        simp only [cn_z] at hk_47_5
        refine k_vDot (x := cn q29) (y := cn q34) (z := cn p47) (t := cn q47) (by simp only [cn_z]; omega) (by simp only [cn_z]; omega) (by simp only [cn_z]; omega) (by simp only [cn_z]; omega) (fun q48 hk_48_1 hk_48_2 => ?_)
        try simp only [cn_q] at hk_48_1
        simp only [cn_z] at hk_48_2
        refine k_sign (x := cn q48) (by simp only [cn_z]; omega) fun n49 h49 => ?_
        simp only [cn_q] at h49
        refine ⟨by kernel_rfl, ?_⟩
        have hfar : farTo (pts a) a.length (pts b) i (k + 1) = (decide (n49 > 0)) := by
          rw [farTo_succ, f43]
          rw [Bool.true_and]; refine decide_eq_decide.2 ((sg0_gt h49).trans ?_).symm; rw [hk_48_1, hk_47_2, hk_47_3, h34]; unfold outN; rw [hpx18, hpx26, hpx40, hk_29_2, hk_29_3]
        refine ⟨k + 1, by omega, by simp only; omega, ?_⟩
        constructor <;> (repeat' (first | exact rfl | exact True.intro | apply And.intro))
        all_goals first
          | exact congrArg (fun b => D.v (.bool b)) hfar
          | exact congrArg (fun n : Int => D.v (.int .i64 n)) (by rw [wrap64 _ (by omega) (by omega)]; omega)
          | exact congrArg (fun n : Int => D.v (.int .i64 n)) (by omega)
      · have f43 : ¬ (farTo (pts a) a.length (pts b) i k = true) := fun hh => by rw [hh] at e3; exact Bool.noConfusion e3
        refine ⟨by kernel_rfl, ?_⟩
        have hfar : farTo (pts a) a.length (pts b) i (k + 1) = false := by rw [farTo_succ, Bool.eq_false_iff.2 f43]; rfl
        refine ⟨k + 1, by omega, by simp only; omega, ?_⟩
        constructor <;> (repeat' (first | exact rfl | exact True.intro | apply And.intro))
        all_goals first
          | exact congrArg (fun b => D.v (.bool b)) hfar
          | exact congrArg (fun n : Int => D.v (.int .i64 n)) (by rw [wrap64 _ (by omega) (by omega)]; omega)
          | exact congrArg (fun n : Int => D.v (.int .i64 n)) (by omega)
    · have f39 : ¬ ((k : Int) < ((List.map rdv b).length : Int)) := of_decide_eq_false e2
      have hk2 : b.length = k := by omega
      refine ⟨fun e4 => ?_, fun e4 => ?_⟩
      · have f53 : farTo (pts a) a.length (pts b) i k = true := e4
        refine Eq.trans (b := .tup [.agg [.d (.v (.bool (cn q29).s)), .d (.v (.string (cn q29).a)), .d (.v (.string (cn q29).d)), .d (.v (.bool (cn q34).s)), .d (.v (.string (cn q34).a)), .d (.v (.string (cn q34).d))], .one (.d (.v (.bool (true))))]) ?_ rfl
        have he : bey a b = some i := find_first (by omega) h1 (by rw [hk2]; exact f53)
        have hv : beyV a b = (cn q29, cn q34) := by
          simp only [beyV, he]; unfold outN; rw [hpx18, hpx26, h34]; subst_vars; rfl
        rw [he, hv]; rfl
      · have f53 : ¬ (farTo (pts a) a.length (pts b) i k = true) := fun hh => by rw [hh] at e4; exact Bool.noConfusion e4
        have hno : farTo (pts a) a.length (pts b) i b.length = false := by rw [hk2]; exact Bool.eq_false_iff.2 f53
        refine ⟨i + 1, ⟨by omega, fun i' g => by
          by_cases e : i' = i
          · subst e; exact hno
          · exact h1 i' (by omega)⟩, by simp only; omega, ?_⟩
        constructor <;> (repeat' (first | exact rfl | exact True.intro | apply And.intro))
        all_goals first
          | exact congrArg (fun n : Int => D.v (.int .i64 n)) (by rw [wrap64 _ (by omega) (by omega)]; omega)
          | exact congrArg (fun n : Int => D.v (.int .i64 n)) (by omega)
  · have f16 : ¬ ((i : Int) < ((List.map rdv a).length : Int)) := of_decide_eq_false e1
    refine Eq.trans (b := .tup [.agg [.d (.v (.bool z0.s)), .d (.v (.string z0.a)), .d (.v (.string z0.d)), .d (.v (.bool z0.s)), .d (.v (.string z0.a)), .d (.v (.string z0.d))], .one (.d (.v (.bool (false))))]) ?_ rfl
    have he : bey a b = none := find_none fun j hj => h1 j (by omega)
    have hv : beyV a b = (z0, z0) := by simp only [beyV, he]
    rw [he, hv]; rfl
theorem k_bey {a b : List (RV × RV)} (ha : ∀ p, p ∈ a → p.1.z ≤ 67108864 ∧ p.2.z ≤ 67108864) (hb : ∀ p, p ∈ b → p.1.z ≤ 67108864 ∧ p.2.z ≤ 67108864) (hna : a.length ≤ 1073741824) (hnb : b.length ≤ 1073741824) (k : (beyV a b).1.z ≤ 134217740 → (beyV a b).2.z ≤ 134217740 → K (two (pair (beyV a b).1 (beyV a b).2) (bool (bey a b).isSome))) : Ask 100 [vecs a, vecs b] K := use (beyond_spec a b ha hb hna hnb) rfl (k (bey_z ha).1 (bey_z ha).2)
noncomputable def meetB (a b : List (RV × RV)) : Bool := bothE a b == 0 && ((bey a b).isNone && (bey b a).isNone)
noncomputable def axV (a b : List (RV × RV)) : RV × RV := if bothE a b = 0 then (if (bey a b).isSome then beyV a b else if (bey b a).isSome then (cn (z0.q - (beyV b a).1.q), cn (z0.q - (beyV b a).2.q)) else (z0, z0)) else (z0, z0)
noncomputable def axE (a b : List (RV × RV)) : Int := if bothE a b = 0 then (if (bey a b).isSome then 0 else if (bey b a).isSome then 0 else 10) else bothE a b
def sqL1 (a b : List (RV × RV)) (i : Nat) : List Rat := (a.take i).map fun p => nearQ b (p.1.q, p.2.q)
def sqQ (a b : List (RV × RV)) : Rat := lowL (lowL (nearQ b (pts a 0)) (sqL1 a b a.length)) (sqL1 b a b.length)
noncomputable def sqV (a b : List (RV × RV)) : RV := if bothE a b = 0 then (if meetB a b then cn 0 else cn (sqQ a b)) else z0
theorem sqL1_succ {a b : List (RV × RV)} {i : Nat} {p : RV × RV} (h : a[i]? = some p) : sqL1 a b (i + 1) = sqL1 a b i ++ [nearQ b (p.1.q, p.2.q)] := by
  unfold sqL1; rw [List.take_add_one, h]; simp
theorem sqL1_z {a b : List (RV × RV)} (ha : ∀ p, p ∈ a → p.1.z ≤ 67108864 ∧ p.2.z ≤ 67108864) (hb : ∀ p, p ∈ b → p.1.z ≤ 67108864 ∧ p.2.z ≤ 67108864) (i : Nat) : ∀ q, q ∈ sqL1 a b i → qs q ≤ 1610612800 := by
  intro q hq
  obtain ⟨p, hp, rfl⟩ := List.mem_map.1 hq
  have := ha p (List.mem_of_mem_take hp)
  exact nearQ_z hb ⟨rv_z this.1, rv_z this.2⟩
set_option maxRecDepth 100000 in
theorem meet_spec (a b : List (RV × RV)) (ha : ∀ p, p ∈ a → p.1.z ≤ 67108864 ∧ p.2.z ≤ 67108864) (hb : ∀ p, p ∈ b → p.1.z ≤ 67108864 ∧ p.2.z ≤ 67108864) (hna : a.length ≤ 1073741824) (hnb : b.length ≤ 1073741824) : Spec Tryd.prog Tab 34 [.val (.one (.d (.list (List.map rdv a)))), .val (.one (.d (.list (List.map rdv b))))] (.tup [.one (.d (.v (.bool (meetB a b)))), .one (.d (.v (.int .i64 (bothE a b))))]) := by
  have hLa : (List.map rdv a).length = a.length := List.length_map ..
  have hLb : (List.map rdv b).length = b.length := List.length_map ..
  refine fn_spec Tryd.func34 rfl rfl Tryd.ntmps34 rfl (by kernel_rfl) rfl rfl ?_
  refine k_both (a := a) (b := b) (by assumption) (by assumption) (by omega) (by omega) (fun n13 hk_13_1 => ?_)
  refine ⟨fun e1 => ?_, fun e1 => ?_⟩
  · have f15 : n13 ≠ 0 := bne_t e1
    refine Eq.trans (b := .tup [.one (.d (.v (.bool (false)))), .one (.d (.v (.int .i64 (n13))))]) ?_ rfl
    subst hk_13_1
    rw [show meetB a b = false from by unfold meetB; rw [beq_false_of_ne f15]; rfl]
  · have f15 : ¬ (n13 ≠ 0) := fun hh => hh (bne_f e1)
    refine k_bey (a := a) (b := b) (by assumption) (by assumption) (by omega) (by omega) (fun hk_20_0 hk_20_1 => ?_)
    refine k_bey (a := b) (b := a) (by assumption) (by assumption) (by omega) (by omega) (fun hk_26_0 hk_26_1 => ?_)
    refine fork (fun e2 => ?_) (fun e2 => ?_)
    · refine Eq.trans (b := .tup [.one (.d (.v (.bool (!((bey b a).isSome))))), .one (.d (.v (.int .i64 (0))))]) ?_ rfl
      have hb0 : bothE a b = 0 := by omega
      have hm : meetB a b = (!((bey b a).isSome)) := by
        unfold meetB; rw [hb0]; revert e2; cases bey a b <;> cases bey b a <;> intro e2 <;> first | rfl | (simp at e2)
      rw [hm, hb0]
    · refine Eq.trans (b := .tup [.one (.d (.v (.bool (false)))), .one (.d (.v (.int .i64 (0))))]) ?_ rfl
      have hb0 : bothE a b = 0 := by omega
      have hm : meetB a b = (false) := by
        unfold meetB; rw [hb0]; revert e2; cases bey a b <;> cases bey b a <;> intro e2 <;> first | rfl | (simp at e2)
      rw [hm, hb0]
theorem k_meet {a b : List (RV × RV)} (ha : ∀ p, p ∈ a → p.1.z ≤ 67108864 ∧ p.2.z ≤ 67108864) (hb : ∀ p, p ∈ b → p.1.z ≤ 67108864 ∧ p.2.z ≤ 67108864) (hna : a.length ≤ 1073741824) (hnb : b.length ≤ 1073741824) (k : ∀ n, n = bothE a b → K (two (bool (meetB a b)) (int n))) : Ask 34 [vecs a, vecs b] K := use (meet_spec a b ha hb hna hnb) rfl (k _ rfl)
set_option maxRecDepth 100000 in
theorem axis_spec (a b : List (RV × RV)) (ha : ∀ p, p ∈ a → p.1.z ≤ 67108864 ∧ p.2.z ≤ 67108864) (hb : ∀ p, p ∈ b → p.1.z ≤ 67108864 ∧ p.2.z ≤ 67108864) (hna : a.length ≤ 1073741824) (hnb : b.length ≤ 1073741824) : Spec Tryd.prog Tab 36 [.val (.one (.d (.list (List.map rdv a)))), .val (.one (.d (.list (List.map rdv b))))] (.tup [.agg [.d (.v (.bool ((axV a b).1).s)), .d (.v (.string ((axV a b).1).a)), .d (.v (.string ((axV a b).1).d)), .d (.v (.bool ((axV a b).2).s)), .d (.v (.string ((axV a b).2).a)), .d (.v (.string ((axV a b).2).d))], .one (.d (.v (.int .i64 (axE a b))))]) := by
  have hLa : (List.map rdv a).length = a.length := List.length_map ..
  have hLb : (List.map rdv b).length = b.length := List.length_map ..
  refine fn_spec Tryd.func36 rfl rfl Tryd.ntmps36 rfl (by kernel_rfl) rfl rfl ?_
  refine k_both (a := a) (b := b) (by assumption) (by assumption) (by omega) (by omega) (fun n13 hk_13_1 => ?_)
  refine ⟨fun e1 => ?_, fun e1 => ?_⟩
  · have f15 : n13 ≠ 0 := bne_t e1
    refine Eq.trans (b := .tup [.agg [.d (.v (.bool z0.s)), .d (.v (.string z0.a)), .d (.v (.string z0.d)), .d (.v (.bool z0.s)), .d (.v (.string z0.a)), .d (.v (.string z0.d))], .one (.d (.v (.int .i64 (n13))))]) ?_ rfl
    subst hk_13_1
    rw [show axV a b = (z0, z0) from if_neg f15, show axE a b = bothE a b from if_neg f15]
  · have f15 : ¬ (n13 ≠ 0) := fun hh => hh (bne_f e1)
    refine k_bey (a := a) (b := b) (by assumption) (by assumption) (by omega) (by omega) (fun hk_21_0 hk_21_1 => ?_)
    refine ⟨fun e2 => ?_, fun e2 => ?_⟩
    · refine Eq.trans (b := .tup [.agg [.d (.v (.bool ((beyV a b).1).s)), .d (.v (.string ((beyV a b).1).a)), .d (.v (.string ((beyV a b).1).d)), .d (.v (.bool ((beyV a b).2).s)), .d (.v (.string ((beyV a b).2).a)), .d (.v (.string ((beyV a b).2).d))], .one (.d (.v (.int .i64 (0))))]) ?_ rfl
      have hb0 : bothE a b = 0 := by omega
      rw [show axV a b = beyV a b by rw [axV, if_pos hb0, if_pos e2], show axE a b = 0 by rw [axE, if_pos hb0, if_pos e2]]
    · refine k_bey (a := b) (b := a) (by assumption) (by assumption) (by omega) (by omega) (fun hk_29_0 hk_29_1 => ?_)
      refine ⟨fun e3 => ?_, fun e3 => ?_⟩
      · refine k_vSub (x := z0) (y := z0) (z := (beyV b a).1) (t := (beyV b a).2) (by simp only [z0z]; omega) (by simp only [z0z]; omega) (by omega) (by omega) (fun p35 q35 hk_35_2 hk_35_3 hk_35_4 hk_35_5 => ?_)
        simp only [cn_z, z0z] at hk_35_4
        simp only [cn_z, z0z] at hk_35_5
        refine Eq.trans (b := .tup [.agg [.d (.v (.bool (cn p35).s)), .d (.v (.string (cn p35).a)), .d (.v (.string (cn p35).d)), .d (.v (.bool (cn q35).s)), .d (.v (.string (cn q35).a)), .d (.v (.string (cn q35).d))], .one (.d (.v (.int .i64 (0))))]) ?_ rfl
        have hb0 : bothE a b = 0 := by omega
        have h2 : ¬ (bey a b).isSome = true := by rw [e2]; exact Bool.false_ne_true
        rw [show axV a b = (cn p35, cn q35) by rw [axV, if_pos hb0, if_neg h2, if_pos e3, hk_35_2, hk_35_3], show axE a b = 0 by rw [axE, if_pos hb0, if_neg h2, if_pos e3]]
      · refine Eq.trans (b := .tup [.agg [.d (.v (.bool z0.s)), .d (.v (.string z0.a)), .d (.v (.string z0.d)), .d (.v (.bool z0.s)), .d (.v (.string z0.a)), .d (.v (.string z0.d))], .one (.d (.v (.int .i64 (10))))]) ?_ rfl
        have hb0 : bothE a b = 0 := by omega
        have h2 : ¬ (bey a b).isSome = true := by rw [e2]; exact Bool.false_ne_true
        have h3 : ¬ (bey b a).isSome = true := by rw [e3]; exact Bool.false_ne_true
        rw [show axV a b = (z0, z0) by rw [axV, if_pos hb0, if_neg h2, if_neg h3], show axE a b = 10 by rw [axE, if_pos hb0, if_neg h2, if_neg h3]]
set_option maxHeartbeats 2000000 in
set_option maxRecDepth 100000 in
theorem sq_spec (a b : List (RV × RV)) (ha : ∀ p, p ∈ a → p.1.z ≤ 67108864 ∧ p.2.z ≤ 67108864) (hb : ∀ p, p ∈ b → p.1.z ≤ 67108864 ∧ p.2.z ≤ 67108864) (hna : a.length ≤ 1073741824) (hnb : b.length ≤ 1073741824) : Spec Tryd.prog Tab 35 [.val (.one (.d (.list (List.map rdv a)))), .val (.one (.d (.list (List.map rdv b))))] (.tup [.agg [.d (.v (.bool (sqV a b).s)), .d (.v (.string (sqV a b).a)), .d (.v (.string (sqV a b).d))], .one (.d (.v (.int .i64 (bothE a b))))]) := by
  have hLa : (List.map rdv a).length = a.length := List.length_map ..
  have hLb : (List.map rdv b).length = b.length := List.length_map ..
  refine fn_spec Tryd.func35 rfl rfl Tryd.ntmps35 rfl (by kernel_rfl) rfl rfl ?_
  refine k_meet (a := a) (b := b) (by assumption) (by assumption) (by omega) (by omega) (fun n16 hk_16_1 => ?_)
  refine ⟨fun e1 => ?_, fun e1 => ?_⟩
  · have f20 : n16 ≠ 0 := bne_t e1
    refine Eq.trans (b := .tup [.agg [.d (.v (.bool z0.s)), .d (.v (.string z0.a)), .d (.v (.string z0.d))], .one (.d (.v (.int .i64 (n16))))]) ?_ rfl
    subst hk_16_1
    rw [show sqV a b = z0 from if_neg f20]
  · have f20 : ¬ (n16 ≠ 0) := fun hh => hh (bne_f e1)
    have hb0 : bothE a b = 0 := by omega
    have ca := convE_ok.1 (bothE_ok.1 hb0).1
    have cb := convE_ok.1 (bothE_ok.1 hb0).2
    refine ⟨fun e2 => ?_, fun e2 => ?_⟩
    · refine k_of (0) (by omega) (by omega) fun q24 h24 z24 => ?_
      simp only [cn_z] at z24
      refine Eq.trans (b := .tup [.agg [.d (.v (.bool (cn q24).s)), .d (.v (.string (cn q24).a)), .d (.v (.string (cn q24).d))], .one (.d (.v (.int .i64 (0))))]) ?_ rfl
      have hb0 : bothE a b = 0 := by omega
      subst h24
      rw [show sqV a b = cn ((0 : Int) : Rat) by rw [sqV, if_pos hb0, if_pos e2]; rfl, hb0]
    · obtain ⟨x26, hx26⟩ : ∃ vv, a[0]? = some vv := ⟨_, List.getElem?_eq_getElem (by first | omega | exact Nat.mod_lt _ (by omega))⟩
      have hzx26 := ha x26 (List.mem_of_getElem? hx26)
      have hpx26 := pts_at hx26
      refine k_ix 0 [D.v (.bool x26.1.s), D.v (.string x26.1.a), D.v (.string x26.1.d), D.v (.bool x26.2.s), D.v (.string x26.2.a), D.v (.string x26.2.d)] (by first | rfl | omega | (rw [wrap64 _ (by omega) (by omega)]; omega)) (map_at hx26) rfl ?_
      refine k_near (x := x26.1) (y := x26.2) (l := b) (by omega) (by omega) (by assumption) (by omega) (by omega) (fun q29 hk_29_1 hk_29_2 => ?_)
      obtain rfl : q29 = nearQ b (pts a 0) := by rw [hk_29_1, hpx26]
      refine ⟨Nat, fun i => [(0, .val (.one (.d (.list (List.map rdv a))))), (1, .val (.one (.d (.list (List.map rdv b))))), (4, .val (.one (.ptr 4 0))), (8, .val (.one (.ptr 8 0))), (30, .val (.one (.d (.list (List.map rdv a))))), (31, int ((List.map rdv a).length : Int)), (32, int (i : Int))],
        fun i => [(4, .var 23 [.d (.v (.bool z0.s)), .d (.v (.string z0.a)), .d (.v (.string z0.d))]), (8, .var 23 [.d (.v (.bool (cn (lowL (nearQ b (pts a 0)) (sqL1 a b i))).s)), .d (.v (.string (cn (lowL (nearQ b (pts a 0)) (sqL1 a b i))).a)), .d (.v (.string (cn (lowL (nearQ b (pts a 0)) (sqL1 a b i))).d))])], fun i => i ≤ a.length, fun i => a.length - i, 0, ?_, Nat.zero_le _, fun i hs => ?_⟩
      · constructor <;> (repeat' (first | exact rfl | exact True.intro | exact ⟨_, _, rfl⟩ | exact (by decide) | apply And.intro))
        all_goals first | exact congrArg (fun n : Int => D.v (.int .i64 n)) (by omega) | exact congrArg (fun n : Int => D.v (.int .i64 n)) (by rw [wrap64 _ (by omega) (by omega)]; omega) | (simp; done)
      have hq0 := qs_lowL (nearQ_z hb (pts_z ha 0)) (sqL1_z ha hb i)
      refine ⟨fun e3 => ?_, fun e3 => ?_⟩
      · have f33 : (i : Int) < ((List.map rdv a).length : Int) := of_decide_eq_true e3
        obtain ⟨x34, hx34⟩ : ∃ vv, a[i]? = some vv := ⟨_, List.getElem?_eq_getElem (by first | omega | exact Nat.mod_lt _ (by omega))⟩
        have hzx34 := ha x34 (List.mem_of_getElem? hx34)
        have hpx34 := pts_at hx34
        refine k_ix i [D.v (.bool x34.1.s), D.v (.string x34.1.a), D.v (.string x34.1.d), D.v (.bool x34.2.s), D.v (.string x34.2.a), D.v (.string x34.2.d)] (by first | rfl | omega | (rw [wrap64 _ (by omega) (by omega)]; omega)) (map_at hx34) rfl ?_
        refine k_near (x := x34.1) (y := x34.2) (l := b) (by omega) (by omega) (by assumption) (by omega) (by omega) (fun q39 hk_39_1 hk_39_2 => ?_)
        refine k_min (x := cn (lowL (nearQ b (pts a 0)) (sqL1 a b i))) (y := cn q39) (by simp only [cn_z]; omega) (by simp only [cn_z]; omega) fun q40 h40 z40 => ?_
        simp only [cn_z] at z40
        simp only [cn_q] at h40
        refine ⟨by kernel_rfl, ?_⟩
        obtain rfl : q40 = lowL (nearQ b (pts a 0)) (sqL1 a b (i + 1)) := by rw [h40, sqL1_succ hx34, lowL_snoc, hk_39_1]
        refine ⟨i + 1, by omega, by simp only; omega, ?_⟩
        constructor <;> (repeat' (first | exact rfl | exact True.intro | apply And.intro))
        all_goals first
          | exact congrArg (fun n : Int => D.v (.int .i64 n)) (by rw [wrap64 _ (by omega) (by omega)]; omega)
          | exact congrArg (fun n : Int => D.v (.int .i64 n)) (by omega)
      · have f33 : ¬ ((i : Int) < ((List.map rdv a).length : Int)) := of_decide_eq_false e3
        have hia : a.length = i := by omega
        subst hia
        refine ⟨Nat, fun j => [(0, .val (.one (.d (.list (List.map rdv a))))), (4, .val (.one (.ptr 4 0))), (8, .val (.one (.ptr 8 0))), (42, .val (.one (.d (.list (List.map rdv b))))), (43, int ((List.map rdv b).length : Int)), (44, int (j : Int))],
          fun j => [(4, .var 23 [.d (.v (.bool z0.s)), .d (.v (.string z0.a)), .d (.v (.string z0.d))]), (8, .var 23 [.d (.v (.bool (cn (lowL (lowL (nearQ b (pts a 0)) (sqL1 a b a.length)) (sqL1 b a j))).s)), .d (.v (.string (cn (lowL (lowL (nearQ b (pts a 0)) (sqL1 a b a.length)) (sqL1 b a j))).a)), .d (.v (.string (cn (lowL (lowL (nearQ b (pts a 0)) (sqL1 a b a.length)) (sqL1 b a j))).d))])], fun j => j ≤ b.length, fun j => b.length - j, 0, ?_, Nat.zero_le _, fun j hs => ?_⟩
        · constructor <;> (repeat' (first | exact rfl | exact True.intro | exact ⟨_, _, rfl⟩ | exact (by decide) | apply And.intro))
          all_goals first | exact congrArg (fun n : Int => D.v (.int .i64 n)) (by omega) | exact congrArg (fun n : Int => D.v (.int .i64 n)) (by rw [wrap64 _ (by omega) (by omega)]; omega) | (simp; done)
        have hq0 := qs_lowL (qs_lowL (nearQ_z hb (pts_z ha 0)) (sqL1_z ha hb a.length)) (sqL1_z hb ha j)
        refine ⟨fun e4 => ?_, fun e4 => ?_⟩
        · have f45 : (j : Int) < ((List.map rdv b).length : Int) := of_decide_eq_true e4
          obtain ⟨x46, hx46⟩ : ∃ vv, b[j]? = some vv := ⟨_, List.getElem?_eq_getElem (by first | omega | exact Nat.mod_lt _ (by omega))⟩
          have hzx46 := hb x46 (List.mem_of_getElem? hx46)
          have hpx46 := pts_at hx46
          refine k_ix j [D.v (.bool x46.1.s), D.v (.string x46.1.a), D.v (.string x46.1.d), D.v (.bool x46.2.s), D.v (.string x46.2.a), D.v (.string x46.2.d)] (by first | rfl | omega | (rw [wrap64 _ (by omega) (by omega)]; omega)) (map_at hx46) rfl ?_
          refine k_near (x := x46.1) (y := x46.2) (l := a) (by omega) (by omega) (by assumption) (by omega) (by omega) (fun q51 hk_51_1 hk_51_2 => ?_)
          refine k_min (x := cn (lowL (lowL (nearQ b (pts a 0)) (sqL1 a b a.length)) (sqL1 b a j))) (y := cn q51) (by simp only [cn_z]; omega) (by simp only [cn_z]; omega) fun q52 h52 z52 => ?_
          simp only [cn_z] at z52
          simp only [cn_q] at h52
          refine ⟨by kernel_rfl, ?_⟩
          obtain rfl : q52 = lowL (lowL (nearQ b (pts a 0)) (sqL1 a b a.length)) (sqL1 b a (j + 1)) := by rw [h52, sqL1_succ hx46, lowL_snoc, hk_51_1]
          refine ⟨j + 1, by omega, by simp only; omega, ?_⟩
          constructor <;> (repeat' (first | exact rfl | exact True.intro | apply And.intro))
          all_goals first
            | exact congrArg (fun n : Int => D.v (.int .i64 n)) (by rw [wrap64 _ (by omega) (by omega)]; omega)
            | exact congrArg (fun n : Int => D.v (.int .i64 n)) (by omega)
        · have f45 : ¬ ((j : Int) < ((List.map rdv b).length : Int)) := of_decide_eq_false e4
          refine Eq.trans (b := .tup [.agg [.d (.v (.bool (cn (lowL (lowL (nearQ b (pts a 0)) (sqL1 a b a.length)) (sqL1 b a j))).s)), .d (.v (.string (cn (lowL (lowL (nearQ b (pts a 0)) (sqL1 a b a.length)) (sqL1 b a j))).a)), .d (.v (.string (cn (lowL (lowL (nearQ b (pts a 0)) (sqL1 a b a.length)) (sqL1 b a j))).d))], .one (.d (.v (.int .i64 (0))))]) ?_ rfl
          have hjb : b.length = j := by omega
          have h2 : ¬ meetB a b = true := by rw [e2]; exact Bool.false_ne_true
          rw [show sqV a b = cn (lowL (lowL (nearQ b (pts a 0)) (sqL1 a b a.length)) (sqL1 b a j)) by rw [sqV, if_pos hb0, if_neg h2, sqQ, hjb], hb0]
end
end Go.Proofs.YtdhpmdkfmgpcmaaDoor.eng
