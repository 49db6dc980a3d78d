/- Contracts: boxes apart, the law ApartBoxes. Printed by wip/gp_apartb.py. -/
import Derived.Test.YtdhpmdkfmgpcmaaDoorApartA
import Derived.Test.YtdhpmdkfmgpcmaaDoorEngGrid
namespace Go.Proofs.YtdhpmdkfmgpcmaaDoor.eng
open Go.RowKit num mem seg q held ratA ratB ratC ratD ratE vars ratF
section
variable {K : AV → Prop}
set_option maxRecDepth 100000 in
theorem valid_spec (x y z t : RV) (hx : x.z ≤ 67108864) (hy : y.z ≤ 67108864) (hz : z.z ≤ 67108864) (ht : t.z ≤ 67108864) (b : Bool) (hb : b = true ↔ bxOk x y z t) : Spec Tryd.prog Tab 105 [box x y z t] (bool b) := by
  refine fn_spec Tryd.func105 rfl rfl Tryd.ntmps105 rfl (by kernel_rfl) rfl rfl ?_
  refine k_cmp (x := x) (y := z) (by omega) (by omega) fun n9 h9 => ?_
  refine fork (fun e1 => ?_) (fun e1 => ?_)
  · have f11 : x.q ≤ z.q := (cq_le h9).1 (of_decide_eq_true e1)
    refine k_cmp (x := y) (y := t) (by omega) (by omega) fun n18 h18 => ?_
    refine Eq.trans (b := bool (decide (n18 ≤ 0))) ?_ rfl
    have e : b = (decide (n18 ≤ 0)) := by
      cases b with
      | true => exact (decide_eq_true ((cq_le h18).2 (hb.1 rfl).2)).symm
      | false => exact (decide_eq_false fun hh => Bool.noConfusion (hb.2 ⟨f11, (cq_le h18).1 hh⟩)).symm
    rw [e]
  · have f11 : ¬ (x.q ≤ z.q) := fun hh => of_decide_eq_false e1 ((cq_le h9).2 hh)
    refine Eq.trans (b := bool false) ?_ rfl
    have e : b = false := by
      cases b with
      | true => exact absurd (hb.1 rfl).1 f11
      | false => rfl
    rw [e]
theorem k_valid_c {x y z t : RV} (hx : x.z ≤ 67108864) (hy : y.z ≤ 67108864) (hz : z.z ≤ 67108864) (ht : t.z ≤ 67108864) (k1 : bxOk x y z t → K (bool true)) (k0 : ¬ bxOk x y z t → K (bool false)) : Ask 105 [box x y z t] K := by
  by_cases h : bxOk x y z t
  · exact use (valid_spec x y z t hx hy hz ht true ⟨fun _ => h, fun _ => rfl⟩) rfl (k1 h)
  · exact use (valid_spec x y z t hx hy hz ht false ⟨fun e => Bool.noConfusion e, fun e => absurd e h⟩) rfl (k0 h)
instance (x y z t : RV) : Decidable (bxOk x y z t) := inferInstanceAs (Decidable (x.q ≤ z.q ∧ y.q ≤ t.q))
/-- whether two boxes have a point in common -/
def bxMeet (x y z t x2 y2 z2 t2 : RV) : Prop := bxOk x y z t ∧ bxOk x2 y2 z2 t2 ∧ x.q ≤ z2.q ∧ x2.q ≤ z.q ∧ y.q ≤ t2.q ∧ y2.q ≤ t.q
instance (x y z t x2 y2 z2 t2 : RV) : Decidable (bxMeet x y z t x2 y2 z2 t2) := inferInstanceAs (Decidable (_ ∧ _ ∧ _ ∧ _ ∧ _ ∧ _))
set_option maxHeartbeats 1000000 in
set_option maxRecDepth 100000 in
theorem boxes_spec (x y z t x2 y2 z2 t2 : RV) (hx : x.z ≤ 67108864) (hy : y.z ≤ 67108864) (hz : z.z ≤ 67108864) (ht : t.z ≤ 67108864) (hx2 : x2.z ≤ 67108864) (hy2 : y2.z ≤ 67108864) (hz2 : z2.z ≤ 67108864) (ht2 : t2.z ≤ 67108864) : Spec Tryd.prog Tab 39 [box x y z t, box x2 y2 z2 t2] (bool (decide (bxMeet x y z t x2 y2 z2 t2))) := by
  refine fn_spec Tryd.func39 rfl rfl Tryd.ntmps39 rfl (by kernel_rfl) rfl rfl ?_
  refine k_valid_c (by omega) (by omega) (by omega) (by omega) (fun f6 => ?_) (fun f6 => ?_)
  · refine k_valid_c (by omega) (by omega) (by omega) (by omega) (fun f9 => ?_) (fun f9 => ?_)
    · refine k_cmp (x := x) (y := z2) (by omega) (by omega) fun n18 h18 => ?_
      refine fork (fun e1 => ?_) (fun e1 => ?_)
      · have f21 : x.q ≤ z2.q := (cq_le h18).1 (of_decide_eq_true e1)
        refine k_cmp (x := x2) (y := z) (by omega) (by omega) fun n28 h28 => ?_
        refine fork (fun e2 => ?_) (fun e2 => ?_)
        · have f31 : x2.q ≤ z.q := (cq_le h28).1 (of_decide_eq_true e2)
          refine k_cmp (x := y) (y := t2) (by omega) (by omega) fun n38 h38 => ?_
          refine fork (fun e3 => ?_) (fun e3 => ?_)
          · have f41 : y.q ≤ t2.q := (cq_le h38).1 (of_decide_eq_true e3)
            refine k_cmp (x := y2) (y := t) (by omega) (by omega) fun n48 h48 => ?_
            refine Eq.trans (b := bool (decide (n48 ≤ 0))) ?_ rfl
            rw [show decide (bxMeet x y z t x2 y2 z2 t2) = (decide (n48 ≤ 0)) from decide_eq_decide.2 ⟨fun ⟨_, _, _, _, _, m6⟩ => (cq_le h48).2 m6, fun hh => ⟨f6, f9, f21, f31, f41, (cq_le h48).1 hh⟩⟩]
          · have f41 : ¬ (y.q ≤ t2.q) := fun hh => of_decide_eq_false e3 ((cq_le h38).2 hh)
            refine Eq.trans (b := bool false) ?_ rfl
            rw [show decide (bxMeet x y z t x2 y2 z2 t2) = false from decide_eq_false fun ⟨m1, m2, m3, m4, m5, m6⟩ => by first | exact f41 m1 | exact f41 m2 | exact f41 m3 | exact f41 m4 | exact f41 m5 | exact f41 m6]
        · have f31 : ¬ (x2.q ≤ z.q) := fun hh => of_decide_eq_false e2 ((cq_le h28).2 hh)
          refine Eq.trans (b := bool false) ?_ rfl
          rw [show decide (bxMeet x y z t x2 y2 z2 t2) = false from decide_eq_false fun ⟨m1, m2, m3, m4, m5, m6⟩ => by first | exact f31 m1 | exact f31 m2 | exact f31 m3 | exact f31 m4 | exact f31 m5 | exact f31 m6]
      · have f21 : ¬ (x.q ≤ z2.q) := fun hh => of_decide_eq_false e1 ((cq_le h18).2 hh)
        refine Eq.trans (b := bool false) ?_ rfl
        rw [show decide (bxMeet x y z t x2 y2 z2 t2) = false from decide_eq_false fun ⟨m1, m2, m3, m4, m5, m6⟩ => by first | exact f21 m1 | exact f21 m2 | exact f21 m3 | exact f21 m4 | exact f21 m5 | exact f21 m6]
    · refine Eq.trans (b := bool false) ?_ rfl
      rw [show decide (bxMeet x y z t x2 y2 z2 t2) = false from decide_eq_false fun ⟨m1, m2, m3, m4, m5, m6⟩ => by first | exact f9 m1 | exact f9 m2 | exact f9 m3 | exact f9 m4 | exact f9 m5 | exact f9 m6]
  · refine Eq.trans (b := bool false) ?_ rfl
    rw [show decide (bxMeet x y z t x2 y2 z2 t2) = false from decide_eq_false fun ⟨m1, m2, m3, m4, m5, m6⟩ => by first | exact f6 m1 | exact f6 m2 | exact f6 m3 | exact f6 m4 | exact f6 m5 | exact f6 m6]
theorem k_boxes {x y z t x2 y2 z2 t2 : RV} (hx : x.z ≤ 67108864) (hy : y.z ≤ 67108864) (hz : z.z ≤ 67108864) (ht : t.z ≤ 67108864) (hx2 : x2.z ≤ 67108864) (hy2 : y2.z ≤ 67108864) (hz2 : z2.z ≤ 67108864) (ht2 : t2.z ≤ 67108864) (k : ∀ b, b = decide (bxMeet x y z t x2 y2 z2 t2) → K (bool b)) : Ask 39 [box x y z t, box x2 y2 z2 t2] K := use (boxes_spec x y z t x2 y2 z2 t2 hx hy hz ht hx2 hy2 hz2 ht2) rfl (k _ rfl)
theorem max_le_min {a b c d : Rat} : maxQ a b ≤ minQ c d ↔ a ≤ c ∧ a ≤ d ∧ b ≤ c ∧ b ≤ d := by
  unfold maxQ minQ
  constructor
  · intro h
    split at h <;> split at h <;> grind
  · intro ⟨h1, h2, h3, h4⟩
    split <;> split <;> grind
theorem common_iff {x y z t x2 y2 z2 t2 : RV} (h1 : bxOk x y z t) (h2 : bxOk x2 y2 z2 t2) : bxMeet x y z t x2 y2 z2 t2 ↔ maxQ x.q x2.q ≤ minQ z.q z2.q ∧ maxQ y.q y2.q ≤ minQ t.q t2.q := by
  rw [max_le_min, max_le_min]
  exact ⟨fun ⟨a, b, c, d, e, f⟩ => ⟨⟨a.1, c, d, b.1⟩, ⟨a.2, e, f, b.2⟩⟩, fun ⟨⟨_, c, d, _⟩, ⟨_, e, f, _⟩⟩ => ⟨h1, h2, c, d, e, f⟩⟩
set_option maxRecDepth 100000 in
theorem common2_spec (x y z t x2 y2 z2 t2 : RV) (hx : x.z ≤ 67108864) (hy : y.z ≤ 67108864) (hz : z.z ≤ 67108864) (ht : t.z ≤ 67108864) (hx2 : x2.z ≤ 67108864) (hy2 : y2.z ≤ 67108864) (hz2 : z2.z ≤ 67108864) (ht2 : t2.z ≤ 67108864) : Spec Tryd.prog Tab 41 [box x y z t, box x2 y2 z2 t2] (bool (decide (maxQ x.q x2.q ≤ minQ z.q z2.q ∧ maxQ y.q y2.q ≤ minQ t.q t2.q))) := by
  refine fn_spec Tryd.func41 rfl rfl Tryd.ntmps41 rfl (by kernel_rfl) rfl rfl ?_
  refine k_max (x := x) (y := x2) (by omega) (by omega) fun q13 h13 z13 => ?_
  simp only [cn_z] at z13
  refine k_max (x := y) (y := y2) (by omega) (by omega) fun q20 h20 z20 => ?_
  simp only [cn_z] at z20
  refine ⟨by kernel_rfl, ?_⟩
  refine k_min (x := z) (y := z2) (by omega) (by omega) fun q28 h28 z28 => ?_
  simp only [cn_z] at z28
  refine k_min (x := t) (y := t2) (by omega) (by omega) fun q35 h35 z35 => ?_
  simp only [cn_z] at z35
  refine ⟨by kernel_rfl, ?_⟩
  refine k_BoxIs_c (by simp only [cn_z]; omega) (by simp only [cn_z]; omega) (by simp only [cn_z]; omega) (by simp only [cn_z]; omega) (fun f40 => ?_) (fun f40 => ?_)
  · refine Eq.trans (b := bool true) ?_ rfl
    have e : (bxOk (cn q13) (cn q20) (cn q28) (cn q35)) ↔ (maxQ x.q x2.q ≤ minQ z.q z2.q ∧ maxQ y.q y2.q ≤ minQ t.q t2.q) := by unfold bxOk; rw [cn_q, cn_q, cn_q, cn_q, h13, h20, h28, h35]
    rw [decide_eq_true (e.1 f40)]
  · refine Eq.trans (b := bool false) ?_ rfl
    have e : (bxOk (cn q13) (cn q20) (cn q28) (cn q35)) ↔ (maxQ x.q x2.q ≤ minQ z.q z2.q ∧ maxQ y.q y2.q ≤ minQ t.q t2.q) := by unfold bxOk; rw [cn_q, cn_q, cn_q, cn_q, h13, h20, h28, h35]
    rw [decide_eq_false fun h => f40 (e.2 h)]
theorem k_common2 {x y z t x2 y2 z2 t2 : RV} (hx : x.z ≤ 67108864) (hy : y.z ≤ 67108864) (hz : z.z ≤ 67108864) (ht : t.z ≤ 67108864) (hx2 : x2.z ≤ 67108864) (hy2 : y2.z ≤ 67108864) (hz2 : z2.z ≤ 67108864) (ht2 : t2.z ≤ 67108864) (k : ∀ b, b = decide (maxQ x.q x2.q ≤ minQ z.q z2.q ∧ maxQ y.q y2.q ≤ minQ t.q t2.q) → K (bool b)) : Ask 41 [box x y z t, box x2 y2 z2 t2] K := use (common2_spec x y z t x2 y2 z2 t2 hx hy hz ht hx2 hy2 hz2 ht2) rfl (k _ rfl)
theorem nearQ_cvl (m : List (Rat × Rat)) (p : poly.Pt) : nearQ (cvl m) p = lowL (distQ p ((m[0]?).getD (0, 0)) ((m[1]?).getD (0, 0))) (nearL (fun i => (m[i]?).getD (0, 0)) m.length p m.length) := by
  unfold nearQ; rw [cvl_pts, cvl_len]
theorem sqL1_cvl (m n : List (Rat × Rat)) (i : Nat) : sqL1 (cvl m) (cvl n) i = (m.take i).map fun p => nearQ (cvl n) p := by
  unfold sqL1 cvl
  rw [← List.map_take, List.map_map]
  refine List.map_congr_left fun p _ => ?_
  simp only [Function.comp, cn_q]
def farN (m n : List (Rat × Rat)) (i : Nat) : Bool := farTo (fun i => (m[i]?).getD (0, 0)) m.length (fun i => (n[i]?).getD (0, 0)) i n.length
theorem bey_cvl (m n : List (Rat × Rat)) : bey (cvl m) (cvl n) = (List.range m.length).find? (farN m n) := by
  unfold bey; rw [cvl_pts, cvl_pts, cvl_len, cvl_len]; rfl
theorem sq_case : bothE (cvl (sqL 0 0 1)) (cvl (sqL 4 5 1)) = 0 ∧ sqV (cvl (sqL 0 0 1)) (cvl (sqL 4 5 1)) = cn 25 := by
  have h1 : convE 64 (cvl (sqL 0 0 1)) = 0 := convE_ok.2 ⟨by decide, by decide, by rw [cvl_pts]; exact edges_by (by decide +kernel)⟩
  have h2 : convE 64 (cvl (sqL 4 5 1)) = 0 := convE_ok.2 ⟨by decide, by decide, by rw [cvl_pts]; exact edges_by (by decide +kernel)⟩
  have h := bothE_ok.2 ⟨h1, h2⟩
  refine ⟨h, ?_⟩
  have hm : meetB (cvl (sqL 0 0 1)) (cvl (sqL 4 5 1)) = false := by
    unfold meetB
    rw [h, bey_cvl, show ((List.range (sqL 0 0 1).length).find? (farN (sqL 0 0 1) (sqL 4 5 1))).isNone = false by decide +kernel]
    rfl
  rw [sqV, if_pos h, hm, if_neg Bool.false_ne_true]
  congr 1
  unfold sqQ
  rw [sqL1_cvl, sqL1_cvl, cvl_pts, cvl_len, cvl_len]
  have e : ∀ n : List (Rat × Rat), nearQ (cvl n) = fun p => lowL (distQ p ((n[0]?).getD (0, 0)) ((n[1]?).getD (0, 0))) (nearL (fun i => (n[i]?).getD (0, 0)) n.length p n.length) := fun n => funext fun p => nearQ_cvl n p
  rw [e, e]
  decide +kernel
set_option maxRecDepth 100000 in
theorem apartBegun_spec  : Spec Tryd.prog Tab 33 [] (bool true) := by
  refine fn_spec Tryd.func33 rfl rfl Tryd.ntmps33 rfl (by kernel_rfl) rfl rfl ?_
  refine use (square_spec 0 0 1 (by decide) (by decide) (by decide)) rfl ?_
  refine use (square_spec 4 5 1 (by decide) (by decide) (by decide)) rfl ?_
  refine use (sq_spec (cvl (sqL 0 0 1)) (cvl (sqL 4 5 1)) (cvl_z (by decide +kernel)) (cvl_z (by decide +kernel)) (by decide) (by decide)) rfl ?_
  rw [sq_case.1, sq_case.2]
  refine k_polyBegun   ?_
  refine k_I (25) (by omega) (by omega) fun q16 h16 z16 => ?_
  simp only [cn_z] at z16
  refine k_eql_rat_t (by rw [h16]; rfl) ?_
  refine ⟨by kernel_rfl, ?_⟩
  refine Eq.trans (b := bool true) ?_ rfl
  rfl
theorem k_apartBegun (k : K (bool true)) : Ask 33 [] K := use apartBegun_spec rfl k
set_option maxRecDepth 100000 in
theorem apartBoxes_spec (x y z t x2 y2 z2 t2 : RV) (hx : x.z ≤ 1048576) (hy : y.z ≤ 1048576) (hz : z.z ≤ 1048576) (ht : t.z ≤ 1048576) (hx2 : x2.z ≤ 1048576) (hy2 : y2.z ≤ 1048576) (hz2 : z2.z ≤ 1048576) (ht2 : t2.z ≤ 1048576) : Spec Tryd.prog Tab 6 [box x y z t, box x2 y2 z2 t2] (bool true) := by
  refine fn_spec Tryd.func6 rfl rfl Tryd.ntmps6 rfl (by kernel_rfl) rfl rfl ?_
  refine k_apartBegun   ?_
  refine k_boxes (x := x) (y := y) (z := z) (t := t) (x2 := x2) (y2 := y2) (z2 := z2) (t2 := t2) (by omega) (by omega) (by omega) (by omega) (by omega) (by omega) (by omega) (by omega) (fun b9 hk_9_1 => ?_)
  refine k_BoxIs_c (by omega) (by omega) (by omega) (by omega) (fun f11 => ?_) (fun f11 => ?_)
  · refine k_BoxIs_c (by omega) (by omega) (by omega) (by omega) (fun f14 => ?_) (fun f14 => ?_)
    · refine k_common2 (x := x) (y := y) (z := z) (t := t) (x2 := x2) (y2 := y2) (z2 := z2) (t2 := t2) (by omega) (by omega) (by omega) (by omega) (by omega) (by omega) (by omega) (by omega) (fun b19 hk_19_1 => ?_)
      refine k_eql_bool_c (fun f21 => ?_) (fun f21 => ?_)
      · refine ⟨by kernel_rfl, ?_⟩
        refine Eq.trans (b := bool true) ?_ rfl
        rfl
      · exfalso
        exact f21 (by rw [hk_9_1, hk_19_1]; exact decide_eq_decide.2 (common_iff f11 f14))
    · refine k_eql_bool_c (fun f21 => ?_) (fun f21 => ?_)
      · refine ⟨by kernel_rfl, ?_⟩
        refine Eq.trans (b := bool true) ?_ rfl
        rfl
      · exfalso
        exact f21 (by rw [hk_9_1]; exact decide_eq_false fun h => f14 h.2.1)
  · refine k_eql_bool_c (fun f21 => ?_) (fun f21 => ?_)
    · refine ⟨by kernel_rfl, ?_⟩
      refine Eq.trans (b := bool true) ?_ rfl
      rfl
    · exfalso
      exact f21 (by rw [hk_9_1]; exact decide_eq_false fun h => f11 h.1)
theorem apartBoxes_walk (s00 : Bool) (a00 d00 : ByteArray) (s01 : Bool) (a01 d01 : ByteArray) (s02 : Bool) (a02 d02 : ByteArray) (s03 : Bool) (a03 d03 : ByteArray) (s10 : Bool) (a10 d10 : ByteArray) (s11 : Bool) (a11 d11 : ByteArray) (s12 : Bool) (a12 d12 : ByteArray) (s13 : Bool) (a13 d13 : ByteArray) (N : Nat) (w : World) (_ : 1 ≤ N) (hN : N ≤ 1048576) (z00a : a00.size ≤ N) (z00d : d00.size ≤ N) (z01a : a01.size ≤ N) (z01d : d01.size ≤ N) (z02a : a02.size ≤ N) (z02d : d02.size ≤ N) (z03a : a03.size ≤ N) (z03d : d03.size ≤ N) (z10a : a10.size ≤ N) (z10d : d10.size ≤ N) (z11a : a11.size ≤ N) (z11d : d11.size ≤ N) (z12a : a12.size ≤ N) (z12d : d12.size ≤ N) (z13a : a13.size ≤ N) (z13d : d13.size ≤ N) (hT : Tab w) :
    Calls Tryd.prog 6 #[.agg #[.bool s00, .string a00, .string d00, .bool s01, .string a01, .string d01, .bool s02, .string a02, .string d02, .bool s03, .string a03, .string d03], .agg #[.bool s10, .string a10, .string d10, .bool s11, .string a11, .string d11, .bool s12, .string a12, .string d12, .bool s13, .string a13, .string d13]] w fun e w' => e = .returned (.bool true) ∧ Below w.heap.size w w' :=
  calls_of_spec (apartBoxes_spec ⟨s00, a00, d00⟩ ⟨s01, a01, d01⟩ ⟨s02, a02, d02⟩ ⟨s03, a03, d03⟩ ⟨s10, a10, d10⟩ ⟨s11, a11, d11⟩ ⟨s12, a12, d12⟩ ⟨s13, a13, d13⟩ (by unfold RV.z; simp only; omega) (by unfold RV.z; simp only; omega) (by unfold RV.z; simp only; omega) (by unfold RV.z; simp only; omega) (by unfold RV.z; simp only; omega) (by unfold RV.z; simp only; omega) (by unfold RV.z; simp only; omega) (by unfold RV.z; simp only; omega)) rfl hT (pvl_rel (vs := [box ⟨s00, a00, d00⟩ ⟨s01, a01, d01⟩ ⟨s02, a02, d02⟩ ⟨s03, a03, d03⟩, box ⟨s10, a10, d10⟩ ⟨s11, a11, d11⟩ ⟨s12, a12, d12⟩ ⟨s13, a13, d13⟩]) rfl)
end
end Go.Proofs.YtdhpmdkfmgpcmaaDoor.eng
