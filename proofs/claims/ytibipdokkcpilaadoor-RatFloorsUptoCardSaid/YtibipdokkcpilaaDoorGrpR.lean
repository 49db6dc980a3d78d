/- Joined by wip/bundle.py: XLawQc. -/
import Derived.Test.YtibipdokkcpilaaDoorGrpQ
/- Contract of gantlaw1.RatFloors: it returns true. -/
namespace Go.Proofs.YtibipdokkcpilaaDoor.eng
open Go.RowKit num mem seg q held ratA ratB ratC ratD ratE vars ratF natC natD natI
section
variable {K : AV → Prop} {a b : ByteArray} {x y r t : RV} {p q : Rat}
/-- a whole number as a fraction -/
def Fr1 (r : RV) (m : Int) : Prop := r.d = ⟨#[1]⟩ ∧ sg r.s (nv r.a) = m
theorem Fr1.abs {m : Int} (h : Fr1 r m) : nv r.a = m.natAbs := by rw [← h.2, sg_abs]
theorem Fr1.fr {m : Int} (h : Fr1 r m) : Fr r (m : Rat) := by
  refine ⟨by rw [h.1, nv_one]; decide, ?_⟩
  rw [h.1, nv_one, h.2, Rat.mkRat_one]
theorem Fr1.over {m : Int} (h : Fr1 r m) {d : ByteArray} {n : Nat} (hd : nv d = n) (hn : 0 < n) : Fr ⟨r.s, r.a, d⟩ (mkRat m n) := by
  subst hd
  exact ⟨hn, by show mkRat (sg r.s (nv r.a)) (nv d) = _; rw [h.2]⟩
theorem Fr1.neg {m : Int} (h : Fr1 r m) : Fr1 ⟨!r.s, r.a, r.d⟩ (-m) := by
  refine ⟨h.1, ?_⟩
  rw [← h.2]
  show sg (!r.s) (nv r.a) = _
  cases r.s <;> simp [sg]
theorem fr_floor (h : Fr r p) : sg r.s (nv r.a) / (nv r.d : Int) = p.floor := by
  obtain ⟨h1, h2⟩ := h
  rw [Rat.floor_def]
  by_cases h0 : nv r.a = 0
  · rw [h0] at h2 ⊢
    have : p = 0 := by rw [← h2]; cases r.s <;> simp [sg, Rat.zero_mkRat]
    rw [this]
    cases r.s <;> simp [sg]
  · have hs := mk_is (s := r.s) (n := nv r.a) (d := nv r.d) (by omega) h1
    rw [h2] at hs
    obtain ⟨e1, e2, e3⟩ := hs
    have e2 := enc_inj e2
    have e3 := enc_inj e3
    have hg : 0 < Nat.gcd (nv r.a) (nv r.d) := Nat.gcd_pos_of_pos_right _ h1
    have ha : nv r.a = Nat.gcd (nv r.a) (nv r.d) * (nv r.a / Nat.gcd (nv r.a) (nv r.d)) := (Nat.mul_div_cancel' (Nat.gcd_dvd_left _ _)).symm
    have hd : nv r.d = Nat.gcd (nv r.a) (nv r.d) * (nv r.d / Nat.gcd (nv r.a) (nv r.d)) := (Nat.mul_div_cancel' (Nat.gcd_dvd_right _ _)).symm
    have hn := sg_neg p
    rw [← e1, ← e2] at hn
    rw [← hn, ← e3]
    generalize Nat.gcd (nv r.a) (nv r.d) = G at *
    have hsg : sg r.s (nv r.a) = (G : Int) * sg r.s (nv r.a / G) := by
      conv => lhs; rw [ha]
      cases r.s <;> simp [sg, Int.mul_neg]
    rw [hsg]
    conv => lhs; rw [hd]
    rw [Int.natCast_mul, Int.mul_ediv_mul_of_pos _ _ (by omega)]
set_option maxRecDepth 100000 in
theorem k_QFloor (h : Fr r p) (hr : r.z ≤ 4398046511104) (k : ∀ u, Fr1 u p.floor → u.z ≤ r.z + 2 → K (rat u)) : Ask 27 [rat r] K := by
  obtain ⟨h1, h2⟩ := z_sizes (x := r) (Nat.le_refl _)
  have n1 := bz_nv r.a
  have hf := fr_floor h
  have hu := upN_size r.s (nv r.a) (nv r.d)
  have hF : Fr1 ⟨r.s, enc (upN r.s (nv r.a) (nv r.d)), ⟨#[1]⟩⟩ p.floor := ⟨rfl, by show sg r.s (nv (enc _)) = _; rw [nv_enc, upN_is _ _ _ h.1, hf]⟩
  refine use (r := rat ⟨r.s, enc (upN r.s (nv r.a) (nv r.d)), ⟨#[1]⟩⟩) ?_ rfl (k _ hF (RV.z_of (by unfold bz at n1; omega) (by show 1 ≤ _; omega)))
  have hdz := bz_div (nv r.a) (nv r.d)
  have z1 : (enc (nv r.a / nv r.d)).size ≤ 4398046511104 := by unfold bz at hdz n1; omega
  refine fn_spec Tryd.func27 rfl rfl Tryd.ntmps27 rfl (by kernel_rfl) rfl rfl ?_
  refine k_rShare (nv r.a) (nv r.d) rfl rfl h.1 (Nat.le_trans h1 (by omega)) (Nat.le_trans h2 (by omega)) ?_
  refine fork (fun e => ?_) (fun e => ?_)
  · have hs : r.s = true := e
    refine k_ne_nil (nv r.a % nv r.d) rfl (fun e1 => ?_) (fun e1 => ?_)
    · refine ⟨fun e => by simp at e, fun _ => ?_⟩
      refine Eq.trans (b := rat ⟨r.s, enc (nv r.a / nv r.d), ⟨#[1]⟩⟩) ?_ rfl
      rw [upN, if_neg (by simp [e1])]
    · refine ⟨fun _ => ?_, fun e => by simp at e⟩
      refine k_rPlus (nv r.a / nv r.d) 1 (nv_enc _) nv_one (Nat.le_trans z1 (by decide)) (by decide) ?_
      refine Eq.trans (b := rat ⟨r.s, enc (nv r.a / nv r.d + 1), ⟨#[1]⟩⟩) ?_ rfl
      rw [upN, if_pos ⟨hs, e1⟩]
  · have hs : r.s = false := e
    refine ⟨fun e2 => absurd e2 (by simp), fun _ => ?_⟩
    refine Eq.trans (b := rat ⟨r.s, enc (nv r.a / nv r.d), ⟨#[1]⟩⟩) ?_ rfl
    rw [upN, if_neg (by rw [hs]; simp)]
theorem k_Whole1 (n : Int) (h1 : -9223372036854775808 ≤ n) (h2 : n ≤ 9223372036854775807) (k : ∀ r, Fr1 r n → r.z ≤ 9 → K (rat r)) : Ask 24 [int n] K := by
  refine use (Whole_spec n h1 h2) rfl (k _ ⟨rfl, ?_⟩ (RV.z_of (bz_le.2 (show n.natAbs < 256 ^ 9 by omega)) (by decide)))
  show sg (decide (n < 0)) (nv (enc n.natAbs)) = n
  rw [nv_enc]
  unfold sg
  by_cases hn : n < 0
  · rw [decide_eq_true hn, if_pos rfl]; omega
  · rw [decide_eq_false hn, if_neg (by simp)]; omega
theorem nCmp_spec (a b : ByteArray) : Spec Tryd.prog Tab 80 [str a, str b] (int (cmpN (nv a) (nv b))) :=
  spec_calls (enters_of Tryd.func80 rfl rfl) rfl rfl fun w _ => (Cmp_any a b w).mono fun _ _ h => ⟨h.1, h.2 ▸ Below.refl _ _⟩
theorem k_nCmp (n m : Nat) (ha : nv a = n) (hb : nv b = m) (k : ∀ c, c = cmpN n m → K (int c)) : Ask 80 [str a, str b] K := by
  subst ha hb; exact use (nCmp_spec a b) rfl (k _ rfl)
theorem cmpN_le {a b : Nat} : cmpN a b ≤ 0 ↔ a ≤ b := by
  unfold cmpN
  split
  · omega
  · split <;> omega
theorem cmpN_gt {a b : Nat} : 0 < cmpN a b ↔ b < a := by
  unfold cmpN
  split
  · omega
  · split <;> omega
def smallP (x : RV) : Prop := x.good ∧ nv x.a ≤ 1000000 ∧ nv x.d ≤ 1000
instance (x : RV) : Decidable (smallP x) := by unfold smallP; infer_instance
set_option maxRecDepth 100000 in
theorem k_Small (hx : x.z ≤ 4398046511104) (k : K (bool (decide (smallP x)))) : Ask 35 [rat x] K := by
  refine use (r := bool (decide (smallP x))) ?_ rfl k
  have bad : ¬ smallP x → bool (decide (smallP x)) = bool false := fun h => by rw [decide_eq_false h]
  have len : ∀ (s : ByteArray) (m j : Nat), enc (nv s) = s → nv s ≤ m → m < 256 ^ j → s.size ≤ j := by
    intro s m j h1 h2 h3
    rw [← h1]
    exact bz_le.2 (by omega)
  refine fn_spec Tryd.func35 rfl rfl Tryd.ntmps35 rfl (by kernel_rfl) rfl rfl ?_
  refine fork (fun e1 => ?_) (fun e1 => ?_)
  · refine fork (fun e2 => ?_) (fun e2 => ?_)
    · refine k_good (by omega) fun g hg => ?_
      cases g with
      | true =>
        have hgood : x.good := of_decide_eq_true hg.symm
        refine k_nOf (n := 1000000) (by omega) ?_
        refine k_nCmp (nv x.a) 1000000 rfl (nv_enc _) fun c1 h1 => ?_
        refine fork (fun e3 => ?_) (fun e3 => ?_)
        · have g1 : nv x.a ≤ 1000000 := cmpN_le.1 (by rw [← h1]; exact of_decide_eq_true e3)
          refine k_nOf (n := 1000) (by omega) ?_
          refine k_nCmp (nv x.d) 1000 rfl (nv_enc _) fun c2 h2 => ?_
          refine ⟨by kernel_rfl, ?_⟩
          refine Eq.trans (b := bool (decide (c2 ≤ 0))) ?_ rfl
          congr 1
          rw [decide_eq_decide, h2, cmpN_le]
          exact ⟨fun h => h.2.2, fun h => ⟨hgood, g1, h⟩⟩
        · refine ⟨by kernel_rfl, ?_⟩
          refine Eq.trans (bad fun h => of_decide_eq_false e3 ?_) rfl
          rw [h1]; exact cmpN_le.2 h.2.1
      | false =>
        refine ⟨by kernel_rfl, ?_⟩
        exact Eq.trans (bad fun h => of_decide_eq_false hg.symm h.1) rfl
    · refine ⟨by kernel_rfl, ?_⟩
      refine Eq.trans (bad fun h => of_decide_eq_false e2 ?_) rfl
      have := len x.d 1000 2 h.1.2.1 h.2.2 (by decide)
      show ((x.d.size : Nat) : Int) ≤ 2
      omega
  · refine ⟨by kernel_rfl, ?_⟩
    refine Eq.trans (bad fun h => of_decide_eq_false e1 ?_) rfl
    have := len x.a 1000000 3 h.1.1 h.2.1 (by decide)
    show ((x.a.size : Nat) : Int) ≤ 3
    omega
theorem intV_big {n : Nat} (h : 9223372036854775807 < n) : intV n = 0 := by unfold intV; rw [if_neg (by omega)]
theorem intE_big {n : Nat} (h : 9223372036854775807 < n) : intE n = 2 := by unfold intE; rw [if_neg (by omega)]
theorem intV_small {n : Nat} (h : n ≤ 9223372036854775807) : intV n = n := by unfold intV; rw [if_pos h]
theorem intE_small {n : Nat} (h : n ≤ 9223372036854775807) : intE n = 0 := by unfold intE; rw [if_pos h]
theorem nv_max : nv ⟨#[127, 255, 255, 255, 255, 255, 255, 255]⟩ = 9223372036854775807 := by decide
theorem dn_max (den : Int) : (if den > 1 then den else 1) = dnN den := by unfold dnN; split <;> split <;> omega
set_option maxHeartbeats 8000000 in
set_option maxRecDepth 100000 in
theorem ratFloors_spec (x : RV) (den : Int) (hx : x.z ≤ 1048576) (_ : -9223372036854775808 ≤ den) (hd2 : den ≤ 9223372036854775807) : Spec Tryd.prog Tab 5 [rat x, int den] (bool true) := by
  obtain ⟨d1, d2⟩ := dnN_pos den hd2
  refine fn_spec Tryd.func5 rfl rfl Tryd.ntmps5 rfl (by kernel_rfl) rfl rfl ?_
  refine k_begun ?_
  refine ⟨fun e => by simp at e, fun _ => ?_⟩
  refine k_QOf (by omega) fun rx px hpx hrx hfx zx => ?_
  subst hpx hrx
  refine k_floor (by omega) fun v e hv he => ?_
  refine k_QFloor hfx (by omega) fun f hf zf => ?_
  obtain ⟨zf1, zf2⟩ := z_sizes (x := f) (Nat.le_refl _)
  refine k_rCompare x.q.floor.natAbs 9223372036854775807 hf.abs nv_max (Nat.le_trans zf1 (by omega)) (by decide) fun c hc => ?_
  refine ⟨fun e1 => ?_, fun e1 => ?_⟩
  · have hbig : 9223372036854775807 < x.q.floor.natAbs := cmpN_gt.1 (by rw [← hc]; exact of_decide_eq_true e1)
    have hv0 : v = 0 := by rw [hv, flV, intV_big hbig]; split <;> rfl
    have he2 : e = 2 := by rw [he, flE]; exact intE_big hbig
    subst hv0 he2
    refine ⟨fun e => by simp at e, fun _ => ?_⟩
    refine k_Whole1 (if den > 1 then den else 1) (by rw [dn_max]; omega) (by rw [dn_max]; omega) fun d hd zd => ?_
    rw [dn_max] at hd
    have hdn : nv d.a = (dnN den).toNat := by rw [hd.abs]; omega
    refine k_QMul hfx hd.fr (by omega) (by omega) fun u1 v1 w1 => ?_
    refine k_QFloor v1 (by omega) fun dw hdw zdw => ?_
    refine k_QNeg hfx fun u2 v2 w2 => ?_
    refine k_QMul v2 hd.fr (by omega) (by omega) fun u3 v3 w3 => ?_
    refine k_QFloor v3 (by omega) fun u4 hu4 zu4 => ?_
    refine use (QNeg_spec u4) rfl ?_
    refine ⟨by kernel_rfl, ?_⟩
    obtain ⟨zdw1, zdw2⟩ := z_sizes (x := dw) (Nat.le_refl _)
    obtain ⟨zu41, zu42⟩ := z_sizes (x := u4) (Nat.le_refl _)
    obtain ⟨zd1, zd2⟩ := z_sizes (x := d) (Nat.le_refl _)
    refine k_Fine (by omega) fun g hg => ?_
    cases g with
    | false =>
      have hsm2 : decide (smallP x) = false := decide_eq_false fun h => of_decide_eq_false hg.symm h.1
      refine ⟨by kernel_rfl, ?_⟩
      refine k_down (x := x) (by omega) hd2 fun q1 g3 z3 => ?_
      refine k_QIs (r := ⟨dw.s, dw.a, d.a⟩) (hdw.over hdn (by omega)) (RV.z_of (Nat.le_trans zdw1 (by omega)) (Nat.le_trans zd1 (by omega))) rfl fun b1 hb1 => ?_
      have hb1' : b1 = true := by rw [hb1, g3]; exact decide_eq_true rfl
      subst hb1'
      refine k_up (x := x) (by omega) hd2 fun q2 g4 z4 => ?_
      refine k_QIs (r := ⟨!u4.s, u4.a, d.a⟩) (hu4.neg.over hdn (by omega)) (RV.z_of (Nat.le_trans zu41 (by omega)) (Nat.le_trans zd1 (by omega))) rfl fun b2 hb2 => ?_
      have hb2' : b2 = true := by rw [hb2, g4]; exact decide_eq_true (by unfold upQ downQ; rw [Rat.neg_mkRat])
      subst hb2'
      refine k_Small (by omega) ?_
      refine k_eql_bool fun b3 hb3 => ?_
      have hb3' : b3 = true := by rw [hb3, hsm2]; simp
      subst hb3'
      refine ⟨by kernel_rfl, ?_⟩
      exact rfl
    | true =>
      have hgood : x.good := of_decide_eq_true hg.symm
      refine k_rSmall (n := 1000000) (by omega) ?_
      refine k_rCompare (nv x.a) 1000000 rfl (nv_enc _) (Nat.le_trans (z_sizes hx).1 (by decide)) (Nat.le_trans (bz_le.2 (show (1000000 : Int).toNat < 256 ^ 8 by decide)) (by decide)) fun c1 h1 => ?_
      refine fork (fun e3 => ?_) (fun e3 => ?_)
      · have g1 : nv x.a ≤ 1000000 := cmpN_le.1 (by rw [← h1]; exact of_decide_eq_true e3)
        refine k_rSmall (n := 1000) (by omega) ?_
        refine k_rCompare (nv x.d) 1000 rfl (nv_enc _) (Nat.le_trans (z_sizes hx).2 (by decide)) (Nat.le_trans (bz_le.2 (show (1000 : Int).toNat < 256 ^ 8 by decide)) (by decide)) fun c2 h2 => ?_
        have hsm2 : decide (smallP x) = decide (c2 ≤ 0) := by
          rw [decide_eq_decide, h2, cmpN_le]
          exact ⟨fun h => h.2.2, fun h => ⟨hgood, g1, h⟩⟩
        refine ⟨by kernel_rfl, ?_⟩
        refine k_down (x := x) (by omega) hd2 fun q1 g3 z3 => ?_
        refine k_QIs (r := ⟨dw.s, dw.a, d.a⟩) (hdw.over hdn (by omega)) (RV.z_of (Nat.le_trans zdw1 (by omega)) (Nat.le_trans zd1 (by omega))) rfl fun b1 hb1 => ?_
        have hb1' : b1 = true := by rw [hb1, g3]; exact decide_eq_true rfl
        subst hb1'
        refine k_up (x := x) (by omega) hd2 fun q2 g4 z4 => ?_
        refine k_QIs (r := ⟨!u4.s, u4.a, d.a⟩) (hu4.neg.over hdn (by omega)) (RV.z_of (Nat.le_trans zu41 (by omega)) (Nat.le_trans zd1 (by omega))) rfl fun b2 hb2 => ?_
        have hb2' : b2 = true := by rw [hb2, g4]; exact decide_eq_true (by unfold upQ downQ; rw [Rat.neg_mkRat])
        subst hb2'
        refine k_Small (by omega) ?_
        refine k_eql_bool fun b3 hb3 => ?_
        have hb3' : b3 = true := by rw [hb3, hsm2]; simp
        subst hb3'
        refine ⟨by kernel_rfl, ?_⟩
        exact rfl
      · have hsm2 : decide (smallP x) = false := decide_eq_false fun h => of_decide_eq_false e3 (by rw [h1]; exact cmpN_le.2 h.2.1)
        refine ⟨by kernel_rfl, ?_⟩
        refine k_down (x := x) (by omega) hd2 fun q1 g3 z3 => ?_
        refine k_QIs (r := ⟨dw.s, dw.a, d.a⟩) (hdw.over hdn (by omega)) (RV.z_of (Nat.le_trans zdw1 (by omega)) (Nat.le_trans zd1 (by omega))) rfl fun b1 hb1 => ?_
        have hb1' : b1 = true := by rw [hb1, g3]; exact decide_eq_true rfl
        subst hb1'
        refine k_up (x := x) (by omega) hd2 fun q2 g4 z4 => ?_
        refine k_QIs (r := ⟨!u4.s, u4.a, d.a⟩) (hu4.neg.over hdn (by omega)) (RV.z_of (Nat.le_trans zu41 (by omega)) (Nat.le_trans zd1 (by omega))) rfl fun b2 hb2 => ?_
        have hb2' : b2 = true := by rw [hb2, g4]; exact decide_eq_true (by unfold upQ downQ; rw [Rat.neg_mkRat])
        subst hb2'
        refine k_Small (by omega) ?_
        refine k_eql_bool fun b3 hb3 => ?_
        have hb3' : b3 = true := by rw [hb3, hsm2]; simp
        subst hb3'
        refine ⟨by kernel_rfl, ?_⟩
        exact rfl
  · have hsm : ¬ 9223372036854775807 < x.q.floor.natAbs := fun h => of_decide_eq_false e1 (by rw [hc]; exact cmpN_gt.2 h)
    have hv0 : v = x.q.floor := by rw [hv, flV, intV_small (by omega)]; split <;> omega
    have he2 : e = 0 := by rw [he, flE]; exact intE_small (by omega)
    subst hv0 he2
    refine k_Whole x.q.floor (by omega) (by omega) fun r0 f0 z0 => ?_
    refine k_QCmp f0 hf.fr (by omega) (by omega) fun n hn => ?_
    have hn0 : n = 0 := by rw [hn, Rat.sub_self]; rfl
    subst hn0
    refine ⟨by kernel_rfl, ?_⟩
    refine ⟨fun e => by simp at e, fun _ => ?_⟩
    refine k_Whole1 (if den > 1 then den else 1) (by rw [dn_max]; omega) (by rw [dn_max]; omega) fun d hd zd => ?_
    rw [dn_max] at hd
    have hdn : nv d.a = (dnN den).toNat := by rw [hd.abs]; omega
    refine k_QMul hfx hd.fr (by omega) (by omega) fun u1 v1 w1 => ?_
    refine k_QFloor v1 (by omega) fun dw hdw zdw => ?_
    refine k_QNeg hfx fun u2 v2 w2 => ?_
    refine k_QMul v2 hd.fr (by omega) (by omega) fun u3 v3 w3 => ?_
    refine k_QFloor v3 (by omega) fun u4 hu4 zu4 => ?_
    refine use (QNeg_spec u4) rfl ?_
    refine ⟨by kernel_rfl, ?_⟩
    obtain ⟨zdw1, zdw2⟩ := z_sizes (x := dw) (Nat.le_refl _)
    obtain ⟨zu41, zu42⟩ := z_sizes (x := u4) (Nat.le_refl _)
    obtain ⟨zd1, zd2⟩ := z_sizes (x := d) (Nat.le_refl _)
    refine k_Fine (by omega) fun g hg => ?_
    cases g with
    | false =>
      have hsm2 : decide (smallP x) = false := decide_eq_false fun h => of_decide_eq_false hg.symm h.1
      refine ⟨by kernel_rfl, ?_⟩
      refine k_down (x := x) (by omega) hd2 fun q1 g3 z3 => ?_
      refine k_QIs (r := ⟨dw.s, dw.a, d.a⟩) (hdw.over hdn (by omega)) (RV.z_of (Nat.le_trans zdw1 (by omega)) (Nat.le_trans zd1 (by omega))) rfl fun b1 hb1 => ?_
      have hb1' : b1 = true := by rw [hb1, g3]; exact decide_eq_true rfl
      subst hb1'
      refine k_up (x := x) (by omega) hd2 fun q2 g4 z4 => ?_
      refine k_QIs (r := ⟨!u4.s, u4.a, d.a⟩) (hu4.neg.over hdn (by omega)) (RV.z_of (Nat.le_trans zu41 (by omega)) (Nat.le_trans zd1 (by omega))) rfl fun b2 hb2 => ?_
      have hb2' : b2 = true := by rw [hb2, g4]; exact decide_eq_true (by unfold upQ downQ; rw [Rat.neg_mkRat])
      subst hb2'
      refine k_Small (by omega) ?_
      refine k_eql_bool fun b3 hb3 => ?_
      have hb3' : b3 = true := by rw [hb3, hsm2]; simp
      subst hb3'
      refine ⟨by kernel_rfl, ?_⟩
      exact rfl
    | true =>
      have hgood : x.good := of_decide_eq_true hg.symm
      refine k_rSmall (n := 1000000) (by omega) ?_
      refine k_rCompare (nv x.a) 1000000 rfl (nv_enc _) (Nat.le_trans (z_sizes hx).1 (by decide)) (Nat.le_trans (bz_le.2 (show (1000000 : Int).toNat < 256 ^ 8 by decide)) (by decide)) fun c1 h1 => ?_
      refine fork (fun e3 => ?_) (fun e3 => ?_)
      · have g1 : nv x.a ≤ 1000000 := cmpN_le.1 (by rw [← h1]; exact of_decide_eq_true e3)
        refine k_rSmall (n := 1000) (by omega) ?_
        refine k_rCompare (nv x.d) 1000 rfl (nv_enc _) (Nat.le_trans (z_sizes hx).2 (by decide)) (Nat.le_trans (bz_le.2 (show (1000 : Int).toNat < 256 ^ 8 by decide)) (by decide)) fun c2 h2 => ?_
        have hsm2 : decide (smallP x) = decide (c2 ≤ 0) := by
          rw [decide_eq_decide, h2, cmpN_le]
          exact ⟨fun h => h.2.2, fun h => ⟨hgood, g1, h⟩⟩
        refine ⟨by kernel_rfl, ?_⟩
        refine k_down (x := x) (by omega) hd2 fun q1 g3 z3 => ?_
        refine k_QIs (r := ⟨dw.s, dw.a, d.a⟩) (hdw.over hdn (by omega)) (RV.z_of (Nat.le_trans zdw1 (by omega)) (Nat.le_trans zd1 (by omega))) rfl fun b1 hb1 => ?_
        have hb1' : b1 = true := by rw [hb1, g3]; exact decide_eq_true rfl
        subst hb1'
        refine k_up (x := x) (by omega) hd2 fun q2 g4 z4 => ?_
        refine k_QIs (r := ⟨!u4.s, u4.a, d.a⟩) (hu4.neg.over hdn (by omega)) (RV.z_of (Nat.le_trans zu41 (by omega)) (Nat.le_trans zd1 (by omega))) rfl fun b2 hb2 => ?_
        have hb2' : b2 = true := by rw [hb2, g4]; exact decide_eq_true (by unfold upQ downQ; rw [Rat.neg_mkRat])
        subst hb2'
        refine k_Small (by omega) ?_
        refine k_eql_bool fun b3 hb3 => ?_
        have hb3' : b3 = true := by rw [hb3, hsm2]; simp
        subst hb3'
        refine ⟨by kernel_rfl, ?_⟩
        exact rfl
      · have hsm2 : decide (smallP x) = false := decide_eq_false fun h => of_decide_eq_false e3 (by rw [h1]; exact cmpN_le.2 h.2.1)
        refine ⟨by kernel_rfl, ?_⟩
        refine k_down (x := x) (by omega) hd2 fun q1 g3 z3 => ?_
        refine k_QIs (r := ⟨dw.s, dw.a, d.a⟩) (hdw.over hdn (by omega)) (RV.z_of (Nat.le_trans zdw1 (by omega)) (Nat.le_trans zd1 (by omega))) rfl fun b1 hb1 => ?_
        have hb1' : b1 = true := by rw [hb1, g3]; exact decide_eq_true rfl
        subst hb1'
        refine k_up (x := x) (by omega) hd2 fun q2 g4 z4 => ?_
        refine k_QIs (r := ⟨!u4.s, u4.a, d.a⟩) (hu4.neg.over hdn (by omega)) (RV.z_of (Nat.le_trans zu41 (by omega)) (Nat.le_trans zd1 (by omega))) rfl fun b2 hb2 => ?_
        have hb2' : b2 = true := by rw [hb2, g4]; exact decide_eq_true (by unfold upQ downQ; rw [Rat.neg_mkRat])
        subst hb2'
        refine k_Small (by omega) ?_
        refine k_eql_bool fun b3 hb3 => ?_
        have hb3' : b3 = true := by rw [hb3, hsm2]; simp
        subst hb3'
        refine ⟨by kernel_rfl, ?_⟩
        exact rfl
theorem ratFloors_walk (s0 : Bool) (a0 d0 : ByteArray) (n : Int) (N : Nat) (w : World) (_ : 1 ≤ N) (hN : N ≤ 1048576)
    (k1 : a0.size ≤ N) (k2 : d0.size ≤ N) (hn : -9223372036854775808 ≤ n ∧ n ≤ 9223372036854775807) (hT : Tab w) :
    Calls Tryd.prog 5 #[.agg #[.bool s0, .string a0, .string d0], .int .i64 n] w fun e w' => e = .returned (.bool true) ∧ Below w.heap.size w w' :=
  have zz : ∀ (s : Bool) (a d : ByteArray), a.size ≤ N → d.size ≤ N → RV.z ⟨s, a, d⟩ ≤ 1048576 := fun s a d h1 h2 => by unfold RV.z; exact Nat.le_trans (Nat.max_le.2 ⟨h1, h2⟩) hN
  calls_of_spec (ratFloors_spec ⟨s0, a0, d0⟩ n (zz _ _ _ k1 k2) hn.1 hn.2) rfl hT (pvl_rel (vs := [rat ⟨s0, a0, d0⟩, int n]) rfl)
end
end Go.Proofs.YtibipdokkcpilaaDoor.eng

