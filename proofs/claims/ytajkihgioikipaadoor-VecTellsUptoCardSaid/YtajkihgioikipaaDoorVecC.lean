/- Walks: rat.Sign, vec.Same, gantref1.Eq; gantlaw1.num, rat.Text at -1/2, gantlaw1.ratBegun. -/
import Derived.Test.YtajkihgioikipaaDoorVecB
import Derived.Test.YtajkihgioikipaaDoorNatJ
namespace Go.Proofs.YtajkihgioikipaaDoor.vecC
open Go.RowKit num mem seg q ratA held ratB ratC ratD ratE vars vecA turnA turnB vecB

/-- Sign's answer -/
def sgnQ (p : Rat) : Int := if p.num = 0 then 0 else if p.num < 0 then -1 else 1
set_option maxHeartbeats 1000000 in
theorem rSign_any (s : Bool) (a d : ByteArray) (w : World) (ha : a.size ≤ 17592186044416) (hd : d.size ≤ 17592186044416) (hT : Tab w) :
    Calls Tryd.prog 97 #[.agg #[.bool s, .string a, .string d]] w fun x w' => x = .returned (.int .i64 (sgnQ (qv s a d))) ∧ Below w.heap.size w w' := by
  have V0 := vars1 w 39 [.bool s, .string a, .string d]
  obtain ⟨p, hp⟩ : ∃ p, qv s a d = p := ⟨_, rfl⟩
  rw [hp]
  have HP := Lib.hid hp
  clear hp
  go_enter Tryd.func97, Tryd.ntmps97
  go_wp2_with fail
  refine (fit_any s a d _ ha hd (V0.tab hT)).mono ?_
  rintro _ w1 ⟨u, c, f, rfl, i1, hb1⟩
  rw [HP.out] at i1
  have V1 := V0.call hb1
  obtain ⟨r0, r1, r2, f0, f1, f2⟩ := row3 (V1.row 0 rfl)
  obtain ⟨n, m, rfl, rfl, hn, hm, hmp, hx⟩ := i1.parts
  have V2 := V1.put3 0 rfl (.bool u) (.string (enc n)) (.string (enc m))
  by_cases h0 : n = 0
  · have HS := Lib.hid (show sgnQ p = 0 by unfold sgnQ; rw [if_pos (by rw [← hn, h0]; unfold sg; simp)])
    subst h0
    rw [enc_zero] at V2 ⊢
    clear hn hm hmp hx i1
    go_wp2_with fail
    go_ret
    exact ⟨ret_int HS.out.symm, V2.1⟩
  · have hne := natO.enc_ne (show 0 < n by omega)
    have hnum : p.num ≠ 0 := by
      intro h; apply h0; rw [hx, h]; rfl
    have hu := i1.1
    cases u with
    | true =>
      have HS := Lib.hid (show sgnQ p = -1 by unfold sgnQ; rw [if_neg hnum, if_pos (by simpa using hu.symm)])
      clear hn hm hmp hx i1 h0 hnum hu
      go_wp2_with fail
      go_ret
      exact ⟨ret_int HS.out.symm, V2.1⟩
    | false =>
      have HS := Lib.hid (show sgnQ p = 1 by unfold sgnQ; rw [if_neg hnum, if_neg (by simpa using hu.symm)])
      clear hn hm hmp hx i1 h0 hnum hu
      go_wp2_with fail
      go_ret
      exact ⟨ret_int HS.out.symm, V2.1⟩
theorem cmpQ_zero {p q : Rat} : cmpQ p q = 0 ↔ p = q := by
  unfold cmpQ
  constructor
  · intro h
    split at h
    · omega
    · rename_i h1
      split at h
      · omega
      · rename_i h2
        exact Rat.le_antisymm (Rat.not_lt.1 h2) (Rat.not_lt.1 h1)
  · intro h
    subst h
    rw [if_neg Rat.lt_irrefl, if_neg Rat.lt_irrefl]
theorem sgnQ_zero {p q : Rat} : sgnQ (p - q) = 0 ↔ p = q := by
  have h1 : sgnQ (p - q) = 0 ↔ (p - q).num = 0 := by
    unfold sgnQ
    constructor
    · intro h
      apply Decidable.byContradiction
      intro hn
      rw [if_neg hn] at h
      split at h <;> omega
    · intro h; rw [if_pos h]
  rw [h1, Rat.num_eq_zero]
  constructor
  · intro h
    have : p - q + q = 0 + q := by rw [h]
    rwa [Rat.sub_add_cancel, Rat.zero_add] at this
  · intro h; rw [h, Rat.sub_self]
set_option maxHeartbeats 1000000 in
theorem vSame_any (s00 : Bool) (a00 d00 : ByteArray) (s01 : Bool) (a01 d01 : ByteArray) (s10 : Bool) (a10 d10 : ByteArray) (s11 : Bool) (a11 d11 : ByteArray) (N : Nat) (w : World) (hN : N ≤ 1073741824) (ha00 : a00.size ≤ N) (hd00 : d00.size ≤ N) (ha01 : a01.size ≤ N) (hd01 : d01.size ≤ N) (ha10 : a10.size ≤ N) (hd10 : d10.size ≤ N) (ha11 : a11.size ≤ N) (hd11 : d11.size ≤ N) (hT : Tab w) :
    Calls Tryd.prog 63 #[.agg #[.bool s00, .string a00, .string d00, .bool s01, .string a01, .string d01], .agg #[.bool s10, .string a10, .string d10, .bool s11, .string a11, .string d11]] w fun x w' => x = .returned (.bool (decide (qv s00 a00 d00 = qv s10 a10 d10 ∧ qv s01 a01 d01 = qv s11 a11 d11))) ∧ Below w.heap.size w w' := by
  have V0 := vars2 w 41 41 [.bool s00, .string a00, .string d00, .bool s01, .string a01, .string d01] [.bool s10, .string a10, .string d10, .bool s11, .string a11, .string d11]
  obtain ⟨k1, hk1⟩ : ∃ k, cmpQ (qv s00 a00 d00) (qv s10 a10 d10) = k := ⟨_, rfl⟩
  obtain ⟨k2, hk2⟩ : ∃ k, cmpQ (qv s01 a01 d01) (qv s11 a11 d11) = k := ⟨_, rfl⟩
  have HE := Lib.hid (show decide (k1 = 0 ∧ k2 = 0) = decide (qv s00 a00 d00 = qv s10 a10 d10 ∧ qv s01 a01 d01 = qv s11 a11 d11) from decide_eq_decide.2 (by rw [← hk1, ← hk2, cmpQ_zero, cmpQ_zero]))
  have K1 := Lib.hid hk1
  have K2 := Lib.hid hk2
  clear hk1 hk2
  obtain ⟨r0, r1, r2, r3, r4, r5, _⟩ := row6 (V0.row 0 rfl)
  obtain ⟨t0, t1, t2, t3, t4, t5, _⟩ := row6 (V0.row 1 rfl)
  by_cases h1 : k1 = 0
  · subst h1
    by_cases h2 : k2 = 0
    · subst h2
      go_enter Tryd.func63, Tryd.ntmps63
      go_wp2_with fail
      refine (rCmp_any _ _ _ _ _ _ _ (by omega) (by omega) (by omega) (by omega) (V0.tab hT)).mono ?_
      rintro _ w1 ⟨rfl, hb1⟩
      rw [K1.out]
      have V1 := V0.call hb1
      obtain ⟨r0, r1, r2, r3, r4, r5, _⟩ := row6 (V1.row 0 rfl)
      obtain ⟨t0, t1, t2, t3, t4, t5, _⟩ := row6 (V1.row 1 rfl)
      go_wp2_with fail
      refine (rCmp_any _ _ _ _ _ _ _ (by omega) (by omega) (by omega) (by omega) (V1.tab hT)).mono ?_
      rintro _ w2 ⟨rfl, hb2⟩
      rw [K2.out]
      have V2 := V1.call hb2
      go_wp2_with fail
      go_ret
      exact ⟨ret_bool (by rw [← HE.out]; rfl), V2.1⟩
    · have hkt : (k2 == 0) = false := by simpa using h2
      have H2 := Lib.hid h2
      clear h2
      go_enter Tryd.func63, Tryd.ntmps63
      go_wp2_with fail
      refine (rCmp_any _ _ _ _ _ _ _ (by omega) (by omega) (by omega) (by omega) (V0.tab hT)).mono ?_
      rintro _ w1 ⟨rfl, hb1⟩
      rw [K1.out]
      have V1 := V0.call hb1
      obtain ⟨r0, r1, r2, r3, r4, r5, _⟩ := row6 (V1.row 0 rfl)
      obtain ⟨t0, t1, t2, t3, t4, t5, _⟩ := row6 (V1.row 1 rfl)
      go_wp2_with fail
      refine (rCmp_any _ _ _ _ _ _ _ (by omega) (by omega) (by omega) (by omega) (V1.tab hT)).mono ?_
      rintro _ w2 ⟨rfl, hb2⟩
      rw [K2.out]
      have V2 := V1.call hb2
      go_wp2_with fail
      go_ret
      exact ⟨ret_bool (by rw [← HE.out]; symm; apply decide_eq_false; exact fun h => H2.out h.2), V2.1⟩
  · have hkt : (k1 == 0) = false := by simpa using h1
    have H1 := Lib.hid h1
    clear h1
    go_enter Tryd.func63, Tryd.ntmps63
    go_wp2_with fail
    refine (rCmp_any _ _ _ _ _ _ _ (by omega) (by omega) (by omega) (by omega) (V0.tab hT)).mono ?_
    rintro _ w1 ⟨rfl, hb1⟩
    rw [K1.out]
    have V1 := V0.call hb1
    go_wp2_with fail
    go_ret
    exact ⟨ret_bool (by rw [← HE.out]; symm; apply decide_eq_false; exact fun h => H1.out h.1), V1.1⟩
set_option maxHeartbeats 1000000 in
theorem REq_any (s00 : Bool) (a00 d00 : ByteArray) (s01 : Bool) (a01 d01 : ByteArray) (s10 : Bool) (a10 d10 : ByteArray) (s11 : Bool) (a11 d11 : ByteArray) (N : Nat) (w : World) (hN1 : 1 ≤ N) (hN : N ≤ 1073741824) (ha00 : a00.size ≤ N) (hd00 : d00.size ≤ N) (ha01 : a01.size ≤ N) (hd01 : d01.size ≤ N) (ha10 : a10.size ≤ N) (hd10 : d10.size ≤ N) (ha11 : a11.size ≤ N) (hd11 : d11.size ≤ N) (hT : Tab w) :
    Calls Tryd.prog 64 #[.agg #[.bool s00, .string a00, .string d00, .bool s01, .string a01, .string d01], .agg #[.bool s10, .string a10, .string d10, .bool s11, .string a11, .string d11]] w fun x w' => x = .returned (.bool (decide (qv s00 a00 d00 = qv s10 a10 d10 ∧ qv s01 a01 d01 = qv s11 a11 d11))) ∧ Below w.heap.size w w' := by
  have V0 := vars2 w 41 41 [.bool s00, .string a00, .string d00, .bool s01, .string a01, .string d01] [.bool s10, .string a10, .string d10, .bool s11, .string a11, .string d11]
  have z00 := qs_qv s00 a00 d00
  have z01 := qs_qv s01 a01 d01
  have z10 := qs_qv s10 a10 d10
  have z11 := qs_qv s11 a11 d11
  have y0 := qs_sub (qv s00 a00 d00) (qv s10 a10 d10)
  have y1 := qs_sub (qv s01 a01 d01) (qv s11 a11 d11)
  obtain ⟨k1, hk1⟩ : ∃ k, sgnQ (qv s00 a00 d00 - qv s10 a10 d10) = k := ⟨_, rfl⟩
  obtain ⟨k2, hk2⟩ : ∃ k, sgnQ (qv s01 a01 d01 - qv s11 a11 d11) = k := ⟨_, rfl⟩
  have HE := Lib.hid (show decide (k1 = 0 ∧ k2 = 0) = decide (qv s00 a00 d00 = qv s10 a10 d10 ∧ qv s01 a01 d01 = qv s11 a11 d11) from decide_eq_decide.2 (by rw [← hk1, ← hk2, sgnQ_zero, sgnQ_zero]))
  have K1 := Lib.hid hk1
  have K2 := Lib.hid hk2
  clear hk1 hk2
  obtain ⟨r0, r1, r2, r3, r4, r5, _⟩ := row6 (V0.row 0 rfl)
  obtain ⟨t0, t1, t2, t3, t4, t5, _⟩ := row6 (V0.row 1 rfl)
  by_cases h1 : k1 = 0
  · subst h1
    have hcase : k2 = 0 ∨ (k2 == 0) = false := by
      by_cases h2 : k2 = 0
      · exact .inl h2
      · exact .inr (by simpa using h2)
    have HE2 := Lib.hid (show (k2 == 0) = decide ((0 : Int) = 0 ∧ k2 = 0) by
      by_cases h : k2 = 0
      · subst h; rfl
      · rw [decide_eq_false (fun x => h x.2)]; simpa using h)
    go_enter Tryd.func64, Tryd.ntmps64
    go_wp2_with fail
    refine (rSub_any _ _ _ _ _ _ _ (by omega) (by omega) (by omega) (by omega) (V0.tab hT)).mono ?_
    rintro _ w1 ⟨u1, c1, f1, rfl, i1, hb1⟩
    have V1 := V0.call hb1
    obtain ⟨s1a, s1b⟩ := i1.sz
    obtain ⟨r0, r1, r2, r3, r4, r5, _⟩ := row6 (V1.row 0 rfl)
    obtain ⟨t0, t1, t2, t3, t4, t5, _⟩ := row6 (V1.row 1 rfl)
    go_wp2_with fail
    refine (rSign_any _ _ _ _ (by omega) (by omega) (V1.tab hT)).mono ?_
    rintro _ w2 ⟨rfl, hb2⟩
    rw [i1.val, K1.out]
    have V2 := V1.call hb2
    obtain ⟨r0, r1, r2, r3, r4, r5, _⟩ := row6 (V2.row 0 rfl)
    obtain ⟨t0, t1, t2, t3, t4, t5, _⟩ := row6 (V2.row 1 rfl)
    go_wp2_with fail
    refine (rSub_any _ _ _ _ _ _ _ (by omega) (by omega) (by omega) (by omega) (V2.tab hT)).mono ?_
    rintro _ w3 ⟨u3, c3, f3, rfl, i3, hb3⟩
    have V3 := V2.call hb3
    obtain ⟨s3a, s3b⟩ := i3.sz
    go_wp2_with fail
    refine (rSign_any _ _ _ _ (by omega) (by omega) (V3.tab hT)).mono ?_
    rintro _ w4 ⟨rfl, hb4⟩
    rw [i3.val, K2.out]
    have V4 := V3.call hb4
    rcases hcase with h2 | h2
    · subst h2
      go_wp2_with fail
      go_ret
      exact ⟨ret_bool (by rw [← HE.out]; rfl), V4.1⟩
    · go_wp2_with fail
      go_ret
      exact ⟨ret_bool (by rw [← HE.out, ← HE2.out, h2]), V4.1⟩
  · have hkt : (k1 == 0) = false := by simpa using h1
    have H1 := Lib.hid h1
    clear h1
    go_enter Tryd.func64, Tryd.ntmps64
    go_wp2_with fail
    refine (rSub_any _ _ _ _ _ _ _ (by omega) (by omega) (by omega) (by omega) (V0.tab hT)).mono ?_
    rintro _ w1 ⟨u1, c1, f1, rfl, i1, hb1⟩
    have V1 := V0.call hb1
    obtain ⟨s1a, s1b⟩ := i1.sz
    go_wp2_with fail
    refine (rSign_any _ _ _ _ (by omega) (by omega) (V1.tab hT)).mono ?_
    rintro _ w2 ⟨rfl, hb2⟩
    rw [i1.val, K1.out]
    have V2 := V1.call hb2
    go_wp2_with fail
    go_ret
    exact ⟨ret_bool (by rw [← HE.out]; symm; apply decide_eq_false; exact fun h => H1.out h.1), V2.1⟩

set_option maxHeartbeats 1000000 in
theorem num_any (n m : Int) (w : World) (h1 : -9223372036854775808 ≤ n) (h2 : n ≤ 9223372036854775807) (h3 : -9223372036854775808 ≤ m) (h4 : m ≤ 9223372036854775807) (hm : (m : Rat) ≠ 0) (hT : Tab w) :
    Calls Tryd.prog 123 #[.int .i64 n, .int .i64 m] w fun x w' => Num ((n : Rat) / (m : Rat)) 17 w x w' := by
  have V0 := vars1 w 39 [.bool false, .string ⟨#[]⟩, .string ⟨#[]⟩]
  have hz : qs ((n : Rat) / (m : Rat)) ≤ 17 := by
    have e1 := qs_i64 h1 h2
    have e2 := qs_i64 h3 h4
    have := qs_div (n : Rat) (m : Rat)
    omega
  go_enter Tryd.func123, Tryd.ntmps123
  go_wp2_with fail
  refine (rMake_any n m _ h1 h2 h3 h4 (V0.tab hT)).mono ?_
  rintro _ w1 ⟨u, c, f, k, rfl, hq, hb1⟩
  obtain ⟨rfl, i1⟩ := quot_nz hq hm
  clear hq
  have V1 := V0.call hb1
  obtain ⟨r0, r1, r2, f0, f1, f2⟩ := row3 (V1.row 0 rfl)
  have V2 := V1.push 39 [.bool u, .string c, .string f]
  obtain ⟨r0, r1, r2, f0, f1, f2⟩ := row3 (V2.row 0 rfl)
  obtain ⟨t0, t1, t2, _⟩ := row3 (V2.row 1 rfl)
  have V3 := V2.put3 0 rfl (.bool u) (.string c) (.string f)
  go_wp2_with fail
  refine bodyPost_ret (results_rat rfl _ rfl (V3.row 0 rfl)) rfl ?_
  exact ⟨_, _, _, rfl, i1, hz, V3.1⟩

theorem enc_two : enc 2 = ⟨#[2]⟩ := by
  have h : nv ⟨#[2]⟩ = 2 := by decide
  rw [← h]
  exact enc_nv_of_nz (by intro c r e; simp at e; rw [← e.1]; decide)
theorem is_half : Is (((2 : Int) : Rat) / ((-4 : Int) : Rat)) true ⟨#[1]⟩ ⟨#[2]⟩ := by
  have h1 : (((2 : Int) : Rat) / ((-4 : Int) : Rat)).num = -1 := by decide +kernel
  have h2 : (((2 : Int) : Rat) / ((-4 : Int) : Rat)).den = 2 := by decide +kernel
  refine ⟨?_, ?_, ?_⟩
  · rw [h1]; rfl
  · rw [h1, ← enc_one]; rfl
  · rw [h2, enc_two]
set_option maxHeartbeats 1000000 in
theorem Text_half (w : World) (hT : Tab w) : Calls Tryd.prog 160 #[.agg #[.bool true, .string ⟨#[1]⟩, .string ⟨#[2]⟩]] w fun x w' => x = .returned (.string ⟨#[45, 49, 47, 50]⟩) ∧ Below w.heap.size w w' := by
  have V0 := vars1 w 39 [.bool true, .string ⟨#[1]⟩, .string ⟨#[2]⟩]
  have d1 : dec.dec 1 = ⟨#[49]⟩ := by rw [dec.dec_pos (by decide), dec.decL_pos (by decide), show 1 / 10 = 0 from rfl, dec.decL_zero]; rfl
  have d2 : dec.dec 2 = ⟨#[50]⟩ := by rw [dec.dec_pos (by decide), dec.decL_pos (by decide), show 2 / 10 = 0 from rfl, dec.decL_zero]; rfl
  have D1 := Lib.hid d1
  have D2 := Lib.hid d2
  clear d1 d2
  go_enter Tryd.func160, Tryd.ntmps160
  go_wp2_with fail
  refine (fit_any _ _ _ _ (by decide) (by decide) (V0.tab hT)).mono ?_
  rintro _ w1 ⟨u, c, f, rfl, i1, hb1⟩
  rw [is_half.val] at i1
  obtain ⟨rfl, rfl, rfl⟩ := i1.inj is_half
  clear i1
  have V1 := V0.call hb1
  obtain ⟨r0, r1, r2, f0, f1, f2⟩ := row3 (V1.row 0 rfl)
  have V2 := V1.put3 0 rfl (.bool true) (.string ⟨#[1]⟩) (.string ⟨#[2]⟩)
  go_wp2_with fail
  refine (natJ.Text_any ⟨#[1]⟩ _ (by decide)).mono ?_
  rintro _ w2 ⟨rfl, hb2⟩
  rw [show nv ⟨#[1]⟩ = 1 from nv_one, D1.out]
  have V3 := V2.call hb2
  obtain ⟨r0, r1, r2, f0, f1, f2⟩ := row3 (V3.row 0 rfl)
  go_wp2_with fail
  refine (natJ.Text_any ⟨#[2]⟩ _ (by decide)).mono ?_
  rintro _ w4 ⟨rfl, hb4⟩
  rw [show nv ⟨#[2]⟩ = 2 by decide, D2.out]
  have V4 := V3.call hb4
  go_wp2_with fail
  go_ret
  exact ⟨by rfl, V4.1⟩
set_option maxHeartbeats 1000000 in
theorem ratBegun_any (w : World) (hT : Tab w) : Calls Tryd.prog 124 #[] w fun x w' => x = .returned (.bool true) ∧ Below w.heap.size w w' := by
  have V0 := Vars.nil w
  have hg : decide (good true ⟨#[1]⟩ ⟨#[2]⟩) = true := decide_eq_true is_half.fine
  have HG := Lib.hid hg
  clear hg
  go_enter Tryd.func124, Tryd.ntmps124
  go_wp2_with fail
  refine (rMake_any 2 (-4) _ (by decide) (by decide) (by decide) (by decide) (V0.tab hT)).mono ?_
  rintro _ w1 ⟨u, c, f, k, rfl, hq, hb1⟩
  obtain ⟨rfl, i1⟩ := quot_nz hq (by decide +kernel)
  obtain ⟨rfl, rfl, rfl⟩ := i1.inj is_half
  clear hq i1
  have V1 := V0.call hb1
  have V2 := V1.push 39 [.bool true, .string ⟨#[1]⟩, .string ⟨#[2]⟩]
  obtain ⟨r0, r1, r2, f0, f1, f2⟩ := row3 (V2.row 0 rfl)
  go_wp2_with fail
  refine (Text_half _ (V2.tab hT)).mono ?_
  rintro _ w2 ⟨rfl, hb2⟩
  have V3 := V2.call hb2
  obtain ⟨r0, r1, r2, f0, f1, f2⟩ := row3 (V3.row 0 rfl)
  go_wp2_with fail
  refine (Good_any _ _ _ _ (by decide) (by decide) (V3.tab hT)).mono ?_
  rintro _ w4 ⟨rfl, hb4⟩
  rw [HG.out]
  have V4 := V3.call hb4
  go_wp2_with fail
  go_ret
  exact ⟨rfl, V4.1⟩

end Go.Proofs.YtajkihgioikipaaDoor.vecC
