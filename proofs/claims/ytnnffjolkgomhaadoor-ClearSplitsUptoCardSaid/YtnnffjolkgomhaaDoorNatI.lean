/- Walk: nat.Div. -/
import Derived.Test.YtnnffjolkgomhaaDoorNatH
namespace Go.Proofs.YtnnffjolkgomhaaDoor.natI
open Go.RowKit num mem natA natB natC natD natE natF natG natH

theorem wlen_mono {n m : Nat} (h : m ≤ n) : wlen 4 m ≤ wlen 4 n := by
  have h1 := @lt_wlen 4 n (by omega)
  exact (wlen_le (by omega)).2 (Nat.lt_of_le_of_lt h h1)
theorem wlen_pos {n : Nat} (h : 0 < n) : 1 ≤ wlen 4 n := by
  rcases Nat.lt_or_ge 0 (wlen 4 n) with h1 | h1
  · exact h1
  · have := (@wlen_le 4 n 0 (by omega)).1 h1
    simp at this
    omega
theorem w32_top {n : Nat} (h : 0 < n) : 0 < (w32 n).getD ((w32 n).length - 1) 0 := by
  have hp := wlen_pos h
  rw [w32_length]
  unfold w32
  rw [dg_getD (by omega)]
  have h1 : ¬ wlen 4 n ≤ wlen 4 n - 1 := by omega
  rw [wlen_le (by omega)] at h1
  have h2 := @lt_wlen 4 n (by omega)
  have e : (256 ^ 4) ^ wlen 4 n = (256 ^ 4) ^ (wlen 4 n - 1) * 256 ^ 4 := by rw [← Nat.pow_succ, Nat.succ_eq_add_one, Nat.sub_add_cancel hp]
  have e4 : (256 : Nat) ^ 4 = 4294967296 := by decide
  rw [e4] at h1 h2 e
  have hp2 : 0 < 4294967296 ^ (wlen 4 n - 1) := Nat.pow_pos (by omega)
  rw [e] at h2
  generalize 4294967296 ^ (wlen 4 n - 1) = P at *
  have h3 : 1 ≤ n / P := (Nat.le_div_iff_mul_le hp2).2 (by omega)
  have h4 : n / P < 4294967296 := Nat.div_lt_of_lt_mul h2
  rw [Nat.mod_eq_of_lt h4]
  omega

theorem ret3 {a b c d : ByteArray} (h : a = c) (h' : b = d) (k : Int) : Ending.returned (.tuple #[.string a, .string b, .int .i64 k]) = .returned (.tuple #[.string c, .string d, .int .i64 k]) := by rw [h, h']

theorem Div_zero (a b : ByteArray) (w : World) (hb : nv b = 0) :
    Calls Tryd.prog 183 #[.string a, .string b] w fun e w' => e = .returned (.tuple #[.string ⟨#[]⟩, .string ⟨#[]⟩, .int .i64 12]) ∧ w = w' := by
  have HB := Lib.hid (show enc (nv b) = ⟨#[]⟩ by rw [hb, enc_zero])
  clear hb
  go_enter Tryd.func183, Tryd.ntmps183
  go_wp2_with fail
  refine (trim_any a _).mono ?_
  rintro e w' ⟨rfl, rfl⟩
  go_wp2_with fail
  refine (trim_any b _).mono ?_
  rintro e w' ⟨rfl, rfl⟩
  rw [HB.out]
  go_wp2_with fail
  go_ret3
  exact ⟨rfl, rfl⟩

theorem div_small (n m : Nat) (h1 : n < 2 ^ 64) : ∃ q r : Nat, IntKind.u64.wrap ((n : Int) / (m : Int)) = (q : Int) ∧ (n : Int) % (m : Int) = (r : Int) ∧ q = n / m ∧ r = n % m ∧ q < 2 ^ 64 ∧ r < 2 ^ 64 := by
  have h3 : n / m ≤ n := Nat.div_le_self _ _
  have h4 : n % m ≤ n := Nat.mod_le _ _
  refine ⟨n / m, n % m, ?_, by simp, rfl, rfl, by omega, by omega⟩
  rw [← Int.natCast_ediv]
  generalize n / m = q at h3
  rw [IntKind.wrap_u64]
  omega
theorem rest_bits {r x y : Nat} (hr : r < y) (hy : y < 4294967296) (hx : x < 4294967296) : ∃ q r' : Nat,
    IntKind.u64.wrap ((bits .or .u64 ((r : Int) * 4294967296) (x : Int)).tdiv (y : Int)) % 4294967296 = (q : Int) ∧
    (bits .or .u64 ((r : Int) * 4294967296) (x : Int)).tmod (y : Int) = (r' : Int) ∧ q < 4294967296 ∧ r' < y ∧ q * y + r' = r * 4294967296 + x := by
  have h1 : bits .or .u64 ((r : Int) * 4294967296) (x : Int) = ((r * 4294967296 + x : Nat) : Int) := by
    have h := u64_or_shift 32 r x hx (by omega)
    simpa using h
  rw [h1]
  have hq : (r * 4294967296 + x) / y < 4294967296 := by
    rw [Nat.div_lt_iff_lt_mul (by omega)]
    have : (r + 1) * 4294967296 ≤ y * 4294967296 := Nat.mul_le_mul_right _ hr
    omega
  have hm : (r * 4294967296 + x) % y < y := Nat.mod_lt _ (by omega)
  have hd := Nat.div_add_mod (r * 4294967296 + x) y
  refine ⟨(r * 4294967296 + x) / y, (r * 4294967296 + x) % y, ?_, ?_, hq, hm, ?_⟩
  · rw [show ((r * 4294967296 + x : Nat) : Int).tdiv (y : Int) = (((r * 4294967296 + x) / y : Nat) : Int) from rfl]
    generalize (r * 4294967296 + x) / y = q at hq
    rw [IntKind.wrap_u64]
    omega
  · rfl
  · rw [Nat.mul_comm]; exact hd
theorem small_u64 {n : Nat} (h : (enc n).size ≤ 8) : n < 2 ^ 64 := by
  have := (@enc_size_le n 8).1 h
  simpa using this

set_option maxHeartbeats 1000000 in
theorem Div_any (a b : ByteArray) (w : World) (ha : a.size ≤ 35184372088832) (hb : b.size ≤ 35184372088832) (hb0 : 0 < nv b) :
    Calls Tryd.prog 183 #[.string a, .string b] w fun e w' => e = .returned (.tuple #[.string (enc (nv a / nv b)), .string (enc (nv a % nv b)), .int .i64 0]) ∧ Below w.heap.size w w' := by
  obtain ⟨n, hn⟩ : ∃ n, nv a = n := ⟨_, rfl⟩
  obtain ⟨m, hm⟩ : ∃ m, nv b = m := ⟨_, rfl⟩
  have hla : (enc n).size ≤ 35184372088832 := by rw [← hn]; exact Nat.le_trans (enc_nv_le a) ha
  have hlb : (enc m).size ≤ 35184372088832 := by rw [← hm]; exact Nat.le_trans (enc_nv_le b) hb
  rw [hn, hm]
  rw [hm] at hb0
  have Hn := Lib.hid hn
  have Hm := Lib.hid hm
  have Hb0 := Lib.hid hb0
  clear hm hn ha hb
  have hne : (enc m).data.toList = [] → False := fun h => by rw [enc_eq_empty] at h; omega
  have hsm : 0 < (enc m).size := by
    rw [← ba_length]
    cases h : (enc m).data.toList with
    | nil => exact (hne h).elim
    | cons x l => simp
  have hemp : (enc m).toList.isEmpty = false := by
    rw [Lib.toList_data]
    cases h : (enc m).data.toList with
    | nil => exact (hne h).elim
    | cons x l => rfl
  clear hne
  by_cases hs : (enc n).size ≤ 8 ∧ (enc m).size ≤ 8
  · obtain ⟨h1, h2⟩ := hs
    obtain ⟨q, r, hq, hr, hqe, hre, hql, hrl⟩ := div_small n m (small_u64 h1)
    have H1 := Lib.hid (small_u64 h1)
    have H2 := Lib.hid (small_u64 h2)
    have HQ := Lib.hid hq
    have HR := Lib.hid hr
    have HQE := Lib.hid hqe
    have HRE := Lib.hid hre
    have HQL := Lib.hid hql
    have HRL := Lib.hid hrl
    clear hq hr hqe hre hql hrl
    go_enter Tryd.func183, Tryd.ntmps183
    go_wp2_with fail
    refine (trim_any a _).mono ?_
    rintro e w' ⟨rfl, rfl⟩
    rw [Hn.out]
    go_wp2_with fail
    refine (trim_any b _).mono ?_
    rintro e w' ⟨rfl, rfl⟩
    rw [Hm.out]
    go_wp2_with fail
    refine (short_enc n _ H1.out).mono ?_
    rintro e w' ⟨rfl, rfl⟩
    go_wp2_with fail
    refine (short_enc m _ H2.out).mono ?_
    rintro e w' ⟨rfl, rfl⟩
    go_wp2_with fail
    rw [HQ.out]
    refine (fromShort_any q _ HQL.out).mono ?_
    rintro e w1 ⟨rfl, hb1⟩
    go_wp2_with fail
    refine (short_enc n _ H1.out).mono ?_
    rintro e w' ⟨rfl, rfl⟩
    go_wp2_with fail
    refine (short_enc m _ H2.out).mono ?_
    rintro e w' ⟨rfl, rfl⟩
    go_wp2_with fail
    rw [HR.out]
    refine (fromShort_any r _ HRL.out).mono ?_
    rintro e w2 ⟨rfl, hb2⟩
    go_wp2_with fail
    go_ret3
    exact ⟨ret3 (by rw [HQE.out]) (by rw [HRE.out]) 0, hb1.trans (hb2.mono hb1.size)⟩
  · by_cases hlt : n < m
    · have HQ := Lib.hid (show enc (n / m) = ⟨#[]⟩ by rw [Nat.div_eq_of_lt hlt, enc_zero])
      have HR := Lib.hid (show n % m = n from Nat.mod_eq_of_lt hlt)
      have HC := Lib.hid (show cmpN n m = -1 by unfold cmpN; rw [if_pos hlt])
      clear hlt
      go_enter Tryd.func183, Tryd.ntmps183
      go_wp2_with fail
      refine (trim_any a _).mono ?_
      rintro e w' ⟨rfl, rfl⟩
      rw [Hn.out]
      go_wp2_with fail
      refine (trim_any b _).mono ?_
      rintro e w' ⟨rfl, rfl⟩
      rw [Hm.out]
      go_wp2_with fail
      all_goals
        refine (Cmp_any _ _ _).mono ?_
        rintro e w' ⟨rfl, rfl⟩
        rw [nv_enc, nv_enc, HC.out]
        go_wp2_with fail
        go_ret3
        exact ⟨ret3 HQ.out.symm (by rw [HR.out]) 0, Below.refl _ _⟩
    · have hmn : m ≤ n := by omega
      have hms : (enc m).size ≤ (enc n).size := enc_mono hmn
      have hs8 : 8 < (enc n).size := by omega
      have HC := Lib.hid (show cmpN n m = 0 ∨ cmpN n m = 1 by unfold cmpN; rw [if_neg hlt]; split <;> simp)
      have Hmn := Lib.hid hmn
      clear hmn hlt hs hms
      go_enter Tryd.func183, Tryd.ntmps183
      go_wp2_with fail
      refine (trim_any a _).mono ?_
      rintro e w' ⟨rfl, rfl⟩
      rw [Hn.out]
      go_wp2_with fail
      refine (trim_any b _).mono ?_
      rintro e w' ⟨rfl, rfl⟩
      rw [Hm.out]
      go_wp2_with fail
      refine (Cmp_any _ _ _).mono ?_
      rintro e w' ⟨rfl, rfl⟩
      rw [nv_enc, nv_enc]
      obtain ⟨c, hc⟩ : ∃ c, cmpN n m = c := ⟨_, rfl⟩
      rw [hc]
      have hc0 : 0 ≤ c := by have := HC.out; omega
      clear hc
      go_wp2_with fail
      refine (words_any (enc n) _ (by omega)).mono ?_
      rintro e w1 ⟨bx, rfl, hX, hbx, hb1⟩
      go_wp2_with fail
      refine (words_any (enc m) _ (by omega)).mono ?_
      rintro e w2 ⟨by', rfl, hY, hby, hb2⟩
      rw [nv_enc] at hX hY
      rw [nv_enc, nv_enc]
      have hX2 := hX.below hb2 hX.lt
      have hbxl := hX.lt
      clear hX
      have hwn := wlen_size hla
      have hwm := wlen_size hlb
      have hwle := wlen_mono Hmn.out
      have hpos := wlen_pos Hb0.out
      obtain ⟨p, hp⟩ : ∃ p, wlen 4 n = p := ⟨_, rfl⟩
      obtain ⟨q, hq⟩ : ∃ q, wlen 4 m = q := ⟨_, rfl⟩
      rw [hp] at hwn hwle ⊢
      rw [hq] at hwm hwle hpos ⊢
      obtain ⟨X, hXX⟩ : ∃ X, X = w32 n := ⟨_, rfl⟩
      obtain ⟨Y, hYY⟩ : ∃ Y, Y = w32 m := ⟨_, rfl⟩
      have HX := Lib.hid (show (∀ d ∈ X, d < 4294967296) ∧ lv 4294967296 X = n ∧ X.length = p by rw [hXX]; exact ⟨w32_lt _, lv_w32 _, by rw [w32_length, hp]⟩)
      have HY := Lib.hid (show (∀ d ∈ Y, d < 4294967296) ∧ lv 4294967296 Y = m ∧ Y.length = q by rw [hYY]; exact ⟨w32_lt _, lv_w32 _, by rw [w32_length, hq]⟩)
      have HT := Lib.hid (show 0 < Y.getD (Y.length - 1) 0 by rw [hYY]; exact w32_top Hb0.out)
      rw [← hXX] at hX2
      rw [← hYY] at hY
      clear hp hq hXX hYY
      by_cases hq1 : q = 1
      · subst hq1
        obtain ⟨y, hy⟩ : ∃ y : Nat, y = Y.getD 0 0 := ⟨_, rfl⟩
        have hym : lv 4294967296 Y = y := by
          have h1 := lv_take_succ 4294967296 Y 0 (by rw [HY.out.2.2]; omega)
          rw [lv_take_of_le _ Y (by rw [HY.out.2.2]; omega), ← hy] at h1
          simpa [lv] using h1
        have hyl : y < 4294967296 := by rw [hy]; exact getD_lt (by omega) HY.out.1 _
        have hy0 : 0 < y := by have := HT.out; rw [HY.out.2.2] at this; rw [hy]; exact this
        have hcy := hY.int (i := 0) (by rw [HY.out.2.2]; omega)
        rw [← hy] at hcy
        have Hym := Lib.hid hym
        have Hy := Lib.hid hy
        have hbxy : bx ≠ by' := by omega
        have hbl := hX2.lt
        have hB2 : Below w.heap.size w w2 := hb1.trans (hb2.mono hb1.size)
        clear hy hym hb1 hb2
        go_wp2_with fail
        go_loopw [9, 10] (fun rr i wr => ∃ (k r : Nat) (e : Int) (Z : List Nat), k ≤ p ∧ i = .int .i64 e ∧ e = (k : Int) - 1 ∧ rr = .int .u64 r ∧ r < y ∧ Hid (Z.length = p - k) ∧ Hid (∀ d ∈ Z, d < 4294967296) ∧ Hid (lv 4294967296 Z * y + r = lv 4294967296 (X.drop k)) ∧
          Row wr bx 168 (nums .u32 (X.take k ++ Z)) ∧ Row wr by' 168 (nums .u32 Y) ∧ Below w.heap.size w wr) (fun _ i _ => (intOf i + 1).toNat)
        case atStart =>
          refine ⟨p, 0, _, [], Nat.le_refl _, rfl, rfl, rfl, hy0, by simp [Hid], (by intro d hd; cases hd), ?_, ?_, hY, hB2⟩
          · show _ = _; rw [List.drop_of_length_le (by rw [HX.out.2.2]; exact Nat.le_refl _)]; simp [lv]
          · rw [List.append_nil, List.take_of_length_le (by rw [HX.out.2.2]; exact Nat.le_refl _)]; exact hX2
        case round =>
          obtain ⟨k, r, e, Z, hk, rfl, he, rfl, hr, hZl, hZ, hlv, hRx, hRy, hBr⟩ := hrel
          clear hX2 hY hcy hB2
          have hcy := hRy.int (i := 0) (by rw [HY.out.2.2]; omega)
          rw [← Hy.out] at hcy
          rcases k with _ | j
          · obtain rfl : e = -1 := by simpa using he
            clear he
            rw [Nat.sub_zero] at hZl
            have hRz : Row wr bx 168 (nums .u32 Z) := hRx
            obtain ⟨hq, hr'⟩ : lv 4294967296 Z = n / m ∧ r = n % m := by
              have h1 := hlv.out
              rw [List.drop_zero, HX.out.2.1] at h1
              rw [← HY.out.2.1, Hym.out, ← h1, Nat.mul_comm, Nat.mul_add_div (by omega), Nat.div_eq_of_lt hr, Nat.mul_add_mod, Nat.mod_eq_of_lt hr]
              exact ⟨rfl, rfl⟩
            have HQ := Lib.hid hq
            have HR := Lib.hid hr'
            have hrl : r < 2 ^ 64 := by omega
            clear hq hr'
            obtain rfl := hZl.out.symm
            go_wp2_with fail
            refine (text_any bx _ Z _ hRz hZ.out (by omega)).mono ?_
            rintro e w4 ⟨rfl, hb4⟩
            go_wp2_with fail
            refine (fromShort_any r _ hrl).mono ?_
            rintro e w5 ⟨rfl, hb5⟩
            go_wp2_with fail
            go_ret3
            have h4 := hBr.trans (hb4.mono hBr.size)
            exact ⟨ret3 (by rw [HQ.out]) (by rw [HR.out]) 0, h4.trans (hb5.mono h4.size)⟩
          · obtain rfl : e = (j : Int) := by omega
            clear he
            obtain ⟨x, hx⟩ : ∃ x : Nat, x = X.getD j 0 := ⟨_, rfl⟩
            have hxl : x < 4294967296 := by rw [hx]; exact getD_lt (by omega) HX.out.1 j
            have c1 := hRx.int (i := j) (by rw [List.length_append, List.length_take, HX.out.2.2, hZl.out]; omega)
            rw [show (X.take (j + 1) ++ Z).getD j 0 = x by rw [hx]; rw [List.getD, List.getElem?_append_left (by rw [List.length_take, HX.out.2.2]; omega), List.getElem?_take_of_lt (by omega)]; rfl] at c1
            have f1 := hRx.frozen j
            have Hx := Lib.hid hx
            clear hx
            obtain ⟨q, r', e1, e2, hq, hr', h5⟩ := rest_bits hr hyl hxl
            have E1 := Lib.hid e1
            have E2 := Lib.hid e2
            have H5 := Lib.hid h5
            clear e1 e2 h5
            go_wp2_with fail
            go_region
            rw [E1.out, E2.out]
            go_wp2_with fail
            go_roundw
            case rel =>
              have hR' := hRx.int_set j q
              have hl : (X.take j).length = j := by rw [List.length_take, HX.out.2.2]; omega
              have e : (X.take (j + 1) ++ Z).set j q = X.take j ++ (q :: Z) := by
                rw [List.take_succ_eq_append_getElem (by rw [HX.out.2.2]; omega), List.append_assoc, List.set_append_right _ _ (by rw [hl]; exact Nat.le_refl _), hl, Nat.sub_self]
                rfl
              rw [e] at hR'
              refine ⟨j, r', _, q :: Z, by omega, rfl, by go_num, rfl, hr', by have := hZl.out; simp [Hid, this]; omega, ?_, ?_, hR'.drew, (hRy.set_ne hbxy _).drew, (hBr.setCell hbx _).drew⟩
              · intro d hd
                rcases List.mem_cons.1 hd with rfl | hd
                · exact hq
                · exact hZ.out d hd
              · show _ = _
                have hd : X.drop j = x :: X.drop (j + 1) := by
                  rw [List.drop_eq_getElem_cons (by rw [HX.out.2.2]; omega)]
                  congr 1
                  rw [Hx.out]
                  simp [List.getD, List.getElem?_eq_getElem (show j < X.length by rw [HX.out.2.2]; omega)]
                rw [hd, lv_cons, lv_cons, ← hlv.out, Nat.add_mul, Nat.mul_add, Nat.mul_assoc]
                have := H5.out
                generalize lv 4294967296 Z * y = z at *
                omega
            case measure => simp [intOf] <;> omega
      · have hq2 : 2 ≤ q := by omega
        clear hq1 hpos
        go_wp2_with fail
        obtain rfl := HX.out.2.2.symm
        obtain rfl := HY.out.2.2.symm
        refine (long_any bx by' _ _ X Y w2 hX2 hY HX.out.1 HY.out.1 (by omega) (by omega) HT.out (by omega)).mono ?_
        rintro e w3 ⟨bq, bu, Q, R, rfl, hQd, hRd, hQs, hRs, hQv, hRv, hQ, hR, hb3⟩
        have HQd := Lib.hid hQd
        have HRd := Lib.hid hRd
        have HQv := Lib.hid hQv
        have HRv := Lib.hid hRv
        clear hQd hRd hQv hRv
        go_wp2_with fail
        refine (text_any bq _ Q _ hQ HQd.out (by omega)).mono ?_
        rintro e w4 ⟨rfl, hb4⟩
        have hR4 := hR.below hb4 hR.lt
        go_wp2_with fail
        refine (text_pre bu _ _ R _ hR4 HRd.out (by omega)).mono ?_
        rintro e w5 ⟨rfl, hb5⟩
        go_wp2_with fail
        go_ret3
        have h12 := hb1.trans (hb2.mono hb1.size)
        have h13 := h12.trans (hb3.mono h12.size)
        have h14 := h13.trans (hb4.mono h13.size)
        exact ⟨ret3 (by rw [HQv.out, HX.out.2.1, HY.out.2.1]) (by rw [HRv.out, HX.out.2.1, HY.out.2.1]) 0, h14.trans (hb5.mono h14.size)⟩

end Go.Proofs.YtnnffjolkgomhaaDoor.natI
