/- Walks: nat.Sub, nat.Add. -/
import Derived.Test.YtjhoddlhdoiifaaGreatDoorNatC
import Derived.Deep.DeepCutAuto
namespace Go.Proofs.YtjhoddlhdoiifaaGreatDoor.natD
open Go.RowKit num mem natA natB natC

/-- Sub's error -/
def subE (a b : Nat) : Int := if a < b then 1 else 0
theorem ret_si {a b : ByteArray} {j : IntKind} {c d : Int} (h : a = b) (h' : c = d) : Ending.returned (.tuple #[.string a, .int j c]) = .returned (.tuple #[.string b, .int j d]) := by rw [h, h']
theorem wlen_mono {s a b : Nat} (h : a ≤ b) : wlen s a ≤ wlen s b := by
  unfold wlen; exact Nat.div_le_div_right (by have := enc_mono h; omega)
theorem wlen_size {a : Nat} {L : Nat} (h : (enc a).size ≤ L) : wlen 4 a ≤ L := by unfold wlen; omega

theorem Sub_any (a b : ByteArray) (w : World) (ha : a.size ≤ 70368744177664) (hb : b.size ≤ 70368744177664) :
    Calls Tryz.prog 208 #[.string a, .string b] w fun e w' => e = .returned (.tuple #[.string (enc (nv a - nv b)), .int .i64 (subE (nv a) (nv b))]) ∧ Below w.heap.size w w' := by
  by_cases h : nv a < nv b
  · have H := Lib.hid (show cmpN (nv a) (nv b) = -1 by unfold cmpN; rw [if_pos h])
    have HE := Lib.hid (show subE (nv a) (nv b) = 1 by unfold subE; rw [if_pos h])
    have HV := Lib.hid (show enc (nv a - nv b) = ⟨#[]⟩ by rw [show nv a - nv b = 0 by omega, enc_zero])
    clear h
    go_enter Tryz.func208, Tryz.ntmps208
    go_wp2_with (first | (go_at_call 172; refine (Cmp_any _ _ _).mono ?_; rintro e w' ⟨rfl, rfl⟩; rw [H.out]))
    go_ret2
    exact ⟨ret_si HV.out.symm HE.out.symm, Below.refl _ _⟩
  · have hc : cmpN (nv a) (nv b) = 0 ∨ cmpN (nv a) (nv b) = 1 := by unfold cmpN; rw [if_neg h]; split <;> simp
    have HE := Lib.hid (show subE (nv a) (nv b) = 0 by unfold subE; rw [if_neg h])
    have Hle := Lib.hid (show nv b ≤ nv a by omega)
    have H := Lib.hid hc
    clear h hc
    have hl1 : wlen 4 (nv a) ≤ 70368744177664 := wlen_size (Nat.le_trans (enc_nv_le a) ha)
    obtain ⟨c, hc⟩ : ∃ c, cmpN (nv a) (nv b) = c := ⟨_, rfl⟩
    have Hc := Lib.hid hc
    have hc0 : ¬ c < 0 := by have := H.out; omega
    clear hc
    go_enter Tryz.func208, Tryz.ntmps208
    go_wp2_with (first | (go_at_call 172; refine (Cmp_any _ _ _).mono ?_; rintro e w' ⟨rfl, rfl⟩; rw [Hc.out]))
    refine (words_any a _ ha).mono ?_
    rintro e w1 ⟨bx, rfl, hX, hbx, hb1⟩
    go_wp2_with fail
    refine (words_any b _ hb).mono ?_
    rintro e w2 ⟨by', rfl, hY, hby, hb2⟩
    have hX2 := hX.below hb2 hX.lt
    have hne : bx ≠ by' := by have := hX.lt; omega
    clear hX
    go_wp2_with fail
    have hless := less_any bx (wlen 4 (nv a)) by' (wlen 4 (nv b)) (w32 (nv a)) (w32 (nv b)) w2 hX2 hY hne (w32_lt _) (w32_lt _) (by rw [w32_length, w32_length]; exact wlen_mono Hle.out) (by rw [w32_length]; exact hl1) (by rw [lv_w32, lv_w32]; exact Hle.out)
    rw [w32_length, w32_length, lv_w32, lv_w32] at hless
    refine hless.mono ?_
    rintro e w3 ⟨rfl, Z, hZl, hZ, hlv, hR3, hg3, hs3⟩
    have HZ := Lib.hid hZ
    have HL := Lib.hid hlv
    have HZl := Lib.hid hZl
    have HS := Lib.hid hs3
    clear hZ hlv hZl hs3 hless
    go_wp2_with fail
    have htext := text_any bx (wlen 4 (nv a)) Z w3 hR3 HZ.out (by rw [HZl.out]; exact hl1)
    rw [HZl.out] at htext
    refine htext.mono ?_
    rintro e w4 ⟨rfl, hb4⟩
    clear htext
    go_wp2_with fail
    go_ret2
    refine ⟨ret_si (by rw [show lv 4294967296 Z = nv a - nv b by have := HL.out; omega]) HE.out.symm, ?_⟩
    have hb12 : Below w.heap.size w w2 := hb1.trans (hb2.mono hb1.size)
    exact (hb12.grown hg3 hb12.size (by intro k hk; have := Option.some.inj hk; omega)).trans (hb4.mono (by have := HS.out; have := hb12.size; omega))

theorem lt_56 {n : Nat} (h : (enc n).size < 8) : n < 72057594037927936 := by
  have := (@enc_size_le n 7).1 (by omega)
  simpa using this
theorem add_step2 {x y c : Nat} (hx : x < 4294967296) (hy : y < 4294967296) (hc : c ≤ 1) : ∃ n C : Nat,
    ((c : Int) + (x : Int) + (y : Int)) % 4294967296 = (n : Int) ∧ ((c : Int) + (x : Int) + (y : Int)) / 4294967296 = (C : Int) ∧ n < 4294967296 ∧ C ≤ 1 ∧ n + C * 4294967296 = c + x + y := by
  refine ⟨(c + x + y) % 4294967296, (c + x + y) / 4294967296, ?_, ?_, ?_, ?_, ?_⟩ <;> omega
theorem add_step1 {x c : Nat} (hx : x < 4294967296) (hc : c ≤ 1) : ∃ n C : Nat,
    ((c : Int) + (x : Int)) % 4294967296 = (n : Int) ∧ ((c : Int) + (x : Int)) / 4294967296 = (C : Int) ∧ n < 4294967296 ∧ C ≤ 1 ∧ n + C * 4294967296 = c + x + 0 := by
  refine ⟨(c + x) % 4294967296, (c + x) / 4294967296, ?_, ?_, ?_, ?_, ?_⟩ <;> omega

/-- digits with zeros behind -/
theorem append_zeros_set {Z : List Nat} {k N n : Nat} (hZ : Z.length = k) (hk : k < N) : (Z ++ List.replicate (N - k) 0).set k n = (Z ++ [n]) ++ List.replicate (N - (k + 1)) 0 := by
  rw [List.set_append_right _ _ (by omega), List.append_assoc]
  congr 1
  rw [show k - Z.length = 0 by omega, show N - k = (N - (k + 1)) + 1 by omega, List.replicate_succ]
  rfl

set_option maxHeartbeats 1000000 in
theorem Add_any (a b : ByteArray) (w : World) (ha : a.size ≤ 70368744177663) (hb : b.size ≤ 70368744177663) :
    Calls Tryz.prog 149 #[.string a, .string b] w fun e w' => e = .returned (.string (enc (nv a + nv b))) ∧ Below w.heap.size w w' := by
  obtain ⟨n, hn⟩ : ∃ n, nv a = n := ⟨_, rfl⟩
  obtain ⟨m, hm⟩ : ∃ m, nv b = m := ⟨_, rfl⟩
  have hla : (enc n).size ≤ 70368744177663 := by rw [← hn]; exact Nat.le_trans (enc_nv_le a) ha
  have hlb : (enc m).size ≤ 70368744177663 := by rw [← hm]; exact Nat.le_trans (enc_nv_le b) hb
  rw [hn, hm]
  have Hn := Lib.hid hn
  have Hm := Lib.hid hm
  clear hm hn ha hb
  by_cases h8 : (enc n).size < 8 ∧ (enc m).size < 8
  · obtain ⟨h1, h2⟩ := h8
    have hn7 := lt_56 h1
    have hm7 := lt_56 h2
    have H1 := Lib.hid (show n < 2 ^ 64 by omega)
    have H2 := Lib.hid (show m < 2 ^ 64 by omega)
    have H3 := Lib.hid (show n + m < 2 ^ 64 by omega)
    go_enter Tryz.func149, Tryz.ntmps149
    go_wp2_with (first | (go_at_call 186; refine (trim_any _ _).mono ?_; rintro e w' ⟨rfl, rfl⟩; first | rw [Hn.out] | rw [Hm.out]))
    refine (short_enc n _ H1.out).mono ?_
    rintro e w' ⟨rfl, rfl⟩
    go_wp2_with fail
    refine (short_enc m _ H2.out).mono ?_
    rintro e w' ⟨rfl, rfl⟩
    go_wp2_with fail
    rw [show ((n : Int) + (m : Int)) = ((n + m : Nat) : Int) from rfl]
    refine (fromShort_any _ _ H3.out).mono ?_
    rintro e w' ⟨rfl, hb⟩
    go_wp2_with fail
    go_ret
    exact ⟨rfl, hb⟩
  · go_enter Tryz.func149, Tryz.ntmps149
    go_upto_region 2 with (first | (go_at_call 186; refine (trim_any _ _).mono ?_; rintro e w' ⟨rfl, rfl⟩; first | rw [Hn.out] | rw [Hm.out]))
    go_cut [22] (fun s wx => s = .bool false ∧ w = wx)
    case first =>
      by_cases h1 : (enc n).size < 8
      · have H2 := Lib.hid (show Value.bool (decide (((enc m).size : Int) < 8)) = Value.bool false by simp; omega)
        clear h8
        go_wp2_with fail
        go_meet
        exact ⟨H2.out, rfl⟩
      · clear h8
        go_wp2_with fail
        go_meet
        exact ⟨rfl, rfl⟩
    case rest =>
      obtain ⟨rfl, rfl⟩ := hcut
      clear h8
      go_wp2_with fail
      refine (words_any (enc n) _ (by omega)).mono ?_
      rintro e w1 ⟨bx, rfl, hX, hbx, hb1⟩
      go_wp2_with fail
      refine (words_any (enc m) _ (by omega)).mono ?_
      rintro e w2 ⟨by', rfl, hY, hby, hb2⟩
      rw [nv_enc] at hX hY
      rw [nv_enc, nv_enc]
      have hX2 := hX.below hb2 hX.lt
      have hbxl := hX.lt
      clear hX
      have hwn := wlen_size hla
      have hwm := wlen_size hlb
      go_upto_if 37 with (fail)
      go_cut [5, 6] (fun s5 s6 wx => w2 = wx ∧ ∃ (b1 c1 b2 c2 : Nat) (X Y : List Nat), s5 = .slice (some ⟨b1, 0, none⟩) X.length c1 ∧ s6 = .slice (some ⟨b2, 0, none⟩) Y.length c2 ∧ Row w2 b1 155 (nums .u32 X) ∧ Row w2 b2 155 (nums .u32 Y) ∧
        Hid (∀ d ∈ X, d < 4294967296) ∧ Hid (∀ d ∈ Y, d < 4294967296) ∧ Y.length ≤ X.length ∧ X.length ≤ 70368744177663 ∧ Hid (lv 4294967296 X + lv 4294967296 Y = n + m))
      case first =>
        by_cases hsw : wlen 4 n < wlen 4 m
        · go_wp2_with fail
          go_meet
          exact ⟨rfl, _, _, _, _, w32 m, w32 n, by rw [w32_length], by rw [w32_length], hY, hX2, w32_lt _, w32_lt _, by rw [w32_length, w32_length]; omega, by rw [w32_length]; exact hwm, by rw [lv_w32, lv_w32]; exact Nat.add_comm _ _⟩
        · go_wp2_with fail
          go_meet
          exact ⟨rfl, _, _, _, _, w32 n, w32 m, by rw [w32_length], by rw [w32_length], hX2, hY, w32_lt _, w32_lt _, by rw [w32_length, w32_length]; omega, by rw [w32_length]; exact hwn, by rw [lv_w32, lv_w32]; rfl⟩
      case rest =>
        obtain ⟨rfl, b1, c1, b2, c2, X, Y, rfl, rfl, hRX, hRY, HX, HY, hlen, hmax, HS⟩ := hcut
        go_wp2_with (first | (at_make; refine wpList_make_row _ rfl _ _ _ rfl 155 _ 4 Tryz.underlying39 info155 rfl _ _ _ _ (X.length + 1) rfl rfl (by omega) (by omega) (by omega) (by omega) ?_))
        intro w3 hR3 hg3 hsz3
        have hRX3 := hRX.grown hg3 (by simp)
        have hRY3 := hRY.grown hg3 (by simp)
        have hb1l := hRX.lt
        have hb2l := hRY.lt
        have hB2 : Below w.heap.size w w2 := hb1.trans (hb2.mono hb1.size)
        have hB3 : Below w.heap.size w w3 := hB2.grown hg3 hB2.size (by simp)
        have hR30 : Row w3 w2.heap.size 155 (nums .u32 ([] ++ List.replicate (X.length + 1 - 0) 0)) := by simpa [nums] using hR3
        clear hRX hRY hR3 hX2 hY hg3
        go_wp2
        go_loopw [8, 46] (fun br i wr => ∃ (k c : Nat) (Z : List Nat), k ≤ X.length ∧ i = .int .i64 k ∧ br = .int .u64 c ∧ c ≤ 1 ∧ Hid (Z.length = k) ∧ Hid (∀ d ∈ Z, d < 4294967296) ∧
          Hid (lv 4294967296 Z + c * 4294967296 ^ k = lv 4294967296 (X.take k) + lv 4294967296 (Y.take k)) ∧ Row wr w2.heap.size 155 (nums .u32 (Z ++ List.replicate (X.length + 1 - k) 0)) ∧ w3.grownBy wr (some w2.heap.size) ∧ Hid (wr.heap.size = w3.heap.size)) (fun _ i _ => X.length - (intOf i).toNat)
        case atStart => exact ⟨0, 0, [], Nat.zero_le _, rfl, rfl, by omega, rfl, (by intro d hd; cases hd), by simp [Hid, lv], hR30, World.grownBy.refl _ _, rfl⟩
        case round =>
          obtain ⟨k, c, Z, hk, rfl, rfl, hc1, hZl, hZ, hlv, hRk, hgk, hsz⟩ := hrel
          clear hR30
          by_cases hlt : k < X.length
          · obtain ⟨x, hx⟩ : ∃ x : Nat, x = X.getD k 0 := ⟨_, rfl⟩
            have hxl : x < 4294967296 := by rw [hx]; exact getD_lt (by omega) HX.out k
            have hcx := (hRX3.grown hgk (by intro e; have := Option.some.inj e; omega)).int (i := k) hlt
            rw [← hx] at hcx
            have hco := hRk.int (i := k) (by have := hZl.out; simp; omega)
            have hfo := hRk.frozen k
            have Hx := Lib.hid hx
            clear hx
            by_cases hy : k < Y.length
            · obtain ⟨y, hy'⟩ : ∃ y : Nat, y = Y.getD k 0 := ⟨_, rfl⟩
              have hyl : y < 4294967296 := by rw [hy']; exact getD_lt (by omega) HY.out k
              have hcy := (hRY3.grown hgk (by intro e; have := Option.some.inj e; omega)).int (i := k) hy
              rw [← hy'] at hcy
              have Hy := Lib.hid hy'
              obtain ⟨v, C, e1, e2, hv, hC, hsum⟩ := add_step2 hxl hyl hc1
              have E1 := Lib.hid e1
              have E2 := Lib.hid e2
              have HS' := Lib.hid hsum
              clear hy' e1 e2 hsum
              go_wp2
              go_roundw
              case rel =>
                rw [E1.out, E2.out]
                have hR' := hRk.int_set k v
                rw [append_zeros_set hZl.out (by omega)] at hR'
                refine ⟨k + 1, C, Z ++ [v], by omega, by go_num, rfl, hC, by have := hZl.out; simp [Hid, this], all_snoc hZ.out hv, add_digit hZl.out hlv.out ?_, hR', grown_set hgk _ _, size_set hsz _ _⟩
                rw [← Hx.out, ← Hy.out]; exact HS'.out
              case measure => simp [intOf]; omega
            · obtain ⟨v, C, e1, e2, hv, hC, hsum⟩ := add_step1 hxl hc1
              have E1 := Lib.hid e1
              have E2 := Lib.hid e2
              have HS' := Lib.hid hsum
              clear e1 e2 hsum
              go_wp2
              go_roundw
              case rel =>
                rw [E1.out, E2.out]
                have hR' := hRk.int_set k v
                rw [append_zeros_set hZl.out (by omega)] at hR'
                refine ⟨k + 1, C, Z ++ [v], by omega, by go_num, rfl, hC, by have := hZl.out; simp [Hid, this], all_snoc hZ.out hv, add_digit hZl.out hlv.out ?_, hR', grown_set hgk _ _, size_set hsz _ _⟩
                rw [← Hx.out, show Y.getD k 0 = 0 by simp [List.getD, List.getElem?_eq_none (Nat.le_of_not_lt hy)]]; exact HS'.out
              case measure => simp [intOf]; omega
          · have HK := Lib.hid (show k = X.length by omega)
            have hR' := hRk.int_set k c
            rw [append_zeros_set hZl.out (by omega), show X.length + 1 - (k + 1) = 0 by omega, HK.out] at hR'
            have hco := hRk.int (i := X.length) (by have := hZl.out; simp; omega)
            have hfo := hRk.frozen X.length
            clear hk
            go_wp2_with fail
            have hl := hZl.out
            have htext := text_any w2.heap.size (X.length + 1) (Z ++ [c]) _ (by simpa using hR') (all_snoc hZ.out (by omega)) (by have := HK.out; simp; omega)
            rw [show (Z ++ [c]).length = X.length + 1 by simp; have := HK.out; omega] at htext
            refine htext.mono ?_
            rintro e w5 ⟨rfl, hb5⟩
            have Hl := Lib.hid hl
            clear hl htext
            go_wp2_with fail
            go_ret
            have h1 := hlv.out
            rw [HK.out, lv_take_of_le _ _ hlen, lv_take_of_le _ _ (Nat.le_refl _), HS.out] at h1
            have h2 : lv 4294967296 (Z ++ [c]) = n + m := by rw [lv_snoc, Hl.out, HK.out, Nat.mul_comm]; exact h1
            refine ⟨ret_string (by rw [h2]), ?_⟩
            have hB4 : Below w.heap.size w (wr.setCell ⟨w2.heap.size, X.length, none⟩ (.int .u32 c)) := (hB3.grown hgk hB3.size (by intro j hj; have := Option.some.inj hj; have := hB2.size; omega)).setCell hB2.size _
            exact hB4.trans (hb5.mono hB4.size)

end Go.Proofs.YtjhoddlhdoiifaaGreatDoor.natD
