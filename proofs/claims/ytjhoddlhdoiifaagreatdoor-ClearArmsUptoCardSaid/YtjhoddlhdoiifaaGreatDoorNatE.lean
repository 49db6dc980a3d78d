/- Walk: nat.Mul. -/
import Derived.Test.YtjhoddlhdoiifaaGreatDoorNatD
import Derived.Test.YtjhoddlhdoiifaaGreatDoorDig2
namespace Go.Proofs.YtjhoddlhdoiifaaGreatDoor.natE
open Go.RowKit num mem natA natB natC natD

theorem mul_small {n m : Nat} (h : (enc n).size + (enc m).size ≤ 8) : n < 2 ^ 64 ∧ m < 2 ^ 64 ∧ n * m < 2 ^ 64 := by
  have h1 := (@enc_size_le n (enc n).size).1 (Nat.le_refl _)
  have h2 := (@enc_size_le m (enc m).size).1 (Nat.le_refl _)
  have h3 : 256 ^ (enc n).size * 256 ^ (enc m).size ≤ 2 ^ 64 := by
    rw [← Nat.pow_add]
    have : 256 ^ ((enc n).size + (enc m).size) ≤ 256 ^ 8 := Nat.pow_le_pow_right (by omega) h
    simpa using this
  have p1 : 0 < 256 ^ (enc n).size := Nat.pow_pos (by omega)
  have p2 : 0 < 256 ^ (enc m).size := Nat.pow_pos (by omega)
  refine ⟨?_, ?_, ?_⟩
  · have : 256 ^ (enc n).size * 1 ≤ 256 ^ (enc n).size * 256 ^ (enc m).size := Nat.mul_le_mul_left _ p2
    omega
  · have : 1 * 256 ^ (enc m).size ≤ 256 ^ (enc n).size * 256 ^ (enc m).size := Nat.mul_le_mul_right _ p1
    omega
  · have := Nat.mul_lt_mul'' h1 h2
    omega

theorem mul_wrap {w y c d : Nat} (hw : w < 4294967296) (hy : y < 4294967296) (hc : c < 4294967296) (hd : d < 4294967296) : ∃ t : Nat, t = c + (w * y + d) ∧ t / 4294967296 < 4294967296 ∧
    IntKind.u64.wrap ((c : Int) + IntKind.u64.wrap (IntKind.u64.wrap ((w : Int) * (y : Int)) + (d : Int))) = (t : Int) := by
  have h1 : w * y ≤ 4294967295 * 4294967295 := Nat.mul_le_mul (by omega) (by omega)
  have h2 : ((w : Int) * (y : Int)) = ((w * y : Nat) : Int) := by simp
  refine ⟨_, rfl, by omega, ?_⟩
  rw [h2]
  generalize w * y = p at h1
  simp only [IntKind.wrap_u64]
  omega

set_option maxHeartbeats 1000000 in
theorem Mul_any (a b : ByteArray) (w : World) (ha : a.size ≤ 35184372088832) (hb : b.size ≤ 35184372088832) :
    Calls Tryz.prog 151 #[.string a, .string b] w fun e w' => e = .returned (.string (enc (nv a * nv b))) ∧ Below w.heap.size w w' := by
  obtain ⟨n, hn⟩ : ∃ n, nv a = n := ⟨_, rfl⟩
  obtain ⟨m, hm⟩ : ∃ m, nv b = m := ⟨_, rfl⟩
  have hla : (enc n).size ≤ 35184372088832 := by rw [← hn]; exact Nat.le_trans (enc_nv_le a) ha
  have hlb : (enc m).size ≤ 35184372088832 := by rw [← hm]; exact Nat.le_trans (enc_nv_le b) hb
  rw [hn, hm]
  have Hn := Lib.hid hn
  have Hm := Lib.hid hm
  clear hm hn ha hb
  by_cases h8 : (enc n).size + (enc m).size ≤ 8
  · obtain ⟨h1, h2, h3⟩ := mul_small h8
    have H1 := Lib.hid h1
    have H2 := Lib.hid h2
    have H3 := Lib.hid h3
    obtain ⟨p, hp⟩ : ∃ p : Nat, IntKind.u64.wrap ((n : Int) * (m : Int)) = (p : Int) ∧ p = n * m := ⟨n * m, by
      rw [← Int.natCast_mul, IntKind.wrap_u64]; omega, rfl⟩
    have HP := Lib.hid hp.1
    have HP2 := Lib.hid hp.2
    clear h1 h2 h3 hp
    go_enter Tryz.func151, Tryz.ntmps151
    go_wp2_with (first | (go_at_call 186; refine (trim_any _ _).mono ?_; rintro e w' ⟨rfl, rfl⟩; first | rw [Hn.out] | rw [Hm.out]))
    refine (short_enc n _ H1.out).mono ?_
    rintro e w' ⟨rfl, rfl⟩
    go_wp2_with fail
    refine (short_enc m _ H2.out).mono ?_
    rintro e w' ⟨rfl, rfl⟩
    go_wp2_with fail
    rw [HP.out]
    refine (fromShort_any p _ (by rw [HP2.out]; exact H3.out)).mono ?_
    rintro e w' ⟨rfl, hb⟩
    go_wp2_with fail
    go_ret
    exact ⟨ret_string (by rw [HP2.out]), hb⟩
  · go_enter Tryz.func151, Tryz.ntmps151
    go_wp2_with (first | (go_at_call 186; refine (trim_any _ _).mono ?_; rintro e w' ⟨rfl, rfl⟩; first | rw [Hn.out] | rw [Hm.out]))
    refine (words_any (enc n) _ (by omega)).mono ?_
    rintro e w1 ⟨bx, rfl, hX, hbx, hb1⟩
    go_wp2_with fail
    refine (words_any (enc m) _ (by omega)).mono ?_
    rintro e w2 ⟨by', rfl, hY, hby, hb2⟩
    rw [nv_enc] at hX hY
    rw [nv_enc, nv_enc]
    have hX2 := hX.below hb2 hX.lt
    have hbxl := hX.lt
    clear hX h8
    have hwn := wlen_size hla
    have hwm := wlen_size hlb
    obtain ⟨p, hp⟩ : ∃ p, wlen 4 n = p := ⟨_, rfl⟩
    obtain ⟨q, hq⟩ : ∃ q, wlen 4 m = q := ⟨_, rfl⟩
    rw [hp] at hwn ⊢
    rw [hq] at hwm ⊢
    obtain ⟨X, hXX⟩ : ∃ X, X = w32 n := ⟨_, rfl⟩
    obtain ⟨Y, hYY⟩ : ∃ Y, Y = w32 m := ⟨_, rfl⟩
    have HX := Lib.hid (show (∀ d ∈ X, d < 4294967296) ∧ lv 4294967296 X = n ∧ X.length = p by rw [hXX]; exact ⟨w32_lt _, lv_w32 _, by rw [w32_length, hp]⟩)
    have HY := Lib.hid (show (∀ d ∈ Y, d < 4294967296) ∧ lv 4294967296 Y = m ∧ Y.length = q by rw [hYY]; exact ⟨w32_lt _, lv_w32 _, by rw [w32_length, hq]⟩)
    rw [← hXX] at hX2
    rw [← hYY] at hY
    clear hp hq hXX hYY
    go_wp2_with (first | (at_make; refine wpList_make_row _ rfl _ _ _ rfl 155 _ 4 Tryz.underlying39 info155 rfl _ _ _ _ (p + q) rfl rfl (by omega) (by omega) (by omega) (by omega) ?_))
    intro w3 hR3 hg3 hsz3
    have hX3 := hX2.grown hg3 (by simp)
    have hY3 := hY.grown hg3 (by simp)
    have hbl1 := hX2.lt
    have hbl2 := hY.lt
    have hB2 : Below w.heap.size w w2 := hb1.trans (hb2.mono hb1.size)
    have hB3 : Below w.heap.size w w3 := hB2.grown hg3 hB2.size (by simp)
    have hR30 : Row w3 w2.heap.size 155 (nums .u32 (List.replicate (p + q) 0)) := by simpa [nums] using hR3
    clear hX2 hY hR3 hg3
    go_wp2
    go_loopw [41] (fun i wr => ∃ (k : Nat) (O : List Nat), k ≤ p ∧ i = .int .i64 k ∧ Hid (O.length = p + q) ∧ Hid (∀ d ∈ O, d < 4294967296) ∧ Hid (lv 4294967296 O = lv 4294967296 (X.take k) * m) ∧ Hid (∀ j, k + q ≤ j → O.getD j 0 = 0) ∧
      Row wr w2.heap.size 155 (nums .u32 O) ∧ w3.grownBy wr (some w2.heap.size)) (fun i _ => p - (intOf i).toNat)
    case atStart =>
      refine ⟨0, List.replicate (p + q) 0, Nat.zero_le _, rfl, by simp [Hid], ?_, ?_, ?_, hR30, World.grownBy.refl _ _⟩
      · intro d hd; have := List.eq_of_mem_replicate hd; omega
      · show _ = _; rw [lv_replicate_zero]; simp [lv]
      · intro j _; simp [List.getD, List.getElem?_replicate]; split <;> rfl
    case round =>
      obtain ⟨wo, rfl⟩ : ∃ wo : World, wo = wr := ⟨_, rfl⟩
      obtain ⟨i, O, hi, rfl, hOl, hO, hlv, hz, hRo, hgo⟩ := hrel
      clear hR30
      by_cases hlt : i < p
      · obtain ⟨x, hx⟩ : ∃ x : Nat, x = X.getD i 0 := ⟨_, rfl⟩
        have hxl : x < 4294967296 := by rw [hx]; exact getD_lt (by omega) HX.out.1 i
        have hcx := (hX3.grown hgo (by intro e; have := Option.some.inj e; omega)).int (i := i) (by rw [HX.out.2.2]; exact hlt)
        rw [← hx] at hcx
        have Hx := Lib.hid hx
        clear hx
        go_wp2
        go_loopw [10, 48] (fun cr s wr => ∃ (k c : Nat) (O' : List Nat), k ≤ q ∧ s = .int .i64 k ∧ cr = .int .u64 c ∧ c < 4294967296 ∧ Hid (O'.length = p + q) ∧ Hid (∀ d ∈ O', d < 4294967296) ∧
          Hid (lv 4294967296 O' + c * 4294967296 ^ (i + k) = lv 4294967296 O + x * 4294967296 ^ i * lv 4294967296 (Y.take k)) ∧ Hid (∀ j, i + k ≤ j → O'.getD j 0 = O.getD j 0) ∧
          Row wr w2.heap.size 155 (nums .u32 O') ∧ w3.grownBy wr (some w2.heap.size)) (fun _ s _ => q - (intOf s).toNat)
        case atStart => exact ⟨0, 0, O, Nat.zero_le _, rfl, rfl, by omega, hOl, hO, by simp [Hid, lv], fun _ _ => rfl, hRo, hgo⟩
        case round =>
          obtain ⟨k, c, O', hk, rfl, rfl, hc, hOl', hO', hlv', hsame, hRk, hgk⟩ := hrel
          by_cases hlk : k < q
          · obtain ⟨y, hy⟩ : ∃ y : Nat, y = Y.getD k 0 := ⟨_, rfl⟩
            have hyl : y < 4294967296 := by rw [hy]; exact getD_lt (by omega) HY.out.1 k
            have hcy := (hY3.grown hgk (by intro e; have := Option.some.inj e; omega)).int (i := k) (by rw [HY.out.2.2]; exact hlk)
            rw [← hy] at hcy
            obtain ⟨d, hd⟩ : ∃ d : Nat, d = O'.getD (i + k) 0 := ⟨_, rfl⟩
            have hdl : d < 4294967296 := by rw [hd]; exact getD_lt (by omega) hO'.out (i + k)
            have hco := hRk.int (i := i + k) (by have := hOl'.out; omega)
            rw [← hd] at hco
            have hfo := hRk.frozen (i + k)
            obtain ⟨t, ht, htl, hwr⟩ := mul_wrap hxl hyl hc hdl
            have HT := Lib.hid ht
            have HW := Lib.hid hwr
            have Hd := Lib.hid hd
            have Hy := Lib.hid hy
            clear ht hwr hd hy
            go_wp2
            go_roundw
            case rel =>
              rw [HW.out]
              have hR' := hRk.int_set (i + k) (t % 4294967296)
              refine ⟨k + 1, t / 4294967296, O'.set (i + k) (t % 4294967296), by omega, by go_num, rfl, htl, by have := hOl'.out; simp [Hid, this], all_set hO'.out (Nat.mod_lt _ (by omega)), mul_col (by have := hOl'.out; omega) hlv'.out (by rw [HT.out, Hy.out, Hd.out]), ?_, hR', grown_set hgk _ _⟩
              intro j hj
              rw [set_getD_ne (by omega)]
              exact hsame.out j (by omega)
            case measure => simp [intOf] <;> omega
          · have HK := Lib.hid (show k = q by omega)
            have hR' := hRk.int_set (i + q) c
            have hco := hRk.int (i := i + q) (by have := hOl'.out; omega)
            have hfo := hRk.frozen (i + q)
            have h0 : O'.getD (i + q) 0 = 0 := by
              rw [hsame.out (i + q) (by have := HK.out; omega)]
              exact hz.out (i + q) (Nat.le_refl _)
            have h1 := lv_set (B := 4294967296) (l := O') (j := i + q) (d := c) (by have := hOl'.out; omega)
            rw [h0, Nat.mul_zero, Nat.add_zero, Nat.mul_comm] at h1
            have h2 := hlv'.out
            rw [HK.out, lv_take_of_le _ _ (by rw [HY.out.2.2]; exact Nat.le_refl _), HY.out.2.1, hlv.out] at h2
            rw [h2, Hx.out] at h1
            have HLV := Lib.hid (show lv 4294967296 (O'.set (i + q) c) = lv 4294967296 (X.take (i + 1)) * m by
              rw [h1, lv_take_step, Nat.add_mul, Nat.mul_comm (X.getD i 0)])
            clear h0 h1 h2
            go_wp2
            go_roundw
            case rel =>
              refine ⟨i + 1, O'.set (i + q) c, by omega, by go_num, by have := hOl'.out; simp [Hid, this], all_set hO'.out hc, HLV.out, ?_, hR', grown_set hgk _ _⟩
              intro j hj
              rw [set_getD_ne (by omega), hsame.out j (by have := HK.out; omega)]
              exact hz.out j (by omega)
            case measure => simp [intOf] <;> omega
      · have hP : i = p := by omega
        have htext := text_any w2.heap.size (p + q) O wo hRo hO.out (by have := hOl.out; omega)
        rw [hOl.out, hlv.out, hP, lv_take_of_le _ _ (by rw [HX.out.2.2]; exact Nat.le_refl _), HX.out.2.1] at htext
        clear hP
        go_wp2_with fail
        refine htext.mono ?_
        rintro e w5 ⟨rfl, hb5⟩
        clear htext
        go_wp2_with fail
        go_ret
        have hB4 : Below w.heap.size w wo := hB3.grown hgo hB3.size (by intro j hj; have := Option.some.inj hj; have := hB2.size; omega)
        exact ⟨rfl, hB4.trans (hb5.mono hB4.size)⟩

end Go.Proofs.YtjhoddlhdoiifaaGreatDoor.natE
