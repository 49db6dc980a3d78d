/- Walk: nat.Gcd. -/
import Derived.Test.YtnnffjolkgomhaaDoorNatN
namespace Go.Proofs.YtnnffjolkgomhaaDoor.natO
open Go.RowKit num mem natA natB natC natD natE natI seg natL natM natN

theorem enc_ne {n : Nat} (h : 0 < n) : (enc n).toList.isEmpty = false := by
  rw [Lib.toList_data, enc_data]
  cases hd : digs n with
  | nil => rw [digs_eq_nil] at hd; omega
  | cons x l => rfl

theorem add_empty (s : ByteArray) : s ++ ⟨#[]⟩ = s := by apply ba_ext; simp
theorem empty_add (s : ByteArray) : ⟨#[]⟩ ++ s = s := by apply ba_ext; simp

set_option maxHeartbeats 1000000 in
theorem Gcd_any (a b : ByteArray) (w : World) (ha : a.size ≤ 17592186044416) (hb : b.size ≤ 17592186044416) (hT : Tab w) :
    Calls Tryd.prog 142 #[.string a, .string b] w fun e w' => e = .returned (.string (enc (Nat.gcd (nv a) (nv b)))) ∧ Below w.heap.size w w' := by
  obtain ⟨n, hn⟩ : ∃ n, nv a = n := ⟨_, rfl⟩
  obtain ⟨m, hm⟩ : ∃ m, nv b = m := ⟨_, rfl⟩
  have hla : (enc n).size ≤ 17592186044416 := by rw [← hn]; exact Nat.le_trans (enc_nv_le a) ha
  have hlb : (enc m).size ≤ 17592186044416 := by rw [← hm]; exact Nat.le_trans (enc_nv_le b) hb
  rw [hn, hm]
  have Hn := Lib.hid hn
  have Hm := Lib.hid hm
  clear hm hn ha hb
  obtain ⟨G, hG⟩ : ∃ G, Nat.gcd n m = G := ⟨_, rfl⟩
  rw [hG]
  have HG := Lib.hid hG
  clear hG
  go_enter Tryd.func142, Tryd.ntmps142
  go_wp2_with fail
  refine (trim_any a _).mono ?_
  rintro e w' ⟨rfl, rfl⟩
  rw [Hn.out]
  go_wp2_with fail
  refine (trim_any b _).mono ?_
  rintro e w' ⟨rfl, rfl⟩
  rw [Hm.out]
  go_wp2_with fail
  go_loopg [0, 1] (n + m) (fun g s0 s1 wr => ∃ x y : Nat, s0 = .string (enc x) ∧ s1 = .string (enc y) ∧ (enc x).size ≤ 17592186044416 ∧ (enc y).size ≤ 17592186044416 ∧ Hid (Nat.gcd x y = G) ∧ g = x + y ∧ Below w.heap.size w wr)
  case atStart => exact ⟨n, m, rfl, rfl, hla, hlb, HG, rfl, Below.refl _ _⟩
  case round =>
    clear HG Hn Hm hla hlb
    obtain ⟨x, y, rfl, rfl, hx, hy, hg, hgk, hB⟩ := hrel
    by_cases hx0 : x = 0
    · subst hx0
      have HE := Lib.hid (show G = y by rw [← hg.out, Nat.gcd_zero_left])
      rw [enc_zero]
      go_wp2_with fail
      go_ret
      exact ⟨ret_string (by rw [HE.out, empty_add]), hB⟩
    · by_cases hy0 : y = 0
      · subst hy0
        have HE := Lib.hid (show G = x by rw [← hg.out, Nat.gcd_zero_right])
        have hxe := enc_ne (show 0 < x by omega)
        rw [enc_zero]
        go_wp2_with fail
        go_ret
        exact ⟨ret_string (by rw [HE.out, add_empty]), hB⟩
      · have hxe := enc_ne (show 0 < x by omega)
        have hye := enc_ne (show 0 < y by omega)
        have Hx0 := Lib.hid (show 0 < x by omega)
        have Hy0 := Lib.hid (show 0 < y by omega)
        have Hgk := Lib.hid hgk
        clear hgk
        go_upto_if 22 with (fail)
        go_cut [0, 1] (fun s0 s1 wx => wr = wx ∧ ∃ x y : Nat, s0 = .string (enc x) ∧ s1 = .string (enc y) ∧ (enc x).size ≤ 17592186044416 ∧ (enc y).size ≤ (enc x).size ∧ Hid (Nat.gcd x y = G) ∧ Hid (0 < x ∧ 0 < y) ∧ Hid (gk = x + y))
        case first =>
          by_cases hs : (enc x).size < (enc y).size
          · go_wp2_with fail
            go_meet
            exact ⟨rfl, y, x, rfl, rfl, hy, by omega, by show _ = _; rw [Nat.gcd_comm]; exact hg.out, ⟨Hy0.out, Hx0.out⟩, by show _ = _; rw [Nat.add_comm]; exact Hgk.out⟩
          · go_wp2_with fail
            go_meet
            exact ⟨rfl, x, y, rfl, rfl, hx, by omega, hg, ⟨Hx0.out, Hy0.out⟩, Hgk⟩
        case rest =>
          clear Hx0 Hy0 hxe hye hx0 hy0 hx hy hg Hgk
          obtain ⟨rfl, x, y, rfl, rfl, hx, hyx, hg, h0, hgk⟩ := hcut
          by_cases h8 : (enc x).size ≤ 8
          · have hxl := small_u64 h8
            have hyl := small_u64 (n := y) (by omega)
            have Hx := Lib.hid hxl
            have Hy := Lib.hid hyl
            have hGl : G < 2 ^ 64 := by rw [← hg.out]; exact gcd_lt hxl hyl
            have HGl := Lib.hid hGl
            have Hx' := Lib.hid (show x < 18446744073709551616 from hxl)
            have Hy' := Lib.hid (show y < 18446744073709551616 from hyl)
            clear hxl hyl hGl
            go_wp2_with fail
            refine (short_enc x _ Hx.out).mono ?_
            rintro e w' ⟨rfl, rfl⟩
            go_wp2_with fail
            refine (short_enc y _ Hy.out).mono ?_
            rintro e w' ⟨rfl, rfl⟩
            go_wp2_with fail
            refine (common_any x y wr Hx'.out Hy'.out).mono ?_
            rintro e w5 ⟨rfl, hb5⟩
            rw [hg.out]
            go_wp2_with fail
            refine (fromShort_any G w5 HGl.out).mono ?_
            rintro e w6 ⟨rfl, hb6⟩
            go_wp2_with fail
            go_ret
            have h5 := hB.trans (hb5.mono hB.size)
            exact ⟨rfl, h5.trans (hb6.mono h5.size)⟩
          · by_cases hnear : (enc x).size ≤ (enc y).size + 8
            · have hTr := hT.below hB (Nat.le_refl _)
              go_wp2_with fail
              refine (halves_any x y wr h0.out.1 h0.out.2 hx (by omega) hTr).mono ?_
              rintro e w5 ⟨rfl, hb5⟩
              rw [hg.out]
              go_wp2_with fail
              go_ret
              exact ⟨rfl, hB.trans (hb5.mono hB.size)⟩
            · go_wp2_with fail
              refine (Div_any (enc x) (enc y) wr (by omega) (by omega) (by rw [nv_enc]; exact h0.out.2)).mono ?_
              rintro e w5 ⟨rfl, hb5⟩
              rw [nv_enc, nv_enc]
              have HM := Lib.hid (show x % y < y from Nat.mod_lt _ h0.out.2)
              have Hyx := Lib.hid (show y ≤ x by
                apply Nat.le_of_not_lt
                intro hlt
                have := enc_mono (Nat.le_of_lt hlt)
                omega)
              go_wp2_with fail
              go_roundg (y + x % y)
              case measure => have := hgk.out; have := HM.out; have := Hyx.out; omega
              case rel => exact ⟨y, x % y, rfl, rfl, by omega, Nat.le_trans (enc_mono (Nat.le_of_lt HM.out)) (by omega), by show _ = _; rw [gcd_mod']; exact hg.out, rfl, hB.trans (hb5.mono hB.size)⟩

end Go.Proofs.YtnnffjolkgomhaaDoor.natO
