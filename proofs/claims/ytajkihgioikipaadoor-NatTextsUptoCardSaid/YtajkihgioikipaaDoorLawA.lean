/- Walk: gantlaw1.NatInts. -/
import Derived.Test.YtajkihgioikipaaDoorRefD
namespace Go.Proofs.YtajkihgioikipaaDoor.lawA
open Go.RowKit num mem natA natB natC natD refA refB refC refD

theorem enc_lit (s : ByteArray) (c : UInt8) (r : List UInt8) (hs : s.data.toList = c :: r) (hc : c ≠ 0) (n : Nat) (hn : nv s = n) : enc n = s := by
  rw [← hn]
  apply enc_nv_of_nz
  intro c' r' h
  rw [hs] at h
  injection h with h1 _
  rw [← h1]; exact hc
theorem enc_256 : enc 256 = ⟨#[1, 0]⟩ := enc_lit _ 1 [0] rfl (by decide) _ (by decide)
theorem nv_maxint : nv ⟨#[127, 255, 255, 255, 255, 255, 255, 255]⟩ = 9223372036854775807 := by decide

theorem natInts_walk (n : Int) (a : ByteArray) (w : World) (hn : -9223372036854775808 ≤ n ∧ n ≤ 9223372036854775807) (ha : a.size ≤ 140737488355328) :
    Calls Tryd.prog 3 #[.int .i64 n, .string a] w fun e w' => e = .returned (.bool true) ∧ Below w.heap.size w w' := by
  have hn2 := hn.2
  have hn1 := hn.1
  clear hn
  obtain ⟨v, hv⟩ : ∃ v, v = nv a := ⟨_, rfl⟩
  have Hv := Lib.hid hv
  clear hv
  have hOf := Of_any 256 w (by omega)
  rw [show Int.toNat 256 = 256 from rfl, enc_256] at hOf
  obtain ⟨x, hx⟩ : ∃ x, x = enc n.toNat := ⟨_, rfl⟩
  have Hx := Lib.hid hx
  clear hx
  obtain ⟨y, hy⟩ : ∃ y, y = enc v := ⟨_, rfl⟩
  have Hy := Lib.hid hy
  clear hy
  have hcase : (v ≤ 9223372036854775807 ∧ intV v = (v : Int) ∧ intE v = 0 ∧ (cmpN v 9223372036854775807 = 0 ∨ cmpN v 9223372036854775807 = -1)) ∨ (¬ v ≤ 9223372036854775807 ∧ intV v = 0 ∧ intE v = 2 ∧ cmpN v 9223372036854775807 = 1) := by
    unfold intV intE cmpN
    by_cases h : v ≤ 9223372036854775807
    · left
      refine ⟨h, by rw [if_pos h], by rw [if_pos h], ?_⟩
      by_cases h2 : v < 9223372036854775807
      · right; rw [if_pos h2]
      · left; rw [if_neg h2, if_neg (by omega)]
    · right
      refine ⟨h, by rw [if_neg h], by rw [if_neg h], ?_⟩
      rw [if_neg (by omega), if_pos (by omega)]
  rcases hcase with ⟨hvi, hV, hE, hC⟩ | ⟨hvi, hV, hE, hC⟩
  · have HV := Lib.hid hV
    have HE := Lib.hid hE
    obtain ⟨c, hc⟩ : ∃ c, cmpN v 9223372036854775807 = c := ⟨_, rfl⟩
    rw [hc] at hC
    have hc0 : ¬ 0 < c := by omega
    have HC := Lib.hid hc
    have hvi : (v : Int) ≤ 9223372036854775807 := by omega
    clear hV hE hC hc
    by_cases h1 : 0 < n
    · skip
      go_enter Tryd.func3, Tryd.ntmps3
      go_wp2_with fail
      refine hOf.mono ?_
      rintro e w1 ⟨rfl, hb1⟩
      clear hOf
      go_wp2_with fail
      refine (Small_any n w1 hn2).mono ?_
      rintro e w2 ⟨rfl, hb2⟩
      rw [← Hx.out]
      go_wp2_with fail
      refine (Int_any a w2).mono ?_
      rintro e w3 ⟨rfl, rfl⟩
      rw [← Hv.out, HV.out, HE.out]
      go_wp2_with fail
      refine (Compare_any a _ w2 ha (by decide)).mono ?_
      rintro e w3 ⟨rfl, rfl⟩
      rw [← Hv.out, nv_maxint, HC.out]
      go_wp2_with fail
      refine (Of_any n w2 hn2).mono ?_
      rintro e w3 ⟨rfl, hb3⟩
      rw [← Hx.out]
      go_wp2_with fail
      refine (Small_any (v : Int) w3 hvi).mono ?_
      rintro e w4 ⟨rfl, hb4⟩
      rw [Int.toNat_natCast, ← Hy.out]
      go_wp2_with fail
      refine (Bare_any a w4).mono ?_
      rintro e w5 ⟨rfl, rfl⟩
      rw [← Hv.out, ← Hy.out]
      go_wp2_with fail
      go_ret
      exact ⟨by simp, hb1.trans ((hb2.mono hb1.size).trans ((hb3.mono (by have := hb1.size; have := hb2.size; omega)).trans (hb4.mono (by have := hb1.size; have := hb2.size; have := hb3.size; omega))))⟩
    · have H0 := Lib.hid (show enc n.toNat = ⟨#[]⟩ by rw [show n.toNat = 0 by omega, enc_zero])
      go_enter Tryd.func3, Tryd.ntmps3
      go_wp2_with fail
      refine hOf.mono ?_
      rintro e w1 ⟨rfl, hb1⟩
      clear hOf
      go_wp2_with fail
      have hb2 := Below.refl w1.heap.size w1
      refine (Int_any a w1).mono ?_
      rintro e w3 ⟨rfl, rfl⟩
      rw [← Hv.out, HV.out, HE.out]
      go_wp2_with fail
      refine (Compare_any a _ w1 ha (by decide)).mono ?_
      rintro e w3 ⟨rfl, rfl⟩
      rw [← Hv.out, nv_maxint, HC.out]
      go_wp2_with fail
      refine (Of_any n w1 hn2).mono ?_
      rintro e w3 ⟨rfl, hb3⟩
      rw [H0.out]
      go_wp2_with fail
      refine (Small_any (v : Int) w3 hvi).mono ?_
      rintro e w4 ⟨rfl, hb4⟩
      rw [Int.toNat_natCast, ← Hy.out]
      go_wp2_with fail
      refine (Bare_any a w4).mono ?_
      rintro e w5 ⟨rfl, rfl⟩
      rw [← Hv.out, ← Hy.out]
      go_wp2_with fail
      go_ret
      exact ⟨by simp, hb1.trans ((hb2.mono hb1.size).trans ((hb3.mono (by have := hb1.size; have := hb2.size; omega)).trans (hb4.mono (by have := hb1.size; have := hb2.size; have := hb3.size; omega))))⟩
  · have HV := Lib.hid hV
    have HE := Lib.hid hE
    have HC := Lib.hid hC
    clear hV hE hC hvi
    by_cases h1 : 0 < n
    · skip
      go_enter Tryd.func3, Tryd.ntmps3
      go_wp2_with fail
      refine hOf.mono ?_
      rintro e w1 ⟨rfl, hb1⟩
      clear hOf
      go_wp2_with fail
      refine (Small_any n w1 hn2).mono ?_
      rintro e w2 ⟨rfl, hb2⟩
      rw [← Hx.out]
      go_wp2_with fail
      refine (Int_any a w2).mono ?_
      rintro e w3 ⟨rfl, rfl⟩
      rw [← Hv.out, HV.out, HE.out]
      go_wp2_with fail
      refine (Compare_any a _ w2 ha (by decide)).mono ?_
      rintro e w3 ⟨rfl, rfl⟩
      rw [← Hv.out, nv_maxint, HC.out]
      go_wp2_with fail
      refine (Of_any n w2 hn2).mono ?_
      rintro e w3 ⟨rfl, hb3⟩
      rw [← Hx.out]
      go_wp2_with fail
      go_ret
      exact ⟨by simp, hb1.trans ((hb2.mono hb1.size).trans (hb3.mono (by have := hb1.size; have := hb2.size; omega)))⟩
    · have H0 := Lib.hid (show enc n.toNat = ⟨#[]⟩ by rw [show n.toNat = 0 by omega, enc_zero])
      go_enter Tryd.func3, Tryd.ntmps3
      go_wp2_with fail
      refine hOf.mono ?_
      rintro e w1 ⟨rfl, hb1⟩
      clear hOf
      go_wp2_with fail
      have hb2 := Below.refl w1.heap.size w1
      refine (Int_any a w1).mono ?_
      rintro e w3 ⟨rfl, rfl⟩
      rw [← Hv.out, HV.out, HE.out]
      go_wp2_with fail
      refine (Compare_any a _ w1 ha (by decide)).mono ?_
      rintro e w3 ⟨rfl, rfl⟩
      rw [← Hv.out, nv_maxint, HC.out]
      go_wp2_with fail
      refine (Of_any n w1 hn2).mono ?_
      rintro e w3 ⟨rfl, hb3⟩
      rw [H0.out]
      go_wp2_with fail
      go_ret
      exact ⟨by simp, hb1.trans ((hb2.mono hb1.size).trans (hb3.mono (by have := hb1.size; have := hb2.size; omega)))⟩

end Go.Proofs.YtajkihgioikipaaDoor.lawA
