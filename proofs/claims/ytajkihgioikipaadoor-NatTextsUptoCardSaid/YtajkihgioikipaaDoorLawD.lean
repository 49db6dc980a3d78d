/- Walk: gantlaw1.NatTexts. -/
import Derived.Test.YtajkihgioikipaaDoorLawB
import Derived.Test.YtajkihgioikipaaDoorRefH
namespace Go.Proofs.YtajkihgioikipaaDoor.lawD
open Go.RowKit num mem natA natB natC natD natJ natK dec refA refG refH lawA lawB

theorem Numeral_large (s : ByteArray) (w : World) (h : 2000 < s.size) :
    Calls Tryd.prog 25 #[.string s] w fun e w' => e = .returned (.tuple #[.string ⟨#[]⟩, .int .i64 2]) ∧ w = w' := by
  go_enter Tryd.func25, Tryd.ntmps25
  go_wp2_with fail
  go_ret2
  exact ⟨rfl, rfl⟩
theorem decL_256 : decL 256 = [6, 5, 2] := by
  rw [decL_pos (by decide), show 256 / 10 = 25 from rfl, decL_pos (by decide), show 25 / 10 = 2 from rfl, decL_pos (by decide), show 2 / 10 = 0 from rfl, decL_zero]
theorem dec_256 : dec 256 = ⟨#[50, 53, 54]⟩ := by
  rw [dec_pos (by decide), decL_256]; rfl
theorem nv_256 : nv ⟨#[1, 0]⟩ = 256 := by decide
theorem Text_256 (w : World) : Calls Tryd.prog 23 #[.string ⟨#[1, 0]⟩] w fun e w' => e = .returned (.string ⟨#[50, 53, 54]⟩) ∧ Below w.heap.size w w' := by
  have h := Text_any ⟨#[1, 0]⟩ w (by decide)
  rw [nv_256, dec_256] at h
  exact h

theorem natTexts_walk (a s : ByteArray) (w : World) (ha : a.size ≤ 17592186044416) (_hs : s.size ≤ 17592186044416) :
    Calls Tryd.prog 5 #[.string a, .string s] w fun e w' => e = .returned (.bool true) ∧ Below w.heap.size w w' := by
  obtain ⟨z, hz⟩ : ∃ z, dec (nv a) = z := ⟨_, rfl⟩
  have Hz := Lib.hid hz
  clear hz
  by_cases hs : s.size ≤ 2000
  · obtain ⟨x, hx⟩ : ∃ x, readS s = x := ⟨_, rfl⟩
    obtain ⟨y, hy⟩ : ∃ y, readE s = y := ⟨_, rfl⟩
    have Hx := Lib.hid hx
    have Hy := Lib.hid hy
    have Hs := Lib.hid hs
    clear hx hy hs
    go_enter Tryd.func5, Tryd.ntmps5
    go_wp2_with fail
    refine (Text_256 w).mono ?_
    rintro e w1 ⟨rfl, hb1⟩
    go_wp2_with fail
    refine (Read_any s w1 Hs.out).mono ?_
    rintro e w2 ⟨rfl, hb2⟩
    rw [Hx.out, Hy.out]
    go_wp2_with fail
    refine (Numeral_any s w2 Hs.out).mono ?_
    rintro e w3 ⟨rfl, hb3⟩
    rw [Hx.out, Hy.out]
    go_wp2_with fail
    refine (Text_any a w3 ha).mono ?_
    rintro e w4 ⟨rfl, hb4⟩
    rw [Hz.out]
    go_wp2_with fail
    refine (Decimal_any a w4 ha).mono ?_
    rintro e w5 ⟨rfl, hb5⟩
    rw [Hz.out]
    go_wp2_with fail
    go_ret
    have h12 := hb1.trans (hb2.mono hb1.size)
    have h13 := h12.trans (hb3.mono h12.size)
    have h14 := h13.trans (hb4.mono h13.size)
    exact ⟨by simp, h14.trans (hb5.mono h14.size)⟩
  · have Hs := Lib.hid (show 2000 < s.size by omega)
    clear hs
    go_enter Tryd.func5, Tryd.ntmps5
    go_wp2_with fail
    refine (Text_256 w).mono ?_
    rintro e w1 ⟨rfl, hb1⟩
    go_wp2_with fail
    refine (Read_large s w1 Hs.out).mono ?_
    rintro e w2 ⟨rfl, rfl⟩
    go_wp2_with fail
    refine (Numeral_large s w1 Hs.out).mono ?_
    rintro e w3 ⟨rfl, rfl⟩
    go_wp2_with fail
    refine (Text_any a w1 ha).mono ?_
    rintro e w4 ⟨rfl, hb4⟩
    rw [Hz.out]
    go_wp2_with fail
    refine (Decimal_any a w4 ha).mono ?_
    rintro e w5 ⟨rfl, hb5⟩
    rw [Hz.out]
    go_wp2_with fail
    go_ret
    have h14 := hb1.trans (hb4.mono hb1.size)
    exact ⟨by simp, h14.trans (hb5.mono h14.size)⟩

end Go.Proofs.YtajkihgioikipaaDoor.lawD
