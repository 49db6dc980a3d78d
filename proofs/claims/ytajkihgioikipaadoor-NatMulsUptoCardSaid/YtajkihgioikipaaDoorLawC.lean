/- Walk: gantlaw1.NatMuls. -/
import Derived.Test.YtajkihgioikipaaDoorLawB
import Derived.Test.YtajkihgioikipaaDoorNatI
import Derived.Test.YtajkihgioikipaaDoorRefF
namespace Go.Proofs.YtajkihgioikipaaDoor.lawC
open Go.RowKit num mem natA natB natC natD natE natI refA refB refC refD refE refF lawA lawB

theorem Mul_two (w : World) : Calls Tryd.prog 27 #[.string ⟨#[2]⟩, .string ⟨#[2]⟩] w fun e w' => e = .returned (.string ⟨#[4]⟩) ∧ Below w.heap.size w w' := by
  have h := Mul_any ⟨#[2]⟩ ⟨#[2]⟩ w (by decide) (by decide)
  rw [nv_two, show 2 * 2 = 4 from rfl, enc_four] at h
  exact h
theorem natMuls_walk (a b : ByteArray) (w : World) (ha : a.size ≤ 17592186044416) (hb : b.size ≤ 17592186044416) :
    Calls Tryd.prog 6 #[.string a, .string b] w fun e w' => e = .returned (.bool true) ∧ Below w.heap.size w w' := by
  obtain ⟨z, hz⟩ : ∃ z, enc (nv a * nv b) = z := ⟨_, rfl⟩
  have Hz := Lib.hid hz
  clear hz
  by_cases h0 : nv b = 0
  · have HB := Lib.hid (show enc (nv b) = ⟨#[]⟩ by rw [h0, enc_zero])
    have H0 := Lib.hid h0
    clear h0
    go_enter Tryd.func6, Tryd.ntmps6
    go_wp2_with fail
    refine (Mul_two w).mono ?_
    rintro e w1 ⟨rfl, hb1⟩
    go_wp2_with fail
    refine (Div_zero a b w1 H0.out).mono ?_
    rintro e w' ⟨rfl, rfl⟩
    go_wp2_with fail
    refine (Bare_any b w1).mono ?_
    rintro e w' ⟨rfl, rfl⟩
    rw [HB.out]
    go_wp2_with fail
    refine (Mul_any a b w1 (by omega) (by omega)).mono ?_
    rintro e w2 ⟨rfl, hb2⟩
    rw [Hz.out]
    go_wp2_with fail
    refine (Times_any a b w2 (by omega)).mono ?_
    rintro e w3 ⟨rfl, hb3⟩
    rw [Hz.out]
    go_wp2_with fail
    go_ret
    have h12 := hb1.trans (hb2.mono hb1.size)
    exact ⟨by simp, h12.trans (hb3.mono h12.size)⟩
  · obtain ⟨x, hx⟩ : ∃ x, enc (nv b) = x := ⟨_, rfl⟩
    have hne : x.toList.isEmpty = false := by
      rw [← hx, Lib.toList_data]
      cases h : (enc (nv b)).data.toList with
      | nil => exact (h0 (enc_eq_empty.1 h)).elim
      | cons x l => rfl
    obtain ⟨q, hq⟩ : ∃ q, enc (nv a / nv b) = q := ⟨_, rfl⟩
    obtain ⟨r, hr⟩ : ∃ r, enc (nv a % nv b) = r := ⟨_, rfl⟩
    have Hx := Lib.hid hx
    have Hq := Lib.hid hq
    have Hr := Lib.hid hr
    have H0 := Lib.hid (show 0 < nv b by omega)
    clear h0 hx hq hr
    go_enter Tryd.func6, Tryd.ntmps6
    go_wp2_with fail
    refine (Mul_two w).mono ?_
    rintro e w1 ⟨rfl, hb1⟩
    go_wp2_with fail
    refine (Div_any a b w1 (by omega) (by omega) H0.out).mono ?_
    rintro e w2 ⟨rfl, hb2⟩
    rw [Hq.out, Hr.out]
    go_wp2_with fail
    refine (Bare_any b w2).mono ?_
    rintro e w' ⟨rfl, rfl⟩
    rw [Hx.out]
    go_wp2_with fail
    refine (Share_any a b w2 (by omega) (by omega) H0.out).mono ?_
    rintro e w3 ⟨rfl, hb3⟩
    rw [Hq.out, Hr.out]
    go_wp2_with fail
    refine (Mul_any a b w3 (by omega) (by omega)).mono ?_
    rintro e w4 ⟨rfl, hb4⟩
    rw [Hz.out]
    go_wp2_with fail
    refine (Times_any a b w4 (by omega)).mono ?_
    rintro e w5 ⟨rfl, hb5⟩
    rw [Hz.out]
    go_wp2_with fail
    go_ret
    have h12 := hb1.trans (hb2.mono hb1.size)
    have h13 := h12.trans (hb3.mono h12.size)
    have h14 := h13.trans (hb4.mono h13.size)
    exact ⟨by simp, h14.trans (hb5.mono h14.size)⟩

end Go.Proofs.YtajkihgioikipaaDoor.lawC
