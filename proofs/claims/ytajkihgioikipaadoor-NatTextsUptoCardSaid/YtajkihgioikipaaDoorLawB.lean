/- Walk: gantlaw1.NatAdds. -/
import Derived.Test.YtajkihgioikipaaDoorLawA
namespace Go.Proofs.YtajkihgioikipaaDoor.lawB
open Go.RowKit num mem natA natB natC natD refA refB refC refD lawA

theorem nv_two : nv ⟨#[2]⟩ = 2 := by decide
theorem enc_four : enc 4 = ⟨#[4]⟩ := enc_lit _ 4 [] rfl (by decide) _ (by decide)
theorem Add_two (w : World) : Calls Tryd.prog 18 #[.string ⟨#[2]⟩, .string ⟨#[2]⟩] w fun e w' => e = .returned (.string ⟨#[4]⟩) ∧ Below w.heap.size w w' := by
  have h := Add_any ⟨#[2]⟩ ⟨#[2]⟩ w (by decide) (by decide)
  rw [nv_two, show 2 + 2 = 4 from rfl, enc_four] at h
  exact h

theorem natAdds_walk (a b : ByteArray) (w : World) (ha : a.size ≤ 35184372088832) (hb : b.size ≤ 35184372088832) :
    Calls Tryd.prog 4 #[.string a, .string b] w fun e w' => e = .returned (.bool true) ∧ Below w.heap.size w w' := by
  obtain ⟨c, hc⟩ : ∃ c, cmpN (nv a) (nv b) = c := ⟨_, rfl⟩
  have Hc := Lib.hid hc
  obtain ⟨x, hx⟩ : ∃ x, enc (nv a + nv b) = x := ⟨_, rfl⟩
  have Hx := Lib.hid hx
  clear hx
  by_cases hlt : nv a < nv b
  · have HD := Lib.hid (show enc (nv a - nv b) = ⟨#[]⟩ by rw [show nv a - nv b = 0 by omega, enc_zero])
    have HE := Lib.hid (show subE (nv a) (nv b) = 1 by unfold subE; rw [if_pos hlt])
    have hc1 : c < 0 := by rw [← hc]; unfold cmpN; rw [if_pos hlt]; omega
    clear hc hlt
    go_enter Tryd.func4, Tryd.ntmps4
    go_wp2_with fail
    refine (Add_two w).mono ?_
    rintro e w1 ⟨rfl, hb1⟩
    go_wp2_with fail
    refine (Sub_any a b w1 (by omega) (by omega)).mono ?_
    rintro e w2 ⟨rfl, hb2⟩
    rw [HD.out, HE.out]
    go_wp2_with fail
    refine (Compare_any a b w2 (by omega) (by omega)).mono ?_
    rintro e w3 ⟨rfl, rfl⟩
    rw [Hc.out]
    go_wp2_with fail
    refine (Cmp_any a b w2).mono ?_
    rintro e w3 ⟨rfl, rfl⟩
    rw [Hc.out]
    go_wp2_with fail
    refine (Add_any a b w2 (by omega) (by omega)).mono ?_
    rintro e w3 ⟨rfl, hb3⟩
    rw [Hx.out]
    go_wp2_with fail
    refine (Plus_any a b w3 ha hb).mono ?_
    rintro e w4 ⟨rfl, hb4⟩
    rw [Hx.out]
    go_wp2_with fail
    go_ret
    exact ⟨by simp, hb1.trans ((hb2.mono hb1.size).trans ((hb3.mono (by have := hb1.size; have := hb2.size; omega)).trans (hb4.mono (by have := hb1.size; have := hb2.size; have := hb3.size; omega))))⟩
  · obtain ⟨d, hd⟩ : ∃ d, enc (nv a - nv b) = d := ⟨_, rfl⟩
    have HD := Lib.hid hd
    have HE := Lib.hid (show subE (nv a) (nv b) = 0 by unfold subE; rw [if_neg hlt])
    have hc1 : ¬ c < 0 := by rw [← hc]; unfold cmpN; rw [if_neg hlt]; split <;> omega
    have Hle := Lib.hid (show nv b ≤ nv a by omega)
    clear hc hlt hd
    go_enter Tryd.func4, Tryd.ntmps4
    go_wp2_with fail
    refine (Add_two w).mono ?_
    rintro e w1 ⟨rfl, hb1⟩
    go_wp2_with fail
    refine (Sub_any a b w1 (by omega) (by omega)).mono ?_
    rintro e w2 ⟨rfl, hb2⟩
    rw [HD.out, HE.out]
    go_wp2_with fail
    refine (Compare_any a b w2 (by omega) (by omega)).mono ?_
    rintro e w3 ⟨rfl, rfl⟩
    rw [Hc.out]
    go_wp2_with fail
    refine (Less_any a b w2 ha hb Hle.out).mono ?_
    rintro e w3 ⟨rfl, hb3⟩
    rw [HD.out]
    go_wp2_with fail
    refine (Cmp_any a b w3).mono ?_
    rintro e w4 ⟨rfl, rfl⟩
    rw [Hc.out]
    go_wp2_with fail
    refine (Add_any a b w3 (by omega) (by omega)).mono ?_
    rintro e w4 ⟨rfl, hb4⟩
    rw [Hx.out]
    go_wp2_with fail
    refine (Plus_any a b w4 ha hb).mono ?_
    rintro e w5 ⟨rfl, hb5⟩
    rw [Hx.out]
    go_wp2_with fail
    go_ret
    exact ⟨by simp, hb1.trans ((hb2.mono hb1.size).trans ((hb3.mono (by have := hb1.size; have := hb2.size; omega)).trans ((hb4.mono (by have := hb1.size; have := hb2.size; have := hb3.size; omega)).trans (hb5.mono (by have := hb1.size; have := hb2.size; have := hb3.size; have := hb4.size; omega)))))⟩

end Go.Proofs.YtajkihgioikipaaDoor.lawB
