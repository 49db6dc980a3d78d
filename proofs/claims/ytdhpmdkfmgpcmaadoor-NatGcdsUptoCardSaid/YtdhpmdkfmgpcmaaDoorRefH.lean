/- Walk: gantref1.Numeral. -/
import Derived.Test.YtdhpmdkfmgpcmaaDoorRefG
import Derived.Test.YtdhpmdkfmgpcmaaDoorLawA
import Derived.Shelf.Strings.SlTrimAscii
namespace Go.Proofs.YtdhpmdkfmgpcmaaDoor.refH
open Go.RowKit num mem natA natB natC natD dec refA refB refC refD refE natJ natK lawA

theorem Trim_digits (s : ByteArray) (w : World) (hs : s.size ≤ 2000) :
    Calls Tryd.prog 180 #[.string s, .string ⟨#[48, 49, 50, 51, 52, 53, 54, 55, 56, 57]⟩] w fun e w' => e = .returned (.string ⟨(Lib.trimS s.data.toList [48, 49, 50, 51, 52, 53, 54, 55, 56, 57]).toArray⟩) ∧ Below w.heap.size w w' :=
  Any.strings_Trim_laid Tryd.lays160 (by kernel_rfl) s ⟨#[48, 49, 50, 51, 52, 53, 54, 55, 56, 57]⟩ w (by omega) (by decide) (ascii_of_all (by decide))

theorem nv_ten : nv ⟨#[10]⟩ = 10 := by decide
theorem enc_one : enc 1 = ⟨#[1]⟩ := enc_lit _ 1 [] rfl (by decide) _ (by decide)
theorem dropWhile_nil (p : UInt8 → Bool) : ∀ l : List UInt8, l.dropWhile p = [] ↔ ∀ x ∈ l, p x = true := by
  intro l
  induction l with
  | nil => simp
  | cons c l ih =>
    rw [List.dropWhile_cons]
    by_cases h : p c = true
    · rw [if_pos h, ih]; simp [h]
    · rw [if_neg h]; simp [h]
theorem dropWhile_head (p : UInt8 → Bool) : ∀ (l : List UInt8) (c : UInt8) (r : List UInt8), l.dropWhile p = c :: r → p c = false := by
  intro l
  induction l with
  | nil => intro c r h; simp at h
  | cons d l ih =>
    intro c r h
    rw [List.dropWhile_cons] at h
    by_cases hd : p d = true
    · rw [if_pos hd] at h; exact ih c r h
    · rw [if_neg hd] at h
      injection h with h1 h2
      rw [← h1]
      simpa using hd
theorem trimS_nil (l cs : List UInt8) : Lib.trimS l cs = [] ↔ ∀ x ∈ l, cs.contains x = true := by
  unfold Lib.trimS Lib.trimLeftS Lib.trimRightS
  rw [dropWhile_nil]
  constructor
  · intro h
    cases hr : l.reverse.dropWhile (cs.contains ·) with
    | nil =>
      have := (dropWhile_nil _ _).1 hr
      intro x hx
      exact this x (List.mem_reverse.2 hx)
    | cons c r =>
      have h1 := dropWhile_head _ _ _ _ hr
      have h2 := h c (by rw [hr]; simp)
      rw [h1] at h2
      cases h2
  · intro h x hx
    have h1 : l.reverse.dropWhile (cs.contains ·) = [] := (dropWhile_nil _ _).2 (fun y hy => h y (List.mem_reverse.1 hy))
    rw [h1] at hx
    cases hx
theorem digit_mem (x : UInt8) : ([48, 49, 50, 51, 52, 53, 54, 55, 56, 57] : List UInt8).contains x = true ↔ 48 ≤ x.toNat ∧ x.toNat ≤ 57 := by
  have k : ∀ n : Fin 256, (([48, 49, 50, 51, 52, 53, 54, 55, 56, 57] : List UInt8).contains (UInt8.ofNat n.val) = true ↔ 48 ≤ n.val ∧ n.val ≤ 57) := by decide +kernel
  have := k ⟨x.toNat, UInt8.toNat_lt x⟩
  simpa using this
theorem trim_digits_nil (s : ByteArray) : Lib.trimS s.data.toList [48, 49, 50, 51, 52, 53, 54, 55, 56, 57] = [] ↔ ∀ j, j < s.size → 48 ≤ chr s j ∧ chr s j ≤ 57 := by
  rw [trimS_nil]
  constructor
  · intro h j hj
    rw [← chr_eq s j hj]
    exact (digit_mem _).1 (h _ (by rw [show s[j] = s.data.toList[j]'(by rw [ba_length]; exact hj) from rfl]; exact List.getElem_mem _))
  · intro h x hx
    obtain ⟨j, hj, rfl⟩ := List.getElem_of_mem hx
    rw [ba_length] at hj
    have := h j hj
    rw [← chr_eq s j hj] at this
    exact (digit_mem _).2 this
theorem pow_ten_size (m : Nat) : (enc (10 ^ m)).size ≤ m + 1 := by
  rw [enc_size_le]
  have h1 : 10 ^ m < 10 ^ (m + 1) := Nat.pow_lt_pow_right (by omega) (by omega)
  have h2 : 10 ^ (m + 1) ≤ 256 ^ (m + 1) := Nat.pow_le_pow_left (by omega) _
  omega
theorem lt_ten_size {x m : Nat} (h : x < 10 ^ m) : (enc x).size ≤ m := by
  rw [enc_size_le]
  have h2 : 10 ^ m ≤ 256 ^ m := Nat.pow_le_pow_left (by omega) _
  omega
theorem num_down {s : ByteArray} {j U S d V : Nat} (h : readV s (j + 1) * U + S = V) (hd : chr s j - 48 = d) : readV s j * (U * 10) + (S + U * d) = V := by
  rw [← h, readV_succ, hd, Nat.add_mul, Nat.mul_assoc, Nat.mul_comm 10 U, Nat.mul_comm d U]
  omega

set_option maxHeartbeats 1000000 in
set_option maxRecDepth 100000 in
theorem Numeral_any (s : ByteArray) (w : World) (hs : s.size ≤ 2000) :
    Calls Tryd.prog 129 #[.string s] w fun e w' => e = .returned (.tuple #[.string (readS s), .int .i64 (readE s)]) ∧ Below w.heap.size w w' := by
  obtain ⟨rs, hrs⟩ : ∃ x, x = readS s := ⟨_, rfl⟩
  obtain ⟨re, hre⟩ : ∃ x, x = readE s := ⟨_, rfl⟩
  have HBAD := Lib.hid (show ¬ readable s → rs = ⟨#[]⟩ ∧ re = 15 by
    intro h; rw [hrs, hre]; unfold readS readE; rw [if_neg h, if_neg h]; exact ⟨rfl, rfl⟩)
  have HGOOD := Lib.hid (show readable s → rs = enc (readV s s.size) ∧ re = 0 by
    intro h; rw [hrs, hre]; unfold readS readE; rw [if_pos h, if_pos h]; exact ⟨rfl, rfl⟩)
  rw [← hrs, ← hre]
  clear hrs hre
  obtain ⟨tr, htr⟩ : ∃ x, Lib.trimS s.data.toList [48, 49, 50, 51, 52, 53, 54, 55, 56, 57] = x := ⟨_, rfl⟩
  have hnil := trim_digits_nil s
  rw [htr] at hnil
  have HTR := Lib.hid htr
  clear htr
  by_cases hall : ∀ j, j < s.size → 48 ≤ chr s j ∧ chr s j ≤ 57
  · have htn := hnil.2 hall
    subst htn
    have Hall := Lib.hid hall
    clear hnil hall
    by_cases h0 : s.size = 0
    · have HE := Lib.hid (HBAD.out (fun h => h.1 h0))
      have he : s.toList.isEmpty = true := by
        rw [Lib.toList_data, List.isEmpty_iff]
        exact List.eq_nil_of_length_eq_zero (by rw [ba_length]; exact h0)
      clear h0
      go_enter Tryd.func129, Tryd.ntmps129
      go_wp2_with fail
      refine (Trim_digits s _ hs).mono ?_
      rintro e w1 ⟨rfl, hb1⟩
      rw [HTR.out]
      go_wp2_with fail
      go_ret2
      exact ⟨ret_se HE.out.1.symm HE.out.2.symm, hb1⟩
    · have h0' : 0 < s.size := by omega
      have he : s.toList.isEmpty = false := by
        rw [Lib.toList_data]
        cases h : s.data.toList with
        | nil => exact absurd (show s.size = 0 by rw [← ba_length, h]; rfl) h0
        | cons x l => rfl
      have hc0 := chr_eq s 0 h0'
      clear h0
      by_cases h1 : 1 < s.size ∧ chr s 0 = 48
      · have HE := Lib.hid (HBAD.out (fun h => h.2.1 h1))
        obtain ⟨h1, h2⟩ := h1
        have h3 : (((s[0]).toNat : Int) == 48) = true := by rw [hc0, h2]; rfl
        have h4 : (s.toList == [48]) = false := by
          rw [Lib.toList_data]
          apply beq_false_of_ne
          intro e
          have := congrArg List.length e
          rw [ba_length] at this
          simp at this
          omega
        clear h2 hc0
        go_enter Tryd.func129, Tryd.ntmps129
        go_wp2_with fail
        refine (Trim_digits s _ hs).mono ?_
        rintro e w1 ⟨rfl, hb1⟩
        rw [HTR.out]
        go_wp2_with fail
        go_ret2
        exact ⟨ret_se HE.out.1.symm HE.out.2.symm, hb1⟩
      · have H1 := Lib.hid h1
        have key : (s.toList == [48]) = true ∨ ((s.toList == [48]) = false ∧ (((s[0]).toNat : Int) == 48) = false) := by
          by_cases h48 : s.toList = [48]
          · exact .inl (by rw [h48]; rfl)
          · refine .inr ⟨beq_false_of_ne h48, ?_⟩
            rw [hc0]
            have : chr s 0 ≠ 48 := by
              intro e
              apply h48
              have hs1 : s.data.toList.length = 1 := by
                rw [ba_length]
                have : ¬ 1 < s.size := fun h => h1 ⟨h, e⟩
                omega
              rw [Lib.toList_data]
              unfold chr at e
              match hl : s.data.toList, hs1 with
              | [x], _ =>
                rw [hl] at e
                have : x.toNat = 48 := e
                rw [UInt8.toNat_inj.1 (show x.toNat = (48 : UInt8).toNat from this)]
            simp; omega
        have H0 := Lib.hid h0'
        clear h1 hc0
        rcases key with h4 | ⟨h4, h3⟩
        all_goals
          go_enter Tryd.func129, Tryd.ntmps129
          go_wp2_with fail
          refine (Trim_digits s _ hs).mono ?_
          rintro e w1 ⟨rfl, hb1⟩
          rw [HTR.out]
          go_wp2_with fail
          go_loopw [4, 5, 6] (fun ss us i wr => ∃ (k S m : Nat) (e : Int), i = .int .i64 e ∧ e = (k : Int) - 1 ∧ k + m = s.size ∧ ss = .string (enc S) ∧ us = .string (enc (10 ^ m)) ∧ Hid (S < 10 ^ m) ∧ Hid (readV s k * 10 ^ m + S = readV s s.size) ∧ Below w.heap.size w wr) (fun _ _ i _ => (intOf i + 1).toNat)
          case atStart => exact ⟨s.size, 0, 0, _, rfl, by go_num, rfl, by rw [enc_zero], by rw [Nat.pow_zero, enc_one], by simp [Hid], by show _ = _; rw [Nat.pow_zero, Nat.mul_one, Nat.add_zero], hb1⟩
          case round =>
            obtain ⟨k, S, m, e, rfl, he1, hkm, rfl, rfl, hS, hV, hB⟩ := hrel
            rcases k with _ | j
            · obtain rfl : e = -1 := by simpa using he1
              have HE := Lib.hid (HGOOD.out ⟨by have := H0.out; omega, H1.out, Hall.out⟩)
              have HSV := Lib.hid (show S = readV s s.size by have := hV.out; rw [show readV s 0 = 0 from rfl, Nat.zero_mul, Nat.zero_add] at this; exact this)
              clear he1
              go_wp2_with fail
              go_ret2
              exact ⟨ret_se (by rw [HE.out.1, HSV.out]) HE.out.2.symm, hB⟩
            · obtain rfl : e = (j : Int) := by omega
              have hj : j < s.size := by omega
              obtain ⟨d, hd⟩ : ∃ d, chr s j = d + 48 := ⟨chr s j - 48, by have := Hall.out j hj; omega⟩
              have hd10 : d < 10 := by have := Hall.out j hj; omega
              have hcj := chr_eq s j hj
              have hl3 : ((s[j]).toNat : Int) - 48 = (d : Int) := by rw [hcj, hd]; omega
              have HD := Lib.hid hd
              obtain ⟨U, hU⟩ : ∃ U, U = 10 ^ m := ⟨_, rfl⟩
              rw [← hU]
              have z1 : (enc U).size ≤ 2001 := by rw [hU]; exact Nat.le_trans (pow_ten_size m) (by omega)
              have z2 : (enc d).size ≤ 1 := by rw [enc_size_le]; omega
              have z3 : (enc S).size ≤ 2001 := Nat.le_trans (lt_ten_size hS.out) (by omega)
              have z4 : (enc (U * d)).size ≤ 2002 := by
                refine Nat.le_trans (lt_ten_size (m := m + 1) ?_) (by omega)
                rw [Nat.pow_succ, ← hU]
                exact Nat.mul_lt_mul_of_pos_left hd10 (by rw [hU]; exact Nat.pow_pos (by omega))
              have HS := Lib.hid (show S + U * d < 10 ^ (m + 1) by
                have h1 := hS.out
                rw [← hU] at h1
                rw [Nat.pow_succ, ← hU]
                have : U * d ≤ U * 9 := Nat.mul_le_mul_left _ (by omega)
                omega)
              have HV := Lib.hid (show readV s j * 10 ^ (m + 1) + (S + U * d) = readV s s.size by
                rw [Nat.pow_succ, ← hU]
                refine num_down ?_ (by rw [hd, Nat.add_sub_cancel])
                rw [hU]; exact hV.out)
              have HU := Lib.hid hU
              clear he1 hcj hd hU hS hV
              go_wp2_with fail
              refine (Small_any d _ (by omega)).mono ?_
              rintro e w2 ⟨rfl, hb2⟩
              rw [Int.toNat_natCast]
              go_wp2_with fail
              refine (Times_any (enc U) (enc d) _ (by omega)).mono ?_
              rintro e w3 ⟨rfl, hb3⟩
              rw [nv_enc, nv_enc]
              go_wp2_with fail
              refine (Plus_any (enc S) (enc (U * d)) _ (by omega) (by omega)).mono ?_
              rintro e w4 ⟨rfl, hb4⟩
              rw [nv_enc, nv_enc]
              go_wp2_with fail
              refine (Times_any (enc U) ⟨#[10]⟩ _ (by show _ + 1 ≤ _; omega)).mono ?_
              rintro e w5 ⟨rfl, hb5⟩
              rw [nv_enc, nv_ten]
              go_wp2_with fail
              go_roundw
              case rel =>
                have hB2 := hB.trans (hb2.mono hB.size)
                have hB3 := hB2.trans (hb3.mono hB2.size)
                have hB4 := hB3.trans (hb4.mono hB3.size)
                exact ⟨j, S + U * d, m + 1, _, rfl, by go_num, by omega, rfl, by rw [Nat.pow_succ, ← HU.out], HS.out, HV.out, hB4.trans (hb5.mono hB4.size)⟩
              case measure => simp [intOf] <;> omega
  · have HE := Lib.hid (HBAD.out (fun h => hall h.2.2))
    obtain ⟨c, r, rfl⟩ : ∃ c r, tr = c :: r := by
      cases tr with
      | nil => exact absurd (hnil.1 rfl) hall
      | cons c r => exact ⟨c, r, rfl⟩
    clear hnil hall
    go_enter Tryd.func129, Tryd.ntmps129
    go_wp2_with fail
    refine (Trim_digits s _ hs).mono ?_
    rintro e w1 ⟨rfl, hb1⟩
    rw [HTR.out]
    go_wp2_with fail
    go_ret2
    exact ⟨ret_se HE.out.1.symm HE.out.2.symm, hb1⟩

end Go.Proofs.YtdhpmdkfmgpcmaaDoor.refH
