/- Walks: gantref1.Bare, digit, Compare, number. -/
import Derived.Test.YtdhpmdkfmgpcmaaDoorNatD
import Derived.Lib.TrimByte
namespace Go.Proofs.YtdhpmdkfmgpcmaaDoor.refA
open Go.RowKit num mem natA natB natC natD

theorem info3 : (Tryd.prog.info? 3).map (fun i => (i.zero, i.size, i.bytes)) = some (some (.int .i64 0), 1, 8) := by kernel_rfl

theorem trimLeft_enc (a : ByteArray) : (⟨(Lib.trimLeftB a.data.toList 0).toArray⟩ : ByteArray) = enc (nv a) := by
  apply ba_ext
  rw [enc_data]
  show strip _ = _
  exact strip_eq _

theorem Bare_any (a : ByteArray) (w : World) :
    Calls Tryd.prog 113 #[.string a] w fun e w' => e = .returned (.string (enc (nv a))) ∧ w = w' := by
  go_enter Tryd.func113, Tryd.ntmps113
  go_wp2_with fail
  refine (Tryd.strings_TrimLeft_one a 0 (by decide) w).mono ?_
  rintro e w' ⟨rfl, rfl⟩
  go_wp2_with fail
  go_ret
  exact ⟨ret_string (trimLeft_enc a), rfl⟩

/-- digit i of a string -/
def dig (a : ByteArray) (i : Nat) : Nat := nv a / 256 ^ i % 256
theorem dig_lt (a : ByteArray) (i : Nat) : dig a i ≤ 255 := by unfold dig; have := Nat.mod_lt (nv a / 256 ^ i) (show 0 < 256 by omega); omega
theorem nvl_getElem : ∀ (l : List UInt8) (i : Nat) (h : i < l.length), (l[l.length - 1 - i]'(by omega)).toNat = nvl l / 256 ^ i % 256 := by
  intro l
  induction l with
  | nil => intro i h; simp at h
  | cons c l ih =>
    intro i h
    rw [nvl_cons]
    by_cases hi : i = l.length
    · subst hi
      have hl := nvl_lt l
      have hp : 0 < 256 ^ l.length := Nat.pow_pos (by omega)
      rw [Nat.add_comm, Nat.add_mul_div_right _ _ hp, Nat.div_eq_of_lt hl, Nat.zero_add]
      have hc := c.toNat_lt
      simp
    · have hi' : i < l.length := by simp at h; omega
      have e : (c :: l)[(c :: l).length - 1 - i]'(by omega) = l[l.length - 1 - i]'(by omega) := by
        simp only [List.length_cons]
        rw [List.getElem_cons, dif_neg (by omega)]
        congr 1
        omega
      rw [e, ih i hi']
      obtain ⟨d, hd⟩ : ∃ d, l.length = i + 1 + d := ⟨l.length - i - 1, by omega⟩
      have hp : 0 < 256 ^ i := Nat.pow_pos (by omega)
      rw [hd, Nat.pow_add, Nat.pow_succ, show c.toNat * (256 ^ i * 256 * 256 ^ d) = (256 * (c.toNat * 256 ^ d)) * 256 ^ i by
        simp only [Nat.mul_comm, Nat.mul_left_comm, Nat.mul_assoc], Nat.add_comm, Nat.add_mul_div_right _ _ hp, Nat.add_mul_mod_self_left]

theorem digit_any (a : ByteArray) (i : Nat) (w : World) (ha : a.size ≤ 140737488355328) (hi : i ≤ 1152921504606846976) :
    Calls Tryd.prog 169 #[.string a, .int .i64 i] w fun e w' => e = .returned (.int .i64 (dig a i)) ∧ w = w' := by
  by_cases h : i < a.size
  · obtain ⟨p, hp⟩ : ∃ p : Nat, (a.size : Int) - 1 - (i : Int) = (p : Int) := ⟨a.size - 1 - i, by omega⟩
    have hp2 : p < a.size := by omega
    have Hp := Lib.hid hp
    have HV := Lib.hid (show (((a[p]).toNat : Nat) : Int) = ((dig a i : Nat) : Int) by
      obtain rfl : p = a.size - 1 - i := by omega
      have := nvl_getElem a.data.toList i (by rw [ba_length]; exact h)
      simp only [ba_length] at this
      unfold dig nv
      rw [← this]
      rfl)
    go_enter Tryd.func169, Tryd.ntmps169
    go_wp2
    go_ret
    exact ⟨ret_int (by rw [IntWalk.wrap64_in _ (by have := (a[p]).toNat_lt; omega)]; exact HV.out), rfl⟩
  · have HV := Lib.hid (show dig a i = 0 by
      unfold dig
      have h1 := nv_lt a
      have h2 : 256 ^ a.size ≤ 256 ^ i := Nat.pow_le_pow_right (by omega) (by omega)
      rw [Nat.div_eq_of_lt (by omega)])
    go_enter Tryd.func169, Tryd.ntmps169
    go_wp2
    go_ret
    exact ⟨ret_int (by rw [HV.out]; rfl), rfl⟩

theorem div_step (a : ByteArray) (j : Nat) : nv a / 256 ^ j = 256 * (nv a / 256 ^ (j + 1)) + dig a j := by
  unfold dig
  rw [Nat.pow_succ, ← Nat.div_div_eq_div_mul]
  omega
theorem cmp_less {a b : ByteArray} {j : Nat} (h : nv a / 256 ^ (j + 1) = nv b / 256 ^ (j + 1)) (hd : dig a j < dig b j) : nv a < nv b := by
  have h1 := div_step a j
  have h2 := div_step b j
  apply Nat.lt_of_not_le
  intro hle
  have := Nat.div_le_div_right (c := 256 ^ j) hle
  omega
theorem cmp_same {a b : ByteArray} {j : Nat} (h : nv a / 256 ^ (j + 1) = nv b / 256 ^ (j + 1)) (hd : dig a j = dig b j) : nv a / 256 ^ j = nv b / 256 ^ j := by
  rw [div_step a j, div_step b j, h, hd]

theorem Compare_any (a b : ByteArray) (w : World) (ha : a.size ≤ 140737488355328) (hb : b.size ≤ 140737488355328) :
    Calls Tryd.prog 117 #[.string a, .string b] w fun e w' => e = .returned (.int .i64 (cmpN (nv a) (nv b))) ∧ w = w' := by
  obtain ⟨c, hc⟩ : ∃ c, cmpN (nv a) (nv b) = c := ⟨_, rfl⟩
  have HC := Lib.hid hc
  rw [hc]
  clear hc
  go_enter Tryd.func117, Tryd.ntmps117
  go_wp2
  go_loop [5] (fun i => ∃ (k : Nat) (j : Int), i = .int .i64 j ∧ Hid (j = (k : Int) - 1) ∧ k ≤ 140737488355328 ∧ Hid (nv a / 256 ^ k = nv b / 256 ^ k)) (fun i => (intOf i + 1).toNat)
  case atStart =>
    refine ⟨max a.size b.size, _, rfl, ?_, by omega, ?_⟩
    · show _ = _; omega
    · have h1 : nv a < 256 ^ (max a.size b.size) := Nat.lt_of_lt_of_le (nv_lt a) (Nat.pow_le_pow_right (by omega) (by omega))
      have h2 : nv b < 256 ^ (max a.size b.size) := Nat.lt_of_lt_of_le (nv_lt b) (Nat.pow_le_pow_right (by omega) (by omega))
      show _ = _
      rw [Nat.div_eq_of_lt h1, Nat.div_eq_of_lt h2]
  case round =>
    obtain ⟨k, j, rfl, hj, hk, hq⟩ := hrel
    rcases k with _ | q
    · obtain rfl : j = -1 := by have := hj.out; simpa using this
      have H0 := Lib.hid (show c = 0 by
        have := hq.out
        simp only [Nat.pow_zero, Nat.div_one] at this
        rw [← HC.out, this]; unfold cmpN; simp)
      go_wp2
      go_ret
      exact ⟨ret_int H0.out.symm, rfl⟩
    · obtain rfl : j = (q : Int) := by have := hj.out; omega
      have hx := dig_lt a q
      have hy := dig_lt b q
      by_cases hd : dig a q = dig b q
      · have HQ := Lib.hid (cmp_same hq.out hd)
        obtain ⟨x, hxx⟩ : ∃ x, dig a q = x := ⟨_, rfl⟩
        have HX := Lib.hid hxx
        have HY := Lib.hid (hd.symm.trans hxx)
        clear hd hxx hx hy
        go_wp2_with fail
        refine (digit_any a q _ ha (by omega)).mono ?_
        rintro e w' ⟨rfl, rfl⟩
        rw [HX.out]
        go_wp2_with fail
        refine (digit_any b q _ hb (by omega)).mono ?_
        rintro e w' ⟨rfl, rfl⟩
        rw [HY.out]
        go_wp2_with fail
        go_round
        case rel => exact ⟨q, _, rfl, rfl, by omega, HQ.out⟩
        case measure => simp [intOf] <;> omega
      · obtain ⟨x, hxx⟩ : ∃ x, dig a q = x := ⟨_, rfl⟩
        obtain ⟨y, hyy⟩ : ∃ y, dig b q = y := ⟨_, rfl⟩
        rw [hxx, hyy] at hd
        have hne : ((x : Int) - (y : Int) == 0) = false := by simp; omega
        have hne2 : ((x : Int) - (y : Int) != 0) = true := by simp; omega
        have HV := Lib.hid (show max (-1) (min 1 ((x : Int) - (y : Int))) = c by
          rw [← HC.out]
          unfold cmpN
          rcases Nat.lt_or_gt_of_ne hd with h | h
          · rw [if_pos (cmp_less hq.out (by rw [hxx, hyy]; exact h))]; omega
          · have h2 := cmp_less hq.out.symm (by rw [hxx, hyy]; exact h)
            rw [if_neg (by omega), if_pos h2]; omega)
        have HX := Lib.hid hxx
        have HY := Lib.hid hyy
        rw [hxx] at hx
        rw [hyy] at hy
        clear hd hxx hyy
        go_wp2_with fail
        refine (digit_any a q _ ha (by omega)).mono ?_
        rintro e w' ⟨rfl, rfl⟩
        rw [HX.out]
        go_wp2_with fail
        refine (digit_any b q _ hb (by omega)).mono ?_
        rintro e w' ⟨rfl, rfl⟩
        rw [HY.out]
        go_wp2_with fail
        go_ret
        exact ⟨ret_int HV.out, rfl⟩

end Go.Proofs.YtdhpmdkfmgpcmaaDoor.refA
