/- Walks: gantref1.bit, Share. -/
import Derived.Test.YtdhpmdkfmgpcmaaDoorRefE
namespace Go.Proofs.YtdhpmdkfmgpcmaaDoor.refF
open Go.RowKit num mem natA natB natC natD refA refB refC refD refE

theorem bit_eq (n i : Nat) : n / 256 ^ (i / 8) % 256 / 2 ^ (i % 8) % 2 = n / 2 ^ i % 2 := by
  have e : 2 ^ i = 256 ^ (i / 8) * 2 ^ (i % 8) := by
    rw [show (256 : Nat) = 2 ^ 8 from rfl, ← Nat.pow_mul, ← Nat.pow_add]
    congr 1
    omega
  rw [e, ← Nat.div_div_eq_div_mul]
  generalize n / 256 ^ (i / 8) = x
  rcases (show i % 8 = 0 ∨ i % 8 = 1 ∨ i % 8 = 2 ∨ i % 8 = 3 ∨ i % 8 = 4 ∨ i % 8 = 5 ∨ i % 8 = 6 ∨ i % 8 = 7 by omega) with h | h | h | h | h | h | h | h <;> rw [h] <;> omega

theorem i64_and_one (x r : Nat) (hx : x ≤ 255) : bits .and .i64 ((x : Int) / 2 ^ r) 1 = ((x / 2 ^ r % 2 : Nat) : Int) := by
  have h : x / 2 ^ r ≤ 255 := Nat.le_trans (Nat.div_le_self _ _) hx
  have e : ((x : Int) / 2 ^ r) = ((x / 2 ^ r : Nat) : Int) := by simp
  rw [e]
  generalize x / 2 ^ r = y at h
  have k : ∀ y : Fin 256, bits .and .i64 (y.val : Int) 1 = ((y.val % 2 : Nat) : Int) := by decide +kernel
  exact k ⟨y, by omega⟩

theorem bit_any (a : ByteArray) (i : Nat) (w : World) (ha : a.size ≤ 140737488355328) (hi : i ≤ 1152921504606846976) :
    Calls Tryd.prog 115 #[.string a, .int .i64 i] w fun e w' => e = .returned (.int .i64 ((nv a / 2 ^ i % 2 : Nat) : Int)) ∧ w = w' := by
  have hx := dig_lt a (i / 8)
  obtain ⟨x, hxx⟩ : ∃ x, x = dig a (i / 8) := ⟨_, rfl⟩
  have HV := Lib.hid (show (((x / 2 ^ (i % 8) % 2 : Nat)) : Int) = ((nv a / 2 ^ i % 2 : Nat) : Int) by rw [hxx]; unfold dig; rw [bit_eq])
  rw [← hxx] at hx
  obtain ⟨p, hp⟩ : ∃ p : Nat, (i : Int) / 8 = (p : Int) := ⟨i / 8, by omega⟩
  obtain ⟨r, hr⟩ : ∃ r : Nat, (i : Int) % 8 = (r : Int) := ⟨i % 8, by omega⟩
  have Hx := Lib.hid (show dig a p = x by rw [hxx]; congr 1; omega)
  have hr2 : r < 8 := by omega
  have Hr := Lib.hid (show i % 8 = r by omega)
  have hp2 : p ≤ i := by omega
  clear hxx
  go_enter Tryd.func115, Tryd.ntmps115
  go_wp2_with fail
  refine (digit_any a p _ ha (by omega)).mono ?_
  rintro e w' ⟨rfl, rfl⟩
  rw [Hx.out]
  go_wp2_with fail
  go_ret
  exact ⟨ret_int (by rw [i64_and_one x r hx, ← Hr.out]; exact HV.out), rfl⟩

theorem share_step {v t m : Nat} (hm : 0 < m) (ht : t ≤ 1) :
    (m ≤ 2 * (v % m) + t → (2 * v + t) / m = 2 * (v / m) + 1 ∧ (2 * v + t) % m = 2 * (v % m) + t - m) ∧ (¬ m ≤ 2 * (v % m) + t → (2 * v + t) / m = 2 * (v / m) ∧ (2 * v + t) % m = 2 * (v % m) + t) := by
  have h1 := Nat.div_add_mod v m
  have h2 := Nat.mod_lt v hm
  have e : 2 * v + t = m * (2 * (v / m)) + (2 * (v % m) + t) := by
    rw [Nat.mul_left_comm]
    omega
  generalize v % m = r at *
  generalize v / m = q at *
  constructor
  · intro h
    have e2 : 2 * v + t = m * (2 * q + 1) + (2 * r + t - m) := by
      rw [Nat.mul_add]; omega
    rw [e2, Nat.mul_add_div hm, Nat.mul_add_mod, Nat.div_eq_of_lt (by omega), Nat.mod_eq_of_lt (by omega)]
    exact ⟨rfl, rfl⟩
  · intro h
    rw [e, Nat.mul_add_div hm, Nat.mul_add_mod, Nat.div_eq_of_lt (by omega), Nat.mod_eq_of_lt (by omega)]
    exact ⟨rfl, rfl⟩

theorem nv_one : nv ⟨#[1]⟩ = 1 := by decide

set_option maxHeartbeats 1000000 in
theorem Share_any (a b : ByteArray) (w : World) (ha : a.size ≤ 17592186044416) (hb : b.size ≤ 17592186044416) (hb0 : 0 < nv b) :
    Calls Tryd.prog 183 #[.string a, .string b] w fun e w' => e = .returned (.tuple #[.string (enc (nv a / nv b)), .string (enc (nv a % nv b))]) ∧ Below w.heap.size w w' := by
  obtain ⟨n, hn⟩ : ∃ n, nv a = n := ⟨_, rfl⟩
  obtain ⟨m, hm⟩ : ∃ m, nv b = m := ⟨_, rfl⟩
  rw [hn, hm]
  rw [hm] at hb0
  have Hn := Lib.hid hn
  have Hm := Lib.hid hm
  have Hsz := Lib.hid (show ∀ x, x ≤ n → (enc x).size ≤ a.size by
    intro x hx
    refine Nat.le_trans (enc_mono hx) ?_
    rw [← hn]; exact enc_nv_le a)
  clear hn hm
  go_enter Tryd.func183, Tryd.ntmps183
  go_wp2_with fail
  go_loopw [6, 7, 8] (fun qs rs i wr => ∃ (k : Nat) (e : Int), i = .int .i64 e ∧ e = (k : Int) - 1 ∧ k ≤ 8 * a.size ∧ qs = .string (enc (n / 2 ^ k / m)) ∧ rs = .string (enc (n / 2 ^ k % m)) ∧ Below w.heap.size w wr) (fun _ _ i _ => (intOf i + 1).toNat)
  case atStart =>
    have hz : n / 2 ^ (8 * a.size) = 0 := by
      apply Nat.div_eq_of_lt
      rw [Nat.pow_mul, ← Hn.out]
      exact nv_lt a
    refine ⟨8 * a.size, _, rfl, by go_num, Nat.le_refl _, ?_, ?_, Below.refl _ _⟩
    · rw [hz, Nat.zero_div, enc_zero]
    · rw [hz, Nat.zero_mod, enc_zero]
  case round =>
    obtain ⟨k, e, rfl, he, hk, rfl, rfl, hB⟩ := hrel
    rcases k with _ | j
    · obtain rfl : e = -1 := by simpa using he
      rw [show n / 2 ^ 0 = n by simp]
      clear he
      go_wp2_with fail
      go_ret2
      exact ⟨rfl, hB⟩
    · obtain rfl : e = (j : Int) := by omega
      clear he
      obtain ⟨v, hv⟩ : ∃ v, v = n / 2 ^ (j + 1) := ⟨_, rfl⟩
      obtain ⟨t, ht⟩ : ∃ t, t = n / 2 ^ j % 2 := ⟨_, rfl⟩
      have hvt : n / 2 ^ j = 2 * v + t := by
        rw [hv, ht, Nat.pow_succ, ← Nat.div_div_eq_div_mul]; omega
      have ht1 : t = 0 ∨ t = 1 := by omega
      rw [← hv]
      have hvn : 2 * v + t ≤ n := by rw [← hvt]; exact Nat.div_le_self _ _
      have hsh := share_step (v := v) (t := t) hb0 (by omega)
      obtain ⟨q, hq⟩ : ∃ q, q = v / m := ⟨_, rfl⟩
      obtain ⟨r, hr⟩ : ∃ r, r = v % m := ⟨_, rfl⟩
      have hqv : q ≤ v := by rw [hq]; exact Nat.div_le_self _ _
      have hrv : r ≤ v := by rw [hr]; exact Nat.mod_le _ _
      rw [← hq, ← hr]
      rw [← hq, ← hr] at hsh
      have HT := Lib.hid (show nv a / 2 ^ j % 2 = t by rw [Hn.out, ht])
      have HVT := Lib.hid hvt
      have HS := Lib.hid hsh
      have s1 : (enc q).size ≤ 17592186044416 := Nat.le_trans (Hsz.out _ (by omega)) ha
      have s2 : (enc r).size ≤ 17592186044416 := Nat.le_trans (Hsz.out _ (by omega)) ha
      have s3 : (enc (r + r)).size ≤ 17592186044416 := Nat.le_trans (Hsz.out _ (by omega)) ha
      have s5 : (enc (r + r + t)).size ≤ 17592186044416 := Nat.le_trans (Hsz.out _ (by omega)) ha
      have HR := Lib.hid (show q + q ≤ n by omega)
      have s4 : (enc (q + q)).size ≤ 17592186044416 := Nat.le_trans (Hsz.out _ HR.out) ha
      clear hv ht hvt hvn hsh hq hr hqv hrv
      rcases ht1 with rfl | rfl
      · go_wp2_with fail
        refine (Plus_any (enc q) (enc q) wr (by omega) (by omega)).mono ?_
        rintro e w1 ⟨rfl, hb1⟩
        rw [nv_enc]
        go_wp2_with fail
        refine (Plus_any (enc r) (enc r) w1 (by omega) (by omega)).mono ?_
        rintro e w2 ⟨rfl, hb2⟩
        rw [nv_enc]
        have hB1 := hB.trans (hb1.mono hB.size)
        have hB2 := hB1.trans (hb2.mono hB1.size)
        clear hB hb1 hb2 hB1
        go_wp2_with fail
        refine (bit_any a j w2 (by omega) (by omega)).mono ?_
        rintro e w' ⟨rfl, rfl⟩
        rw [HT.out]
        go_wp2_with fail
        have hBc := hB2
        clear hB2
        by_cases hge : m ≤ r + r
        · have HG := Lib.hid hge
          have HC := Lib.hid (show cmpN (r + r) m = 0 ∨ cmpN (r + r) m = 1 by unfold cmpN; rw [if_neg (by omega)]; split <;> simp)
          clear hge
          go_wp2_with fail
          refine (Compare_any (enc (r + r)) b w2 (by omega) (by omega)).mono ?_
          rintro e w' ⟨rfl, rfl⟩
          rw [nv_enc, Hm.out]
          obtain ⟨c, hc⟩ : ∃ c, cmpN (r + r) m = c := ⟨_, rfl⟩
          rw [hc]
          have hc0 : 0 ≤ c := by have := HC.out; omega
          clear hc
          go_wp2_with fail
          refine (Less_any (enc (r + r)) b w2 (by omega) (by omega) (by rw [nv_enc, Hm.out]; exact HG.out)).mono ?_
          rintro e w4 ⟨rfl, hb4⟩
          rw [nv_enc, Hm.out]
          go_wp2_with fail
          refine (Plus_any (enc (q + q)) ⟨#[1]⟩ w4 (by omega) (by decide)).mono ?_
          rintro e w5 ⟨rfl, hb5⟩
          rw [nv_enc, nv_one]
          go_wp2_with fail
          go_roundw
          case rel =>
            have hB4 := hBc.trans (hb4.mono hBc.size)
            have h := HS.out.1 (by have := HG.out; omega)
            refine ⟨j, _, rfl, by go_num, by omega, ?_, ?_, hB4.trans (hb5.mono hB4.size)⟩
            · rw [HVT.out, h.1, Nat.two_mul]
            · rw [HVT.out, h.2, Nat.two_mul] <;> rfl
          case measure => simp [intOf] <;> omega
        · have HG := Lib.hid hge
          have HC := Lib.hid (show cmpN (r + r) m = -1 by unfold cmpN; rw [if_pos (by omega)])
          clear hge
          go_wp2_with fail
          refine (Compare_any (enc (r + r)) b w2 (by omega) (by omega)).mono ?_
          rintro e w' ⟨rfl, rfl⟩
          rw [nv_enc, Hm.out, HC.out]
          go_wp2_with fail
          go_roundw
          case rel =>
            have h := HS.out.2 (by have := HG.out; omega)
            refine ⟨j, _, rfl, by go_num, by omega, ?_, ?_, hBc⟩
            · rw [HVT.out, h.1, Nat.two_mul]
            · rw [HVT.out, h.2, Nat.two_mul] <;> rfl
          case measure => simp [intOf] <;> omega
      · go_wp2_with fail
        refine (Plus_any (enc q) (enc q) wr (by omega) (by omega)).mono ?_
        rintro e w1 ⟨rfl, hb1⟩
        rw [nv_enc]
        go_wp2_with fail
        refine (Plus_any (enc r) (enc r) w1 (by omega) (by omega)).mono ?_
        rintro e w2 ⟨rfl, hb2⟩
        rw [nv_enc]
        have hB1 := hB.trans (hb1.mono hB.size)
        have hB2 := hB1.trans (hb2.mono hB1.size)
        clear hB hb1 hb2 hB1
        go_wp2_with fail
        refine (bit_any a j w2 (by omega) (by omega)).mono ?_
        rintro e w' ⟨rfl, rfl⟩
        rw [HT.out]
        go_wp2_with fail
        refine (Plus_any (enc (r + r)) ⟨#[1]⟩ w2 (by omega) (by decide)).mono ?_
        rintro e w3 ⟨rfl, hb3⟩
        rw [nv_enc, nv_one]
        have hBc := hB2.trans (hb3.mono hB2.size)
        clear hB2 hb3
        by_cases hge : m ≤ r + r + 1
        · have HG := Lib.hid hge
          have HC := Lib.hid (show cmpN (r + r + 1) m = 0 ∨ cmpN (r + r + 1) m = 1 by unfold cmpN; rw [if_neg (by omega)]; split <;> simp)
          clear hge
          go_wp2_with fail
          refine (Compare_any (enc (r + r + 1)) b w3 (by omega) (by omega)).mono ?_
          rintro e w' ⟨rfl, rfl⟩
          rw [nv_enc, Hm.out]
          obtain ⟨c, hc⟩ : ∃ c, cmpN (r + r + 1) m = c := ⟨_, rfl⟩
          rw [hc]
          have hc0 : 0 ≤ c := by have := HC.out; omega
          clear hc
          go_wp2_with fail
          refine (Less_any (enc (r + r + 1)) b w3 (by omega) (by omega) (by rw [nv_enc, Hm.out]; exact HG.out)).mono ?_
          rintro e w4 ⟨rfl, hb4⟩
          rw [nv_enc, Hm.out]
          go_wp2_with fail
          refine (Plus_any (enc (q + q)) ⟨#[1]⟩ w4 (by omega) (by decide)).mono ?_
          rintro e w5 ⟨rfl, hb5⟩
          rw [nv_enc, nv_one]
          go_wp2_with fail
          go_roundw
          case rel =>
            have hB4 := hBc.trans (hb4.mono hBc.size)
            have h := HS.out.1 (by have := HG.out; omega)
            refine ⟨j, _, rfl, by go_num, by omega, ?_, ?_, hB4.trans (hb5.mono hB4.size)⟩
            · rw [HVT.out, h.1, Nat.two_mul]
            · rw [HVT.out, h.2, Nat.two_mul] <;> rfl
          case measure => simp [intOf] <;> omega
        · have HG := Lib.hid hge
          have HC := Lib.hid (show cmpN (r + r + 1) m = -1 by unfold cmpN; rw [if_pos (by omega)])
          clear hge
          go_wp2_with fail
          refine (Compare_any (enc (r + r + 1)) b w3 (by omega) (by omega)).mono ?_
          rintro e w' ⟨rfl, rfl⟩
          rw [nv_enc, Hm.out, HC.out]
          go_wp2_with fail
          go_roundw
          case rel =>
            have h := HS.out.2 (by have := HG.out; omega)
            refine ⟨j, _, rfl, by go_num, by omega, ?_, ?_, hBc⟩
            · rw [HVT.out, h.1, Nat.two_mul]
            · rw [HVT.out, h.2, Nat.two_mul] <;> rfl
          case measure => simp [intOf] <;> omega

end Go.Proofs.YtdhpmdkfmgpcmaaDoor.refF
