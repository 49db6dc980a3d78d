/- Joined by wip/bundle.py: XRefA XRefB. -/
import Derived.Test.YtjhoddlhdoiifaaGreatDoorNatD
import Derived.Lib.TrimByte
/- Walks: gantref1.Bare, digit, Compare, number. -/
namespace Go.Proofs.YtjhoddlhdoiifaaGreatDoor.refA
open Go.RowKit num mem natA natB natC natD

theorem info3 : (Tryz.prog.info? 3).map (fun i => (i.zero, i.size, i.bytes)) = some (some (.int .i64 0), 1, 8) := by kernel_rfl

theorem trimLeft_enc (a : ByteArray) : (⟨(Lib.trimLeftB a.data.toList 0).toArray⟩ : ByteArray) = enc (nv a) := by
  apply ba_ext
  rw [enc_data]
  show strip _ = _
  exact strip_eq _

/-- digit i of a string -/
def dig (a : ByteArray) (i : Nat) : Nat := nv a / 256 ^ i % 256
theorem dig_lt (a : ByteArray) (i : Nat) : dig a i ≤ 255 := by unfold dig; have := Nat.mod_lt (nv a / 256 ^ i) (show 0 < 256 by omega); omega
theorem nvl_getElem : ∀ (l : List UInt8) (i : Nat) (h : i < l.length), (l[l.length - 1 - i]'(by omega)).toNat = nvl l / 256 ^ i % 256 := by
  intro l
  induction l with
  | nil => intro i h; simp at h
  | cons c l ih =>
    intro i h
    rw [nvl_cons]
    by_cases hi : i = l.length
    · subst hi
      have hl := nvl_lt l
      have hp : 0 < 256 ^ l.length := Nat.pow_pos (by omega)
      rw [Nat.add_comm, Nat.add_mul_div_right _ _ hp, Nat.div_eq_of_lt hl, Nat.zero_add]
      have hc := c.toNat_lt
      simp
    · have hi' : i < l.length := by simp at h; omega
      have e : (c :: l)[(c :: l).length - 1 - i]'(by omega) = l[l.length - 1 - i]'(by omega) := by
        simp only [List.length_cons]
        rw [List.getElem_cons, dif_neg (by omega)]
        congr 1
        omega
      rw [e, ih i hi']
      obtain ⟨d, hd⟩ : ∃ d, l.length = i + 1 + d := ⟨l.length - i - 1, by omega⟩
      have hp : 0 < 256 ^ i := Nat.pow_pos (by omega)
      rw [hd, Nat.pow_add, Nat.pow_succ, show c.toNat * (256 ^ i * 256 * 256 ^ d) = (256 * (c.toNat * 256 ^ d)) * 256 ^ i by
        simp only [Nat.mul_comm, Nat.mul_left_comm, Nat.mul_assoc], Nat.add_comm, Nat.add_mul_div_right _ _ hp, Nat.add_mul_mod_self_left]

theorem div_step (a : ByteArray) (j : Nat) : nv a / 256 ^ j = 256 * (nv a / 256 ^ (j + 1)) + dig a j := by
  unfold dig
  rw [Nat.pow_succ, ← Nat.div_div_eq_div_mul]
  omega
theorem cmp_less {a b : ByteArray} {j : Nat} (h : nv a / 256 ^ (j + 1) = nv b / 256 ^ (j + 1)) (hd : dig a j < dig b j) : nv a < nv b := by
  have h1 := div_step a j
  have h2 := div_step b j
  apply Nat.lt_of_not_le
  intro hle
  have := Nat.div_le_div_right (c := 256 ^ j) hle
  omega
theorem cmp_same {a b : ByteArray} {j : Nat} (h : nv a / 256 ^ (j + 1) = nv b / 256 ^ (j + 1)) (hd : dig a j = dig b j) : nv a / 256 ^ j = nv b / 256 ^ j := by
  rw [div_step a j, div_step b j, h, hd]

end Go.Proofs.YtjhoddlhdoiifaaGreatDoor.refA

/- Walks: gantref1.number. -/
namespace Go.Proofs.YtjhoddlhdoiifaaGreatDoor.refB
open Go.RowKit num mem natA natB natC natD refA

def bigN : Nat := 9223372036854775808
/-- how far number's first loop has to go -/
def numLeft (len : Nat) (c i : Value) : Nat := (len - (intOf i).toNat) * bigN + (intOf c).toNat

theorem num_step {L D : List Nat} {k q x : Nat} (hD : D.length = k) (h : lv 256 D + q * 256 ^ k = lv 256 (L.take k)) (hx : x = L.getD k 0) :
    lv 256 (D ++ [(q + x) % 256]) + (q + x) / 256 * 256 ^ (k + 1) = lv 256 (L.take (k + 1)) := by
  have := add_digit (B := 256) (Y := []) (X := L) (n := (q + x) % 256) (C := (q + x) / 256) (c := q) hD (by simpa only [List.take_nil, lv_nil, Nat.add_zero] using h) (by rw [← hx, show ([] : List Nat).getD k 0 = 0 from rfl]; omega)
  simpa only [List.take_nil, lv_nil, Nat.add_zero] using this
theorem num_bound {q r : Nat} (h : q * 256 ^ r ≤ 36028797018963968) (hq : 0 < q) : r ≤ 7 := by
  apply Nat.le_of_not_lt
  intro h7
  have h1 : 256 ^ 8 ≤ 256 ^ r := Nat.pow_le_pow_right (by omega) h7
  have h2 : 1 * 256 ^ r ≤ q * 256 ^ r := Nat.mul_le_mul_right _ hq
  have h3 : (256 : Nat) ^ 8 = 18446744073709551616 := by decide
  omega
theorem num_carry {q r : Nat} (h : q * 256 ^ r ≤ 36028797018963968) : q / 256 * 256 ^ (r + 1) ≤ 36028797018963968 := by
  rw [Nat.pow_succ]
  have : q / 256 * (256 ^ r * 256) = (q / 256 * 256) * 256 ^ r := by rw [Nat.mul_comm (256 ^ r), Nat.mul_assoc]
  rw [this]
  have h1 : q / 256 * 256 ≤ q := Nat.div_mul_le_self q 256
  exact Nat.le_trans (Nat.mul_le_mul_right _ h1) h
theorem numLeft_a {len k q q' : Nat} (h : k < len) (hq : q' ≤ 36028797018963968) : numLeft len (.int .i64 (q' : Int)) (.int .i64 ((k : Int) + 1)) < numLeft len (.int .i64 (q : Int)) (.int .i64 (k : Int)) := by
  unfold numLeft bigN
  simp only [intOf]
  have e1 : ((k : Int) + 1).toNat = k + 1 := by omega
  rw [e1, Int.toNat_natCast, Int.toNat_natCast, Int.toNat_natCast]
  have : len - k = (len - (k + 1)) + 1 := by omega
  rw [this, Nat.add_mul]
  omega
theorem numLeft_b {len k q : Nat} (h : ¬ k < len) (hq : 0 < q) : numLeft len (.int .i64 ((q : Int) / 256)) (.int .i64 ((k : Int) + 1)) < numLeft len (.int .i64 (q : Int)) (.int .i64 (k : Int)) := by
  unfold numLeft
  simp only [intOf]
  have e1 : ((k : Int) + 1).toNat = k + 1 := by omega
  rw [e1, Int.toNat_natCast, Int.toNat_natCast, show len - k = 0 by omega, show len - (k + 1) = 0 by omega]
  omega

end Go.Proofs.YtjhoddlhdoiifaaGreatDoor.refB

