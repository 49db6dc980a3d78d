/- Walks: gantref1.number. -/
import Derived.Test.YtnnffjolkgomhaaDoorRefA
namespace Go.Proofs.YtnnffjolkgomhaaDoor.refB
open Go.RowKit num mem natA natB natC natD refA

def bigN : Nat := 9223372036854775808
/-- how far number's first loop has to go -/
def numLeft (len : Nat) (c i : Value) : Nat := (len - (intOf i).toNat) * bigN + (intOf c).toNat

theorem num_step {L D : List Nat} {k q x : Nat} (hD : D.length = k) (h : lv 256 D + q * 256 ^ k = lv 256 (L.take k)) (hx : x = L.getD k 0) :
    lv 256 (D ++ [(q + x) % 256]) + (q + x) / 256 * 256 ^ (k + 1) = lv 256 (L.take (k + 1)) := by
  have := add_digit (B := 256) (Y := []) (X := L) (n := (q + x) % 256) (C := (q + x) / 256) (c := q) hD (by simpa only [List.take_nil, lv_nil, Nat.add_zero] using h) (by rw [← hx, show ([] : List Nat).getD k 0 = 0 from rfl]; omega)
  simpa only [List.take_nil, lv_nil, Nat.add_zero] using this
theorem num_bound {q r : Nat} (h : q * 256 ^ r ≤ 36028797018963968) (hq : 0 < q) : r ≤ 7 := by
  apply Nat.le_of_not_lt
  intro h7
  have h1 : 256 ^ 8 ≤ 256 ^ r := Nat.pow_le_pow_right (by omega) h7
  have h2 : 1 * 256 ^ r ≤ q * 256 ^ r := Nat.mul_le_mul_right _ hq
  have h3 : (256 : Nat) ^ 8 = 18446744073709551616 := by decide
  omega
theorem num_carry {q r : Nat} (h : q * 256 ^ r ≤ 36028797018963968) : q / 256 * 256 ^ (r + 1) ≤ 36028797018963968 := by
  rw [Nat.pow_succ]
  have : q / 256 * (256 ^ r * 256) = (q / 256 * 256) * 256 ^ r := by rw [Nat.mul_comm (256 ^ r), Nat.mul_assoc]
  rw [this]
  have h1 : q / 256 * 256 ≤ q := Nat.div_mul_le_self q 256
  exact Nat.le_trans (Nat.mul_le_mul_right _ h1) h
theorem numLeft_a {len k q q' : Nat} (h : k < len) (hq : q' ≤ 36028797018963968) : numLeft len (.int .i64 (q' : Int)) (.int .i64 ((k : Int) + 1)) < numLeft len (.int .i64 (q : Int)) (.int .i64 (k : Int)) := by
  unfold numLeft bigN
  simp only [intOf]
  have e1 : ((k : Int) + 1).toNat = k + 1 := by omega
  rw [e1, Int.toNat_natCast, Int.toNat_natCast, Int.toNat_natCast]
  have : len - k = (len - (k + 1)) + 1 := by omega
  rw [this, Nat.add_mul]
  omega
theorem numLeft_b {len k q : Nat} (h : ¬ k < len) (hq : 0 < q) : numLeft len (.int .i64 ((q : Int) / 256)) (.int .i64 ((k : Int) + 1)) < numLeft len (.int .i64 (q : Int)) (.int .i64 (k : Int)) := by
  unfold numLeft
  simp only [intOf]
  have e1 : ((k : Int) + 1).toNat = k + 1 := by omega
  rw [e1, Int.toNat_natCast, Int.toNat_natCast, show len - k = 0 by omega, show len - (k + 1) = 0 by omega]
  omega

end Go.Proofs.YtnnffjolkgomhaaDoor.refB
