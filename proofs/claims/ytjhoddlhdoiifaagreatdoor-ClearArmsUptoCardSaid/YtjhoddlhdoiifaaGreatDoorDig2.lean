/- Plain arithmetic, no program: products of digits, column by column. -/
import Derived.Test.YtjhoddlhdoiifaaGreatDoorGrpC
namespace Go.Proofs.YtjhoddlhdoiifaaGreatDoor.num

/-! ### products, column by column -/
theorem lv_set {B : Nat} : ∀ {l : List Nat} {j d : Nat}, j < l.length → lv B (l.set j d) + B ^ j * l.getD j 0 = lv B l + B ^ j * d
  | [], _, _, h => by simp at h
  | x :: l, 0, d, _ => by
    rw [List.set_cons_zero, lv_cons, lv_cons, Nat.pow_zero, Nat.one_mul, Nat.one_mul]
    show d + B * lv B l + x = _
    omega
  | x :: l, j + 1, d, h => by
    have ih := lv_set (B := B) (l := l) (j := j) (d := d) (by simpa using h)
    rw [List.set_cons_succ, lv_cons, lv_cons, Nat.pow_succ]
    have e : (x :: l).getD (j + 1) 0 = l.getD j 0 := rfl
    rw [e, Nat.mul_comm (B ^ j) B, Nat.mul_assoc, Nat.mul_assoc]
    have := congrArg (fun v => B * v) ih
    simp only [Nat.mul_add] at this
    omega
theorem all_set {B : Nat} {l : List Nat} {j d : Nat} (h : ∀ x ∈ l, x < B) (hd : d < B) : ∀ x ∈ l.set j d, x < B := by
  intro x hx
  rcases List.mem_or_eq_of_mem_set hx with h1 | h1
  · exact h x h1
  · rw [h1]; exact hd
theorem set_getD_ne {l : List Nat} {j k d : Nat} (h : j ≠ k) : (l.set j d).getD k 0 = l.getD k 0 := by
  simp [List.getD, h]
/-- one column of a product -/
theorem mul_col {B S w c t k i : Nat} {O Y : List Nat} (hi : i + k < O.length) (h : lv B O + c * B ^ (i + k) = S + w * B ^ i * lv B (Y.take k)) (ht : t = c + (w * Y.getD k 0 + O.getD (i + k) 0)) :
    lv B (O.set (i + k) (t % B)) + t / B * B ^ (i + (k + 1)) = S + w * B ^ i * lv B (Y.take (k + 1)) := by
  have h1 := lv_set (B := B) (l := O) (j := i + k) (d := t % B) hi
  rw [lv_take_step, Nat.mul_add]
  have e1 : w * B ^ i * (B ^ k * Y.getD k 0) = B ^ (i + k) * (w * Y.getD k 0) := by
    rw [Nat.pow_add]; simp only [Nat.mul_comm, Nat.mul_left_comm, Nat.mul_assoc]
  have e2 : t / B * B ^ (i + (k + 1)) = B ^ (i + k) * (B * (t / B)) := by
    rw [← Nat.add_assoc, Nat.pow_succ]; simp only [Nat.mul_comm, Nat.mul_left_comm, Nat.mul_assoc]
  have e3 : B ^ (i + k) * (t % B) + B ^ (i + k) * (B * (t / B)) = B ^ (i + k) * t := by rw [← Nat.mul_add, Nat.mod_add_div]
  have e4 : B ^ (i + k) * t = B ^ (i + k) * c + (B ^ (i + k) * (w * Y.getD k 0) + B ^ (i + k) * O.getD (i + k) 0) := by rw [ht, Nat.mul_add, Nat.mul_add]
  rw [e1, e2]
  rw [Nat.mul_comm c] at h
  omega

/-! ### a product taken away, a number put back -/
theorem take_step {B o i d x low b c c' b' P : Nat} {U : List Nat} {Y : List Nat} (hi : o + i < U.length)
    (h : lv B U + B ^ o * (P * lv B (Y.take i)) = x + (c + b) * B ^ (o + i)) (h1 : d + low + b = U.getD (o + i) 0 + b' * B) (h2 : low + c' * B = c + P * Y.getD i 0) :
    lv B (U.set (o + i) d) + B ^ o * (P * lv B (Y.take (i + 1))) = x + (c' + b') * B ^ (o + (i + 1)) := by
  have hs := lv_set (B := B) (l := U) (j := o + i) (d := d) hi
  rw [lv_take_step, Nat.mul_add, Nat.mul_add]
  have e1 : B ^ o * (P * (B ^ i * Y.getD i 0)) = B ^ (o + i) * (P * Y.getD i 0) := by
    rw [Nat.pow_add]; simp only [Nat.mul_left_comm, Nat.mul_assoc]
  have e2 : (c' + b') * B ^ (o + (i + 1)) = B ^ (o + i) * (c' * B) + B ^ (o + i) * (b' * B) := by
    rw [← Nat.add_assoc, Nat.pow_succ, ← Nat.mul_add, ← Nat.add_mul]; simp only [Nat.mul_comm, Nat.mul_left_comm, Nat.mul_assoc]
  have g1 := congrArg (fun v => B ^ (o + i) * v) h1
  have g2 := congrArg (fun v => B ^ (o + i) * v) h2
  simp only [Nat.mul_add] at g1 g2
  rw [Nat.add_mul, Nat.mul_comm c, Nat.mul_comm b] at h
  rw [e1, e2]
  omega
theorem put_step {B o i d c c' : Nat} {U Y : List Nat} {x : Nat} (hi : o + i < U.length)
    (h : lv B U + c * B ^ (o + i) = x + B ^ o * lv B (Y.take i)) (h1 : d + c' * B = c + (U.getD (o + i) 0 + Y.getD i 0)) :
    lv B (U.set (o + i) d) + c' * B ^ (o + (i + 1)) = x + B ^ o * lv B (Y.take (i + 1)) := by
  have hs := lv_set (B := B) (l := U) (j := o + i) (d := d) hi
  rw [lv_take_step, Nat.mul_add]
  have e1 : B ^ o * (B ^ i * Y.getD i 0) = B ^ (o + i) * Y.getD i 0 := by rw [Nat.pow_add, Nat.mul_assoc]
  have e2 : c' * B ^ (o + (i + 1)) = B ^ (o + i) * (c' * B) := by
    rw [← Nat.add_assoc, Nat.pow_succ]; simp only [Nat.mul_comm, Nat.mul_left_comm, Nat.mul_assoc]
  have g1 := congrArg (fun v => B ^ (o + i) * v) h1
  simp only [Nat.mul_add] at g1
  rw [Nat.mul_comm c] at h
  rw [e1, e2]
  omega
theorem take_set_ge {l : List Nat} {o j d : Nat} (h : o ≤ j) : (l.set j d).take o = l.take o := by
  rw [List.take_set, List.set_eq_of_length_le (by simp; omega)]
theorem lv_split (B : Nat) (l : List Nat) (o : Nat) (h : o ≤ l.length) : lv B l = lv B (l.take o) + B ^ o * lv B (l.drop o) := by
  conv => lhs; rw [← List.take_append_drop o l]
  rw [lv_append]
  simp [Nat.min_eq_left h]

end Go.Proofs.YtjhoddlhdoiifaaGreatDoor.num
