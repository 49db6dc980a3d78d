/- Plain arithmetic, no program: one digit of a quotient from the leading digits. -/
import Derived.Test.YtdhpmdkfmgpcmaaDoorDig2
namespace Go.Proofs.YtdhpmdkfmgpcmaaDoor.num

section
variable {A W vl vs vt sl u2 top q d rest : Nat}
theorem kn_le (_hA : 0 < A) (hu2 : u2 < W) (hsl : sl < A) (h : q * (vl + A * (vs + W * vt)) ≤ sl + A * (u2 + W * top)) : q * vt ≤ top := by
  apply Nat.le_of_not_lt
  intro hlt
  have h1 : A * (W * (top + 1)) ≤ A * (W * (q * vt)) := Nat.mul_le_mul_left _ (Nat.mul_le_mul_left _ hlt)
  have h2 : q * (vl + A * (vs + W * vt)) = q * vl + A * (q * vs) + A * (W * (q * vt)) := by
    simp only [Nat.mul_add, Nat.mul_comm, Nat.mul_left_comm]; omega
  have h3 : A * (u2 + 1) ≤ A * W := Nat.mul_le_mul_left _ hu2
  simp only [Nat.mul_add, Nat.mul_one] at h h1 h3
  simp only [Nat.mul_add] at h2
  omega
theorem kn_big (hsl : sl < A) (hd : d * vt + rest = top) (ht : rest * W + u2 < d * vs) : sl + A * (u2 + W * top) < d * (vl + A * (vs + W * vt)) := by
  have h2 : d * (vl + A * (vs + W * vt)) = d * vl + A * (d * vs) + A * (W * (d * vt)) := by
    simp only [Nat.mul_add, Nat.mul_comm, Nat.mul_left_comm]; omega
  have h3 : A * (rest * W + u2 + 1) ≤ A * (d * vs) := Nat.mul_le_mul_left _ ht
  rw [h2, ← hd]
  simp only [Nat.mul_add, Nat.mul_one] at h3 ⊢
  rw [show A * (rest * W) = A * (W * rest) by rw [Nat.mul_comm rest]] at h3
  omega
theorem kn_near (hvl : vl < A) (hd : d * vt + rest = top) (ht : d * vs ≤ rest * W + u2) (hdW : d ≤ W - 1) (hvt : 1 ≤ vt) (h0 : 0 < d) : (d - 1) * (vl + A * (vs + W * vt)) ≤ sl + A * (u2 + W * top) := by
  obtain ⟨e, rfl⟩ : ∃ e, d = e + 1 := ⟨d - 1, by omega⟩
  rw [Nat.add_sub_cancel]
  have h1 : e * (vl + A * (vs + W * vt)) ≤ e * (A + A * (vs + W * vt)) := Nat.mul_le_mul_left _ (by omega)
  have h2 : A * ((e + 1) * vs) ≤ A * (rest * W + u2) := Nat.mul_le_mul_left _ ht
  have h4 : W * 1 ≤ W * vt := Nat.mul_le_mul_left _ hvt
  have h3 : A * e ≤ A * (vs + W * vt) := Nat.mul_le_mul_left _ (by omega)
  have h5 : A * (u2 + W * top) = A * u2 + A * (W * ((e + 1) * vt)) + A * (rest * W) := by
    rw [← hd]; simp only [Nat.mul_add, Nat.mul_comm W rest]; omega
  have h6 : e * (A + A * (vs + W * vt)) = A * e + A * (e * vs) + A * (W * (e * vt)) := by
    simp only [Nat.mul_add, Nat.mul_comm, Nat.mul_left_comm]; omega
  have h7 : A * ((e + 1) * vs) = A * (e * vs) + A * vs := by rw [Nat.add_mul, Nat.one_mul, Nat.mul_add]
  have h8 : A * (W * ((e + 1) * vt)) = A * (W * (e * vt)) + A * (W * vt) := by rw [Nat.add_mul, Nat.one_mul, Nat.mul_add, Nat.mul_add]
  rw [Nat.mul_add] at h2 h3
  omega
theorem kn_top (_hA : 0 < A) (hvs : vs < W) (hvl : vl < A) {u0 u1 : Nat} (htop : top = u1 + W * u0) (h : sl + A * (u2 + W * top) < W * (vl + A * (vs + W * vt))) : u0 ≤ vt := by
  apply Nat.le_of_not_lt
  intro hlt
  have h1 : A * (W * (W * (vt + 1))) ≤ A * (W * (W * u0)) := Nat.mul_le_mul_left _ (Nat.mul_le_mul_left _ (Nat.mul_le_mul_left _ hlt))
  have h2 : W * vl ≤ W * A := Nat.mul_le_mul_left _ (by omega)
  have h3 : A * (W * (vs + 1)) ≤ A * (W * W) := Nat.mul_le_mul_left _ (Nat.mul_le_mul_left _ hvs)
  rw [htop] at h
  have h4 : W * (vl + A * (vs + W * vt)) = W * vl + A * (W * vs) + A * (W * (W * vt)) := by
    simp only [Nat.mul_add, Nat.mul_left_comm]; omega
  rw [h4] at h
  simp only [Nat.mul_add, Nat.mul_one] at h h1 h3
  rw [Nat.mul_comm W A] at h2
  omega
end

/-- the three leading places of a number of n + 1 digits -/
theorem lv_three {B n : Nat} {S : List Nat} (hn : 2 ≤ n) (hS : S.length = n + 1) :
    lv B S = lv B (S.take (n - 2)) + B ^ (n - 2) * (S.getD (n - 2) 0 + B * (S.getD (n - 1) 0 + B * S.getD n 0)) := by
  have h1 := lv_take_succ B S n (by omega)
  have h2 := lv_take_succ B S (n - 1) (by omega)
  have h3 := lv_take_succ B S (n - 2) (by omega)
  rw [show n - 1 + 1 = n by omega] at h2
  rw [show n - 2 + 1 = n - 1 by omega] at h3
  rw [lv_take_of_le B S (by omega)] at h1
  rw [h1, h2, h3]
  have e1 : B ^ n = B ^ (n - 2) * (B * B) := by rw [← Nat.pow_two, ← Nat.pow_add]; congr 1; omega
  have e2 : B ^ (n - 1) = B ^ (n - 2) * B := by rw [← Nat.pow_succ]; congr 1; omega
  rw [e1, e2]
  simp only [Nat.mul_add, Nat.mul_assoc]
  omega
theorem lv_two {B n : Nat} {V : List Nat} (hn : 2 ≤ n) (hV : V.length = n) :
    lv B V = lv B (V.take (n - 2)) + B ^ (n - 2) * (V.getD (n - 2) 0 + B * V.getD (n - 1) 0) := by
  have h2 := lv_take_succ B V (n - 1) (by omega)
  have h3 := lv_take_succ B V (n - 2) (by omega)
  rw [show n - 1 + 1 = n by omega] at h2
  rw [show n - 2 + 1 = n - 1 by omega] at h3
  rw [lv_take_of_le B V (by omega)] at h2
  rw [h2, h3]
  have e2 : B ^ (n - 1) = B ^ (n - 2) * B := by rw [← Nat.pow_succ]; congr 1; omega
  rw [e2]
  simp only [Nat.mul_add, Nat.mul_assoc]
  omega
theorem lv_take_lt {B : Nat} {l : List Nat} (h : ∀ d ∈ l, d < B) {k : Nat} (hk : k ≤ l.length) : lv B (l.take k) < B ^ k := by
  have := lv_lt (B := B) (l := l.take k) (fun d hd => h d (List.mem_of_mem_take hd))
  rwa [List.length_take, Nat.min_eq_left hk] at this

theorem norm_list {B S n y : Nat} {Vf Y : List Nat} (hB : 1 < B) (hn : 1 ≤ n) (hVl : Vf.length = n + 1) (hY : ∀ d ∈ Y, d < B) (hYl : Y.length = n) (hy : y = Y.getD (n - 1) 0) (h0 : 0 < y) (hS : (y + 1) * S ≤ B) (hS0 : 0 < S)
    (hV : ∀ d ∈ Vf, d < B) (hlv : lv B Vf = lv B Y * S) : (Vf.take n).length = n ∧ lv B (Vf.take n) = lv B Y * S ∧ 1 ≤ (Vf.take n).getD (n - 1) 0 := by
  have hl : (Vf.take n).length = n := by simp [hVl]
  have hYt := lv_take_succ B Y (n - 1) (by omega)
  rw [show n - 1 + 1 = n by omega, lv_take_of_le B Y (by omega), ← hy] at hYt
  have hYlo := lv_take_lt (k := n - 1) hY (by omega)
  have hp : 0 < B ^ (n - 1) := Nat.pow_pos (by omega)
  have e : B ^ n = B ^ (n - 1) * B := by rw [← Nat.pow_succ]; congr 1; omega
  have hup : lv B Y * S < B ^ n := by
    have h1 : lv B Y < B ^ (n - 1) * (y + 1) := by rw [Nat.mul_add, Nat.mul_one]; omega
    have h2 : lv B Y * S < B ^ (n - 1) * (y + 1) * S := Nat.mul_lt_mul_of_pos_right h1 hS0
    have h3 : B ^ (n - 1) * ((y + 1) * S) ≤ B ^ (n - 1) * B := Nat.mul_le_mul_left _ hS
    rw [Nat.mul_assoc] at h2
    omega
  have hV1 := lv_take_succ B Vf n (by omega)
  rw [lv_take_of_le B Vf (by omega), hlv] at hV1
  have hz : Vf.getD n 0 = 0 := by
    rcases Nat.eq_zero_or_pos (Vf.getD n 0) with h | h
    · exact h
    · have : B ^ n * 1 ≤ B ^ n * Vf.getD n 0 := Nat.mul_le_mul_left _ h
      omega
  rw [hz, Nat.mul_zero, Nat.add_zero] at hV1
  refine ⟨hl, hV1.symm, ?_⟩
  have hVt := lv_take_succ B (Vf.take n) (n - 1) (by omega)
  rw [show n - 1 + 1 = n by omega, lv_take_of_le B (Vf.take n) (by omega)] at hVt
  have hlo := lv_take_lt (l := Vf.take n) (k := n - 1) (fun d hd => hV d (List.mem_of_mem_take hd)) (by omega)
  apply Nat.one_le_iff_ne_zero.2
  intro hz'
  rw [hz', Nat.mul_zero, Nat.add_zero, ← hV1] at hVt
  have h1 : B ^ (n - 1) * 1 ≤ B ^ (n - 1) * y := Nat.mul_le_mul_left _ h0
  have h2 : lv B Y * 1 ≤ lv B Y * S := Nat.mul_le_mul_left _ hS0
  omega

end Go.Proofs.YtdhpmdkfmgpcmaaDoor.num
