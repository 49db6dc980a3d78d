/- Plain arithmetic, no program: a product as columns of sums. -/
import Derived.Test.YtdhpmdkfmgpcmaaDoorDig2
namespace Go.Proofs.YtdhpmdkfmgpcmaaDoor.num

theorem append_zeros_getD {Z : List Nat} {k m : Nat} (hZ : Z.length = k) : (Z ++ List.replicate m 0).getD k 0 = 0 := by
  simp only [List.getD, List.getElem?_append_right (show Z.length ≤ k by omega), List.getElem?_replicate]
  split <;> rfl
theorem set_getD_eq {l : List Nat} {j d : Nat} (h : j < l.length) : (l.set j d).getD j 0 = d := by
  simp [List.getD, h]
theorem set_same {l : List Nat} {j : Nat} (h : j < l.length) (h0 : l.getD j 0 = 0) : l.set j 0 = l := by
  apply list_ext_getD (by simp)
  intro i _
  by_cases e : j = i
  · subst e; rw [set_getD_eq h, h0]
  · rw [set_getD_ne e]

def sumTo (f : Nat → Nat) : Nat → Nat
  | 0 => 0
  | n + 1 => sumTo f n + f n
theorem sumTo_shift (f : Nat → Nat) : ∀ n, sumTo f (n + 1) = f 0 + sumTo (fun k => f (k + 1)) n
  | 0 => by simp [sumTo]
  | n + 1 => by
    rw [sumTo, sumTo_shift f n, sumTo]
    omega
theorem sumTo_congr {f g : Nat → Nat} : ∀ n, (∀ k, k < n → f k = g k) → sumTo f n = sumTo g n
  | 0, _ => rfl
  | n + 1, h => by
    rw [sumTo, sumTo, sumTo_congr n (fun k hk => h k (by omega)), h n (by omega)]
theorem sumTo_le {f : Nat → Nat} {M : Nat} : ∀ n, (∀ k, k < n → f k ≤ M) → sumTo f n ≤ n * M
  | 0, _ => by simp [sumTo]
  | n + 1, h => by
    rw [sumTo, Nat.succ_mul]
    have := sumTo_le n (fun k hk => h k (by omega))
    have := h n (by omega)
    omega
theorem sumTo_zero : ∀ n, sumTo (fun _ => 0) n = 0
  | 0 => rfl
  | n + 1 => by rw [sumTo, sumTo_zero n]
/-- column i of a product -/
def conv (f g : Nat → Nat) (i : Nat) : Nat := sumTo (fun k => f k * g (i - k)) (i + 1)
theorem lv_range_succ (B : Nat) (f : Nat → Nat) (N : Nat) : lv B ((List.range (N + 1)).map f) = f 0 + B * lv B ((List.range N).map fun k => f (k + 1)) := by
  rw [List.range_succ_eq_map, List.map_cons, List.map_map, lv_cons]
  rfl
theorem lv_range_add (B : Nat) (f g : Nat → Nat) (N : Nat) : lv B ((List.range N).map fun i => f i + g i) = lv B ((List.range N).map f) + lv B ((List.range N).map g) := by
  induction N generalizing f g with
  | zero => rfl
  | succ N ih => rw [lv_range_succ, lv_range_succ, lv_range_succ, ih, Nat.mul_add]; omega
theorem lv_range_mul (B x : Nat) (g : Nat → Nat) (N : Nat) : lv B ((List.range N).map fun i => x * g i) = x * lv B ((List.range N).map g) := by
  induction N generalizing g with
  | zero => rfl
  | succ N ih => rw [lv_range_succ, lv_range_succ, ih (fun k => g (k + 1)), Nat.mul_add]; simp only [Nat.mul_left_comm]
theorem lv_range_zero (B N : Nat) : lv B ((List.range N).map fun _ => 0) = 0 := by
  induction N with
  | zero => rfl
  | succ N ih => rw [lv_range_succ, ih]; simp
theorem lv_conv (B : Nat) (g : Nat → Nat) (lb vb : Nat) (hg : ∀ N, lb ≤ N → lv B ((List.range N).map g) = vb) :
    ∀ (A : List Nat) (N : Nat), A.length + lb ≤ N → lv B ((List.range N).map fun i => conv (fun k => A.getD k 0) g i) = lv B A * vb
  | [], N, _ => by
    have e : ∀ i, conv (fun k => ([] : List Nat).getD k 0) g i = 0 := by
      intro i
      unfold conv
      rw [sumTo_congr (g := fun _ => 0) _ (fun k _ => by show 0 * _ = 0; rw [Nat.zero_mul]), sumTo_zero]
    rw [show (fun i => conv (fun k => ([] : List Nat).getD k 0) g i) = fun _ => 0 from funext e, lv_range_zero]
    simp [lv]
  | x :: A, N, h => by
    obtain ⟨M, rfl⟩ : ∃ M, N = M + 1 := ⟨N - 1, by simp at h; omega⟩
    have ih := lv_conv B g lb vb hg A M (by simp at h; omega)
    have e : ∀ i, conv (fun k => (x :: A).getD k 0) g i = x * g i + (match i with | 0 => 0 | i + 1 => conv (fun k => A.getD k 0) g i) := by
      intro i
      unfold conv
      rw [sumTo_shift]
      cases i with
      | zero => rfl
      | succ i =>
        show x * g (i + 1) + _ = _
        congr 1
        apply sumTo_congr
        intro k _
        show A.getD k 0 * g (i + 1 - (k + 1)) = A.getD k 0 * g (i - k)
        rw [Nat.add_sub_add_right]
    rw [show (fun i => conv (fun k => (x :: A).getD k 0) g i) = fun i => x * g i + (match i with | 0 => 0 | i + 1 => conv (fun k => A.getD k 0) g i) from funext e,
      lv_range_add B (fun i => x * g i), lv_range_mul, hg _ (by simp at h; omega), lv_range_succ B (fun i => match i with | 0 => 0 | i + 1 => conv (fun k => A.getD k 0) g i), lv_cons]
    show x * vb + (0 + B * lv B ((List.range M).map fun k => conv (fun k => A.getD k 0) g k)) = _
    rw [ih, Nat.zero_add, Nat.add_mul, Nat.mul_assoc]

end Go.Proofs.YtdhpmdkfmgpcmaaDoor.num
