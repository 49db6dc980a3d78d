/- Walk: nat.left. -/
import Derived.Test.YtnnffjolkgomhaaDoorNatF
namespace Go.Proofs.YtnnffjolkgomhaaDoor.natG
open Go.RowKit num mem natA natB natC natD natE natF

theorem left_bits {c x s : Nat} (hc : c < 2 ^ s) (hx : x < 4294967296) (hs : s ≤ 31) : ∃ d c' : Nat,
    bits .or .u32 (c : Int) (IntKind.u64.wrap ((x : Int) * 2 ^ s) % 4294967296) = (d : Int) ∧ IntKind.u64.wrap ((x : Int) * 2 ^ s) / 4294967296 % 4294967296 = (c' : Int) ∧ d < 4294967296 ∧ c' < 2 ^ s ∧ d + c' * 4294967296 = c + x * 2 ^ s := by
  have hp : 2 ^ s ≤ 2 ^ 31 := Nat.pow_le_pow_right (by omega) hs
  have hp31 : (2 : Nat) ^ 31 = 2147483648 := by decide
  have hm : x * 2 ^ s ≤ 4294967295 * 2147483648 := Nat.mul_le_mul (by omega) (by omega)
  have e : IntKind.u64.wrap ((x : Int) * 2 ^ s) = ((x * 2 ^ s : Nat) : Int) := by
    have : ((x : Int) * 2 ^ s) = ((x * 2 ^ s : Nat) : Int) := by simp
    rw [this, IntKind.wrap_u64]; omega
  rw [e]
  have h32 : (4294967296 : Nat) = 2 ^ (32 - s) * 2 ^ s := by
    rw [← Nat.pow_add, show 32 - s + s = 32 by omega]
  have hq : x * 2 ^ s % 4294967296 = x % 2 ^ (32 - s) * 2 ^ s := by
    conv => lhs; rw [h32]
    exact Nat.mul_mod_mul_right _ _ _
  have hql : x % 2 ^ (32 - s) < 2 ^ (32 - s) := Nat.mod_lt _ (Nat.pow_pos (by omega))
  have hd : x % 2 ^ (32 - s) * 2 ^ s + c < 4294967296 := by
    have : (x % 2 ^ (32 - s) + 1) * 2 ^ s ≤ 2 ^ (32 - s) * 2 ^ s := Nat.mul_le_mul_right _ hql
    rw [← h32, Nat.add_mul] at this
    omega
  have hor : c ||| x % 2 ^ (32 - s) * 2 ^ s = x % 2 ^ (32 - s) * 2 ^ s + c := by rw [Nat.or_comm]; exact or_shift s _ _ hc
  refine ⟨x * 2 ^ s % 4294967296 + c, x * 2 ^ s / 4294967296, ?_, by omega, by omega, ?_, by omega⟩
  · have : ((x * 2 ^ s : Nat) : Int) % 4294967296 = ((x * 2 ^ s % 4294967296 : Nat) : Int) := by omega
    rw [this, u32_or_nat _ _ (by omega) (by omega), hq, hor]
  · rw [Nat.div_lt_iff_lt_mul (by omega), Nat.mul_comm]
    exact Nat.mul_lt_mul_of_pos_left hx (Nat.pow_pos (by omega))
theorem left_list {Z : List Nat} {k N c d c' : Nat} (hZ : Z.length = k) (hk : k < N) : (((Z ++ [c]) ++ List.replicate (N - k) 0).set k d).set (k + 1) c' = ((Z ++ [d]) ++ [c']) ++ List.replicate (N - (k + 1)) 0 := by
  have e : ((Z ++ [c]) ++ List.replicate (N - k) 0).set k d = (Z ++ [d]) ++ List.replicate (N - k) 0 := by
    rw [List.append_assoc, List.set_append_right _ _ (by omega), show k - Z.length = 0 by omega, List.append_assoc]
    rfl
  rw [e]
  have := append_zeros_set (Z := Z ++ [d]) (k := k + 1) (N := N + 1) (n := c') (by simp [hZ]) (by omega)
  rwa [show N + 1 - (k + 1) = N - k by omega, show N + 1 - (k + 1 + 1) = N - (k + 1) by omega] at this
theorem left_step {B S c d c' k : Nat} {Z X : List Nat} (hZ : Z.length = k) (h : lv B Z + c * B ^ k = lv B (X.take k) * S) (hs : d + c' * B = c + X.getD k 0 * S) :
    lv B (Z ++ [d]) + c' * B ^ (k + 1) = lv B (X.take (k + 1)) * S := by
  rw [lv_snoc, lv_take_step, hZ, Nat.pow_succ, Nat.add_mul, ← h]
  have g := congrArg (fun v => B ^ k * v) hs
  simp only [Nat.mul_add] at g
  rw [show c' * (B ^ k * B) = B ^ k * (c' * B) by rw [Nat.mul_left_comm], Nat.mul_assoc (B ^ k), Nat.mul_comm c]
  omega

set_option maxHeartbeats 1000000 in
theorem left_any (bx cx : Nat) (X : List Nat) (s : Nat) (w : World) (hX : Row w bx 168 (nums .u32 X)) (lX : ∀ d ∈ X, d < 4294967296) (hs : s ≤ 31) (hmax : X.length ≤ 35184372088832) :
    Calls Tryd.prog 206 #[.slice (some ⟨bx, 0, none⟩) X.length cx, .int .i64 s] w fun e w' => ∃ (b : Nat) (Z : List Nat), e = .returned (.slice (some ⟨b, 0, none⟩) (X.length + 1) (X.length + 1)) ∧ w.heap.size ≤ b ∧
      Z.length = X.length + 1 ∧ (∀ d ∈ Z, d < 4294967296) ∧ lv 4294967296 Z = lv 4294967296 X * 2 ^ s ∧ Row w' b 168 (nums .u32 Z) ∧ Below w.heap.size w w' := by
  have HX := Lib.hid lX
  have hbx := hX.lt
  clear lX
  go_enter Tryd.func206, Tryd.ntmps206
  go_wp2_with (first | (at_make; refine wpList_make_row _ rfl _ _ _ rfl 168 _ 4 Tryd.underlying46 info168 rfl _ _ _ _ (X.length + 1) rfl rfl (by omega) (by omega) (by omega) (by omega) ?_))
  intro w1 hR1 hg1 hsz1
  have hX1 := hX.grown hg1 (by simp)
  have hB1 : Below w.heap.size w w1 := (Below.refl _ _).grown hg1 (Nat.le_refl _) (by simp)
  have hR0 : Row w1 w.heap.size 168 (nums .u32 (([] ++ [0]) ++ List.replicate (X.length - 0) 0)) := by
    have e : ([] ++ [0]) ++ List.replicate (X.length - 0) 0 = List.replicate (X.length + 1) 0 := by simp [List.replicate_succ]
    rw [e]; simpa [nums] using hR1
  clear hR1 hg1 hX
  go_wp2
  go_loopw [15] (fun i wr => ∃ (k c : Nat) (Z : List Nat), k ≤ X.length ∧ i = .int .i64 k ∧ Hid (c < 2 ^ s) ∧ Hid (Z.length = k) ∧ Hid (∀ d ∈ Z, d < 4294967296) ∧
      Hid (lv 4294967296 Z + c * 4294967296 ^ k = lv 4294967296 (X.take k) * 2 ^ s) ∧ Row wr w.heap.size 168 (nums .u32 ((Z ++ [c]) ++ List.replicate (X.length - k) 0)) ∧ w1.grownBy wr (some w.heap.size)) (fun i _ => X.length - (intOf i).toNat)
  case atStart => exact ⟨0, 0, [], Nat.zero_le _, rfl, Nat.pow_pos (by omega), rfl, (by intro d hd; cases hd), by simp [Hid, lv], hR0, World.grownBy.refl _ _⟩
  case round =>
    obtain ⟨k, c, Z, hk, rfl, hc, hZl, hZ, hlv, hRk, hgk⟩ := hrel
    clear hR0
    by_cases hlt : k < X.length
    · obtain ⟨x, hx⟩ : ∃ x : Nat, x = X.getD k 0 := ⟨_, rfl⟩
      have hxl : x < 4294967296 := by rw [hx]; exact getD_lt (by omega) HX.out k
      have hcx := (hX1.grown hgk (by intro e; have := Option.some.inj e; omega)).int (i := k) hlt
      rw [← hx] at hcx
      have c1 := hRk.int (i := k) (by have := hZl.out; simp; omega)
      have c2 := hRk.int (i := k + 1) (by have := hZl.out; simp; omega)
      have f1 := hRk.frozen k
      have f2 := hRk.frozen (k + 1)
      have e1 : ((Z ++ [c]) ++ List.replicate (X.length - k) 0).getD k 0 = c := by
        have := hZl.out
        simp [List.getD, this]
      rw [e1] at c1
      obtain ⟨d, c', e2, e3, hd, hc', h5⟩ := left_bits hc.out hxl hs
      have hst := Lib.hid (left_step (B := 4294967296) (X := X) (d := d) (c' := c') hZl.out hlv.out (by rw [← hx]; exact h5))
      have E2 := Lib.hid e2
      have E3 := Lib.hid e3
      have Hc' := Lib.hid hc'
      clear hx e1 e2 e3 h5 hc'
      go_wp2
      go_roundw
      case rel =>
        rw [E2.out, E3.out]
        have hR' := (hRk.int_set k d).int_set (k + 1) c'
        rw [left_list hZl.out hlt] at hR'
        exact ⟨k + 1, c', Z ++ [d], by omega, by go_num, Hc'.out, by have := hZl.out; simp [Hid, this], all_snoc hZ.out hd, hst.out, hR', grown_set (grown_set hgk _ _) _ _⟩
      case measure => simp [intOf] <;> omega
    · obtain rfl : k = X.length := by omega
      go_wp2
      go_ret
      rw [Nat.sub_self, List.replicate_zero, List.append_nil] at hRk
      have hcW : c < 4294967296 := by
        have h1 := hc.out
        have h2 : 2 ^ s ≤ 2 ^ 31 := Nat.pow_le_pow_right (by omega) hs
        have h3 : (2 : Nat) ^ 31 = 2147483648 := by decide
        omega
      refine ⟨w.heap.size, Z ++ [c], rfl, Nat.le_refl _, by have := hZl.out; simp [this], all_snoc hZ.out hcW, ?_, hRk, hB1.grown hgk hB1.size (by intro j hj; have := Option.some.inj hj; omega)⟩
      rw [lv_snoc, hZl.out, Nat.mul_comm]
      have h1 := hlv.out
      rw [lv_take_of_le _ _ (Nat.le_refl _)] at h1
      exact h1

end Go.Proofs.YtnnffjolkgomhaaDoor.natG
