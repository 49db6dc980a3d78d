/- Walk: gantref1.halved. -/
import Derived.Test.YtdhpmdkfmgpcmaaDoorRefH
namespace Go.Proofs.YtdhpmdkfmgpcmaaDoor.refI
open Go.RowKit num mem natA natB natC natD refA refB refC refD refE refF

theorem half_dig (n i : Nat) : n / 2 / 256 ^ i % 256 = n / 256 ^ i % 256 / 2 + n / 256 ^ (i + 1) % 256 % 2 * 128 := by
  rw [Nat.div_div_eq_div_mul, Nat.mul_comm 2, ← Nat.div_div_eq_div_mul, Nat.pow_succ, ← Nat.div_div_eq_div_mul]
  generalize n / 256 ^ i = x
  omega
/-- the digits of a half -/
def halfN (a : ByteArray) (N : Nat) : List Nat := (List.range N).map fun i => dig a i / 2 + dig a (i + 1) % 2 * 128
theorem lv_halfN {a : ByteArray} {N : Nat} (h : a.size ≤ N) : lv 256 (halfN a N) = nv a / 2 := by
  have e : halfN a N = dg 256 (nv a / 2) N := by
    unfold halfN dg dig
    refine List.map_congr_left fun i _ => ?_
    exact (half_dig (nv a) i).symm
  rw [e]
  have h1 := nv_lt a
  have h2 : 256 ^ a.size ≤ 256 ^ N := Nat.pow_le_pow_right (by omega) h
  exact lv_dg_of_lt (by omega)
theorem dig_int (x y : Nat) : ((x : Int) / 2 + (y : Int) % 2 * 128) = ((x / 2 + y % 2 * 128 : Nat) : Int) := by omega

theorem halved_any (a : ByteArray) (w : World) (ha : a.size ≤ 35184372088832) :
    Calls Tryd.prog 116 #[.string a] w fun e w' => e = .returned (.string (enc (nv a / 2))) ∧ Below w.heap.size w w' := by
  obtain ⟨N, hN⟩ : ∃ N : Nat, (a.size : Int) = (N : Int) := ⟨a.size, rfl⟩
  have hN1 : N ≤ 35184372088832 := by omega
  have Ha := Lib.hid (show a.size ≤ N by omega)
  go_enter Tryd.func116, Tryd.ntmps116
  go_wp2_with (first | (at_make; refine wpList_make_row _ rfl _ _ _ rfl 3 _ 8 Tryd.underlying95 refA.info3 rfl _ _ _ _ N rfl rfl (by omega) (by omega) (by omega) (by omega) ?_))
  intro w1 hR hg hsz
  have hB0 : Below w.heap.size w w1 := (Below.refl _ _).grown hg (Nat.le_refl _) (by simp)
  have hR0 : Row w1 w.heap.size 3 (nums .i64 ((List.range 0).map (fun i => dig a i / 2 + dig a (i + 1) % 2 * 128) ++ List.replicate (N - 0) 0)) := by simpa [nums] using hR
  clear hR hg hN
  go_wp2
  go_loopw [10] (fun i wr => ∃ k : Nat, k ≤ N ∧ i = .int .i64 k ∧ Row wr w.heap.size 3 (nums .i64 ((List.range k).map (fun i => dig a i / 2 + dig a (i + 1) % 2 * 128) ++ List.replicate (N - k) 0)) ∧ Below w.heap.size w wr) (fun i _ => N - (intOf i).toNat)
  case atStart => exact ⟨0, Nat.zero_le _, rfl, hR0, hB0⟩
  case round =>
    obtain ⟨k, hk, rfl, hRk, hBk⟩ := hrel
    clear hR0 hB0
    by_cases hlt : k < N
    · have hcx := hRk.int (i := k) (by simp; omega)
      have hfx := hRk.frozen k
      have hx := dig_lt a k
      have hy := dig_lt a (k + 1)
      obtain ⟨x, hxx⟩ : ∃ x, x = dig a k := ⟨_, rfl⟩
      obtain ⟨y, hyy⟩ : ∃ y, y = dig a (k + 1) := ⟨_, rfl⟩
      rw [← hxx] at hx
      rw [← hyy] at hy
      have Hx := Lib.hid hxx
      have Hy := Lib.hid hyy
      clear hxx hyy
      go_wp2_with fail
      refine (digit_any a k _ (by omega) (by omega)).mono ?_
      rintro e w' ⟨rfl, rfl⟩
      rw [← Hx.out]
      go_wp2_with fail
      rw [show ((k : Int) + 1) = ((k + 1 : Nat) : Int) by omega]
      refine (digit_any a (k + 1) _ (by omega) (by omega)).mono ?_
      rintro e w' ⟨rfl, rfl⟩
      rw [← Hy.out]
      go_wp2_with fail
      rw [dig_int]
      go_roundw
      case rel =>
        have hS := hRk.int_set k (x / 2 + y % 2 * 128)
        rw [append_zeros_set (by simp) hlt, Hx.out, Hy.out, map_range_take_snoc (fun i => dig a i / 2 + dig a (i + 1) % 2 * 128) _ rfl, ← Hx.out, ← Hy.out] at hS
        exact ⟨k + 1, by omega, by go_num, hS, hBk.setCell (Nat.le_refl _) _⟩
      case measure => simp [intOf] <;> omega
    · obtain rfl : k = N := by omega
      have hP := hRk.pre
      rw [Nat.sub_self, List.replicate_zero, List.append_nil] at hP
      rw [show (nums .i64 ((List.range k).map fun i => dig a i / 2 + dig a (i + 1) % 2 * 128)).length = k by simp [nums]] at hP
      have hnum := number_any w.heap.size k (halfN a k) wr hP (by
        intro d hd
        simp only [halfN, List.mem_map] at hd
        obtain ⟨j, _, rfl⟩ := hd
        have := dig_lt a j; have := dig_lt a (j + 1); omega) (by simp [halfN]; omega)
      rw [show (halfN a k).length = k by simp [halfN], lv_halfN Ha.out] at hnum
      go_wp2_with fail
      refine hnum.mono ?_
      rintro e w' ⟨rfl, hb'⟩
      clear hnum
      go_wp2_with fail
      go_ret
      exact ⟨rfl, hBk.trans (hb'.mono hBk.size)⟩

end Go.Proofs.YtdhpmdkfmgpcmaaDoor.refI
