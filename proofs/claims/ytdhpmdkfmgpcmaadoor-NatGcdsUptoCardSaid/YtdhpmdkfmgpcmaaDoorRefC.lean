/- Walks: gantref1.Plus, Less, Small. -/
import Derived.Test.YtdhpmdkfmgpcmaaDoorRefB
namespace Go.Proofs.YtdhpmdkfmgpcmaaDoor.refC
open Go.RowKit num mem natA natB natC natD refA refB

theorem dig_ge {a : ByteArray} {i : Nat} (h : a.size ≤ i) : dig a i = 0 := by
  unfold dig
  have h1 := nv_lt a
  have h2 : 256 ^ a.size ≤ 256 ^ i := Nat.pow_le_pow_right (by omega) h
  rw [Nat.div_eq_of_lt (by omega)]
/-- the digits of a string -/
def digN (a : ByteArray) (N : Nat) : List Nat := dg 256 (nv a) N
theorem lv_digN {a : ByteArray} {N : Nat} (h : a.size ≤ N) : lv 256 (digN a N) = nv a :=
  lv_dg_of_lt (Nat.lt_of_lt_of_le (nv_lt a) (Nat.pow_le_pow_right (by omega) h))
/-- column by column sums -/
def addN (a b : ByteArray) (N : Nat) : List Nat := (List.range N).map fun i => dig a i + dig b i
theorem lv_map_add (B : Nat) (f g : Nat → Nat) (N : Nat) : lv B ((List.range N).map fun i => f i + g i) = lv B ((List.range N).map f) + lv B ((List.range N).map g) := by
  induction N with
  | zero => rfl
  | succ N ih =>
    rw [List.range_succ, List.map_append, List.map_append, List.map_append]
    simp only [List.map_cons, List.map_nil, lv_snoc, List.length_map, List.length_range, ih, Nat.mul_add]
    omega
theorem lv_addN {a b : ByteArray} {N : Nat} (ha : a.size ≤ N) (hb : b.size ≤ N) : lv 256 (addN a b N) = nv a + nv b := by
  unfold addN
  rw [lv_map_add]
  have h1 := lv_digN ha
  have h2 := lv_digN hb
  unfold digN dg at h1 h2
  unfold dig
  rw [h1, h2]
theorem map_range_take_snoc (f : Nat → Nat) {k : Nat} (l : List Nat) (hl : l = (List.range k).map f) : l ++ [f k] = (List.range (k + 1)).map f := by
  subst hl; rw [List.range_succ, List.map_append]; rfl

theorem Plus_any (a b : ByteArray) (w : World) (ha : a.size ≤ 35184372088832) (hb : b.size ≤ 35184372088832) :
    Calls Tryd.prog 114 #[.string a, .string b] w fun e w' => e = .returned (.string (enc (nv a + nv b))) ∧ Below w.heap.size w w' := by
  obtain ⟨N, hN⟩ : ∃ N : Nat, max (a.size : Int) (b.size : Int) = (N : Int) := ⟨max a.size b.size, by omega⟩
  have hN1 : N ≤ 35184372088832 := by omega
  have Ha := Lib.hid (show a.size ≤ N by omega)
  have Hb := Lib.hid (show b.size ≤ N by omega)
  go_enter Tryd.func114, Tryd.ntmps114
  go_wp2_with (first | (at_make; refine wpList_make_row _ rfl _ _ _ rfl 3 _ 8 Tryd.underlying95 refA.info3 rfl _ _ _ _ N rfl rfl (by omega) (by omega) (by omega) (by omega) ?_))
  intro w1 hR hg hsz
  have hB0 : Below w.heap.size w w1 := (Below.refl _ _).grown hg (Nat.le_refl _) (by simp)
  have hR0 : Row w1 w.heap.size 3 (nums .i64 ((List.range 0).map (fun i => dig a i + dig b i) ++ List.replicate (N - 0) 0)) := by simpa [nums] using hR
  clear hR hg hN
  go_wp2
  go_loopw [15] (fun i wr => ∃ k : Nat, k ≤ N ∧ i = .int .i64 k ∧ Row wr w.heap.size 3 (nums .i64 ((List.range k).map (fun i => dig a i + dig b i) ++ List.replicate (N - k) 0)) ∧ Below w.heap.size w wr) (fun i _ => N - (intOf i).toNat)
  case atStart => exact ⟨0, Nat.zero_le _, rfl, hR0, hB0⟩
  case round =>
    obtain ⟨k, hk, rfl, hRk, hBk⟩ := hrel
    clear hR0 hB0
    by_cases hlt : k < N
    · have hcx := hRk.int (i := k) (by simp; omega)
      have hfx := hRk.frozen k
      have hx := dig_lt a k
      have hy := dig_lt b k
      obtain ⟨x, hxx⟩ : ∃ x, x = dig a k := ⟨_, rfl⟩
      obtain ⟨y, hyy⟩ : ∃ y, y = dig b k := ⟨_, rfl⟩
      rw [← hxx] at hx
      rw [← hyy] at hy
      have Hx := Lib.hid hxx
      have Hy := Lib.hid hyy
      clear hxx hyy
      go_wp2_with fail
      refine (digit_any a k _ (by omega) (by omega)).mono ?_
      rintro e w' ⟨rfl, rfl⟩
      rw [← Hx.out]
      go_wp2_with fail
      refine (digit_any b k _ (by omega) (by omega)).mono ?_
      rintro e w' ⟨rfl, rfl⟩
      rw [← Hy.out]
      go_wp2_with fail
      go_roundw
      case rel =>
        have hS := hRk.int_set k (x + y)
        rw [append_zeros_set (by simp) hlt, Hx.out, Hy.out, map_range_take_snoc (fun i => dig a i + dig b i) _ rfl, ← Hx.out, ← Hy.out] at hS
        exact ⟨k + 1, by omega, by go_num, hS, hBk.setCell (Nat.le_refl _) _⟩
      case measure => simp [intOf] <;> omega
    · obtain rfl : k = N := by omega
      have hP := hRk.pre
      rw [Nat.sub_self, List.replicate_zero, List.append_nil] at hP
      rw [show (nums .i64 ((List.range k).map fun i => dig a i + dig b i)).length = k by simp [nums]] at hP
      have hnum := number_any w.heap.size k (addN a b k) wr hP (by
        intro d hd
        simp only [addN, List.mem_map] at hd
        obtain ⟨j, _, rfl⟩ := hd
        have := dig_lt a j; have := dig_lt b j; omega) (by simp [addN]; omega)
      rw [show (addN a b k).length = k by simp [addN], lv_addN Ha.out Hb.out] at hnum
      go_wp2_with fail
      refine hnum.mono ?_
      rintro e w' ⟨rfl, hb'⟩
      clear hnum
      go_wp2_with fail
      go_ret
      exact ⟨rfl, hBk.trans (hb'.mono hBk.size)⟩

end Go.Proofs.YtdhpmdkfmgpcmaaDoor.refC
