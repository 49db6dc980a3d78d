/- Walk: gantref1.Times. -/
import Derived.Test.YtdhpmdkfmgpcmaaDoorRefD
import Derived.Test.YtdhpmdkfmgpcmaaDoorConv
import Derived.StillTailTactics
namespace Go.Proofs.YtdhpmdkfmgpcmaaDoor.refE
open Go.RowKit num mem natA natB natC natD refA refB refC refD

theorem digN_lv (a : ByteArray) (N : Nat) (h : a.size ≤ N) : lv 256 ((List.range N).map fun i => dig a i) = nv a := lv_digN h
theorem lv_times {a b : ByteArray} {N : Nat} (h : a.size + b.size ≤ N) : lv 256 ((List.range N).map fun i => conv (dig a) (dig b) i) = nv a * nv b := by
  have e := lv_conv 256 (dig b) b.size (nv b) (fun N hN => digN_lv b N hN) (digN a a.size) N (by simpa [digN, dg_length] using h)
  rw [lv_digN (Nat.le_refl _)] at e
  rw [← e]
  congr 1
  apply List.map_congr_left
  intro i _
  unfold conv
  apply sumTo_congr
  intro k _
  congr 1
  by_cases hk : k < a.size
  · exact (digN_getD hk).symm
  · rw [dig_ge (by omega)]
    simp [digN, dg, List.getD, hk]
theorem dig_mul_le (a b : ByteArray) (i j : Nat) : dig a i * dig b j ≤ 65025 :=
  Nat.mul_le_mul (dig_lt a i) (dig_lt b j)
theorem digit_still (a : ByteArray) (i : Nat) (w : World) (ha : a.size ≤ 140737488355328) (hi : i ≤ 1152921504606846976) :
    Calls Tryd.prog 169 #[.string a, .int .i64 i] w fun e w' => e = .returned (.int .i64 (dig a i)) ∧ w' = w :=
  (digit_any a i w ha hi).mono fun _ _ h => ⟨h.1, h.2.symm⟩

set_option maxHeartbeats 1000000 in
set_option maxRecDepth 100000 in
theorem Times_any (a b : ByteArray) (w : World) (hs : a.size + b.size ≤ 35184372088832) :
    Calls Tryd.prog 181 #[.string a, .string b] w fun e w' => e = .returned (.string (enc (nv a * nv b))) ∧ Below w.heap.size w w' := by
  obtain ⟨N, hN⟩ : ∃ N : Nat, (a.size : Int) + (b.size : Int) = (N : Int) := ⟨a.size + b.size, by omega⟩
  have hN1 : N ≤ 35184372088832 := by omega
  have Hs := Lib.hid (show a.size + b.size ≤ N by omega)
  go_enter Tryd.func181, Tryd.ntmps181
  go_wp2_with (first | (at_make; refine wpList_make_row _ rfl _ _ _ rfl 3 _ 8 Tryd.underlying95 refA.info3 rfl _ _ _ _ N rfl rfl (by omega) (by omega) (by omega) (by omega) ?_))
  intro w1 hR hg hsz
  have hB0 : Below w.heap.size w w1 := (Below.refl _ _).grown hg (Nat.le_refl _) (by simp)
  have hR0 : Row w1 w.heap.size 3 (nums .i64 ((List.range 0).map (fun i => conv (dig a) (dig b) i) ++ List.replicate (N - 0) 0)) := by simpa [nums] using hR
  clear hR hg hN
  go_wp2
  go_loopw [16] (fun s wr => ∃ i : Nat, i ≤ N ∧ s = .int .i64 i ∧ Row wr w.heap.size 3 (nums .i64 ((List.range i).map (fun i => conv (dig a) (dig b) i) ++ List.replicate (N - i) 0)) ∧ Below w.heap.size w wr) (fun s _ => N - (intOf s).toNat)
  case atStart => exact ⟨0, Nat.zero_le _, rfl, hR0, hB0⟩
  case round =>
    obtain ⟨wo, rfl⟩ : ∃ wo : World, wo = wr := ⟨_, rfl⟩
    obtain ⟨i, hi, rfl, hRo, hBo⟩ := hrel
    clear hR0 hB0
    by_cases hlt : i < N
    · obtain ⟨L, hL⟩ : ∃ L, L = (List.range i).map (fun i => conv (dig a) (dig b) i) ++ List.replicate (N - i) 0 := ⟨_, rfl⟩
      have hLi : L.getD i 0 = 0 := by rw [hL]; exact append_zeros_getD (by simp)
      have hLl : L.length = N := by rw [hL]; simp; omega
      have hLs : L.set i (conv (dig a) (dig b) i) = (List.range (i + 1)).map (fun i => conv (dig a) (dig b) i) ++ List.replicate (N - (i + 1)) 0 := by
        rw [hL, append_zeros_set (by simp) hlt, map_range_take_snoc (fun i => conv (dig a) (dig b) i) _ rfl]
      have hL0 : L.set i 0 = L := set_same (by omega) hLi
      rw [← hL] at hRo
      have HL := Lib.hid hLl
      have HS := Lib.hid hLs
      have H0 := Lib.hid hL0
      clear hL hLi hLl hLs hL0
      go_wp2
      go_loopw [7] (fun s wr => ∃ k : Nat, k ≤ i + 1 ∧ s = .int .i64 k ∧ Row wr w.heap.size 3 (nums .i64 (L.set i (sumTo (fun k => dig a k * dig b (i - k)) k))) ∧ Below w.heap.size w wr) (fun s _ => i + 1 - (intOf s).toNat)
      case atStart => exact ⟨0, Nat.zero_le _, rfl, by rw [show sumTo (fun k => dig a k * dig b (i - k)) 0 = 0 from rfl, H0.out]; exact hRo, hBo⟩
      case round =>
        obtain ⟨k, hk, rfl, hRk, hBk⟩ := hrel
        clear hRo
        by_cases hlk : k ≤ i
        · obtain ⟨S, hS⟩ : ∃ S, S = sumTo (fun k => dig a k * dig b (i - k)) k := ⟨_, rfl⟩
          have hSl : S ≤ 2305843009213693952 := by
            rw [hS]
            have := sumTo_le (f := fun k => dig a k * dig b (i - k)) (M := 65025) k (fun j _ => dig_mul_le a b j (i - j))
            omega
          rw [← hS] at hRk
          have hcx := hRk.int (i := i) (by have := HL.out; simp; omega)
          rw [set_getD_eq (by have := HL.out; omega)] at hcx
          have hfx := hRk.frozen i
          obtain ⟨m, hm⟩ : ∃ m : Nat, (i : Int) - (k : Int) = (m : Int) := ⟨i - k, by omega⟩
          have hm2 : m ≤ i := by omega
          obtain ⟨x, hx⟩ : ∃ x, x = dig a k := ⟨_, rfl⟩
          obtain ⟨y, hy⟩ : ∃ y, y = dig b m := ⟨_, rfl⟩
          obtain ⟨z, hz⟩ : ∃ z, z = x * y := ⟨_, rfl⟩
          have hzl : z ≤ 65025 := by rw [hz, hx, hy]; exact dig_mul_le a b k m
          obtain ⟨T, hT⟩ : ∃ T, T = S + z := ⟨_, rfl⟩
          have hd1 := fun wx => digit_still a k wx (by omega) (by omega)
          have hd2 := fun wx => digit_still b m wx (by omega) (by omega)
          simp only [← hx] at hd1
          simp only [← hy] at hd2
          have Hd1 := Lib.hid hd1
          have Hd2 := Lib.hid hd2
          have Hm := Lib.hid (show i - k = m by omega)
          have HSS := Lib.hid (show T = sumTo (fun k => dig a k * dig b (i - k)) (k + 1) by
            rw [sumTo, ← hS, hT, hz, hx, hy]
            show _ = _ + dig a k * dig b (i - k)
            rw [show i - k = m by omega])
          have q1 : IntKind.i64.wrap (m : Int) = (m : Int) := IntWalk.i64_in _ (by omega)
          have q2 : IntKind.i64.wrap ((x : Int) * (y : Int)) = (z : Int) := by rw [← Int.natCast_mul, ← hz]; exact IntWalk.i64_in _ (by omega)
          have q3 : IntKind.i64.wrap ((S : Int) + (z : Int)) = (T : Int) := by rw [IntWalk.i64_in _ (by omega), hT]; rfl
          clear hd1 hd2 hS hx hy hz hT
          go_wp2_with fail
          go_still_tail 14, (by kernel_rfl)
          still_call (Hd1.out _)
          repeat still_step
          still_call (Hd2.out _)
          repeat still_step
          refine wpStill_nil ?_
          change wpList _ _ _ _ _ wr.drew
          clear q1 q2 q3
          go_wp2
          go_roundw
          case rel =>
            have hS2 := hRk.int_set i T
            rw [List.set_set] at hS2
            exact ⟨k + 1, by omega, by go_num, by rw [← HSS.out]; exact hS2.drew, (hBk.setCell (Nat.le_refl _) _).drew⟩
          case measure => simp [intOf] <;> omega
        · have hk1 : k = i + 1 := by omega
          rw [hk1] at hRk
          have hRk' : Row wr w.heap.size 3 (nums .i64 (L.set i (conv (dig a) (dig b) i))) := hRk
          rw [HS.out] at hRk'
          clear hRk hk1
          go_wp2
          go_roundw
          case rel => exact ⟨i + 1, by omega, by go_num, hRk', hBk⟩
          case measure => simp [intOf] <;> omega
    · obtain rfl : i = N := by omega
      have hP := hRo.pre
      rw [Nat.sub_self, List.replicate_zero, List.append_nil] at hP
      rw [show (nums .i64 ((List.range i).map fun i => conv (dig a) (dig b) i)).length = i by simp [nums]] at hP
      have hnum := number_any w.heap.size i _ wo hP (by
        intro d hd
        simp only [List.mem_map, List.mem_range] at hd
        obtain ⟨j, hj, rfl⟩ := hd
        have := sumTo_le (f := fun k => dig a k * dig b (j - k)) (M := 65025) (j + 1) (fun k _ => dig_mul_le a b k (j - k))
        unfold conv
        omega) (by simp; omega)
      rw [show ((List.range i).map fun i => conv (dig a) (dig b) i).length = i by simp, lv_times Hs.out] at hnum
      go_wp2_with fail
      refine hnum.mono ?_
      rintro e w' ⟨rfl, hb'⟩
      clear hnum
      go_wp2_with fail
      go_ret
      exact ⟨rfl, hBo.trans (hb'.mono hBo.size)⟩

end Go.Proofs.YtdhpmdkfmgpcmaaDoor.refE
