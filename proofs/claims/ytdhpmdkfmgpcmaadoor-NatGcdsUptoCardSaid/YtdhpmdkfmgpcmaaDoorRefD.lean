/- Walks: gantref1.Less, Small. -/
import Derived.Test.YtdhpmdkfmgpcmaaDoorRefC
namespace Go.Proofs.YtdhpmdkfmgpcmaaDoor.refD
open Go.RowKit num mem natA natB natC natD refA refB refC

theorem digN_getD {a : ByteArray} {N k : Nat} (h : k < N) : (digN a N).getD k 0 = dig a k := dg_getD h
theorem less_digit {x y c : Nat} (hx : x ≤ 255) (hy : y ≤ 255) (hc : c ≤ 1) :
    ∃ n C : Nat, n < 256 ∧ C ≤ 1 ∧ n + y + c = x + C * 256 ∧ (C = 0 → (x : Int) - (y : Int) - (c : Int) = (n : Int)) ∧ (C = 1 → (x : Int) - (y : Int) - (c : Int) + 256 = (n : Int)) ∧ (C = 0 ↔ y + c ≤ x) := by
  by_cases h : y + c ≤ x
  · exact ⟨x - y - c, 0, by omega, by omega, by omega, by omega, by omega, by omega⟩
  · exact ⟨x + 256 - y - c, 1, by omega, by omega, by omega, by omega, by omega, by omega⟩

theorem Less_any (a b : ByteArray) (w : World) (ha : a.size ≤ 35184372088832) (hb : b.size ≤ 35184372088832) (hle : nv b ≤ nv a) :
    Calls Tryd.prog 118 #[.string a, .string b] w fun e w' => e = .returned (.string (enc (nv a - nv b))) ∧ Below w.heap.size w w' := by
  have Hle := Lib.hid hle
  clear hle
  go_enter Tryd.func118, Tryd.ntmps118
  go_wp2_with (first | (at_make; refine wpList_make_row _ rfl _ _ _ rfl 3 _ 8 Tryd.underlying95 refA.info3 rfl _ _ _ _ a.size rfl rfl (by omega) (by omega) (by omega) (by omega) ?_))
  intro w1 hR hg hsz
  have hB0 : Below w.heap.size w w1 := (Below.refl _ _).grown hg (Nat.le_refl _) (by simp)
  have hR0 : Row w1 w.heap.size 3 (nums .i64 ([] ++ List.replicate (a.size - 0) 0)) := by simpa [nums] using hR
  clear hR hg
  go_wp2
  go_loopw [6, 13] (fun br i wr => ∃ (k c : Nat) (Z : List Nat), k ≤ a.size ∧ i = .int .i64 k ∧ br = .int .i64 c ∧ c ≤ 1 ∧ Hid (Z.length = k) ∧ Hid (∀ d ∈ Z, d < 256) ∧
      Hid (lv 256 Z + lv 256 ((digN b a.size).take k) = lv 256 ((digN a a.size).take k) + c * 256 ^ k) ∧ Row wr w.heap.size 3 (nums .i64 (Z ++ List.replicate (a.size - k) 0)) ∧ Below w.heap.size w wr) (fun _ i _ => a.size - (intOf i).toNat)
  case atStart => exact ⟨0, 0, [], Nat.zero_le _, rfl, rfl, by omega, rfl, (by intro d hd; cases hd), by simp [Hid, lv], hR0, hB0⟩
  case round =>
    obtain ⟨k, c, Z, hk, rfl, rfl, hc1, hZl, hZ, hlv, hRk, hBk⟩ := hrel
    clear hR0 hB0
    by_cases hlt : k < a.size
    · have hcx := hRk.int (i := k) (by have := hZl.out; simp; omega)
      have hfx := hRk.frozen k
      have hx := dig_lt a k
      have hy := dig_lt b k
      obtain ⟨x, hxx⟩ : ∃ x, x = dig a k := ⟨_, rfl⟩
      obtain ⟨y, hyy⟩ : ∃ y, y = dig b k := ⟨_, rfl⟩
      rw [← hxx] at hx
      rw [← hyy] at hy
      obtain ⟨n, C, hn, hC, hsum, e0, e1, hiff⟩ := less_digit hx hy hc1
      have Hx := Lib.hid hxx
      have Hy := Lib.hid hyy
      have HS := Lib.hid hsum
      have E0 := Lib.hid e0
      have E1 := Lib.hid e1
      have HI := Lib.hid hiff
      have hstep := Lib.hid (sub_digit (B := 256) (X := digN a a.size) (Y := digN b a.size) (n := n) (C := C) hZl.out hlv.out (by rw [digN_getD hlt, digN_getD hlt, ← hxx, ← hyy]; exact hsum))
      clear hxx hyy hsum e0 e1 hiff
      by_cases hneg : y + c ≤ x
      · have hnn : ¬ ((x : Int) - (y : Int) - (c : Int) < 0) := by omega
        have HC := Lib.hid (HI.out.2 hneg)
        go_wp2_with fail
        refine (digit_any a k _ (by omega) (by omega)).mono ?_
        rintro e w' ⟨rfl, rfl⟩
        rw [← Hx.out]
        go_wp2_with fail
        refine (digit_any b k _ (by omega) (by omega)).mono ?_
        rintro e w' ⟨rfl, rfl⟩
        rw [← Hy.out]
        go_wp2_with fail
        go_roundw
        case rel =>
          have hS := hRk.int_set k n
          rw [append_zeros_set hZl.out hlt, ← E0.out HC.out] at hS
          exact ⟨k + 1, C, Z ++ [n], by omega, by go_num, by rw [HC.out]; rfl, hC, by have := hZl.out; simp [Hid, this], all_snoc hZ.out hn, hstep.out, hS, hBk.setCell (Nat.le_refl _) _⟩
        case measure => simp [intOf] <;> omega
      · have hnn : ((x : Int) - (y : Int) - (c : Int) < 0) := by omega
        have HC := Lib.hid (show C = 1 by have := HI.out; omega)
        go_wp2_with fail
        refine (digit_any a k _ (by omega) (by omega)).mono ?_
        rintro e w' ⟨rfl, rfl⟩
        rw [← Hx.out]
        go_wp2_with fail
        refine (digit_any b k _ (by omega) (by omega)).mono ?_
        rintro e w' ⟨rfl, rfl⟩
        rw [← Hy.out]
        go_wp2_with fail
        go_roundw
        case rel =>
          have hS := (hRk.set k (.int .i64 ((x : Int) - (y : Int) - (c : Int)))).set k (.int .i64 ((n : Nat) : Int))
          rw [List.set_set, nums_set, append_zeros_set hZl.out hlt, ← E1.out HC.out] at hS
          exact ⟨k + 1, C, Z ++ [n], by omega, by go_num, by rw [HC.out]; rfl, hC, by have := hZl.out; simp [Hid, this], all_snoc hZ.out hn, hstep.out, hS, (hBk.setCell (Nat.le_refl _) _).setCell (Nat.le_refl _) _⟩
        case measure => simp [intOf] <;> omega
    · have HK := Lib.hid (show k = a.size by omega)
      have hP := hRk.pre
      rw [show a.size - k = 0 by omega, List.replicate_zero, List.append_nil] at hP
      rw [show (nums .i64 Z).length = a.size by rw [nums_length, hZl.out, HK.out]] at hP
      have hnum := number_any w.heap.size a.size Z wr hP (fun d hd => by have := hZ.out d hd; omega) (by rw [hZl.out, HK.out]; omega)
      have hval : lv 256 Z = nv a - nv b := by
        have h1 := hlv.out
        have h2 := lv_lt hZ.out
        have h3 := Hle.out
        rw [HK.out, lv_take_of_le _ _ (by simp [digN, dg_length]), lv_take_of_le _ _ (by simp [digN, dg_length]), lv_digN (Nat.le_refl _)] at h1
        have h4 : lv 256 (digN b a.size) = nv b := lv_dg_of_lt (Nat.lt_of_le_of_lt h3 (nv_lt a))
        rw [h4] at h1
        rw [hZl.out, HK.out] at h2
        have hc0 : c = 0 := by
          rcases Nat.lt_or_ge c 1 with h | h
          · omega
          · have : 1 * 256 ^ a.size ≤ c * 256 ^ a.size := Nat.mul_le_mul_right _ h
            omega
        rw [hc0] at h1
        omega
      rw [hZl.out, HK.out, hval] at hnum
      go_wp2_with fail
      refine hnum.mono ?_
      rintro e w' ⟨rfl, hb'⟩
      clear hnum
      go_wp2_with fail
      go_ret
      exact ⟨rfl, hBk.trans (hb'.mono hBk.size)⟩

theorem small_step {n q k : Nat} {D : List Nat} (hD : D.length = k) (h : lv 256 D + q * 256 ^ k = n) : lv 256 (D ++ [q % 256]) + q / 256 * 256 ^ (k + 1) = n := by
  rw [lv_snoc, hD, Nat.pow_succ, ← h]
  have e : q = q % 256 + 256 * (q / 256) := by omega
  have : q * 256 ^ k = 256 ^ k * (q % 256) + q / 256 * (256 ^ k * 256) := by
    conv => lhs; rw [e]
    rw [Nat.add_mul, Nat.mul_comm (q % 256)]
    simp only [Nat.mul_comm, Nat.mul_left_comm, Nat.mul_assoc]
  omega
theorem small_k {n q k : Nat} {D : List Nat} (h : lv 256 D + q * 256 ^ k = n) (hn : n ≤ 9223372036854775807) (hq : 0 < q) : k ≤ 7 := by
  apply Nat.le_of_not_lt
  intro h7
  have h1 : 256 ^ 8 ≤ 256 ^ k := Nat.pow_le_pow_right (by omega) h7
  have h2 : 1 * 256 ^ k ≤ q * 256 ^ k := Nat.mul_le_mul_right _ hq
  have h3 : (256 : Nat) ^ 8 = 18446744073709551616 := by decide
  omega

theorem Small_any (n : Int) (w : World) (hn : n ≤ 9223372036854775807) :
    Calls Tryd.prog 182 #[.int .i64 n] w fun e w' => e = .returned (.string (enc n.toNat)) ∧ Below w.heap.size w w' := by
  by_cases h0 : n < 1
  · have HV := Lib.hid (show enc 0 = enc n.toNat by rw [show n.toNat = 0 by omega])
    go_enter Tryd.func182, Tryd.ntmps182
    go_wp2_with fail
    refine wp_loop_rounds 1 ?_
    rw [rounds_succ]
    go_wp2_with fail
    refine (number_nil 0 w).mono ?_
    rintro e w' ⟨rfl, hb⟩
    go_wp2_with fail
    go_ret
    exact ⟨ret_string HV.out, hb⟩
  · obtain ⟨m, rfl⟩ : ∃ m : Nat, n = m := ⟨n.toNat, by omega⟩
    rw [Int.toNat_natCast]
    have hm0 : 0 < m := by omega
    have HM := Lib.hid (show m ≤ 9223372036854775807 by omega)
    clear h0
    go_enter Tryd.func182, Tryd.ntmps182
    go_wp2_with fail
    go_loopw [0, 3] (fun s v wr => ∃ (k q : Nat) (D : List Nat), s = .int .i64 q ∧ q ≤ 9223372036854775807 ∧ k ≤ 8 ∧ Hid (D.length = k) ∧ Hid (∀ d ∈ D, d < 256) ∧ Hid (lv 256 D + q * 256 ^ k = m) ∧
      wr.ownsRow w.heap.size 3 1 v D.length (nums .i64 D) ∧ Below w.heap.size w wr) (fun s _ _ => (intOf s).toNat)
    case atStart => exact ⟨0, m, [], rfl, HM.out, by omega, rfl, (by intro d hd; cases hd), by simp [Hid, lv], World.ownsRow_nil _ _ _ _, Below.refl _ _⟩
    case round =>
      obtain ⟨k, q, D, rfl, hq, hk, hDl, hD, hlv, hown, hB⟩ := hrel
      by_cases hq0 : 0 < q
      · have hk7 := small_k hlv.out HM.out hq0
        go_wp2_with (first | (at_builtin; refine wpList_push rfl _ _ _ rfl w.heap.size 3 _ 8 Tryd.underlying95 refA.info3 rfl _ (nums .i64 D) rfl (by rw [nums_length]; exact hown.alloc _) _ _ rfl (cell_new1 _ _ _) rfl (by have := hDl.out; rw [nums_length]; omega) (by have := hDl.out; rw [nums_length]; omega) (by have := hB.size; simp; omega) ?_))
        intro v' w1 hown1 hg1
        have hB1 : Below w.heap.size w w1 := (hB.alloc hB.size _).grown hg1 (hB.alloc hB.size _).size (owned_block hown)
        clear hg1 hown
        go_wp2
        go_roundw
        case rel =>
          rw [show ((q : Int) % 256) = ((q % 256 : Nat) : Int) by omega, nums_snoc, nums_length] at hown1
          exact ⟨k + 1, q / 256, D ++ [q % 256], by go_num, by omega, by omega, by have := hDl.out; simp [Hid, this], all_snoc hD.out (Nat.mod_lt _ (by omega)), small_step hDl.out hlv.out, by rw [List.length_append]; exact hown1, hB1⟩
        case measure => simp [intOf] <;> omega
      · obtain rfl : q = 0 := by omega
        have HV := Lib.hid (show lv 256 D = m by have := hlv.out; omega)
        rcases owns_pre (by rw [nums_length]; exact hown) with ⟨rfl, hnil⟩ | ⟨g, cp, rfl, hg, hP⟩
        · have hD0 : D = [] := by simpa [nums] using hnil
          subst hD0
          have : m = 0 := by have := HV.out; simp [lv] at this; omega
          omega
        · rw [nums_length] at *
          clear hown
          have hnum := number_any g cp D wr hP (fun d hd => by have := hD.out d hd; omega) (by rw [hDl.out]; omega)
          rw [HV.out] at hnum
          go_wp2_with fail
          refine hnum.mono ?_
          rintro e w' ⟨rfl, hb'⟩
          clear hnum
          go_wp2_with fail
          go_ret
          exact ⟨rfl, hB.trans (hb'.mono hB.size)⟩

end Go.Proofs.YtdhpmdkfmgpcmaaDoor.refD
