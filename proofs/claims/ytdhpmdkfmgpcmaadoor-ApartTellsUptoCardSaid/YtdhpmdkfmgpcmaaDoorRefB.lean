/- Walks: gantref1.number. -/
import Derived.Test.YtdhpmdkfmgpcmaaDoorRefA
namespace Go.Proofs.YtdhpmdkfmgpcmaaDoor.refB
open Go.RowKit num mem natA natB natC natD refA

def bigN : Nat := 9223372036854775808
/-- how far number's first loop has to go -/
def numLeft (len : Nat) (c i : Value) : Nat := (len - (intOf i).toNat) * bigN + (intOf c).toNat

theorem num_step {L D : List Nat} {k q x : Nat} (hD : D.length = k) (h : lv 256 D + q * 256 ^ k = lv 256 (L.take k)) (hx : x = L.getD k 0) :
    lv 256 (D ++ [(q + x) % 256]) + (q + x) / 256 * 256 ^ (k + 1) = lv 256 (L.take (k + 1)) := by
  have := add_digit (B := 256) (Y := []) (X := L) (n := (q + x) % 256) (C := (q + x) / 256) (c := q) hD (by simpa only [List.take_nil, lv_nil, Nat.add_zero] using h) (by rw [← hx, show ([] : List Nat).getD k 0 = 0 from rfl]; omega)
  simpa only [List.take_nil, lv_nil, Nat.add_zero] using this
theorem num_bound {q r : Nat} (h : q * 256 ^ r ≤ 36028797018963968) (hq : 0 < q) : r ≤ 7 := by
  apply Nat.le_of_not_lt
  intro h7
  have h1 : 256 ^ 8 ≤ 256 ^ r := Nat.pow_le_pow_right (by omega) h7
  have h2 : 1 * 256 ^ r ≤ q * 256 ^ r := Nat.mul_le_mul_right _ hq
  have h3 : (256 : Nat) ^ 8 = 18446744073709551616 := by decide
  omega
theorem num_carry {q r : Nat} (h : q * 256 ^ r ≤ 36028797018963968) : q / 256 * 256 ^ (r + 1) ≤ 36028797018963968 := by
  rw [Nat.pow_succ]
  have : q / 256 * (256 ^ r * 256) = (q / 256 * 256) * 256 ^ r := by rw [Nat.mul_comm (256 ^ r), Nat.mul_assoc]
  rw [this]
  have h1 : q / 256 * 256 ≤ q := Nat.div_mul_le_self q 256
  exact Nat.le_trans (Nat.mul_le_mul_right _ h1) h
theorem numLeft_a {len k q q' : Nat} (h : k < len) (hq : q' ≤ 36028797018963968) : numLeft len (.int .i64 (q' : Int)) (.int .i64 ((k : Int) + 1)) < numLeft len (.int .i64 (q : Int)) (.int .i64 (k : Int)) := by
  unfold numLeft bigN
  simp only [intOf]
  have e1 : ((k : Int) + 1).toNat = k + 1 := by omega
  rw [e1, Int.toNat_natCast, Int.toNat_natCast, Int.toNat_natCast]
  have : len - k = (len - (k + 1)) + 1 := by omega
  rw [this, Nat.add_mul]
  omega
theorem numLeft_b {len k q : Nat} (h : ¬ k < len) (hq : 0 < q) : numLeft len (.int .i64 ((q : Int) / 256)) (.int .i64 ((k : Int) + 1)) < numLeft len (.int .i64 (q : Int)) (.int .i64 (k : Int)) := by
  unfold numLeft
  simp only [intOf]
  have e1 : ((k : Int) + 1).toNat = k + 1 := by omega
  rw [e1, Int.toNat_natCast, Int.toNat_natCast, show len - k = 0 by omega, show len - (k + 1) = 0 by omega]
  omega

set_option maxHeartbeats 1000000 in
theorem number_any (b cap : Nat) (L : List Nat) (w : World) (hR : Pre w b 3 cap (nums .i64 L)) (hL : ∀ d ∈ L, d ≤ 4611686018427387904) (hs : L.length ≤ 35184372088832) :
    Calls Tryd.prog 170 #[.slice (some ⟨b, 0, none⟩) L.length cap] w fun e w' => e = .returned (.string (enc (lv 256 L))) ∧ Below w.heap.size w w' := by
  have hb := hR.lt
  have HL := Lib.hid hL
  clear hL
  obtain ⟨i0, hi, hz0, hz1, hz2⟩ := info_parts natB.info5
  have Hi0 := Lib.hid hz0
  have Hi1 := Lib.hid hz1
  have Hi2 := Lib.hid hz2
  have Hi := Lib.hid hi
  clear hz0 hz1 hz2 hi
  go_enter Tryd.func170, Tryd.ntmps170
  go_wp2
  go_loopw [3, 4, 5] (fun v c i wr => ∃ (k q : Nat) (D : List Nat), i = .int .i64 k ∧ c = .int .i64 q ∧ q ≤ 36028797018963968 ∧ k ≤ 35184372088842 ∧ Hid (k ≤ L.length + 8 ∧ (L.length ≤ k → q * 256 ^ (k - L.length) ≤ 36028797018963968)) ∧ Hid (D.length = k) ∧ Hid (∀ d ∈ D, d < 256) ∧ Hid (lv 256 D + q * 256 ^ k = lv 256 (L.take k)) ∧
      wr.ownsRow w.heap.size 5 1 v D.length (nums .u8 D) ∧ Below w.heap.size w wr) (fun _ c i _ => numLeft L.length c i)
  case atStart => exact ⟨0, 0, [], rfl, rfl, by omega, by omega, ⟨by omega, by intro h; simp⟩, rfl, (by intro d hd; cases hd), by simp [Hid, lv], World.ownsRow_nil _ _ _ _, Below.refl _ _⟩
  case round =>
    obtain ⟨k, q, D, rfl, rfl, hq, hk, hk2, hDl, hD, hlv, hown, hB⟩ := hrel
    by_cases hlt : k < L.length
    · obtain ⟨x, hx⟩ : ∃ x : Nat, x = L.getD k 0 := ⟨_, rfl⟩
      have hxl : x ≤ 4611686018427387904 := by
        rw [hx]; have := getD_lt (B := 4611686018427387905) (by omega) (fun d hd => by have := HL.out d hd; omega) k (l := L); omega
      have hcx := (hR.below hB hb).int (i := k) hlt
      rw [← hx] at hcx
      have Hx := Lib.hid hx
      clear hx
      go_wp2_with (first | (at_builtin; refine wpList_push rfl _ _ _ rfl w.heap.size 5 _ 1 Tryd.underlying124 natB.info5 rfl _ (nums .u8 D) rfl (by rw [nums_length]; exact hown.alloc _) _ _ rfl (cell_new1 _ _ _) rfl (by have := hDl.out; rw [nums_length]; omega) (by have := hDl.out; rw [nums_length]; omega) (by have := hB.size; simp; omega) ?_))
      intro v' w1 hown1 hg1
      have hB1 : Below w.heap.size w w1 := (hB.alloc hB.size _).grown hg1 (hB.alloc hB.size _).size (owned_block hown)
      clear hg1 hown hcx
      go_wp2
      go_roundw
      case rel =>
        rw [show (((q : Int) + (x : Int)) % 256) = (((q + x) % 256 : Nat) : Int) by omega, nums_snoc, nums_length] at hown1
        refine ⟨k + 1, (q + x) / 256, D ++ [(q + x) % 256], by go_num, by rw [show (((q : Int) + (x : Int)) / 256) = (((q + x) / 256 : Nat) : Int) by omega], by omega, by omega, ⟨by omega, ?_⟩, by have := hDl.out; simp [Hid, this], all_snoc hD.out (Nat.mod_lt _ (by omega)), num_step hDl.out hlv.out Hx.out, by rw [List.length_append]; exact hown1, hB1⟩
        intro h
        rw [show k + 1 - L.length = 0 by omega]
        simp
        omega
      case measure =>
        rw [show (((q : Int) + (x : Int)) / 256) = (((q + x) / 256 : Nat) : Int) by omega]
        exact numLeft_a hlt (by omega)
    · by_cases hq0 : 0 < q
      · go_wp2_with (first | (at_builtin; refine wpList_push rfl _ _ _ rfl w.heap.size 5 _ 1 Tryd.underlying124 natB.info5 rfl _ (nums .u8 D) rfl (by rw [nums_length]; exact hown.alloc _) _ _ rfl (cell_new1 _ _ _) rfl (by have := hDl.out; rw [nums_length]; omega) (by have := hDl.out; rw [nums_length]; omega) (by have := hB.size; simp; omega) ?_))
        intro v' w1 hown1 hg1
        have hB1 : Below w.heap.size w w1 := (hB.alloc hB.size _).grown hg1 (hB.alloc hB.size _).size (owned_block hown)
        clear hg1 hown
        go_wp2
        go_roundw
        case rel =>
          rw [show ((q : Int) % 256) = (((q + 0) % 256 : Nat) : Int) by omega, nums_snoc, nums_length] at hown1
          have hb7 := num_bound (hk2.out.2 (by omega)) hq0
          refine ⟨k + 1, (q + 0) / 256, D ++ [(q + 0) % 256], by go_num, by rw [show ((q : Int) / 256) = (((q + 0) / 256 : Nat) : Int) by omega], by omega, by omega, ⟨by omega, ?_⟩, by have := hDl.out; simp [Hid, this], all_snoc hD.out (Nat.mod_lt _ (by omega)), num_step hDl.out hlv.out ?_, by rw [List.length_append]; exact hown1, hB1⟩
          · intro _
            rw [show k + 1 - L.length = (k - L.length) + 1 by omega]
            exact num_carry (hk2.out.2 (by omega))
          · simp [List.getD, List.getElem?_eq_none (Nat.le_of_not_lt hlt)]
        case measure => exact numLeft_b hlt hq0
      · obtain rfl : q = 0 := by omega
        have HV := Lib.hid (show lv 256 D = lv 256 L by
          have := hlv.out
          rw [lv_take_of_le _ _ (by omega)] at this
          omega)
        clear hq0 hlv hk2
        rcases owns_pre (by rw [nums_length]; exact hown) with ⟨rfl, hnil⟩ | ⟨g, cp, rfl, hg, hP⟩
        · have hD0 : D = [] := by simpa [nums] using hnil
          subst hD0
          have hcv := run_convert_bytes_nil (P := Tryd.prog) wr 124 5 Tryd.underlying124 Tryd.underlying5 0 0 9 Tryd.underlying9
          go_wp2_with fail
          refine wp_loop_rounds 1 ?_
          rw [rounds_succ]
          go_wp2_with (first | (go_at_call 113; refine (Bare_any _ _).mono ?_; rintro e w' ⟨rfl, rfl⟩))
          go_ret
          exact ⟨ret_string (congrArg enc HV.out), hB⟩
        · rw [nums_length] at *
          clear hown
          have hn1 : D.length ≤ 35184372088842 := by have := hDl.out; omega
          have hP0 : Pre wr g 5 cp (nums .u8 (revTo D 0)) := by rw [revTo_zero]; exact hP
          clear hP hDl
          obtain ⟨n, hn⟩ : ∃ n, n = D.length := ⟨_, rfl⟩
          rw [← hn] at hn1 ⊢
          have Hn := Lib.hid hn
          clear hn
          go_wp2_with fail
          go_loopw [6, 7] (fun s6 s7 wx => ∃ (j : Nat) (e : Int), s6 = .int .i64 j ∧ s7 = .int .i64 e ∧ Hid (e = (n : Int) - 1 - (j : Int)) ∧ 2 * j ≤ n ∧ Pre wx g 5 cp (nums .u8 (revTo D j)) ∧ Below w.heap.size w wx) (fun s6 _ _ => n - (intOf s6).toNat)
          case atStart => exact ⟨0, _, rfl, rfl, by simp [Hid], by omega, hP0, hB⟩
          case round =>
            rename_i wx
            obtain ⟨j, e, rfl, rfl, he, hj, hPj, hBj⟩ := hrel
            clear hP0 hB
            by_cases hlj : 2 * j + 1 < n
            · obtain ⟨m, hm⟩ : ∃ m : Nat, e = (m : Int) := ⟨n - 1 - j, by have := he.out; omega⟩
              subst hm
              have hm2 : m = n - 1 - j := by have := he.out; omega
              have hjm : j < m := by omega
              have hmn : m < n := by omega
              have Hm := Lib.hid hm2
              clear hm2
              have c1 := hPj.int (i := j) (by rw [revTo_length, ← Hn.out]; omega)
              have c2 := hPj.int (i := m) (by rw [revTo_length, ← Hn.out]; omega)
              rw [revTo_mid (Nat.le_refl _) (by rw [← Hn.out]; omega)] at c1
              rw [revTo_mid (by omega) (by rw [← Hn.out]; have := Hm.out; omega)] at c2
              obtain ⟨x, hx⟩ : ∃ x, x = D.getD j 0 := ⟨_, rfl⟩
              obtain ⟨y, hy⟩ : ∃ y, y = D.getD m 0 := ⟨_, rfl⟩
              rw [← hx] at c1
              rw [← hy] at c2
              have f1 := hPj.frozen j
              have f2 := hPj.frozen m
              have Hx := Lib.hid hx
              have Hy := Lib.hid hy
              clear hx hy
              go_wp2
              go_region
              go_wp2
              go_roundw
              case rel =>
                have hS := (hPj.int_set j y).int_set m x
                rw [Hx.out, Hy.out, Hm.out, Hn.out, revTo_step (by rw [← Hn.out]; exact hlj)] at hS
                refine ⟨j + 1, (m : Int) - 1, by go_num, by go_num, ?_, by omega, ?_, ((hBj.setCell hg _).setCell hg _).drew⟩
                · have := he.out; show _ = _; omega
                · rw [Hx.out, Hy.out, Hm.out, Hn.out]; exact hS.drew
              case measure => simp [intOf] <;> omega
            · have hnj : n ≤ 2 * j + 1 := by omega
              have HE := Lib.hid (revTo_end (D := D) (j := j) (by rw [← Hn.out]; exact hj) (by rw [← Hn.out]; exact hnj))
              rw [HE.out] at hPj
              have hcv := bytes_pre hPj (fun d hd => hD.out d (by simpa using hd)) n (by rw [List.length_reverse, ← Hn.out])
              have HF := Lib.hid (show nv ⟨(D.reverse.map fun d => UInt8.ofNat d).toArray⟩ = lv 256 L by
                show nvl _ = _
                rw [nvl_ofNats _ (fun d hd => hD.out d (by simpa using hd)), List.reverse_reverse, HV.out])
              have he0 : e = (n : Int) - 1 - (j : Int) := he.out
              have hej : ¬ (j : Int) < e := by omega
              clear he0 hnj hlj
              go_wp2_with (first | (go_at_call 113; refine (Bare_any _ _).mono ?_; rintro e w' ⟨rfl, rfl⟩))
              go_ret
              exact ⟨ret_string (congrArg enc (by rw [← List.map_reverse]; exact HF.out)), hBj⟩

theorem number_nil (cap : Nat) (w : World) :
    Calls Tryd.prog 170 #[.slice none 0 cap] w fun e w' => e = .returned (.string (enc 0)) ∧ Below w.heap.size w w' := by
  have HF := Lib.hid (show nv ByteArray.empty = 0 from rfl)
  have hcv := run_convert_bytes_nil (P := Tryd.prog) w 124 5 Tryd.underlying124 Tryd.underlying5 0 0 9 Tryd.underlying9
  go_enter Tryd.func170, Tryd.ntmps170
  go_wp2_with fail
  refine wp_loop_rounds 1 ?_
  rw [rounds_succ]
  go_wp2_with fail
  refine wp_loop_rounds 1 ?_
  rw [rounds_succ]
  go_wp2_with (first | (go_at_call 113; refine (Bare_any _ _).mono ?_; rintro e w' ⟨rfl, rfl⟩))
  go_ret
  exact ⟨ret_string (congrArg enc HF.out), Below.refl _ _⟩

end Go.Proofs.YtdhpmdkfmgpcmaaDoor.refB
