/- Walks: nat.right, nat.below, nat.minus. -/
import Derived.Test.YtnnffjolkgomhaaDoorNatL
namespace Go.Proofs.YtnnffjolkgomhaaDoor.natM
open Go.RowKit num mem natA natB natC natD seg natL

theorem grown_drew {w w' : World} {r : Option Nat} (h : w.grownBy w' r) : w.grownBy w'.drew r := ⟨h.os, h.tape, h.output, h.size, h.block⟩
theorem right_any (b o cap t : Nat) (l : List Nat) (w : World) (hS : Seg w b 169 o (nums .u64 l)) (hl : ∀ d ∈ l, d < 18446744073709551616) (hc : l.length ≤ cap) (hcap : cap ≤ 70368744177664) (ht : t / 64 < l.length) :
    Calls Tryd.prog 199 #[.slice (some ⟨b, o, none⟩) l.length cap, .int .i64 t] w fun e w' => ∃ (Z : List Nat) (o' cap' : Nat), e = .returned (.slice (some ⟨b, o', none⟩) Z.length cap') ∧ Seg w' b 169 o' (nums .u64 Z) ∧ (∀ d ∈ Z, d < 18446744073709551616) ∧
      lv 18446744073709551616 Z = lv 18446744073709551616 l / 2 ^ t ∧ Top Z ∧ Z.length ≤ cap' ∧ cap' ≤ cap ∧ w.grownBy w' (some b) ∧ w'.heap.size = w.heap.size := by
  have HL := Lib.hid hl
  clear hl
  obtain ⟨q, hq⟩ : ∃ q, q = t / 64 := ⟨_, rfl⟩
  obtain ⟨r, hr⟩ : ∃ r, r = t % 64 := ⟨_, rfl⟩
  have hqt : (t : Int) / 64 = (q : Int) := by omega
  have hrt : (t : Int) % 64 = (r : Int) := by omega
  have ht64 : t ≤ 4503599627370496 + 64 := by omega
  have Ht := Lib.hid (show t = 64 * q + r by omega)
  have hr64 : r < 64 := by omega
  have hql : q < l.length := by omega
  clear hq hr ht
  go_enter Tryd.func199, Tryd.ntmps199
  obtain ⟨L, hLd⟩ : ∃ L, L = l.drop q := ⟨_, rfl⟩
  have hLl : l.length - q = L.length := by rw [hLd, List.length_drop]
  have hSL : Seg w b 169 (o + q) (nums .u64 L) := by
    have := hS.drop (n := q) (by rw [nums_length]; omega)
    rwa [nums_drop, ← hLd] at this
  have HLL := Lib.hid (show ∀ d ∈ L, d < 18446744073709551616 by rw [hLd]; exact mem_drop_lt HL.out q)
  have HV := Lib.hid (show lv 18446744073709551616 L / 2 ^ r = lv 18446744073709551616 l / 2 ^ t by
    have h1 := lv_split 18446744073709551616 l q (by omega)
    have h2 := lv_take_lt HL.out (k := q) (by omega)
    rw [← hLd] at h1
    rw [Ht.out, Nat.pow_add, ← Nat.div_div_eq_div_mul, Nat.pow_mul, show (2 : Nat) ^ 64 = 18446744073709551616 by decide, h1, Nat.add_mul_div_left _ _ (Nat.pow_pos (by omega)), Nat.div_eq_of_lt h2, Nat.zero_add])
  have HD := Lib.hid hLd
  have hLpos : 0 < L.length := by omega
  clear hLd
  by_cases h0 : r = 0
  · subst h0
    go_wp2_with fail
    refine (cut_any b (o + q) (cap - q) L w hSL HLL.out (by omega) (by omega)).mono ?_
    rintro e w' ⟨rfl, Z, rfl, hS', hZ', hlv', hT', hl'⟩
    have HLV := Lib.hid hlv'
    have HZ' := Lib.hid hZ'
    clear hlv' hZ'
    go_wp2_with fail
    go_ret
    exact ⟨Z, _, _, rfl, hS', HZ'.out, by rw [HLV.out, ← HV.out, Nat.pow_zero, Nat.div_one], hT', by omega, by omega, World.grownBy.refl _ _, rfl⟩
  · go_wp2_with fail
    rw [hrt]
    go_loopw [16] (fun i wr => ∃ k : Nat, k ≤ L.length ∧ i = .int .i64 k ∧ Seg wr b 169 (o + q) (nums .u64 ((dg 18446744073709551616 (lv 18446744073709551616 L / 2 ^ r) L.length).take k ++ L.drop k)) ∧ w.grownBy wr (some b) ∧ Hid (wr.heap.size = w.heap.size)) (fun i _ => L.length - (intOf i).toNat)
    case atStart => exact ⟨0, Nat.zero_le _, rfl, by simpa using hSL, World.grownBy.refl _ _, rfl⟩
    case round =>
      obtain ⟨k, hk, rfl, hRk, hgk, hsz⟩ := hrel
      by_cases hlt : k < L.length
      · have hTl : ((dg 18446744073709551616 (lv 18446744073709551616 L / 2 ^ r) L.length).take k).length = k := by rw [List.length_take, dg_length]; omega
        have hAl : ((dg 18446744073709551616 (lv 18446744073709551616 L / 2 ^ r) L.length).take k ++ L.drop k).length = L.length := by rw [List.length_append, hTl, List.length_drop]; omega
        obtain ⟨x, hx⟩ : ∃ x : Nat, x = L.getD k 0 := ⟨_, rfl⟩
        have hxl : x < 18446744073709551616 := by rw [hx]; exact getD_lt (by omega) HLL.out k
        have hcx := hRk.int (i := k) (by rw [hAl]; exact hlt)
        rw [append_drop_getD hTl, ← hx] at hcx
        have hfx := hRk.frozen (o + q + k)
        have Hx := Lib.hid hx
        have HA := Lib.hid (And.intro hTl hAl)
        clear hx hTl hAl
        by_cases hlt2 : k + 1 < L.length
        · obtain ⟨y, hy⟩ : ∃ y : Nat, y = L.getD (k + 1) 0 := ⟨_, rfl⟩
          have hcy := hRk.int (i := k + 1) (by rw [HA.out.2]; exact hlt2)
          rw [show ((dg 18446744073709551616 (lv 18446744073709551616 L / 2 ^ r) L.length).take k ++ L.drop k).getD (k + 1) 0 = y by
            rw [hy]; simp only [List.getD]; rw [List.getElem?_append_right (by rw [HA.out.1]; omega), HA.out.1, List.getElem?_drop, show k + (k + 1 - k) = k + 1 by omega]] at hcy
          have Hy := Lib.hid hy
          clear hy
          have hD := shr_digit HLL.out (show r ≤ 64 by omega) hlt Hx.out.symm Hy.out.symm
          have hval := u64_shr_or (y := y) hxl (show r ≤ 64 by omega)
          have hset := dg_take_set (B := 18446744073709551616) (n := lv 18446744073709551616 L / 2 ^ r) (l := L) rfl hlt
          rw [hD] at hset
          have HS := Lib.hid hset
          have HVL := Lib.hid hval
          clear hD hval hset
          go_wp2_with fail
          go_region
          go_wp2_with fail
          go_roundw
          case rel =>
            have hR' := (hRk.int_set k (x / 2 ^ r)).int_set k (x / 2 ^ r + y % 2 ^ r * 2 ^ (64 - r))
            rw [List.set_set, HS.out] at hR'
            rw [HVL.out]
            exact ⟨k + 1, by omega, by go_num, by simpa using hR'.drew, grown_drew (grown_set (grown_set hgk _ _) _ _), size_set (size_set hsz _ _) _ _⟩
          case measure => simp [intOf] <;> omega
        · have hD := shr_digit (y := 0) HLL.out (show r ≤ 64 by omega) hlt Hx.out.symm (by simp [List.getD, List.getElem?_eq_none (Nat.le_of_not_lt hlt2)])
          rw [Nat.zero_mod, Nat.zero_mul, Nat.add_zero] at hD
          have hset := dg_take_set (B := 18446744073709551616) (n := lv 18446744073709551616 L / 2 ^ r) (l := L) rfl hlt
          rw [hD] at hset
          have HS := Lib.hid hset
          clear hD hset
          go_wp2_with fail
          go_roundw
          case rel =>
            have hR' := hRk.int_set k (x / 2 ^ r)
            rw [HS.out] at hR'
            exact ⟨k + 1, by omega, by go_num, by simpa using hR', grown_set hgk _ _, size_set hsz _ _⟩
          case measure => simp [intOf] <;> omega
      · have HK := Lib.hid (show k = L.length by omega)
        have hdl : ∀ d ∈ dg 18446744073709551616 (lv 18446744073709551616 L / 2 ^ r) L.length, d < 18446744073709551616 := dg_lt (by omega) _ _
        have hRz : Seg wr b 169 (o + q) (nums .u64 (dg 18446744073709551616 (lv 18446744073709551616 L / 2 ^ r) L.length)) := by
          rw [HK.out, List.drop_length, List.append_nil, List.take_of_length_le (by rw [dg_length]; exact Nat.le_refl _)] at hRk
          exact hRk
        have hval : lv 18446744073709551616 (dg 18446744073709551616 (lv 18446744073709551616 L / 2 ^ r) L.length) = lv 18446744073709551616 l / 2 ^ t := by
          rw [lv_dg_of_lt, HV.out]
          exact Nat.lt_of_le_of_lt (Nat.div_le_self _ _) (lv_lt HLL.out)
        have hcut := cut_any b (o + q) (cap - q) (dg 18446744073709551616 (lv 18446744073709551616 L / 2 ^ r) L.length) wr hRz hdl (by rw [dg_length]; omega) (by rw [dg_length]; omega)
        rw [hval, dg_length] at hcut
        clear hval hk hRk hdl hRz
        go_wp2_with fail
        refine hcut.mono ?_
        rintro e w' ⟨rfl, Z', rfl, hS', hZ', hlv', hT', hl'⟩
        have HLV := Lib.hid hlv'
        have HZ' := Lib.hid hZ'
        clear hcut hlv' hZ'
        go_wp2_with fail
        go_ret
        exact ⟨Z', _, _, rfl, hS', HZ'.out, HLV.out, hT', by omega, by omega, hgk, hsz⟩

theorem below_any (bx ox cx by' oy cy : Nat) (X Y : List Nat) (w : World) (hX : Seg w bx 169 ox (nums .u64 X)) (hY : Seg w by' 169 oy (nums .u64 Y)) (lX : ∀ d ∈ X, d < 18446744073709551616) (lY : ∀ d ∈ Y, d < 18446744073709551616) (tX : Top X) (tY : Top Y)
    (hmx : X.length ≤ 70368744177664) (_hmy : Y.length ≤ 70368744177664) :
    Calls Tryd.prog 200 #[.slice (some ⟨bx, ox, none⟩) X.length cx, .slice (some ⟨by', oy, none⟩) Y.length cy] w fun e w' => e = .returned (.bool (decide (lv 18446744073709551616 X < lv 18446744073709551616 Y))) ∧ Below w.heap.size w w' := by
  have HX := Lib.hid (And.intro lX tX)
  have HY := Lib.hid (And.intro lY tY)
  clear lX lY tX tY
  by_cases hlen : X.length = Y.length
  · rw [← hlen]
    have Hlen := Lib.hid hlen
    clear _hmy hlen
    go_enter Tryd.func200, Tryd.ntmps200
    go_wp2_with fail
    go_loopw [5] (fun s wr => ∃ (k : Nat) (e : Int), s = .int .i64 e ∧ e = (k : Int) - 1 ∧ k ≤ X.length ∧ Hid (X.drop k = Y.drop k) ∧ Below w.heap.size w wr) (fun s _ => (intOf s + 1).toNat)
    case atStart => exact ⟨X.length, _, rfl, rfl, Nat.le_refl _, by show _ = _; rw [List.drop_of_length_le (Nat.le_refl _), List.drop_of_length_le (by rw [Hlen.out]; exact Nat.le_refl _)], Below.refl _ _⟩
    case round =>
      obtain ⟨k, e, rfl, he, hk, hd, hB⟩ := hrel
      rcases k with _ | j
      · obtain rfl : e = -1 := by simpa using he
        have hXY : X = Y := by simpa using hd.out
        have HE := Lib.hid (show decide (lv 18446744073709551616 X < lv 18446744073709551616 Y) = false by rw [hXY]; simp)
        clear hXY he
        go_wp2_with fail
        go_ret
        exact ⟨ret_bool HE.out.symm, hB⟩
      · obtain rfl : e = (j : Int) := by omega
        clear he
        obtain ⟨x, hx⟩ : ∃ x : Nat, x = X.getD j 0 := ⟨_, rfl⟩
        obtain ⟨y, hy⟩ : ∃ y : Nat, y = Y.getD j 0 := ⟨_, rfl⟩
        have hcx := (hX.below hB hX.lt).int (i := j) (by omega)
        have hcy := (hY.below hB hY.lt).int (i := j) (by have := Hlen.out; omega)
        rw [← hx] at hcx
        rw [← hy] at hcy
        have Hx := Lib.hid hx
        have Hy := Lib.hid hy
        clear hx hy
        by_cases hne : x = y
        · subst hne
          go_wp2_with fail
          go_region
          go_wp2_with fail
          go_roundw
          case rel => exact ⟨j, _, rfl, by go_num, by omega, drop_eq_step Hlen.out (by omega) hd.out (by rw [← Hx.out, ← Hy.out]), hB.drew⟩
          case measure => simp [intOf] <;> omega
        · have HB := Lib.hid (below_digit HX.out.1 HY.out.1 Hlen.out (by omega) hd.out (by rw [← Hx.out, ← Hy.out]; exact hne))
          go_wp2_with fail
          go_region
          go_wp2_with fail
          go_region
          go_wp2_with fail
          go_ret
          exact ⟨ret_bool (decide_eq_decide.2 (by rw [Hx.out, Hy.out]; exact HB.out.symm)), hB.drew.drew⟩
  · have Hlen := Lib.hid hlen
    have HE := Lib.hid (show decide (X.length < Y.length) = decide (lv 18446744073709551616 X < lv 18446744073709551616 Y) by
      apply decide_eq_decide.2
      constructor
      · intro h
        exact lv_lt_of_length HX.out.1 (by omega) HY.out.2 (by omega)
      · intro h
        apply Nat.lt_of_not_le
        intro hge
        have := lv_lt_of_length HY.out.1 (by omega) HX.out.2 (show Y.length < X.length by have := Hlen.out; omega)
        omega)
    have hn : ((X.length : Int) == (Y.length : Int)) = false := by simp; omega
    clear hlen
    go_enter Tryd.func200, Tryd.ntmps200
    go_wp2_with fail
    go_ret
    exact ⟨ret_bool HE.out, Below.refl _ _⟩

def subN (x y b : Nat) : Nat := (x + 18446744073709551616 - y - b) % 18446744073709551616
def subC (x y b : Nat) : Nat := if x < y + b then 1 else 0
theorem sub64 (x y b : Nat) (hb : b ≤ 1) (w : World) : (callFunc 211 #[.int .u64 (x : Int), .int .u64 (y : Int), .int .u64 (b : Int)]).run Tryd.prog w =
    .ok (.value (.tuple #[.int .u64 ((subN x y b : Nat) : Int), .int .u64 ((subC x y b : Nat) : Int)])) w :=
  Any7.bits_Sub64 Tryd.lays7_26 x y b hb w
theorem sub64_z (x b : Nat) (hb : b ≤ 1) (w : World) : (callFunc 211 #[.int .u64 (x : Int), .int .u64 0, .int .u64 (b : Int)]).run Tryd.prog w =
    .ok (.value (.tuple #[.int .u64 ((subN x 0 b : Nat) : Int), .int .u64 ((subC x 0 b : Nat) : Int)])) w :=
  sub64 x 0 b hb w
theorem sub_sum {x y b : Nat} (hx : x < 18446744073709551616) (hy : y < 18446744073709551616) (hb : b ≤ 1) : subN x y b + y + b = x + subC x y b * 18446744073709551616 ∧ subN x y b < 18446744073709551616 ∧ subC x y b ≤ 1 := by
  unfold subN subC
  split <;> omega

theorem minus_any (bx ox cx by' oy cy : Nat) (X Y : List Nat) (w : World) (hX : Seg w bx 169 ox (nums .u64 X)) (hY : Seg w by' 169 oy (nums .u64 Y)) (hne : bx ≠ by') (lX : ∀ d ∈ X, d < 18446744073709551616) (lY : ∀ d ∈ Y, d < 18446744073709551616)
    (hlen : Y.length ≤ X.length) (hcx : X.length ≤ cx) (hmax : X.length ≤ 70368744177664) (hle : lv 18446744073709551616 Y ≤ lv 18446744073709551616 X) :
    Calls Tryd.prog 201 #[.slice (some ⟨bx, ox, none⟩) X.length cx, .slice (some ⟨by', oy, none⟩) Y.length cy] w fun e w' => ∃ Z : List Nat, e = .returned (.slice (some ⟨bx, ox, none⟩) Z.length cx) ∧ Seg w' bx 169 ox (nums .u64 Z) ∧ (∀ d ∈ Z, d < 18446744073709551616) ∧
      lv 18446744073709551616 Z = lv 18446744073709551616 X - lv 18446744073709551616 Y ∧ Top Z ∧ Z.length ≤ X.length ∧ w.grownBy w' (some bx) ∧ w'.heap.size = w.heap.size := by
  have HX := Lib.hid lX
  have HY := Lib.hid lY
  have Hle := Lib.hid hle
  clear lX lY hle
  go_enter Tryd.func201, Tryd.ntmps201
  go_wp2_with fail
  go_loopw [5, 10] (fun br i wr => ∃ (k c : Nat) (Z : List Nat), k ≤ X.length ∧ i = .int .i64 k ∧ br = .int .u64 c ∧ c ≤ 1 ∧ Hid (Z.length = k) ∧ Hid (∀ d ∈ Z, d < 18446744073709551616) ∧
      Hid (lv 18446744073709551616 Z + lv 18446744073709551616 (Y.take k) = lv 18446744073709551616 (X.take k) + c * 18446744073709551616 ^ k) ∧ Seg wr bx 169 ox (nums .u64 (Z ++ X.drop k)) ∧ w.grownBy wr (some bx) ∧ Hid (wr.heap.size = w.heap.size)) (fun _ i _ => X.length - (intOf i).toNat)
  case atStart => exact ⟨0, 0, [], Nat.zero_le _, rfl, rfl, by omega, rfl, (by intro d hd; cases hd), by simp [Hid, lv], by simpa using hX, World.grownBy.refl _ _, rfl⟩
  case round =>
    obtain ⟨k, c, Z, hk, rfl, rfl, hc1, hZl, hZ, hlv, hRk, hgk, hsz⟩ := hrel
    by_cases hlt : k < X.length
    · obtain ⟨x, hx⟩ : ∃ x : Nat, x = X.getD k 0 := ⟨_, rfl⟩
      have hxl : x < 18446744073709551616 := by rw [hx]; exact getD_lt (by omega) HX.out k
      have hcx' := hRk.int (i := k) (by have := hZl.out; simp; omega)
      rw [append_drop_getD hZl.out, ← hx] at hcx'
      have hfx := hRk.frozen (ox + k)
      have Hx := Lib.hid hx
      clear hx
      by_cases hy : k < Y.length
      · obtain ⟨y, hy'⟩ : ∃ y : Nat, y = Y.getD k 0 := ⟨_, rfl⟩
        have hyl : y < 18446744073709551616 := by rw [hy']; exact getD_lt (by omega) HY.out k
        have hcy := (hY.grown hgk (fun e => hne (Option.some.inj e).symm)).int (i := k) hy
        rw [← hy'] at hcy
        have Hy := Lib.hid hy'
        obtain ⟨hsum, hn, hC⟩ := sub_sum hxl hyl hc1
        have HS := Lib.hid hsum
        have hsub := sub64 x y c hc1
        generalize subN x y c = n at *
        generalize subC x y c = C at *
        clear hy' hsum
        go_wp2_with (simp only [hsub])
        go_roundw
        case rel =>
          have hR' := hRk.int_set k n
          rw [append_set_drop hZl.out hlt] at hR'
          refine ⟨k + 1, C, Z ++ [n], by omega, by go_num, rfl, hC, by have := hZl.out; simp [Hid, this], all_snoc hZ.out hn, sub_digit hZl.out hlv.out ?_, hR', grown_set hgk _ _, size_set hsz _ _⟩
          rw [← Hx.out, ← Hy.out]; exact HS.out
        case measure => simp [intOf]; omega
      · obtain ⟨hsum, hn, hC⟩ := sub_sum (y := 0) hxl (by omega) hc1
        have HS := Lib.hid hsum
        have hsub := sub64_z x c hc1
        generalize subN x 0 c = n at *
        generalize subC x 0 c = C at *
        clear hsum
        go_wp2_with (simp only [hsub])
        go_roundw
        case rel =>
          have hR' := hRk.int_set k n
          rw [append_set_drop hZl.out hlt] at hR'
          refine ⟨k + 1, C, Z ++ [n], by omega, by go_num, rfl, hC, by have := hZl.out; simp [Hid, this], all_snoc hZ.out hn, sub_digit hZl.out hlv.out ?_, hR', grown_set hgk _ _, size_set hsz _ _⟩
          rw [← Hx.out, show Y.getD k 0 = 0 by simp [List.getD, List.getElem?_eq_none (Nat.le_of_not_lt hy)]]; exact HS.out
        case measure => simp [intOf]; omega
    · have HK := Lib.hid (show k = X.length by omega)
      have hRz : Seg wr bx 169 ox (nums .u64 Z) := by
        rw [HK.out, List.drop_length, List.append_nil] at hRk
        exact hRk
      have hval : lv 18446744073709551616 Z = lv 18446744073709551616 X - lv 18446744073709551616 Y := by
        have h1 := hlv.out
        have h2 := lv_lt hZ.out
        rw [HK.out, lv_take_of_le _ _ hlen, lv_take_of_le _ _ (Nat.le_refl _)] at h1
        rw [hZl.out, HK.out] at h2
        have h3 := Hle.out
        have hc0 : c = 0 := by
          rcases Nat.lt_or_ge c 1 with h | h
          · omega
          · have : 1 * 18446744073709551616 ^ X.length ≤ c * 18446744073709551616 ^ X.length := Nat.mul_le_mul_right _ h
            omega
        rw [hc0] at h1
        omega
      have HV := Lib.hid hval
      have hZX : Z.length = X.length := by rw [hZl.out, HK.out]
      have hcut := cut_any bx ox cx Z wr hRz hZ.out (by omega) (by omega)
      rw [hZX] at hcut
      clear hval hk hRk
      go_wp2_with fail
      refine hcut.mono ?_
      rintro e w' ⟨rfl, Z', rfl, hS', hZ', hlv', hT', hl'⟩
      have HLV := Lib.hid hlv'
      have HZ' := Lib.hid hZ'
      clear hcut hlv' hZ'
      go_wp2_with fail
      go_ret
      exact ⟨Z', rfl, hS', HZ'.out, by rw [HLV.out, HV.out], hT', hl', hgk, hsz⟩

end Go.Proofs.YtnnffjolkgomhaaDoor.natM
