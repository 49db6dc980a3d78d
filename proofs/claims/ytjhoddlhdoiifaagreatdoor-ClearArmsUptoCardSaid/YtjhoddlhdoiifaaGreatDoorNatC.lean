/- Walks: nat.Of, nat.Int, nat.Cmp. -/
import Derived.Test.YtjhoddlhdoiifaaGreatDoorGrpC
import Derived.Test.YtjhoddlhdoiifaaGreatDoorShelf
namespace Go.Proofs.YtjhoddlhdoiifaaGreatDoor.natC
open Go.RowKit num mem natA natB

theorem short_enc (n : Nat) (w : World) (hn : n < 2 ^ 64) :
    Calls Tryz.prog 187 #[.string (enc n)] w fun e w' => e = .returned (.int .u64 n) ∧ w = w' := by
  have h := short_any (enc n) w (by rw [enc_size_le]; simpa using hn)
  rw [nv_enc] at h
  exact h

theorem Of_any (n : Int) (w : World) (h : n ≤ 9223372036854775807) :
    Calls Tryz.prog 148 #[.int .i64 n] w fun e w' => e = .returned (.string (enc n.toNat)) ∧ Below w.heap.size w w' := by
  by_cases h1 : n < 1
  · have H := Lib.hid (show enc n.toNat = ⟨#[]⟩ by rw [show n.toNat = 0 by omega, enc_zero])
    go_enter Tryz.func148, Tryz.ntmps148
    go_wp2
    go_ret
    exact ⟨ret_string H.out.symm, Below.refl _ _⟩
  · obtain ⟨m, rfl⟩ : ∃ m : Nat, n = m := ⟨n.toNat, by omega⟩
    have hm : m < 2 ^ 64 := by omega
    rw [Int.toNat_natCast]
    have Hm := Lib.hid hm
    clear hm
    go_enter Tryz.func148, Tryz.ntmps148
    go_wp2_with (first | (go_at_call 185; refine (fromShort_any _ _ Hm.out).mono ?_; rintro e w' ⟨rfl, hb⟩))
    go_ret
    exact ⟨rfl, hb⟩

/-- Cmp's answer -/
def cmpN (a b : Nat) : Int := if a < b then -1 else if b < a then 1 else 0

theorem cmpN_digs : ∀ (a b : List UInt8), a.length = b.length → Lib.compareBytes a b = cmpN (nvl a) (nvl b)
  | [], [], _ => by simp [Lib.compareBytes, cmpN]
  | [], _ :: _, h => by simp at h
  | _ :: _, [], h => by simp at h
  | x :: a, y :: b, h => by
    have hl : a.length = b.length := by simpa using h
    have ih := cmpN_digs a b hl
    have la := nvl_lt a
    have lb := nvl_lt b
    rw [hl] at la
    unfold Lib.compareBytes
    rw [nvl_cons, nvl_cons, hl, ih]
    have key : ∀ p q : Nat, p < q → p * 256 ^ b.length + 256 ^ b.length ≤ q * 256 ^ b.length := by
      intro p q hpq
      have := Nat.mul_le_mul_right (256 ^ b.length) hpq
      rwa [Nat.succ_mul] at this
    have hx : x < y ↔ x.toNat < y.toNat := UInt8.lt_iff_toNat_lt
    have hy : y < x ↔ y.toNat < x.toNat := UInt8.lt_iff_toNat_lt
    by_cases h1 : x < y
    · rw [if_pos h1]
      have := key _ _ (hx.1 h1)
      unfold cmpN
      rw [if_pos (by omega)]
    · by_cases h2 : y < x
      · rw [if_neg h1, if_pos h2]
        have := key _ _ (hy.1 h2)
        unfold cmpN
        rw [if_neg (by omega), if_pos (by omega)]
      · rw [if_neg h1, if_neg h2]
        have e : x.toNat = y.toNat := by
          have := mt hx.2 h1; have := mt hy.2 h2; omega
        rw [e]
        unfold cmpN
        generalize y.toNat * 256 ^ b.length = z
        by_cases h3 : nvl a < nvl b
        · rw [if_pos h3, if_pos (by omega)]
        · rw [if_neg h3, if_neg (show ¬ z + nvl a < z + nvl b by omega)]
          by_cases h4 : nvl b < nvl a
          · rw [if_pos h4, if_pos (by omega)]
          · rw [if_neg h4, if_neg (show ¬ z + nvl b < z + nvl a by omega)]
theorem size_lt {n m : Nat} (h : (enc n).size < (enc m).size) : n < m := by
  apply Nat.lt_of_not_le
  intro h2
  have := enc_mono h2
  omega

theorem Cmp_any (a b : ByteArray) (w : World) :
    Calls Tryz.prog 172 #[.string a, .string b] w fun e w' => e = .returned (.int .i64 (cmpN (nv a) (nv b))) ∧ w = w' := by
  obtain ⟨n, hn⟩ : ∃ n, nv a = n := ⟨_, rfl⟩
  obtain ⟨m, hm⟩ : ∃ m, nv b = m := ⟨_, rfl⟩
  rw [hn, hm]
  have Hn := Lib.hid hn
  have Hm := Lib.hid hm
  clear hm hn
  by_cases h1 : (enc n).size < (enc m).size
  · have H := Lib.hid (show cmpN n m = -1 by unfold cmpN; rw [if_pos (size_lt h1)])
    go_enter Tryz.func172, Tryz.ntmps172
    go_wp2_with (first | (go_at_call 186; refine (trim_any _ _).mono ?_; rintro e w' ⟨rfl, rfl⟩; first | rw [Hn.out] | rw [Hm.out]))
    go_ret
    exact ⟨ret_int H.out.symm, rfl⟩
  by_cases h2 : (enc m).size < (enc n).size
  · have H := Lib.hid (show cmpN n m = 1 by have := size_lt h2; unfold cmpN; rw [if_neg (by omega), if_pos this])
    go_enter Tryz.func172, Tryz.ntmps172
    go_wp2_with (first | (go_at_call 186; refine (trim_any _ _).mono ?_; rintro e w' ⟨rfl, rfl⟩; first | rw [Hn.out] | rw [Hm.out]))
    go_ret
    exact ⟨ret_int H.out.symm, rfl⟩
  · have H := Lib.hid (show Lib.compareBytes (enc n).data.toList (enc m).data.toList = cmpN n m by
      rw [cmpN_digs _ _ (by rw [ba_length, ba_length]; omega)]
      show cmpN (nv (enc n)) (nv (enc m)) = _
      rw [nv_enc, nv_enc])
    go_enter Tryz.func172, Tryz.ntmps172
    go_wp2_with (first | (go_at_call 186; refine (trim_any _ _).mono ?_; rintro e w' ⟨rfl, rfl⟩; first | rw [Hn.out] | rw [Hm.out]) | (go_at_call 209; refine (Tryz.strings_Compare _ _ _).mono ?_; rintro e w' ⟨rfl, rfl⟩))
    go_ret
    exact ⟨ret_int H.out, rfl⟩

theorem sub_step2 {x y c : Nat} (hx : x < 4294967296) (hy : y < 4294967296) (hc : c ≤ 1) : ∃ n C : Nat,
    IntKind.u64.wrap (IntKind.u64.wrap (IntKind.u64.wrap (x : Int) - (c : Int)) - IntKind.u64.wrap (y : Int)) % 4294967296 = (n : Int) ∧
    IntKind.u64.wrap (IntKind.u64.wrap (IntKind.u64.wrap (x : Int) - (c : Int)) - IntKind.u64.wrap (y : Int)) / 9223372036854775808 = (C : Int) ∧
    n < 4294967296 ∧ C ≤ 1 ∧ n + y + c = x + C * 4294967296 := by
  simp only [IntKind.wrap_u64]
  by_cases h : y + c ≤ x
  · refine ⟨x - c - y, 0, ?_, ?_, ?_, ?_, ?_⟩ <;> omega
  · refine ⟨x + 4294967296 - c - y, 1, ?_, ?_, ?_, ?_, ?_⟩ <;> omega
theorem sub_step1 {x c : Nat} (hx : x < 4294967296) (hc : c ≤ 1) : ∃ n C : Nat,
    IntKind.u64.wrap (IntKind.u64.wrap (x : Int) - (c : Int)) % 4294967296 = (n : Int) ∧
    IntKind.u64.wrap (IntKind.u64.wrap (x : Int) - (c : Int)) / 9223372036854775808 = (C : Int) ∧
    n < 4294967296 ∧ C ≤ 1 ∧ n + 0 + c = x + C * 4294967296 := by
  simp only [IntKind.wrap_u64]
  by_cases h : c ≤ x
  · refine ⟨x - c, 0, ?_, ?_, ?_, ?_, ?_⟩ <;> omega
  · refine ⟨x + 4294967296 - c, 1, ?_, ?_, ?_, ?_, ?_⟩ <;> omega
theorem grown_set {w w' : World} {b : Nat} (h : w.grownBy w' (some b)) (i : Nat) (v : Value) : w.grownBy (w'.setCell ⟨b, i, none⟩ v) (some b) :=
  ⟨h.os, h.tape, h.output, by simpa [World.setCell] using h.size, fun k hk hne => by
    rw [Below.heap_setCell _ _ _ _ (fun e => hne (by rw [e]))]; exact h.block k hk hne⟩
theorem size_set {w w' : World} (h : w'.heap.size = w.heap.size) (a : Addr) (v : Value) : (w'.setCell a v).heap.size = w.heap.size := by
  simpa [World.setCell] using h

/-- Sub's step -/
theorem less_any (bx cx by' cy : Nat) (X Y : List Nat) (w : World) (hX : Row w bx 155 (nums .u32 X)) (hY : Row w by' 155 (nums .u32 Y)) (hne : bx ≠ by')
    (lX : ∀ d ∈ X, d < 4294967296) (lY : ∀ d ∈ Y, d < 4294967296) (hlen : Y.length ≤ X.length) (hmax : X.length ≤ 70368744177664) (hle : lv 4294967296 Y ≤ lv 4294967296 X) :
    Calls Tryz.prog 224 #[.slice (some ⟨bx, 0, none⟩) X.length cx, .slice (some ⟨by', 0, none⟩) Y.length cy] w fun e w' => e = .returned (.tuple #[]) ∧
      ∃ Z : List Nat, Z.length = X.length ∧ (∀ d ∈ Z, d < 4294967296) ∧ lv 4294967296 Z + lv 4294967296 Y = lv 4294967296 X ∧ Row w' bx 155 (nums .u32 Z) ∧ w.grownBy w' (some bx) ∧ w'.heap.size = w.heap.size := by
  have HX := Lib.hid lX
  have HY := Lib.hid lY
  have Hle := Lib.hid hle
  clear lX lY hle
  have hbx := hX.lt
  have hby := hY.lt
  go_enter Tryz.func224, Tryz.ntmps224
  go_wp2
  go_loopw [4, 10] (fun br i wr => ∃ (k c : Nat) (Z : List Nat), k ≤ X.length ∧ i = .int .i64 k ∧ br = .int .u64 c ∧ c ≤ 1 ∧ Hid (Z.length = k) ∧ Hid (∀ d ∈ Z, d < 4294967296) ∧
      Hid (lv 4294967296 Z + lv 4294967296 (Y.take k) = lv 4294967296 (X.take k) + c * 4294967296 ^ k) ∧ Row wr bx 155 (nums .u32 (Z ++ X.drop k)) ∧ w.grownBy wr (some bx) ∧ Hid (wr.heap.size = w.heap.size)) (fun _ i _ => X.length - (intOf i).toNat)
  case atStart => exact ⟨0, 0, [], Nat.zero_le _, rfl, rfl, by omega, rfl, (by intro d hd; cases hd), by simp [Hid, lv], by simpa using hX, World.grownBy.refl _ _, rfl⟩
  case round =>
    obtain ⟨k, c, Z, hk, rfl, rfl, hc1, hZl, hZ, hlv, hRk, hgk, hsz⟩ := hrel
    by_cases hlt : k < X.length
    · obtain ⟨x, hx⟩ : ∃ x : Nat, x = X.getD k 0 := ⟨_, rfl⟩
      have hxl : x < 4294967296 := by rw [hx]; exact getD_lt (by omega) HX.out k
      have hcx := hRk.int (i := k) (by have := hZl.out; simp; omega)
      rw [append_drop_getD hZl.out, ← hx] at hcx
      have hfx := hRk.frozen k
      have Hx := Lib.hid hx
      clear hx
      by_cases hy : k < Y.length
      · obtain ⟨y, hy'⟩ : ∃ y : Nat, y = Y.getD k 0 := ⟨_, rfl⟩
        have hyl : y < 4294967296 := by rw [hy']; exact getD_lt (by omega) HY.out k
        have hcy := (hY.grown hgk (fun e => hne (Option.some.inj e).symm)).int (i := k) hy
        rw [← hy'] at hcy
        have Hy := Lib.hid hy'
        obtain ⟨n, C, e1, e2, hn, hC, hsum⟩ := sub_step2 hxl hyl hc1
        have E1 := Lib.hid e1
        have E2 := Lib.hid e2
        have HS := Lib.hid hsum
        clear hy' e1 e2 hsum hxl hyl
        go_wp2
        go_roundw
        case rel =>
          rw [E1.out, E2.out]
          have hR' := hRk.int_set k n
          rw [append_set_drop hZl.out hlt] at hR'
          refine ⟨k + 1, C, Z ++ [n], by omega, by go_num, rfl, hC, by have := hZl.out; simp [Hid, this], all_snoc hZ.out hn, sub_digit hZl.out hlv.out ?_, hR', grown_set hgk _ _, size_set hsz _ _⟩
          rw [← Hx.out, ← Hy.out]; exact HS.out
        case measure => simp [intOf]; omega
      · obtain ⟨n, C, e1, e2, hn, hC, hsum⟩ := sub_step1 hxl hc1
        have E1 := Lib.hid e1
        have E2 := Lib.hid e2
        have HS := Lib.hid hsum
        clear e1 e2 hsum hxl
        go_wp2
        go_roundw
        case rel =>
          rw [E1.out, E2.out]
          have hR' := hRk.int_set k n
          rw [append_set_drop hZl.out hlt] at hR'
          refine ⟨k + 1, C, Z ++ [n], by omega, by go_num, rfl, hC, by have := hZl.out; simp [Hid, this], all_snoc hZ.out hn, sub_digit hZl.out hlv.out ?_, hR', grown_set hgk _ _, size_set hsz _ _⟩
          rw [← Hx.out, show Y.getD k 0 = 0 by simp [List.getD, List.getElem?_eq_none (Nat.le_of_not_lt hy)]]; exact HS.out
        case measure => simp [intOf]; omega
    · have hk' : k = X.length := by omega
      have HK := Lib.hid hk'
      clear hk'
      go_wp2
      go_end0
      refine ⟨rfl, Z, by rw [hZl.out, HK.out], hZ.out, ?_, ?_, hgk, hsz⟩
      · have h1 := hlv.out
        have h2 := lv_lt hZ.out
        rw [HK.out, lv_take_of_le _ _ hlen, lv_take_of_le _ _ (Nat.le_refl _)] at h1
        rw [hZl.out, HK.out] at h2
        have h3 := Hle.out
        have hc0 : c = 0 := by
          rcases Nat.lt_or_ge c 1 with h | h
          · omega
          · have : 1 * 4294967296 ^ X.length ≤ c * 4294967296 ^ X.length := Nat.mul_le_mul_right _ h
            omega
        rw [hc0] at h1
        omega
      · rw [HK.out] at hRk
        simpa using hRk

end Go.Proofs.YtjhoddlhdoiifaaGreatDoor.natC
