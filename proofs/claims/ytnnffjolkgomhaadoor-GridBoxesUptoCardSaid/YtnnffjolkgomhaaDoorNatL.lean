/- Walks: nat.common, nat.limbs, nat.cut, nat.evens. -/
import Derived.Test.YtnnffjolkgomhaaDoorSeg
import Derived.Test.YtnnffjolkgomhaaDoorBin
namespace Go.Proofs.YtnnffjolkgomhaaDoor.natL
open Go.RowKit num mem natA natB natC natD seg

theorem info169 : (Tryd.prog.info? 169).map (fun i => (i.zero, i.size, i.bytes)) = some (some (.int .u64 0), 1, 8) := by kernel_rfl

theorem common_any (x y : Nat) (w : World) (hx : x < 18446744073709551616) (hy : y < 18446744073709551616) :
    Calls Tryd.prog 184 #[.int .u64 x, .int .u64 y] w fun e w' => e = .returned (.int .u64 (Nat.gcd x y)) ∧ Below w.heap.size w w' := by
  obtain ⟨G, hG⟩ : ∃ G, Nat.gcd x y = G := ⟨_, rfl⟩
  rw [hG]
  have HG := Lib.hid hG
  clear hG
  go_enter Tryd.func184, Tryd.ntmps184
  go_wp2_with fail
  go_loopw [0, 1] (fun sx sy wr => ∃ a b : Nat, sx = .int .u64 a ∧ sy = .int .u64 b ∧ a < 18446744073709551616 ∧ b < 18446744073709551616 ∧ Hid (Nat.gcd a b = G) ∧ Below w.heap.size w wr) (fun _ sy _ => (intOf sy).toNat)
  case atStart => exact ⟨x, y, rfl, rfl, hx, hy, HG, Below.refl _ _⟩
  case round =>
    obtain ⟨a, b, rfl, rfl, ha, hb, hg, hB⟩ := hrel
    by_cases h0 : 0 < b
    · have hm : a % b < b := Nat.mod_lt _ h0
      go_wp2_with fail
      go_region
      go_wp2_with fail
      go_roundw
      case rel => exact ⟨b, a % b, rfl, by simp, hb, by omega, by show _ = _; rw [gcd_mod']; exact hg.out, hB.drew⟩
      case measure => simp [intOf]; omega
    · obtain rfl : b = 0 := by omega
      have e := hg.out
      rw [Nat.gcd_zero_right] at e
      have E := Lib.hid e
      clear e
      go_wp2_with fail
      go_ret
      exact ⟨ret_int (by rw [E.out]), hB⟩

theorem pow_bits_le7 {r : Nat} (h : r ≤ 7) : (256 : Nat) ^ r ≤ 72057594037927936 := by
  have : (256 : Nat) ^ r ≤ 256 ^ 7 := Nat.pow_le_pow_right (by omega) h
  simpa using this
theorem limbs_bits {n k p x : Nat} (hk : k < (enc n).size) (hp : ((enc n).size : Int) - 1 - (k : Int) = (p : Int)) (hp2 : p < (enc n).size) (hx : x < 256 ^ (k % 8)) :
    bits .or .u64 (x : Int) (IntKind.u64.wrap (IntKind.u64.wrap ((enc n)[p].toNat : Int) * 2 ^ (k % 8 * 8))) = ((x + n / 256 ^ k % 256 * 256 ^ (k % 8) : Nat) : Int) := by
  obtain rfl : p = (enc n).size - 1 - k := by omega
  have e := enc_getElem n k hk
  rw [e]
  have hc : n / 256 ^ k % 256 < 256 := Nat.mod_lt _ (by omega)
  generalize n / 256 ^ k % 256 = c at hc
  have hr : k % 8 ≤ 7 := by omega
  generalize k % 8 = r at hx hr
  have hp3 := pow_bits_le7 hr
  have h3 : c * 256 ^ r ≤ 255 * 72057594037927936 := Nat.mul_le_mul (by omega) hp3
  have e2 : IntKind.u64.wrap (IntKind.u64.wrap (c : Int) * 2 ^ (r * 8)) = ((c * 256 ^ r : Nat) : Int) := by
    rw [IntWalk.u64_in (c : Int) (by omega), IntKind.wrap_u64]
    have h2 : ((2 : Int) ^ (r * 8)) = ((256 ^ r : Nat) : Int) := by rw [← pow_bits]; simp
    rw [h2, ← Int.natCast_mul]
    omega
  rw [e2]
  have hx' : x < 2 ^ (r * 8) := by rw [pow_bits]; exact hx
  rw [u64_or_nat _ _ (by omega) (by omega), Nat.or_comm]
  have := or_shift (r * 8) c x hx'
  rw [pow_bits] at this
  rw [this, Nat.add_comm]

theorem limbs_any (n : Nat) (w : World) (hz : (enc n).size ≤ 70368744177664) :
    Calls Tryd.prog 197 #[.string (enc n)] w fun e w' => ∃ b, e = .returned (.slice (some ⟨b, 0, none⟩) (wlen 8 n) (wlen 8 n)) ∧ Row w' b 169 (nums .u64 (w64 n)) ∧ w.heap.size ≤ b ∧ Below w.heap.size w w' := by
  have hw : wlen 8 n ≤ 8796093022209 := by unfold wlen; omega
  go_enter Tryd.func197, Tryd.ntmps197
  go_wp2_with (first | (at_make; refine wpList_make_row _ rfl _ _ _ rfl 169 _ 8 Tryd.underlying199 info169 rfl _ _ _ _ (wlen 8 n) rfl rfl (by unfold wlen; omega) (by unfold wlen; omega) (by omega) (by omega) ?_))
  intro w1 hR hg hsz
  have hB0 : Below w.heap.size w w1 := (Below.refl _ _).grown hg (Nat.le_refl _) (by simp)
  have hR0 : Row w1 w.heap.size 169 (nums .u64 (prt 8 n 0 (wlen 8 n))) := by rw [prt_zero]; simpa [nums] using hR
  clear hR hg
  go_wp2
  go_loopw [12] (fun i wr => ∃ k : Nat, k ≤ (enc n).size ∧ i = .int .i64 k ∧ Row wr w.heap.size 169 (nums .u64 (prt 8 n k (wlen 8 n))) ∧ Below w.heap.size w wr) (fun i _ => (enc n).size - (intOf i).toNat)
  case atStart => exact ⟨0, Nat.zero_le _, rfl, hR0, hB0⟩
  case round =>
    obtain ⟨k, hk, rfl, hRk, hBk⟩ := hrel
    clear hR0 hB0
    by_cases hlt : k < (enc n).size
    · have hq : k / 8 < wlen 8 n := by unfold wlen; omega
      obtain ⟨x, hx⟩ : ∃ x : Nat, x = (prt 8 n k (wlen 8 n)).getD (k / 8) 0 := ⟨_, rfl⟩
      have hc := hRk.int (i := k / 8) (by rw [prt_length]; exact hq)
      rw [← hx] at hc
      have hf := hRk.frozen (k / 8)
      have hxb : x < 256 ^ (k % 8) := by rw [hx]; exact prt_old (by omega) hq
      have Hxb := Lib.hid hxb
      have Hx := Lib.hid hx
      clear hx hxb
      obtain ⟨p, hp⟩ : ∃ p : Nat, ((enc n).size : Int) - 1 - (k : Int) = (p : Int) := ⟨(enc n).size - 1 - k, by omega⟩
      have hp2 : p < (enc n).size := by omega
      have Hp := Lib.hid hp
      go_wp2
      go_region
      have hR' := hRk.int_set (k / 8) (x + n / 256 ^ k % 256 * 256 ^ (k % 8))
      rw [Hx.out, prt_step (by omega)] at hR'
      have HV := Lib.hid (limbs_bits hlt Hp.out hp2 Hxb.out)
      go_wp2
      go_roundw
      case rel => exact ⟨k + 1, by omega, by go_num, by rw [HV.out, Hx.out]; exact hR', (hBk.setCell (Nat.le_refl _) _).drew⟩
      case measure => simp [intOf]; omega
    · go_wp2
      go_ret
      refine ⟨w.heap.size, rfl, ?_, Nat.le_refl _, hBk⟩
      have hk' : k = (enc n).size := by omega
      have hn' : n < 256 ^ k := by rw [hk', ← enc_size_le]; exact Nat.le_refl _
      rw [prt_all (by omega) hn'] at hRk
      exact hRk

/-- what cut gives: the same digits without the zeros at the end -/
theorem cut_any (b o cap : Nat) (l : List Nat) (w : World) (hS : Seg w b 169 o (nums .u64 l)) (hl : ∀ d ∈ l, d < 18446744073709551616) (hc : l.length ≤ cap) (hmax : l.length ≤ 70368744177664) :
    Calls Tryd.prog 210 #[.slice (some ⟨b, o, none⟩) l.length cap] w fun e w' => w = w' ∧ ∃ Z : List Nat, e = .returned (.slice (some ⟨b, o, none⟩) Z.length cap) ∧ Seg w b 169 o (nums .u64 Z) ∧ (∀ d ∈ Z, d < 18446744073709551616) ∧
      lv 18446744073709551616 Z = lv 18446744073709551616 l ∧ Top Z ∧ Z.length ≤ l.length := by
  have HL := Lib.hid hl
  clear hl
  go_enter Tryd.func210, Tryd.ntmps210
  go_wp2_with fail
  go_loop [0] (fun s => ∃ k : Nat, k ≤ l.length ∧ s = .slice (some ⟨b, o, none⟩) k cap ∧ Hid (lv 18446744073709551616 (l.take k) = lv 18446744073709551616 l)) (fun s => match s with | .slice _ k _ => k | _ => 0)
  case atStart => exact ⟨l.length, Nat.le_refl _, rfl, by show _ = _; rw [lv_take_of_le _ _ (Nat.le_refl _)]⟩
  case round =>
    obtain ⟨k, hk, rfl, hlv⟩ := hrel
    rcases k with _ | j
    · go_wp2_with fail
      go_ret
      refine ⟨rfl, [], rfl, ?_, (by intro d hd; cases hd), ?_, ?_, Nat.zero_le _⟩
      · simpa [nums] using hS.take 0
      · have := hlv.out; rw [List.take_zero] at this; exact this
      · intro h; simp at h
    · obtain ⟨x, hx⟩ : ∃ x : Nat, x = l.getD j 0 := ⟨_, rfl⟩
      have hcx := hS.int (i := j) (by omega)
      rw [← hx] at hcx
      have Hx := Lib.hid hx
      clear hx
      by_cases h0 : x = 0
      · subst h0
        go_wp2_with fail
        go_round
        case rel =>
          refine ⟨j, by omega, rfl, ?_⟩
          show _ = _
          have h := hlv.out
          rw [lv_take_step, ← Hx.out, Nat.mul_zero, Nat.add_zero] at h
          exact h
        case measure => simp <;> omega
      · go_wp2_with fail
        go_ret
        have hlen : (l.take (j + 1)).length = j + 1 := by rw [List.length_take]; omega
        refine ⟨rfl, l.take (j + 1), by rw [hlen]; rfl, ?_, mem_take_lt HL.out _, hlv.out, ?_, by rw [hlen]; exact hk⟩
        · rw [← nums_take]; exact hS.take _
        · intro _
          rw [hlen, show j + 1 - 1 = j by omega, getD_take (by omega), ← Hx.out]
          omega

theorem tz_any (x : Nat) (w : World) (h0 : 0 < x) (hx : x < 18446744073709551616) (hT : Tab w) :
    Calls Tryd.prog 209 #[.int .u64 x] w fun e w' => ∃ t m : Nat, e = .returned (.int .i64 t) ∧ x = 2 ^ t * (2 * m + 1) ∧ t < 64 ∧ w = w' := by
  refine (Any7.bits_TrailingZeros64 Tryd.lays7_29 x hx w (fun _ => hT)).mono ?_
  rintro e w' ⟨rfl, rfl⟩
  have e : Lib.ctz 64 x = Lib.ctzFrom 64 x := by unfold Lib.ctz; rw [if_neg (by omega)]
  obtain ⟨m, hm, hk⟩ := Lib.ctzFrom_spec 64 x h0 hx
  exact ⟨_, m, by rw [e], hm, hk, rfl⟩

theorem evens_any (b o cap : Nat) (l : List Nat) (w : World) (hS : Seg w b 169 o (nums .u64 l)) (hl : ∀ d ∈ l, d < 18446744073709551616) (hmax : l.length ≤ 70368744177664) (hpos : 0 < lv 18446744073709551616 l) (hT : Tab w) :
    Calls Tryd.prog 198 #[.slice (some ⟨b, o, none⟩) l.length cap] w fun e w' => ∃ t q : Nat, e = .returned (.int .i64 t) ∧ lv 18446744073709551616 l = 2 ^ t * (2 * q + 1) ∧ t / 64 < l.length ∧ w = w' := by
  have HL := Lib.hid hl
  have HP := Lib.hid hpos
  clear hl hpos
  go_enter Tryd.func198, Tryd.ntmps198
  go_wp2_with fail
  go_loop [3] (fun s => ∃ k : Nat, k < l.length ∧ s = .int .i64 k ∧ Hid (lv 18446744073709551616 (l.take k) = 0)) (fun s => l.length - (intOf s).toNat)
  case atStart =>
    refine ⟨0, ?_, rfl, by show _ = _; rw [List.take_zero, lv_nil]⟩
    rcases l with _ | ⟨x, l⟩
    · have := HP.out; rw [lv_nil] at this; omega
    · simp
  case round =>
    obtain ⟨k, hk, rfl, hlv⟩ := hrel
    obtain ⟨x, hx⟩ : ∃ x : Nat, x = l.getD k 0 := ⟨_, rfl⟩
    have hcx := hS.int (i := k) hk
    rw [← hx] at hcx
    have hxl : x < 18446744073709551616 := by rw [hx]; exact getD_lt (by omega) HL.out k
    have Hx := Lib.hid hx
    clear hx
    by_cases h0 : x = 0
    · subst h0
      have hlt : k + 1 < l.length := by
        apply Nat.lt_of_not_le
        intro hle
        have h := lv_take_step 18446744073709551616 l k
        rw [← Hx.out, hlv.out, lv_take_of_le _ _ hle] at h
        have := HP.out
        omega
      have HN := Lib.hid (show lv 18446744073709551616 (l.take (k + 1)) = 0 by rw [lv_take_step, ← Hx.out, hlv.out, Nat.mul_zero])
      go_wp2_with fail
      go_round
      case rel => exact ⟨k + 1, hlt, by go_num, HN⟩
      case measure => simp [intOf] <;> omega
    · go_wp2_with fail
      refine (tz_any x w (by omega) hxl hT).mono ?_
      rintro e w' ⟨t, m, rfl, hm, ht, rfl⟩
      obtain ⟨q, hq⟩ := evens_val hlv.out hk Hx.out.symm hm ht
      have HQ := Lib.hid hq
      clear hq hm
      go_wp2_with fail
      go_ret
      exact ⟨64 * k + t, q, ret_int (by omega), HQ.out, by omega, rfl⟩

end Go.Proofs.YtnnffjolkgomhaaDoor.natL
