/- Walks: nat.words, nat.text. -/
import Derived.Test.YtjhoddlhdoiifaaGreatDoorNatA
import Derived.Test.YtjhoddlhdoiifaaGreatDoorDig
import Derived.RegionTactic
import Derived.BigRegion
import Derived.Deep.Cut
namespace Go.Proofs.YtjhoddlhdoiifaaGreatDoor.natB
open Go.RowKit num mem natA

theorem info155 : (Tryz.prog.info? 155).map (fun i => (i.zero, i.size, i.bytes)) = some (some (.int .u32 0), 1, 4) := by kernel_rfl
theorem info5 : (Tryz.prog.info? 5).map (fun i => (i.zero, i.size, i.bytes)) = some (some (.int .u8 0), 1, 1) := by kernel_rfl

theorem pow_bits (r : Nat) : (2 : Nat) ^ (r * 8) = 256 ^ r := by
  rw [Nat.mul_comm, Nat.pow_mul]
theorem pow_bits_le3 {r : Nat} (h : r ≤ 3) : (256 : Nat) ^ r ≤ 16777216 := by
  have : (256 : Nat) ^ r ≤ 256 ^ 3 := Nat.pow_le_pow_right (by omega) h
  simpa using this
theorem words_bits {n k p x : Nat} (hk : k < (enc n).size) (hp : ((enc n).size : Int) - 1 - (k : Int) = (p : Int)) (hp2 : p < (enc n).size) (hx : x < 256 ^ (k % 4)) :
    bits .or .u32 (x : Int) (((enc n)[p].toNat : Int) % 4294967296 * 2 ^ (k % 4 * 8) % 4294967296) = ((x + n / 256 ^ k % 256 * 256 ^ (k % 4) : Nat) : Int) := by
  obtain rfl : p = (enc n).size - 1 - k := by omega
  have e := enc_getElem n k hk
  rw [e]
  have hc : n / 256 ^ k % 256 < 256 := Nat.mod_lt _ (by omega)
  generalize n / 256 ^ k % 256 = c at hc
  have hr : k % 4 ≤ 3 := by omega
  generalize k % 4 = r at hx hr
  have hp3 := pow_bits_le3 hr
  have e2 : ((c : Int) % 4294967296 * 2 ^ (r * 8) % 4294967296) = ((c * 256 ^ r : Nat) : Int) := by
    have h1 : (c : Int) % 4294967296 = (c : Int) := by omega
    have h2 : ((2 : Int) ^ (r * 8)) = ((256 ^ r : Nat) : Int) := by rw [← pow_bits]; simp
    have h3 : c * 256 ^ r < 4294967296 := by
      have : c * 256 ^ r ≤ 255 * 16777216 := Nat.mul_le_mul (by omega) hp3
      omega
    rw [h1, h2, ← Int.natCast_mul]
    omega
  rw [e2]
  have hx' : x < 2 ^ (r * 8) := by rw [pow_bits]; exact hx
  have h3 : c * 256 ^ r ≤ 255 * 16777216 := Nat.mul_le_mul (by omega) hp3
  rw [u32_or_nat _ _ (by omega) (by omega), Nat.or_comm]
  have := or_shift (r * 8) c x hx'
  rw [pow_bits] at this
  rw [this, Nat.add_comm]

theorem words_any (s : ByteArray) (w : World) (hs : s.size ≤ 70368744177664) :
    Calls Tryz.prog 188 #[.string s] w fun e w' => ∃ b, e = .returned (.slice (some ⟨b, 0, none⟩) (wlen 4 (nv s)) (wlen 4 (nv s))) ∧ Row w' b 155 (nums .u32 (w32 (nv s))) ∧ w.heap.size ≤ b ∧ Below w.heap.size w w' := by
  have hz := Nat.le_trans (enc_nv_le s) hs
  obtain ⟨n, hn⟩ : ∃ n, n = nv s := ⟨_, rfl⟩
  rw [← hn] at hz ⊢
  have Hn := Lib.hid hn
  clear hn
  have hw : wlen 4 n ≤ 70368744177664 := by unfold wlen; omega
  go_enter Tryz.func188, Tryz.ntmps188
  go_wp2_with (first | (go_at_call 186; refine (trim_any _ _).mono ?_; rintro e w' ⟨rfl, rfl⟩; rw [← Hn.out]) | (at_make; refine wpList_make_row _ rfl _ _ _ rfl 155 _ 4 Tryz.underlying39 info155 rfl _ _ _ _ (wlen 4 n) rfl rfl (by unfold wlen; omega) (by unfold wlen; omega) (by omega) (by omega) ?_))
  intro w1 hR hg hsz
  have hB0 : Below w.heap.size w w1 := (Below.refl _ _).grown hg (Nat.le_refl _) (by simp)
  have hR0 : Row w1 w.heap.size 155 (nums .u32 (prt 4 n 0 (wlen 4 n))) := by rw [prt_zero]; simpa [nums] using hR
  clear hR hg
  go_wp2
  go_loopw [15] (fun i wr => ∃ k : Nat, k ≤ (enc n).size ∧ i = .int .i64 k ∧ Row wr w.heap.size 155 (nums .u32 (prt 4 n k (wlen 4 n))) ∧ Below w.heap.size w wr) (fun i _ => (enc n).size - (intOf i).toNat)
  case atStart => exact ⟨0, Nat.zero_le _, rfl, hR0, hB0⟩
  case round =>
    obtain ⟨k, hk, rfl, hRk, hBk⟩ := hrel
    clear hR0 hB0
    by_cases hlt : k < (enc n).size
    · have hq : k / 4 < wlen 4 n := by unfold wlen; omega
      obtain ⟨x, hx⟩ : ∃ x : Nat, x = (prt 4 n k (wlen 4 n)).getD (k / 4) 0 := ⟨_, rfl⟩
      have hc := hRk.int (i := k / 4) (by rw [prt_length]; exact hq)
      rw [← hx] at hc
      have hf := hRk.frozen (k / 4)
      have hxb : x < 256 ^ (k % 4) := by rw [hx]; exact prt_old (by omega) hq
      have Hxb := Lib.hid hxb
      have Hx := Lib.hid hx
      clear hx hxb
      obtain ⟨p, hp⟩ : ∃ p : Nat, ((enc n).size : Int) - 1 - (k : Int) = (p : Int) := ⟨(enc n).size - 1 - k, by omega⟩
      have hp2 : p < (enc n).size := by omega
      have Hp := Lib.hid hp
      clear hp
      go_wp2
      rw [Hp.out]
      go_region
      have hR' := hRk.int_set (k / 4) (x + n / 256 ^ k % 256 * 256 ^ (k % 4))
      rw [Hx.out, prt_step (by omega)] at hR'
      have HV := Lib.hid (words_bits hlt Hp.out hp2 Hxb.out)
      go_wp2
      go_roundw
      case rel => exact ⟨k + 1, by omega, by go_num, by rw [HV.out, Hx.out]; exact hR', (hBk.setCell (Nat.le_refl _) _).drew⟩
      case measure => simp [intOf]; omega
    · go_wp2
      go_ret
      refine ⟨w.heap.size, rfl, ?_, Nat.le_refl _, hBk⟩
      have hk' : k = (enc n).size := by omega
      have hn' : n < 256 ^ k := by rw [hk', ← enc_size_le]; exact Nat.le_refl _
      rw [prt_all (by omega) hn'] at hRk
      exact hRk

theorem bytes_row {w : World} {b T : Nat} {l : List Nat} (h : Row w b T (nums .u8 l)) (hl : ∀ d ∈ l, d < 256) (N : Nat) (hN : l.length = N) :
    (convert 211 9 (.slice (some ⟨b, 0, none⟩) N N)).run Tryz.prog w = .ok (.string ⟨(l.map fun d => UInt8.ofNat d).toArray⟩) w := by
  have := run_convert_bytes_back (P := Tryz.prog) w 211 9 5 ⟨b, 0, none⟩ N (l.map fun d => UInt8.ofNat d) Tryz.underlying211 Tryz.underlying5 Tryz.underlying9 (fun j hj => by
    have hj' : j < l.length := by simpa using hj
    have e := h.int hj'
    rw [Addr.add_lit, Nat.zero_add, e]
    have : l[j] < 256 := hl _ (List.getElem_mem hj')
    simp [List.getD, List.getElem?_eq_getElem hj']
    omega)
  simpa [hN] using this

theorem text_pre (b cap pc : Nat) (l : List Nat) (w : World) (hR : Pre w b 155 pc (nums .u32 l)) (hl : ∀ d ∈ l, d < 4294967296) (hs : l.length ≤ 70368744177664) :
    Calls Tryz.prog 189 #[.slice (some ⟨b, 0, none⟩) l.length cap] w fun e w' => e = .returned (.string (enc (lv 4294967296 l))) ∧ Below w.heap.size w w' := by
  have hb := hR.lt
  have HL := Lib.hid hl
  clear hl
  obtain ⟨V, hV⟩ : ∃ V, V = lv 4294967296 l := ⟨_, rfl⟩
  rw [← hV]
  have HV := Lib.hid hV
  clear hV
  go_enter Tryz.func189, Tryz.ntmps189
  go_wp2_with (first | (at_make; refine wpList_make_row _ rfl _ _ _ rfl 5 _ 1 Tryz.underlying211 info5 rfl _ _ _ _ (4 * l.length) rfl rfl (by omega) (by omega) (by omega) (by omega) ?_))
  intro w1 hR1 hg hsz
  have hB0 : Below w.heap.size w w1 := (Below.refl _ _).grown hg (Nat.le_refl _) (by simp)
  have hR0 : Row w1 w.heap.size 5 (nums .u8 (laidB V (4 * l.length) (4 * 0))) := by rw [Nat.mul_zero, laidB_zero]; simpa [nums] using hR1
  clear hR1 hg
  go_wp2
  go_loopw [13] (fun i wr => ∃ k : Nat, k ≤ l.length ∧ i = .int .i64 k ∧ Row wr w.heap.size 5 (nums .u8 (laidB V (4 * l.length) (4 * k))) ∧ Below w.heap.size w wr) (fun i _ => l.length - (intOf i).toNat)
  case atStart => exact ⟨0, Nat.zero_le _, rfl, hR0, hB0⟩
  case round =>
    obtain ⟨k, hk, rfl, hRk, hBk⟩ := hrel
    clear hR0 hB0
    by_cases hlt : k < l.length
    · obtain ⟨x, hx⟩ : ∃ x : Nat, x = l.getD k 0 := ⟨_, rfl⟩
      have hc := (hR.below hBk hb).int hlt
      rw [← hx] at hc
      have Hx := Lib.hid hx
      clear hx
      obtain ⟨p, hp⟩ : ∃ p : Nat, (4 : Int) * ((l.length : Int) - 1 - (k : Int)) = (p : Int) := ⟨4 * (l.length - 1 - k), by omega⟩
      have hp2 : p + 3 < 4 * l.length := by omega
      have Hp := Lib.hid hp
      clear hp
      have ll := laidB_length V (4 * l.length) (4 * k)
      have c0 := hRk.int (i := p) (by omega)
      have c1 := hRk.int (i := p + 1) (by omega)
      have c2 := hRk.int (i := p + 2) (by omega)
      have c3 := hRk.int (i := p + 3) (by omega)
      have f0 := hRk.frozen p
      have f1 := hRk.frozen (p + 1)
      have f2 := hRk.frozen (p + 2)
      have f3 := hRk.frozen (p + 3)
      clear ll
      go_upto_region 6 with (fail)
      rw [Hp.out]
      go_wp2
      go_roundw
      case rel =>
        refine ⟨k + 1, by omega, by go_num, ?_, (((hBk.setCell (Nat.le_refl _) _).setCell (Nat.le_refl _) _).setCell (Nat.le_refl _) _).setCell (Nat.le_refl _) _⟩
        have hp4 : p + 4 + 4 * k = 4 * l.length := by have := Hp.out; omega
        have hx' : x = V / 4294967296 ^ k % 4294967296 := by rw [Hx.out, HV.out]; exact getD_of_lv (by omega) HL.out hlt
        have b3 := byte_of_word (W := 4294967296) (s := 4) (V := V) (k := k) (t := 3) rfl (by omega)
        have b2 := byte_of_word (W := 4294967296) (s := 4) (V := V) (k := k) (t := 2) rfl (by omega)
        have b1 := byte_of_word (W := 4294967296) (s := 4) (V := V) (k := k) (t := 1) rfl (by omega)
        have b0 := byte_of_word (W := 4294967296) (s := 4) (V := V) (k := k) (t := 0) rfl (by omega)
        rw [← hx'] at b0 b1 b2 b3
        have hR' := (((hRk.int_set p (x / 256 ^ 3 % 256)).int_set (p + 1) (x / 256 ^ 2 % 256)).int_set (p + 2) (x / 256 ^ 1 % 256)).int_set (p + 3) (x / 256 ^ 0 % 256)
        have h4 : ((((laidB V (4 * l.length) (4 * k)).set p (x / 256 ^ 3 % 256)).set (p + 1) (x / 256 ^ 2 % 256)).set (p + 2) (x / 256 ^ 1 % 256)).set (p + 3) (x / 256 ^ 0 % 256) = laidB V (4 * l.length) (4 * (k + 1)) := by
          rw [b0, b1, b2, b3]; exact laidB_four hp4
        rw [h4] at hR'
        simpa using hR'
      case measure => simp [intOf]; omega
    · have hV' : V < 256 ^ (4 * l.length) := by
        rw [HV.out, Nat.pow_mul]; exact lv_lt HL.out
      have hk' : k = l.length := by omega
      rw [hk'] at hRk
      have hcv := bytes_row hRk (fun d hd => by
        simp only [laidB, List.mem_map] at hd
        obtain ⟨j, _, rfl⟩ := hd
        split
        · exact Nat.mod_lt _ (by omega)
        · omega) (4 * l.length) (laidB_length _ _ _)
      clear hk'
      have Hfin := Lib.hid (show nv ⟨((laidB V (4 * l.length) (4 * l.length)).map fun d => UInt8.ofNat d).toArray⟩ = V from nvl_laidB hV')
      clear hV'
      go_wp2_with (first | (go_at_call 186; refine (trim_any _ _).mono ?_; rintro e w' ⟨rfl, rfl⟩))
      go_ret
      exact ⟨ret_string (congrArg enc Hfin.out), hBk⟩

theorem text_any (b cap : Nat) (l : List Nat) (w : World) (hR : Row w b 155 (nums .u32 l)) (hl : ∀ d ∈ l, d < 4294967296) (hs : l.length ≤ 70368744177664) :
    Calls Tryz.prog 189 #[.slice (some ⟨b, 0, none⟩) l.length cap] w fun e w' => e = .returned (.string (enc (lv 4294967296 l))) ∧ Below w.heap.size w w' :=
  text_pre b cap _ l w hR.pre hl hs

end Go.Proofs.YtjhoddlhdoiifaaGreatDoor.natB
