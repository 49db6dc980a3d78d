/- Joined by wip/bundle.py: XDig XNatB. -/
import Derived.Test.YtjhoddlhdoiifaaGreatDoorGrpB
import Derived.Test.YtjhoddlhdoiifaaGreatDoorNatA
import Derived.RegionTactic
import Derived.BigRegion
import Derived.Deep.Cut
/- Plain arithmetic, no program: numbers as lists of digits, least significant first, in any base. -/
namespace Go.Proofs.YtjhoddlhdoiifaaGreatDoor.num

/-- the number of a list of digits, least significant first -/
def lv (B : Nat) (l : List Nat) : Nat := l.foldr (fun d a => d + B * a) 0
/-- N digits of a number -/
def dg (B n N : Nat) : List Nat := (List.range N).map fun j => n / B ^ j % B

theorem lv_nil (B : Nat) : lv B [] = 0 := rfl
theorem lv_cons (B d : Nat) (l : List Nat) : lv B (d :: l) = d + B * lv B l := rfl
theorem lv_append (B : Nat) (a b : List Nat) : lv B (a ++ b) = lv B a + B ^ a.length * lv B b := by
  induction a with
  | nil => simp [lv]
  | cons d a ih =>
    rw [List.cons_append, lv_cons, lv_cons, ih, List.length_cons, Nat.pow_succ, Nat.mul_add, Nat.add_assoc, Nat.mul_comm (B ^ a.length) B, Nat.mul_assoc]
theorem lv_snoc (B : Nat) (a : List Nat) (d : Nat) : lv B (a ++ [d]) = lv B a + B ^ a.length * d := by
  rw [lv_append, lv_cons, lv_nil, Nat.mul_zero, Nat.add_zero]
theorem lv_lt {B : Nat} {l : List Nat} (h : ∀ d ∈ l, d < B) : lv B l < B ^ l.length := by
  induction l with
  | nil => simp [lv]
  | cons d l ih =>
    have h1 := h d (by simp)
    have h2 := ih fun x hx => h x (by simp [hx])
    rw [lv_cons, List.length_cons, Nat.pow_succ, Nat.mul_comm _ B]
    have : B * (lv B l + 1) ≤ B * B ^ l.length := Nat.mul_le_mul_left _ h2
    rw [Nat.mul_add] at this
    omega
theorem lv_take_succ (B : Nat) (l : List Nat) (k : Nat) (h : k < l.length) : lv B (l.take (k + 1)) = lv B (l.take k) + B ^ k * l.getD k 0 := by
  rw [List.take_succ_eq_append_getElem h, lv_snoc]
  simp [List.getD, List.getElem?_eq_getElem h, Nat.min_eq_left (Nat.le_of_lt h)]
theorem dg_length (B n N : Nat) : (dg B n N).length = N := by simp [dg]
theorem dg_getD {B n N j : Nat} (h : j < N) : (dg B n N).getD j 0 = n / B ^ j % B := by
  simp [dg, List.getD, h]
theorem dg_lt {B : Nat} (hB : 0 < B) (n N : Nat) : ∀ d ∈ dg B n N, d < B := by
  intro d hd
  simp only [dg, List.mem_map] at hd
  obtain ⟨j, _, rfl⟩ := hd
  exact Nat.mod_lt _ hB
theorem dg_succ (B n N : Nat) : dg B n (N + 1) = n % B :: dg B (n / B) N := by
  simp only [dg, List.range_succ_eq_map, List.map_cons, List.map_map, Nat.pow_zero, Nat.div_one]
  congr 1
  apply List.map_congr_left
  intro j _
  simp only [Function.comp, Nat.pow_succ, Nat.mul_comm _ B, Nat.div_div_eq_div_mul]
theorem lv_dg (B n N : Nat) : lv B (dg B n N) = n % B ^ N := by
  induction N generalizing n with
  | zero => simp [dg, lv, Nat.mod_one]
  | succ N ih =>
    rw [dg_succ, lv_cons, ih, Nat.pow_succ, Nat.mul_comm _ B, Nat.mod_mul]
theorem lv_dg_of_lt {B n N : Nat} (h : n < B ^ N) : lv B (dg B n N) = n := by rw [lv_dg, Nat.mod_eq_of_lt h]
theorem dg_lv {B : Nat} {l : List Nat} (hB : 0 < B) (h : ∀ d ∈ l, d < B) : dg B (lv B l) l.length = l := by
  induction l with
  | nil => simp [dg]
  | cons d l ih =>
    have h1 := h d (by simp)
    rw [List.length_cons, dg_succ, lv_cons]
    have e1 : (d + B * lv B l) % B = d := by rw [Nat.add_mul_mod_self_left, Nat.mod_eq_of_lt h1]
    have e2 : (d + B * lv B l) / B = lv B l := by rw [Nat.add_mul_div_left _ _ hB, Nat.div_eq_of_lt h1, Nat.zero_add]
    rw [e1, e2, ih fun x hx => h x (by simp [hx])]
theorem lv_replicate_zero (B k : Nat) : lv B (List.replicate k 0) = 0 := by
  induction k with
  | zero => rfl
  | succ k ih => rw [List.replicate_succ, lv_cons, ih]; simp
theorem list_ext_getD {a b : List Nat} (hl : a.length = b.length) (h : ∀ j, j < a.length → a.getD j 0 = b.getD j 0) : a = b := by
  apply List.ext_getElem hl
  intro j h1 h2
  have := h j h1
  simpa [List.getD, List.getElem?_eq_getElem h1, List.getElem?_eq_getElem h2] using this
theorem range_map_getD {N j : Nat} (f : Nat → Nat) (h : j < N) : ((List.range N).map f).getD j 0 = f j := by simp [List.getD, h]
theorem range_map_set {N q x : Nat} (f g : Nat → Nat) (hx : q < N → x = g q) (h : ∀ j, j < N → j ≠ q → f j = g j) : ((List.range N).map f).set q x = (List.range N).map g := by
  apply list_ext_getD (by simp)
  intro j hj
  have hj' : j < N := by simpa using hj
  rw [range_map_getD g hj']
  by_cases e : q = j
  · subst e
    simp [List.getD, hj', hx hj']
  · rw [← h j hj' (fun e' => e e'.symm)]
    simp [List.getD, e, hj']

/-! ### the bytes of the shortest string -/
theorem digs_getElem : ∀ (n i : Nat) (h : i < (digs n).length), ((digs n)[(digs n).length - 1 - i]'(by omega)).toNat = n / 256 ^ i % 256 := by
  intro n
  induction n using Nat.strongRecOn with
  | ind n ih =>
    intro i h
    by_cases h0 : n = 0
    · subst h0; simp [digs_zero] at h
    · have e := digs_pos h0
      have hl : (digs n).length = (digs (n / 256)).length + 1 := by rw [e]; simp
      cases i with
      | zero =>
        have : (digs n)[(digs n).length - 1 - 0]'(by omega) = UInt8.ofNat (n % 256) := by
          simp only [e, List.length_append, List.length_cons, List.length_nil]
          simp
        rw [this]
        simp
      | succ i =>
        have hi : i < (digs (n / 256)).length := by omega
        have : (digs n)[(digs n).length - 1 - (i + 1)]'(by omega) = (digs (n / 256))[(digs (n / 256)).length - 1 - i]'(by omega) := by
          simp only [e, List.length_append, List.length_cons, List.length_nil]
          rw [List.getElem_append_left (by omega)]
          congr 1
          omega
        rw [this, ih (n / 256) (by omega) i hi, Nat.pow_succ, Nat.mul_comm _ 256, Nat.div_div_eq_div_mul]
theorem enc_getElem (n i : Nat) (h : i < (enc n).size) : ((enc n)[(enc n).size - 1 - i]'(by omega)).toNat = n / 256 ^ i % 256 := by
  have hs := enc_size n
  have h' : i < (digs n).length := by omega
  have := digs_getElem n i h'
  rw [← this]
  have e : (enc n)[(enc n).size - 1 - i]'(by omega) = (enc n).data.toList[(enc n).size - 1 - i]'(by rw [enc_data]; omega) := rfl
  rw [e]
  simp only [enc_data, hs]

/-- the number of words of s bytes of a number -/
def wlen (s n : Nat) : Nat := ((enc n).size + (s - 1)) / s
theorem lt_wlen {s n : Nat} (hs : 0 < s) : n < (256 ^ s) ^ wlen s n := by
  rw [← Nat.pow_mul, ← enc_size_le]
  unfold wlen
  have := Nat.div_add_mod ((enc n).size + (s - 1)) s
  have h2 := Nat.mod_lt ((enc n).size + (s - 1)) hs
  omega
theorem wlen_le {s n k : Nat} (hs : 0 < s) : wlen s n ≤ k ↔ n < (256 ^ s) ^ k := by
  constructor
  · intro h
    exact Nat.lt_of_lt_of_le (lt_wlen hs) (Nat.pow_le_pow_right (Nat.pow_pos (by omega)) h)
  · intro h
    rw [← Nat.pow_mul, ← enc_size_le] at h
    unfold wlen
    have : (enc n).size + (s - 1) < s * (k + 1) := by rw [Nat.mul_add]; omega
    have := (Nat.div_lt_iff_lt_mul (x := (enc n).size + (s - 1)) (y := k + 1) hs).2 (by rw [Nat.mul_comm]; exact this)
    omega
/-- the digits of a number in base 2^32 -/
def w32 (n : Nat) : List Nat := dg 4294967296 n (wlen 4 n)
theorem w32_length (n : Nat) : (w32 n).length = wlen 4 n := dg_length _ _ _
theorem w32_lt (n : Nat) : ∀ d ∈ w32 n, d < 4294967296 := dg_lt (by omega) _ _
theorem lv_w32 (n : Nat) : lv 4294967296 (w32 n) = n := lv_dg_of_lt (by have := @lt_wlen 4 n (by omega); simpa using this)

/-- the first i bytes (from the lowest) of a number, in words of s bytes -/
def prt (s n i N : Nat) : List Nat := (List.range N).map fun j => n / (256 ^ s) ^ j % 256 ^ min s (i - s * j)
theorem prt_zero (s n N : Nat) : prt s n 0 N = List.replicate N 0 := by
  apply list_ext_getD (by simp [prt])
  intro j hj
  have hj' : j < N := by simpa [prt] using hj
  unfold prt
  rw [range_map_getD _ hj']
  simp [Nat.mod_one, List.getD, hj']
theorem prt_length (s n i N : Nat) : (prt s n i N).length = N := by simp [prt]
theorem prt_all {s n i N : Nat} (_hs : 0 < s) (hn : n < 256 ^ i) : prt s n i N = dg (256 ^ s) n N := by
  apply list_ext_getD (by simp [prt, dg])
  intro j hj
  have hj' : j < N := by simpa [prt] using hj
  rw [dg_getD hj']
  unfold prt
  rw [range_map_getD _ hj']
  by_cases h : i - s * j ≤ s
  · rw [Nat.min_eq_right h]
    have h1 : n / (256 ^ s) ^ j < 256 ^ (i - s * j) := by
      rw [← Nat.pow_mul]
      by_cases h2 : s * j ≤ i
      · rw [Nat.div_lt_iff_lt_mul (Nat.pow_pos (by omega)), ← Nat.pow_add, show i - s * j + s * j = i by omega]; exact hn
      · have : n < 256 ^ (s * j) := Nat.lt_of_lt_of_le hn (Nat.pow_le_pow_right (by omega) (by omega))
        rw [Nat.div_eq_of_lt this]; exact Nat.pow_pos (by omega)
    rw [Nat.mod_eq_of_lt h1, Nat.mod_eq_of_lt (Nat.lt_of_lt_of_le h1 (Nat.pow_le_pow_right (by omega) h))]
  · rw [Nat.min_eq_left (by omega)]
theorem prt_step {s n i N : Nat} (hs : 0 < s) :
    (prt s n i N).set (i / s) ((prt s n i N).getD (i / s) 0 + n / 256 ^ i % 256 * 256 ^ (i % s)) = prt s n (i + 1) N := by
  have hd := Nat.div_add_mod i s
  have hm := Nat.mod_lt i hs
  refine range_map_set _ _ ?_ ?_
  · intro hq
    unfold prt
    rw [range_map_getD _ hq]
    rw [show i - s * (i / s) = i % s by omega, show i + 1 - s * (i / s) = i % s + 1 by omega, Nat.min_eq_right (by omega), Nat.min_eq_right (by omega), Nat.mod_pow_succ]
    have : n / (256 ^ s) ^ (i / s) / 256 ^ (i % s) = n / 256 ^ i := by
      rw [Nat.div_div_eq_div_mul, ← Nat.pow_mul, ← Nat.pow_add, hd]
    rw [this, Nat.mul_comm (256 ^ (i % s))]
  · intro j _ hne
    show n / (256 ^ s) ^ j % 256 ^ min s (i - s * j) = n / (256 ^ s) ^ j % 256 ^ min s (i + 1 - s * j)
    congr 2
    rcases Nat.lt_or_gt_of_ne hne with h | h
    · have : s * (j + 1) ≤ s * (i / s) := Nat.mul_le_mul_left _ h
      rw [Nat.mul_add] at this
      omega
    · have : s * (i / s + 1) ≤ s * j := Nat.mul_le_mul_left _ h
      rw [Nat.mul_add] at this
      omega
theorem prt_old {s n i N : Nat} (hs : 0 < s) (hq : i / s < N) : (prt s n i N).getD (i / s) 0 < 256 ^ (i % s) := by
  have hd := Nat.div_add_mod i s
  have hm := Nat.mod_lt i hs
  unfold prt
  rw [range_map_getD _ hq, show i - s * (i / s) = i % s by omega, Nat.min_eq_right (by omega)]
  exact Nat.mod_lt _ (Nat.pow_pos (by omega))

/-- the bytes of digits in words of s bytes, the last i words laid from the end on: places of a string of L bytes -/
def laidB (V L k : Nat) : List Nat := (List.range L).map fun p => if L - k ≤ p then V / 256 ^ (L - 1 - p) % 256 else 0
theorem laidB_length (V L k : Nat) : (laidB V L k).length = L := by simp [laidB]
theorem laidB_zero (V L : Nat) : laidB V L 0 = List.replicate L 0 := by
  apply list_ext_getD (by simp [laidB])
  intro j hj
  have hj' : j < L := by simpa [laidB] using hj
  unfold laidB
  rw [range_map_getD _ hj', if_neg (by omega)]
  simp [List.getD, hj']
theorem laidB_set {V L k : Nat} (h : k < L) : (laidB V L k).set (L - 1 - k) (V / 256 ^ k % 256) = laidB V L (k + 1) := by
  refine range_map_set _ _ ?_ ?_
  · intro hq
    rw [if_pos (by omega), show L - 1 - (L - 1 - k) = k by omega]
  · intro j hj hne
    by_cases h1 : L - k ≤ j
    · rw [if_pos h1, if_pos (by omega)]
    · rw [if_neg h1, if_neg (by omega)]
theorem laidB_four {V L k p : Nat} (hp : p + 4 + 4 * k = L) :
    ((((laidB V L (4 * k)).set p (V / 256 ^ (4 * k + 3) % 256)).set (p + 1) (V / 256 ^ (4 * k + 2) % 256)).set (p + 2) (V / 256 ^ (4 * k + 1) % 256)).set (p + 3) (V / 256 ^ (4 * k) % 256) = laidB V L (4 * (k + 1)) := by
  rw [List.set_comm _ _ (show p ≠ p + 1 by omega), List.set_comm _ _ (show p ≠ p + 2 by omega), List.set_comm _ _ (show p ≠ p + 3 by omega),
    List.set_comm _ _ (show p + 1 ≠ p + 2 by omega), List.set_comm _ _ (show p + 1 ≠ p + 3 by omega), List.set_comm _ _ (show p + 2 ≠ p + 3 by omega)]
  rw [show p + 3 = L - 1 - 4 * k by omega, laidB_set (by omega), show p + 2 = L - 1 - (4 * k + 1) by omega, laidB_set (by omega),
    show p + 1 = L - 1 - (4 * k + 1 + 1) by omega, laidB_set (by omega), show p = L - 1 - (4 * k + 1 + 1 + 1) by omega, laidB_set (by omega)]
  rfl
theorem byte_of_word {W s V k t : Nat} (hW : W = 256 ^ s) (ht : t < s) : V / W ^ k % W / 256 ^ t % 256 = V / 256 ^ (s * k + t) % 256 := by
  subst hW
  rw [← Nat.pow_mul, Nat.pow_add, ← Nat.div_div_eq_div_mul]
  generalize V / 256 ^ (s * k) = m
  have e : 256 ^ s = 256 ^ t * 256 ^ (s - t) := by rw [← Nat.pow_add]; congr 1; omega
  rw [e, Nat.mod_mul_right_div_self]
  obtain ⟨r, hr⟩ : ∃ r, s - t = r + 1 := ⟨s - t - 1, by omega⟩
  rw [hr, Nat.pow_succ, Nat.mod_mul_left_mod]
theorem getD_of_lv {B : Nat} {l : List Nat} (hB : 0 < B) (h : ∀ d ∈ l, d < B) {k : Nat} (hk : k < l.length) : l.getD k 0 = lv B l / B ^ k % B := by
  have e := dg_getD (B := B) (n := lv B l) hk
  rwa [dg_lv hB h] at e
/-- the number of a list of bytes given by numbers -/
theorem nvl_ofNats (l : List Nat) (h : ∀ d ∈ l, d < 256) : nvl (l.map fun d => UInt8.ofNat d) = lv 256 l.reverse := by
  have e : ∀ l : List Nat, (∀ d ∈ l, d < 256) → nvl (l.reverse.map fun d => UInt8.ofNat d) = lv 256 l := by
    intro l
    induction l with
    | nil => intro _; rfl
    | cons d l ih =>
      intro h
      have hd := h d (by simp)
      rw [List.reverse_cons, List.map_append, List.map_cons, List.map_nil, nvl_snoc, ih fun x hx => h x (by simp [hx]), lv_cons]
      have : (UInt8.ofNat d).toNat = d := by simp; omega
      omega
  have := e l.reverse (fun d hd => h d (by simpa using hd))
  rwa [List.reverse_reverse] at this
theorem laidB_all (V L : Nat) : (laidB V L L).reverse = dg 256 V L := by
  apply list_ext_getD (by simp [laidB, dg])
  intro j hj
  have hj' : j < L := by simpa [laidB] using hj
  rw [dg_getD hj']
  simp only [laidB, List.getD, List.getElem?_reverse (show j < ((List.range L).map _).length by simpa using hj')]
  simp [show L - 1 - j < L by omega, show L - 1 - (L - 1 - j) = j by omega]
theorem nvl_laidB {V L : Nat} (h : V < 256 ^ L) : nvl ((laidB V L L).map fun d => UInt8.ofNat d) = V := by
  rw [nvl_ofNats, laidB_all, lv_dg_of_lt h]
  intro d hd
  simp only [laidB, List.mem_map] at hd
  obtain ⟨j, _, rfl⟩ := hd
  split
  · exact Nat.mod_lt _ (by omega)
  · omega

/-! ### digits one after the other -/
theorem append_set_drop {Z X : List Nat} {k n : Nat} (hZ : Z.length = k) (hk : k < X.length) : (Z ++ X.drop k).set k n = (Z ++ [n]) ++ X.drop (k + 1) := by
  rw [List.set_append_right _ _ (by omega), List.append_assoc]
  congr 1
  rw [show k - Z.length = 0 by omega, ← List.getElem_cons_drop hk]
  rfl
theorem append_drop_getD {Z X : List Nat} {k : Nat} (hZ : Z.length = k) : (Z ++ X.drop k).getD k 0 = X.getD k 0 := by
  simp [List.getD, hZ, List.getElem?_append_right]
theorem all_snoc {B : Nat} {Z : List Nat} {n : Nat} (h : ∀ d ∈ Z, d < B) (hn : n < B) : ∀ d ∈ Z ++ [n], d < B := by
  intro d hd
  rcases List.mem_append.1 hd with h1 | h1
  · exact h d h1
  · rw [List.mem_singleton] at h1; rw [h1]; exact hn
theorem lv_take_of_le (B : Nat) (l : List Nat) {k : Nat} (h : l.length ≤ k) : lv B (l.take k) = lv B l := by rw [List.take_of_length_le h]
theorem getD_lt {B : Nat} {l : List Nat} (hB : 0 < B) (h : ∀ d ∈ l, d < B) (k : Nat) : l.getD k 0 < B := by
  by_cases hk : k < l.length
  · simp only [List.getD, List.getElem?_eq_getElem hk, Option.getD_some]; exact h _ (List.getElem_mem hk)
  · simp only [List.getD, List.getElem?_eq_none (Nat.le_of_not_lt hk), Option.getD_none]; exact hB
theorem lv_take_step (B : Nat) (l : List Nat) (k : Nat) : lv B (l.take (k + 1)) = lv B (l.take k) + B ^ k * l.getD k 0 := by
  by_cases h : k < l.length
  · exact lv_take_succ B l k h
  · rw [lv_take_of_le B l (by omega), lv_take_of_le B l (by omega)]
    simp [List.getD, List.getElem?_eq_none (Nat.le_of_not_lt h)]
theorem sub_digit {B : Nat} {Z X Y : List Nat} {k c n C : Nat} (hZ : Z.length = k) (h : lv B Z + lv B (Y.take k) = lv B (X.take k) + c * B ^ k) (hs : n + Y.getD k 0 + c = X.getD k 0 + C * B) :
    lv B (Z ++ [n]) + lv B (Y.take (k + 1)) = lv B (X.take (k + 1)) + C * B ^ (k + 1) := by
  rw [lv_snoc, lv_take_step, lv_take_step, hZ, Nat.pow_succ]
  have := congrArg (fun v => B ^ k * v) hs
  simp only [Nat.mul_add] at this
  rw [show C * (B ^ k * B) = B ^ k * (C * B) by rw [Nat.mul_left_comm], Nat.mul_comm c] at *
  omega
theorem add_digit {B : Nat} {Z X Y : List Nat} {k c n C : Nat} (hZ : Z.length = k) (h : lv B Z + c * B ^ k = lv B (X.take k) + lv B (Y.take k)) (hs : n + C * B = c + X.getD k 0 + Y.getD k 0) :
    lv B (Z ++ [n]) + C * B ^ (k + 1) = lv B (X.take (k + 1)) + lv B (Y.take (k + 1)) := by
  rw [lv_snoc, lv_take_step, lv_take_step, hZ, Nat.pow_succ]
  have := congrArg (fun v => B ^ k * v) hs
  simp only [Nat.mul_add] at this
  rw [show C * (B ^ k * B) = B ^ k * (C * B) by rw [Nat.mul_left_comm], Nat.mul_comm c] at *
  omega

/-! ### a list reversed in place, two places at a time -/
end Go.Proofs.YtjhoddlhdoiifaaGreatDoor.num

/- Walks: nat.words, nat.text. -/
namespace Go.Proofs.YtjhoddlhdoiifaaGreatDoor.natB
open Go.RowKit num mem natA

theorem info155 : (Tryz.prog.info? 155).map (fun i => (i.zero, i.size, i.bytes)) = some (some (.int .u32 0), 1, 4) := by kernel_rfl
theorem info5 : (Tryz.prog.info? 5).map (fun i => (i.zero, i.size, i.bytes)) = some (some (.int .u8 0), 1, 1) := by kernel_rfl

theorem pow_bits (r : Nat) : (2 : Nat) ^ (r * 8) = 256 ^ r := by
  rw [Nat.mul_comm, Nat.pow_mul]
theorem pow_bits_le3 {r : Nat} (h : r ≤ 3) : (256 : Nat) ^ r ≤ 16777216 := by
  have : (256 : Nat) ^ r ≤ 256 ^ 3 := Nat.pow_le_pow_right (by omega) h
  simpa using this
theorem words_bits {n k p x : Nat} (hk : k < (enc n).size) (hp : ((enc n).size : Int) - 1 - (k : Int) = (p : Int)) (hp2 : p < (enc n).size) (hx : x < 256 ^ (k % 4)) :
    bits .or .u32 (x : Int) (((enc n)[p].toNat : Int) % 4294967296 * 2 ^ (k % 4 * 8) % 4294967296) = ((x + n / 256 ^ k % 256 * 256 ^ (k % 4) : Nat) : Int) := by
  obtain rfl : p = (enc n).size - 1 - k := by omega
  have e := enc_getElem n k hk
  rw [e]
  have hc : n / 256 ^ k % 256 < 256 := Nat.mod_lt _ (by omega)
  generalize n / 256 ^ k % 256 = c at hc
  have hr : k % 4 ≤ 3 := by omega
  generalize k % 4 = r at hx hr
  have hp3 := pow_bits_le3 hr
  have e2 : ((c : Int) % 4294967296 * 2 ^ (r * 8) % 4294967296) = ((c * 256 ^ r : Nat) : Int) := by
    have h1 : (c : Int) % 4294967296 = (c : Int) := by omega
    have h2 : ((2 : Int) ^ (r * 8)) = ((256 ^ r : Nat) : Int) := by rw [← pow_bits]; simp
    have h3 : c * 256 ^ r < 4294967296 := by
      have : c * 256 ^ r ≤ 255 * 16777216 := Nat.mul_le_mul (by omega) hp3
      omega
    rw [h1, h2, ← Int.natCast_mul]
    omega
  rw [e2]
  have hx' : x < 2 ^ (r * 8) := by rw [pow_bits]; exact hx
  have h3 : c * 256 ^ r ≤ 255 * 16777216 := Nat.mul_le_mul (by omega) hp3
  rw [u32_or_nat _ _ (by omega) (by omega), Nat.or_comm]
  have := or_shift (r * 8) c x hx'
  rw [pow_bits] at this
  rw [this, Nat.add_comm]

theorem words_any (s : ByteArray) (w : World) (hs : s.size ≤ 70368744177664) :
    Calls Tryz.prog 188 #[.string s] w fun e w' => ∃ b, e = .returned (.slice (some ⟨b, 0, none⟩) (wlen 4 (nv s)) (wlen 4 (nv s))) ∧ Row w' b 155 (nums .u32 (w32 (nv s))) ∧ w.heap.size ≤ b ∧ Below w.heap.size w w' := by
  have hz := Nat.le_trans (enc_nv_le s) hs
  obtain ⟨n, hn⟩ : ∃ n, n = nv s := ⟨_, rfl⟩
  rw [← hn] at hz ⊢
  have Hn := Lib.hid hn
  clear hn
  have hw : wlen 4 n ≤ 70368744177664 := by unfold wlen; omega
  go_enter Tryz.func188, Tryz.ntmps188
  go_wp2_with (first | (go_at_call 186; refine (trim_any _ _).mono ?_; rintro e w' ⟨rfl, rfl⟩; rw [← Hn.out]) | (at_make; refine wpList_make_row _ rfl _ _ _ rfl 155 _ 4 Tryz.underlying39 info155 rfl _ _ _ _ (wlen 4 n) rfl rfl (by unfold wlen; omega) (by unfold wlen; omega) (by omega) (by omega) ?_))
  intro w1 hR hg hsz
  have hB0 : Below w.heap.size w w1 := (Below.refl _ _).grown hg (Nat.le_refl _) (by simp)
  have hR0 : Row w1 w.heap.size 155 (nums .u32 (prt 4 n 0 (wlen 4 n))) := by rw [prt_zero]; simpa [nums] using hR
  clear hR hg
  go_wp2
  go_loopw [15] (fun i wr => ∃ k : Nat, k ≤ (enc n).size ∧ i = .int .i64 k ∧ Row wr w.heap.size 155 (nums .u32 (prt 4 n k (wlen 4 n))) ∧ Below w.heap.size w wr) (fun i _ => (enc n).size - (intOf i).toNat)
  case atStart => exact ⟨0, Nat.zero_le _, rfl, hR0, hB0⟩
  case round =>
    obtain ⟨k, hk, rfl, hRk, hBk⟩ := hrel
    clear hR0 hB0
    by_cases hlt : k < (enc n).size
    · have hq : k / 4 < wlen 4 n := by unfold wlen; omega
      obtain ⟨x, hx⟩ : ∃ x : Nat, x = (prt 4 n k (wlen 4 n)).getD (k / 4) 0 := ⟨_, rfl⟩
      have hc := hRk.int (i := k / 4) (by rw [prt_length]; exact hq)
      rw [← hx] at hc
      have hf := hRk.frozen (k / 4)
      have hxb : x < 256 ^ (k % 4) := by rw [hx]; exact prt_old (by omega) hq
      have Hxb := Lib.hid hxb
      have Hx := Lib.hid hx
      clear hx hxb
      obtain ⟨p, hp⟩ : ∃ p : Nat, ((enc n).size : Int) - 1 - (k : Int) = (p : Int) := ⟨(enc n).size - 1 - k, by omega⟩
      have hp2 : p < (enc n).size := by omega
      have Hp := Lib.hid hp
      clear hp
      go_wp2
      rw [Hp.out]
      go_region
      have hR' := hRk.int_set (k / 4) (x + n / 256 ^ k % 256 * 256 ^ (k % 4))
      rw [Hx.out, prt_step (by omega)] at hR'
      have HV := Lib.hid (words_bits hlt Hp.out hp2 Hxb.out)
      go_wp2
      go_roundw
      case rel => exact ⟨k + 1, by omega, by go_num, by rw [HV.out, Hx.out]; exact hR', (hBk.setCell (Nat.le_refl _) _).drew⟩
      case measure => simp [intOf]; omega
    · go_wp2
      go_ret
      refine ⟨w.heap.size, rfl, ?_, Nat.le_refl _, hBk⟩
      have hk' : k = (enc n).size := by omega
      have hn' : n < 256 ^ k := by rw [hk', ← enc_size_le]; exact Nat.le_refl _
      rw [prt_all (by omega) hn'] at hRk
      exact hRk

theorem bytes_row {w : World} {b T : Nat} {l : List Nat} (h : Row w b T (nums .u8 l)) (hl : ∀ d ∈ l, d < 256) (N : Nat) (hN : l.length = N) :
    (convert 211 9 (.slice (some ⟨b, 0, none⟩) N N)).run Tryz.prog w = .ok (.string ⟨(l.map fun d => UInt8.ofNat d).toArray⟩) w := by
  have := run_convert_bytes_back (P := Tryz.prog) w 211 9 5 ⟨b, 0, none⟩ N (l.map fun d => UInt8.ofNat d) Tryz.underlying211 Tryz.underlying5 Tryz.underlying9 (fun j hj => by
    have hj' : j < l.length := by simpa using hj
    have e := h.int hj'
    rw [Addr.add_lit, Nat.zero_add, e]
    have : l[j] < 256 := hl _ (List.getElem_mem hj')
    simp [List.getD, List.getElem?_eq_getElem hj']
    omega)
  simpa [hN] using this

theorem text_pre (b cap pc : Nat) (l : List Nat) (w : World) (hR : Pre w b 155 pc (nums .u32 l)) (hl : ∀ d ∈ l, d < 4294967296) (hs : l.length ≤ 70368744177664) :
    Calls Tryz.prog 189 #[.slice (some ⟨b, 0, none⟩) l.length cap] w fun e w' => e = .returned (.string (enc (lv 4294967296 l))) ∧ Below w.heap.size w w' := by
  have hb := hR.lt
  have HL := Lib.hid hl
  clear hl
  obtain ⟨V, hV⟩ : ∃ V, V = lv 4294967296 l := ⟨_, rfl⟩
  rw [← hV]
  have HV := Lib.hid hV
  clear hV
  go_enter Tryz.func189, Tryz.ntmps189
  go_wp2_with (first | (at_make; refine wpList_make_row _ rfl _ _ _ rfl 5 _ 1 Tryz.underlying211 info5 rfl _ _ _ _ (4 * l.length) rfl rfl (by omega) (by omega) (by omega) (by omega) ?_))
  intro w1 hR1 hg hsz
  have hB0 : Below w.heap.size w w1 := (Below.refl _ _).grown hg (Nat.le_refl _) (by simp)
  have hR0 : Row w1 w.heap.size 5 (nums .u8 (laidB V (4 * l.length) (4 * 0))) := by rw [Nat.mul_zero, laidB_zero]; simpa [nums] using hR1
  clear hR1 hg
  go_wp2
  go_loopw [13] (fun i wr => ∃ k : Nat, k ≤ l.length ∧ i = .int .i64 k ∧ Row wr w.heap.size 5 (nums .u8 (laidB V (4 * l.length) (4 * k))) ∧ Below w.heap.size w wr) (fun i _ => l.length - (intOf i).toNat)
  case atStart => exact ⟨0, Nat.zero_le _, rfl, hR0, hB0⟩
  case round =>
    obtain ⟨k, hk, rfl, hRk, hBk⟩ := hrel
    clear hR0 hB0
    by_cases hlt : k < l.length
    · obtain ⟨x, hx⟩ : ∃ x : Nat, x = l.getD k 0 := ⟨_, rfl⟩
      have hc := (hR.below hBk hb).int hlt
      rw [← hx] at hc
      have Hx := Lib.hid hx
      clear hx
      obtain ⟨p, hp⟩ : ∃ p : Nat, (4 : Int) * ((l.length : Int) - 1 - (k : Int)) = (p : Int) := ⟨4 * (l.length - 1 - k), by omega⟩
      have hp2 : p + 3 < 4 * l.length := by omega
      have Hp := Lib.hid hp
      clear hp
      have ll := laidB_length V (4 * l.length) (4 * k)
      have c0 := hRk.int (i := p) (by omega)
      have c1 := hRk.int (i := p + 1) (by omega)
      have c2 := hRk.int (i := p + 2) (by omega)
      have c3 := hRk.int (i := p + 3) (by omega)
      have f0 := hRk.frozen p
      have f1 := hRk.frozen (p + 1)
      have f2 := hRk.frozen (p + 2)
      have f3 := hRk.frozen (p + 3)
      clear ll
      go_upto_region 6 with (fail)
      rw [Hp.out]
      go_wp2
      go_roundw
      case rel =>
        refine ⟨k + 1, by omega, by go_num, ?_, (((hBk.setCell (Nat.le_refl _) _).setCell (Nat.le_refl _) _).setCell (Nat.le_refl _) _).setCell (Nat.le_refl _) _⟩
        have hp4 : p + 4 + 4 * k = 4 * l.length := by have := Hp.out; omega
        have hx' : x = V / 4294967296 ^ k % 4294967296 := by rw [Hx.out, HV.out]; exact getD_of_lv (by omega) HL.out hlt
        have b3 := byte_of_word (W := 4294967296) (s := 4) (V := V) (k := k) (t := 3) rfl (by omega)
        have b2 := byte_of_word (W := 4294967296) (s := 4) (V := V) (k := k) (t := 2) rfl (by omega)
        have b1 := byte_of_word (W := 4294967296) (s := 4) (V := V) (k := k) (t := 1) rfl (by omega)
        have b0 := byte_of_word (W := 4294967296) (s := 4) (V := V) (k := k) (t := 0) rfl (by omega)
        rw [← hx'] at b0 b1 b2 b3
        have hR' := (((hRk.int_set p (x / 256 ^ 3 % 256)).int_set (p + 1) (x / 256 ^ 2 % 256)).int_set (p + 2) (x / 256 ^ 1 % 256)).int_set (p + 3) (x / 256 ^ 0 % 256)
        have h4 : ((((laidB V (4 * l.length) (4 * k)).set p (x / 256 ^ 3 % 256)).set (p + 1) (x / 256 ^ 2 % 256)).set (p + 2) (x / 256 ^ 1 % 256)).set (p + 3) (x / 256 ^ 0 % 256) = laidB V (4 * l.length) (4 * (k + 1)) := by
          rw [b0, b1, b2, b3]; exact laidB_four hp4
        rw [h4] at hR'
        simpa using hR'
      case measure => simp [intOf]; omega
    · have hV' : V < 256 ^ (4 * l.length) := by
        rw [HV.out, Nat.pow_mul]; exact lv_lt HL.out
      have hk' : k = l.length := by omega
      rw [hk'] at hRk
      have hcv := bytes_row hRk (fun d hd => by
        simp only [laidB, List.mem_map] at hd
        obtain ⟨j, _, rfl⟩ := hd
        split
        · exact Nat.mod_lt _ (by omega)
        · omega) (4 * l.length) (laidB_length _ _ _)
      clear hk'
      have Hfin := Lib.hid (show nv ⟨((laidB V (4 * l.length) (4 * l.length)).map fun d => UInt8.ofNat d).toArray⟩ = V from nvl_laidB hV')
      clear hV'
      go_wp2_with (first | (go_at_call 186; refine (trim_any _ _).mono ?_; rintro e w' ⟨rfl, rfl⟩))
      go_ret
      exact ⟨ret_string (congrArg enc Hfin.out), hBk⟩

theorem text_any (b cap : Nat) (l : List Nat) (w : World) (hR : Row w b 155 (nums .u32 l)) (hl : ∀ d ∈ l, d < 4294967296) (hs : l.length ≤ 70368744177664) :
    Calls Tryz.prog 189 #[.slice (some ⟨b, 0, none⟩) l.length cap] w fun e w' => e = .returned (.string (enc (lv 4294967296 l))) ∧ Below w.heap.size w w' :=
  text_pre b cap _ l w hR.pre hl hs

end Go.Proofs.YtjhoddlhdoiifaaGreatDoor.natB

