/- Plain arithmetic, no program: the number of a list of bytes in base 256, most significant byte first, and its shortest list of bytes. -/
import Derived.WalkKit
namespace Go.Proofs.Ytobeklcimmjodaa.num

/-- the number of a list of bytes, most significant first -/
def nvl (l : List UInt8) : Nat := l.foldl (fun a c => a * 256 + c.toNat) 0
/-- the number of a string -/
def nv (s : ByteArray) : Nat := nvl s.data.toList
/-- the shortest list of bytes with a number -/
def digs (n : Nat) : List UInt8 := if n = 0 then [] else digs (n / 256) ++ [UInt8.ofNat (n % 256)]
/-- the shortest string with a number -/
def enc (n : Nat) : ByteArray := ⟨(digs n).toArray⟩
/-- a list of bytes without zeros ahead -/
def strip (l : List UInt8) : List UInt8 := l.dropWhile (fun c => c == 0)

theorem foldl_nvl (l : List UInt8) : ∀ a, l.foldl (fun a c => a * 256 + c.toNat) a = a * 256 ^ l.length + nvl l := by
  induction l with
  | nil => intro a; simp [nvl]
  | cons c l ih =>
    intro a
    have h1 := ih (a * 256 + c.toNat)
    have h2 := ih (0 * 256 + c.toNat)
    simp only [nvl, List.foldl_cons] at h2 ⊢
    rw [h1, h2, List.length_cons, Nat.pow_succ]
    simp only [Nat.add_mul, Nat.zero_mul, Nat.zero_add, Nat.mul_assoc, Nat.mul_comm 256, nvl]
    omega

theorem nvl_nil : nvl [] = 0 := rfl
theorem nvl_cons (c : UInt8) (l : List UInt8) : nvl (c :: l) = c.toNat * 256 ^ l.length + nvl l := by
  have := foldl_nvl l c.toNat
  simpa [nvl] using this
theorem nvl_append (a b : List UInt8) : nvl (a ++ b) = nvl a * 256 ^ b.length + nvl b := by
  have := foldl_nvl b (nvl a)
  simpa [nvl, List.foldl_append] using this
theorem nvl_snoc (a : List UInt8) (c : UInt8) : nvl (a ++ [c]) = nvl a * 256 + c.toNat := by
  simp [nvl]
theorem nvl_zero_cons (l : List UInt8) : nvl (0 :: l) = nvl l := by simp [nvl_cons]
theorem nvl_lt (l : List UInt8) : nvl l < 256 ^ l.length := by
  induction l with
  | nil => simp [nvl]
  | cons c l ih =>
    rw [nvl_cons, List.length_cons, Nat.pow_succ]
    have hc : c.toNat ≤ 255 := by have := c.toNat_lt; omega
    have : c.toNat * 256 ^ l.length ≤ 255 * 256 ^ l.length := Nat.mul_le_mul_right _ hc
    omega

theorem digs_zero : digs 0 = [] := by rw [digs]; simp
theorem digs_pos {n : Nat} (h : n ≠ 0) : digs n = digs (n / 256) ++ [UInt8.ofNat (n % 256)] := by
  rw [digs, if_neg h]
theorem toNat_ofNat_mod (n : Nat) : (UInt8.ofNat (n % 256)).toNat = n % 256 := by simp
theorem nvl_digs (n : Nat) : nvl (digs n) = n := by
  induction n using Nat.strongRecOn with
  | ind n ih =>
    by_cases h : n = 0
    · subst h; rw [digs_zero]; rfl
    · rw [digs_pos h, nvl_snoc, ih (n / 256) (by omega), toNat_ofNat_mod]; omega
theorem nv_enc (n : Nat) : nv (enc n) = n := nvl_digs n
theorem digs_inj {a b : Nat} (h : digs a = digs b) : a = b := by
  have := congrArg nvl h; simpa [nvl_digs] using this
theorem enc_inj {a b : Nat} (h : enc a = enc b) : a = b := by
  have := congrArg nv h; simpa [nv_enc] using this
theorem enc_eq_iff {a b : Nat} : enc a = enc b ↔ a = b := ⟨enc_inj, fun h => by rw [h]⟩
theorem digs_eq_nil {n : Nat} : digs n = [] ↔ n = 0 := by
  constructor
  · intro h; have := nvl_digs n; rw [h] at this; exact this.symm
  · intro h; subst h; exact digs_zero

theorem strip_nil : strip [] = [] := rfl
theorem strip_zero (l : List UInt8) : strip (0 :: l) = strip l := by simp [strip]
theorem strip_nz {c : UInt8} (h : c ≠ 0) (l : List UInt8) : strip (c :: l) = c :: l := by
  simp [strip, h]
theorem nvl_strip (l : List UInt8) : nvl (strip l) = nvl l := by
  induction l with
  | nil => rfl
  | cons c l ih =>
    by_cases h : c = 0
    · subst h; rw [strip_zero, ih, nvl_zero_cons]
    · rw [strip_nz h]

/-- a list that does not begin with a zero is the shortest with its number -/
theorem digs_nvl_of_nz : ∀ (n : Nat) (l : List UInt8), l.length = n → (∀ c r, l = c :: r → c ≠ 0) → digs (nvl l) = l := by
  intro n
  induction n with
  | zero => intro l hl _; rw [List.length_eq_zero_iff.1 hl, nvl_nil, digs_zero]
  | succ n ih =>
    intro l hl hnz
    obtain ⟨a, c, rfl⟩ : ∃ a c, l = a ++ [c] := ⟨l.dropLast, l.getLast (by intro h; subst h; simp at hl), by rw [List.dropLast_concat_getLast]⟩
    have hal : a.length = n := by simpa using hl
    have haz : ∀ x r, a = x :: r → x ≠ 0 := fun x r h => hnz x (r ++ [c]) (by rw [h]; rfl)
    have hpos : nvl (a ++ [c]) ≠ 0 := by
      cases a with
      | nil =>
        have := hnz c [] rfl
        intro h
        rw [nvl_snoc, nvl_nil] at h
        exact this (UInt8.toNat_inj.1 (by simp only [UInt8.toNat_zero]; omega))
      | cons x r =>
        have hx := haz x r rfl
        have hx' : 0 < x.toNat := Nat.pos_of_ne_zero fun h => hx (UInt8.toNat_inj.1 (by simpa using h))
        have hp : 0 < 256 ^ (r ++ [c]).length := Nat.pow_pos (by omega)
        rw [List.cons_append, nvl_cons]
        have := Nat.mul_pos hx' hp
        omega
    rw [digs_pos hpos, nvl_snoc]
    have hc := c.toNat_lt
    have e1 : (nvl a * 256 + c.toNat) / 256 = nvl a := by omega
    have e2 : (nvl a * 256 + c.toNat) % 256 = c.toNat := by omega
    rw [e1, e2, ih a hal haz]
    simp

theorem strip_head (l : List UInt8) : ∀ c r, strip l = c :: r → c ≠ 0 := by
  induction l with
  | nil => intro c r h; cases h
  | cons x l ih =>
    intro c r h
    by_cases hx : x = 0
    · subst hx; rw [strip_zero] at h; exact ih c r h
    · rw [strip_nz hx] at h; injection h with h1 _; rw [← h1]; exact hx
theorem strip_eq (l : List UInt8) : strip l = digs (nvl l) := by
  rw [← nvl_strip, digs_nvl_of_nz _ _ rfl (strip_head l)]
theorem digs_head (n : Nat) : ∀ c r, digs n = c :: r → c ≠ 0 := by
  have h := strip_eq (digs n)
  rw [nvl_digs] at h
  rw [← h]; exact strip_head _

theorem digs_length_le {n k : Nat} : (digs n).length ≤ k ↔ n < 256 ^ k := by
  constructor
  · intro h
    have h1 := nvl_lt (digs n)
    rw [nvl_digs] at h1
    exact Nat.lt_of_lt_of_le h1 (Nat.pow_le_pow_right (by omega) h)
  · induction k generalizing n with
    | zero => intro h; have : n = 0 := by simpa using h
              subst this; simp [digs_zero]
    | succ k ih =>
      intro h
      by_cases h0 : n = 0
      · subst h0; simp [digs_zero]
      · rw [digs_pos h0]
        have := ih (n := n / 256) (by rw [Nat.pow_succ] at h; omega)
        simpa using this
theorem lt_digs_length {n k : Nat} : k < (digs n).length ↔ 256 ^ k ≤ n := by
  have := @digs_length_le n k; omega
theorem strip_length_le (l : List UInt8) : (strip l).length ≤ l.length := by
  rw [strip_eq, digs_length_le]; exact nvl_lt l

theorem enc_data (n : Nat) : (enc n).data.toList = digs n := by simp [enc]
theorem enc_size (n : Nat) : (enc n).size = (digs n).length := by simp [enc, ByteArray.size]
theorem enc_size_le {n k : Nat} : (enc n).size ≤ k ↔ n < 256 ^ k := by rw [enc_size, digs_length_le]
theorem enc_nv_le (s : ByteArray) : (enc (nv s)).size ≤ s.size := by
  rw [enc_size_le]; have := nvl_lt s.data.toList; rw [Array.length_toList] at this; exact this
theorem nv_lt (s : ByteArray) : nv s < 256 ^ s.size := by
  have := nvl_lt s.data.toList; rw [Array.length_toList] at this; exact this
theorem enc_mono {a b : Nat} (h : a ≤ b) : (enc a).size ≤ (enc b).size := by
  rw [enc_size_le]
  have h2 := (@enc_size_le b (enc b).size).1 (Nat.le_refl _)
  omega
theorem ba_ext {a b : ByteArray} (h : a.data.toList = b.data.toList) : a = b := by
  cases a; cases b; simp at h; simp [h]
theorem enc_zero : enc 0 = ⟨#[]⟩ := by apply ba_ext; simp [enc, digs_zero]
theorem enc_eq_empty {n : Nat} : (enc n).data.toList = [] ↔ n = 0 := by rw [enc_data, digs_eq_nil]
/-- a string that does not begin with a zero is the shortest with its number -/
theorem enc_nv_of_nz {s : ByteArray} (h : ∀ c r, s.data.toList = c :: r → c ≠ 0) : enc (nv s) = s := by
  apply ba_ext; rw [enc_data]; exact digs_nvl_of_nz _ _ rfl h

end Go.Proofs.Ytobeklcimmjodaa.num
