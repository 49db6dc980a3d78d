/- Plain law, no program: decimal digits. -/
import Derived.Test.YtjhoddlhdoiifaaGreatDoorDig2
namespace Go.Proofs.YtjhoddlhdoiifaaGreatDoor.dec
open num

/-- the decimal digits of a number, the last one first -/
def decL (n : Nat) : List Nat := if _h : n = 0 then [] else n % 10 :: decL (n / 10)
termination_by n
decreasing_by omega
theorem decL_zero : decL 0 = [] := by rw [decL]; simp
theorem decL_pos {n : Nat} (h : n ≠ 0) : decL n = n % 10 :: decL (n / 10) := by
  rw [decL]; simp [h]
theorem decL_lt : ∀ (n : Nat), ∀ d ∈ decL n, d < 10 := by
  intro n
  induction n using Nat.strongRecOn with
  | ind n ih =>
    by_cases h : n = 0
    · subst h; rw [decL_zero]; intro d hd; cases hd
    · rw [decL_pos h]
      intro d hd
      rcases List.mem_cons.1 hd with rfl | hd
      · omega
      · exact ih (n / 10) (by omega) d hd
theorem decL_length {m : Nat} : ∀ {n : Nat}, n < 10 ^ m → (decL n).length ≤ m := by
  induction m with
  | zero => intro n h; have : n = 0 := by simpa using h
            subst this; rw [decL_zero]; exact Nat.le_refl _
  | succ m ih =>
    intro n h
    by_cases h0 : n = 0
    · subst h0; rw [decL_zero]; exact Nat.zero_le _
    · rw [decL_pos h0, List.length_cons]
      have : n / 10 < 10 ^ m := by rw [Nat.pow_succ] at h; omega
      exact Nat.succ_le_succ (ih this)
theorem decL_bytes {n k : Nat} (h : n < 256 ^ k) : (decL n).length ≤ 3 * k := by
  apply decL_length
  have h1 : 256 ^ k ≤ (10 ^ 3) ^ k := Nat.pow_le_pow_left (by decide) k
  rw [← Nat.pow_mul] at h1
  omega
theorem lv_decL : ∀ n, lv 10 (decL n) = n := by
  intro n
  induction n using Nat.strongRecOn with
  | ind n ih =>
    by_cases h : n = 0
    · subst h; rw [decL_zero]; rfl
    · rw [decL_pos h, lv_cons, ih (n / 10) (by omega)]
      omega
theorem decL_snoc {n : Nat} {D : List Nat} {v : Nat} (h : decL n = D ++ decL v) (hv : v ≠ 0) : decL n = (D ++ [v % 10]) ++ decL (v / 10) := by
  rw [h, decL_pos hv, List.append_assoc]; rfl
/-- digits, the last one first, as text -/
def ascii (l : List Nat) : ByteArray := ⟨(l.reverse.map fun d => UInt8.ofNat (48 + d)).toArray⟩
/-- a number's decimal notation -/
def dec (n : Nat) : ByteArray := if n = 0 then ⟨#[48]⟩ else ascii (decL n)
theorem dec_zero : dec 0 = ⟨#[48]⟩ := by unfold dec; rw [if_pos rfl]
theorem dec_pos {n : Nat} (h : n ≠ 0) : dec n = ascii (decL n) := by unfold dec; rw [if_neg h]
theorem decL_ne_nil {n : Nat} (h : n ≠ 0) : decL n ≠ [] := by rw [decL_pos h]; simp
theorem decL_nil {n : Nat} (h : decL n = []) : n = 0 := Decidable.byContradiction fun h0 => decL_ne_nil h0 h

theorem lv_top {B : Nat} {l : List Nat} {k : Nat} (hl : l.length = k + 1) (h : 0 < l.getD k 0) (hB : 0 < B) : 0 < lv B l := by
  have h1 := lv_take_succ B l k (by omega)
  rw [lv_take_of_le _ _ (by omega)] at h1
  have : 0 < B ^ k * l.getD k 0 := Nat.mul_pos (Nat.pow_pos hB) h
  omega
theorem lv_take_zero {B : Nat} {l : List Nat} {k : Nat} (h : l.getD k 0 = 0) : lv B (l.take (k + 1)) = lv B (l.take k) := by
  rw [lv_take_step, h, Nat.mul_zero, Nat.add_zero]

/-- the value of a decimal notation -/
def numv (l : List Nat) : Nat := l.foldl (fun v d => v * 10 + d) 0
theorem numv_snoc (l : List Nat) (d : Nat) : numv (l ++ [d]) = numv l * 10 + d := by unfold numv; rw [List.foldl_append]; rfl

end Go.Proofs.YtjhoddlhdoiifaaGreatDoor.dec
