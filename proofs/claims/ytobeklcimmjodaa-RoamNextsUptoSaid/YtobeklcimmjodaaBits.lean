/- Plain arithmetic, no program: the bit operations of the model at sums of powers of two; the bytes of a string cut. -/
import Derived.WalkKit
import Derived.Lib.Hide
import Derived.Laws.BitsAllLaws
import Derived.Test.YtobeklcimmjodaaNum
namespace Go.Proofs.Ytobeklcimmjodaa.num
open Go.RowKit

/-- the bytes of a string value -/
def strSize : Value → Nat | .string t => t.size | _ => 0

theorem ba_length (t : ByteArray) : t.data.toList.length = t.size := by rw [Array.length_toList]; rfl
theorem cut_toList (t : ByteArray) (h : 0 < t.size) : t.data.toList = t[0] :: (t.extract 1 t.size).data.toList := by
  have e : (t.extract 1 t.size).data.toList = t.data.toList.drop 1 := by
    rw [ByteArray.data_extract, Array.toList_extract, List.extract_eq_take_drop, List.take_of_length_le (by simp)]
  rw [e]
  have hl : 0 < t.data.toList.length := by rw [ba_length]; exact h
  rw [show t[0] = t.data.toList[0] from rfl]
  exact (List.getElem_cons_drop hl).symm
theorem nv_cut (t : ByteArray) (h : 0 < t.size) (h0 : (((t[0]).toNat : Int) == 0) = true) : nv (t.extract 1 t.size) = nv t := by
  have hz : t[0] = 0 := by
    have : (t[0]).toNat = 0 := by simpa using h0
    exact UInt8.toNat_inj.1 (by simpa using this)
  unfold nv
  rw [cut_toList t h, hz, nvl_zero_cons]
theorem nv_stop (t : ByteArray) (h : 0 < t.size) (h0 : (((t[0]).toNat : Int) == 0) = false) : enc (nv t) = t := by
  apply enc_nv_of_nz
  intro c r e
  rw [cut_toList t h] at e
  injection e with e _
  intro hc
  rw [← e] at hc
  rw [hc] at h0
  simp at h0
theorem nv_empty (t : ByteArray) (h : ¬ 0 < t.size) : enc (nv t) = t := by
  apply enc_nv_of_nz
  intro c r e
  have := ba_length t
  rw [e] at this
  simp at this
  omega
theorem nv_take_snoc (s : ByteArray) (k : Nat) (h : k < s.size) : nvl (s.data.toList.take (k + 1)) = nvl (s.data.toList.take k) * 256 + (s[k]).toNat := by
  rw [List.take_succ_eq_append_getElem (by simpa using h), nvl_snoc]; rfl
theorem nv_take_all (s : ByteArray) (k : Nat) (h : s.size ≤ k) : nvl (s.data.toList.take k) = nv s := by
  rw [List.take_of_length_le (by rw [ba_length]; exact h)]; rfl

theorem or_shift (i a b : Nat) (hb : b < 2 ^ i) : a * 2 ^ i ||| b = a * 2 ^ i + b := by
  have := Nat.two_pow_add_eq_or_of_lt hb a
  rw [Nat.mul_comm]; omega
theorem u64_or_shift (i a b : Nat) (hb : b < 2 ^ i) (h : a * 2 ^ i + b < 18446744073709551616) : bits .or .u64 ((a * 2 ^ i : Nat) : Int) (b : Int) = ((a * 2 ^ i + b : Nat) : Int) := by
  rw [u64_or_nat _ _ (by omega) (by omega), or_shift i a b hb]
theorem u32_or_shift (i a b : Nat) (hb : b < 2 ^ i) (h : a * 2 ^ i + b < 4294967296) : bits .or .u32 ((a * 2 ^ i : Nat) : Int) (b : Int) = ((a * 2 ^ i + b : Nat) : Int) := by
  rw [u32_or_nat _ _ (by omega) (by omega), or_shift i a b hb]
theorem nvl_take_le7 (s : ByteArray) (k : Nat) (h : k ≤ 7) : nvl (s.data.toList.take k) ≤ 72057594037927935 := by
  have h1 := nvl_lt (s.data.toList.take k)
  have h2 : 256 ^ (s.data.toList.take k).length ≤ 256 ^ 7 := Nat.pow_le_pow_right (by omega) (by simp; omega)
  have h3 : (256 ^ 7 : Nat) = 72057594037927936 := by decide
  omega
theorem nv_le_u64 (s : ByteArray) (h : s.size ≤ 8) : nv s ≤ 18446744073709551615 := by
  have h1 := nv_lt s
  have h2 : 256 ^ s.size ≤ 256 ^ 8 := Nat.pow_le_pow_right (by omega) h
  have h3 : (256 ^ 8 : Nat) = 18446744073709551616 := by decide
  omega

theorem ret_string {a b : ByteArray} (h : a = b) : Ending.returned (.string a) = .returned (.string b) := by rw [h]
theorem ret_int {k : IntKind} {a b : Int} (h : a = b) : Ending.returned (.int k a) = .returned (.int k b) := by rw [h]
theorem ret_bool {a b : Bool} (h : a = b) : Ending.returned (.bool a) = .returned (.bool b) := by rw [h]

end Go.Proofs.Ytobeklcimmjodaa.num
