/- Walks: gantref1.Bare, digit, Compare, number. -/
import Derived.Test.YtnnffjolkgomhaaDoorNatD
import Derived.Lib.TrimByte
namespace Go.Proofs.YtnnffjolkgomhaaDoor.refA
open Go.RowKit num mem natA natB natC natD

theorem info3 : (Tryd.prog.info? 3).map (fun i => (i.zero, i.size, i.bytes)) = some (some (.int .i64 0), 1, 8) := by kernel_rfl

theorem trimLeft_enc (a : ByteArray) : (⟨(Lib.trimLeftB a.data.toList 0).toArray⟩ : ByteArray) = enc (nv a) := by
  apply ba_ext
  rw [enc_data]
  show strip _ = _
  exact strip_eq _

/-- digit i of a string -/
def dig (a : ByteArray) (i : Nat) : Nat := nv a / 256 ^ i % 256
theorem dig_lt (a : ByteArray) (i : Nat) : dig a i ≤ 255 := by unfold dig; have := Nat.mod_lt (nv a / 256 ^ i) (show 0 < 256 by omega); omega
theorem nvl_getElem : ∀ (l : List UInt8) (i : Nat) (h : i < l.length), (l[l.length - 1 - i]'(by omega)).toNat = nvl l / 256 ^ i % 256 := by
  intro l
  induction l with
  | nil => intro i h; simp at h
  | cons c l ih =>
    intro i h
    rw [nvl_cons]
    by_cases hi : i = l.length
    · subst hi
      have hl := nvl_lt l
      have hp : 0 < 256 ^ l.length := Nat.pow_pos (by omega)
      rw [Nat.add_comm, Nat.add_mul_div_right _ _ hp, Nat.div_eq_of_lt hl, Nat.zero_add]
      have hc := c.toNat_lt
      simp
    · have hi' : i < l.length := by simp at h; omega
      have e : (c :: l)[(c :: l).length - 1 - i]'(by omega) = l[l.length - 1 - i]'(by omega) := by
        simp only [List.length_cons]
        rw [List.getElem_cons, dif_neg (by omega)]
        congr 1
        omega
      rw [e, ih i hi']
      obtain ⟨d, hd⟩ : ∃ d, l.length = i + 1 + d := ⟨l.length - i - 1, by omega⟩
      have hp : 0 < 256 ^ i := Nat.pow_pos (by omega)
      rw [hd, Nat.pow_add, Nat.pow_succ, show c.toNat * (256 ^ i * 256 * 256 ^ d) = (256 * (c.toNat * 256 ^ d)) * 256 ^ i by
        simp only [Nat.mul_comm, Nat.mul_left_comm, Nat.mul_assoc], Nat.add_comm, Nat.add_mul_div_right _ _ hp, Nat.add_mul_mod_self_left]

theorem div_step (a : ByteArray) (j : Nat) : nv a / 256 ^ j = 256 * (nv a / 256 ^ (j + 1)) + dig a j := by
  unfold dig
  rw [Nat.pow_succ, ← Nat.div_div_eq_div_mul]
  omega
theorem cmp_less {a b : ByteArray} {j : Nat} (h : nv a / 256 ^ (j + 1) = nv b / 256 ^ (j + 1)) (hd : dig a j < dig b j) : nv a < nv b := by
  have h1 := div_step a j
  have h2 := div_step b j
  apply Nat.lt_of_not_le
  intro hle
  have := Nat.div_le_div_right (c := 256 ^ j) hle
  omega
theorem cmp_same {a b : ByteArray} {j : Nat} (h : nv a / 256 ^ (j + 1) = nv b / 256 ^ (j + 1)) (hd : dig a j = dig b j) : nv a / 256 ^ j = nv b / 256 ^ j := by
  rw [div_step a j, div_step b j, h, hd]

end Go.Proofs.YtnnffjolkgomhaaDoor.refA
