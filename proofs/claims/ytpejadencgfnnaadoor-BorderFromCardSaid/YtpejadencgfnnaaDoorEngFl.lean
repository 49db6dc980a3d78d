/- Contracts: rat.Floor, Down, Up; the functions of package nat that they call, by data. -/
import Derived.Test.YtpejadencgfnnaaDoorEngU
namespace Go.Proofs.YtpejadencgfnnaaDoor.eng
open Go.RowKit num mem seg q held ratA ratB ratC ratD ratE vars ratF natC natD natI

def str (s : ByteArray) : AV := .val (.one (.d (.v (.string s))))
section
variable {x y : RV} {K : AV → Prop} {a b : ByteArray} {n m : Nat}
theorem nOf_spec (n : Int) (h : n ≤ 9223372036854775807) : Spec Tryd.prog Tab 54 [int n] (str (enc n.toNat)) :=
  spec_calls (enters_of Tryd.func54 rfl rfl) rfl rfl fun w _ => (Of_any n w h).mono fun _ _ h => h
theorem k_nOf {n : Int} (h : n ≤ 9223372036854775807) (k : K (str (enc n.toNat))) : Ask 54 [int n] K := use (nOf_spec n h) rfl k
/-! ### texts compared -/
theorem neq_str (ox oy : Operand) (s t : ByteArray) (w : World) : (do eqGuard .neq 9 ox oy (.string s) (.string t); binOp .neq 9 (.string s) (.string t) : Sem Value).run Tryd.prog w = .ok (.bool (!decide (s = t))) w := by
  by_cases H : s = t
  · obtain rfl := H; simp [go_sem]
  · rw [decide_eq_false H]; simp [go_sem, ba_iff, H]
theorem eql_str (ox oy : Operand) (s t : ByteArray) (w : World) : (do eqGuard .eql 9 ox oy (.string s) (.string t); binOp .eql 9 (.string s) (.string t) : Sem Value).run Tryd.prog w = .ok (.bool (decide (s = t))) w := by
  by_cases H : s = t
  · obtain rfl := H; simp [go_sem]
  · rw [decide_eq_false H]; simp [go_sem, ba_iff, H]
theorem k_neq_str_c {ox oy : Operand} {s t : ByteArray} (k1 : s = t → K (bool false)) (k0 : ¬ s = t → K (bool true)) : AskB .neq 9 ox oy (.string s) (.string t) K := by
  by_cases H : s = t
  · exact useB (fun w => by have := neq_str ox oy s t w; rw [decide_eq_true H] at this; exact this) (k1 H)
  · exact useB (fun w => by have := neq_str ox oy s t w; rw [decide_eq_false H] at this; exact this) (k0 H)
theorem k_eql_str_c {ox oy : Operand} {s t : ByteArray} (k1 : s = t → K (bool true)) (k0 : ¬ s = t → K (bool false)) : AskB .eql 9 ox oy (.string s) (.string t) K := by
  by_cases H : s = t
  · exact useB (fun w => by have := eql_str ox oy s t w; rw [decide_eq_true H] at this; exact this) (k1 H)
  · exact useB (fun w => by have := eql_str ox oy s t w; rw [decide_eq_false H] at this; exact this) (k0 H)

/-! ### rounded down -/
theorem enc_nil_iff {n : Nat} : enc n = ⟨#[]⟩ ↔ n = 0 := by
  constructor
  · intro h
    have := nv_enc n
    rw [h] at this
    rw [← this]; exact nv_none
  · intro h; subst h; exact enc_zero
end
end Go.Proofs.YtpejadencgfnnaaDoor.eng
