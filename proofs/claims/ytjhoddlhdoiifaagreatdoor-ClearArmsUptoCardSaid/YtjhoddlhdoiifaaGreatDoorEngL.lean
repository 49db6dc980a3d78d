/- The engine at this program: lists of numbers, loops over them. -/
import Derived.Test.YtjhoddlhdoiifaaGreatDoorEngU
namespace Go.Proofs.YtjhoddlhdoiifaaGreatDoor.eng
open Go.RowKit num mem seg q held ratA ratB ratC ratD ratE vars ratF

def rd (x : RV) : List D := [.v (.bool x.s), .v (.string x.a), .v (.string x.d)]
/-- a list of numbers -/
def rats (l : List Rat) : AV := .val (.one (.d (.list (l.map fun q => rd (cn q)))))
section
variable {K : AV → Prop}
theorem k_at {xs : List (List D)} {m : Int} {n : Nat} (cs : List D) (h0 : 0 ≤ m) (h : xs[m.toNat]? = some cs) (hl : cs.length = n) (k : K (.val (.one (.ref cs)))) :
    ∃ r, (∃ cs, 0 ≤ m ∧ xs[m.toNat]? = some cs ∧ cs.length = n ∧ r = .val (.one (.ref cs))) ∧ K r := ⟨_, ⟨cs, h0, h, hl, rfl⟩, k⟩
theorem wrap64 (n : Int) (h1 : -9223372036854775808 ≤ n) (h2 : n ≤ 9223372036854775807) : IntKind.i64.wrap n = n := by
  unfold IntKind.wrap
  simp [IntKind.signed, IntKind.bits]
  split <;> omega
end

/-! ### the least and the greatest of a list -/
def lowF (m a : Rat) : Rat := if a < m then a else m
def highF (m a : Rat) : Rat := if m < a then a else m
def lowL (q : Rat) (l : List Rat) : Rat := l.foldl lowF q
def highL (q : Rat) (l : List Rat) : Rat := l.foldl highF q

theorem lowL_mem (l : List Rat) : ∀ q, lowL q l = q ∨ lowL q l ∈ l := by
  induction l with
  | nil => intro q; exact .inl rfl
  | cons a l ih =>
    intro q
    show lowL (lowF q a) l = q ∨ lowL (lowF q a) l ∈ a :: l
    rcases ih (lowF q a) with h | h
    · rw [h]; unfold lowF; split
      · exact .inr List.mem_cons_self
      · exact .inl rfl
    · exact .inr (List.mem_cons_of_mem _ h)
theorem lowL_le (l : List Rat) : ∀ q, lowL q l ≤ q ∧ ∀ a, a ∈ l → lowL q l ≤ a := by
  induction l with
  | nil => intro q; exact ⟨Rat.le_refl, fun a h => by simp at h⟩
  | cons a l ih =>
    intro q
    obtain ⟨h1, h2⟩ := ih (lowF q a)
    have h3 : lowF q a ≤ q ∧ lowF q a ≤ a := by
      unfold lowF; split
      · rename_i h; exact ⟨Rat.le_of_lt h, Rat.le_refl⟩
      · rename_i h; exact ⟨Rat.le_refl, Rat.not_lt.1 h⟩
    refine ⟨Rat.le_trans h1 h3.1, fun b hb => ?_⟩
    rcases List.mem_cons.1 hb with rfl | hb
    · exact Rat.le_trans h1 h3.2
    · exact h2 b hb
theorem highL_mem (l : List Rat) : ∀ q, highL q l = q ∨ highL q l ∈ l := by
  induction l with
  | nil => intro q; exact .inl rfl
  | cons a l ih =>
    intro q
    show highL (highF q a) l = q ∨ highL (highF q a) l ∈ a :: l
    rcases ih (highF q a) with h | h
    · rw [h]; unfold highF; split
      · exact .inr List.mem_cons_self
      · exact .inl rfl
    · exact .inr (List.mem_cons_of_mem _ h)
theorem highL_le (l : List Rat) : ∀ q, q ≤ highL q l ∧ ∀ a, a ∈ l → a ≤ highL q l := by
  induction l with
  | nil => intro q; exact ⟨Rat.le_refl, fun a h => by simp at h⟩
  | cons a l ih =>
    intro q
    obtain ⟨h1, h2⟩ := ih (highF q a)
    have h3 : q ≤ highF q a ∧ a ≤ highF q a := by
      unfold highF; split
      · rename_i h; exact ⟨Rat.le_of_lt h, Rat.le_refl⟩
      · rename_i h; exact ⟨Rat.le_refl, Rat.not_lt.1 h⟩
    refine ⟨Rat.le_trans h3.1 h1, fun b hb => ?_⟩
    rcases List.mem_cons.1 hb with rfl | hb
    · exact Rat.le_trans h3.2 h1
    · exact h2 b hb

end Go.Proofs.YtjhoddlhdoiifaaGreatDoor.eng
