/- The engine at this program: lists of numbers, loops over them. -/
import Derived.Test.YtpejadencgfnnaaDoorEngU
namespace Go.Proofs.YtpejadencgfnnaaDoor.eng
open Go.RowKit num mem seg q held ratA ratB ratC ratD ratE vars ratF

def rd (x : RV) : List D := [.v (.bool x.s), .v (.string x.a), .v (.string x.d)]
/-- a list of numbers -/
def rats (l : List Rat) : AV := .val (.one (.d (.list (l.map fun q => rd (cn q)))))
section
variable {K : AV → Prop}
theorem k_at {xs : List (List D)} {m : Int} {n : Nat} (cs : List D) (h0 : 0 ≤ m) (h : xs[m.toNat]? = some cs) (hl : cs.length = n) (k : K (.val (.one (.ref cs)))) :
    ∃ r, (∃ cs, 0 ≤ m ∧ xs[m.toNat]? = some cs ∧ cs.length = n ∧ r = .val (.one (.ref cs))) ∧ K r := ⟨_, ⟨cs, h0, h, hl, rfl⟩, k⟩
theorem rats_at {l : List Rat} {m : Int} {i : Nat} {q : Rat} (hm : m = (i : Int)) (h : l[i]? = some q) : (l.map fun q => rd (cn q))[m.toNat]? = some (rd (cn q)) := by
  subst hm
  rw [Int.toNat_natCast, List.getElem?_map, h]; rfl
/-- .. of a list of numbers -/
theorem k_rat {l : List Rat} {m : Int} (i : Nat) (q : Rat) (hm : m = (i : Int)) (h : l[i]? = some q) (k : K (.val (.one (.ref (rd (cn q)))))) :
    ∃ r, (∃ cs, 0 ≤ m ∧ (l.map fun q => rd (cn q))[m.toNat]? = some cs ∧ cs.length = 3 ∧ r = .val (.one (.ref cs))) ∧ K r := k_at _ (by omega) (rats_at hm h) rfl k
theorem wrap64 (n : Int) (h1 : -9223372036854775808 ≤ n) (h2 : n ≤ 9223372036854775807) : IntKind.i64.wrap n = n := by
  unfold IntKind.wrap
  simp [IntKind.signed, IntKind.bits]
  split <;> omega
end

/-! ### the least and the greatest of a list -/
def lowF (m a : Rat) : Rat := if a < m then a else m
def highF (m a : Rat) : Rat := if m < a then a else m
def lowL (q : Rat) (l : List Rat) : Rat := l.foldl lowF q
def highL (q : Rat) (l : List Rat) : Rat := l.foldl highF q

theorem lowL_mem (l : List Rat) : ∀ q, lowL q l = q ∨ lowL q l ∈ l := by
  induction l with
  | nil => intro q; exact .inl rfl
  | cons a l ih =>
    intro q
    show lowL (lowF q a) l = q ∨ lowL (lowF q a) l ∈ a :: l
    rcases ih (lowF q a) with h | h
    · rw [h]; unfold lowF; split
      · exact .inr List.mem_cons_self
      · exact .inl rfl
    · exact .inr (List.mem_cons_of_mem _ h)
theorem highL_mem (l : List Rat) : ∀ q, highL q l = q ∨ highL q l ∈ l := by
  induction l with
  | nil => intro q; exact .inl rfl
  | cons a l ih =>
    intro q
    show highL (highF q a) l = q ∨ highL (highF q a) l ∈ a :: l
    rcases ih (highF q a) with h | h
    · rw [h]; unfold highF; split
      · exact .inr List.mem_cons_self
      · exact .inl rfl
    · exact .inr (List.mem_cons_of_mem _ h)
end Go.Proofs.YtpejadencgfnnaaDoor.eng
