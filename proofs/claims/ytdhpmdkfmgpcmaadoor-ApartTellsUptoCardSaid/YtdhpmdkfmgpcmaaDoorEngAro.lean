/- Contracts: span.around (a loop over the rest of a list); gantref1.Ends (a function handed in). -/
import Derived.Test.YtdhpmdkfmgpcmaaDoorEngSpan
namespace Go.Proofs.YtdhpmdkfmgpcmaaDoor.eng
open Go.RowKit num mem seg q held ratA ratB ratC ratD ratE vars ratF trq
section
variable {x y z t : RV} {K : AV → Prop}

theorem min_low (m a : Rat) : minQ m a = lowF m a := by
  unfold minQ lowF
  by_cases h : m ≤ a
  · rw [if_pos h, if_neg (Rat.not_lt.2 h)]
  · rw [if_neg h, if_pos (Rat.not_le.1 h)]
theorem max_high (m a : Rat) : maxQ m a = highF m a := by
  unfold maxQ highF
  by_cases h : a ≤ m
  · rw [if_pos h, if_neg (Rat.not_lt.2 h)]
  · rw [if_neg h, if_pos (Rat.not_le.1 h)]
theorem lowF_self (q : Rat) : lowF q q = q := by unfold lowF; split <;> rfl
theorem highF_self (q : Rat) : highF q q = q := by unfold highF; split <;> rfl

set_option maxRecDepth 100000 in
theorem sAround_spec (q0 : Rat) (l : List Rat) (hz : ∀ q, q ∈ q0 :: l → qs q ≤ 2199023255552) (hn : l.length ≤ 1099511627776) : Spec Tryd.prog Tab 231 [rats (q0 :: l)] (pair (cn (lowL q0 l)) (cn (highL q0 l))) := by
  refine fn_spec Tryd.func231 rfl rfl Tryd.ntmps231 rfl (by kernel_rfl) rfl rfl ?_
  refine k_rat 0 q0 rfl rfl ?_
  have hz0 : (cn q0).z ≤ 2199023255552 := by rw [cn_z]; exact hz q0 (by simp)
  refine k_sOf (by omega) fun q1 h1 z1 => ?_
  simp only [cn_q] at h1
  refine ⟨rats l, ⟨by omega, by simp; omega, ?_, rfl⟩, ?_⟩
  · intro row hr
    simp only [List.mem_map] at hr
    obtain ⟨q, _, rfl⟩ := hr
    rfl
  refine ⟨Nat × Rat × Rat, fun s => [(11, rats l), (12, int (((l.map fun q => rd (cn q)).length : Nat) : Int)), (13, int (s.1 : Int)), (3, .val (.one (.ptr 3 0))), (2, .val (.one (.ptr 2 0)))],
    fun s => [(2, .var 80 [.d (.v (.bool false)), .d (.v (.string ⟨#[]⟩)), .d (.v (.string ⟨#[]⟩)), .d (.v (.bool false)), .d (.v (.string ⟨#[]⟩)), .d (.v (.string ⟨#[]⟩))]), (3, .var 80 (rc (cn s.2.1) ++ rc (cn s.2.2)))],
    fun s => s.1 ≤ l.length ∧ qs s.2.1 ≤ 2199023255552 ∧ qs s.2.2 ≤ 2199023255552 ∧ (l.drop s.1).foldl lowF s.2.1 = lowL q0 l ∧ (l.drop s.1).foldl highF s.2.2 = highL q0 l,
    fun s => l.length - s.1, (0, q1, q1), ?_, ⟨Nat.zero_le _, by subst h1; exact hz0, by subst h1; exact hz0, by subst h1; rfl, by subst h1; rfl⟩, fun s hs => ?_⟩
  · constructor <;> (repeat' (first | exact rfl | exact True.intro | apply And.intro))
  obtain ⟨i, lo, hi⟩ := s
  obtain ⟨h1, h2, h3, h4, h5⟩ := hs
  simp only at h1 h2 h3 h4 h5
  refine ⟨fun e => ?_, fun e => ?_⟩
  · have hlt : i < l.length := by have := of_decide_eq_true e; rw [List.length_map] at this; omega
    obtain ⟨a, ha⟩ : ∃ a, l[i]? = some a := ⟨_, List.getElem?_eq_getElem hlt⟩
    have hza := hz a (List.mem_cons_of_mem _ (List.mem_of_getElem? ha))
    have hdrop : l.drop i = a :: l.drop (i + 1) := by
      rw [List.drop_eq_getElem_cons hlt]
      rw [List.getElem?_eq_getElem hlt] at ha
      rw [Option.some.inj ha]
    rw [hdrop, List.foldl_cons] at h4 h5
    have hw : IntKind.i64.wrap ((i : Int) + 1) = ((i + 1 : Nat) : Int) := by rw [wrap64 _ (by omega) (by omega)]; omega
    have zl : (cn lo).z ≤ 2199023255552 := by rw [cn_z]; exact h2
    have zh : (cn hi).z ≤ 2199023255552 := by rw [cn_z]; exact h3
    have za : (cn a).z ≤ 2199023255552 := by rw [cn_z]; exact hza
    refine k_rat i a rfl ha ?_
    refine k_min (x := cn lo) (y := cn a) (by omega) (by omega) fun r1 f1 w1 => ?_
    simp only [cn_q] at f1
    refine k_max (x := cn hi) (y := cn a) (by omega) (by omega) fun r2 f2 w2 => ?_
    simp only [cn_q] at f2
    refine ⟨by kernel_rfl, ?_⟩
    rw [min_low] at f1
    rw [max_high] at f2
    refine ⟨(i + 1, r1, r2), ⟨hlt, ?_, ?_, ?_, ?_⟩, by simp only; omega, ?_⟩
    · subst f1; simp only [lowF]; split <;> assumption
    · subst f2; simp only [highF]; split <;> assumption
    · subst f1; exact h4
    · subst f2; exact h5
    · constructor <;> (repeat' (first | exact rfl | exact True.intro | apply And.intro))
      all_goals exact congrArg (fun n : Int => D.v (.int .i64 n)) hw.symm
  · have hge : l.length ≤ i := by have := of_decide_eq_false e; rw [List.length_map] at this; omega
    refine Eq.trans (b := pair (cn lo) (cn hi)) ?_ rfl
    rw [List.drop_eq_nil_of_le hge] at h4 h5
    rw [← h4, ← h5]; rfl
theorem low_is {q0 m : Rat} {l : List Rat} (h1 : m = q0 ∨ m ∈ l) (h2 : m ≤ q0) (h3 : ∀ a, a ∈ l → m ≤ a) : lowL q0 l = m := by
  refine Rat.le_antisymm ?_ ?_
  · rcases h1 with rfl | h1
    · exact (lowL_le l _).1
    · exact (lowL_le l q0).2 _ h1
  · rcases lowL_mem l q0 with h | h
    · rw [h]; exact h2
    · exact h3 _ h
theorem high_is {q0 m : Rat} {l : List Rat} (h1 : m = q0 ∨ m ∈ l) (h2 : q0 ≤ m) (h3 : ∀ a, a ∈ l → a ≤ m) : highL q0 l = m := by
  refine Rat.le_antisymm ?_ ?_
  · rcases highL_mem l q0 with h | h
    · rw [h]; exact h2
    · exact h3 _ h
  · rcases h1 with rfl | h1
    · exact (highL_le l _).1
    · exact (highL_le l q0).2 _ h1
theorem low_cons (q0 : Rat) (l : List Rat) : lowL q0 (q0 :: l) = lowL q0 l := by show lowL (lowF q0 q0) l = _; rw [lowF_self]
theorem high_cons (q0 : Rat) (l : List Rat) : highL q0 (q0 :: l) = highL q0 l := by show highL (highF q0 q0) l = _; rw [highF_self]
theorem lowL_qs {q0 : Rat} {l : List Rat} {B : Nat} (hz : ∀ q, q ∈ q0 :: l → qs q ≤ B) : qs (lowL q0 l) ≤ B := by
  rcases lowL_mem l q0 with h | h
  · rw [h]; exact hz _ (by simp)
  · exact hz _ (List.mem_cons_of_mem _ h)
theorem highL_qs {q0 : Rat} {l : List Rat} {B : Nat} (hz : ∀ q, q ∈ q0 :: l → qs q ≤ B) : qs (highL q0 l) ≤ B := by
  rcases highL_mem l q0 with h | h
  · rw [h]; exact hz _ (by simp)
  · exact hz _ (List.mem_cons_of_mem _ h)
theorem k_sAround (B : Nat) (hB : B ≤ 2199023255552) (q0 : Rat) (l : List Rat) {v : List (List D)} (hv : v = (q0 :: l).map fun q => rd (cn q)) (hz : ∀ q, q ∈ q0 :: l → qs q ≤ B) (hn : l.length ≤ 1099511627776)
    (k : ∀ p q, p = lowL q0 l → q = highL q0 l → (cn p).z ≤ B → (cn q).z ≤ B → K (pair (cn p) (cn q))) : Ask 231 [.val (.one (.d (.list v)))] K := by
  subst hv
  exact use (sAround_spec q0 l (fun q h => Nat.le_trans (hz q h) hB) hn) rfl (k _ _ rfl rfl (by rw [cn_z]; exact lowL_qs hz) (by rw [cn_z]; exact highL_qs hz))
theorem k_RAro (B : Nat) (hB : B ≤ 2199023255552) (q0 : Rat) (l : List Rat) {v : List (List D)} (hv : v = (q0 :: l).map fun q => rd (cn q)) (hz : ∀ q, q ∈ q0 :: l → qs q ≤ B) (hn : l.length ≤ 1099511627776)
    (k : ∀ p q, p = lowL q0 l → q = highL q0 l → (cn p).z ≤ B → (cn q).z ≤ B → K (pair (cn p) (cn q))) : Ask 89 [.val (.one (.d (.list v)))] K := by
  refine k_RAround q0 l hv (fun q h => Nat.le_trans (hz q h) (Nat.le_trans hB (by decide))) hn fun p q e h => ?_
  rw [low_cons] at e
  rw [high_cons] at h
  exact k p q e h (by rw [cn_z, e]; exact lowL_qs hz) (by rw [cn_z, h]; exact highL_qs hz)

/-- a function handed in -/
def fv (g : FuncId) : AV := .val (.one (.d (.v (.func (.func g) #[] #[]))))
end
end Go.Proofs.YtdhpmdkfmgpcmaaDoor.eng
