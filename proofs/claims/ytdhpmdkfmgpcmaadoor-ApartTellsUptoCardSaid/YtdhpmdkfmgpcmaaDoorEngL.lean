/- The engine at this program: lists of numbers, loops over them. -/
import Derived.Test.YtdhpmdkfmgpcmaaDoorEngU
namespace Go.Proofs.YtdhpmdkfmgpcmaaDoor.eng
open Go.RowKit num mem seg q held ratA ratB ratC ratD ratE vars ratF

def rd (x : RV) : List D := [.v (.bool x.s), .v (.string x.a), .v (.string x.d)]
/-- a list of numbers -/
def rats (l : List Rat) : AV := .val (.one (.d (.list (l.map fun q => rd (cn q)))))
section
variable {K : AV → Prop}
theorem k_at {xs : List (List D)} {m : Int} {n : Nat} (cs : List D) (h0 : 0 ≤ m) (h : xs[m.toNat]? = some cs) (hl : cs.length = n) (k : K (.val (.one (.ref cs)))) :
    ∃ r, (∃ cs, 0 ≤ m ∧ xs[m.toNat]? = some cs ∧ cs.length = n ∧ r = .val (.one (.ref cs))) ∧ K r := ⟨_, ⟨cs, h0, h, hl, rfl⟩, k⟩
theorem rats_at {l : List Rat} {m : Int} {i : Nat} {q : Rat} (hm : m = (i : Int)) (h : l[i]? = some q) : (l.map fun q => rd (cn q))[m.toNat]? = some (rd (cn q)) := by
  subst hm
  rw [Int.toNat_natCast, List.getElem?_map, h]; rfl
/-- .. of a list of numbers -/
theorem k_rat {l : List Rat} {m : Int} (i : Nat) (q : Rat) (hm : m = (i : Int)) (h : l[i]? = some q) (k : K (.val (.one (.ref (rd (cn q)))))) :
    ∃ r, (∃ cs, 0 ≤ m ∧ (l.map fun q => rd (cn q))[m.toNat]? = some cs ∧ cs.length = 3 ∧ r = .val (.one (.ref cs))) ∧ K r := k_at _ (by omega) (rats_at hm h) rfl k
theorem wrap64 (n : Int) (h1 : -9223372036854775808 ≤ n) (h2 : n ≤ 9223372036854775807) : IntKind.i64.wrap n = n := by
  unfold IntKind.wrap
  simp [IntKind.signed, IntKind.bits]
  split <;> omega
end

/-! ### the least and the greatest of a list -/
def lowF (m a : Rat) : Rat := if a < m then a else m
def highF (m a : Rat) : Rat := if m < a then a else m
def lowL (q : Rat) (l : List Rat) : Rat := l.foldl lowF q
def highL (q : Rat) (l : List Rat) : Rat := l.foldl highF q

set_option maxRecDepth 100000 in
theorem RAround_spec (q0 : Rat) (l : List Rat) (hz : ∀ q, q ∈ q0 :: l → qs q ≤ 4398046511104) (hn : l.length ≤ 1099511627776) : Spec Tryd.prog Tab 89 [rats (q0 :: l)] (pair (cn (lowL q0 (q0 :: l))) (cn (highL q0 (q0 :: l)))) := by
  refine fn_spec Tryd.func89 rfl rfl Tryd.ntmps89 rfl (by kernel_rfl) rfl rfl ?_
  refine k_rat 0 q0 rfl rfl ?_
  refine k_rat 0 q0 rfl rfl ?_
  refine ⟨by kernel_rfl, ?_⟩
  refine ⟨Nat × Rat × Rat, fun s => [(13, rats (q0 :: l)), (14, int ((((q0 :: l).map fun q => rd (cn q)).length : Nat) : Int)), (15, int (s.1 : Int)), (3, .val (.one (.ptr 3 0))), (2, .val (.one (.ptr 2 0)))],
    fun s => [(2, .var 80 [.d (.v (.bool false)), .d (.v (.string ⟨#[]⟩)), .d (.v (.string ⟨#[]⟩)), .d (.v (.bool false)), .d (.v (.string ⟨#[]⟩)), .d (.v (.string ⟨#[]⟩))]), (3, .var 80 (rc (cn s.2.1) ++ rc (cn s.2.2)))],
    fun s => s.1 ≤ (q0 :: l).length ∧ qs s.2.1 ≤ 4398046511104 ∧ qs s.2.2 ≤ 4398046511104 ∧ ((q0 :: l).drop s.1).foldl lowF s.2.1 = lowL q0 (q0 :: l) ∧ ((q0 :: l).drop s.1).foldl highF s.2.2 = highL q0 (q0 :: l),
    fun s => (q0 :: l).length - s.1, (0, q0, q0), ?_, ⟨Nat.zero_le _, hz q0 (by simp), hz q0 (by simp), rfl, rfl⟩, fun s hs => ?_⟩
  · constructor <;> (repeat' (first | exact rfl | exact True.intro | apply And.intro))
  obtain ⟨i, lo, hi⟩ := s
  obtain ⟨h1, h2, h3, h4, h5⟩ := hs
  simp only at h1 h2 h3 h4 h5
  refine ⟨fun e => ?_, fun e => ?_⟩
  · have hlt : i < (q0 :: l).length := by have := of_decide_eq_true e; rw [List.length_map] at this; omega
    obtain ⟨a, ha⟩ : ∃ a, (q0 :: l)[i]? = some a := ⟨_, List.getElem?_eq_getElem hlt⟩
    have hza := hz a (List.mem_of_getElem? ha)
    have hdrop : (q0 :: l).drop i = a :: (q0 :: l).drop (i + 1) := by
      rw [List.drop_eq_getElem_cons hlt]
      rw [List.getElem?_eq_getElem hlt] at ha
      rw [Option.some.inj ha]
    rw [hdrop, List.foldl_cons] at h4 h5
    have hw : IntKind.i64.wrap ((i : Int) + 1) = ((i + 1 : Nat) : Int) := by rw [wrap64 _ (by omega) (by simp at hlt; omega)]; omega
    have hend : ∀ lo' hi', lo' = lowF lo a → hi' = highF hi a → (i + 1 ≤ (q0 :: l).length ∧ qs lo' ≤ 4398046511104 ∧ qs hi' ≤ 4398046511104 ∧ ((q0 :: l).drop (i + 1)).foldl lowF lo' = lowL q0 (q0 :: l) ∧ ((q0 :: l).drop (i + 1)).foldl highF hi' = highL q0 (q0 :: l)) := by
      intro lo' hi' e1 e2
      subst e1 e2
      refine ⟨hlt, ?_, ?_, h4, h5⟩
      · unfold lowF; split <;> assumption
      · unfold highF; split <;> assumption
    refine k_rat i a rfl ha ?_
    refine k_cmp (by rw [cn_z]; exact hza) (by rw [cn_z]; exact h2) fun n1 c1 => ?_
    simp only [cn_q] at c1
    refine ⟨fun e1 => ?_, fun e1 => ?_⟩
    · have e1' : a < lo := (cmp_neg _ _).1 (by rw [← c1]; exact of_decide_eq_true e1)
      refine k_cmp (by rw [cn_z]; exact hza) (by rw [cn_z]; exact h3) fun n2 c2 => ?_
      simp only [cn_q] at c2
      refine ⟨fun e2 => ?_, fun e2 => ?_⟩
      · have e2' : hi < a := (cmp_pos _ _).1 (by rw [← c2]; exact of_decide_eq_true e2)
        refine ⟨(i + 1, a, a), hend a a (by rw [lowF, if_pos e1']) (by rw [highF, if_pos e2']), by simp only; omega, ?_⟩
        constructor <;> (repeat' (first | exact rfl | exact True.intro | apply And.intro))
        all_goals exact congrArg (fun n : Int => D.v (.int .i64 n)) hw.symm
      · have e2' : ¬ hi < a := fun h => of_decide_eq_false e2 (by rw [c2]; exact (cmp_pos _ _).2 h)
        refine ⟨(i + 1, a, hi), hend a hi (by rw [lowF, if_pos e1']) (by rw [highF, if_neg e2']), by simp only; omega, ?_⟩
        constructor <;> (repeat' (first | exact rfl | exact True.intro | apply And.intro))
        all_goals exact congrArg (fun n : Int => D.v (.int .i64 n)) hw.symm
    · have e1' : ¬ a < lo := fun h => of_decide_eq_false e1 (by rw [c1]; exact (cmp_neg _ _).2 h)
      refine k_cmp (by rw [cn_z]; exact hza) (by rw [cn_z]; exact h3) fun n2 c2 => ?_
      simp only [cn_q] at c2
      refine ⟨fun e2 => ?_, fun e2 => ?_⟩
      · have e2' : hi < a := (cmp_pos _ _).1 (by rw [← c2]; exact of_decide_eq_true e2)
        refine ⟨(i + 1, lo, a), hend lo a (by rw [lowF, if_neg e1']) (by rw [highF, if_pos e2']), by simp only; omega, ?_⟩
        constructor <;> (repeat' (first | exact rfl | exact True.intro | apply And.intro))
        all_goals exact congrArg (fun n : Int => D.v (.int .i64 n)) hw.symm
      · have e2' : ¬ hi < a := fun h => of_decide_eq_false e2 (by rw [c2]; exact (cmp_pos _ _).2 h)
        refine ⟨(i + 1, lo, hi), hend lo hi (by rw [lowF, if_neg e1']) (by rw [highF, if_neg e2']), by simp only; omega, ?_⟩
        constructor <;> (repeat' (first | exact rfl | exact True.intro | apply And.intro))
        all_goals exact congrArg (fun n : Int => D.v (.int .i64 n)) hw.symm
  · have hge : (q0 :: l).length ≤ i := by have := of_decide_eq_false e; rw [List.length_map] at this; omega
    refine Eq.trans (b := pair (cn lo) (cn hi)) ?_ rfl
    rw [List.drop_eq_nil_of_le hge] at h4 h5
    rw [← h4, ← h5]; rfl

theorem k_RAround (q0 : Rat) (l : List Rat) {v : List (List D)} (hv : v = (q0 :: l).map fun q => rd (cn q)) (hz : ∀ q, q ∈ q0 :: l → qs q ≤ 4398046511104) (hn : l.length ≤ 1099511627776) {K : AV → Prop}
    (k : ∀ p q, p = lowL q0 (q0 :: l) → q = highL q0 (q0 :: l) → K (pair (cn p) (cn q))) : Ask 89 [.val (.one (.d (.list v)))] K := by
  subst hv
  exact use (RAround_spec q0 l hz hn) rfl (k _ _ rfl rfl)
theorem lowL_mem (l : List Rat) : ∀ q, lowL q l = q ∨ lowL q l ∈ l := by
  induction l with
  | nil => intro q; exact .inl rfl
  | cons a l ih =>
    intro q
    show lowL (lowF q a) l = q ∨ lowL (lowF q a) l ∈ a :: l
    rcases ih (lowF q a) with h | h
    · rw [h]; unfold lowF; split
      · exact .inr List.mem_cons_self
      · exact .inl rfl
    · exact .inr (List.mem_cons_of_mem _ h)
theorem lowL_le (l : List Rat) : ∀ q, lowL q l ≤ q ∧ ∀ a, a ∈ l → lowL q l ≤ a := by
  induction l with
  | nil => intro q; exact ⟨Rat.le_refl, fun a h => by simp at h⟩
  | cons a l ih =>
    intro q
    obtain ⟨h1, h2⟩ := ih (lowF q a)
    have h3 : lowF q a ≤ q ∧ lowF q a ≤ a := by
      unfold lowF; split
      · rename_i h; exact ⟨Rat.le_of_lt h, Rat.le_refl⟩
      · rename_i h; exact ⟨Rat.le_refl, Rat.not_lt.1 h⟩
    refine ⟨Rat.le_trans h1 h3.1, fun b hb => ?_⟩
    rcases List.mem_cons.1 hb with rfl | hb
    · exact Rat.le_trans h1 h3.2
    · exact h2 b hb
theorem highL_mem (l : List Rat) : ∀ q, highL q l = q ∨ highL q l ∈ l := by
  induction l with
  | nil => intro q; exact .inl rfl
  | cons a l ih =>
    intro q
    show highL (highF q a) l = q ∨ highL (highF q a) l ∈ a :: l
    rcases ih (highF q a) with h | h
    · rw [h]; unfold highF; split
      · exact .inr List.mem_cons_self
      · exact .inl rfl
    · exact .inr (List.mem_cons_of_mem _ h)
theorem highL_le (l : List Rat) : ∀ q, q ≤ highL q l ∧ ∀ a, a ∈ l → a ≤ highL q l := by
  induction l with
  | nil => intro q; exact ⟨Rat.le_refl, fun a h => by simp at h⟩
  | cons a l ih =>
    intro q
    obtain ⟨h1, h2⟩ := ih (highF q a)
    have h3 : q ≤ highF q a ∧ a ≤ highF q a := by
      unfold highF; split
      · rename_i h; exact ⟨Rat.le_of_lt h, Rat.le_refl⟩
      · rename_i h; exact ⟨Rat.le_refl, Rat.not_lt.1 h⟩
    refine ⟨Rat.le_trans h3.1 h1, fun b hb => ?_⟩
    rcases List.mem_cons.1 hb with rfl | hb
    · exact Rat.le_trans h3.2 h1
    · exact h2 b hb

end Go.Proofs.YtdhpmdkfmgpcmaaDoor.eng
