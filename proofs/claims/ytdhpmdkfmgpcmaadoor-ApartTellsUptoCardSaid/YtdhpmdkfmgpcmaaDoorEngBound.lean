/- Contracts: gantref1.Bound: a loop with two appends; lists of vectors. -/
import Derived.Test.YtdhpmdkfmgpcmaaDoorEngSweep
namespace Go.Proofs.YtdhpmdkfmgpcmaaDoor.eng
open Go.RowKit num mem seg q held ratA ratB ratC ratD ratE vars ratF trq
section
variable {x y z t : RV} {K : AV → Prop}
def rdv (p : RV × RV) : List D := rd p.1 ++ rd p.2
/-- a list of vectors -/
def vecs (l : List (RV × RV)) : AV := .val (.one (.d (.list (l.map rdv))))
theorem rd_rows2 (l : List Rat) : ∀ row, row ∈ (l.map fun q => rd (cn q)) → row.length = 3 := by
  intro row hr
  obtain ⟨q, _, rfl⟩ := List.mem_map.1 hr
  rfl
def xsQ (l : List (RV × RV)) : List Rat := l.map fun p => p.1.q
def ysQ (l : List (RV × RV)) : List Rat := l.map fun p => p.2.q
set_option maxHeartbeats 4000000 in
set_option maxRecDepth 100000 in
theorem RBound_spec (p0 : RV × RV) (l : List (RV × RV)) (hz : ∀ p, p ∈ p0 :: l → p.1.z ≤ 1073741824 ∧ p.2.z ≤ 1073741824) (hn : l.length ≤ 1073741824) :
    Spec Tryd.prog Tab 24 [vecs (p0 :: l)] (box (cn (lowL p0.1.q (xsQ l))) (cn (lowL p0.2.q (ysQ l))) (cn (highL p0.1.q (xsQ l))) (cn (highL p0.2.q (ysQ l)))) := by
  refine fn_spec Tryd.func24 rfl rfl Tryd.ntmps24 rfl (by kernel_rfl) rfl rfl ?_
  refine ⟨fun e => absurd (of_decide_eq_true e) (by simp; omega), fun _ => ?_⟩
  refine ⟨Nat, fun i => [(19, vecs (p0 :: l)), (20, int ((((p0 :: l).map rdv).length : Nat) : Int)), (21, int (i : Int)), (4, .val (.one (.row 30 0))), (5, .val (.one (.row 36 0))), (2, .val (.one (.ptr 2 0)))],
    fun i => [(2, .var 48 [.d (.v (.bool false)), .d (.v (.string ⟨#[]⟩)), .d (.v (.string ⟨#[]⟩)), .d (.v (.bool false)), .d (.v (.string ⟨#[]⟩)), .d (.v (.string ⟨#[]⟩)), .d (.v (.bool false)), .d (.v (.string ⟨#[]⟩)), .d (.v (.string ⟨#[]⟩)), .d (.v (.bool false)), .d (.v (.string ⟨#[]⟩)), .d (.v (.string ⟨#[]⟩))]),
      (30, .row 23 3 0 ((xsQ ((p0 :: l).take i)).map fun q => rd (cn q)) true), (36, .row 23 3 0 ((ysQ ((p0 :: l).take i)).map fun q => rd (cn q)) true)],
    fun i => i ≤ (p0 :: l).length,
    fun i => (p0 :: l).length - i, 0, ?_, Nat.zero_le _, fun i hs => ?_⟩
  · constructor <;> (repeat' (first | exact rfl | exact True.intro | exact ⟨_, _, rfl⟩ | exact (by decide : 0 < 3) | apply And.intro))
  refine ⟨fun e => ?_, fun e => ?_⟩
  · have hlt : i < (p0 :: l).length := by have := of_decide_eq_true e; rw [List.length_map] at this; omega
    obtain ⟨a, ha⟩ : ∃ a, (p0 :: l)[i]? = some a := ⟨_, List.getElem?_eq_getElem hlt⟩
    obtain ⟨za, zb⟩ := hz a (List.mem_of_getElem? ha)
    have htake : (p0 :: l).take (i + 1) = (p0 :: l).take i ++ [a] := by
      rw [List.take_add_one, ha]; rfl
    have hlen : ((p0 :: l).take i).length ≤ 1073741825 := by rw [List.length_take]; simp at hlt ⊢; omega
    have hw : IntKind.i64.wrap ((i : Int) + 1) = ((i + 1 : Nat) : Int) := by rw [wrap64 _ (by omega) (by simp at hlt; omega)]; omega
    have hx : (xsQ ((p0 :: l).take (i + 1))).map (fun q => rd (cn q)) = (xsQ ((p0 :: l).take i)).map (fun q => rd (cn q)) ++ [rd (cn a.1.q)] := by rw [htake]; simp [xsQ]
    have hy : (ysQ ((p0 :: l).take (i + 1))).map (fun q => rd (cn q)) = (ysQ ((p0 :: l).take i)).map (fun q => rd (cn q)) ++ [rd (cn a.2.q)] := by rw [htake]; simp [ysQ]
    refine k_at (rdv a) (Int.natCast_nonneg _) (by rw [Int.toNat_natCast, List.getElem?_map, ha]; rfl) rfl ?_
    refine k_plain (x := a.1) (by omega) fun q1 h1 z1 => ?_
    subst h1
    refine ⟨⟨rd_rows2 [a.1.q], ?_, ?_⟩, ?_⟩
    · simp only [xsQ, List.length_map, List.length_cons, List.length_nil]; omega
    · simp only [xsQ, List.length_map, List.length_cons, List.length_nil]; omega
    refine k_plain (x := a.2) (by omega) fun q2 h2 z2 => ?_
    subst h2
    refine ⟨⟨rd_rows2 [a.2.q], ?_, ?_⟩, ?_⟩
    · simp only [ysQ, List.length_map, List.length_cons, List.length_nil]; omega
    · simp only [ysQ, List.length_map, List.length_cons, List.length_nil]; omega
    refine ⟨by kernel_rfl, ?_⟩
    refine ⟨i + 1, hlt, by simp only; omega, ?_⟩
    constructor <;> (repeat' (first | exact rfl | exact True.intro | apply And.intro))
    all_goals first
      | exact congrArg (fun n : Int => D.v (.int .i64 n)) hw.symm
      | exact hx
      | exact hx.symm
      | exact hy
      | exact hy.symm
  · have hge : i = (p0 :: l).length := by have := of_decide_eq_false e; rw [List.length_map] at this; omega
    subst hge
    have hx : (xsQ ((p0 :: l).take (p0 :: l).length)).map (fun q => rd (cn q)) = (p0.1.q :: xsQ l).map fun q => rd (cn q) := by rw [List.take_length]; rfl
    have hy : (ysQ ((p0 :: l).take (p0 :: l).length)).map (fun q => rd (cn q)) = (p0.2.q :: ysQ l).map fun q => rd (cn q) := by rw [List.take_length]; rfl
    refine k_RAro 1073741825 (by decide) p0.1.q (xsQ l) hx ?_ (by simp [xsQ]; omega) fun p1 q1 e1 h1 y1 z1 => ?_
    · intro q hq
      obtain ⟨p, hp, rfl⟩ := List.mem_map.1 (show q ∈ (p0 :: l).map (fun p => p.1.q) from hq)
      have := (hz p hp).1; have := p.1.z1; omega
    refine k_RAro 1073741825 (by decide) p0.2.q (ysQ l) hy ?_ (by simp [ysQ]; omega) fun p2 q2 e2 h2 y2 z2 => ?_
    · intro q hq
      obtain ⟨p, hp, rfl⟩ := List.mem_map.1 (show q ∈ (p0 :: l).map (fun p => p.2.q) from hq)
      have := (hz p hp).2; have := p.2.z1; omega
    refine Eq.trans (b := box (cn _) (cn _) (cn _) (cn _)) ?_ rfl
    subst_vars; rfl
end
end Go.Proofs.YtdhpmdkfmgpcmaaDoor.eng
