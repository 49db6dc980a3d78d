/- Contracts for RoamNexts: gantref3.Beside. Printed by wip/gp_rnx.py. -/
import Derived.Test.YtobeklcimmjodaaRnxA
namespace Go.Proofs.Ytobeklcimmjodaa.eng
open Go.RowKit mem
section
variable {K : AV → Prop}
theorem besU_yesD {s : Int} {l : List Int} {i j : Nat} {k : Int} (hk : l[i]? = some k) (hj : j < 2) (h : nbOk s k j) :
    List.map ilD (besU s l (2 * i + (j + 1))) = List.map ilD (besU s l (2 * i + j)) ++ [[D.list ((List.map intD l).set i [D.v (.int .i64 (IntKind.i64.wrap (k + (if j = 0 then -1 else 1))))])]] := by
  rw [besU_yesL hk hj h, List.map_append, nb_add]; simp [ilD, intD, List.map_set]
set_option maxHeartbeats 4000000 in
set_option maxRecDepth 100000 in
theorem bes_spec (s : Int) (l : List Int) (hn : l.length ≤ 1048576) : Spec Try.prog Tab 5 [int s, .val (.one (.d (.list (List.map intD l))))] (.val (.one (.d (.list (List.map ilD (besU s l (2 * l.length))))))) := by
  have hLl : (List.map intD l).length = l.length := List.length_map ..
  refine fn_spec Try.func5 rfl rfl Try.ntmps5 rfl (by kernel_rfl) rfl rfl ?_
  refine ⟨Nat, fun i => [(0, int s), (1, .val (.one (.d (.list (List.map intD l))))), (5, .val (.one (.row 55 0))), (11, .val (.one (.d (.list (List.map intD l))))), (12, int ((List.map intD l).length : Int)), (13, int (i : Int))],
    fun i => [(55, .row 22 1 0 (List.map ilD (besU s l (2 * i))) true)], fun i => i ≤ l.length, fun i => l.length - i, 0, ?_, Nat.zero_le _, fun i hs => ?_⟩
  · constructor <;> (repeat' (first | exact rfl | exact True.intro | exact ⟨_, _, rfl⟩ | exact (by decide) | apply And.intro))
    all_goals first | exact congrArg (fun n : Int => D.v (.int .i64 n)) (by omega) | exact congrArg (fun n : Int => D.v (.int .i64 n)) (by rw [wrap64 _ (by omega) (by omega)]; omega) | (simp; done)
  refine ⟨fun e1 => ?_, fun e1 => ?_⟩
  · have f14 : (i : Int) < ((List.map intD l).length : Int) := of_decide_eq_true e1
    refine get_ex (l := l) (i := i) (by first | omega | exact Nat.mod_lt _ (by omega)) fun x16 hx16 => ?_
    refine k_ix i [D.v (.int .i64 (x16))] (by first | rfl | omega | (rw [wrap64 _ (by omega) (by omega)]; omega) | (rw [wrap64 _ (by omega) (by omega)]; split <;> omega)) (map_at hx16) rfl ?_
    refine ⟨Nat, fun j => [(0, int s), (1, .val (.one (.d (.list (List.map intD l))))), (5, .val (.one (.row 55 0))), (6, int (i : Int)), (7, int x16), (11, .val (.one (.d (.list (List.map intD l))))), (12, int ((List.map intD l).length : Int)), (13, int (i : Int)), (18, .val (.one (.full ([[D.v (.int .i64 (-1))], [D.v (.int .i64 (1))]])))), (19, int 2), (20, int (j : Int))],
      fun j => [(55, .row 22 1 0 (List.map ilD (besU s l (2 * i + j))) true)], fun j => j ≤ 2, fun j => 2 - j, 0, ?_, Nat.zero_le _, fun j hs => ?_⟩
    · constructor <;> (repeat' (first | exact rfl | exact True.intro | exact ⟨_, _, rfl⟩ | exact (by decide) | apply And.intro))
      all_goals first | exact congrArg (fun n : Int => D.v (.int .i64 n)) (by omega) | exact congrArg (fun n : Int => D.v (.int .i64 n)) (by rw [wrap64 _ (by omega) (by omega)]; omega) | (simp; done)
    have hnb := nb_add x16 j
    have hT : (List.map ilD (besU s l (2 * i + j))).length ≤ 2097152 := by rw [List.length_map]; have := besU_le s l (2 * i + j); omega
    refine ⟨fun e2 => ?_, fun e2 => ?_⟩
    · have f21 : (j : Int) < 2 := of_decide_eq_true e2
      refine k_ix j [D.v (.int .i64 ((if j = 0 then -1 else 1)))] (by first | rfl | omega | (rw [wrap64 _ (by omega) (by omega)]; omega) | (rw [wrap64 _ (by omega) (by omega)]; split <;> omega)) (two_at _ _ (by omega)) rfl ?_
      refine fork (fun e3 => ?_) (fun e3 => ?_)
      · have f26 : x16 ≥ 0 := of_decide_eq_true e3
        refine fork (fun e4 => ?_) (fun e4 => ?_)
        · have f31 : x16 ≤ s := of_decide_eq_true e4
          refine fork (fun e5 => ?_) (fun e5 => ?_)
          · have f37 : IntKind.i64.wrap (x16 + (if j = 0 then -1 else 1)) ≥ 0 := of_decide_eq_true e5
            refine ⟨fun e6 => ?_, fun e6 => ?_⟩
            · have f43 : IntKind.i64.wrap (x16 + (if j = 0 then -1 else 1)) ≤ s := of_decide_eq_true e6
              refine k_cloneN (by omega) (by omega) ?_
              refine k_at_own' i (by first | rfl | omega | (rw [wrap64 _ (by omega) (by omega)]; omega) | (rw [wrap64 _ (by omega) (by omega)]; split <;> omega)) (by first | omega | (simp; omega)) ?_
              refine ⟨by first | omega | (simp; omega), ?_⟩
              refine ⟨⟨row1 rfl, (by show ((List.map ilD (besU s l (2 * i + j))).length + 1) * 24 ≤ _; omega), (by show ((List.map ilD (besU s l (2 * i + j))).length + 1) ≤ _; omega)⟩, ?_⟩
              have hok : nbOk s x16 j := ⟨by omega, by omega, by omega, by omega⟩
              refine ⟨j + 1, by omega, by simp only; omega, ?_⟩
              constructor <;> (repeat' (first | exact rfl | exact True.intro | apply And.intro))
              all_goals first
                | exact besU_yesD hx16 (by omega) hok
                | exact congrArg (fun n : Int => D.v (.int .i64 n)) (by rw [wrap64 _ (by omega) (by omega)]; omega)
                | exact congrArg (fun n : Int => D.v (.int .i64 n)) (by omega)
            · have f43 : ¬ (IntKind.i64.wrap (x16 + (if j = 0 then -1 else 1)) ≤ s) := of_decide_eq_false e6
              have hno : ¬ nbOk s x16 j := fun h => by obtain ⟨h1, h2, h3, h4⟩ := h; omega
              refine ⟨j + 1, by omega, by simp only; omega, ?_⟩
              constructor <;> (repeat' (first | exact rfl | exact True.intro | apply And.intro))
              all_goals first
                | exact congrArg (List.map ilD) (besU_noL hx16 (by omega) hno)
                | exact congrArg (List.map ilD) (besU_noL hx16 (by omega) hno).symm
                | exact congrArg (fun n : Int => D.v (.int .i64 n)) (by rw [wrap64 _ (by omega) (by omega)]; omega)
                | exact congrArg (fun n : Int => D.v (.int .i64 n)) (by omega)
          · have f37 : ¬ (IntKind.i64.wrap (x16 + (if j = 0 then -1 else 1)) ≥ 0) := of_decide_eq_false e5
            refine ⟨fun e => absurd e (by decide), fun _ => ?_⟩
            have hno : ¬ nbOk s x16 j := fun h => by obtain ⟨h1, h2, h3, h4⟩ := h; omega
            refine ⟨j + 1, by omega, by simp only; omega, ?_⟩
            constructor <;> (repeat' (first | exact rfl | exact True.intro | apply And.intro))
            all_goals first
              | exact congrArg (List.map ilD) (besU_noL hx16 (by omega) hno)
              | exact congrArg (List.map ilD) (besU_noL hx16 (by omega) hno).symm
              | exact congrArg (fun n : Int => D.v (.int .i64 n)) (by rw [wrap64 _ (by omega) (by omega)]; omega)
              | exact congrArg (fun n : Int => D.v (.int .i64 n)) (by omega)
        · have f31 : ¬ (x16 ≤ s) := of_decide_eq_false e4
          refine ⟨fun e => absurd e (by decide), fun _ => ?_⟩
          have hno : ¬ nbOk s x16 j := fun h => by obtain ⟨h1, h2, h3, h4⟩ := h; omega
          refine ⟨j + 1, by omega, by simp only; omega, ?_⟩
          constructor <;> (repeat' (first | exact rfl | exact True.intro | apply And.intro))
          all_goals first
            | exact congrArg (List.map ilD) (besU_noL hx16 (by omega) hno)
            | exact congrArg (List.map ilD) (besU_noL hx16 (by omega) hno).symm
            | exact congrArg (fun n : Int => D.v (.int .i64 n)) (by rw [wrap64 _ (by omega) (by omega)]; omega)
            | exact congrArg (fun n : Int => D.v (.int .i64 n)) (by omega)
      · have f26 : ¬ (x16 ≥ 0) := of_decide_eq_false e3
        refine ⟨fun e => absurd e (by decide), fun _ => ?_⟩
        have hno : ¬ nbOk s x16 j := fun h => by obtain ⟨h1, h2, h3, h4⟩ := h; omega
        refine ⟨j + 1, by omega, by simp only; omega, ?_⟩
        constructor <;> (repeat' (first | exact rfl | exact True.intro | apply And.intro))
        all_goals first
          | exact congrArg (List.map ilD) (besU_noL hx16 (by omega) hno)
          | exact congrArg (List.map ilD) (besU_noL hx16 (by omega) hno).symm
          | exact congrArg (fun n : Int => D.v (.int .i64 n)) (by rw [wrap64 _ (by omega) (by omega)]; omega)
          | exact congrArg (fun n : Int => D.v (.int .i64 n)) (by omega)
    · have f21 : ¬ ((j : Int) < 2) := of_decide_eq_false e2
      obtain rfl : j = 2 := by omega
      refine ⟨i + 1, by omega, by simp only; omega, ?_⟩
      constructor <;> (repeat' (first | exact rfl | exact True.intro | apply And.intro))
      all_goals first
        | exact congrArg (fun n : Int => D.v (.int .i64 n)) (by rw [wrap64 _ (by omega) (by omega)]; omega)
        | exact congrArg (fun n : Int => D.v (.int .i64 n)) (by omega)
  · have f14 : ¬ ((i : Int) < ((List.map intD l).length : Int)) := of_decide_eq_false e1
    refine Eq.trans (b := .val (.one (.d (.list (List.map ilD (besU s l (2 * i))))))) ?_ rfl
    obtain rfl : i = l.length := by omega
    rfl
end
end Go.Proofs.Ytobeklcimmjodaa.eng
