/- Contracts: planned tracks: timing.Plan; gantref3.Planned. Printed by wip/gp_plan.py. -/
import Derived.Test.YtpejadencgfnnaaGreatDoorGrpG
namespace Go.Proofs.YtpejadencgfnnaaGreatDoor.eng
open Go.RowKit num mem seg q held ratA ratB ratC ratD ratE vars ratF trq
section
variable {K : AV → Prop}
set_option maxRecDepth 100000 in
theorem tgood_spec (q : List RV) (hq : q.length ≤ 1048576 ∧ ∀ x, x ∈ q → x.z ≤ 1048576) : Spec Tryz.prog Tab 130 [.val (.one (.d (.list (List.map rd q))))] (.val (.one (.d (.list (List.map rdc (gdL q)))))) := by
  have hLq : (List.map rd q).length = q.length := List.length_map ..
  have hq1 := hq.1
  refine fn_spec Tryz.func130 rfl rfl Tryz.ntmps130 rfl (by kernel_rfl) rfl rfl ?_
  refine ⟨Nat, fun i => [(3, .val (.one (.row 17 0))), (6, .val (.one (.d (.list (List.map rd q))))), (7, int ((List.map rd q).length : Int)), (8, int (i : Int))],
    fun i => [(17, .row 23 3 0 (List.map rdc (gdL (q.take i))) true)], fun i => i ≤ q.length, fun i => q.length - i, 0, ?_, Nat.zero_le _, fun i hs => ?_⟩
  · constructor <;> (repeat' (first | exact rfl | exact True.intro | exact ⟨_, _, rfl⟩ | exact (by decide) | apply And.intro))
    all_goals first | exact congrArg (fun n : Int => D.v (.int .i64 n)) (by omega) | exact congrArg (fun n : Int => D.v (.int .i64 n)) (by rw [wrap64 _ (by omega) (by omega)]; omega) | (simp; done)
  have hT : (List.map rdc (gdL (q.take i))).length ≤ 1048576 := by rw [List.length_map, gdL_len, List.length_take]; omega
  refine ⟨fun e1 => ?_, fun e1 => ?_⟩
  · have f9 : (i : Int) < ((List.map rd q).length : Int) := of_decide_eq_true e1
    refine get_ex (l := q) (i := i) (by first | omega | exact Nat.mod_lt _ (by omega)) fun x10 hx10 => ?_
    have hzx10 := hq.2 x10 (List.mem_of_getElem? hx10)
    refine k_ix i [D.v (.bool x10.s), D.v (.string x10.a), D.v (.string x10.d)] (by first | rfl | omega | (rw [wrap64 _ (by omega) (by omega)]; omega) | (rw [wrap64 _ (by omega) (by omega)]; split <;> omega)) (map_at hx10) rfl ?_
    refine k_of (0) (by omega) (by omega) fun q14 h14 z14 => ?_
    simp only [cn_z] at z14
    refine k_add (x := x10) (y := cn q14) (by omega) (by simp only [cn_z]; omega) fun q15 h15 z15 => ?_
    simp only [cn_z] at z15
    simp only [cn_q] at h15
    refine ⟨⟨row1 rfl, (by show ((List.map rdc (gdL (q.take i))).length + 1) * 40 ≤ _; omega), (by show ((List.map rdc (gdL (q.take i))).length + 1) ≤ _; omega)⟩, ?_⟩
    refine ⟨by kernel_rfl, ?_⟩
    have e15 : q15 = x10.q := by rw [h15, h14, Rat.intCast_zero, Rat.add_zero]
    clear h15
    subst e15
    refine ⟨i + 1, by omega, by simp only; omega, ?_⟩
    constructor <;> (repeat' (first | exact rfl | exact True.intro | apply And.intro))
    all_goals first
      | (rw [gdL_snoc _ hx10]; rfl)
      | exact congrArg (fun n : Int => D.v (.int .i64 n)) (by rw [wrap64 _ (by omega) (by omega)]; omega)
      | exact congrArg (fun n : Int => D.v (.int .i64 n)) (by omega)
  · have f9 : ¬ ((i : Int) < ((List.map rd q).length : Int)) := of_decide_eq_false e1
    refine Eq.trans (b := .val (.one (.d (.list (List.map rdc (gdL (q.take i))))))) ?_ rfl
    rw [List.take_of_length_le (by omega)]
theorem k_tgood {L : List (List RV)} {i : Nat} {q : List RV} (hw : wAt L i = q) (hq : q.length ≤ 1048576 ∧ ∀ x, x ∈ q → x.z ≤ 1048576) (k : K (.val (.one (.d (.list (List.map rdc (gdL (wAt L i)))))))) : Ask 130 [.val (.one (.d (.list (List.map rd q))))] K := by
  subst hw; exact use (tgood_spec _ hq) rfl k
set_option maxRecDepth 100000 in
theorem tplain_spec (q : List RV) (hq : q.length ≤ 1048576 ∧ ∀ x, x ∈ q → x.z ≤ 1048576) : Spec Tryz.prog Tab 121 [.val (.one (.d (.list (List.map rd q))))] (.val (.one (.d (.list (List.map rdc (gdL q)))))) := by
  have hLq : (List.map rd q).length = q.length := List.length_map ..
  have hq1 := hq.1
  refine fn_spec Tryz.func121 rfl rfl Tryz.ntmps121 rfl (by kernel_rfl) rfl rfl ?_
  refine ⟨Nat, fun i => [(3, .val (.one (.row 17 0))), (6, .val (.one (.d (.list (List.map rd q))))), (7, int ((List.map rd q).length : Int)), (8, int (i : Int))],
    fun i => [(17, .row 23 3 0 (List.map rdc (gdL (q.take i))) true)], fun i => i ≤ q.length, fun i => q.length - i, 0, ?_, Nat.zero_le _, fun i hs => ?_⟩
  · constructor <;> (repeat' (first | exact rfl | exact True.intro | exact ⟨_, _, rfl⟩ | exact (by decide) | apply And.intro))
    all_goals first | exact congrArg (fun n : Int => D.v (.int .i64 n)) (by omega) | exact congrArg (fun n : Int => D.v (.int .i64 n)) (by rw [wrap64 _ (by omega) (by omega)]; omega) | (simp; done)
  have hT : (List.map rdc (gdL (q.take i))).length ≤ 1048576 := by rw [List.length_map, gdL_len, List.length_take]; omega
  refine ⟨fun e1 => ?_, fun e1 => ?_⟩
  · have f9 : (i : Int) < ((List.map rd q).length : Int) := of_decide_eq_true e1
    refine get_ex (l := q) (i := i) (by first | omega | exact Nat.mod_lt _ (by omega)) fun x10 hx10 => ?_
    have hzx10 := hq.2 x10 (List.mem_of_getElem? hx10)
    refine k_ix i [D.v (.bool x10.s), D.v (.string x10.a), D.v (.string x10.d)] (by first | rfl | omega | (rw [wrap64 _ (by omega) (by omega)]; omega) | (rw [wrap64 _ (by omega) (by omega)]; split <;> omega)) (map_at hx10) rfl ?_
    refine k_From3 (x := x10) (by omega) fun q14 h14 z14 => ?_
    refine k_To3 (q := q14) (by omega) ?_
    refine ⟨⟨row1 rfl, (by show ((List.map rdc (gdL (q.take i))).length + 1) * 40 ≤ _; omega), (by show ((List.map rdc (gdL (q.take i))).length + 1) ≤ _; omega)⟩, ?_⟩
    subst h14
    refine ⟨i + 1, by omega, by simp only; omega, ?_⟩
    constructor <;> (repeat' (first | exact rfl | exact True.intro | apply And.intro))
    all_goals first
      | (rw [gdL_snoc _ hx10]; rfl)
      | exact congrArg (fun n : Int => D.v (.int .i64 n)) (by rw [wrap64 _ (by omega) (by omega)]; omega)
      | exact congrArg (fun n : Int => D.v (.int .i64 n)) (by omega)
  · have f9 : ¬ ((i : Int) < ((List.map rd q).length : Int)) := of_decide_eq_false e1
    refine Eq.trans (b := .val (.one (.d (.list (List.map rdc (gdL (q.take i))))))) ?_ rfl
    rw [List.take_of_length_le (by omega)]
theorem k_tplain {L : List (List RV)} {i : Nat} {q : List RV} (hw : wAt L i = q) (hq : q.length ≤ 1048576 ∧ ∀ x, x ∈ q → x.z ≤ 1048576) (k : K (.val (.one (.d (.list (List.map rdc (gdL (wAt L i)))))))) : Ask 121 [.val (.one (.d (.list (List.map rd q))))] K := by
  subst hw; exact use (tplain_spec _ hq) rfl k
set_option maxHeartbeats 8000000 in
set_option maxRecDepth 100000 in
theorem Plan_spec (A : ArmV) (L : List (List RV)) (s : Int) (hA : A.ok) (hL : L.length ≤ 1048576 ∧ ∀ q, q ∈ L → q.length ≤ 1048576 ∧ ∀ x, x ∈ q → x.z ≤ 1048576) (hs1 : -9223372036854775808 ≤ s ∧ s ≤ 9223372036854775807) : Spec Tryz.prog Tab 37 [.val (.agg [.d (.v (.string A.name)), .d (.v (.bool A.bx.s)), .d (.v (.string A.bx.a)), .d (.v (.string A.bx.d)), .d (.v (.bool A.by'.s)), .d (.v (.string A.by'.a)), .d (.v (.string A.by'.d)), .d (.v (.bool (A.bh))), .d (.v (.bool A.bt.s)), .d (.v (.string A.bt.a)), .d (.v (.string A.bt.d)), .d (.list (List.map lk A.links))]), .val (.one (.d (.list (List.map rdrs L)))), int s] (.tup [.one (.d (.list (List.map keyC (plnV A L s)))), .one (.d (.v (.int .i64 (plnE A L s))))]) := by
  have hA2 := hA
  obtain ⟨tk, htk⟩ : ∃ tk, tk = tkS A L s := ⟨_, rfl⟩
  have hLL : (List.map rdrs L).length = L.length := List.length_map ..
  have hL1 := hL.1
  refine fn_spec Tryz.func37 rfl rfl Tryz.ntmps37 rfl (by kernel_rfl) rfl rfl ?_
  refine k_ACheck (A := A) (by assumption) fun n15 hk_15_1 => ?_
  refine ⟨fun e1 => ?_, fun e1 => ?_⟩
  · have f17 : n15 ≠ 0 := bne_t e1
    refine Eq.trans (b := .tup [.one (.d (.list ([]))), .one (.d (.v (.int .i64 (n15))))]) ?_ rfl
    have hno : ¬ armE A = 0 := by rw [← hk_15_1]; exact f17
    have hB := plnB_arm (P := L) (s := s) hno
    have hE := plnE_base (by rw [hB]; exact hno)
    rw [plnV_no (by rw [hE, hB]; exact hno), hE, hB, ← hk_15_1]
    all_goals rfl
  · have f17 : ¬ (n15 ≠ 0) := fun hh => hh (bne_f e1)
    refine ⟨fun e2 => ?_, fun e2 => ?_⟩
    · have f21 : ((List.map rdrs L).length : Int) = 0 := beq_t e2
      refine Eq.trans (b := .tup [.one (.d (.list ([]))), .one (.d (.v (.int .i64 (14))))]) ?_ rfl
      have hA0 : armE A = 0 := by rw [← hk_15_1]; exact Classical.not_not.1 f17
      have hB := plnB_nil (s := s) hA0 (show L.length = 0 by omega)
      have hE := plnE_base (by rw [hB]; decide)
      rw [plnV_no (by rw [hE, hB]; decide), hE, hB]
      all_goals rfl
    · have f21 : ¬ (((List.map rdrs L).length : Int) = 0) := beq_f e2
      refine ⟨fun e3 => ?_, fun e3 => ?_⟩
      · have f24 : ((List.map rdrs L).length : Int) > 60 := of_decide_eq_true e3
        refine Eq.trans (b := .tup [.one (.d (.list ([]))), .one (.d (.v (.int .i64 (2))))]) ?_ rfl
        have hA0 : armE A = 0 := by rw [← hk_15_1]; exact Classical.not_not.1 f17
        have hB := plnB_big (s := s) hA0 (show 60 < L.length by omega)
        have hE := plnE_base (by rw [hB]; decide)
        rw [plnV_no (by rw [hE, hB]; decide), hE, hB]
        all_goals rfl
      · have f24 : ¬ (((List.map rdrs L).length : Int) > 60) := of_decide_eq_false e3
        refine fork (fun e4 => ?_) (fun e4 => ?_)
        · have f27 : s < 0 := of_decide_eq_true e4
          refine ⟨fun _ => ?_, fun e => absurd e (by decide)⟩
          refine Eq.trans (b := .tup [.one (.d (.list ([]))), .one (.d (.v (.int .i64 (1))))]) ?_ rfl
          have hA0 : armE A = 0 := by rw [← hk_15_1]; exact Classical.not_not.1 f17
          have hB := plnB_arg (s := s) hA0 (show ¬ L.length = 0 by omega) (show ¬ 60 < L.length by omega) (by omega)
          have hE := plnE_base (by rw [hB]; decide)
          rw [plnV_no (by rw [hE, hB]; decide), hE, hB]
          all_goals rfl
        · have f27 : ¬ (s < 0) := of_decide_eq_false e4
          refine ⟨fun e5 => ?_, fun e5 => ?_⟩
          · have f30 : s > 2000 := of_decide_eq_true e5
            refine Eq.trans (b := .tup [.one (.d (.list ([]))), .one (.d (.v (.int .i64 (1))))]) ?_ rfl
            have hA0 : armE A = 0 := by rw [← hk_15_1]; exact Classical.not_not.1 f17
            have hB := plnB_arg (s := s) hA0 (show ¬ L.length = 0 by omega) (show ¬ 60 < L.length by omega) (by omega)
            have hE := plnE_base (by rw [hB]; decide)
            rw [plnV_no (by rw [hE, hB]; decide), hE, hB]
            all_goals rfl
          · have f30 : ¬ (s > 2000) := of_decide_eq_false e5
            have hA0 : armE A = 0 := by rw [← hk_15_1]; exact Classical.not_not.1 f17
            have hb := plnB_0 (s := s) hA0 (show ¬ L.length = 0 by omega) (show ¬ 60 < L.length by omega) (by omega)
            refine get_ex (l := L) (i := 0) (by first | omega | exact Nat.mod_lt _ (by omega)) fun x33 hx33 => ?_
            have hwx33 := wAt_is hx33
            have hzx33 := hL.2 x33 (List.mem_of_getElem? hx33)
            refine k_ix 0 [D.list (List.map rd x33)] (by first | rfl | omega | (rw [wrap64 _ (by omega) (by omega)]; omega) | (rw [wrap64 _ (by omega) (by omega)]; split <;> omega)) (map_at hx33) rfl ?_
            refine k_AFits (A := A) (Q := x33) hA2 (fun x hx => Nat.le_trans (hzx33.2 x hx) (by decide)) fun n35 hk_35_1 => ?_
            refine ⟨by kernel_rfl, ?_⟩
            refine ⟨fun e6 => ?_, fun e6 => ?_⟩
            · have f37 : n35 ≠ 0 := bne_t e6
              refine Eq.trans (b := .tup [.one (.d (.list ([]))), .one (.d (.v (.int .i64 (n35))))]) ?_ rfl
              have e : plnS A L s 0 = n35 := by rw [plnS_fit (by rw [hwx33, ← hk_35_1]; exact f37), hwx33, hk_35_1]
              have hE := plnE_at hb (i := 0) (fun j hj => absurd hj (Nat.not_lt_zero j)) (by rw [e]; exact f37) (by omega)
              rw [plnV_no (by rw [hE, e]; exact f37), hE, e]
              all_goals rfl
            · have f37 : ¬ (n35 ≠ 0) := fun hh => hh (bne_f e6)
              have hp0 : plnS A L s 0 = 0 := plnS_0 (by rw [hwx33, ← hk_35_1]; exact Classical.not_not.1 f37) (by show s ≤ 2000; omega)
              refine k_ix 0 [D.list (List.map rd x33)] (by first | rfl | omega | (rw [wrap64 _ (by omega) (by omega)]; omega) | (rw [wrap64 _ (by omega) (by omega)]; split <;> omega)) (map_at hx33) rfl ?_
              refine k_tgood (L := L) (i := 0) (q := x33) hwx33 hzx33 ?_
              refine ⟨Nat × List (Int × List Rat), fun (k, M) => [(1, .val (.one (.d (.list (List.map rdrs L))))), (3, .val (.one (.ptr 3 0))), (10, plAV 98 L s k), (11, int ((k + 1 : Nat) : Int))],
                fun (k, M) => [(3, .var 32 [.d (.v (.string A.name)), .d (.v (.bool A.bx.s)), .d (.v (.string A.bx.a)), .d (.v (.string A.bx.d)), .d (.v (.bool A.by'.s)), .d (.v (.string A.by'.a)), .d (.v (.string A.by'.d)), .d (.v (.bool (A.bh))), .d (.v (.bool A.bt.s)), .d (.v (.string A.bt.a)), .d (.v (.string A.bt.d)), .d (.list (List.map lk A.links))])] ++ plOb 98 M k, fun (k, M) => k + 1 ≤ L.length ∧ (∀ j, j ≤ k → plnS A L s j = 0) ∧ (0 < k → M = plnG tk L (k + 1)), fun (k, M) => L.length - k, (0, []), ?_, ⟨by omega, fun j hj => by have e : j = 0 := Nat.le_zero.1 hj; rw [e]; exact hp0, fun h => absurd h (by decide)⟩, fun s hs => ?_⟩
              · constructor <;> (repeat' (first | exact rfl | exact True.intro | exact ⟨_, _, rfl⟩ | exact (by decide) | apply And.intro))
                all_goals first | exact congrArg (fun n : Int => D.v (.int .i64 n)) (by omega) | exact congrArg (fun n : Int => D.v (.int .i64 n)) (by rw [wrap64 _ (by omega) (by omega)]; omega) | (simp; done)
              obtain ⟨k, M⟩ := s
              obtain ⟨g1, h1, h2⟩ := hs
              try simp only at g1 h1 h2
              refine ⟨fun e7 => ?_, fun e7 => ?_⟩
              · have f49 : ((k + 1 : Nat) : Int) < ((List.map rdrs L).length : Int) := of_decide_eq_true e7
                rcases k with _ | k
                · have hs0 : s ≤ tk 0 := by rw [htk]; exact tkS_ge A L s _
                  have hs2 : tk 0 ≤ 2000 := by rw [htk]; exact (plnS_ok (h1 0 (by omega))).2
                  have hs00 : tk 0 = s := by rw [htk]; rfl
                  refine k_ix 0 [D.list (List.map rd x33)] (by first | rfl | omega | (rw [wrap64 _ (by omega) (by omega)]; omega) | (rw [wrap64 _ (by omega) (by omega)]; split <;> omega)) (map_at hx33) rfl ?_
                  refine get_ex (l := L) (i := 1) (by first | omega | exact Nat.mod_lt _ (by omega)) fun x61 hx61 => ?_
                  have hwx61 := wAt_is hx61
                  have hzx61 := hL.2 x61 (List.mem_of_getElem? hx61)
                  refine k_ix 1 [D.list (List.map rd x61)] (by first | rfl | omega | (rw [wrap64 _ (by omega) (by omega)]; omega) | (rw [wrap64 _ (by omega) (by omega)]; split <;> omega)) (map_at hx61) rfl ?_
                  refine k_Ticks (A := A) (l := x33) (m := x61) hA2 hzx33 hzx61 fun v63 n63 hk_63_2 hk_63_3 => ?_
                  rw [← hwx33, ← hwx61] at hk_63_2 hk_63_3
                  have hv63 : -9223372036854775808 ≤ v63 ∧ v63 ≤ 2001 := by
                    rw [hk_63_2]; unfold tikV; split
                    · have := tkA_pos A (wAt L 0) (wAt L 1); omega
                    · omega
                  refine ⟨by kernel_rfl, ?_⟩
                  refine fork (fun e8 => ?_) (fun e8 => ?_)
                  · have f68 : n63 = 0 := beq_t e8
                    refine k_ix 0 [D.v (.int .i64 (s)), D.list (List.map rdc (gdL (wAt L 0)))] (by first | rfl | omega | (rw [wrap64 _ (by omega) (by omega)]; omega) | (rw [wrap64 _ (by omega) (by omega)]; split <;> omega)) rfl rfl ?_
                    refine ⟨fun e9 => ?_, fun e9 => ?_⟩
                    · have f78 : IntKind.i64.wrap (s + v63) > 2000 := of_decide_eq_true e9
                      have hwv : IntKind.i64.wrap (s + v63) = s + v63 := wrap64 _ (by omega) (by omega)
                      rw [hwv] at f78
                      have hpk : fitsE A (wAt L 1) = 0 ∧ tk 1 = tk 0 + tikV A (wAt L 0) (wAt L 1) := by rw [htk]; exact pln_ok (P := L) (s := s) (k := 0) (by rw [← hk_63_3]; exact f68)
                      refine ⟨fun _ => ?_, fun e => absurd e (by decide)⟩
                      refine Eq.trans (b := .tup [.one (.d (.list ([]))), .one (.d (.v (.int .i64 (19))))]) ?_ rfl
                      have e : plnS A L s 1 = 19 := plnS_late hpk.1 (by rw [← htk, hpk.2, ← hk_63_2]; omega)
                      have hE := plnE_at hb (i := 1) (fun j hj => h1 j (by omega)) (by rw [e]; decide) (by omega)
                      rw [plnV_no (by rw [hE, e]; decide), hE, e]
                      all_goals rfl
                    · have f78 : ¬ (IntKind.i64.wrap (s + v63) > 2000) := of_decide_eq_false e9
                      have hwv : IntKind.i64.wrap (s + v63) = s + v63 := wrap64 _ (by omega) (by omega)
                      rw [hwv] at f78
                      refine ⟨fun e10 => ?_, fun e10 => ?_⟩
                      · have f80 : n63 ≠ 0 := bne_t e10
                        exfalso
                        exact f80 f68
                      · have f80 : ¬ (n63 ≠ 0) := fun hh => hh (bne_f e10)
                        refine k_ix 0 [D.v (.int .i64 (s)), D.list (List.map rdc (gdL (wAt L 0)))] (by first | rfl | omega | (rw [wrap64 _ (by omega) (by omega)]; omega) | (rw [wrap64 _ (by omega) (by omega)]; split <;> omega)) rfl rfl ?_
                        refine k_ix 1 [D.list (List.map rd x61)] (by first | rfl | omega | (rw [wrap64 _ (by omega) (by omega)]; omega) | (rw [wrap64 _ (by omega) (by omega)]; split <;> omega)) (map_at hx61) rfl ?_
                        refine k_tgood (L := L) (i := 1) (q := x61) hwx61 hzx61 ?_
                        refine ⟨⟨Nat.zero_lt_succ _, row1 rfl, row1 rfl, (by show (1 + 1) * 32 ≤ _; omega), (by show 1 + 1 ≤ _; omega)⟩, ?_⟩
                        refine ⟨by kernel_rfl, ?_⟩
                        have hpk2 : fitsE A (wAt L 1) = 0 ∧ tk 1 = tk 0 + tikV A (wAt L 0) (wAt L 1) := by rw [htk]; exact pln_ok (P := L) (s := s) (k := 0) (by rw [← hk_63_3]; exact f68)
                        have hst : tk 1 = s + v63 := by rw [hpk2.2, ← hk_63_2, hs00]
                        have hle : tkS A L s 1 ≤ 2000 := by rw [← htk, hst]; omega
                        have htk2 : IntKind.i64.wrap (s + v63) = tk 1 := by rw [hst]; exact hwv
                        refine ⟨(1, [(s, gdL (wAt L 0)), (IntKind.i64.wrap (s + v63), gdL (wAt L 1))]), ⟨by omega, fun j hj => by
                          by_cases e : j = 1
                          · rw [e]; exact plnS_0 hpk2.1 hle
                          · exact h1 j (by omega), fun _ => by rw [htk2]; show _ = [(tk 0, gdL (wAt L 0)), (tk 1, gdL (wAt L 1))]; rw [hs00]⟩, by simp only; omega, ?_⟩
                        constructor <;> (repeat' (first | exact rfl | exact True.intro | apply And.intro))
                        all_goals first
                          | (simp [keyC]; done)
                          | exact congrArg (fun n : Int => D.v (.int .i64 n)) (by rw [wrap64 _ (by omega) (by omega)]; omega)
                          | exact congrArg (fun n : Int => D.v (.int .i64 n)) (by omega)
                  · have f68 : ¬ (n63 = 0) := beq_f e8
                    refine ⟨fun e => absurd e (by decide), fun _ => ?_⟩
                    refine ⟨fun e11 => ?_, fun e11 => ?_⟩
                    · have f80 : n63 ≠ 0 := bne_t e11
                      refine Eq.trans (b := .tup [.one (.d (.list ([]))), .one (.d (.v (.int .i64 (n63))))]) ?_ rfl
                      have hz63 : ¬ tikE A (wAt L 0) (wAt L 1) = 0 := by rw [← hk_63_3]; exact f68
                      have e : plnS A L s 1 = n63 := by rw [hk_63_3]; exact pln_err (plnS_ok (h1 0 (by omega))).1 (by have := tkS_ge A L s 0; omega) hz63
                      have hE := plnE_at hb (i := 1) (fun j hj => h1 j (by omega)) (by rw [e]; exact f68) (by omega)
                      rw [plnV_no (by rw [hE, e]; exact f68), hE, e]
                      all_goals rfl
                    · have f80 : ¬ (n63 ≠ 0) := fun hh => hh (bne_f e11)
                      exfalso
                      exact f68 (Classical.not_not.1 f80)
                · have h3 := h2 (Nat.succ_pos k)
                  have hs0 : s ≤ tk (k + 1) := by rw [htk]; exact tkS_ge A L s _
                  have hs2 : tk (k + 1) ≤ 2000 := by rw [htk]; exact (plnS_ok (h1 (k + 1) (by omega))).2
                  have hs00 : tk 0 = s := by rw [htk]; rfl
                  have hT : (List.map keyC M).length ≤ 62 := by rw [List.length_map, h3, plnG_len]; omega
                  have hTl : M.length = k + 2 := by rw [h3, plnG_len]
                  refine get_ex (l := L) (i := ((k + 1 + 1) - 1)) (by first | omega | exact Nat.mod_lt _ (by omega)) fun x57 hx57 => ?_
                  have hwx57 := wAt_is hx57
                  have hzx57 := hL.2 x57 (List.mem_of_getElem? hx57)
                  refine k_ix ((k + 1 + 1) - 1) [D.list (List.map rd x57)] (by first | rfl | omega | (rw [wrap64 _ (by omega) (by omega)]; omega) | (rw [wrap64 _ (by omega) (by omega)]; split <;> omega)) (map_at hx57) rfl ?_
                  refine get_ex (l := L) (i := (k + 1 + 1)) (by first | omega | exact Nat.mod_lt _ (by omega)) fun x61 hx61 => ?_
                  have hwx61 := wAt_is hx61
                  have hzx61 := hL.2 x61 (List.mem_of_getElem? hx61)
                  refine k_ix (k + 1 + 1) [D.list (List.map rd x61)] (by first | rfl | omega | (rw [wrap64 _ (by omega) (by omega)]; omega) | (rw [wrap64 _ (by omega) (by omega)]; split <;> omega)) (map_at hx61) rfl ?_
                  refine k_Ticks (A := A) (l := x57) (m := x61) hA2 hzx57 hzx61 fun v63 n63 hk_63_2 hk_63_3 => ?_
                  rw [← hwx57, ← hwx61] at hk_63_2 hk_63_3
                  rw [show k + 1 + 1 - 1 = k + 1 from rfl] at hk_63_2 hk_63_3
                  have hv63 : -9223372036854775808 ≤ v63 ∧ v63 ≤ 2001 := by
                    rw [hk_63_2]; unfold tikV; split
                    · have := tkA_pos A (wAt L (k + 1)) (wAt L (k + 1 + 1)); omega
                    · omega
                  refine ⟨by kernel_rfl, ?_⟩
                  refine fork (fun e12 => ?_) (fun e12 => ?_)
                  · have f68 : n63 = 0 := beq_t e12
                    refine k_at_own' ((k + 1 + 1) - 1) (by first | rfl | omega | (rw [wrap64 _ (by omega) (by omega)]; omega) | (rw [wrap64 _ (by omega) (by omega)]; split <;> omega)) (by first | omega | (simp; omega)) ?_
                    refine get_ex (l := M) (i := ((k + 1 + 1) - 1)) (by first | omega | exact Nat.mod_lt _ (by omega)) fun x74 hx74 => ?_
                    have hk740 := Option.some.inj (hx74.symm.trans (by rw [h3]; exact plnG_at (by omega)))
                    have hkt : x74.1 = tk (k + 1) := by rw [hk740]; rfl
                    refine k_ldo [D.v (.int .i64 (x74.1)), D.list (List.map rdc x74.2)] _ (map_at hx74) rfl rfl ?_
                    refine ⟨fun e13 => ?_, fun e13 => ?_⟩
                    · have f78 : IntKind.i64.wrap (x74.1 + v63) > 2000 := of_decide_eq_true e13
                      have hwv : IntKind.i64.wrap (x74.1 + v63) = x74.1 + v63 := wrap64 _ (by omega) (by omega)
                      rw [hwv] at f78
                      have hpk : fitsE A (wAt L (k + 1 + 1)) = 0 ∧ tk (k + 1 + 1) = tk (k + 1) + tikV A (wAt L (k + 1)) (wAt L (k + 1 + 1)) := by rw [htk]; exact pln_ok (P := L) (s := s) (k := (k + 1)) (by rw [← hk_63_3]; exact f68)
                      refine ⟨fun _ => ?_, fun e => absurd e (by decide)⟩
                      refine Eq.trans (b := .tup [.one (.d (.list ([]))), .one (.d (.v (.int .i64 (19))))]) ?_ rfl
                      have e : plnS A L s (k + 1 + 1) = 19 := plnS_late hpk.1 (by rw [← htk, hpk.2, ← hk_63_2]; omega)
                      have hE := plnE_at hb (i := (k + 1 + 1)) (fun j hj => h1 j (by omega)) (by rw [e]; decide) (by omega)
                      rw [plnV_no (by rw [hE, e]; decide), hE, e]
                      all_goals rfl
                    · have f78 : ¬ (IntKind.i64.wrap (x74.1 + v63) > 2000) := of_decide_eq_false e13
                      have hwv : IntKind.i64.wrap (x74.1 + v63) = x74.1 + v63 := wrap64 _ (by omega) (by omega)
                      rw [hwv] at f78
                      refine ⟨fun e14 => ?_, fun e14 => ?_⟩
                      · have f80 : n63 ≠ 0 := bne_t e14
                        exfalso
                        exact f80 f68
                      · have f80 : ¬ (n63 ≠ 0) := fun hh => hh (bne_f e14)
                        refine k_at_own' ((k + 1 + 1) - 1) (by first | rfl | omega | (rw [wrap64 _ (by omega) (by omega)]; omega) | (rw [wrap64 _ (by omega) (by omega)]; split <;> omega)) (by first | omega | (simp; omega)) ?_
                        refine k_ldo [D.v (.int .i64 (x74.1)), D.list (List.map rdc x74.2)] _ (map_at hx74) rfl rfl ?_
                        refine k_ix (k + 1 + 1) [D.list (List.map rd x61)] (by first | rfl | omega | (rw [wrap64 _ (by omega) (by omega)]; omega) | (rw [wrap64 _ (by omega) (by omega)]; split <;> omega)) (map_at hx61) rfl ?_
                        refine k_tgood (L := L) (i := (k + 1 + 1)) (q := x61) hwx61 hzx61 ?_
                        refine ⟨⟨row1 rfl, (by show ((List.map keyC M).length + 1) * 32 ≤ _; omega), (by show ((List.map keyC M).length + 1) ≤ _; omega)⟩, ?_⟩
                        refine ⟨by kernel_rfl, ?_⟩
                        have hpk2 : fitsE A (wAt L (k + 1 + 1)) = 0 ∧ tk (k + 1 + 1) = tk (k + 1) + tikV A (wAt L (k + 1)) (wAt L (k + 1 + 1)) := by rw [htk]; exact pln_ok (P := L) (s := s) (k := (k + 1)) (by rw [← hk_63_3]; exact f68)
                        have hst : tk (k + 1 + 1) = x74.1 + v63 := by rw [hpk2.2, ← hk_63_2, hkt]
                        have hle : tkS A L s (k + 1 + 1) ≤ 2000 := by rw [← htk, hst]; omega
                        have htk2 : IntKind.i64.wrap (x74.1 + v63) = tk (k + 1 + 1) := by rw [hst]; exact hwv
                        refine ⟨(k + 1 + 1, M ++ [(IntKind.i64.wrap (x74.1 + v63), gdL (wAt L (k + 1 + 1)))]), ⟨by omega, fun j hj => by
                          by_cases e : j = (k + 1 + 1)
                          · rw [e]; exact plnS_0 hpk2.1 hle
                          · exact h1 j (by omega), fun _ => by rw [htk2, h3]; exact (plnG_app tk L (k + 2)).symm⟩, by simp only; omega, ?_⟩
                        constructor <;> (repeat' (first | exact rfl | exact True.intro | apply And.intro))
                        all_goals first
                          | (simp [keyC]; done)
                          | exact congrArg (fun n : Int => D.v (.int .i64 n)) (by rw [wrap64 _ (by omega) (by omega)]; omega)
                          | exact congrArg (fun n : Int => D.v (.int .i64 n)) (by omega)
                  · have f68 : ¬ (n63 = 0) := beq_f e12
                    refine ⟨fun e => absurd e (by decide), fun _ => ?_⟩
                    refine ⟨fun e15 => ?_, fun e15 => ?_⟩
                    · have f80 : n63 ≠ 0 := bne_t e15
                      refine Eq.trans (b := .tup [.one (.d (.list ([]))), .one (.d (.v (.int .i64 (n63))))]) ?_ rfl
                      have hz63 : ¬ tikE A (wAt L (k + 1)) (wAt L (k + 1 + 1)) = 0 := by rw [← hk_63_3]; exact f68
                      have e : plnS A L s (k + 1 + 1) = n63 := by rw [hk_63_3]; exact pln_err (plnS_ok (h1 (k + 1) (by omega))).1 (by have := tkS_ge A L s (k + 1); omega) hz63
                      have hE := plnE_at hb (i := (k + 1 + 1)) (fun j hj => h1 j (by omega)) (by rw [e]; exact f68) (by omega)
                      rw [plnV_no (by rw [hE, e]; exact f68), hE, e]
                      all_goals rfl
                    · have f80 : ¬ (n63 ≠ 0) := fun hh => hh (bne_f e15)
                      exfalso
                      exact f68 (Classical.not_not.1 f80)
              · have f49 : ¬ (((k + 1 : Nat) : Int) < ((List.map rdrs L).length : Int)) := of_decide_eq_false e7
                rcases k with _ | k
                · refine Eq.trans (b := .tup [.one (.d (.list ([[D.v (.int .i64 (s)), D.list (List.map rdc (gdL (wAt L 0)))]]))), .one (.d (.v (.int .i64 (0))))]) ?_ rfl
                  have hall : ∀ j, j < L.length → plnS A L s j = 0 := fun j hj => h1 j (by omega)
                  have hE := plnE_0 hb hall
                  have hlen : L.length = 1 := by omega
                  have hs00 : tk 0 = s := by rw [htk]; rfl
                  rw [plnV_ok hE, hE, hlen, plnL, ← htk]
                  rw [show plnG tk L 1 = [(tk 0, gdL (wAt L 0))] from rfl, hs00]
                  all_goals rfl
                · have h3 := h2 (Nat.succ_pos k)
                  have hT : (List.map keyC M).length ≤ 62 := by rw [List.length_map, h3, plnG_len]; omega
                  have hTl : M.length = k + 2 := by rw [h3, plnG_len]
                  refine Eq.trans (b := .tup [.one (.d (.list (List.map keyC M))), .one (.d (.v (.int .i64 (0))))]) ?_ rfl
                  have hall : ∀ j, j < L.length → plnS A L s j = 0 := fun j hj => h1 j (by omega)
                  have hE := plnE_0 hb hall
                  have hlen : L.length = k + 2 := by omega
                  have hs00 : tk 0 = s := by rw [htk]; rfl
                  rw [plnV_ok hE, hE, hlen, plnL, ← htk, ← h3]
                  all_goals rfl
theorem k_Plan {A : ArmV} {L : List (List RV)} {s : Int} (hA : A.ok) (hL : L.length ≤ 1048576 ∧ ∀ q, q ∈ L → q.length ≤ 1048576 ∧ ∀ x, x ∈ q → x.z ≤ 1048576) (hs1 : -9223372036854775808 ≤ s ∧ s ≤ 9223372036854775807) (k : ∀ n, n = plnE A L s → K (.tup [.one (.d (.list (List.map keyC (plnV A L s)))), .one (.d (.v (.int .i64 n)))])) : Ask 37 [.val (.agg [.d (.v (.string A.name)), .d (.v (.bool A.bx.s)), .d (.v (.string A.bx.a)), .d (.v (.string A.bx.d)), .d (.v (.bool A.by'.s)), .d (.v (.string A.by'.a)), .d (.v (.string A.by'.d)), .d (.v (.bool (A.bh))), .d (.v (.bool A.bt.s)), .d (.v (.string A.bt.a)), .d (.v (.string A.bt.d)), .d (.list (List.map lk A.links))]), .val (.one (.d (.list (List.map rdrs L)))), int s] K := use (Plan_spec A L s hA hL hs1) rfl (k _ rfl)
set_option maxHeartbeats 8000000 in
set_option maxRecDepth 100000 in
theorem Planned_spec (A : ArmV) (L : List (List RV)) (s : Int) (hA : A.ok) (hL : L.length ≤ 1048576 ∧ ∀ q, q ∈ L → q.length ≤ 1048576 ∧ ∀ x, x ∈ q → x.z ≤ 1048576) (hs1 : -9223372036854775808 ≤ s ∧ s ≤ 9223372036854775807) : Spec Tryz.prog Tab 38 [.val (.agg [.d (.v (.string A.name)), .d (.v (.bool A.bx.s)), .d (.v (.string A.bx.a)), .d (.v (.string A.bx.d)), .d (.v (.bool A.by'.s)), .d (.v (.string A.by'.a)), .d (.v (.string A.by'.d)), .d (.v (.bool (A.bh))), .d (.v (.bool A.bt.s)), .d (.v (.string A.bt.a)), .d (.v (.string A.bt.d)), .d (.list (List.map lk A.links))]), .val (.one (.d (.list (List.map rdrs L)))), int s] (.tup [.one (.d (.list (List.map keyC (plnV A L s)))), .one (.d (.v (.int .i64 (plnE A L s))))]) := by
  have hA2 := hA
  obtain ⟨tk, htk⟩ : ∃ tk, tk = tkS A L s := ⟨_, rfl⟩
  have hLL : (List.map rdrs L).length = L.length := List.length_map ..
  have hL1 := hL.1
  refine fn_spec Tryz.func38 rfl rfl Tryz.ntmps38 rfl (by kernel_rfl) rfl rfl ?_
  refine k_ArmFault (A := A) (by assumption) fun n15 hk_15_1 => ?_
  refine ⟨fun e1 => ?_, fun e1 => ?_⟩
  · have f17 : n15 ≠ 0 := bne_t e1
    refine Eq.trans (b := .tup [.one (.d (.list ([]))), .one (.d (.v (.int .i64 (n15))))]) ?_ rfl
    have hno : ¬ armE A = 0 := by rw [← hk_15_1]; exact f17
    have hB := plnB_arm (P := L) (s := s) hno
    have hE := plnE_base (by rw [hB]; exact hno)
    rw [plnV_no (by rw [hE, hB]; exact hno), hE, hB, ← hk_15_1]
    all_goals rfl
  · have f17 : ¬ (n15 ≠ 0) := fun hh => hh (bne_f e1)
    refine ⟨fun e2 => ?_, fun e2 => ?_⟩
    · have f19 : ((List.map rdrs L).length : Int) = 0 := beq_t e2
      refine Eq.trans (b := .tup [.one (.d (.list ([]))), .one (.d (.v (.int .i64 (14))))]) ?_ rfl
      have hA0 : armE A = 0 := by rw [← hk_15_1]; exact Classical.not_not.1 f17
      have hB := plnB_nil (s := s) hA0 (show L.length = 0 by omega)
      have hE := plnE_base (by rw [hB]; decide)
      rw [plnV_no (by rw [hE, hB]; decide), hE, hB]
      all_goals rfl
    · have f19 : ¬ (((List.map rdrs L).length : Int) = 0) := beq_f e2
      refine ⟨fun e3 => ?_, fun e3 => ?_⟩
      · have f23 : ((List.map rdrs L).length : Int) > 60 := of_decide_eq_true e3
        refine Eq.trans (b := .tup [.one (.d (.list ([]))), .one (.d (.v (.int .i64 (2))))]) ?_ rfl
        have hA0 : armE A = 0 := by rw [← hk_15_1]; exact Classical.not_not.1 f17
        have hB := plnB_big (s := s) hA0 (show 60 < L.length by omega)
        have hE := plnE_base (by rw [hB]; decide)
        rw [plnV_no (by rw [hE, hB]; decide), hE, hB]
        all_goals rfl
      · have f23 : ¬ (((List.map rdrs L).length : Int) > 60) := of_decide_eq_false e3
        refine fork (fun e4 => ?_) (fun e4 => ?_)
        · have f30 : s < 0 := of_decide_eq_true e4
          refine ⟨fun _ => ?_, fun e => absurd e (by decide)⟩
          refine Eq.trans (b := .tup [.one (.d (.list ([]))), .one (.d (.v (.int .i64 (1))))]) ?_ rfl
          have hA0 : armE A = 0 := by rw [← hk_15_1]; exact Classical.not_not.1 f17
          have hB := plnB_arg (s := s) hA0 (show ¬ L.length = 0 by omega) (show ¬ 60 < L.length by omega) (by omega)
          have hE := plnE_base (by rw [hB]; decide)
          rw [plnV_no (by rw [hE, hB]; decide), hE, hB]
          all_goals rfl
        · have f30 : ¬ (s < 0) := of_decide_eq_false e4
          refine ⟨fun e5 => ?_, fun e5 => ?_⟩
          · have f27 : s > 2000 := of_decide_eq_true e5
            refine Eq.trans (b := .tup [.one (.d (.list ([]))), .one (.d (.v (.int .i64 (1))))]) ?_ rfl
            have hA0 : armE A = 0 := by rw [← hk_15_1]; exact Classical.not_not.1 f17
            have hB := plnB_arg (s := s) hA0 (show ¬ L.length = 0 by omega) (show ¬ 60 < L.length by omega) (by omega)
            have hE := plnE_base (by rw [hB]; decide)
            rw [plnV_no (by rw [hE, hB]; decide), hE, hB]
            all_goals rfl
          · have f27 : ¬ (s > 2000) := of_decide_eq_false e5
            have hA0 : armE A = 0 := by rw [← hk_15_1]; exact Classical.not_not.1 f17
            have hb := plnB_0 (s := s) hA0 (show ¬ L.length = 0 by omega) (show ¬ 60 < L.length by omega) (by omega)
            refine ⟨Nat × Int × List (Int × List Rat), fun (i, c, M) => [(1, .val (.one (.d (.list (List.map rdrs L))))), (2, int c), (3, .val (.one (.ptr 3 0))), (9, .val (.one (.row 74 0))), (34, .val (.one (.d (.list (List.map rdrs L))))), (35, int ((List.map rdrs L).length : Int)), (36, int (i : Int))],
              fun (i, c, M) => [(3, .var 32 [.d (.v (.string A.name)), .d (.v (.bool A.bx.s)), .d (.v (.string A.bx.a)), .d (.v (.string A.bx.d)), .d (.v (.bool A.by'.s)), .d (.v (.string A.by'.a)), .d (.v (.string A.by'.d)), .d (.v (.bool (A.bh))), .d (.v (.bool A.bt.s)), .d (.v (.string A.bt.a)), .d (.v (.string A.bt.d)), .d (.list (List.map lk A.links))]), (74, .row 86 2 0 (List.map keyC M) true)], fun (i, c, M) => i ≤ L.length ∧ (∀ j, j < i → plnS A L s j = 0) ∧ c = tk (i - 1) ∧ M = plnG tk L i, fun (i, c, M) => L.length - i, (0, s, []), ?_, ⟨Nat.zero_le _, fun j h => by omega, by rw [htk]; rfl, rfl⟩, fun s hs => ?_⟩
            · constructor <;> (repeat' (first | exact rfl | exact True.intro | exact ⟨_, _, rfl⟩ | exact (by decide) | apply And.intro))
              all_goals first | exact congrArg (fun n : Int => D.v (.int .i64 n)) (by omega) | exact congrArg (fun n : Int => D.v (.int .i64 n)) (by rw [wrap64 _ (by omega) (by omega)]; omega) | (simp; done)
            obtain ⟨i, c, M⟩ := s
            obtain ⟨g1, h1, h2, h3⟩ := hs
            try simp only at g1 h1 h2 h3
            have hT : (List.map keyC M).length ≤ 60 := by rw [List.length_map, h3, plnG_len]; omega
            refine ⟨fun e6 => ?_, fun e6 => ?_⟩
            · have f37 : (i : Int) < ((List.map rdrs L).length : Int) := of_decide_eq_true e6
              refine get_ex (l := L) (i := i) (by first | omega | exact Nat.mod_lt _ (by omega)) fun x39 hx39 => ?_
              have hwx39 := wAt_is hx39
              have hzx39 := hL.2 x39 (List.mem_of_getElem? hx39)
              refine k_ix i [D.list (List.map rd x39)] (by first | rfl | omega | (rw [wrap64 _ (by omega) (by omega)]; omega) | (rw [wrap64 _ (by omega) (by omega)]; split <;> omega)) (map_at hx39) rfl ?_
              refine k_RFits (A := A) (Q := x39) hA2 (fun x hx => Nat.le_trans (hzx39.2 x hx) (by decide)) (Nat.le_trans hzx39.1 (by decide)) fun n43 hk_43_1 => ?_
              refine ⟨fun e7 => ?_, fun e7 => ?_⟩
              · have f45 : n43 ≠ 0 := bne_t e7
                refine Eq.trans (b := .tup [.one (.d (.list ([]))), .one (.d (.v (.int .i64 (n43))))]) ?_ rfl
                have e : plnS A L s i = n43 := by rw [plnS_fit (by rw [hwx39, ← hk_43_1]; exact f45), hwx39, hk_43_1]
                have hE := plnE_at hb (i := i) h1 (by rw [e]; exact f45) (by omega)
                rw [plnV_no (by rw [hE, e]; exact f45), hE, e]
                all_goals rfl
              · have f45 : ¬ (n43 ≠ 0) := fun hh => hh (bne_f e7)
                refine ⟨fun e8 => ?_, fun e8 => ?_⟩
                · have f48 : (i : Int) > 0 := of_decide_eq_true e8
                  refine get_ex (l := L) (i := (i - 1)) (by first | omega | exact Nat.mod_lt _ (by omega)) fun x53 hx53 => ?_
                  have hwx53 := wAt_is hx53
                  have hzx53 := hL.2 x53 (List.mem_of_getElem? hx53)
                  refine k_ix (i - 1) [D.list (List.map rd x53)] (by first | rfl | omega | (rw [wrap64 _ (by omega) (by omega)]; omega) | (rw [wrap64 _ (by omega) (by omega)]; split <;> omega)) (map_at hx53) rfl ?_
                  refine k_RTicks (A := A) (l := x53) (m := x39) hA2 hzx53 hzx39 (by rw [← hwx53]; exact (plnS_ok (h1 (i - 1) (by omega))).1) (by rw [← hk_43_1]; exact Classical.not_not.1 f45) fun v56 hv56 => ?_
                  have hvr := tkA_pos A x53 x39
                  have hst : tk i = tk (i - 1) + v56 := by
                    rw [htk]
                    obtain ⟨j, rfl⟩ : ∃ j, i = j + 1 := ⟨i - 1, by omega⟩
                    show _ + tkA A (wAt L j) (wAt L (j + 1)) = _
                    rw [hv56, ← hwx53, ← hwx39]; rfl
                  have hs0 : s ≤ c := by rw [h2, htk]; exact tkS_ge A L s _
                  have hs2 : c ≤ 2000 := by rw [h2, htk]; exact (plnS_ok (h1 (i - 1) (by omega))).2
                  refine ⟨by kernel_rfl, ?_⟩
                  refine fork (fun e9 => ?_) (fun e9 => ?_)
                  · have f59 : v56 > 2000 := of_decide_eq_true e9
                    refine ⟨fun _ => ?_, fun e => absurd e (by decide)⟩
                    refine Eq.trans (b := .tup [.one (.d (.list ([]))), .one (.d (.v (.int .i64 (19))))]) ?_ rfl
                    have e : plnS A L s i = 19 := plnS_late (by rw [hwx39, ← hk_43_1]; exact Classical.not_not.1 f45) (by rw [← htk, hst, ← h2]; omega)
                    have hE := plnE_at hb (i := i) h1 (by rw [e]; decide) (by omega)
                    rw [plnV_no (by rw [hE, e]; decide), hE, e]
                    all_goals rfl
                  · have f59 : ¬ (v56 > 2000) := of_decide_eq_false e9
                    refine ⟨fun e10 => ?_, fun e10 => ?_⟩
                    · have f64 : IntKind.i64.wrap (c + v56) > 2000 := of_decide_eq_true e10
                      refine Eq.trans (b := .tup [.one (.d (.list ([]))), .one (.d (.v (.int .i64 (19))))]) ?_ rfl
                      have e : plnS A L s i = 19 := plnS_late (by rw [hwx39, ← hk_43_1]; exact Classical.not_not.1 f45) (by rw [← htk, hst, ← h2]; have := f64; rw [wrap64 _ (by omega) (by omega)] at this; omega)
                      have hE := plnE_at hb (i := i) h1 (by rw [e]; decide) (by omega)
                      rw [plnV_no (by rw [hE, e]; decide), hE, e]
                      all_goals rfl
                    · have f64 : ¬ (IntKind.i64.wrap (c + v56) > 2000) := of_decide_eq_false e10
                      have f64 := f64
                      rw [wrap64 _ (by omega) (by omega)] at f64
                      refine k_tplain (L := L) (i := i) (q := x39) hwx39 hzx39 ?_
                      refine ⟨⟨row1 rfl, (by show ((List.map keyC M).length + 1) * 32 ≤ _; omega), (by show ((List.map keyC M).length + 1) ≤ _; omega)⟩, ?_⟩
                      have htk2 : IntKind.i64.wrap (c + v56) = tk i := by rw [hst, ← h2]; exact wrap64 _ (by omega) (by omega)
                      have hp : plnS A L s i = 0 := plnS_0 (by rw [hwx39, ← hk_43_1]; exact Classical.not_not.1 f45) (by rw [← htk, hst, ← h2]; omega)
                      refine ⟨(i + 1, (IntKind.i64.wrap (c + v56)), M ++ [((IntKind.i64.wrap (c + v56)), gdL (wAt L i))]), ⟨by omega, fun j hj => by
                        by_cases e : j = i
                        · rw [e]; exact hp
                        · exact h1 j (by omega), htk2, by rw [htk2, h3]; exact (plnG_app tk L i).symm⟩, by simp only; omega, ?_⟩
                      constructor <;> (repeat' (first | exact rfl | exact True.intro | apply And.intro))
                      all_goals first
                        | (simp [keyC]; done)
                        | exact congrArg (fun n : Int => D.v (.int .i64 n)) (by rw [wrap64 _ (by omega) (by omega)]; omega)
                        | exact congrArg (fun n : Int => D.v (.int .i64 n)) (by omega)
                · have f48 : ¬ ((i : Int) > 0) := of_decide_eq_false e8
                  refine k_tplain (L := L) (i := i) (q := x39) hwx39 hzx39 ?_
                  refine ⟨⟨row1 rfl, (by show ((List.map keyC M).length + 1) * 32 ≤ _; omega), (by show ((List.map keyC M).length + 1) ≤ _; omega)⟩, ?_⟩
                  obtain rfl : i = 0 := by omega
                  have htk2 : c = tk 0 := h2
                  have hp : plnS A L s 0 = 0 := plnS_0 (by rw [hwx39, ← hk_43_1]; exact Classical.not_not.1 f45) (by show s ≤ 2000; omega)
                  refine ⟨(0 + 1, c, M ++ [(c, gdL (wAt L 0))]), ⟨by omega, fun j hj => by
                    by_cases e : j = 0
                    · rw [e]; exact hp
                    · exact h1 j (by omega), htk2, by rw [htk2, h3]; exact (plnG_app tk L 0).symm⟩, by simp only; omega, ?_⟩
                  constructor <;> (repeat' (first | exact rfl | exact True.intro | apply And.intro))
                  all_goals first
                    | (simp [keyC]; done)
                    | exact congrArg (fun n : Int => D.v (.int .i64 n)) (by rw [wrap64 _ (by omega) (by omega)]; omega)
                    | exact congrArg (fun n : Int => D.v (.int .i64 n)) (by omega)
            · have f37 : ¬ ((i : Int) < ((List.map rdrs L).length : Int)) := of_decide_eq_false e6
              refine Eq.trans (b := .tup [.one (.d (.list (List.map keyC M))), .one (.d (.v (.int .i64 (0))))]) ?_ rfl
              have hi : i = L.length := by omega
              have hE := plnE_0 hb fun j hj => h1 j (by omega)
              rw [plnV_ok hE, hE, ← hi, plnL, ← htk, ← h3]
              all_goals rfl
theorem k_Planned {A : ArmV} {L : List (List RV)} {s : Int} (hA : A.ok) (hL : L.length ≤ 1048576 ∧ ∀ q, q ∈ L → q.length ≤ 1048576 ∧ ∀ x, x ∈ q → x.z ≤ 1048576) (hs1 : -9223372036854775808 ≤ s ∧ s ≤ 9223372036854775807) (k : ∀ n, n = plnE A L s → K (.tup [.one (.d (.list (List.map keyC (plnV A L s)))), .one (.d (.v (.int .i64 n)))])) : Ask 38 [.val (.agg [.d (.v (.string A.name)), .d (.v (.bool A.bx.s)), .d (.v (.string A.bx.a)), .d (.v (.string A.bx.d)), .d (.v (.bool A.by'.s)), .d (.v (.string A.by'.a)), .d (.v (.string A.by'.d)), .d (.v (.bool (A.bh))), .d (.v (.bool A.bt.s)), .d (.v (.string A.bt.a)), .d (.v (.string A.bt.d)), .d (.list (List.map lk A.links))]), .val (.one (.d (.list (List.map rdrs L)))), int s] K := use (Planned_spec A L s hA hL hs1) rfl (k _ rfl)
set_option maxHeartbeats 4000000 in
set_option maxRecDepth 100000 in
theorem Same_spec (l : List (Int × List Rat)) (hn : l.length ≤ 1048576) (hr : ∀ x, x ∈ l → x.2.length ≤ 1048576) : Spec Tryz.prog Tab 39 [.val (.one (.d (.list (List.map keyC l)))), .val (.one (.d (.list (List.map keyC l))))] (bool true) := by
  have hLl : (List.map keyC l).length = l.length := List.length_map ..
  refine fn_spec Tryz.func39 rfl rfl Tryz.ntmps39 rfl (by kernel_rfl) rfl rfl ?_
  refine ⟨fun e1 => ?_, fun e1 => ?_⟩
  · have f11 : ((List.map keyC l).length : Int) ≠ ((List.map keyC l).length : Int) := bne_t e1
    exfalso
    exact f11 rfl
  · have f11 : ¬ (((List.map keyC l).length : Int) ≠ ((List.map keyC l).length : Int)) := fun hh => hh (bne_f e1)
    refine ⟨Nat, fun i => [(0, .val (.one (.d (.list (List.map keyC l))))), (1, .val (.one (.d (.list (List.map keyC l))))), (13, int ((List.map keyC l).length : Int)), (14, int (i : Int))],
      fun i => [], fun i => i ≤ l.length, fun i => l.length - i, 0, ?_, Nat.zero_le _, fun i hs => ?_⟩
    · constructor <;> (repeat' (first | exact rfl | exact True.intro | exact ⟨_, _, rfl⟩ | exact (by decide) | apply And.intro))
      all_goals first | exact congrArg (fun n : Int => D.v (.int .i64 n)) (by omega) | exact congrArg (fun n : Int => D.v (.int .i64 n)) (by rw [wrap64 _ (by omega) (by omega)]; omega) | (simp; done)
    refine ⟨fun e2 => ?_, fun e2 => ?_⟩
    · have f15 : (i : Int) < ((List.map keyC l).length : Int) := of_decide_eq_true e2
      refine get_ex (l := l) (i := i) (by first | omega | exact Nat.mod_lt _ (by omega)) fun x19 hx19 => ?_
      have hrx19 := hr x19 (List.mem_of_getElem? hx19)
      have hLx19 : (List.map rdc x19.2).length = x19.2.length := List.length_map ..
      refine k_ix i [D.v (.int .i64 (x19.1)), D.list (List.map rdc x19.2)] (by first | rfl | omega | (rw [wrap64 _ (by omega) (by omega)]; omega) | (rw [wrap64 _ (by omega) (by omega)]; split <;> omega)) (map_at hx19) rfl ?_
      refine k_ix i [D.v (.int .i64 (x19.1)), D.list (List.map rdc x19.2)] (by first | rfl | omega | (rw [wrap64 _ (by omega) (by omega)]; omega) | (rw [wrap64 _ (by omega) (by omega)]; split <;> omega)) (map_at hx19) rfl ?_
      refine fork (fun e3 => ?_) (fun e3 => ?_)
      · have f28 : x19.1 ≠ x19.1 := bne_t e3
        exfalso
        exact f28 rfl
      · have f28 : ¬ (x19.1 ≠ x19.1) := fun hh => hh (bne_f e3)
        refine k_ix i [D.v (.int .i64 (x19.1)), D.list (List.map rdc x19.2)] (by first | rfl | omega | (rw [wrap64 _ (by omega) (by omega)]; omega) | (rw [wrap64 _ (by omega) (by omega)]; split <;> omega)) (map_at hx19) rfl ?_
        refine k_ix i [D.v (.int .i64 (x19.1)), D.list (List.map rdc x19.2)] (by first | rfl | omega | (rw [wrap64 _ (by omega) (by omega)]; omega) | (rw [wrap64 _ (by omega) (by omega)]; split <;> omega)) (map_at hx19) rfl ?_
        refine ⟨by kernel_rfl, ?_⟩
        refine ⟨fun e4 => ?_, fun e4 => ?_⟩
        · have f42 : ((List.map rdc x19.2).length : Int) ≠ ((List.map rdc x19.2).length : Int) := bne_t e4
          exfalso
          exact f42 rfl
        · have f42 : ¬ (((List.map rdc x19.2).length : Int) ≠ ((List.map rdc x19.2).length : Int)) := fun hh => hh (bne_f e4)
          refine k_ix i [D.v (.int .i64 (x19.1)), D.list (List.map rdc x19.2)] (by first | rfl | omega | (rw [wrap64 _ (by omega) (by omega)]; omega) | (rw [wrap64 _ (by omega) (by omega)]; split <;> omega)) (map_at hx19) rfl ?_
          refine ⟨Nat, fun k => [(0, .val (.one (.d (.list (List.map keyC l))))), (1, .val (.one (.d (.list (List.map keyC l))))), (5, int (i : Int)), (13, int ((List.map keyC l).length : Int)), (14, int (i : Int)), (29, .val (.one (.d (.list (List.map keyC l))))), (30, int (i : Int)), (31, .val (.one (.ref [D.v (.int .i64 (x19.1)), D.list (List.map rdc x19.2)]))), (32, .val (.one (.ref [D.list (List.map rdc x19.2)]))), (33, .val (.one (.d (.list (List.map rdc x19.2))))), (34, int ((List.map rdc x19.2).length : Int)), (35, .val (.one (.d (.list (List.map keyC l))))), (36, int (i : Int)), (37, .val (.one (.ref [D.v (.int .i64 (x19.1)), D.list (List.map rdc x19.2)]))), (38, .val (.one (.ref [D.list (List.map rdc x19.2)]))), (39, .val (.one (.d (.list (List.map rdc x19.2))))), (40, int ((List.map rdc x19.2).length : Int)), (41, bool (((List.map rdc x19.2).length : Int) != ((List.map rdc x19.2).length : Int))), (48, int ((List.map rdc x19.2).length : Int)), (49, int (k : Int))],
            fun k => [], fun k => k ≤ x19.2.length, fun k => x19.2.length - k, 0, ?_, Nat.zero_le _, fun k hs => ?_⟩
          · constructor <;> (repeat' (first | exact rfl | exact True.intro | exact ⟨_, _, rfl⟩ | exact (by decide) | apply And.intro))
            all_goals first | exact congrArg (fun n : Int => D.v (.int .i64 n)) (by omega) | exact congrArg (fun n : Int => D.v (.int .i64 n)) (by rw [wrap64 _ (by omega) (by omega)]; omega) | (simp; done)
          refine ⟨fun e5 => ?_, fun e5 => ?_⟩
          · have f50 : (k : Int) < ((List.map rdc x19.2).length : Int) := of_decide_eq_true e5
            refine k_ix i [D.v (.int .i64 (x19.1)), D.list (List.map rdc x19.2)] (by first | rfl | omega | (rw [wrap64 _ (by omega) (by omega)]; omega) | (rw [wrap64 _ (by omega) (by omega)]; split <;> omega)) (map_at hx19) rfl ?_
            refine get_ex (l := x19.2) (i := k) (by first | omega | exact Nat.mod_lt _ (by omega)) fun x58 hx58 => ?_
            refine k_ix k [D.v (.bool (cn x58).s), D.v (.string (cn x58).a), D.v (.string (cn x58).d)] (by first | rfl | omega | (rw [wrap64 _ (by omega) (by omega)]; omega) | (rw [wrap64 _ (by omega) (by omega)]; split <;> omega)) (map_at hx58) rfl ?_
            refine k_ix i [D.v (.int .i64 (x19.1)), D.list (List.map rdc x19.2)] (by first | rfl | omega | (rw [wrap64 _ (by omega) (by omega)]; omega) | (rw [wrap64 _ (by omega) (by omega)]; split <;> omega)) (map_at hx19) rfl ?_
            refine k_ix k [D.v (.bool (cn x58).s), D.v (.string (cn x58).a), D.v (.string (cn x58).d)] (by first | rfl | omega | (rw [wrap64 _ (by omega) (by omega)]; omega) | (rw [wrap64 _ (by omega) (by omega)]; split <;> omega)) (map_at hx58) rfl ?_
            refine k_neq_rat_t rfl ?_
            refine ⟨by kernel_rfl, ?_⟩
            refine ⟨fun e => absurd e (by decide), fun _ => ?_⟩
            refine ⟨k + 1, by omega, by simp only; omega, ?_⟩
            constructor <;> (repeat' (first | exact rfl | exact True.intro | apply And.intro))
            all_goals first
              | exact congrArg (fun n : Int => D.v (.int .i64 n)) (by rw [wrap64 _ (by omega) (by omega)]; omega)
              | exact congrArg (fun n : Int => D.v (.int .i64 n)) (by omega)
          · have f50 : ¬ ((k : Int) < ((List.map rdc x19.2).length : Int)) := of_decide_eq_false e5
            refine ⟨i + 1, by omega, by simp only; omega, ?_⟩
            constructor <;> (repeat' (first | exact rfl | exact True.intro | apply And.intro))
            all_goals first
              | exact congrArg (fun n : Int => D.v (.int .i64 n)) (by rw [wrap64 _ (by omega) (by omega)]; omega)
              | exact congrArg (fun n : Int => D.v (.int .i64 n)) (by omega)
    · have f15 : ¬ ((i : Int) < ((List.map keyC l).length : Int)) := of_decide_eq_false e2
      refine Eq.trans (b := bool true) ?_ rfl
      rfl
theorem k_Same {u v : List (List D)} (l : List (Int × List Rat)) (hu : u = List.map keyC l) (hv : v = List.map keyC l) (hn : l.length ≤ 1048576) (hr : ∀ x, x ∈ l → x.2.length ≤ 1048576) (k : K (bool true)) : Ask 39 [.val (.one (.d (.list u))), .val (.one (.d (.list v)))] K := by
  subst hu hv; exact use (Same_spec l hn hr) rfl k
end
end Go.Proofs.YtpejadencgfnnaaGreatDoor.eng
