/- Contracts for RoamNexts: slices.Equal, Clone at lists of int; roam.Number; gantref3.SpotFault. Printed by wip/gp_rnx.py. -/
import Derived.Test.YtobeklcimmjodaaRnx0
namespace Go.Proofs.Ytobeklcimmjodaa.eng
open Go.RowKit mem
section
variable {K : AV → Prop}
set_option maxRecDepth 100000 in
theorem eqI_spec (l m : List Int) (_ : l.length ≤ 1099511627776) (hm : m.length ≤ 1099511627776) : Spec Try.prog Tab 7 [.val (.one (.d (.list (List.map intD l)))), .val (.one (.d (.list (List.map intD m))))] (bool (decide (l = m))) := by
  have hLl : (List.map intD l).length = l.length := List.length_map ..
  have hLm : (List.map intD m).length = m.length := List.length_map ..
  refine fn_spec Try.func7 rfl rfl Try.ntmps7 rfl (by kernel_rfl) rfl rfl ?_
  refine ⟨fun e1 => ?_, fun e1 => ?_⟩
  · have f10 : ((List.map intD l).length : Int) ≠ ((List.map intD m).length : Int) := bne_t e1
    refine Eq.trans (b := bool false) ?_ rfl
    rw [decide_eq_false (fun e => by subst e; omega)]
  · have f10 : ¬ (((List.map intD l).length : Int) ≠ ((List.map intD m).length : Int)) := fun hh => hh (bne_f e1)
    refine ⟨Nat, fun i => [(0, .val (.one (.d (.list (List.map intD l))))), (1, .val (.one (.d (.list (List.map intD m))))), (12, int ((List.map intD l).length : Int)), (13, int (i : Int))],
      fun i => [], fun i => i ≤ l.length ∧ ∀ (j : Nat) (x y : Int), j < i → l[j]? = some x → m[j]? = some y → x = y, fun i => l.length - i, 0, ?_, ⟨Nat.zero_le _, fun j x y h => by omega⟩, fun i hs => ?_⟩
    · constructor <;> (repeat' (first | exact rfl | exact True.intro | exact ⟨_, _, rfl⟩ | exact (by decide) | apply And.intro))
      all_goals first | exact congrArg (fun n : Int => D.v (.int .i64 n)) (by omega) | exact congrArg (fun n : Int => D.v (.int .i64 n)) (by rw [wrap64 _ (by omega) (by omega)]; omega) | (simp; done)
    have g1 := hs.1
    have g2 := hs.2
    refine ⟨fun e2 => ?_, fun e2 => ?_⟩
    · have f14 : (i : Int) < ((List.map intD l).length : Int) := of_decide_eq_true e2
      refine get_ex (l := l) (i := i) (by first | omega | exact Nat.mod_lt _ (by omega)) fun x18 hx18 => ?_
      refine k_ix i [D.v (.int .i64 (x18))] (by first | rfl | omega | (rw [wrap64 _ (by omega) (by omega)]; omega) | (rw [wrap64 _ (by omega) (by omega)]; split <;> omega)) (map_at hx18) rfl ?_
      refine get_ex (l := m) (i := i) (by first | omega | exact Nat.mod_lt _ (by omega)) fun x22 hx22 => ?_
      refine k_ix i [D.v (.int .i64 (x22))] (by first | rfl | omega | (rw [wrap64 _ (by omega) (by omega)]; omega) | (rw [wrap64 _ (by omega) (by omega)]; split <;> omega)) (map_at hx22) rfl ?_
      refine ⟨by kernel_rfl, ?_⟩
      refine ⟨fun e3 => ?_, fun e3 => ?_⟩
      · have f24 : x18 ≠ x22 := bne_t e3
        refine Eq.trans (b := bool false) ?_ rfl
        rw [decide_eq_false (fun e => by subst e; have := Option.some.inj (hx18.symm.trans hx22); omega)]
      · have f24 : ¬ (x18 ≠ x22) := fun hh => hh (bne_f e3)
        refine ⟨i + 1, ⟨by omega, fun j x y hj hx hy => by
          by_cases e : j = i
          · subst e; obtain rfl := Option.some.inj (hx18.symm.trans hx); obtain rfl := Option.some.inj (hx22.symm.trans hy); omega
          · exact g2 j x y (by omega) hx hy⟩, by simp only; omega, ?_⟩
        constructor <;> (repeat' (first | exact rfl | exact True.intro | apply And.intro))
        all_goals first
          | exact congrArg (fun n : Int => D.v (.int .i64 n)) (by rw [wrap64 _ (by omega) (by omega)]; omega)
          | exact congrArg (fun n : Int => D.v (.int .i64 n)) (by omega)
    · have f14 : ¬ ((i : Int) < ((List.map intD l).length : Int)) := of_decide_eq_false e2
      refine Eq.trans (b := bool true) ?_ rfl
      rw [decide_eq_true (eq_of_all (by omega) fun j x y hj => g2 j x y (by omega))]
theorem k_eqI {l m : List Int} (hn : l.length ≤ 1099511627776) (hm : m.length ≤ 1099511627776) (k : K (bool (decide (l = m)))) : Ask 7 [.val (.one (.d (.list (List.map intD l)))), .val (.one (.d (.list (List.map intD m))))] K := use (eqI_spec l m hn hm) rfl k
set_option maxRecDepth 100000 in
theorem cloneN_spec (l : List Int) (hp : 0 < l.length) (hn : l.length ≤ 1048576) : SpecR Try.prog Tab 13 [.val (.one (.d (.list (List.map intD l))))] 3 1 (List.map intD l) := by
  have hLl : (List.map intD l).length = l.length := List.length_map ..
  have hne : List.map intD l ≠ [] := fun h => by rw [List.map_eq_nil_iff] at h; subst h; simp at hp
  refine fn_new Try.func13 rfl rfl Try.ntmps13 rfl (by kernel_rfl) rfl rfl ?_
  refine ⟨_, ⟨⟨_, Try.underlying22⟩, hne, rfl⟩, ?_⟩
  refine ⟨fun e => absurd e (by decide), fun _ => ?_⟩
  refine ⟨⟨(by rw [hLl]; exact hp), (by intro r hr; simp at hr), (map_rows fun _ => rfl), (by show (0 + (List.map intD l).length) * 8 ≤ _; (simp only [List.length_map]; omega)), (by show 0 + (List.map intD l).length ≤ _; (simp only [List.length_map]; omega))⟩, ?_⟩
  exact rfl
theorem k_cloneN {l : List Int} (hp : 0 < l.length) (hn : l.length ≤ 1048576) (k : K (.new 3 1 (List.map intD l))) : Ask 13 [.val (.one (.d (.list (List.map intD l))))] K := useN (cloneN_spec l hp hn) k
set_option maxHeartbeats 4000000 in
set_option maxRecDepth 100000 in
theorem Next1_spec (s : Int) (l : List Int) (hn : l.length ≤ 1048576) : SeqSpec Try.prog Tab 14 [[D.list (List.map intD l)], [D.v (.int .i64 (s))]] (besE s l) := by
  have hLl : (List.map intD l).length = l.length := List.length_map ..
  refine fn_Y [50] Try.func14 rfl rfl Try.ntmps14 rfl (by kernel_rfl) rfl fun yL => ?_
  refine ⟨Nat, fun i => [(0, .val (.one (.d (.v (.func (.yield yL) #[] #[]))))), (1, .val (.one (.ref [D.list (List.map intD l)]))), (2, .val (.one (.ref [D.v (.int .i64 (s))]))), (9, .val (.one (.d (.list (List.map intD l))))), (10, int ((List.map intD l).length : Int)), (11, int (i : Int))],
    fun i => [], fun i => some (besU s l (2 * i)).length, fun i => i ≤ l.length, fun i => l.length - i, 0, ?_, rfl, Nat.zero_le _, fun i hs => ?_⟩
  · constructor <;> (repeat' (first | exact rfl | exact True.intro | exact ⟨_, _, rfl⟩ | exact (by decide) | apply And.intro))
    all_goals first | exact congrArg (fun n : Int => D.v (.int .i64 n)) (by omega) | exact congrArg (fun n : Int => D.v (.int .i64 n)) (by rw [wrap64 _ (by omega) (by omega)]; omega) | (simp; done)
  refine ⟨fun e1 => ?_, fun e1 => ?_⟩
  · have f12 : (i : Int) < ((List.map intD l).length : Int) := of_decide_eq_true e1
    refine get_ex (l := l) (i := i) (by first | omega | exact Nat.mod_lt _ (by omega)) fun x14 hx14 => ?_
    refine k_ix i [D.v (.int .i64 (x14))] (by first | rfl | omega | (rw [wrap64 _ (by omega) (by omega)]; omega) | (rw [wrap64 _ (by omega) (by omega)]; split <;> omega)) (map_at hx14) rfl ?_
    refine ⟨Nat, fun j => [(0, .val (.one (.d (.v (.func (.yield yL) #[] #[]))))), (1, .val (.one (.ref [D.list (List.map intD l)]))), (2, .val (.one (.ref [D.v (.int .i64 (s))]))), (4, int (i : Int)), (5, int x14), (9, .val (.one (.d (.list (List.map intD l))))), (10, int ((List.map intD l).length : Int)), (11, int (i : Int)), (20, .val (.one (.full ([[D.v (.int .i64 (IntKind.i64.wrap (x14 - 1)))], [D.v (.int .i64 (IntKind.i64.wrap (x14 + 1)))]])))), (21, int 2), (22, int (j : Int))],
      fun j => [], fun j => some (besU s l (2 * i + j)).length, fun j => j ≤ 2, fun j => 2 - j, 0, ?_, rfl, Nat.zero_le _, fun j hs => ?_⟩
    · constructor <;> (repeat' (first | exact rfl | exact True.intro | exact ⟨_, _, rfl⟩ | exact (by decide) | apply And.intro))
      all_goals first | exact congrArg (fun n : Int => D.v (.int .i64 n)) (by omega) | exact congrArg (fun n : Int => D.v (.int .i64 n)) (by rw [wrap64 _ (by omega) (by omega)]; omega) | (simp; done)
    refine ⟨fun e2 => ?_, fun e2 => ?_⟩
    · have f23 : (j : Int) < 2 := of_decide_eq_true e2
      refine k_ix j [D.v (.int .i64 (nbW x14 j))] (by first | rfl | omega | (rw [wrap64 _ (by omega) (by omega)]; omega) | (rw [wrap64 _ (by omega) (by omega)]; split <;> omega)) (two_at _ _ (by omega)) rfl ?_
      refine fork (fun e3 => ?_) (fun e3 => ?_)
      · have f28 : x14 < 0 := of_decide_eq_true e3
        refine ⟨fun _ => ?_, fun e => absurd e (by decide)⟩
        refine ⟨j + 1, by omega, by simp only; omega, (congrArg some (besU_no hx14 (by omega) (fun h => by obtain ⟨h1, h2, h3, h4⟩ := h; omega)).symm), ?_⟩
        constructor <;> (repeat' (first | exact rfl | exact True.intro | apply And.intro))
        all_goals first
          | exact congrArg (fun n : Int => D.v (.int .i64 n)) (by rw [wrap64 _ (by omega) (by omega)]; omega)
          | exact congrArg (fun n : Int => D.v (.int .i64 n)) (by omega)
      · have f28 : ¬ (x14 < 0) := of_decide_eq_false e3
        refine fork (fun e4 => ?_) (fun e4 => ?_)
        · have f33 : x14 > s := of_decide_eq_true e4
          refine ⟨fun _ => ?_, fun e => absurd e (by decide)⟩
          refine ⟨j + 1, by omega, by simp only; omega, (congrArg some (besU_no hx14 (by omega) (fun h => by obtain ⟨h1, h2, h3, h4⟩ := h; omega)).symm), ?_⟩
          constructor <;> (repeat' (first | exact rfl | exact True.intro | apply And.intro))
          all_goals first
            | exact congrArg (fun n : Int => D.v (.int .i64 n)) (by rw [wrap64 _ (by omega) (by omega)]; omega)
            | exact congrArg (fun n : Int => D.v (.int .i64 n)) (by omega)
        · have f33 : ¬ (x14 > s) := of_decide_eq_false e4
          refine fork (fun e5 => ?_) (fun e5 => ?_)
          · have f37 : nbW x14 j < 0 := of_decide_eq_true e5
            refine ⟨fun _ => ?_, fun e => absurd e (by decide)⟩
            refine ⟨j + 1, by omega, by simp only; omega, (congrArg some (besU_no hx14 (by omega) (fun h => by obtain ⟨h1, h2, h3, h4⟩ := h; omega)).symm), ?_⟩
            constructor <;> (repeat' (first | exact rfl | exact True.intro | apply And.intro))
            all_goals first
              | exact congrArg (fun n : Int => D.v (.int .i64 n)) (by rw [wrap64 _ (by omega) (by omega)]; omega)
              | exact congrArg (fun n : Int => D.v (.int .i64 n)) (by omega)
          · have f37 : ¬ (nbW x14 j < 0) := of_decide_eq_false e5
            refine ⟨fun e6 => ?_, fun e6 => ?_⟩
            · have f41 : nbW x14 j > s := of_decide_eq_true e6
              refine ⟨j + 1, by omega, by simp only; omega, (congrArg some (besU_no hx14 (by omega) (fun h => by obtain ⟨h1, h2, h3, h4⟩ := h; omega)).symm), ?_⟩
              constructor <;> (repeat' (first | exact rfl | exact True.intro | apply And.intro))
              all_goals first
                | exact congrArg (fun n : Int => D.v (.int .i64 n)) (by rw [wrap64 _ (by omega) (by omega)]; omega)
                | exact congrArg (fun n : Int => D.v (.int .i64 n)) (by omega)
            · have f41 : ¬ (nbW x14 j > s) := of_decide_eq_false e6
              refine k_cloneN (by omega) (by omega) ?_
              refine k_at_own' i (by first | rfl | omega | (rw [wrap64 _ (by omega) (by omega)]; omega) | (rw [wrap64 _ (by omega) (by omega)]; split <;> omega)) (by first | omega | (simp; omega)) ?_
              refine ⟨by first | omega | (simp; omega), ?_⟩
              refine ⟨rfl, ?_⟩
              have hok : nbOk s x14 j := ⟨by omega, by omega, by omega, by omega⟩
              refine ⟨rfl, by kernel_rfl, rfl, (besU s l (2 * i + j)).length, [D.list ((List.map intD l).set i [D.v (.int .i64 (nbW x14 j))])], rfl, (besE_at hx14 (by omega) hok), rfl, ?_, ?_⟩
              · refine ⟨fun e => absurd e (by decide), fun _ => ?_⟩
                refine ⟨j + 1, by omega, by simp only; omega, (congrArg some (besU_yes hx14 (by omega) hok).symm), ?_⟩
                constructor <;> (repeat' (first | exact rfl | exact True.intro | apply And.intro))
                all_goals first
                  | exact congrArg (fun n : Int => D.v (.int .i64 n)) (by rw [wrap64 _ (by omega) (by omega)]; omega)
                  | exact congrArg (fun n : Int => D.v (.int .i64 n)) (by omega)
              · refine ⟨fun _ => ?_, fun e => absurd e (by decide)⟩
                exact .inr rfl
    · have f23 : ¬ ((j : Int) < 2) := of_decide_eq_false e2
      obtain rfl : j = 2 := by omega
      refine ⟨i + 1, by omega, by simp only; omega, (congrArg (fun n => some (besU s l n).length) (by omega)), ?_⟩
      constructor <;> (repeat' (first | exact rfl | exact True.intro | apply And.intro))
      all_goals first
        | exact congrArg (fun n : Int => D.v (.int .i64 n)) (by rw [wrap64 _ (by omega) (by omega)]; omega)
        | exact congrArg (fun n : Int => D.v (.int .i64 n)) (by omega)
  · have f12 : ¬ ((i : Int) < ((List.map intD l).length : Int)) := of_decide_eq_false e1
    obtain rfl : i = l.length := by omega
    exact .inl (congrArg some (besE_len s l).symm)
set_option maxHeartbeats 4000000 in
set_option maxRecDepth 100000 in
theorem All1_spec (N B : Nat) (h1 : 1 ≤ N) (h3 : N ≤ 3) (hb2 : 2 ≤ B) (hb : B ≤ 13) : SeqSpec Try.prog Tab 15 [[D.v (.int .i64 ((N : Int)))], [D.v (.int .i64 ((B : Int) - 1))]] (allV B N) := by
  have hB0 : 0 < B := by omega
  refine fn_YO [300024] [25] Try.func15 rfl rfl Try.ntmps15 rfl (by kernel_rfl) rfl fun yL => ?_
  refine fork (fun e1 => ?_) (fun e1 => ?_)
  · have f8 : (N : Int) < 1 := of_decide_eq_true e1
    exfalso
    omega
  · have f8 : ¬ ((N : Int) < 1) := of_decide_eq_false e1
    refine fork (fun e2 => ?_) (fun e2 => ?_)
    · have f12 : (N : Int) > 3 := of_decide_eq_true e2
      exfalso
      omega
    · have f12 : ¬ ((N : Int) > 3) := of_decide_eq_false e2
      refine fork (fun e3 => ?_) (fun e3 => ?_)
      · have f16 : (B : Int) - 1 < 1 := of_decide_eq_true e3
        exfalso
        omega
      · have f16 : ¬ ((B : Int) - 1 < 1) := of_decide_eq_false e3
        refine ⟨fun e4 => ?_, fun e4 => ?_⟩
        · have f19 : (B : Int) - 1 > 12 := of_decide_eq_true e4
          exfalso
          omega
        · have f19 : ¬ ((B : Int) - 1 > 12) := of_decide_eq_false e4
          refine ⟨⟨by omega, rfl, (by show ((N : Int)) * 8 ≤ _; omega), by omega⟩, ?_⟩
          refine ⟨Nat, fun m => [(0, .val (.one (.d (.v (.func (.yield yL) #[] #[]))))), (1, .val (.one (.ref [D.v (.int .i64 ((N : Int)))]))), (2, .val (.one (.ref [D.v (.int .i64 ((B : Int) - 1))]))), (4, .val (.one (.row 21 0)))],
            fun m => [(21, .row 3 1 0 (List.map intD (dig B N m)) true)], fun m => some m, fun m => m < B ^ N, fun m => B ^ N - m, 0, ?_, rfl, Nat.pow_pos (by omega), fun m hs => ?_⟩
          · constructor <;> (repeat' (first | exact rfl | exact True.intro | exact ⟨_, _, rfl⟩ | exact (by decide) | apply And.intro))
            all_goals first
              | exact rep_0 B N
              | (simp; done)
              | exact (rep_0 B N).symm
              | (simp only [cD]; exact (rep_0 B N).symm)
          have hs0 := hs
          refine ⟨rfl, ?_⟩
          refine ⟨.new 3 1 (List.map intD (dig B N m)), ⟨_, _, _, rfl, (cloneN_spec _ (by rw [dig_len]; omega) (by rw [dig_len]; omega)), (flat_int _)⟩, ?_⟩
          refine ⟨rfl, by kernel_rfl, rfl, m, [D.list (List.map intD (dig B N m))], rfl, (allV_at hs0), rfl, ?_, ?_⟩
          · refine ⟨fun e => absurd e (by decide), fun _ => ?_⟩
            refine ⟨Nat, fun c => [(0, .val (.one (.d (.v (.func (.yield yL) #[] #[]))))), (1, .val (.one (.ref [D.v (.int .i64 ((N : Int)))]))), (2, .val (.one (.ref [D.v (.int .i64 ((B : Int) - 1))]))), (4, .val (.one (.row 21 0))), (5, int ((N : Int) - 1 - (c : Int)))],
              fun c => [(21, .row 3 1 0 (List.map intD (zr B N m c)) true)], fun c => some (m + 1), fun c => c ≤ N ∧ B ^ c ∣ m + 1, fun c => N - c, 0, ?_, rfl, ⟨Nat.zero_le _, ⟨m + 1, by simp⟩⟩, fun c hs => ?_⟩
            · constructor <;> (repeat' (first | exact rfl | exact True.intro | exact ⟨_, _, rfl⟩ | exact (by decide) | apply And.intro))
              all_goals first
                | exact congrArg (List.map intD) (zr_0 B N m).symm
                | exact (zr_0 B N m).symm
                | (rw [zr_0]; done)
                | exact congrArg (fun n : Int => D.v (.int .i64 n)) (by rw [wrap64 _ (by omega) (by omega)]; omega)
                | (simp; done)
            have hs2 := hs
            have hcN := hs2.1
            have hx := Nat.mod_lt (m / B ^ c) hB0
            have hzl : (List.map intD (zr B N m c)).length = N := by rw [List.length_map, zr_len hcN]
            refine fork (fun e5 => ?_) (fun e5 => ?_)
            · have f31 : (N : Int) - 1 - (c : Int) ≥ 0 := of_decide_eq_true e5
              refine k_at_own' (N - 1 - c) (by first | rfl | omega | (rw [wrap64 _ (by omega) (by omega)]; omega) | (rw [wrap64 _ (by omega) (by omega)]; split <;> omega)) (by first | omega | (simp; omega)) ?_
              refine k_ldo [D.v (.int .i64 (((m / B ^ c % B : Nat) : Int)))] _ (map_at (zr_get (by omega))) rfl rfl ?_
              refine ⟨by kernel_rfl, ?_⟩
              refine ⟨fun e6 => ?_, fun e6 => ?_⟩
              · have f38 : ((m / B ^ c % B : Nat) : Int) = (B : Int) - 1 := beq_t e6
                refine k_at_own' (N - 1 - c) (by first | rfl | omega | (rw [wrap64 _ (by omega) (by omega)]; omega) | (rw [wrap64 _ (by omega) (by omega)]; split <;> omega)) (by first | omega | (simp; omega)) ?_
                refine ⟨by first | omega | (simp; omega), ?_⟩
                refine ⟨c + 1, ⟨by omega, dvd_next hB0 hs2.2 (by omega)⟩, by simp only; omega, rfl, ?_⟩
                constructor <;> (repeat' (first | exact rfl | exact True.intro | apply And.intro))
                all_goals first
                  | (rw [← zr_set0 (by omega), List.map_set]; rfl)
                  | exact congrArg (fun n : Int => D.v (.int .i64 n)) (by rw [wrap64 _ (by omega) (by omega)]; omega)
                  | exact congrArg (fun n : Int => D.v (.int .i64 n)) (by omega)
              · have f38 : ¬ (((m / B ^ c % B : Nat) : Int) = (B : Int) - 1) := beq_f e6
                refine ⟨fun e7 => ?_, fun e7 => ?_⟩
                · have f45 : (N : Int) - 1 - (c : Int) < 0 := of_decide_eq_true e7
                  have e := hs2.2
                  rw [show c = N by omega] at e
                  exact .inl (congrArg some (by rw [allV_len]; exact all_end hs0 e))
                · have f45 : ¬ ((N : Int) - 1 - (c : Int) < 0) := of_decide_eq_false e7
                  refine k_at_own' (N - 1 - c) (by first | rfl | omega | (rw [wrap64 _ (by omega) (by omega)]; omega) | (rw [wrap64 _ (by omega) (by omega)]; split <;> omega)) (by first | omega | (simp; omega)) ?_
                  refine k_ldo [D.v (.int .i64 (((m / B ^ c % B : Nat) : Int)))] _ (map_at (zr_get (by omega))) rfl rfl ?_
                  refine k_at_own' (N - 1 - c) (by first | rfl | omega | (rw [wrap64 _ (by omega) (by omega)]; omega) | (rw [wrap64 _ (by omega) (by omega)]; split <;> omega)) (by first | omega | (simp; omega)) ?_
                  refine ⟨by first | omega | (simp; omega), ?_⟩
                  refine ⟨m + 1, all_next hB0 (by omega) hs0 hs2.2 (by omega), by simp only; omega, rfl, ?_⟩
                  constructor <;> (repeat' (first | exact rfl | exact True.intro | apply And.intro))
                  all_goals first
                    | (rw [wrap64 _ (by omega) (by omega), ← zr_inc (by omega) hB0 hs2.2 (by omega), List.map_set]; rfl)
                    | exact congrArg (fun n : Int => D.v (.int .i64 n)) (by rw [wrap64 _ (by omega) (by omega)]; omega)
                    | exact congrArg (fun n : Int => D.v (.int .i64 n)) (by omega)
            · have f31 : ¬ ((N : Int) - 1 - (c : Int) ≥ 0) := of_decide_eq_false e5
              refine ⟨by kernel_rfl, ?_⟩
              refine ⟨fun e => absurd e (by decide), fun _ => ?_⟩
              refine ⟨fun e8 => ?_, fun e8 => ?_⟩
              · have f45 : (N : Int) - 1 - (c : Int) < 0 := of_decide_eq_true e8
                have e := hs2.2
                rw [show c = N by omega] at e
                exact .inl (congrArg some (by rw [allV_len]; exact all_end hs0 e))
              · have f45 : ¬ ((N : Int) - 1 - (c : Int) < 0) := of_decide_eq_false e8
                refine k_at_own' (N - 1 - c) (by first | rfl | omega | (rw [wrap64 _ (by omega) (by omega)]; omega) | (rw [wrap64 _ (by omega) (by omega)]; split <;> omega)) (by first | omega | (simp; omega)) ?_
                refine k_ldo [D.v (.int .i64 (((m / B ^ c % B : Nat) : Int)))] _ (map_at (zr_get (by omega))) rfl rfl ?_
                refine k_at_own' (N - 1 - c) (by first | rfl | omega | (rw [wrap64 _ (by omega) (by omega)]; omega) | (rw [wrap64 _ (by omega) (by omega)]; split <;> omega)) (by first | omega | (simp; omega)) ?_
                refine ⟨by first | omega | (simp; omega), ?_⟩
                refine ⟨m + 1, all_next hB0 (by omega) hs0 hs2.2 (by omega), by simp only; omega, rfl, ?_⟩
                constructor <;> (repeat' (first | exact rfl | exact True.intro | apply And.intro))
                all_goals first
                  | (rw [wrap64 _ (by omega) (by omega), ← zr_inc (by omega) hB0 hs2.2 (by omega), List.map_set]; rfl)
                  | exact congrArg (fun n : Int => D.v (.int .i64 n)) (by rw [wrap64 _ (by omega) (by omega)]; omega)
                  | exact congrArg (fun n : Int => D.v (.int .i64 n)) (by omega)
          · refine ⟨fun _ => ?_, fun e => absurd e (by decide)⟩
            exact .inr rfl
set_option maxRecDepth 100000 in
theorem spF_spec (n s : Int) (l : List Int) (_ : l.length ≤ 1048576) : Spec Try.prog Tab 10 [.val (.one (.d (.list (List.map intD l)))), int n, int s] (int (spF n s l)) := by
  have hLl : (List.map intD l).length = l.length := List.length_map ..
  refine fn_spec Try.func10 rfl rfl Try.ntmps10 rfl (by kernel_rfl) rfl rfl ?_
  refine ⟨fun e1 => ?_, fun e1 => ?_⟩
  · have f12 : ((List.map intD l).length : Int) ≠ n := bne_t e1
    refine Eq.trans (b := int 1) ?_ rfl
    rw [spF_1 (by omega)]
  · have f12 : ¬ (((List.map intD l).length : Int) ≠ n) := fun hh => hh (bne_f e1)
    refine ⟨Nat, fun i => [(2, int s), (13, .val (.one (.d (.list (List.map intD l))))), (14, int ((List.map intD l).length : Int)), (15, int (i : Int))],
      fun i => [], fun i => i ≤ l.length ∧ ∀ (j : Nat) (k : Int), j < i → l[j]? = some k → 0 ≤ k ∧ k ≤ s, fun i => l.length - i, 0, ?_, ⟨Nat.zero_le _, fun j k h => by omega⟩, fun i hs => ?_⟩
    · constructor <;> (repeat' (first | exact rfl | exact True.intro | exact ⟨_, _, rfl⟩ | exact (by decide) | apply And.intro))
      all_goals first | exact congrArg (fun n : Int => D.v (.int .i64 n)) (by omega) | exact congrArg (fun n : Int => D.v (.int .i64 n)) (by rw [wrap64 _ (by omega) (by omega)]; omega) | (simp; done)
    have g1 := hs.1
    have g2 := hs.2
    refine ⟨fun e2 => ?_, fun e2 => ?_⟩
    · have f16 : (i : Int) < ((List.map intD l).length : Int) := of_decide_eq_true e2
      refine get_ex (l := l) (i := i) (by first | omega | exact Nat.mod_lt _ (by omega)) fun x17 hx17 => ?_
      refine k_ix i [D.v (.int .i64 (x17))] (by first | rfl | omega | (rw [wrap64 _ (by omega) (by omega)]; omega) | (rw [wrap64 _ (by omega) (by omega)]; split <;> omega)) (map_at hx17) rfl ?_
      refine fork (fun e3 => ?_) (fun e3 => ?_)
      · have f21 : x17 < 0 := of_decide_eq_true e3
        refine ⟨fun _ => ?_, fun e => absurd e (by decide)⟩
        refine Eq.trans (b := int 17) ?_ rfl
        rw [spF_17 (by omega) hx17 (by omega)]
      · have f21 : ¬ (x17 < 0) := of_decide_eq_false e3
        refine ⟨fun e4 => ?_, fun e4 => ?_⟩
        · have f25 : x17 > s := of_decide_eq_true e4
          refine Eq.trans (b := int 17) ?_ rfl
          rw [spF_17 (by omega) hx17 (by omega)]
        · have f25 : ¬ (x17 > s) := of_decide_eq_false e4
          refine ⟨i + 1, ⟨by omega, fun j k hj hk => by
            by_cases e : j = i
            · subst e; obtain rfl := Option.some.inj (hx17.symm.trans hk); omega
            · exact g2 j k (by omega) hk⟩, by simp only; omega, ?_⟩
          constructor <;> (repeat' (first | exact rfl | exact True.intro | apply And.intro))
          all_goals first
            | exact congrArg (fun n : Int => D.v (.int .i64 n)) (by rw [wrap64 _ (by omega) (by omega)]; omega)
            | exact congrArg (fun n : Int => D.v (.int .i64 n)) (by omega)
    · have f16 : ¬ ((i : Int) < ((List.map intD l).length : Int)) := of_decide_eq_false e2
      refine Eq.trans (b := int 0) ?_ rfl
      rw [spF_0 (by omega) (inR_all fun j k hj => g2 j k (by omega))]
theorem k_spF {n s : Int} {l : List Int} (hn : l.length ≤ 1048576) (k : ∀ v, v = spF n s l → K (int v)) : Ask 10 [.val (.one (.d (.list (List.map intD l)))), int n, int s] K := use (spF_spec n s l hn) rfl (k _ rfl)
def allOk (n s : Int) : Prop := 1 ≤ n ∧ n ≤ 3 ∧ 1 ≤ s ∧ s ≤ 12
instance (n s : Int) : Decidable (allOk n s) := inferInstanceAs (Decidable (_ ∧ _))
def numF (n s : Int) (l : List Int) : Int := if allOk n s then spF n s l else 1
def numR (n s : Int) (l : List Int) : Int := if numF n s l = 0 then numV (s + 1) l else 0
theorem numF_ok {n s : Int} {l : List Int} (h : allOk n s) : numF n s l = spF n s l := if_pos h
theorem numF_no {n s : Int} {l : List Int} (h : ¬ allOk n s) : numF n s l = 1 := if_neg h
theorem numR_no {n s v : Int} {l : List Int} (h : numF n s l = v) (hv : v ≠ 0) : numR n s l = 0 := if_neg (by rw [h]; exact hv)
theorem numR_ok {n s : Int} {l : List Int} (h : numF n s l = 0) : numR n s l = numV (s + 1) l := if_pos h
set_option maxRecDepth 100000 in
theorem num_spec (n s : Int) (l : List Int) (_ : l.length ≤ 1048576) : Spec Try.prog Tab 4 [int n, int s, .val (.one (.d (.list (List.map intD l))))] (.tup [.one (.d (.v (.int .i64 (numR n s l)))), .one (.d (.v (.int .i64 (numF n s l))))]) := by
  have hLl : (List.map intD l).length = l.length := List.length_map ..
  refine fn_spec Try.func4 rfl rfl Try.ntmps4 rfl (by kernel_rfl) rfl rfl ?_
  refine fork (fun e1 => ?_) (fun e1 => ?_)
  · have f13 : n < 1 := of_decide_eq_true e1
    refine ⟨fun _ => ?_, fun e => absurd e (by decide)⟩
    refine Eq.trans (b := .tup [.one (.d (.v (.int .i64 (0)))), .one (.d (.v (.int .i64 (1))))]) ?_ rfl
    have e := numF_no (n := n) (s := s) (l := l) (fun h => by obtain ⟨h1, h2, h3, h4⟩ := h; omega)
    rw [numR_no e (by decide), e]
  · have f13 : ¬ (n < 1) := of_decide_eq_false e1
    refine fork (fun e2 => ?_) (fun e2 => ?_)
    · have f17 : n > 3 := of_decide_eq_true e2
      refine ⟨fun _ => ?_, fun e => absurd e (by decide)⟩
      refine Eq.trans (b := .tup [.one (.d (.v (.int .i64 (0)))), .one (.d (.v (.int .i64 (1))))]) ?_ rfl
      have e := numF_no (n := n) (s := s) (l := l) (fun h => by obtain ⟨h1, h2, h3, h4⟩ := h; omega)
      rw [numR_no e (by decide), e]
    · have f17 : ¬ (n > 3) := of_decide_eq_false e2
      refine fork (fun e3 => ?_) (fun e3 => ?_)
      · have f21 : s < 1 := of_decide_eq_true e3
        refine ⟨fun _ => ?_, fun e => absurd e (by decide)⟩
        refine Eq.trans (b := .tup [.one (.d (.v (.int .i64 (0)))), .one (.d (.v (.int .i64 (1))))]) ?_ rfl
        have e := numF_no (n := n) (s := s) (l := l) (fun h => by obtain ⟨h1, h2, h3, h4⟩ := h; omega)
        rw [numR_no e (by decide), e]
      · have f21 : ¬ (s < 1) := of_decide_eq_false e3
        refine fork (fun e4 => ?_) (fun e4 => ?_)
        · have f25 : s > 12 := of_decide_eq_true e4
          refine ⟨fun _ => ?_, fun e => absurd e (by decide)⟩
          refine Eq.trans (b := .tup [.one (.d (.v (.int .i64 (0)))), .one (.d (.v (.int .i64 (1))))]) ?_ rfl
          have e := numF_no (n := n) (s := s) (l := l) (fun h => by obtain ⟨h1, h2, h3, h4⟩ := h; omega)
          rw [numR_no e (by decide), e]
        · have f25 : ¬ (s > 12) := of_decide_eq_false e4
          refine ⟨fun e5 => ?_, fun e5 => ?_⟩
          · have f30 : ((List.map intD l).length : Int) ≠ n := bne_t e5
            refine Eq.trans (b := .tup [.one (.d (.v (.int .i64 (0)))), .one (.d (.v (.int .i64 (1))))]) ?_ rfl
            have e : numF n s l = 1 := (numF_ok ⟨by omega, by omega, by omega, by omega⟩).trans (spF_1 (by omega))
            rw [numR_no e (by decide), e]
          · have f30 : ¬ (((List.map intD l).length : Int) ≠ n) := fun hh => hh (bne_f e5)
            have hok : allOk n s := ⟨by omega, by omega, by omega, by omega⟩
            have hl3 : l.length ≤ 3 := by omega
            refine ⟨Nat, fun i => [(1, int s), (8, int (numV (s + 1) (l.take i))), (31, .val (.one (.d (.list (List.map intD l))))), (32, int ((List.map intD l).length : Int)), (33, int (i : Int))],
              fun i => [], fun i => i ≤ l.length ∧ (0 ≤ numV (s + 1) (l.take i) ∧ numV (s + 1) (l.take i) < 13 ^ i) ∧ ∀ (j : Nat) (k : Int), j < i → l[j]? = some k → 0 ≤ k ∧ k ≤ s, fun i => l.length - i, 0, ?_, ⟨Nat.zero_le _, by simp [numV], fun j k h => by omega⟩, fun i hs => ?_⟩
            · constructor <;> (repeat' (first | exact rfl | exact True.intro | exact ⟨_, _, rfl⟩ | exact (by decide) | apply And.intro))
              all_goals first | exact congrArg (fun n : Int => D.v (.int .i64 n)) (by omega) | exact congrArg (fun n : Int => D.v (.int .i64 n)) (by rw [wrap64 _ (by omega) (by omega)]; omega) | (simp; done)
            have g1 := hs.1
            have gv := hs.2.1
            have g2 := hs.2.2
            have hp13 := pow13 (i := i) (by omega)
            refine ⟨fun e6 => ?_, fun e6 => ?_⟩
            · have f34 : (i : Int) < ((List.map intD l).length : Int) := of_decide_eq_true e6
              refine get_ex (l := l) (i := i) (by first | omega | exact Nat.mod_lt _ (by omega)) fun x35 hx35 => ?_
              refine k_ix i [D.v (.int .i64 (x35))] (by first | rfl | omega | (rw [wrap64 _ (by omega) (by omega)]; omega) | (rw [wrap64 _ (by omega) (by omega)]; split <;> omega)) (map_at hx35) rfl ?_
              refine fork (fun e7 => ?_) (fun e7 => ?_)
              · have f39 : x35 < 0 := of_decide_eq_true e7
                refine ⟨fun _ => ?_, fun e => absurd e (by decide)⟩
                refine Eq.trans (b := .tup [.one (.d (.v (.int .i64 (0)))), .one (.d (.v (.int .i64 (17))))]) ?_ rfl
                have e : numF n s l = 17 := (numF_ok hok).trans (spF_17 (by omega) hx35 (by omega))
                rw [numR_no e (by decide), e]
              · have f39 : ¬ (x35 < 0) := of_decide_eq_false e7
                refine ⟨fun e8 => ?_, fun e8 => ?_⟩
                · have f43 : x35 > s := of_decide_eq_true e8
                  refine Eq.trans (b := .tup [.one (.d (.v (.int .i64 (0)))), .one (.d (.v (.int .i64 (17))))]) ?_ rfl
                  have e : numF n s l = 17 := (numF_ok hok).trans (spF_17 (by omega) hx35 (by omega))
                  rw [numR_no e (by decide), e]
                · have f43 : ¬ (x35 > s) := of_decide_eq_false e8
                  have hst := num_step (i := i) gv.1 gv.2 (k := x35) (s := s) (by omega) (by omega)
                  have hp14 := pow13 (i := i + 1) (by omega)
                  have hmul : 0 ≤ numV (s + 1) (l.take i) * (s + 1) := Int.mul_nonneg gv.1 (by omega)
                  refine ⟨i + 1, ⟨by omega, by rw [numV_snoc hx35]; exact hst, fun j k hj hk => by
                    by_cases e : j = i
                    · subst e; obtain rfl := Option.some.inj (hx35.symm.trans hk); omega
                    · exact g2 j k (by omega) hk⟩, by simp only; omega, ?_⟩
                  constructor <;> (repeat' (first | exact rfl | exact True.intro | apply And.intro))
                  all_goals first
                    | exact congrArg (fun n : Int => D.v (.int .i64 n)) (by rw [numV_snoc hx35, wrap64 (s + 1) (by omega) (by omega), wrap64 _ (by omega) (by omega), wrap64 _ (by omega) (by omega)])
                    | exact congrArg (fun n : Int => D.v (.int .i64 n)) (by rw [numV_snoc hx35, wrap64 (s + 1) (by omega) (by omega), wrap64 (_ * _) (by omega) (by omega), wrap64 _ (by omega) (by omega)])
                    | exact congrArg (fun n : Int => D.v (.int .i64 n)) (by rw [wrap64 _ (by omega) (by omega)]; omega)
                    | exact congrArg (fun n : Int => D.v (.int .i64 n)) (by omega)
            · have f34 : ¬ ((i : Int) < ((List.map intD l).length : Int)) := of_decide_eq_false e6
              refine Eq.trans (b := .tup [.one (.d (.v (.int .i64 (numV (s + 1) (l.take i))))), .one (.d (.v (.int .i64 (0))))]) ?_ rfl
              have e : numF n s l = 0 := (numF_ok hok).trans (spF_0 (by omega) (inR_all fun j k hj => g2 j k (by omega)))
              rw [numR_ok e, e, List.take_of_length_le (by omega)]
set_option maxRecDepth 100000 in
theorem Next_spec (s : Int) (l : List Int) : Spec Try.prog Tab 6 [int s, .val (.one (.d (.list (List.map intD l))))] (.val (.one (.d (.fn 14 [[D.list (List.map intD l)], [D.v (.int .i64 (s))]])))) := by
  refine fn_spec Try.func6 rfl rfl Try.ntmps6 rfl (by kernel_rfl) rfl rfl ?_
  refine ⟨[(2, .val (.one (.ref [D.v (.int .i64 (s))]))), (3, .val (.one (.ref [D.list (List.map intD l)])))], [], ?_, ?_⟩
  · constructor <;> (repeat' (first | exact rfl | exact True.intro | exact ⟨_, _, rfl⟩ | exact (by decide) | apply And.intro))
  refine Eq.trans (b := .val (.one (.d (.fn 14 [[D.list (List.map intD l)], [D.v (.int .i64 (s))]])))) ?_ rfl
  rfl
set_option maxRecDepth 100000 in
theorem All_spec (n s : Int) : Spec Try.prog Tab 8 [int n, int s] (.val (.one (.d (.fn 15 [[D.v (.int .i64 (n))], [D.v (.int .i64 (s))]])))) := by
  refine fn_spec Try.func8 rfl rfl Try.ntmps8 rfl (by kernel_rfl) rfl rfl ?_
  refine ⟨[(2, .val (.one (.ref [D.v (.int .i64 (n))]))), (3, .val (.one (.ref [D.v (.int .i64 (s))])))], [], ?_, ?_⟩
  · constructor <;> (repeat' (first | exact rfl | exact True.intro | exact ⟨_, _, rfl⟩ | exact (by decide) | apply And.intro))
  refine Eq.trans (b := .val (.one (.d (.fn 15 [[D.v (.int .i64 (n))], [D.v (.int .i64 (s))]])))) ?_ rfl
  rfl
set_option maxRecDepth 100000 in
theorem All1_bad (n s : Int) (h : ¬ allOk n s) : SeqSpec Try.prog Tab 15 [[D.v (.int .i64 (n))], [D.v (.int .i64 (s))]] ([]) := by
  refine fn_Y [25] Try.func15 rfl rfl Try.ntmps15 rfl (by kernel_rfl) rfl fun yL => ?_
  refine fork (fun e1 => ?_) (fun e1 => ?_)
  · have f8 : n < 1 := of_decide_eq_true e1
    refine ⟨fun _ => ?_, fun e => absurd e (by decide)⟩
    exact .inl rfl
  · have f8 : ¬ (n < 1) := of_decide_eq_false e1
    refine fork (fun e2 => ?_) (fun e2 => ?_)
    · have f12 : n > 3 := of_decide_eq_true e2
      refine ⟨fun _ => ?_, fun e => absurd e (by decide)⟩
      exact .inl rfl
    · have f12 : ¬ (n > 3) := of_decide_eq_false e2
      refine fork (fun e3 => ?_) (fun e3 => ?_)
      · have f16 : s < 1 := of_decide_eq_true e3
        refine ⟨fun _ => ?_, fun e => absurd e (by decide)⟩
        exact .inl rfl
      · have f16 : ¬ (s < 1) := of_decide_eq_false e3
        refine ⟨fun e4 => ?_, fun e4 => ?_⟩
        · have f19 : s > 12 := of_decide_eq_true e4
          exact .inl rfl
        · have f19 : ¬ (s > 12) := of_decide_eq_false e4
          exfalso
          exact h ⟨by omega, by omega, by omega, by omega⟩
set_option maxRecDepth 100000 in
theorem Rn1_spec (x l : List Int) (hx : x.length ≤ 1048576) (hn : l.length ≤ 1048576) : Spec Try.prog Tab 12 [.val (.one (.d (.list (List.map intD x)))), .val (.one (.ref [D.list (List.map intD l)]))] (bool (decide (x = l))) := by
  refine fn_spec Try.func12 rfl rfl Try.ntmps12 rfl (by kernel_rfl) rfl rfl ?_
  refine k_eqI (by omega) (by omega) ?_
  refine Eq.trans (b := bool (decide (x = l))) ?_ rfl
  rfl
end
end Go.Proofs.Ytobeklcimmjodaa.eng
