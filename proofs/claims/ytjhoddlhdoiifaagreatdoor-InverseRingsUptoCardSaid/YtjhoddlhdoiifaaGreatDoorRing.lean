/- Contract: inverse.Ring. Printed by wip/gp_lawf.py. -/
import Derived.Test.YtjhoddlhdoiifaaGreatDoorGrpL
import Derived.Test.YtjhoddlhdoiifaaGreatDoorFore0
import Derived.Test.YtjhoddlhdoiifaaGreatDoorGrpZ
namespace Go.Proofs.YtjhoddlhdoiifaaGreatDoor.eng
open Go.RowKit num mem seg q held ratA ratB ratC ratD ratE vars ratF
section
variable {K : AV → Prop}
theorem lenQ_s (A : ArmV) (i : Nat) (hi : i < A.links.length) : lenQ A (i + 1) = lenQ A i + lenAt A i := by
  obtain ⟨l, h⟩ : ∃ l, A.links[i]? = some l := ⟨_, List.getElem?_eq_getElem hi⟩
  rw [lenQ_succ h, lenAt_is h]
/-- the least distance of the first links -/
def ringQ (A : ArmV) (s : Rat) : Nat → Rat
  | 0 => ((0 : Int) : Rat)
  | i + 1 => maxQ (ringQ A s i) (((2 : Int) : Rat) * lenAt A i - s)
theorem lenQ_z {A : ArmV} (hA : armE A = 0) : ∀ i, i ≤ A.links.length → qs (lenQ A i) ≤ 1 + 6 * i
  | 0, _ => (by decide +kernel : qs ((0 : Int) : Rat) ≤ 1 + 6 * 0)
  | i + 1, h => by
    have h1 := lenQ_z hA i (by omega)
    have h2 := lenAt_z hA i
    have h3 := qs_add (lenQ A i) (lenAt A i)
    rw [lenQ_s A i (by omega)]; omega
theorem ringQ_z {A : ArmV} (hA : armE A = 0) {s : Rat} (hs : qs s ≤ 100) : ∀ i, qs (ringQ A s i) ≤ 200
  | 0 => (by decide +kernel : qs ((0 : Int) : Rat) ≤ 200)
  | i + 1 => by
    have h1 := ringQ_z hA hs i
    have h2 := lenAt_z hA i
    have h0 : qs ((2 : Int) : Rat) ≤ 8 := qs_i64 (n := 2) (by omega) (by omega)
    have h3 := qs_mul ((2 : Int) : Rat) (lenAt A i)
    have h4 := qs_sub (((2 : Int) : Rat) * lenAt A i) s
    show qs (maxQ _ _) ≤ 200
    unfold maxQ; split <;> omega
open Classical in
noncomputable def ringN (A : ArmV) : RV := if armE A = 0 then cn (ringQ A (lenQ A A.links.length) A.links.length) else z0
theorem ringN_ok {A : ArmV} (h : armE A = 0) : ringN A = cn (ringQ A (lenQ A A.links.length) A.links.length) := if_pos h
theorem ringN_no {A : ArmV} (h : ¬ armE A = 0) : ringN A = z0 := if_neg h
theorem lenV_ok {A : ArmV} (h : armE A = 0) : lenV A = cn (lenQ A A.links.length) := if_pos h
theorem lenV_no {A : ArmV} (h : ¬ armE A = 0) : lenV A = z0 := if_neg h
set_option maxHeartbeats 2000000 in
set_option maxRecDepth 100000 in
theorem Ring_spec (A : ArmV) (hA : A.ok) : Spec Tryz.prog Tab 14 [.val (.agg [.d (.v (.string A.name)), .d (.v (.bool A.bx.s)), .d (.v (.string A.bx.a)), .d (.v (.string A.bx.d)), .d (.v (.bool A.by'.s)), .d (.v (.string A.by'.a)), .d (.v (.string A.by'.d)), .d (.v (.bool (A.bh))), .d (.v (.bool A.bt.s)), .d (.v (.string A.bt.a)), .d (.v (.string A.bt.d)), .d (.list (List.map lk A.links))])] (.tup [.agg [.d (.v (.bool (ringN A).s)), .d (.v (.string (ringN A).a)), .d (.v (.string (ringN A).d))], .agg [.d (.v (.bool (lenV A).s)), .d (.v (.string (lenV A).a)), .d (.v (.string (lenV A).d))], .one (.d (.v (.int .i64 (armE A))))]) := by
  have hA2 := hA
  obtain ⟨z1, z2, z3, z4, z5, z6⟩ := hA
  have hL : (List.map lk A.links).length = A.links.length := List.length_map ..
  refine fn_spec Tryz.func14 rfl rfl Tryz.ntmps14 rfl (by kernel_rfl) rfl rfl ?_
  refine k_ALength (A := A) (by assumption) ?_
  refine ⟨fun e1 => ?_, fun e1 => ?_⟩
  · have f16 : armE A ≠ 0 := bne_t e1
    refine Eq.trans (b := .tup [.agg [.d (.v (.bool z0.s)), .d (.v (.string z0.a)), .d (.v (.string z0.d))], .agg [.d (.v (.bool z0.s)), .d (.v (.string z0.a)), .d (.v (.string z0.d))], .one (.d (.v (.int .i64 (armE A))))]) ?_ rfl
    rw [ringN_no f16, lenV_no f16]
  · have f16 : ¬ (armE A ≠ 0) := fun hh => hh (bne_f e1)
    have hA0 : armE A = 0 := Classical.not_not.1 f16
    have hn3 := (armE_ok hA0).1
    have hlz := lenQ_z hA0 A.links.length (Nat.le_refl _)
    have hlV := lenV_ok hA0
    have hlVz : (lenV A).z ≤ 19 := by rw [hlV, cn_z]; omega
    refine k_of (0) (by omega) (by omega) fun q20 h20 z20 => ?_
    simp only [cn_z] at z20
    obtain rfl : q20 = ringQ A (lenQ A A.links.length) 0 := h20
    refine ⟨Nat, fun i => [(2, .val (.one (.ptr 2 0))), (3, .val (.one (.ptr 3 0))), (5, .val (.one (.ptr 5 0))), (7, .val (.one (.ptr 7 0))), (22, .val (.one (.d (.list (List.map lk A.links))))), (23, int ((List.map lk A.links).length : Int)), (24, int (i : Int))],
      fun i => [(2, .var 23 [.d (.v (.bool z0.s)), .d (.v (.string z0.a)), .d (.v (.string z0.d))]), (3, .var 23 [.d (.v (.bool z0.s)), .d (.v (.string z0.a)), .d (.v (.string z0.d))]), (5, .var 23 [.d (.v (.bool (lenV A).s)), .d (.v (.string (lenV A).a)), .d (.v (.string (lenV A).d))]), (7, .var 23 [.d (.v (.bool (cn (ringQ A (lenQ A A.links.length) i)).s)), .d (.v (.string (cn (ringQ A (lenQ A A.links.length) i)).a)), .d (.v (.string (cn (ringQ A (lenQ A A.links.length) i)).d))])], fun i => i ≤ A.links.length, fun i => A.links.length - i, 0, ?_, Nat.zero_le _, fun i hs => ?_⟩
    · constructor <;> (repeat' (first | exact rfl | exact True.intro | exact ⟨_, _, rfl⟩ | exact (by decide) | apply And.intro))
      all_goals first | exact congrArg (fun n : Int => D.v (.int .i64 n)) (by omega) | exact congrArg (fun n : Int => D.v (.int .i64 n)) (by rw [wrap64 _ (by omega) (by omega)]; omega) | (simp; done)
    have hr := ringQ_z hA0 (s := (lenQ A A.links.length)) (by omega) i
    refine ⟨fun e2 => ?_, fun e2 => ?_⟩
    · have f25 : (i : Int) < ((List.map lk A.links).length : Int) := of_decide_eq_true e2
      obtain ⟨x26, hx26⟩ : ∃ vv, A.links[i]? = some vv := ⟨_, List.getElem?_eq_getElem (by first | omega | exact Nat.mod_lt _ (by omega))⟩
      obtain ⟨hs1, hs2, hs3, hs4, hs5, hs6, hs7⟩ := z6 x26 (List.mem_of_getElem? hx26)
      have hlx26 := lenAt_is hx26
      have hsmx26 := smallP_z (link_small hA0 (List.mem_of_getElem? hx26)).1
      refine k_ix i [D.v (.bool x26.len.s), D.v (.string x26.len.a), D.v (.string x26.len.d), D.v (.bool x26.low.s), D.v (.string x26.low.a), D.v (.string x26.low.d), D.v (.bool x26.high.s), D.v (.string x26.high.a), D.v (.string x26.high.d), D.v (.bool x26.speed.s), D.v (.string x26.speed.a), D.v (.string x26.speed.d), D.v (.bool x26.brake.s), D.v (.string x26.brake.a), D.v (.string x26.brake.d), D.list (List.map rdv x26.shape)] (by first | rfl | omega | (rw [wrap64 _ (by omega) (by omega)]; omega)) (map_at hx26) rfl ?_
      refine k_of (2) (by omega) (by omega) fun q29 h29 z29 => ?_
      simp only [cn_z] at z29
      refine k_mul (x := cn q29) (y := x26.len) (by simp only [cn_z]; omega) (by omega) fun q32 h32 z32 => ?_
      simp only [cn_z] at z32
      simp only [cn_q] at h32
      refine k_sub (x := cn q32) (y := lenV A) (by simp only [cn_z]; omega) (by omega) fun q34 h34 z34 => ?_
      simp only [cn_z] at z34
      simp only [cn_q] at h34
      refine k_max (x := cn (ringQ A (lenQ A A.links.length) i)) (y := cn q34) (by simp only [cn_z]; omega) (by simp only [cn_z]; omega) fun q35 h35 z35 => ?_
      simp only [cn_z] at z35
      simp only [cn_q] at h35
      refine ⟨by kernel_rfl, ?_⟩
      have hq : q35 = ringQ A (lenQ A A.links.length) (i + 1) := by
        rw [h35, h34, h32, h29, hlV, cn_q, ← hlx26]; rfl
      clear h35
      subst hq
      refine ⟨i + 1, by omega, by simp only; omega, ?_⟩
      constructor <;> (repeat' (first | exact rfl | exact True.intro | apply And.intro))
      all_goals first
        | exact congrArg (fun n : Int => D.v (.int .i64 n)) (by rw [wrap64 _ (by omega) (by omega)]; omega)
        | exact congrArg (fun n : Int => D.v (.int .i64 n)) (by omega)
    · have f25 : ¬ ((i : Int) < ((List.map lk A.links).length : Int)) := of_decide_eq_false e2
      refine ⟨by kernel_rfl, ?_⟩
      refine Eq.trans (b := .tup [.agg [.d (.v (.bool (cn (ringQ A (lenQ A A.links.length) i)).s)), .d (.v (.string (cn (ringQ A (lenQ A A.links.length) i)).a)), .d (.v (.string (cn (ringQ A (lenQ A A.links.length) i)).d))], .agg [.d (.v (.bool (lenV A).s)), .d (.v (.string (lenV A).a)), .d (.v (.string (lenV A).d))], .one (.d (.v (.int .i64 (0))))]) ?_ rfl
      obtain rfl : i = A.links.length := by omega
      rw [ringN_ok hA0, hA0]
theorem k_Ring {A : ArmV} (hA : A.ok) (k : ∀ n, n = armE A → K (.tup [.agg [.d (.v (.bool (ringN A).s)), .d (.v (.string (ringN A).a)), .d (.v (.string (ringN A).d))], .agg [.d (.v (.bool (lenV A).s)), .d (.v (.string (lenV A).a)), .d (.v (.string (lenV A).d))], .one (.d (.v (.int .i64 (n))))])) : Ask 14 [.val (.agg [.d (.v (.string A.name)), .d (.v (.bool A.bx.s)), .d (.v (.string A.bx.a)), .d (.v (.string A.bx.d)), .d (.v (.bool A.by'.s)), .d (.v (.string A.by'.a)), .d (.v (.string A.by'.d)), .d (.v (.bool (A.bh))), .d (.v (.bool A.bt.s)), .d (.v (.string A.bt.a)), .d (.v (.string A.bt.d)), .d (.list (List.map lk A.links))])] K := use (Ring_spec A hA) rfl (k _ rfl)
end
end Go.Proofs.YtjhoddlhdoiifaaGreatDoor.eng
