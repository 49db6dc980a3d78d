/- Contract of gantlaw3.InverseRings: it returns true. Printed by wip/gp_lawf.py. -/
import Derived.Test.YtjhoddlhdoiifaaGreatDoorRing
import Derived.Test.YtjhoddlhdoiifaaGreatDoorGrpX
import Derived.Test.YtjhoddlhdoiifaaGreatDoorOpenA
import Derived.Test.YtjhoddlhdoiifaaGreatDoorGrpO
namespace Go.Proofs.YtjhoddlhdoiifaaGreatDoor.eng
open Go.RowKit num mem seg q held ratA ratB ratC ratD ratE vars ratF argopen
section
variable {K : AV → Prop}
/-- the length of a link less those of the first others -/
def restQ (A : ArmV) (i : Nat) : Nat → Rat
  | 0 => lenAt A i
  | k + 1 => if k = i then restQ A i k else restQ A i k - lenAt A k
theorem restQ_is (A : ArmV) (i : Nat) : ∀ k, k ≤ A.links.length → restQ A i k = lenAt A i - (lenQ A k - if i < k then lenAt A i else 0)
  | 0, _ => by
    show lenAt A i = lenAt A i - (((0 : Int) : Rat) - if i < 0 then lenAt A i else 0)
    rw [if_neg (Nat.not_lt_zero _), Rat.intCast_zero]; grind
  | k + 1, h => by
    have ih := restQ_is A i k (by omega)
    rw [lenQ_s A k (by omega)]
    show (if k = i then restQ A i k else restQ A i k - lenAt A k) = _
    by_cases e : k = i
    · subst e
      rw [if_pos rfl, ih, if_neg (Nat.lt_irrefl _), if_pos (Nat.lt_succ_self _)]; grind
    · rw [if_neg e, ih]
      by_cases h1 : i < k
      · rw [if_pos h1, if_pos (by omega)]; grind
      · rw [if_neg h1, if_neg (by omega)]; grind
theorem restQ_all (A : ArmV) {i : Nat} (hi : i < A.links.length) : restQ A i A.links.length = ((2 : Int) : Rat) * lenAt A i - lenQ A A.links.length := by
  rw [restQ_is A i _ (Nat.le_refl _), if_pos hi, show ((2 : Int) : Rat) = 2 from rfl]; grind
theorem restQ_z {A : ArmV} (hA : armE A = 0) (i : Nat) : ∀ k, qs (restQ A i k) ≤ 4 + 6 * k
  | 0 => lenAt_z hA i
  | k + 1 => by
    have h1 := restQ_z hA i k
    have h2 := lenAt_z hA k
    have h3 := qs_sub (restQ A i k) (lenAt A k)
    show qs (if k = i then restQ A i k else restQ A i k - lenAt A k) ≤ _
    split <;> omega
theorem ring52 : ringN (sampA [5, 2]) = cn ((3 : Nat) : Rat) ∧ lenV (sampA [5, 2]) = cn ((7 : Nat) : Rat) := by
  have hA : armE (sampA [5, 2]) = 0 := sampA_ok (by decide) (by decide) (by decide)
  have l0 : lenAt (sampA [5, 2]) 0 = ((5 : Nat) : Rat) := (lenAt_is rfl).trans (cn_q _)
  have l1 : lenAt (sampA [5, 2]) 1 = ((2 : Nat) : Rat) := (lenAt_is rfl).trans (cn_q _)
  have s2 : lenQ (sampA [5, 2]) (sampA [5, 2]).links.length = ((0 : Int) : Rat) + ((5 : Nat) : Rat) + ((2 : Nat) : Rat) := by
    show lenQ (sampA [5, 2]) 2 = _
    rw [lenQ_s _ 1 (by decide), lenQ_s _ 0 (by decide), l0, l1]; rfl
  rw [ringN_ok hA, lenV_ok hA, s2]
  refine ⟨congrArg cn ?_, congrArg cn (by decide +kernel)⟩
  show maxQ (maxQ ((0 : Int) : Rat) (((2 : Int) : Rat) * lenAt (sampA [5, 2]) 0 - _)) (((2 : Int) : Rat) * lenAt (sampA [5, 2]) 1 - _) = _
  rw [l0, l1]; decide +kernel
set_option maxHeartbeats 8000000 in
set_option maxRecDepth 100000 in
theorem inverseRings_spec (A : ArmV) (hA : A.ok) : Spec Tryz.prog Tab 3 [.val (.agg [.d (.v (.string A.name)), .d (.v (.bool A.bx.s)), .d (.v (.string A.bx.a)), .d (.v (.string A.bx.d)), .d (.v (.bool A.by'.s)), .d (.v (.string A.by'.a)), .d (.v (.string A.by'.d)), .d (.v (.bool (A.bh))), .d (.v (.bool A.bt.s)), .d (.v (.string A.bt.a)), .d (.v (.string A.bt.d)), .d (.list (List.map lk A.links))])] (bool true) := by
  have hA2 := hA
  obtain ⟨z1, z2, z3, z4, z5, z6⟩ := hA
  have hL : (List.map lk A.links).length = A.links.length := List.length_map ..
  have o52 : (sampA [5, 2]).ok := ok_of_zs (sampA_zs (by decide) (by decide)) (by decide)
  have a52 : armE (sampA [5, 2]) = 0 := sampA_ok (by decide) (by decide) (by decide)
  refine fn_spec Tryz.func3 rfl rfl Tryz.ntmps3 rfl (by kernel_rfl) rfl rfl ?_
  refine k_sample [5, 2] rfl (by decide) (by decide) ?_
  refine k_Ring (A := (sampA [5, 2])) (by assumption) fun n20 hk_20_1 => ?_
  refine fork (fun e1 => ?_) (fun e1 => ?_)
  · have f26 : n20 ≠ 0 := bne_t e1
    exfalso
    exact f26 (by rw [hk_20_1]; exact a52)
  · have f26 : ¬ (n20 ≠ 0) := fun hh => hh (bne_f e1)
    refine use ((num_nat 3 (by decide))) rfl ?_
    refine k_neq_rat_t ring52.1 ?_
    refine use ((num_nat 7 (by decide))) rfl ?_
    refine k_neq_rat_t ring52.2 ?_
    refine ⟨by kernel_rfl, ?_⟩
    refine ⟨fun e => absurd e (by decide), fun _ => ?_⟩
    refine k_ArmFault (A := A) (by assumption) fun n37 hk_37_1 => ?_
    refine k_Ring (A := A) (by assumption) fun n40 hk_40_1 => ?_
    refine ⟨fun e4 => ?_, fun e4 => ?_⟩
    · have f45 : n37 ≠ 0 := bne_t e4
      refine fork (fun e5 => ?_) (fun e5 => ?_)
      · have f49 : n40 = n37 := beq_t e5
        refine k_eql_rat_t (ringN_no (by rw [← hk_37_1]; exact f45)) ?_
        refine k_eql_rat_t (lenV_no (by rw [← hk_37_1]; exact f45)) ?_
        refine Eq.trans (b := bool true) ?_ rfl
        rfl
      · have f49 : ¬ (n40 = n37) := beq_f e5
        exfalso
        exact f49 (by rw [hk_40_1, hk_37_1])
    · have f45 : ¬ (n37 ≠ 0) := fun hh => hh (bne_f e4)
      have hA0 : armE A = 0 := by rw [← hk_37_1]; exact Classical.not_not.1 f45
      have hn3 := (armE_ok hA0).1
      have hlz := lenQ_z hA0 A.links.length (Nat.le_refl _)
      refine k_N3 (0) (by omega) (by omega) fun q59 h59 z59 => ?_
      refine k_N3 (0) (by omega) (by omega) fun q60 h60 z60 => ?_
      have e59 : q59 = ringQ A (lenQ A A.links.length) 0 := h59
      have e60 : q60 = lenQ A 0 := h60
      refine ⟨Nat, fun i => [(1, .val (.one (.ptr 1 0))), (7, .val (.one (.ptr 7 0))), (8, .val (.one (.ptr 8 0))), (9, int n40), (10, .val (.one (.ptr 10 0))), (11, .val (.one (.ptr 11 0))), (62, .val (.one (.d (.list (List.map lk A.links))))), (63, int ((List.map lk A.links).length : Int)), (64, int (i : Int))],
        fun i => [(1, .var 32 [.d (.v (.string A.name)), .d (.v (.bool A.bx.s)), .d (.v (.string A.bx.a)), .d (.v (.string A.bx.d)), .d (.v (.bool A.by'.s)), .d (.v (.string A.by'.a)), .d (.v (.string A.by'.d)), .d (.v (.bool (A.bh))), .d (.v (.bool A.bt.s)), .d (.v (.string A.bt.a)), .d (.v (.string A.bt.d)), .d (.list (List.map lk A.links))]), (7, .var 23 [.d (.v (.bool (ringN A).s)), .d (.v (.string (ringN A).a)), .d (.v (.string (ringN A).d))]), (8, .var 23 [.d (.v (.bool (lenV A).s)), .d (.v (.string (lenV A).a)), .d (.v (.string (lenV A).d))]), (10, .var 42 [.d (.v (.bool (decide ((ringQ A (lenQ A A.links.length) i).num < 0)))), .d (.list (W (w32 (ringQ A (lenQ A A.links.length) i).num.natAbs))), .d (.list (W (w32 (ringQ A (lenQ A A.links.length) i).den)))]), (11, .var 42 [.d (.v (.bool (decide ((lenQ A i).num < 0)))), .d (.list (W (w32 (lenQ A i).num.natAbs))), .d (.list (W (w32 (lenQ A i).den)))])], fun i => i ≤ A.links.length, fun i => A.links.length - i, 0, ?_, Nat.zero_le _, fun i hs => ?_⟩
      · constructor <;> (repeat' (first | exact rfl | exact True.intro | exact ⟨_, _, rfl⟩ | exact (by decide) | apply And.intro))
        all_goals first
          | exact congrArg (fun q : Rat => D.v (.bool (decide (q.num < 0)))) e59
          | exact congrArg (fun q : Rat => D.v (.bool (decide (q.num < 0)))) e59.symm
          | exact congrArg (fun q : Rat => D.list (W (w32 q.num.natAbs))) e59
          | exact congrArg (fun q : Rat => D.list (W (w32 q.num.natAbs))) e59.symm
          | exact congrArg (fun q : Rat => D.list (W (w32 q.den))) e59
          | exact congrArg (fun q : Rat => D.list (W (w32 q.den))) e59.symm
          | exact congrArg (fun q : Rat => D.v (.bool (decide (q.num < 0)))) e60
          | exact congrArg (fun q : Rat => D.v (.bool (decide (q.num < 0)))) e60.symm
          | exact congrArg (fun q : Rat => D.list (W (w32 q.num.natAbs))) e60
          | exact congrArg (fun q : Rat => D.list (W (w32 q.num.natAbs))) e60.symm
          | exact congrArg (fun q : Rat => D.list (W (w32 q.den))) e60
          | exact congrArg (fun q : Rat => D.list (W (w32 q.den))) e60.symm
          | exact congrArg (fun n : Int => D.v (.int .i64 n)) (by omega)
          | (simp; done)
      have hr := ringQ_z hA0 (s := (lenQ A A.links.length)) (by omega) i
      have hlq := lenQ_z hA0 i (by omega)
      refine ⟨fun e8 => ?_, fun e8 => ?_⟩
      · have f65 : (i : Int) < ((List.map lk A.links).length : Int) := of_decide_eq_true e8
        obtain ⟨x67, hx67⟩ : ∃ vv, A.links[i]? = some vv := ⟨_, List.getElem?_eq_getElem (by first | omega | exact Nat.mod_lt _ (by omega))⟩
        obtain ⟨hs1, hs2, hs3, hs4, hs5, hs6, hs7⟩ := z6 x67 (List.mem_of_getElem? hx67)
        have hlx67 := lenAt_is hx67
        have hsmx67 := smallP_z (link_small hA0 (List.mem_of_getElem? hx67)).1
        refine k_ix i [D.v (.bool x67.len.s), D.v (.string x67.len.a), D.v (.string x67.len.d), D.v (.bool x67.low.s), D.v (.string x67.low.a), D.v (.string x67.low.d), D.v (.bool x67.high.s), D.v (.string x67.high.a), D.v (.string x67.high.d), D.v (.bool x67.speed.s), D.v (.string x67.speed.a), D.v (.string x67.speed.d), D.v (.bool x67.brake.s), D.v (.string x67.brake.a), D.v (.string x67.brake.d), D.list (List.map rdv x67.shape)] (by first | rfl | omega | (rw [wrap64 _ (by omega) (by omega)]; omega)) (map_at hx67) rfl ?_
        refine k_From3 (x := x67.len) (by omega) fun q71 h71 z71 => ?_
        refine k_Add3 (p := (lenQ A i)) (q := q71) (by omega) (by omega) fun q74 h74 z74 => ?_
        have e71 : q71 = restQ A i 0 := by rw [h71, ← hlx67]; rfl
        refine ⟨Nat, fun k => [(1, .val (.one (.ptr 1 0))), (7, .val (.one (.ptr 7 0))), (8, .val (.one (.ptr 8 0))), (9, int n40), (10, .val (.one (.ptr 10 0))), (11, .val (.one (.ptr 11 0))), (12, int (i : Int)), (14, .val (.one (.ptr 14 0))), (62, .val (.one (.d (.list (List.map lk A.links))))), (63, int ((List.map lk A.links).length : Int)), (64, int (i : Int)), (76, .val (.one (.d (.list (List.map lk A.links))))), (77, int ((List.map lk A.links).length : Int)), (78, int (k : Int))],
          fun k => [(1, .var 32 [.d (.v (.string A.name)), .d (.v (.bool A.bx.s)), .d (.v (.string A.bx.a)), .d (.v (.string A.bx.d)), .d (.v (.bool A.by'.s)), .d (.v (.string A.by'.a)), .d (.v (.string A.by'.d)), .d (.v (.bool (A.bh))), .d (.v (.bool A.bt.s)), .d (.v (.string A.bt.a)), .d (.v (.string A.bt.d)), .d (.list (List.map lk A.links))]), (7, .var 23 [.d (.v (.bool (ringN A).s)), .d (.v (.string (ringN A).a)), .d (.v (.string (ringN A).d))]), (8, .var 23 [.d (.v (.bool (lenV A).s)), .d (.v (.string (lenV A).a)), .d (.v (.string (lenV A).d))]), (10, .var 42 [.d (.v (.bool (decide ((ringQ A (lenQ A A.links.length) i).num < 0)))), .d (.list (W (w32 (ringQ A (lenQ A A.links.length) i).num.natAbs))), .d (.list (W (w32 (ringQ A (lenQ A A.links.length) i).den)))]), (11, .var 42 [.d (.v (.bool (decide (q74.num < 0)))), .d (.list (W (w32 q74.num.natAbs))), .d (.list (W (w32 q74.den)))]), (14, .var 42 [.d (.v (.bool (decide ((restQ A i k).num < 0)))), .d (.list (W (w32 (restQ A i k).num.natAbs))), .d (.list (W (w32 (restQ A i k).den)))])], fun k => k ≤ A.links.length, fun k => A.links.length - k, 0, ?_, Nat.zero_le _, fun k hs => ?_⟩
        · constructor <;> (repeat' (first | exact rfl | exact True.intro | exact ⟨_, _, rfl⟩ | exact (by decide) | apply And.intro))
          all_goals first
            | exact congrArg (fun q : Rat => D.v (.bool (decide (q.num < 0)))) e71
            | exact congrArg (fun q : Rat => D.v (.bool (decide (q.num < 0)))) e71.symm
            | exact congrArg (fun q : Rat => D.list (W (w32 q.num.natAbs))) e71
            | exact congrArg (fun q : Rat => D.list (W (w32 q.num.natAbs))) e71.symm
            | exact congrArg (fun q : Rat => D.list (W (w32 q.den))) e71
            | exact congrArg (fun q : Rat => D.list (W (w32 q.den))) e71.symm
            | exact congrArg (fun n : Int => D.v (.int .i64 n)) (by omega)
            | (simp; done)
        have hrk := restQ_z hA0 i k
        refine ⟨fun e9 => ?_, fun e9 => ?_⟩
        · have f79 : (k : Int) < ((List.map lk A.links).length : Int) := of_decide_eq_true e9
          obtain ⟨x81, hx81⟩ : ∃ vv, A.links[k]? = some vv := ⟨_, List.getElem?_eq_getElem (by first | omega | exact Nat.mod_lt _ (by omega))⟩
          obtain ⟨hs1, hs2, hs3, hs4, hs5, hs6, hs7⟩ := z6 x81 (List.mem_of_getElem? hx81)
          have hlx81 := lenAt_is hx81
          have hsmx81 := smallP_z (link_small hA0 (List.mem_of_getElem? hx81)).1
          refine k_ix k [D.v (.bool x81.len.s), D.v (.string x81.len.a), D.v (.string x81.len.d), D.v (.bool x81.low.s), D.v (.string x81.low.a), D.v (.string x81.low.d), D.v (.bool x81.high.s), D.v (.string x81.high.a), D.v (.string x81.high.d), D.v (.bool x81.speed.s), D.v (.string x81.speed.a), D.v (.string x81.speed.d), D.v (.bool x81.brake.s), D.v (.string x81.brake.a), D.v (.string x81.brake.d), D.list (List.map rdv x81.shape)] (by first | rfl | omega | (rw [wrap64 _ (by omega) (by omega)]; omega)) (map_at hx81) rfl ?_
          refine ⟨fun e10 => ?_, fun e10 => ?_⟩
          · have f85 : (k : Int) ≠ (i : Int) := bne_t e10
            refine k_From3 (x := x81.len) (by omega) fun q89 h89 z89 => ?_
            refine k_Sub3 (p := (restQ A i k)) (q := q89) (by omega) (by omega) fun q90 h90 z90 => ?_
            refine ⟨by kernel_rfl, ?_⟩
            have e14 : restQ A i k - lenAt A k = restQ A i (k + 1) := (if_neg (by omega)).symm
            have e90 : q90 = restQ A i (k + 1) := by rw [h90, ← e14, h89, hlx81]
            refine ⟨k + 1, by omega, by simp only; omega, ?_⟩
            constructor <;> (repeat' (first | exact rfl | exact True.intro | apply And.intro))
            all_goals first
              | exact congrArg (fun q : Rat => D.v (.bool (decide (q.num < 0)))) e90
              | exact congrArg (fun q : Rat => D.v (.bool (decide (q.num < 0)))) e90.symm
              | exact congrArg (fun q : Rat => D.list (W (w32 q.num.natAbs))) e90
              | exact congrArg (fun q : Rat => D.list (W (w32 q.num.natAbs))) e90.symm
              | exact congrArg (fun q : Rat => D.list (W (w32 q.den))) e90
              | exact congrArg (fun q : Rat => D.list (W (w32 q.den))) e90.symm
              | exact congrArg (fun n : Int => D.v (.int .i64 n)) (by rw [wrap64 _ (by omega) (by omega)]; omega)
              | exact congrArg (fun n : Int => D.v (.int .i64 n)) (by omega)
          · have f85 : ¬ ((k : Int) ≠ (i : Int)) := fun hh => hh (bne_f e10)
            have e14 : restQ A i k = restQ A i (k + 1) := (if_pos (by omega)).symm
            refine ⟨k + 1, by omega, by simp only; omega, ?_⟩
            constructor <;> (repeat' (first | exact rfl | exact True.intro | apply And.intro))
            all_goals first
              | exact congrArg (fun q : Rat => D.v (.bool (decide (q.num < 0)))) e14
              | exact congrArg (fun q : Rat => D.v (.bool (decide (q.num < 0)))) e14.symm
              | exact congrArg (fun q : Rat => D.list (W (w32 q.num.natAbs))) e14
              | exact congrArg (fun q : Rat => D.list (W (w32 q.num.natAbs))) e14.symm
              | exact congrArg (fun q : Rat => D.list (W (w32 q.den))) e14
              | exact congrArg (fun q : Rat => D.list (W (w32 q.den))) e14.symm
              | exact congrArg (fun n : Int => D.v (.int .i64 n)) (by rw [wrap64 _ (by omega) (by omega)]; omega)
              | exact congrArg (fun n : Int => D.v (.int .i64 n)) (by omega)
        · have f79 : ¬ ((k : Int) < ((List.map lk A.links).length : Int)) := of_decide_eq_false e9
          refine k_Cmp3 (p := (restQ A i k)) (q := (ringQ A (lenQ A A.links.length) i)) (by omega) (by omega) fun n94 h94 => ?_
          refine ⟨fun e11 => ?_, fun e11 => ?_⟩
          · have f95 : (ringQ A (lenQ A A.links.length) i) < (restQ A i k) := (c3_gt h94).1 (of_decide_eq_true e11)
            have hk0 : k = A.links.length := by omega
            have hra := restQ_all A (i := i) (by omega)
            have e11 : lenQ A i + lenAt A i = lenQ A (i + 1) := (lenQ_s A i (by omega)).symm
            have e74 : q74 = lenQ A (i + 1) := by rw [h74, ← e11, h71, hlx67]
            have e10 : restQ A i k = ringQ A (lenQ A A.links.length) (i + 1) := by
              rw [hk0, hra] at f95
              rw [hk0, hra]
              exact (if_neg (Rat.not_le.2 f95)).symm
            refine ⟨i + 1, by omega, by simp only; omega, ?_⟩
            constructor <;> (repeat' (first | exact rfl | exact True.intro | apply And.intro))
            all_goals first
              | exact congrArg (fun q : Rat => D.v (.bool (decide (q.num < 0)))) e10
              | exact congrArg (fun q : Rat => D.v (.bool (decide (q.num < 0)))) e10.symm
              | exact congrArg (fun q : Rat => D.list (W (w32 q.num.natAbs))) e10
              | exact congrArg (fun q : Rat => D.list (W (w32 q.num.natAbs))) e10.symm
              | exact congrArg (fun q : Rat => D.list (W (w32 q.den))) e10
              | exact congrArg (fun q : Rat => D.list (W (w32 q.den))) e10.symm
              | exact congrArg (fun q : Rat => D.v (.bool (decide (q.num < 0)))) e74
              | exact congrArg (fun q : Rat => D.v (.bool (decide (q.num < 0)))) e74.symm
              | exact congrArg (fun q : Rat => D.list (W (w32 q.num.natAbs))) e74
              | exact congrArg (fun q : Rat => D.list (W (w32 q.num.natAbs))) e74.symm
              | exact congrArg (fun q : Rat => D.list (W (w32 q.den))) e74
              | exact congrArg (fun q : Rat => D.list (W (w32 q.den))) e74.symm
              | exact congrArg (fun n : Int => D.v (.int .i64 n)) (by rw [wrap64 _ (by omega) (by omega)]; omega)
              | exact congrArg (fun n : Int => D.v (.int .i64 n)) (by omega)
          · have f95 : ¬ ((ringQ A (lenQ A A.links.length) i) < (restQ A i k)) := fun hh => of_decide_eq_false e11 ((c3_gt h94).2 hh)
            have hk0 : k = A.links.length := by omega
            have hra := restQ_all A (i := i) (by omega)
            have e11 : lenQ A i + lenAt A i = lenQ A (i + 1) := (lenQ_s A i (by omega)).symm
            have e74 : q74 = lenQ A (i + 1) := by rw [h74, ← e11, h71, hlx67]
            have e10 : ringQ A (lenQ A A.links.length) i = ringQ A (lenQ A A.links.length) (i + 1) := by
              rw [hk0, hra] at f95
              exact (if_pos (Rat.not_lt.1 f95)).symm
            refine ⟨i + 1, by omega, by simp only; omega, ?_⟩
            constructor <;> (repeat' (first | exact rfl | exact True.intro | apply And.intro))
            all_goals first
              | exact congrArg (fun q : Rat => D.v (.bool (decide (q.num < 0)))) e10
              | exact congrArg (fun q : Rat => D.v (.bool (decide (q.num < 0)))) e10.symm
              | exact congrArg (fun q : Rat => D.list (W (w32 q.num.natAbs))) e10
              | exact congrArg (fun q : Rat => D.list (W (w32 q.num.natAbs))) e10.symm
              | exact congrArg (fun q : Rat => D.list (W (w32 q.den))) e10
              | exact congrArg (fun q : Rat => D.list (W (w32 q.den))) e10.symm
              | exact congrArg (fun q : Rat => D.v (.bool (decide (q.num < 0)))) e74
              | exact congrArg (fun q : Rat => D.v (.bool (decide (q.num < 0)))) e74.symm
              | exact congrArg (fun q : Rat => D.list (W (w32 q.num.natAbs))) e74
              | exact congrArg (fun q : Rat => D.list (W (w32 q.num.natAbs))) e74.symm
              | exact congrArg (fun q : Rat => D.list (W (w32 q.den))) e74
              | exact congrArg (fun q : Rat => D.list (W (w32 q.den))) e74.symm
              | exact congrArg (fun n : Int => D.v (.int .i64 n)) (by rw [wrap64 _ (by omega) (by omega)]; omega)
              | exact congrArg (fun n : Int => D.v (.int .i64 n)) (by omega)
      · have f65 : ¬ ((i : Int) < ((List.map lk A.links).length : Int)) := of_decide_eq_false e8
        have hii : i = A.links.length := by omega
        refine fork (fun e12 => ?_) (fun e12 => ?_)
        · have f100 : n40 = 0 := beq_t e12
          refine k_To3 (q := (ringQ A (lenQ A A.links.length) i)) (by omega) ?_
          refine k_eql_rat_t (by rw [ringN_ok hA0, hii]) ?_
          refine k_To3 (q := (lenQ A i)) (by omega) ?_
          refine k_eql_rat_t (by rw [lenV_ok hA0, hii]) ?_
          refine ⟨by kernel_rfl, ?_⟩
          refine Eq.trans (b := bool true) ?_ rfl
          rfl
        · have f100 : ¬ (n40 = 0) := beq_f e12
          exfalso
          exact f100 (by rw [hk_40_1]; exact hA0)
theorem inverseRings_walk (v0 : Value) (A0 : ArmV) (N : Nat) (w : World) (_ : 1 ≤ N) (hN : N ≤ 1048576) (h0 : DenAV w (fun b => b < w.heap.size) noBs noMem v0 (arm A0)) (u0 : A0.zs N) (hT : Tab w) :
    Calls Tryz.prog 3 #[v0] w fun e w' => e = .returned (.bool true) ∧ Below w.heap.size w w' :=
  calls_of_specI (I := fun b => b < w.heap.size) (inverseRings_spec A0 (ok_of_zs u0 (by omega))) rfl hT (fun _ h => h)
    ((pvl_rel (vs := []) rfl).cons h0)
end
end Go.Proofs.YtjhoddlhdoiifaaGreatDoor.eng
