/- Contract of gantlaw3.ForceBounds: it returns true. Printed by wip/gp_bound.py. -/
import Derived.Test.YtjhoddlhdoiifaaGreatDoorGrpV
namespace Go.Proofs.YtjhoddlhdoiifaaGreatDoor.eng
open Go.RowKit num mem seg q held ratA ratB ratC ratD ratE vars ratF argopen trq
section
variable {K : AV → Prop}
theorem bd3 {s : Rat × Rat} (h : (loadsV (sampA [3]) [(cn n0Q, cn n1Q)] n0Q n1Q)[0]? = some s) : cn s.1 = cn n0Q ∧ cn s.2 = cn ((3 : Nat) : Rat) := by
  have c3 : hasE (sampA [3]) (([(cn n0Q, cn n1Q)] : List (RV × RV)).length : Int) = 0 := sampA_has (by decide) (by decide) (by decide) rfl
  rw [loadsV_ok c3] at h
  have hb : baseF (sampA [3]) = ⟨n0Q, n0Q, cosq false n0Q, sinq n0Q⟩ := by
    unfold baseF
    rw [show (sampA [3]).bx.q = n0Q from cn_q _, show (sampA [3]).by'.q = n0Q from cn_q _, show (sampA [3]).bt.q = n0Q from cn_q _]; rfl
  have hle : n0Q ≤ n1Q := by decide +kernel
  have e1 : loAt [(cn n0Q, cn n1Q)] 0 = n0Q := (spAt_is rfl).1.trans (slo_cn hle)
  have e2 : hiAt [(cn n0Q, cn n1Q)] 0 = n1Q := (spAt_is rfl).2.trans (shi_cn hle)
  have l0 : lenAt (sampA [3]) 0 = ((3 : Nat) : Rat) := (lenAt_is rfl).trans (cn_q _)
  have es := (loadsL_at h).1
  have e : sumB (sampA [3]) [(cn n0Q, cn n1Q)] n0Q n1Q ((sampA [3]).links.length - 0) = (((0 : Int) : Rat) + mulLo (lenAt (sampA [3]) 0) (lenAt (sampA [3]) 0) (ldT (turnL (tightL (baseF (sampA [3]))) (cs3 (loAt [(cn n0Q, cn n1Q)] 0) (hiAt [(cn n0Q, cn n1Q)] 0)) (sn3 (loAt [(cn n0Q, cn n1Q)] 0) (hiAt [(cn n0Q, cn n1Q)] 0))) n0Q n1Q).1 (ldT (turnL (tightL (baseF (sampA [3]))) (cs3 (loAt [(cn n0Q, cn n1Q)] 0) (hiAt [(cn n0Q, cn n1Q)] 0)) (sn3 (loAt [(cn n0Q, cn n1Q)] 0) (hiAt [(cn n0Q, cn n1Q)] 0))) n0Q n1Q).2,
      ((0 : Int) : Rat) + mulHi (lenAt (sampA [3]) 0) (lenAt (sampA [3]) 0) (ldT (turnL (tightL (baseF (sampA [3]))) (cs3 (loAt [(cn n0Q, cn n1Q)] 0) (hiAt [(cn n0Q, cn n1Q)] 0)) (sn3 (loAt [(cn n0Q, cn n1Q)] 0) (hiAt [(cn n0Q, cn n1Q)] 0))) n0Q n1Q).1 (ldT (turnL (tightL (baseF (sampA [3]))) (cs3 (loAt [(cn n0Q, cn n1Q)] 0) (hiAt [(cn n0Q, cn n1Q)] 0)) (sn3 (loAt [(cn n0Q, cn n1Q)] 0) (hiAt [(cn n0Q, cn n1Q)] 0))) n0Q n1Q).2) := rfl
  rw [e, hb, e1, e2, l0] at es
  rw [es]
  refine ⟨congrArg cn ?_, congrArg cn ?_⟩ <;> decide +kernel
set_option maxRecDepth 100000 in
theorem fb1_spec (p q : Rat) (hp : qs p ≤ 536870912) (hq : qs q ≤ 536870912) : Spec Tryz.prog Tab 55 [pair (cn p) (cn q), q3p p q] (bool true) := by
  refine fn_spec Tryz.func55 rfl rfl Tryz.ntmps55 rfl (by kernel_rfl) rfl rfl ?_
  refine k_STo (p := p) (q := q) (by omega) (by omega) ?_
  refine k_eql_span_t ⟨rfl, rfl⟩ ?_
  refine ⟨by kernel_rfl, ?_⟩
  refine Eq.trans (b := bool true) ?_ rfl
  rfl
set_option maxRecDepth 100000 in
theorem fbE_spec (l : List (Rat × Rat)) (hl : ∀ p, p ∈ l → qs p.1 ≤ 8388608 ∧ qs p.2 ≤ 8388608) (hn : l.length ≤ 1073741824) : Spec Tryz.prog Tab 54 [.val (.one (.d (.list (List.map rvS l)))), .val (.one (.d (.list (List.map rqS l)))), fv 55] (bool true) := by
  have hL1 : (List.map rvS l).length = l.length := List.length_map ..
  have hL2 : (List.map rqS l).length = l.length := List.length_map ..
  refine fn_spec Tryz.func54 rfl rfl Tryz.ntmps54 rfl (by kernel_rfl) rfl rfl ?_
  refine ⟨fun e1 => ?_, fun e1 => ?_⟩
  · have f14 : ((List.map rvS l).length : Int) ≠ ((List.map rqS l).length : Int) := bne_t e1
    exfalso
    exact f14 (by rw [hL1, hL2])
  · have f14 : ¬ (((List.map rvS l).length : Int) ≠ ((List.map rqS l).length : Int)) := fun hh => hh (bne_f e1)
    refine ⟨Nat, fun i => [(1, .val (.one (.d (.list (List.map rqS l))))), (2, fv 55), (15, .val (.one (.d (.list (List.map rvS l))))), (16, int ((List.map rvS l).length : Int)), (17, int (i : Int))],
      fun i => [], fun i => i ≤ l.length, fun i => l.length - i, 0, ?_, Nat.zero_le _, fun i hs => ?_⟩
    · constructor <;> (repeat' (first | exact rfl | exact True.intro | exact ⟨_, _, rfl⟩ | exact (by decide) | apply And.intro))
      all_goals first | exact congrArg (fun n : Int => D.v (.int .i64 n)) (by omega) | exact congrArg (fun n : Int => D.v (.int .i64 n)) (by rw [wrap64 _ (by omega) (by omega)]; omega) | (simp; done)
    refine ⟨fun e2 => ?_, fun e2 => ?_⟩
    · have f18 : (i : Int) < ((List.map rvS l).length : Int) := of_decide_eq_true e2
      refine get_ex (l := l) (i := i) (by first | omega | exact Nat.mod_lt _ (by omega)) fun x20 hx20 => ?_
      obtain ⟨w1x20, w2x20⟩ := hl x20 (List.mem_of_getElem? hx20)
      refine k_ix i [D.v (.bool (cn x20.1).s), D.v (.string (cn x20.1).a), D.v (.string (cn x20.1).d), D.v (.bool (cn x20.2).s), D.v (.string (cn x20.2).a), D.v (.string (cn x20.2).d)] (by first | rfl | omega | (rw [wrap64 _ (by omega) (by omega)]; omega)) (map_at hx20) rfl ?_
      refine k_ix i [D.v (.bool (decide (x20.1.num < 0))), D.list (W (w32 x20.1.num.natAbs)), D.list (W (w32 x20.1.den)), D.v (.bool (decide (x20.2.num < 0))), D.list (W (w32 x20.2.num.natAbs)), D.list (W (w32 x20.2.den))] (by first | rfl | omega | (rw [wrap64 _ (by omega) (by omega)]; omega)) (map_at hx20) rfl ?_
      refine use (fb1_spec x20.1 x20.2 (by omega) (by omega)) rfl ?_
      refine ⟨fun e => absurd e (by decide), fun _ => ?_⟩
      refine ⟨i + 1, by omega, by simp only; omega, ?_⟩
      constructor <;> (repeat' (first | exact rfl | exact True.intro | apply And.intro))
      all_goals first
        | exact congrArg (fun n : Int => D.v (.int .i64 n)) (by rw [wrap64 _ (by omega) (by omega)]; omega)
        | exact congrArg (fun n : Int => D.v (.int .i64 n)) (by omega)
    · have f18 : ¬ ((i : Int) < ((List.map rvS l).length : Int)) := of_decide_eq_false e2
      refine Eq.trans (b := bool true) ?_ rfl
      rfl
theorem fbE2_spec {l m : List (Rat × Rat)} (e : m = l) (hl : ∀ p, p ∈ l → qs p.1 ≤ 8388608 ∧ qs p.2 ≤ 8388608) (hn : l.length ≤ 1073741824) : Spec Tryz.prog Tab 54 [.val (.one (.d (.list (List.map rvS m)))), .val (.one (.d (.list (List.map rqS l)))), fv 55] (bool true) := by
  subst e; exact fbE_spec m hl hn
set_option maxHeartbeats 8000000 in
set_option maxRecDepth 100000 in
theorem forceBounds_spec (A : ArmV) (Q : List (RV × RV)) (R : List RV) (x y : RV) (hA : A.ok) (hQ : ∀ p, p ∈ Q → p.1.z ≤ 1048576 ∧ p.2.z ≤ 1048576) (hx : x.z ≤ 1048576) (hy : y.z ≤ 1048576) (hR : ∀ r, r ∈ R → r.z ≤ 1048576) : Spec Tryz.prog Tab 8 [.val (.agg [.d (.v (.string A.name)), .d (.v (.bool A.bx.s)), .d (.v (.string A.bx.a)), .d (.v (.string A.bx.d)), .d (.v (.bool A.by'.s)), .d (.v (.string A.by'.a)), .d (.v (.string A.by'.d)), .d (.v (.bool (A.bh))), .d (.v (.bool A.bt.s)), .d (.v (.string A.bt.a)), .d (.v (.string A.bt.d)), .d (.list (List.map lk A.links))]), .val (.one (.d (.list (List.map rdv Q)))), pair x y, .val (.one (.d (.list (List.map rd R))))] (bool true) := by
  have hA2 := hA
  have hL : (List.map lk A.links).length = A.links.length := List.length_map ..
  have hLq : (List.map rdv Q).length = Q.length := List.length_map ..
  have hx1 := x.z1
  have hy1 := y.z1
  have hLr : (List.map rd R).length = R.length := List.length_map ..
  have zn0 : qs n0Q ≤ 8 := by decide +kernel
  have zn1 : qs n1Q ≤ 8 := by decide +kernel
  have o3 : (sampA [3]).ok := ok_of_zs (sampA_zs (by decide) (by decide)) (by decide)
  have a3 : armE (sampA [3]) = 0 := sampA_ok (by decide) (by decide) (by decide)
  have b3 : ∀ p, p ∈ [(cn n0Q, cn n1Q)] → p.1.z ≤ 1048576 ∧ p.2.z ≤ 1048576 := fun p hp => by
    obtain rfl := List.mem_singleton.1 hp
    exact ⟨(by decide +kernel : qs n0Q ≤ 1048576), (by decide +kernel : qs n1Q ≤ 1048576)⟩
  have c3 : hasE (sampA [3]) (([(cn n0Q, cn n1Q)] : List (RV × RV)).length : Int) = 0 := sampA_has (by decide) (by decide) (by decide) rfl
  have hl3 : (List.map rvS (loadsV (sampA [3]) [(cn n0Q, cn n1Q)] n0Q n1Q)).length = 1 := by rw [List.length_map, loadsV_ok c3, loadsL_len]; rfl
  refine fn_spec Tryz.func8 rfl rfl Tryz.ntmps8 rfl (by kernel_rfl) rfl rfl ?_
  refine use (num_0) rfl ?_
  refine use (num_1) rfl ?_
  refine k_sample [3] rfl (by decide) (by decide) ?_
  refine use (pt_of num_0 num_1) rfl ?_
  refine k_BoundsC (A := (sampA [3])) (Q := [(cn n0Q, cn n1Q)]) (x := n0Q) (y := n1Q) (by assumption) (by assumption) (by omega) (by omega) fun n31 hk_31_1 => ?_
  refine fork (fun e1 => ?_) (fun e1 => ?_)
  · have f36 : n31 ≠ 0 := bne_t e1
    exfalso
    exact f36 (by rw [hk_31_1]; exact c3)
  · have f36 : ¬ (n31 ≠ 0) := fun hh => hh (bne_f e1)
    refine fork (fun e2 => ?_) (fun e2 => ?_)
    · have f41 : ((List.map rvS (loadsV (sampA [3]) [(cn n0Q, cn n1Q)] n0Q n1Q)).length : Int) ≠ 1 := bne_t e2
      exfalso
      exact f41 (by rw [hl3]; rfl)
    · have f41 : ¬ (((List.map rvS (loadsV (sampA [3]) [(cn n0Q, cn n1Q)] n0Q n1Q)).length : Int) ≠ 1) := fun hh => hh (bne_f e2)
      refine get_ex (l := (loadsV (sampA [3]) [(cn n0Q, cn n1Q)] n0Q n1Q)) (i := 0) (by rw [loadsV_ok c3, loadsL_len]; decide) fun x43 hx43 => ?_
      refine k_ix 0 [D.v (.bool (cn x43.1).s), D.v (.string (cn x43.1).a), D.v (.string (cn x43.1).d), D.v (.bool (cn x43.2).s), D.v (.string (cn x43.2).a), D.v (.string (cn x43.2).d)] (by first | rfl | omega | (rw [wrap64 _ (by omega) (by omega)]; omega)) (map_at hx43) rfl ?_
      refine use (num_0) rfl ?_
      refine use ((num_nat 3 (by decide))) rfl ?_
      refine k_neq_span_t (bd3 hx43) ?_
      refine ⟨by kernel_rfl, ?_⟩
      refine ⟨fun e => absurd e (by decide), fun _ => ?_⟩
      refine k_HasFault (A := A) (n := ((List.map rdv Q).length : Int)) (by assumption) fun n53 hk_53_1 => ?_
      rw [List.length_map] at hk_53_1
      refine k_Bounds (A := A) (Q := Q) (x := x) (y := y) (by assumption) (by assumption) (by omega) (by omega) fun n58 hk_58_1 => ?_
      refine k_Holds (A := A) (Q := Q) (R := R) (x := x) (y := y) (by assumption) (by assumption) (by omega) (by omega) (by assumption) fun b66 n66 hb66 hk_66_1 => ?_
      refine ⟨fun e4 => ?_, fun e4 => ?_⟩
      · have f70 : n53 ≠ 0 := bne_t e4
        have hno : ¬ hasE A (Q.length : Int) = 0 := by rw [← hk_53_1]; exact f70
        refine fork (fun e5 => ?_) (fun e5 => ?_)
        · have f74 : n58 = n53 := beq_t e5
          refine fork (fun e6 => ?_) (fun e6 => ?_)
          · have f79 : n66 = n53 := beq_t e6
            refine fork (fun e7 => ?_) (fun e7 => ?_)
            · have f84 : ((List.map rvS (loadsV A Q x.q y.q)).length : Int) = 0 := beq_t e7
              refine Eq.trans (b := bool (!b66)) ?_ rfl
              rw [hb66, hldB_no fun g => hno g.1]; rfl
            · have f84 : ¬ (((List.map rvS (loadsV A Q x.q y.q)).length : Int) = 0) := beq_f e7
              exfalso
              exact f84 (by rw [loadsV_no hno]; rfl)
          · have f79 : ¬ (n66 = n53) := beq_f e6
            exfalso
            exact f79 (by rw [hk_66_1, hldE_2 hno, hk_53_1])
        · have f74 : ¬ (n58 = n53) := beq_f e5
          exfalso
          exact f74 (by rw [hk_58_1, hk_53_1])
      · have f70 : ¬ (n53 ≠ 0) := fun hh => hh (bne_f e4)
        have h0 : hasE A (Q.length : Int) = 0 := by rw [← hk_53_1]; exact Classical.not_not.1 f70
        have hA0 := (hasE_ok.1 h0).1
        have hlen0 := (hasE_ok.1 h0).2
        have hlen : Q.length = A.links.length := by omega
        have hn3 := (armE_ok hA0).1
        have hLm := loadsL_len A Q x.q y.q
        have hLM : (List.map rqS (loadsL A Q x.q y.q)).length = A.links.length := by rw [List.length_map, hLm]
        have hlz : ∀ p, p ∈ loadsL A Q x.q y.q → qs p.1 ≤ 8388608 ∧ qs p.2 ≤ 8388608 := fun p hp => by
          obtain ⟨i, hi⟩ := List.mem_iff_getElem?.1 hp
          obtain ⟨rfl, h⟩ := loadsL_at hi
          exact sumB_z3 hA0 Q (by omega) (by omega) (by omega)
        refine k_RLoads (A := A) (Q := Q) (x := x) (y := y) (by assumption) hA0 hlen (by assumption) (by omega) (by omega) ?_
        refine fork (fun e8 => ?_) (fun e8 => ?_)
        · have f94 : n58 ≠ 0 := bne_t e8
          exfalso
          exact f94 (by rw [hk_58_1]; exact h0)
        · have f94 : ¬ (n58 ≠ 0) := fun hh => hh (bne_f e8)
          refine use (fbE2_spec (l := loadsL A Q x.q y.q) (loadsV_ok h0) hlz (by rw [loadsL_len]; omega)) rfl ?_
          refine ⟨fun e => absurd e (by decide), fun _ => ?_⟩
          refine ⟨fun e9 => ?_, fun e9 => ?_⟩
          · have f104 : ((List.map rd R).length : Int) ≠ ((List.map rqS (loadsL A Q x.q y.q)).length : Int) := bne_t e9
            have hRl : ¬ R.length = A.links.length := by omega
            refine fork (fun e10 => ?_) (fun e10 => ?_)
            · have f107 : n66 = 1 := beq_t e10
              refine Eq.trans (b := bool (!b66)) ?_ rfl
              rw [hb66, hldB_no fun g => hRl g.2]; rfl
            · have f107 : ¬ (n66 = 1) := beq_f e10
              exfalso
              exact f107 (by rw [hk_66_1]; exact hldE_1 h0 hRl)
          · have f104 : ¬ (((List.map rd R).length : Int) ≠ ((List.map rqS (loadsL A Q x.q y.q)).length : Int)) := fun hh => hh (bne_f e9)
            have hRl : R.length = A.links.length := by omega
            refine ⟨Nat, fun i => [(3, .val (.one (.d (.list (List.map rd R))))), (15, bool b66), (16, int n66), (18, bool (okB (loadsL A Q x.q y.q) R i)), (111, .val (.one (.d (.list (List.map rqS (loadsL A Q x.q y.q)))))), (112, int ((List.map rqS (loadsL A Q x.q y.q)).length : Int)), (113, int (i : Int))],
              fun i => [], fun i => i ≤ A.links.length, fun i => A.links.length - i, 0, ?_, Nat.zero_le _, fun i hs => ?_⟩
            · constructor <;> (repeat' (first | exact rfl | exact True.intro | exact ⟨_, _, rfl⟩ | exact (by decide) | apply And.intro))
              all_goals first | exact congrArg (fun n : Int => D.v (.int .i64 n)) (by omega) | exact congrArg (fun n : Int => D.v (.int .i64 n)) (by rw [wrap64 _ (by omega) (by omega)]; omega) | (simp; done)
            refine ⟨fun e11 => ?_, fun e11 => ?_⟩
            · have f114 : (i : Int) < ((List.map rqS (loadsL A Q x.q y.q)).length : Int) := of_decide_eq_true e11
              refine get_ex (l := (loadsL A Q x.q y.q)) (i := i) (by first | omega | exact Nat.mod_lt _ (by omega)) fun x116 hx116 => ?_
              obtain ⟨hb1, hb2⟩ := hlz x116 (List.mem_of_getElem? hx116)
              refine k_ix i [D.v (.bool (decide (x116.1.num < 0))), D.list (W (w32 x116.1.num.natAbs)), D.list (W (w32 x116.1.den)), D.v (.bool (decide (x116.2.num < 0))), D.list (W (w32 x116.2.num.natAbs)), D.list (W (w32 x116.2.den))] (by first | rfl | omega | (rw [wrap64 _ (by omega) (by omega)]; omega)) (map_at hx116) rfl ?_
              refine get_ex (l := R) (i := i) (by first | omega | exact Nat.mod_lt _ (by omega)) fun x120 hx120 => ?_
              have hzx120 := hR x120 (List.mem_of_getElem? hx120)
              refine k_ix i [D.v (.bool x120.s), D.v (.string x120.a), D.v (.string x120.d)] (by first | rfl | omega | (rw [wrap64 _ (by omega) (by omega)]; omega)) (map_at hx120) rfl ?_
              refine k_From3 (x := x120) (by omega) fun q122 h122 z122 => ?_
              refine fork (fun e12 => ?_) (fun e12 => ?_)
              · have f124 : okB (loadsL A Q x.q y.q) R i = true := e12
                refine k_Cmp3 (p := x116.2) (q := q122) (by omega) (by omega) fun n128 h128 => ?_
                refine fork (fun e13 => ?_) (fun e13 => ?_)
                · have f131 : x116.2 ≤ q122 := (c3_le h128).1 (of_decide_eq_true e13)
                  refine k_Neg3 (q := x116.1)  fun q134 h134 z134 => ?_
                  refine k_Cmp3 (p := q134) (q := q122) (by omega) (by omega) fun n136 h136 => ?_
                  refine ⟨by kernel_rfl, ?_⟩
                  have hsl := sAt_is hx116
                  have hqr := qAt_is hx120
                  have hok : okB (loadsL A Q x.q y.q) R (i + 1) = decide (n136 ≤ 0) := by
                    unfold okB
                    rw [f124, hsl, hqr, ← h122, decide_eq_true f131, ← h134]
                    exact decide_eq_decide.2 (c3_le h136).symm
                  refine ⟨i + 1, by omega, by simp only; omega, ?_⟩
                  constructor <;> (repeat' (first | exact rfl | exact True.intro | apply And.intro))
                  all_goals first
                    | exact congrArg (fun b : Bool => D.v (.bool b)) hok
                    | exact congrArg (fun b : Bool => D.v (.bool b)) hok.symm
                    | exact congrArg (fun n : Int => D.v (.int .i64 n)) (by rw [wrap64 _ (by omega) (by omega)]; omega)
                    | exact congrArg (fun n : Int => D.v (.int .i64 n)) (by omega)
                · have f131 : ¬ (x116.2 ≤ q122) := fun hh => of_decide_eq_false e13 ((c3_le h128).2 hh)
                  refine ⟨by kernel_rfl, ?_⟩
                  have hsl := sAt_is hx116
                  have hqr := qAt_is hx120
                  have hok : okB (loadsL A Q x.q y.q) R (i + 1) = false := okB_f1 (by rw [hsl, hqr, ← h122]; exact f131)
                  refine ⟨i + 1, by omega, by simp only; omega, ?_⟩
                  constructor <;> (repeat' (first | exact rfl | exact True.intro | apply And.intro))
                  all_goals first
                    | exact congrArg (fun b : Bool => D.v (.bool b)) hok
                    | exact congrArg (fun b : Bool => D.v (.bool b)) hok.symm
                    | exact congrArg (fun n : Int => D.v (.int .i64 n)) (by rw [wrap64 _ (by omega) (by omega)]; omega)
                    | exact congrArg (fun n : Int => D.v (.int .i64 n)) (by omega)
              · have f124 : ¬ (okB (loadsL A Q x.q y.q) R i = true) := fun hh => tf_no hh e12
                refine ⟨by kernel_rfl, ?_⟩
                have hsl := sAt_is hx116
                have hqr := qAt_is hx120
                have hok : okB (loadsL A Q x.q y.q) R (i + 1) = false := okB_f0 (Bool.eq_false_iff.2 f124)
                refine ⟨i + 1, by omega, by simp only; omega, ?_⟩
                constructor <;> (repeat' (first | exact rfl | exact True.intro | apply And.intro))
                all_goals first
                  | exact congrArg (fun b : Bool => D.v (.bool b)) hok
                  | exact congrArg (fun b : Bool => D.v (.bool b)) hok.symm
                  | exact congrArg (fun n : Int => D.v (.int .i64 n)) (by rw [wrap64 _ (by omega) (by omega)]; omega)
                  | exact congrArg (fun n : Int => D.v (.int .i64 n)) (by omega)
            · have f114 : ¬ ((i : Int) < ((List.map rqS (loadsL A Q x.q y.q)).length : Int)) := of_decide_eq_false e11
              refine fork (fun e14 => ?_) (fun e14 => ?_)
              · have f142 : n66 = 0 := beq_t e14
                refine k_eql_bool_c (fun _ => ?_) (fun hh => absurd (by rw [hb66, hldB_ok h0 hRl, show i = A.links.length from by omega]) hh)
                refine Eq.trans (b := bool true) ?_ rfl
                rfl
              · have f142 : ¬ (n66 = 0) := beq_f e14
                exfalso
                exact f142 (by rw [hk_66_1]; exact hldE_0 h0 hRl)
theorem forceBounds_walk (v0 : Value) (A0 : ArmV) (v1 : Value) (l1 : List (RV × RV)) (s20 : Bool) (a20 d20 : ByteArray) (s21 : Bool) (a21 d21 : ByteArray) (v3 : Value) (l3 : List RV) (N : Nat) (w : World) (_ : 1 ≤ N) (hN : N ≤ 1048576) (h0 : DenAV w (fun b => b < w.heap.size) noBs noMem v0 (arm A0)) (u0 : A0.zs N) (h1 : Den w (fun b => b < w.heap.size) v1 (.list (l1.map eng.rdv))) (u1 : pairsZ l1 N) (b20 : a20.size ≤ N) (b21 : d20.size ≤ N) (b22 : a21.size ≤ N) (b23 : d21.size ≤ N) (h3 : Den w (fun b => b < w.heap.size) v3 (.list (l3.map eng.rd))) (u3 : ratsZ l3 N) (hT : Tab w) :
    Calls Tryz.prog 8 #[v0, v1, .agg #[.bool s20, .string a20, .string d20, .bool s21, .string a21, .string d21], v3] w fun e w' => e = .returned (.bool true) ∧ Below w.heap.size w w' :=
  calls_of_specI (I := fun b => b < w.heap.size) (forceBounds_spec A0 l1 l3 ⟨s20, a20, d20⟩ ⟨s21, a21, d21⟩ (ok_of_zs u0 (by omega)) (fun p hp => ⟨Nat.le_trans (u1.2 p hp).1 (by omega), Nat.le_trans (u1.2 p hp).2 (by omega)⟩) (by unfold RV.z; simp only; omega) (by unfold RV.z; simp only; omega) (fun x hx => Nat.le_trans (u3.2 x hx) (by omega))) rfl hT (fun _ h => h)
    (((((pvl_rel (vs := []) rfl).cons (show DenAV _ _ _ _ v3 (.val (.one (.d (.list _)))) from h3)).cons ((pv_iff (v := pair ⟨s20, a20, d20⟩ ⟨s21, a21, d21⟩) rfl).2 rfl)).cons (show DenAV _ _ _ _ v1 (.val (.one (.d (.list _)))) from h1)).cons h0)
end
end Go.Proofs.YtjhoddlhdoiifaaGreatDoor.eng
