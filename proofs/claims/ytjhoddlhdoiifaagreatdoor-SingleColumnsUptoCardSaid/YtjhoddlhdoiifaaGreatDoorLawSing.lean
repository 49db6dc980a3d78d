/- Contract of gantlaw3.SingleColumns: it returns true. Printed by wip/gp_single.py. -/
import Derived.Test.YtjhoddlhdoiifaaGreatDoorSingA
import Derived.Test.YtjhoddlhdoiifaaGreatDoorGrpX
import Derived.Test.YtjhoddlhdoiifaaGreatDoorOpenA
namespace Go.Proofs.YtjhoddlhdoiifaaGreatDoor.eng
open Go.RowKit num mem seg q held ratA ratB ratC ratD ratE vars ratF argopen trq
section
variable {K : AV → Prop}
theorem samp_base (l : List Nat) : baseF (sampA l) = ⟨n0Q, n0Q, cosq false n0Q, sinq n0Q⟩ := by
  unfold baseF
  rw [show (sampA l).bx.q = n0Q from cn_q _, show (sampA l).by'.q = n0Q from cn_q _, show (sampA l).bt.q = n0Q from cn_q _]; rfl
theorem cols32 : colsV (sampA [3, 2]) (natRV [0, 0]) = [(n0Q, ((5 : Nat) : Rat)), (n0Q, n2Q)] := by
  have q0 : qAt (natRV [0, 0]) 0 = n0Q := (qAt_is rfl).trans (cn_q _)
  have q1 : qAt (natRV [0, 0]) 1 = n0Q := (qAt_is rfl).trans (cn_q _)
  have l0 : lenAt (sampA [3, 2]) 0 = ((3 : Nat) : Rat) := (lenAt_is rfl).trans (cn_q _)
  have l1 : lenAt (sampA [3, 2]) 1 = ((2 : Nat) : Rat) := (lenAt_is rfl).trans (cn_q _)
  rw [colsV_ok (sampA_has (by decide) (by decide) (by decide) rfl)]
  have e0 : linkF (sampA [3, 2]) (natRV [0, 0]) 0 = turnF ⟨n0Q, n0Q, cosq false n0Q, sinq n0Q⟩ n0Q := by
    show turnF (baseF _) (qAt _ 0) = _
    rw [samp_base, q0]
  have e1 : linkF (sampA [3, 2]) (natRV [0, 0]) 1 = turnF (longF (turnF ⟨n0Q, n0Q, cosq false n0Q, sinq n0Q⟩ n0Q) ((3 : Nat) : Rat)) n0Q := by
    show turnF (longF (linkF _ _ 0) (lenAt _ 0)) (qAt _ 1) = _
    rw [e0, q1, l0]
  have e2 : endF (sampA [3, 2]) (natRV [0, 0]) (sampA [3, 2]).links.length = longF (turnF (longF (turnF ⟨n0Q, n0Q, cosq false n0Q, sinq n0Q⟩ n0Q) ((3 : Nat) : Rat)) n0Q) ((2 : Nat) : Rat) := by
    show longF (linkF _ _ 1) (lenAt _ 1) = _
    rw [e1, l1]
  show [colF _ _ 0, colF _ _ 1] = _
  unfold colF
  rw [e0, e1, e2]
  decide +kernel
theorem samp_q {l : List Nat} (h : ∀ n, n ∈ l → n < 256) : ∀ x, x ∈ natRV l → x.z ≤ 1048576 := fun x hx => Nat.le_trans (natRV_z h x hx) (by decide)
set_option maxRecDepth 100000 in
theorem pp1_spec (p : Rat × Rat) (h : qs p.1 ≤ 8589934592 ∧ qs p.2 ≤ 8589934592) : Spec Tryz.prog Tab 122 [pair (cn p.1) (cn p.2), q3p p.1 p.2] (bool true) := by
  have hp1 := h.1
  have hp2 := h.2
  refine fn_spec Tryz.func122 rfl rfl Tryz.ntmps122 rfl (by kernel_rfl) rfl rfl ?_
  refine k_PTo (p := p.1) (q := p.2) (by omega) (by omega) ?_
  refine k_eql_vec_t ⟨rfl, rfl⟩ ?_
  refine ⟨by kernel_rfl, ?_⟩
  refine Eq.trans (b := bool true) ?_ rfl
  rfl
set_option maxRecDepth 100000 in
theorem ppE_spec (l : List (Rat × Rat)) (hl : ∀ p, p ∈ l → qs p.1 ≤ 8589934592 ∧ qs p.2 ≤ 8589934592) (hn : l.length ≤ 1073741824) : Spec Tryz.prog Tab 121 [.val (.one (.d (.list (List.map rvP l)))), .val (.one (.d (.list (List.map rqP l)))), fv 122] (bool true) := by
  have hL1 : (List.map rvP l).length = l.length := List.length_map ..
  have hL2 : (List.map rqP l).length = l.length := List.length_map ..
  refine fn_spec Tryz.func121 rfl rfl Tryz.ntmps121 rfl (by kernel_rfl) rfl rfl ?_
  refine ⟨fun e1 => ?_, fun e1 => ?_⟩
  · have f14 : ((List.map rvP l).length : Int) ≠ ((List.map rqP l).length : Int) := bne_t e1
    exfalso
    exact f14 (by rw [hL1, hL2])
  · have f14 : ¬ (((List.map rvP l).length : Int) ≠ ((List.map rqP l).length : Int)) := fun hh => hh (bne_f e1)
    refine ⟨Nat, fun i => [(1, .val (.one (.d (.list (List.map rqP l))))), (2, fv 122), (15, .val (.one (.d (.list (List.map rvP l))))), (16, int ((List.map rvP l).length : Int)), (17, int (i : Int))],
      fun i => [], fun i => i ≤ l.length, fun i => l.length - i, 0, ?_, Nat.zero_le _, fun i hs => ?_⟩
    · constructor <;> (repeat' (first | exact rfl | exact True.intro | exact ⟨_, _, rfl⟩ | exact (by decide) | apply And.intro))
      all_goals first | exact congrArg (fun n : Int => D.v (.int .i64 n)) (by omega) | exact congrArg (fun n : Int => D.v (.int .i64 n)) (by rw [wrap64 _ (by omega) (by omega)]; omega) | (simp; done)
    refine ⟨fun e2 => ?_, fun e2 => ?_⟩
    · have f18 : (i : Int) < ((List.map rvP l).length : Int) := of_decide_eq_true e2
      refine get_ex (l := l) (i := i) (by first | omega | exact Nat.mod_lt _ (by omega)) fun x20 hx20 => ?_
      have hwx20 := hl x20 (List.mem_of_getElem? hx20)
      refine k_ix i [D.v (.bool (cn x20.1).s), D.v (.string (cn x20.1).a), D.v (.string (cn x20.1).d), D.v (.bool (cn x20.2).s), D.v (.string (cn x20.2).a), D.v (.string (cn x20.2).d)] (by first | rfl | omega | (rw [wrap64 _ (by omega) (by omega)]; omega)) (map_at hx20) rfl ?_
      refine k_ix i [D.v (.bool (decide (x20.1.num < 0))), D.list (W (w32 x20.1.num.natAbs)), D.list (W (w32 x20.1.den)), D.v (.bool (decide (x20.2.num < 0))), D.list (W (w32 x20.2.num.natAbs)), D.list (W (w32 x20.2.den))] (by first | rfl | omega | (rw [wrap64 _ (by omega) (by omega)]; omega)) (map_at hx20) rfl ?_
      refine use (pp1_spec x20 hwx20) rfl ?_
      refine ⟨fun e => absurd e (by decide), fun _ => ?_⟩
      refine ⟨i + 1, by omega, by simp only; omega, ?_⟩
      constructor <;> (repeat' (first | exact rfl | exact True.intro | apply And.intro))
      all_goals first
        | exact congrArg (fun n : Int => D.v (.int .i64 n)) (by rw [wrap64 _ (by omega) (by omega)]; omega)
        | exact congrArg (fun n : Int => D.v (.int .i64 n)) (by omega)
    · have f18 : ¬ ((i : Int) < ((List.map rvP l).length : Int)) := of_decide_eq_false e2
      refine Eq.trans (b := bool true) ?_ rfl
      rfl
set_option maxRecDepth 100000 in
theorem points_spec (l : List (Rat × Rat)) (hl : ∀ p, p ∈ l → qs p.1 ≤ 8589934592 ∧ qs p.2 ≤ 8589934592) (hn : l.length ≤ 1073741824) : Spec Tryz.prog Tab 43 [.val (.one (.d (.list (List.map rvP l)))), .val (.one (.d (.list (List.map rqP l))))] (bool true) := by
  refine fn_spec Tryz.func43 rfl rfl Tryz.ntmps43 rfl (by kernel_rfl) rfl rfl ?_
  refine use (ppE_spec l hl hn) rfl ?_
  refine Eq.trans (b := bool true) ?_ rfl
  rfl
theorem points2_spec {l m : List (Rat × Rat)} (e : m = l) (hl : ∀ p, p ∈ l → qs p.1 ≤ 8589934592 ∧ qs p.2 ≤ 8589934592) (hn : l.length ≤ 1073741824) : Spec Tryz.prog Tab 43 [.val (.one (.d (.list (List.map rvP m)))), .val (.one (.d (.list (List.map rqP l))))] (bool true) := by
  subst e; exact points_spec m hl hn
set_option maxHeartbeats 8000000 in
set_option maxRecDepth 100000 in
theorem singleColumns_spec (A : ArmV) (Q : List RV) (hA : A.ok) (hQ : ∀ x, x ∈ Q → x.z ≤ 1048576) : Spec Tryz.prog Tab 6 [.val (.agg [.d (.v (.string A.name)), .d (.v (.bool A.bx.s)), .d (.v (.string A.bx.a)), .d (.v (.string A.bx.d)), .d (.v (.bool A.by'.s)), .d (.v (.string A.by'.a)), .d (.v (.string A.by'.d)), .d (.v (.bool (A.bh))), .d (.v (.bool A.bt.s)), .d (.v (.string A.bt.a)), .d (.v (.string A.bt.d)), .d (.list (List.map lk A.links))]), .val (.one (.d (.list (List.map rd Q))))] (bool true) := by
  have hA2 := hA
  have hL : (List.map lk A.links).length = A.links.length := List.length_map ..
  have hLq : (List.map rd Q).length = Q.length := List.length_map ..
  have hQ1 : ∀ x, x ∈ Q → x.z ≤ 2097151 := fun x hx => Nat.le_trans (hQ x hx) (by decide)
  have o32 : (sampA [3, 2]).ok := ok_of_zs (sampA_zs (by decide) (by decide)) (by decide)
  have a32 : armE (sampA [3, 2]) = 0 := sampA_ok (by decide) (by decide) (by decide)
  have b32 : ∀ x, x ∈ natRV [0, 0] → x.z ≤ 1048576 := samp_q (by decide)
  have c32 : hasE (sampA [3, 2]) ((natRV [0, 0]).length : Int) = 0 := sampA_has (by decide) (by decide) (by decide) rfl
  have l32 : (colsV (sampA [3, 2]) (natRV [0, 0])).length = 2 := by rw [cols32]; rfl
  have m32 : (List.map rvP (colsV (sampA [3, 2]) (natRV [0, 0]))).length = 2 := by rw [List.length_map, l32]
  refine fn_spec Tryz.func6 rfl rfl Tryz.ntmps6 rfl (by kernel_rfl) rfl rfl ?_
  refine k_sample [3, 2] rfl (by decide) (by decide) ?_
  refine k_numsR [0, 0] rfl (by decide) (by decide) ?_
  refine k_Cols (A := (sampA [3, 2])) (Q := (natRV [0, 0])) (by assumption) (by assumption) fun n20 hk_20_1 => ?_
  refine fork (fun e1 => ?_) (fun e1 => ?_)
  · have f25 : n20 ≠ 0 := bne_t e1
    exfalso
    exact f25 (by rw [hk_20_1]; exact c32)
  · have f25 : ¬ (n20 ≠ 0) := fun hh => hh (bne_f e1)
    refine fork (fun e2 => ?_) (fun e2 => ?_)
    · have f30 : ((List.map rvP (colsV (sampA [3, 2]) (natRV [0, 0]))).length : Int) ≠ 2 := bne_t e2
      exfalso
      exact f30 (by rw [m32]; rfl)
    · have f30 : ¬ (((List.map rvP (colsV (sampA [3, 2]) (natRV [0, 0]))).length : Int) ≠ 2) := fun hh => hh (bne_f e2)
      refine get_ex (l := (colsV (sampA [3, 2]) (natRV [0, 0]))) (i := 0) (by first | omega | exact Nat.mod_lt _ (by omega)) fun x32 hx32 => ?_
      have hex32 : x32 = (n0Q, ((5 : Nat) : Rat)) := Option.some.inj (hx32.symm.trans (by rw [cols32]; rfl))
      refine k_ix 0 [D.v (.bool (cn x32.1).s), D.v (.string (cn x32.1).a), D.v (.string (cn x32.1).d), D.v (.bool (cn x32.2).s), D.v (.string (cn x32.2).a), D.v (.string (cn x32.2).d)] (by first | rfl | omega | (rw [wrap64 _ (by omega) (by omega)]; omega)) (map_at hx32) rfl ?_
      refine use (pt_of num_0 (num_nat 5 (by decide))) rfl ?_
      refine k_neq_vec_t ⟨by rw [hex32], by rw [hex32]⟩ ?_
      refine get_ex (l := (colsV (sampA [3, 2]) (natRV [0, 0]))) (i := 1) (by first | omega | exact Nat.mod_lt _ (by omega)) fun x39 hx39 => ?_
      have hex39 : x39 = (n0Q, n2Q) := Option.some.inj (hx39.symm.trans (by rw [cols32]; rfl))
      refine k_ix 1 [D.v (.bool (cn x39.1).s), D.v (.string (cn x39.1).a), D.v (.string (cn x39.1).d), D.v (.bool (cn x39.2).s), D.v (.string (cn x39.2).a), D.v (.string (cn x39.2).d)] (by first | rfl | omega | (rw [wrap64 _ (by omega) (by omega)]; omega)) (map_at hx39) rfl ?_
      refine use (pt_of num_0 num_2) rfl ?_
      refine k_neq_vec_t ⟨by rw [hex39], by rw [hex39]⟩ ?_
      refine ⟨by kernel_rfl, ?_⟩
      refine ⟨fun e => absurd e (by decide), fun _ => ?_⟩
      refine k_HasFault (A := A) (n := ((List.map rd Q).length : Int)) (by assumption) fun n47 hk_47_1 => ?_
      rw [List.length_map] at hk_47_1
      refine k_Cols (A := A) (Q := Q) (by assumption) (by assumption) fun n51 hk_51_1 => ?_
      refine k_Rank (A := A) (Q := Q) (by assumption) (by assumption) fun n57 hk_57_1 => ?_
      refine k_SIs (A := A) (Q := Q) (by assumption) (by assumption) fun n63 hk_63_1 => ?_
      refine fork (fun e5 => ?_) (fun e5 => ?_)
      · have f69 : n51 ≠ n47 := bne_t e5
        exfalso
        exact f69 (by rw [hk_51_1, hk_47_1])
      · have f69 : ¬ (n51 ≠ n47) := fun hh => hh (bne_f e5)
        refine fork (fun e6 => ?_) (fun e6 => ?_)
        · have f74 : n57 ≠ n47 := bne_t e6
          exfalso
          exact f74 (by rw [hk_57_1, hk_47_1])
        · have f74 : ¬ (n57 ≠ n47) := fun hh => hh (bne_f e6)
          refine ⟨fun e7 => ?_, fun e7 => ?_⟩
          · have f78 : n63 ≠ n47 := bne_t e7
            exfalso
            exact f78 (by rw [hk_63_1, hk_47_1])
          · have f78 : ¬ (n63 ≠ n47) := fun hh => hh (bne_f e7)
            refine ⟨fun e8 => ?_, fun e8 => ?_⟩
            · have f80 : n47 ≠ 0 := bne_t e8
              have hno : ¬ hasE A (Q.length : Int) = 0 := by rw [← hk_47_1]; exact f80
              have hrk0 : rkL (colsV A Q) = 0 := by
                rw [colsV_no hno]; unfold rkL rk
                rw [if_neg (by rintro ⟨a, b, h1, h2, _⟩; exact absurd h2 (Nat.not_lt_zero _)), if_neg (by rintro ⟨a, p, h1, _⟩; exact absurd h1 (Nat.not_lt_zero _))]
              refine fork (fun e9 => ?_) (fun e9 => ?_)
              · have f84 : ((List.map rvP (colsV A Q)).length : Int) = 0 := beq_t e9
                refine fork (fun e10 => ?_) (fun e10 => ?_)
                · have f88 : rkL (colsV A Q) = 0 := beq_t e10
                  refine Eq.trans (b := bool (!(isV A Q))) ?_ rfl
                  rw [isV_no hno]
                  all_goals rfl
                · have f88 : ¬ (rkL (colsV A Q) = 0) := beq_f e10
                  exfalso
                  exact f88 hrk0
              · have f84 : ¬ (((List.map rvP (colsV A Q)).length : Int) = 0) := beq_f e9
                exfalso
                exact f84 (by rw [colsV_no hno]; rfl)
            · have f80 : ¬ (n47 ≠ 0) := fun hh => hh (bne_f e8)
              have h0 : hasE A (Q.length : Int) = 0 := by rw [← hk_47_1]; exact Classical.not_not.1 f80
              have hA0 := (hasE_ok.1 h0).1
              have hlen0 := (hasE_ok.1 h0).2
              have hlen : Q.length = A.links.length := by omega
              have hn3 := (armE_ok hA0).1
              refine k_RCols (A := A) (Q := Q) (by assumption) hA0 hlen (by assumption) ?_
              refine use (points2_spec (colsV_ok h0) (fun p hp => by have := colsF_z hA0 hQ p hp; exact ⟨by omega, by omega⟩) (by rw [colsF_len]; omega)) rfl ?_
              refine k_RRank (l := colsF A Q A.links.length) (colsF_z hA0 hQ) (by rw [colsF_len]; omega) fun n101 hk_101_1 => ?_
              refine fork (fun e11 => ?_) (fun e11 => ?_)
              · have f104 : rkL (colsV A Q) = n101 := beq_t e11
                refine k_RRank (l := colsF A Q A.links.length) (colsF_z hA0 hQ) (by rw [colsF_len]; omega) fun n107 hk_107_1 => ?_
                refine k_eql_bool_c (fun _ => ?_) (fun hh => absurd (by rw [isV_ok h0, colsV_ok h0, hk_107_1]) hh)
                refine Eq.trans (b := bool true) ?_ rfl
                rfl
              · have f104 : ¬ (rkL (colsV A Q) = n101) := beq_f e11
                exfalso
                exact f104 (by rw [colsV_ok h0, hk_101_1])
theorem singleColumns_walk (v0 : Value) (A0 : ArmV) (v1 : Value) (l1 : List RV) (N : Nat) (w : World) (_ : 1 ≤ N) (hN : N ≤ 1048576) (h0 : DenAV w (fun b => b < w.heap.size) noBs noMem v0 (arm A0)) (u0 : A0.zs N) (h1 : Den w (fun b => b < w.heap.size) v1 (.list (l1.map eng.rd))) (u1 : ratsZ l1 N) (hT : Tab w) :
    Calls Tryz.prog 6 #[v0, v1] w fun e w' => e = .returned (.bool true) ∧ Below w.heap.size w w' :=
  calls_of_specI (I := fun b => b < w.heap.size) (singleColumns_spec A0 l1 (ok_of_zs u0 (by omega)) (fun x hx => Nat.le_trans (u1.2 x hx) (by omega))) rfl hT (fun _ h => h)
    (((pvl_rel (vs := []) rfl).cons (show DenAV _ _ _ _ v1 (.val (.one (.d (.list _)))) from h1)).cons h0)
end
end Go.Proofs.YtjhoddlhdoiifaaGreatDoor.eng
