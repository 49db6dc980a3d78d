/- Contract of gantlaw3.ForceTorques: it returns true. Printed by wip/gp_force.py. -/
import Derived.Test.YtjhoddlhdoiifaaGreatDoorForcA
import Derived.Test.YtjhoddlhdoiifaaGreatDoorLawSing
namespace Go.Proofs.YtjhoddlhdoiifaaGreatDoor.eng
open Go.RowKit num mem seg q held ratA ratB ratC ratD ratE vars ratF argopen trq
section
variable {K : AV → Prop}
theorem tors32 : torsV (sampA [3, 2]) (natRV [0, 0]) (cn n0Q).q (cn n1Q).q = natL [5, 2] := by
  have h := sampA_has (l := [3, 2]) (k := ((natRV [0, 0]).length : Int)) (by decide) (by decide) (by decide) rfl
  have hc := cols32
  rw [colsV_ok h] at hc
  have c0 : colF (sampA [3, 2]) (natRV [0, 0]) 0 = (n0Q, ((5 : Nat) : Rat)) := (List.cons.inj hc).1
  have c1 : colF (sampA [3, 2]) (natRV [0, 0]) 1 = (n0Q, n2Q) := (List.cons.inj (List.cons.inj hc).2).1
  rw [torsV_ok h, cn_q, cn_q]
  have t : ∀ i p, colF (sampA [3, 2]) (natRV [0, 0]) i = p → torF (sampA [3, 2]) (natRV [0, 0]) n0Q n1Q i = p.2 * n1Q + p.1 * n0Q := by
    intro i p hp
    rw [← hp]
    unfold torF colF
    simp only
    grind
  show [torF _ _ _ _ 0, torF _ _ _ _ 1] = _
  rw [t 0 _ c0, t 1 _ c1]
  decide +kernel
set_option maxHeartbeats 8000000 in
set_option maxRecDepth 100000 in
theorem forceTorques_spec (A : ArmV) (Q R : List RV) (x y : RV) (hA : A.ok) (hQ : ∀ x, x ∈ Q → x.z ≤ 1048576) (hx : x.z ≤ 1048576) (hy : y.z ≤ 1048576) (hR : ∀ x, x ∈ R → x.z ≤ 1048576) : Spec Tryz.prog Tab 7 [.val (.agg [.d (.v (.string A.name)), .d (.v (.bool A.bx.s)), .d (.v (.string A.bx.a)), .d (.v (.string A.bx.d)), .d (.v (.bool A.by'.s)), .d (.v (.string A.by'.a)), .d (.v (.string A.by'.d)), .d (.v (.bool (A.bh))), .d (.v (.bool A.bt.s)), .d (.v (.string A.bt.a)), .d (.v (.string A.bt.d)), .d (.list (List.map lk A.links))]), .val (.one (.d (.list (List.map rd Q)))), .val (.one (.d (.list (List.map rd R)))), pair x y] (bool true) := by
  have hA2 := hA
  have hL : (List.map lk A.links).length = A.links.length := List.length_map ..
  have hLq : (List.map rd Q).length = Q.length := List.length_map ..
  have hQ1 : ∀ x, x ∈ Q → x.z ≤ 2097151 := fun x hx => Nat.le_trans (hQ x hx) (by decide)
  have o32 : (sampA [3, 2]).ok := ok_of_zs (sampA_zs (by decide) (by decide)) (by decide)
  have a32 : armE (sampA [3, 2]) = 0 := sampA_ok (by decide) (by decide) (by decide)
  have b32 : ∀ x, x ∈ natRV [0, 0] → x.z ≤ 1048576 := samp_q (by decide)
  have c32 : hasE (sampA [3, 2]) ((natRV [0, 0]).length : Int) = 0 := sampA_has (by decide) (by decide) (by decide) rfl
  have zn0 : qs n0Q ≤ 8 := by decide +kernel
  have zn1 : qs n1Q ≤ 8 := by decide +kernel
  have hx1 := x.z1
  have hy1 := y.z1
  have hLr : (List.map rd R).length = R.length := List.length_map ..
  refine fn_spec Tryz.func7 rfl rfl Tryz.ntmps7 rfl (by kernel_rfl) rfl rfl ?_
  refine k_sample [3, 2] rfl (by decide) (by decide) ?_
  refine k_numsR [0, 0] rfl (by decide) (by decide) ?_
  refine use (pt_of num_0 num_1) rfl ?_
  refine k_Tors (A := (sampA [3, 2])) (Q := (natRV [0, 0])) (x := cn n0Q) (y := cn n1Q) (by assumption) (by assumption) (by simp only [cn_z]; omega) (by simp only [cn_z]; omega) fun n26 hk_26_1 => ?_
  refine fork (fun e1 => ?_) (fun e1 => ?_)
  · have f31 : n26 ≠ 0 := bne_t e1
    exfalso
    exact f31 (by rw [hk_26_1]; exact c32)
  · have f31 : ¬ (n26 ≠ 0) := fun hh => hh (bne_f e1)
    refine k_numsR [5, 2] rfl (by decide) (by decide) ?_
    refine k_equalT (l := torsV (sampA [3, 2]) (natRV [0, 0]) (cn n0Q).q (cn n1Q).q) (m := natL [5, 2]) tors32 rfl (RL_natRV _) (Nat.le_trans torsV_len (by decide)) ?_
    refine ⟨fun e => absurd e (by decide), fun _ => ?_⟩
    refine k_HasFault (A := A) (n := ((List.map rd Q).length : Int)) (by assumption) fun n41 hk_41_1 => ?_
    rw [List.length_map] at hk_41_1
    refine k_Tors (A := A) (Q := Q) (x := x) (y := y) (by assumption) (by assumption) (by omega) (by omega) fun n46 hk_46_1 => ?_
    refine k_Power (A := A) (Q := Q) (R := R) (x := x) (y := y) (by assumption) (by assumption) (by omega) (by omega) (by assumption) fun n54 hk_54_1 => ?_
    refine ⟨fun e2 => ?_, fun e2 => ?_⟩
    · have f58 : n41 ≠ 0 := bne_t e2
      have hno : ¬ hasE A (Q.length : Int) = 0 := by rw [← hk_41_1]; exact f58
      refine fork (fun e3 => ?_) (fun e3 => ?_)
      · have f62 : n46 = n41 := beq_t e3
        refine fork (fun e4 => ?_) (fun e4 => ?_)
        · have f67 : n54 = n41 := beq_t e4
          refine fork (fun e5 => ?_) (fun e5 => ?_)
          · have f72 : ((List.map rdc (torsV A Q x.q y.q)).length : Int) = 0 := beq_t e5
            refine k_eql_rat_t (powN_no fun g => hno g.1) ?_
            refine Eq.trans (b := bool true) ?_ rfl
            rfl
          · have f72 : ¬ (((List.map rdc (torsV A Q x.q y.q)).length : Int) = 0) := beq_f e5
            exfalso
            exact f72 (by rw [torsV_no hno]; rfl)
        · have f67 : ¬ (n54 = n41) := beq_f e4
          exfalso
          exact f67 (by rw [hk_54_1, hk_41_1]; exact powE_2 hno)
      · have f62 : ¬ (n46 = n41) := beq_f e3
        exfalso
        exact f62 (by rw [hk_46_1, hk_41_1])
    · have f58 : ¬ (n41 ≠ 0) := fun hh => hh (bne_f e2)
      have h0 : hasE A (Q.length : Int) = 0 := by rw [← hk_41_1]; exact Classical.not_not.1 f58
      have hA0 := (hasE_ok.1 h0).1
      have hlen0 := (hasE_ok.1 h0).2
      have hlen : Q.length = A.links.length := by omega
      have hn3 := (armE_ok hA0).1
      have hLt : (torsF A Q x.q y.q A.links.length).length = A.links.length := torsF_len ..
      have hLu : (List.map q3d (torsF A Q x.q y.q A.links.length)).length = A.links.length := by rw [List.length_map, hLt]
      have htz : ∀ q, q ∈ torsF A Q x.q y.q A.links.length → qs q ≤ 8589934592 := fun q hq => by
        obtain ⟨i, hi⟩ := List.mem_iff_getElem?.1 hq
        obtain ⟨rfl, h⟩ := torsF_at hi
        have := torF_z hA0 hQ (fx := x.q) (fy := y.q) (by omega) (by omega) h
        omega
      refine k_RTors (A := A) (Q := Q) (x := x) (y := y) (by assumption) hA0 hlen (by assumption) (by omega) (by omega) ?_
      refine fork (fun e7 => ?_) (fun e7 => ?_)
      · have f83 : n46 ≠ 0 := bne_t e7
        exfalso
        exact f83 (by rw [hk_46_1]; exact h0)
      · have f83 : ¬ (n46 ≠ 0) := fun hh => hh (bne_f e7)
        refine k_Back (torsF A Q x.q y.q A.links.length) rfl htz (by rw [torsF_len]; omega) ?_
        refine k_equalT (l := torsV A Q x.q y.q) (m := torsF A Q x.q y.q A.links.length) (torsV_ok h0) rfl rfl (Nat.le_trans torsV_len (by decide)) ?_
        refine ⟨fun e => absurd e (by decide), fun _ => ?_⟩
        refine ⟨fun e8 => ?_, fun e8 => ?_⟩
        · have f94 : ((List.map rd R).length : Int) ≠ ((List.map rd Q).length : Int) := bne_t e8
          have hRl : ¬ R.length = Q.length := by omega
          refine fork (fun e9 => ?_) (fun e9 => ?_)
          · have f97 : n54 = 1 := beq_t e9
            refine k_eql_rat_t (powN_no fun g => hRl g.2) ?_
            refine Eq.trans (b := bool true) ?_ rfl
            rfl
          · have f97 : ¬ (n54 = 1) := beq_f e9
            exfalso
            exact f97 (by rw [hk_54_1]; exact powE_1 h0 hRl)
        · have f94 : ¬ (((List.map rd R).length : Int) ≠ ((List.map rd Q).length : Int)) := fun hh => hh (bne_f e8)
          have hRl : R.length = Q.length := by omega
          refine k_N3 (0) (by omega) (by omega) fun q102 h102 z102 => ?_
          have e102 : q102 = powF A Q x.q y.q R 0 := h102
          refine ⟨Nat, fun i => [(2, .val (.one (.d (.list (List.map rd R))))), (14, .val (.one (.ptr 14 0))), (15, int n54), (17, .val (.one (.ptr 17 0))), (103, .val (.one (.d (.list (List.map q3d (torsF A Q x.q y.q A.links.length)))))), (104, int ((List.map q3d (torsF A Q x.q y.q A.links.length)).length : Int)), (105, int (i : Int))],
            fun i => [(14, .var 23 [.d (.v (.bool (powN A Q x.q y.q R).s)), .d (.v (.string (powN A Q x.q y.q R).a)), .d (.v (.string (powN A Q x.q y.q R).d))]), (17, .var 42 [.d (.v (.bool (decide ((powF A Q x.q y.q R i).num < 0)))), .d (.list (W (w32 (powF A Q x.q y.q R i).num.natAbs))), .d (.list (W (w32 (powF A Q x.q y.q R i).den)))])], fun i => i ≤ A.links.length, fun i => A.links.length - i, 0, ?_, Nat.zero_le _, fun i hs => ?_⟩
          · constructor <;> (repeat' (first | exact rfl | exact True.intro | exact ⟨_, _, rfl⟩ | exact (by decide) | apply And.intro))
            all_goals first
              | exact congrArg (fun q : Rat => D.v (.bool (decide (q.num < 0)))) e102
              | exact congrArg (fun q : Rat => D.v (.bool (decide (q.num < 0)))) e102.symm
              | exact congrArg (fun q : Rat => D.list (W (w32 q.num.natAbs))) e102
              | exact congrArg (fun q : Rat => D.list (W (w32 q.num.natAbs))) e102.symm
              | exact congrArg (fun q : Rat => D.list (W (w32 q.den))) e102
              | exact congrArg (fun q : Rat => D.list (W (w32 q.den))) e102.symm
              | exact congrArg (fun n : Int => D.v (.int .i64 n)) (by omega)
              | (simp; done)
          have hp := powF_z hA0 hQ hR (fx := x.q) (fy := y.q) (by omega) (by omega) i (by omega)
          refine ⟨fun e11 => ?_, fun e11 => ?_⟩
          · have f106 : (i : Int) < ((List.map q3d (torsF A Q x.q y.q A.links.length)).length : Int) := of_decide_eq_true e11
            refine get_ex (l := (torsF A Q x.q y.q A.links.length)) (i := i) (by first | omega | exact Nat.mod_lt _ (by omega)) fun x108 hx108 => ?_
            have hxt : x108 = torF A Q x.q y.q i := (torsF_at hx108).1
            have hzt := torF_z hA0 hQ (fx := x.q) (fy := y.q) (by omega) (by omega) (i := i) (by omega)
            rw [← hxt] at hzt
            refine k_ix i [D.v (.bool (decide (x108.num < 0))), D.list (W (w32 x108.num.natAbs)), D.list (W (w32 x108.den))] (by first | rfl | omega | (rw [wrap64 _ (by omega) (by omega)]; omega)) (map_at hx108) rfl ?_
            refine get_ex (l := R) (i := i) (by first | omega | exact Nat.mod_lt _ (by omega)) fun x114 hx114 => ?_
            have hzx114 := hR x114 (List.mem_of_getElem? hx114)
            have hxr : x114.q = qAt R i := (qAt_is hx114).symm
            refine k_ix i [D.v (.bool x114.s), D.v (.string x114.a), D.v (.string x114.d)] (by first | rfl | omega | (rw [wrap64 _ (by omega) (by omega)]; omega)) (map_at hx114) rfl ?_
            refine k_From3 (x := x114) (by omega) fun q116 h116 z116 => ?_
            refine k_Mul3 (p := x108) (q := q116) (by omega) (by omega) fun q117 h117 z117 => ?_
            refine k_Add3 (p := (powF A Q x.q y.q R i)) (q := q117) (by omega) (by omega) fun q118 h118 z118 => ?_
            refine ⟨by kernel_rfl, ?_⟩
            have e118 : q118 = powF A Q x.q y.q R (i + 1) := by rw [h118, h117, h116, hxt, hxr]; rfl
            refine ⟨i + 1, by omega, by simp only; omega, ?_⟩
            constructor <;> (repeat' (first | exact rfl | exact True.intro | apply And.intro))
            all_goals first
              | exact congrArg (fun q : Rat => D.v (.bool (decide (q.num < 0)))) e118
              | exact congrArg (fun q : Rat => D.v (.bool (decide (q.num < 0)))) e118.symm
              | exact congrArg (fun q : Rat => D.list (W (w32 q.num.natAbs))) e118
              | exact congrArg (fun q : Rat => D.list (W (w32 q.num.natAbs))) e118.symm
              | exact congrArg (fun q : Rat => D.list (W (w32 q.den))) e118
              | exact congrArg (fun q : Rat => D.list (W (w32 q.den))) e118.symm
              | exact congrArg (fun n : Int => D.v (.int .i64 n)) (by rw [wrap64 _ (by omega) (by omega)]; omega)
              | exact congrArg (fun n : Int => D.v (.int .i64 n)) (by omega)
          · have f106 : ¬ ((i : Int) < ((List.map q3d (torsF A Q x.q y.q A.links.length)).length : Int)) := of_decide_eq_false e11
            refine fork (fun e12 => ?_) (fun e12 => ?_)
            · have f122 : n54 = 0 := beq_t e12
              refine k_To3 (q := (powF A Q x.q y.q R i)) (by omega) ?_
              refine k_eql_rat_t (by rw [powN_ok h0 hRl, show i = A.links.length from by omega]) ?_
              refine ⟨by kernel_rfl, ?_⟩
              refine Eq.trans (b := bool true) ?_ rfl
              rfl
            · have f122 : ¬ (n54 = 0) := beq_f e12
              exfalso
              exact f122 (by rw [hk_54_1]; exact powE_0 h0 hRl)
theorem forceTorques_walk (v0 : Value) (A0 : ArmV) (v1 : Value) (l1 : List RV) (v2 : Value) (l2 : List RV) (s30 : Bool) (a30 d30 : ByteArray) (s31 : Bool) (a31 d31 : ByteArray) (N : Nat) (w : World) (_ : 1 ≤ N) (hN : N ≤ 1048576) (h0 : DenAV w (fun b => b < w.heap.size) noBs noMem v0 (arm A0)) (u0 : A0.zs N) (h1 : Den w (fun b => b < w.heap.size) v1 (.list (l1.map eng.rd))) (u1 : ratsZ l1 N) (h2 : Den w (fun b => b < w.heap.size) v2 (.list (l2.map eng.rd))) (u2 : ratsZ l2 N) (b30 : a30.size ≤ N) (b31 : d30.size ≤ N) (b32 : a31.size ≤ N) (b33 : d31.size ≤ N) (hT : Tab w) :
    Calls Tryz.prog 7 #[v0, v1, v2, .agg #[.bool s30, .string a30, .string d30, .bool s31, .string a31, .string d31]] w fun e w' => e = .returned (.bool true) ∧ Below w.heap.size w w' :=
  calls_of_specI (I := fun b => b < w.heap.size) (forceTorques_spec A0 l1 l2 ⟨s30, a30, d30⟩ ⟨s31, a31, d31⟩ (ok_of_zs u0 (by omega)) (fun x hx => Nat.le_trans (u1.2 x hx) (by omega)) (by unfold RV.z; simp only; omega) (by unfold RV.z; simp only; omega) (fun x hx => Nat.le_trans (u2.2 x hx) (by omega))) rfl hT (fun _ h => h)
    (((((pvl_rel (vs := []) rfl).cons ((pv_iff (v := pair ⟨s30, a30, d30⟩ ⟨s31, a31, d31⟩) rfl).2 rfl)).cons (show DenAV _ _ _ _ v2 (.val (.one (.d (.list _)))) from h2)).cons (show DenAV _ _ _ _ v1 (.val (.one (.d (.list _)))) from h1)).cons h0)
end
end Go.Proofs.YtjhoddlhdoiifaaGreatDoor.eng
