/- Contract of gantlaw3.ForeSpreads: it returns true. Printed by wip/gp_lawspr.py. -/
import Derived.Test.YtjhoddlhdoiifaaGreatDoorGrpR
import Derived.Test.YtjhoddlhdoiifaaGreatDoorGrpX
import Derived.Test.YtjhoddlhdoiifaaGreatDoorOpenA
namespace Go.Proofs.YtjhoddlhdoiifaaGreatDoor.eng
open Go.RowKit num mem seg q held ratA ratB ratC ratD ratE vars ratF argopen trq
section
variable {K : AV → Prop}
theorem neq_loose (ox oy : Operand) (x0 x1 x2 x3 x4 x5 x6 x7 : RV) (w : World) : (do eqGuard .neq 88 ox oy (.agg #[.bool x0.s, .string x0.a, .string x0.d, .bool x1.s, .string x1.a, .string x1.d, .bool x2.s, .string x2.a, .string x2.d, .bool x3.s, .string x3.a, .string x3.d, .bool x4.s, .string x4.a, .string x4.d, .bool x5.s, .string x5.a, .string x5.d, .bool x6.s, .string x6.a, .string x6.d, .bool x7.s, .string x7.a, .string x7.d]) (.agg #[.bool x0.s, .string x0.a, .string x0.d, .bool x1.s, .string x1.a, .string x1.d, .bool x2.s, .string x2.a, .string x2.d, .bool x3.s, .string x3.a, .string x3.d, .bool x4.s, .string x4.a, .string x4.d, .bool x5.s, .string x5.a, .string x5.d, .bool x6.s, .string x6.a, .string x6.d, .bool x7.s, .string x7.a, .string x7.d]); binOp .neq 88 (.agg #[.bool x0.s, .string x0.a, .string x0.d, .bool x1.s, .string x1.a, .string x1.d, .bool x2.s, .string x2.a, .string x2.d, .bool x3.s, .string x3.a, .string x3.d, .bool x4.s, .string x4.a, .string x4.d, .bool x5.s, .string x5.a, .string x5.d, .bool x6.s, .string x6.a, .string x6.d, .bool x7.s, .string x7.a, .string x7.d]) (.agg #[.bool x0.s, .string x0.a, .string x0.d, .bool x1.s, .string x1.a, .string x1.d, .bool x2.s, .string x2.a, .string x2.d, .bool x3.s, .string x3.a, .string x3.d, .bool x4.s, .string x4.a, .string x4.d, .bool x5.s, .string x5.a, .string x5.d, .bool x6.s, .string x6.a, .string x6.d, .bool x7.s, .string x7.a, .string x7.d]) : Sem Value).run Tryz.prog w = .ok (.bool false) w := by
  simp [go_sem]
theorem k_neq_loose_t {ox oy : Operand} {x0 x1 x2 x3 x4 x5 x6 x7 y0 y1 y2 y3 y4 y5 y6 y7 : RV} (H : x0 = y0 ∧ x1 = y1 ∧ x2 = y2 ∧ x3 = y3 ∧ x4 = y4 ∧ x5 = y5 ∧ x6 = y6 ∧ x7 = y7) (k : K (bool false)) : AskB .neq 88 ox oy (.agg ⟨[.bool x0.s, .string x0.a, .string x0.d, .bool x1.s, .string x1.a, .string x1.d, .bool x2.s, .string x2.a, .string x2.d, .bool x3.s, .string x3.a, .string x3.d, .bool x4.s, .string x4.a, .string x4.d, .bool x5.s, .string x5.a, .string x5.d, .bool x6.s, .string x6.a, .string x6.d, .bool x7.s, .string x7.a, .string x7.d]⟩) (.agg ⟨[.bool y0.s, .string y0.a, .string y0.d, .bool y1.s, .string y1.a, .string y1.d, .bool y2.s, .string y2.a, .string y2.d, .bool y3.s, .string y3.a, .string y3.d, .bool y4.s, .string y4.a, .string y4.d, .bool y5.s, .string y5.a, .string y5.d, .bool y6.s, .string y6.a, .string y6.d, .bool y7.s, .string y7.a, .string y7.d]⟩) K := by
  obtain ⟨rfl, rfl, rfl, rfl, rfl, rfl, rfl, rfl⟩ := H
  exact useB (fun w => neq_loose ox oy x0 x1 x2 x3 x4 x5 x6 x7 w) k
set_option maxRecDepth 100000 in
theorem STo_spec (p q : Rat) (hp : qs p ≤ 536870912) (hq : qs q ≤ 536870912) : Spec Tryz.prog Tab 36 [q3p p q] (pair (cn p) (cn q)) := by
  refine fn_spec Tryz.func36 rfl rfl Tryz.ntmps36 rfl (by kernel_rfl) rfl rfl ?_
  refine k_To3 (q := p) (by omega) ?_
  refine k_To3 (q := q) (by omega) ?_
  refine ⟨by kernel_rfl, ?_⟩
  refine Eq.trans (b := pair (cn p) (cn q)) ?_ rfl
  rfl
theorem k_STo {p q : Rat} (hp : qs p ≤ 536870912) (hq : qs q ≤ 536870912) (k : K (pair (cn p) (cn q))) : Ask 36 [q3p p q] K := use (STo_spec p q hp hq) rfl k
set_option maxRecDepth 100000 in
theorem RBoxed_spec (p q r u : Rat) (hp : qs p ≤ 536870912) (hq : qs q ≤ 536870912) (hr : qs r ≤ 536870912) (hu : qs u ≤ 536870912) : Spec Tryz.prog Tab 37 [q3p p q, q3p r u] (box (cn p) (cn r) (cn q) (cn u)) := by
  refine fn_spec Tryz.func37 rfl rfl Tryz.ntmps37 rfl (by kernel_rfl) rfl rfl ?_
  refine k_To3 (q := p) (by omega) ?_
  refine k_To3 (q := r) (by omega) ?_
  refine k_To3 (q := q) (by omega) ?_
  refine k_To3 (q := u) (by omega) ?_
  refine ⟨by kernel_rfl, ?_⟩
  refine Eq.trans (b := box (cn p) (cn r) (cn q) (cn u)) ?_ rfl
  rfl
theorem k_RBoxed {p q r u : Rat} (hp : qs p ≤ 536870912) (hq : qs q ≤ 536870912) (hr : qs r ≤ 536870912) (hu : qs u ≤ 536870912) (k : K (box (cn p) (cn r) (cn q) (cn u))) : Ask 37 [q3p p q, q3p r u] K := use (RBoxed_spec p q r u hp hq hr hu) rfl k
theorem spreadL_z {A : ArmV} (hA : armE A = 0) {Q : List (RV × RV)} {i : Nat} {f : LF} (h : (spreadL A Q)[i]? = some f) : f.zx 100 ∧ f.zc 100 := by
  have hn := (armE_ok hA).1
  have up : ∀ {n a b : Nat}, n ≤ a → a ≤ b → n ≤ b := fun h g => Nat.le_trans h g
  rcases spreadL_at h with ⟨hi, rfl⟩ | ⟨hi, rfl⟩
  · obtain ⟨⟨a1, a2⟩, a3, a4⟩ := linkL_zx hA Q i
    obtain ⟨⟨b1, b2⟩, b3, b4⟩ := linkL_zc A Q i
    exact ⟨⟨⟨up a1 (by omega), up a2 (by omega)⟩, up a3 (by omega), up a4 (by omega)⟩, ⟨⟨up b1 (by omega), up b2 (by omega)⟩, up b3 (by omega), up b4 (by omega)⟩⟩
  · obtain ⟨⟨a1, a2⟩, a3, a4⟩ := endL_zx hA Q i
    obtain ⟨⟨b1, b2⟩, b3, b4⟩ := endL_zc hA Q i
    exact ⟨⟨⟨up a1 (by omega), up a2 (by omega)⟩, up a3 (by omega), up a4 (by omega)⟩, ⟨⟨up b1 (by omega), up b2 (by omega)⟩, up b3 (by omega), up b4 (by omega)⟩⟩
theorem box3 {f : LF} (h : (spreadV (sampA [3]) [(cn n0Q, cn n1Q)])[1]? = some f) : cn f.xl = cn n0Q ∧ cn f.yl = cn n0Q ∧ cn f.xh = cn ((3 : Nat) : Rat) ∧ cn f.yh = cn ((3 : Nat) : Rat) := by
  have c3 : hasE (sampA [3]) (([(cn n0Q, cn n1Q)] : List (RV × RV)).length : Int) = 0 := sampA_has (by decide) (by decide) (by decide) rfl
  rw [spreadV_ok c3] at h
  have hb : baseF (sampA [3]) = ⟨n0Q, n0Q, cosq false n0Q, sinq n0Q⟩ := by
    unfold baseF
    rw [show (sampA [3]).bx.q = n0Q from cn_q _, show (sampA [3]).by'.q = n0Q from cn_q _, show (sampA [3]).bt.q = n0Q from cn_q _]; rfl
  have hle : n0Q ≤ n1Q := by decide +kernel
  have e1 : loAt [(cn n0Q, cn n1Q)] 0 = n0Q := (spAt_is rfl).1.trans (slo_cn hle)
  have e2 : hiAt [(cn n0Q, cn n1Q)] 0 = n1Q := (spAt_is rfl).2.trans (shi_cn hle)
  have l0 : lenAt (sampA [3]) 0 = ((3 : Nat) : Rat) := (lenAt_is rfl).trans (cn_q _)
  rcases spreadL_at h with ⟨hi, _⟩ | ⟨_, rfl⟩
  · exact absurd hi (by decide)
  · have e : endL (sampA [3]) [(cn n0Q, cn n1Q)] 1 = longL (turnL (tightL (baseF (sampA [3]))) (cs3 (loAt [(cn n0Q, cn n1Q)] 0) (hiAt [(cn n0Q, cn n1Q)] 0)) (sn3 (loAt [(cn n0Q, cn n1Q)] 0) (hiAt [(cn n0Q, cn n1Q)] 0))) (lenAt (sampA [3]) 0) := rfl
    rw [e, hb, e1, e2, l0]
    refine ⟨congrArg cn ?_, congrArg cn ?_, congrArg cn ?_, congrArg cn ?_⟩ <;> decide +kernel
set_option maxHeartbeats 8000000 in
set_option maxRecDepth 100000 in
theorem foreSpreads_spec (A : ArmV) (Q : List (RV × RV)) (hA : A.ok) (hQ : ∀ p, p ∈ Q → p.1.z ≤ 1048576 ∧ p.2.z ≤ 1048576) : Spec Tryz.prog Tab 5 [.val (.agg [.d (.v (.string A.name)), .d (.v (.bool A.bx.s)), .d (.v (.string A.bx.a)), .d (.v (.string A.bx.d)), .d (.v (.bool A.by'.s)), .d (.v (.string A.by'.a)), .d (.v (.string A.by'.d)), .d (.v (.bool (A.bh))), .d (.v (.bool A.bt.s)), .d (.v (.string A.bt.a)), .d (.v (.string A.bt.d)), .d (.list (List.map lk A.links))]), .val (.one (.d (.list (List.map rdv Q))))] (bool true) := by
  have hA2 := hA
  have hL : (List.map lk A.links).length = A.links.length := List.length_map ..
  have hLq : (List.map rdv Q).length = Q.length := List.length_map ..
  have o3 : (sampA [3]).ok := ok_of_zs (sampA_zs (by decide) (by decide)) (by decide)
  have a3 : armE (sampA [3]) = 0 := sampA_ok (by decide) (by decide) (by decide)
  have b3 : ∀ p, p ∈ [(cn n0Q, cn n1Q)] → p.1.z ≤ 1048576 ∧ p.2.z ≤ 1048576 := fun p hp => by
    obtain rfl := List.mem_singleton.1 hp
    exact ⟨(by decide +kernel : qs n0Q ≤ 1048576), (by decide +kernel : qs n1Q ≤ 1048576)⟩
  have c3 : hasE (sampA [3]) (([(cn n0Q, cn n1Q)] : List (RV × RV)).length : Int) = 0 := sampA_has (by decide) (by decide) (by decide) rfl
  have hl3 : (List.map rdB (spreadV (sampA [3]) [(cn n0Q, cn n1Q)])).length = 2 := by rw [List.length_map, spreadV_ok c3, spreadL_len]; rfl
  refine fn_spec Tryz.func5 rfl rfl Tryz.ntmps5 rfl (by kernel_rfl) rfl rfl ?_
  refine k_sample [3] rfl (by decide) (by decide) ?_
  refine use (num_0) rfl ?_
  refine use (num_1) rfl ?_
  refine k_Boxes (A := (sampA [3])) (Q := [(cn n0Q, cn n1Q)]) (by assumption) (by assumption) fun n23 hk_23_1 => ?_
  refine fork (fun e1 => ?_) (fun e1 => ?_)
  · have f28 : n23 ≠ 0 := bne_t e1
    exfalso
    exact f28 (by rw [hk_23_1]; exact c3)
  · have f28 : ¬ (n23 ≠ 0) := fun hh => hh (bne_f e1)
    refine fork (fun e2 => ?_) (fun e2 => ?_)
    · have f33 : ((List.map rdB (spreadV (sampA [3]) [(cn n0Q, cn n1Q)])).length : Int) ≠ 2 := bne_t e2
      exfalso
      exact f33 (by rw [hl3]; rfl)
    · have f33 : ¬ (((List.map rdB (spreadV (sampA [3]) [(cn n0Q, cn n1Q)])).length : Int) ≠ 2) := fun hh => hh (bne_f e2)
      refine get_ex (l := (spreadV (sampA [3]) [(cn n0Q, cn n1Q)])) (i := 1) (by rw [spreadV_ok c3, spreadL_len]; decide) fun x35 hx35 => ?_
      refine k_ix 1 [D.v (.bool (cn x35.xl).s), D.v (.string (cn x35.xl).a), D.v (.string (cn x35.xl).d), D.v (.bool (cn x35.yl).s), D.v (.string (cn x35.yl).a), D.v (.string (cn x35.yl).d), D.v (.bool (cn x35.xh).s), D.v (.string (cn x35.xh).a), D.v (.string (cn x35.xh).d), D.v (.bool (cn x35.yh).s), D.v (.string (cn x35.yh).a), D.v (.string (cn x35.yh).d)] (by first | rfl | omega | (rw [wrap64 _ (by omega) (by omega)]; omega)) (map_at hx35) rfl ?_
      refine use (pt_of num_0 num_0) rfl ?_
      refine use (pt_of (num_nat 3 (by decide)) (num_nat 3 (by decide))) rfl ?_
      refine k_neq_box_t (box3 hx35) ?_
      refine ⟨by kernel_rfl, ?_⟩
      refine ⟨fun e => absurd e (by decide), fun _ => ?_⟩
      refine k_HasFault (A := A) (n := ((List.map rdv Q).length : Int)) (by assumption) fun n45 hk_45_1 => ?_
      rw [List.length_map] at hk_45_1
      refine k_Spread (A := A) (Q := Q) (by assumption) (by assumption) fun n49 hk_49_1 => ?_
      refine k_Boxes (A := A) (Q := Q) (by assumption) (by assumption) fun n55 hk_55_1 => ?_
      refine fork (fun e4 => ?_) (fun e4 => ?_)
      · have f61 : n49 ≠ n45 := bne_t e4
        exfalso
        exact f61 (by rw [hk_49_1, hk_45_1])
      · have f61 : ¬ (n49 ≠ n45) := fun hh => hh (bne_f e4)
        refine ⟨fun e5 => ?_, fun e5 => ?_⟩
        · have f65 : n55 ≠ n45 := bne_t e5
          exfalso
          exact f65 (by rw [hk_55_1, hk_45_1])
        · have f65 : ¬ (n55 ≠ n45) := fun hh => hh (bne_f e5)
          refine ⟨fun e6 => ?_, fun e6 => ?_⟩
          · have f67 : n45 ≠ 0 := bne_t e6
            have hno : ¬ hasE A (Q.length : Int) = 0 := by rw [← hk_45_1]; exact f67
            refine Eq.trans (b := bool (IntKind.i64.wrap (((List.map rdL (spreadV A Q)).length : Int) + ((List.map rdB (spreadV A Q)).length : Int)) == 0)) ?_ rfl
            rw [spreadV_no hno]; rfl
          · have f67 : ¬ (n45 ≠ 0) := fun hh => hh (bne_f e6)
            have h0 : hasE A (Q.length : Int) = 0 := by rw [← hk_45_1]; exact Classical.not_not.1 f67
            have hA0 := (hasE_ok.1 h0).1
            have hlen0 := (hasE_ok.1 h0).2
            have hlen : Q.length = A.links.length := by omega
            have hn3 := (armE_ok hA0).1
            have hLs : (List.map rqL (spreadL A Q)).length = (spreadL A Q).length := List.length_map ..
            have hL4 := spreadL_len A Q
            refine k_RSpread (A := A) (Q := Q) (by assumption) hA0 hlen (by assumption) ?_
            refine fork (fun e7 => ?_) (fun e7 => ?_)
            · have f82 : ((List.map rdL (spreadV A Q)).length : Int) ≠ ((List.map rqL (spreadL A Q)).length : Int) := bne_t e7
              exfalso
              exact f82 (by rw [hLs, List.length_map, spreadV_ok h0])
            · have f82 : ¬ (((List.map rdL (spreadV A Q)).length : Int) ≠ ((List.map rqL (spreadL A Q)).length : Int)) := fun hh => hh (bne_f e7)
              refine ⟨fun e8 => ?_, fun e8 => ?_⟩
              · have f88 : ((List.map rdB (spreadV A Q)).length : Int) ≠ ((List.map rqL (spreadL A Q)).length : Int) := bne_t e8
                exfalso
                exact f88 (by rw [hLs, List.length_map, spreadV_ok h0])
              · have f88 : ¬ (((List.map rdB (spreadV A Q)).length : Int) ≠ ((List.map rqL (spreadL A Q)).length : Int)) := fun hh => hh (bne_f e8)
                refine ⟨Nat, fun i => [(8, .val (.one (.d (.list (List.map rdL (spreadV A Q)))))), (10, .val (.one (.d (.list (List.map rdB (spreadV A Q)))))), (89, .val (.one (.d (.list (List.map rqL (spreadL A Q)))))), (90, int ((List.map rqL (spreadL A Q)).length : Int)), (91, int (i : Int))],
                  fun i => [], fun i => i ≤ (spreadL A Q).length, fun i => (spreadL A Q).length - i, 0, ?_, Nat.zero_le _, fun i hs => ?_⟩
                · constructor <;> (repeat' (first | exact rfl | exact True.intro | exact ⟨_, _, rfl⟩ | exact (by decide) | apply And.intro))
                  all_goals first | exact congrArg (fun n : Int => D.v (.int .i64 n)) (by omega) | exact congrArg (fun n : Int => D.v (.int .i64 n)) (by rw [wrap64 _ (by omega) (by omega)]; omega) | (simp; done)
                refine ⟨fun e9 => ?_, fun e9 => ?_⟩
                · have f92 : (i : Int) < ((List.map rqL (spreadL A Q)).length : Int) := of_decide_eq_true e9
                  refine get_ex (l := (spreadL A Q)) (i := i) (by first | omega | exact Nat.mod_lt _ (by omega)) fun x94 hx94 => ?_
                  obtain ⟨⟨⟨w1, w2⟩, w3, w4⟩, ⟨w5, w6⟩, w7, w8⟩ := spreadL_z hA0 hx94
                  refine k_ix i [D.v (.bool (decide (x94.xl.num < 0))), D.list (W (w32 x94.xl.num.natAbs)), D.list (W (w32 x94.xl.den)), D.v (.bool (decide (x94.xh.num < 0))), D.list (W (w32 x94.xh.num.natAbs)), D.list (W (w32 x94.xh.den)), D.v (.bool (decide (x94.yl.num < 0))), D.list (W (w32 x94.yl.num.natAbs)), D.list (W (w32 x94.yl.den)), D.v (.bool (decide (x94.yh.num < 0))), D.list (W (w32 x94.yh.num.natAbs)), D.list (W (w32 x94.yh.den)), D.v (.bool (decide (x94.cl.num < 0))), D.list (W (w32 x94.cl.num.natAbs)), D.list (W (w32 x94.cl.den)), D.v (.bool (decide (x94.ch.num < 0))), D.list (W (w32 x94.ch.num.natAbs)), D.list (W (w32 x94.ch.den)), D.v (.bool (decide (x94.sl.num < 0))), D.list (W (w32 x94.sl.num.natAbs)), D.list (W (w32 x94.sl.den)), D.v (.bool (decide (x94.sh.num < 0))), D.list (W (w32 x94.sh.num.natAbs)), D.list (W (w32 x94.sh.den))] (by first | rfl | omega | (rw [wrap64 _ (by omega) (by omega)]; omega)) (map_at hx94) rfl ?_
                  refine k_STo (p := x94.xl) (q := x94.xh) (by omega) (by omega) ?_
                  refine k_STo (p := x94.yl) (q := x94.yh) (by omega) (by omega) ?_
                  refine k_STo (p := x94.cl) (q := x94.ch) (by omega) (by omega) ?_
                  refine k_STo (p := x94.sl) (q := x94.sh) (by omega) (by omega) ?_
                  refine ⟨by kernel_rfl, ?_⟩
                  refine get_ex (l := (spreadV A Q)) (i := i) (by rw [spreadV_ok h0]; omega) fun x111 hx111 => ?_
                  have he111 : x111 = x94 := Option.some.inj (hx111.symm.trans (by rw [spreadV_ok h0]; exact hx94))
                  refine k_ix i [D.v (.bool (cn x111.xl).s), D.v (.string (cn x111.xl).a), D.v (.string (cn x111.xl).d), D.v (.bool (cn x111.xh).s), D.v (.string (cn x111.xh).a), D.v (.string (cn x111.xh).d), D.v (.bool (cn x111.yl).s), D.v (.string (cn x111.yl).a), D.v (.string (cn x111.yl).d), D.v (.bool (cn x111.yh).s), D.v (.string (cn x111.yh).a), D.v (.string (cn x111.yh).d), D.v (.bool (cn x111.cl).s), D.v (.string (cn x111.cl).a), D.v (.string (cn x111.cl).d), D.v (.bool (cn x111.ch).s), D.v (.string (cn x111.ch).a), D.v (.string (cn x111.ch).d), D.v (.bool (cn x111.sl).s), D.v (.string (cn x111.sl).a), D.v (.string (cn x111.sl).d), D.v (.bool (cn x111.sh).s), D.v (.string (cn x111.sh).a), D.v (.string (cn x111.sh).d)] (by first | rfl | omega | (rw [wrap64 _ (by omega) (by omega)]; omega)) (map_at hx111) rfl ?_
                  refine k_neq_loose_t ⟨by rw [he111], by rw [he111], by rw [he111], by rw [he111], by rw [he111], by rw [he111], by rw [he111], by rw [he111]⟩ ?_
                  refine k_ix i [D.v (.bool (cn x111.xl).s), D.v (.string (cn x111.xl).a), D.v (.string (cn x111.xl).d), D.v (.bool (cn x111.yl).s), D.v (.string (cn x111.yl).a), D.v (.string (cn x111.yl).d), D.v (.bool (cn x111.xh).s), D.v (.string (cn x111.xh).a), D.v (.string (cn x111.xh).d), D.v (.bool (cn x111.yh).s), D.v (.string (cn x111.yh).a), D.v (.string (cn x111.yh).d)] (by first | rfl | omega | (rw [wrap64 _ (by omega) (by omega)]; omega)) (map_at hx111) rfl ?_
                  refine k_RBoxed (p := x94.xl) (q := x94.xh) (r := x94.yl) (u := x94.yh) (by omega) (by omega) (by omega) (by omega) ?_
                  refine k_neq_box_t ⟨by rw [he111], by rw [he111], by rw [he111], by rw [he111]⟩ ?_
                  refine k_foBox (a := cn x94.xl) (b := cn x94.xh) (c := cn x94.yl) (d := cn x94.yh) (e := cn x94.cl) (f := cn x94.ch) (g := cn x94.sl) (h := cn x94.sh)  ?_
                  refine k_ix i [D.v (.bool (cn x111.xl).s), D.v (.string (cn x111.xl).a), D.v (.string (cn x111.xl).d), D.v (.bool (cn x111.yl).s), D.v (.string (cn x111.yl).a), D.v (.string (cn x111.yl).d), D.v (.bool (cn x111.xh).s), D.v (.string (cn x111.xh).a), D.v (.string (cn x111.xh).d), D.v (.bool (cn x111.yh).s), D.v (.string (cn x111.yh).a), D.v (.string (cn x111.yh).d)] (by first | rfl | omega | (rw [wrap64 _ (by omega) (by omega)]; omega)) (map_at hx111) rfl ?_
                  refine k_neq_box_t ⟨by rw [he111], by rw [he111], by rw [he111], by rw [he111]⟩ ?_
                  refine ⟨by kernel_rfl, ?_⟩
                  refine ⟨fun e => absurd e (by decide), fun _ => ?_⟩
                  refine ⟨i + 1, by omega, by simp only; omega, ?_⟩
                  constructor <;> (repeat' (first | exact rfl | exact True.intro | apply And.intro))
                  all_goals first
                    | exact congrArg (fun n : Int => D.v (.int .i64 n)) (by rw [wrap64 _ (by omega) (by omega)]; omega)
                    | exact congrArg (fun n : Int => D.v (.int .i64 n)) (by omega)
                · have f92 : ¬ ((i : Int) < ((List.map rqL (spreadL A Q)).length : Int)) := of_decide_eq_false e9
                  refine Eq.trans (b := bool true) ?_ rfl
                  rfl
theorem foreSpreads_walk (v0 : Value) (A0 : ArmV) (v1 : Value) (l1 : List (RV × RV)) (N : Nat) (w : World) (_ : 1 ≤ N) (hN : N ≤ 1048576) (h0 : DenAV w (fun b => b < w.heap.size) noBs noMem v0 (arm A0)) (u0 : A0.zs N) (h1 : Den w (fun b => b < w.heap.size) v1 (.list (l1.map eng.rdv))) (u1 : pairsZ l1 N) (hT : Tab w) :
    Calls Tryz.prog 5 #[v0, v1] w fun e w' => e = .returned (.bool true) ∧ Below w.heap.size w w' :=
  calls_of_specI (I := fun b => b < w.heap.size) (foreSpreads_spec A0 l1 (ok_of_zs u0 (by omega)) (fun p hp => ⟨Nat.le_trans (u1.2 p hp).1 (by omega), Nat.le_trans (u1.2 p hp).2 (by omega)⟩)) rfl hT (fun _ h => h)
    (((pvl_rel (vs := []) rfl).cons (show DenAV _ _ _ _ v1 (.val (.one (.d (.list _)))) from h1)).cons h0)
end
end Go.Proofs.YtjhoddlhdoiifaaGreatDoor.eng
