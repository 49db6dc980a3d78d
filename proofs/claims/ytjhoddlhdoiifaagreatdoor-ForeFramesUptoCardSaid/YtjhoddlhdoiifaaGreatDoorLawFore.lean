/- Contract of gantlaw3.ForeFrames: it returns true. Printed by wip/gp_lawg.py. -/
import Derived.Test.YtjhoddlhdoiifaaGreatDoorForeA
import Derived.Test.YtjhoddlhdoiifaaGreatDoorGrpX
import Derived.Test.YtjhoddlhdoiifaaGreatDoorOpenA
namespace Go.Proofs.YtjhoddlhdoiifaaGreatDoor.eng
open Go.RowKit num mem seg q held ratA ratB ratC ratD ratE vars ratF argopen trq
section
variable {K : AV → Prop}
theorem tip32 : (tipF (sampA [3, 2]) (natRV [0, 1])).x = ((3 : Nat) : Rat) ∧ (tipF (sampA [3, 2]) (natRV [0, 1])).y = n2Q := by
  have hb : baseF (sampA [3, 2]) = ⟨n0Q, n0Q, cosq false n0Q, sinq n0Q⟩ := by
    unfold baseF
    rw [show (sampA [3, 2]).bx.q = n0Q from cn_q _, show (sampA [3, 2]).by'.q = n0Q from cn_q _, show (sampA [3, 2]).bt.q = n0Q from cn_q _]; rfl
  have q0 : qAt (natRV [0, 1]) 0 = ((0 : Nat) : Rat) := (qAt_is rfl).trans (cn_q _)
  have q1 : qAt (natRV [0, 1]) 1 = ((1 : Nat) : Rat) := (qAt_is rfl).trans (cn_q _)
  have l0 : lenAt (sampA [3, 2]) 0 = ((3 : Nat) : Rat) := (lenAt_is rfl).trans (cn_q _)
  have l1 : lenAt (sampA [3, 2]) 1 = ((2 : Nat) : Rat) := (lenAt_is rfl).trans (cn_q _)
  have e : tipF (sampA [3, 2]) (natRV [0, 1]) = longF (turnF (longF (turnF (baseF (sampA [3, 2])) (qAt (natRV [0, 1]) 0)) (lenAt (sampA [3, 2]) 0)) (qAt (natRV [0, 1]) 1)) (lenAt (sampA [3, 2]) 1) := rfl
  rw [e, hb, q0, q1, l0, l1]
  decide +kernel
def fz (l : List RF) : Prop := ∀ f, f ∈ l → qs f.x ≤ 536870912 ∧ qs f.y ≤ 536870912 ∧ qs f.c ≤ 536870912 ∧ qs f.s ≤ 536870912
theorem framesF_z {A : ArmV} {Q : List RV} (hA : armE A = 0) (hQ : ∀ x, x ∈ Q → x.z ≤ 2097152) : fz (framesF A Q) := by
  have hn := (armE_ok hA).1
  intro f hf
  rcases List.mem_append.1 hf with h | h
  · obtain ⟨i, hi, rfl⟩ := List.mem_map.1 h
    have hi : i < A.links.length := by simpa using hi
    obtain ⟨_, c⟩ := chain_z hA hQ i (by omega)
    obtain ⟨h1, h2, h3, h4⟩ := c (by omega)
    exact ⟨by omega, by omega, by omega, by omega⟩
  · obtain rfl : f = endF A Q A.links.length := by simpa using h
    obtain ⟨⟨h1, h2, h3, h4⟩, _⟩ := chain_z hA hQ A.links.length hn
    exact ⟨by omega, by omega, by omega, by omega⟩
set_option maxRecDepth 100000 in
theorem ff1_spec (x y c s : Rat) (hx : qs x ≤ 536870912) (hy : qs y ≤ 536870912) (hc : qs c ≤ 536870912) (hs : qs s ≤ 536870912) : Spec Tryz.prog Tab 32 [frame (cn x) (cn y) (tofH c) (cn (tofQ c s)), q3f x y c s] (bool true) := by
  refine fn_spec Tryz.func32 rfl rfl Tryz.ntmps32 rfl (by kernel_rfl) rfl rfl ?_
  refine k_FTo (x := x) (y := y) (c := c) (s := s) (by omega) (by omega) (by omega) (by omega) ?_
  refine k_eql_frame_t ⟨rfl, rfl, rfl, rfl⟩ ?_
  refine ⟨by kernel_rfl, ?_⟩
  refine Eq.trans (b := bool true) ?_ rfl
  rfl
set_option maxRecDepth 100000 in
theorem ffE_spec (l : List RF) (hl : fz l) (hn : l.length ≤ 1073741824) : Spec Tryz.prog Tab 31 [.val (.one (.d (.list (List.map rdF l)))), .val (.one (.d (.list (List.map rqF l)))), fv 32] (bool true) := by
  have hL1 : (List.map rdF l).length = l.length := List.length_map ..
  have hL2 : (List.map rqF l).length = l.length := List.length_map ..
  refine fn_spec Tryz.func31 rfl rfl Tryz.ntmps31 rfl (by kernel_rfl) rfl rfl ?_
  refine ⟨fun e1 => ?_, fun e1 => ?_⟩
  · have f14 : ((List.map rdF l).length : Int) ≠ ((List.map rqF l).length : Int) := bne_t e1
    exfalso
    exact f14 (by rw [hL1, hL2])
  · have f14 : ¬ (((List.map rdF l).length : Int) ≠ ((List.map rqF l).length : Int)) := fun hh => hh (bne_f e1)
    refine ⟨Nat, fun i => [(1, .val (.one (.d (.list (List.map rqF l))))), (2, fv 32), (15, .val (.one (.d (.list (List.map rdF l))))), (16, int ((List.map rdF l).length : Int)), (17, int (i : Int))],
      fun i => [], fun i => i ≤ l.length, fun i => l.length - i, 0, ?_, Nat.zero_le _, fun i hs => ?_⟩
    · constructor <;> (repeat' (first | exact rfl | exact True.intro | exact ⟨_, _, rfl⟩ | exact (by decide) | apply And.intro))
      all_goals first | exact congrArg (fun n : Int => D.v (.int .i64 n)) (by omega) | exact congrArg (fun n : Int => D.v (.int .i64 n)) (by rw [wrap64 _ (by omega) (by omega)]; omega) | (simp; done)
    refine ⟨fun e2 => ?_, fun e2 => ?_⟩
    · have f18 : (i : Int) < ((List.map rdF l).length : Int) := of_decide_eq_true e2
      refine get_ex (l := l) (i := i) (by first | omega | exact Nat.mod_lt _ (by omega)) fun x20 hx20 => ?_
      obtain ⟨w1x20, w2x20, w3x20, w4x20⟩ := hl x20 (List.mem_of_getElem? hx20)
      refine k_ix i [D.v (.bool (cn x20.x).s), D.v (.string (cn x20.x).a), D.v (.string (cn x20.x).d), D.v (.bool (cn x20.y).s), D.v (.string (cn x20.y).a), D.v (.string (cn x20.y).d), D.v (.bool (tofH x20.c)), D.v (.bool (cn (tofQ x20.c x20.s)).s), D.v (.string (cn (tofQ x20.c x20.s)).a), D.v (.string (cn (tofQ x20.c x20.s)).d)] (by first | rfl | omega | (rw [wrap64 _ (by omega) (by omega)]; omega)) (map_at hx20) rfl ?_
      refine k_ix i [D.v (.bool (decide (x20.x.num < 0))), D.list (W (w32 x20.x.num.natAbs)), D.list (W (w32 x20.x.den)), D.v (.bool (decide (x20.y.num < 0))), D.list (W (w32 x20.y.num.natAbs)), D.list (W (w32 x20.y.den)), D.v (.bool (decide (x20.c.num < 0))), D.list (W (w32 x20.c.num.natAbs)), D.list (W (w32 x20.c.den)), D.v (.bool (decide (x20.s.num < 0))), D.list (W (w32 x20.s.num.natAbs)), D.list (W (w32 x20.s.den))] (by first | rfl | omega | (rw [wrap64 _ (by omega) (by omega)]; omega)) (map_at hx20) rfl ?_
      refine use (ff1_spec x20.x x20.y x20.c x20.s (by omega) (by omega) (by omega) (by omega)) rfl ?_
      refine ⟨fun e => absurd e (by decide), fun _ => ?_⟩
      refine ⟨i + 1, by omega, by simp only; omega, ?_⟩
      constructor <;> (repeat' (first | exact rfl | exact True.intro | apply And.intro))
      all_goals first
        | exact congrArg (fun n : Int => D.v (.int .i64 n)) (by rw [wrap64 _ (by omega) (by omega)]; omega)
        | exact congrArg (fun n : Int => D.v (.int .i64 n)) (by omega)
    · have f18 : ¬ ((i : Int) < ((List.map rdF l).length : Int)) := of_decide_eq_false e2
      refine Eq.trans (b := bool true) ?_ rfl
      rfl
theorem ffE2_spec {l m : List RF} (e : m = l) (hl : fz l) (hn : l.length ≤ 1073741824) : Spec Tryz.prog Tab 31 [.val (.one (.d (.list (List.map rdF m)))), .val (.one (.d (.list (List.map rqF l)))), fv 32] (bool true) := by
  subst e; exact ffE_spec m hl hn
set_option maxHeartbeats 8000000 in
set_option maxRecDepth 100000 in
theorem foreFrames_spec (A : ArmV) (Q : List RV) (hA : A.ok) (hQ : ∀ x, x ∈ Q → x.z ≤ 2097151) : Spec Tryz.prog Tab 4 [.val (.agg [.d (.v (.string A.name)), .d (.v (.bool A.bx.s)), .d (.v (.string A.bx.a)), .d (.v (.string A.bx.d)), .d (.v (.bool A.by'.s)), .d (.v (.string A.by'.a)), .d (.v (.string A.by'.d)), .d (.v (.bool (A.bh))), .d (.v (.bool A.bt.s)), .d (.v (.string A.bt.a)), .d (.v (.string A.bt.d)), .d (.list (List.map lk A.links))]), .val (.one (.d (.list (List.map rd Q))))] (bool true) := by
  have hA2 := hA
  obtain ⟨z1, z2, z3, z4, z5, z6⟩ := hA
  have hL : (List.map lk A.links).length = A.links.length := List.length_map ..
  have hLq : (List.map rd Q).length = Q.length := List.length_map ..
  have hQ2 : ∀ x, x ∈ Q → x.z ≤ 2097152 := fun x hx => Nat.le_trans (hQ x hx) (by decide)
  have o32 : (sampA [3, 2]).ok := ok_of_zs (sampA_zs (by decide) (by decide)) (by decide)
  have a32 : armE (sampA [3, 2]) = 0 := sampA_ok (by decide) (by decide) (by decide)
  have b32 : ∀ x, x ∈ natRV [0, 1] → x.z ≤ 2097151 := fun x hx => Nat.le_trans (natRV_z (by decide) x hx) (by decide)
  have c32 : hasE (sampA [3, 2]) ((natRV [0, 1]).length : Int) = 0 := sampA_has (by decide) (by decide) (by decide) rfl
  refine fn_spec Tryz.func4 rfl rfl Tryz.ntmps4 rfl (by kernel_rfl) rfl rfl ?_
  refine k_sample [3, 2] rfl (by decide) (by decide) ?_
  refine k_numsR [0, 1] rfl (by decide) (by decide) ?_
  refine k_Tip (A := (sampA [3, 2])) (Q := (natRV [0, 1])) (by assumption) (by assumption) fun n18 hk_18_1 => ?_
  refine fork (fun e1 => ?_) (fun e1 => ?_)
  · have f23 : n18 ≠ 0 := bne_t e1
    exfalso
    exact f23 (by rw [hk_18_1]; exact c32)
  · have f23 : ¬ (n18 ≠ 0) := fun hh => hh (bne_f e1)
    refine use (pt_of (num_nat 3 (by decide)) num_2) rfl ?_
    refine k_neq_vec_t ⟨by rw [tipN_ok c32, tip32.1], by rw [tipN_ok c32, tip32.2]⟩ ?_
    refine ⟨by kernel_rfl, ?_⟩
    refine ⟨fun e => absurd e (by decide), fun _ => ?_⟩
    refine k_HasFault (A := A) (n := ((List.map rd Q).length : Int)) (by assumption) fun n32 hk_32_1 => ?_
    rw [List.length_map] at hk_32_1
    refine k_Frames (A := A) (Q := Q) (by assumption) (by assumption) fun n36 hk_36_1 => ?_
    refine k_Tip (A := A) (Q := Q) (by assumption) (by assumption) fun n42 hk_42_1 => ?_
    refine fork (fun e3 => ?_) (fun e3 => ?_)
    · have f48 : n36 ≠ n32 := bne_t e3
      exfalso
      exact f48 (by rw [hk_36_1, hk_32_1])
    · have f48 : ¬ (n36 ≠ n32) := fun hh => hh (bne_f e3)
      refine ⟨fun e4 => ?_, fun e4 => ?_⟩
      · have f52 : n42 ≠ n32 := bne_t e4
        exfalso
        exact f52 (by rw [hk_42_1, hk_32_1])
      · have f52 : ¬ (n42 ≠ n32) := fun hh => hh (bne_f e4)
        refine ⟨fun e5 => ?_, fun e5 => ?_⟩
        · have f54 : n32 ≠ 0 := bne_t e5
          have hno : ¬ hasE A (Q.length : Int) = 0 := by rw [← hk_32_1]; exact f54
          refine fork (fun e6 => ?_) (fun e6 => ?_)
          · have f58 : ((List.map rdF (framesV A Q)).length : Int) = 0 := beq_t e6
            refine k_eql_frame_t ⟨tipN_no hno _, tipN_no hno _, tipB_no hno _, tipN_no hno _⟩ ?_
            refine Eq.trans (b := bool true) ?_ rfl
            rfl
          · have f58 : ¬ (((List.map rdF (framesV A Q)).length : Int) = 0) := beq_f e6
            exfalso
            exact f58 (by rw [framesV_no hno]; rfl)
        · have f54 : ¬ (n32 ≠ 0) := fun hh => hh (bne_f e5)
          have h0 : hasE A (Q.length : Int) = 0 := by rw [← hk_32_1]; exact Classical.not_not.1 f54
          have hA0 := (hasE_ok.1 h0).1
          have hlen0 := (hasE_ok.1 h0).2
          have hlen : Q.length = A.links.length := by omega
          have hn3 := (armE_ok hA0).1
          have hLf : (framesF A Q).length = A.links.length + 1 := framesF_len A Q
          have hLg : (List.map rqF (framesF A Q)).length = (framesF A Q).length := List.length_map ..
          refine k_RFrames (A := A) (Q := Q) (by assumption) hA0 hlen (by assumption) ?_
          refine get_ex (l := (framesF A Q)) (i := ((framesF A Q).length - 1)) (by first | omega | exact Nat.mod_lt _ (by omega)) fun x71 hx71 => ?_
          have hwx71 := framesF_z hA0 hQ2 x71 (List.mem_of_getElem? hx71)
          have hxt : x71 = tipF A Q := framesF_last (by rw [show A.links.length = (framesF A Q).length - 1 from by omega]; exact hx71)
          refine k_ix ((framesF A Q).length - 1) [D.v (.bool (decide (x71.x.num < 0))), D.list (W (w32 x71.x.num.natAbs)), D.list (W (w32 x71.x.den)), D.v (.bool (decide (x71.y.num < 0))), D.list (W (w32 x71.y.num.natAbs)), D.list (W (w32 x71.y.den)), D.v (.bool (decide (x71.c.num < 0))), D.list (W (w32 x71.c.num.natAbs)), D.list (W (w32 x71.c.den)), D.v (.bool (decide (x71.s.num < 0))), D.list (W (w32 x71.s.num.natAbs)), D.list (W (w32 x71.s.den))] (by first | rfl | omega | (rw [wrap64 _ (by omega) (by omega)]; omega)) (map_at hx71) rfl ?_
          refine k_FTo (x := x71.x) (y := x71.y) (c := x71.c) (s := x71.s) (by omega) (by omega) (by omega) (by omega) ?_
          refine k_eql_frame_t ⟨by rw [tipN_ok h0, hxt], by rw [tipN_ok h0, hxt], by rw [tipB_ok h0, hxt], by rw [tipN_ok h0, hxt]⟩ ?_
          refine use (ffE2_spec (framesV_ok h0) (framesF_z hA0 hQ2) (by rw [framesF_len]; omega)) rfl ?_
          refine ⟨by kernel_rfl, ?_⟩
          refine Eq.trans (b := bool true) ?_ rfl
          rfl
theorem foreFrames_walk (v0 : Value) (A0 : ArmV) (v1 : Value) (l1 : List RV) (N : Nat) (w : World) (_ : 1 ≤ N) (hN : N ≤ 1048576) (h0 : DenAV w (fun b => b < w.heap.size) noBs noMem v0 (arm A0)) (u0 : A0.zs N) (h1 : Den w (fun b => b < w.heap.size) v1 (.list (l1.map eng.rd))) (u1 : ratsZ l1 N) (hT : Tab w) :
    Calls Tryz.prog 4 #[v0, v1] w fun e w' => e = .returned (.bool true) ∧ Below w.heap.size w w' :=
  calls_of_specI (I := fun b => b < w.heap.size) (foreFrames_spec A0 l1 (ok_of_zs u0 (by omega)) (fun x hx => Nat.le_trans (u1.2 x hx) (by omega))) rfl hT (fun _ h => h)
    (((pvl_rel (vs := []) rfl).cons (show DenAV _ _ _ _ v1 (.val (.one (.d (.list _)))) from h1)).cons h0)
end
end Go.Proofs.YtjhoddlhdoiifaaGreatDoor.eng
