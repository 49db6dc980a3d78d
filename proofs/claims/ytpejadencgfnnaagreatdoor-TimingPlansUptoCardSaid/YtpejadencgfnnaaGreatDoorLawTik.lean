/- Contract of gantlaw3.TimingTicks: it returns true. Printed by wip/gp_tik.py. -/
import Derived.Test.YtpejadencgfnnaaGreatDoorGrpG
import Derived.Test.YtpejadencgfnnaaGreatDoorGrpX
import Derived.Test.YtpejadencgfnnaaGreatDoorOpenA
namespace Go.Proofs.YtpejadencgfnnaaGreatDoor.eng
open Go.RowKit num mem seg q held ratA ratB ratC ratD ratE vars ratF argopen trq
section
variable {K : AV → Prop}
theorem fits3b {n : Nat} (h : n < 3) : fitsE (sampA [3]) (natRV [n]) = 0 := by
  have c : hasE (sampA [3]) ((natRV [n]).length : Int) = 0 := sampA_has (by decide) (by decide) (by decide) rfl
  unfold fitsE
  rw [if_pos c, if_neg]
  rintro ⟨i, l, x, hl, hx, hh⟩
  have hi : i < 1 := (List.getElem?_eq_some_iff.1 hx).1
  obtain rfl : i = 0 := by omega
  obtain rfl := Option.some.inj (show some (sampL 3) = some l from hl)
  obtain rfl := Option.some.inj (show some (cn (n : Rat)) = some x from hx)
  rw [cn_q, show (sampL 3).low.q = m2Q from cn_q _, show (sampL 3).high.q = n2Q from cn_q _] at hh
  rcases (show n = 0 ∨ n = 1 ∨ n = 2 by omega) with rfl | rfl | rfl <;> revert hh <;> decide +kernel
theorem tik_A : tkA (sampA [3]) (natRV [0]) (natRV [2]) = 8 := by
  have e : tkQ (sampA [3]) (natRV [0]) (natRV [2]) 0 = absV (((2 : Nat) : Rat) - ((0 : Nat) : Rat)) / q4Q := by
    unfold tkQ
    rw [qAt_is (x := cn ((2 : Nat) : Rat)) rfl, qAt_is (x := cn ((0 : Nat) : Rat)) rfl, spdAt_is (l := sampL 3) rfl, cn_q, cn_q, show (sampL 3).speed.q = q4Q from cn_q _]
  show max 1 (clQ (tkQ (sampA [3]) (natRV [0]) (natRV [2]) 0)) = 8
  rw [e]
  decide +kernel
theorem tik_E : tikE (sampA [3]) (natRV [0]) (natRV [2]) = 0 := tikE_0 (fits3b (by decide)) (fits3b (by decide)) (by rw [tik_A]; decide)
theorem tik_V : tikV (sampA [3]) (natRV [0]) (natRV [2]) = 8 := (tikV_ok tik_E).trans tik_A
theorem nat_hl {n : Nat} (h : n < 256) : (natRV [n]).length ≤ 1048576 ∧ ∀ x, x ∈ natRV [n] → x.z ≤ 1048576 := ⟨by show 1 ≤ 1048576; omega, fun x hx => Nat.le_trans (natRV_z (fun m hm => by obtain rfl := List.mem_singleton.1 hm; exact h) x hx) (by decide)⟩
set_option maxHeartbeats 4000000 in
set_option maxRecDepth 100000 in
theorem timingTicks_spec (A : ArmV) (l m : List RV) (hA : A.ok) (hl : l.length ≤ 1048576 ∧ ∀ x, x ∈ l → x.z ≤ 1048576) (hm : m.length ≤ 1048576 ∧ ∀ x, x ∈ m → x.z ≤ 1048576) : Spec Tryz.prog Tab 7 [.val (.agg [.d (.v (.string A.name)), .d (.v (.bool A.bx.s)), .d (.v (.string A.bx.a)), .d (.v (.string A.bx.d)), .d (.v (.bool A.by'.s)), .d (.v (.string A.by'.a)), .d (.v (.string A.by'.d)), .d (.v (.bool (A.bh))), .d (.v (.bool A.bt.s)), .d (.v (.string A.bt.a)), .d (.v (.string A.bt.d)), .d (.list (List.map lk A.links))]), .val (.one (.d (.list (List.map rd l)))), .val (.one (.d (.list (List.map rd m))))] (bool true) := by
  have hA2 := hA
  have hl1 := hl.1
  have hm1 := hm.1
  have o3 : (sampA [3]).ok := ok_of_zs (sampA_zs (by decide) (by decide)) (by decide)
  have a3 : armE (sampA [3]) = 0 := sampA_ok (by decide) (by decide) (by decide)
  refine fn_spec Tryz.func7 rfl rfl Tryz.ntmps7 rfl (by kernel_rfl) rfl rfl ?_
  refine k_sample [3] rfl (by decide) (by decide) ?_
  refine k_numsR [0] rfl (by decide) (by decide) ?_
  refine k_numsR [2] rfl (by decide) (by decide) ?_
  refine k_Ticks (A := sampA [3]) (l := natRV [0]) (m := natRV [2]) o3 (nat_hl (by decide)) (nat_hl (by decide)) fun v20 n20 hk_20_2 hk_20_3 => ?_
  obtain rfl := hk_20_2.trans tik_V
  obtain rfl := hk_20_3.trans tik_E
  refine ⟨fun e => absurd e (by decide), fun _ => ?_⟩
  refine k_RFits (A := A) (Q := l) hA2 (fun x hx => Nat.le_trans (hl.2 x hx) (by decide)) (Nat.le_trans hl.1 (by decide)) fun n31 hk_31_1 => ?_
  refine ⟨fun e1 => ?_, fun e1 => ?_⟩
  · have f33 : n31 = 0 := beq_t e1
    refine k_RFits (A := A) (Q := m) hA2 (fun x hx => Nat.le_trans (hm.2 x hx) (by decide)) (Nat.le_trans hm.1 (by decide)) fun n36 hk_36_1 => ?_
    refine k_Ticks (A := A) (l := l) (m := m) hA2 hl hm fun v41 n41 hk_41_2 hk_41_3 => ?_
    refine ⟨fun e2 => ?_, fun e2 => ?_⟩
    · have f45 : n36 ≠ 0 := bne_t e2
      refine fork (fun e3 => ?_) (fun e3 => ?_)
      · have f49 : n41 = n36 := beq_t e3
        refine Eq.trans (b := bool (v41 == 0)) ?_ rfl
        have hf1 : fitsE A l = 0 := by rw [← hk_31_1]; exact f33
        have hno : ¬ fitsE A m = 0 := by rw [← hk_36_1]; exact f45
        have hE := tikE_2 hf1 hno
        have hV := tikV_no (A := A) (l := l) (m := m) (by rw [hE]; exact hno)
        rw [hk_41_2, hV]; rfl
      · have f49 : ¬ (n41 = n36) := beq_f e3
        exfalso
        exact f49 (by rw [hk_41_3, hk_36_1]; exact tikE_2 (by rw [← hk_31_1]; exact f33) (by rw [← hk_36_1]; exact f45))
    · have f45 : ¬ (n36 ≠ 0) := fun hh => hh (bne_f e2)
      have hf1 : fitsE A l = 0 := by rw [← hk_31_1]; exact f33
      have hf2 : fitsE A m = 0 := by rw [← hk_36_1]; exact Classical.not_not.1 f45
      refine k_RTicks (A := A) (l := l) (m := m) hA2 hl hm hf1 hf2 fun v56 hv56 => ?_
      refine ⟨fun e4 => ?_, fun e4 => ?_⟩
      · have f58 : v56 ≤ 2000 := of_decide_eq_true e4
        refine fork (fun e5 => ?_) (fun e5 => ?_)
        · have f61 : n41 = 0 := beq_t e5
          refine Eq.trans (b := bool (v41 == v56)) ?_ rfl
          have hE := tikE_0 hf1 hf2 (show tkA A l m ≤ 2000 from by rw [← hv56]; exact f58)
          rw [hk_41_2, tikV_ok hE, hv56]; simp
        · have f61 : ¬ (n41 = 0) := beq_f e5
          exfalso
          exact f61 (by rw [hk_41_3]; exact tikE_0 hf1 hf2 (by rw [← hv56]; exact f58))
      · have f58 : ¬ (v56 ≤ 2000) := of_decide_eq_false e4
        refine fork (fun e6 => ?_) (fun e6 => ?_)
        · have f68 : n41 = 19 := beq_t e6
          refine Eq.trans (b := bool (v41 == 0)) ?_ rfl
          have hE := tikE_3 hf1 hf2 (show ¬ tkA A l m ≤ 2000 from by rw [← hv56]; exact f58)
          rw [hk_41_2, tikV_no (by rw [hE]; decide)]; rfl
        · have f68 : ¬ (n41 = 19) := beq_f e6
          exfalso
          exact f68 (by rw [hk_41_3]; exact tikE_3 hf1 hf2 (by rw [← hv56]; exact f58))
  · have f33 : ¬ (n31 = 0) := beq_f e1
    refine k_Ticks (A := A) (l := l) (m := m) hA2 hl hm fun v41 n41 hk_41_2 hk_41_3 => ?_
    refine ⟨fun e7 => ?_, fun e7 => ?_⟩
    · have f45 : n31 ≠ 0 := bne_t e7
      refine fork (fun e8 => ?_) (fun e8 => ?_)
      · have f49 : n41 = n31 := beq_t e8
        refine Eq.trans (b := bool (v41 == 0)) ?_ rfl
        have hno : ¬ fitsE A l = 0 := by rw [← hk_31_1]; exact f33
        have hE := tikE_1 (m := m) hno
        have hV := tikV_no (A := A) (l := l) (m := m) (by rw [hE]; exact hno)
        rw [hk_41_2, hV]; rfl
      · have f49 : ¬ (n41 = n31) := beq_f e8
        exfalso
        exact f49 (by rw [hk_41_3, hk_31_1]; exact tikE_1 (by rw [← hk_31_1]; exact f33))
    · have f45 : ¬ (n31 ≠ 0) := fun hh => hh (bne_f e7)
      exfalso
      exact f33 (Classical.not_not.1 f45)
theorem timingTicks_walk (v0 : Value) (A0 : ArmV) (v1 : Value) (l1 : List RV) (v2 : Value) (l2 : List RV) (N : Nat) (w : World) (_ : 1 ≤ N) (hN : N ≤ 1048576) (h0 : DenAV w (fun b => b < w.heap.size) noBs noMem v0 (arm A0)) (u0 : A0.zs N) (h1 : Den w (fun b => b < w.heap.size) v1 (.list (l1.map eng.rd))) (u1 : ratsZ l1 N) (h2 : Den w (fun b => b < w.heap.size) v2 (.list (l2.map eng.rd))) (u2 : ratsZ l2 N) (hT : Tab w) :
    Calls Tryz.prog 7 #[v0, v1, v2] w fun e w' => e = .returned (.bool true) ∧ Below w.heap.size w w' :=
  calls_of_specI (I := fun b => b < w.heap.size) (timingTicks_spec A0 l1 l2 (ok_of_zs u0 (by omega)) ⟨Nat.le_trans u1.1 (by omega), fun x hx => Nat.le_trans (u1.2 x hx) (by omega)⟩ ⟨Nat.le_trans u2.1 (by omega), fun x hx => Nat.le_trans (u2.2 x hx) (by omega)⟩) rfl hT (fun _ h => h)
    ((((pvl_rel (vs := []) rfl).cons (show DenAV _ _ _ _ v2 (.val (.one (.d (.list _)))) from h2)).cons (show DenAV _ _ _ _ v1 (.val (.one (.d (.list _)))) from h1)).cons h0)
end
end Go.Proofs.YtpejadencgfnnaaGreatDoor.eng
