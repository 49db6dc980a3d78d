/- Contract of gantlaw3.TimingPlans: it returns true. Printed by wip/gp_plan.py. -/
import Derived.Test.YtpejadencgfnnaaGreatDoorPlnA
import Derived.Test.YtpejadencgfnnaaGreatDoorLawTik
namespace Go.Proofs.YtpejadencgfnnaaGreatDoor.eng
open Go.RowKit num mem seg q held ratA ratB ratC ratD ratE vars ratF argopen trq
section
variable {K : AV → Prop}
def smpP : List (List RV) := [natRV [0], natRV [2]]
def smpT : List (Int × List Rat) := [(5, gdL (natRV [0])), (13, gdL (natRV [2]))]
theorem smpP_z : smpP.length ≤ 1048576 ∧ ∀ q, q ∈ smpP → q.length ≤ 1048576 ∧ ∀ x, x ∈ q → x.z ≤ 1048576 := by
  refine ⟨by decide, fun q hq => ?_⟩
  have h : q = natRV [0] ∨ q = natRV [2] := by simpa [smpP] using hq
  rcases h with rfl | rfl <;> exact nat_hl (by decide)
theorem smpP_1 : tkS (sampA [3]) smpP 5 1 = 13 := by
  show 5 + tkA (sampA [3]) (natRV [0]) (natRV [2]) = 13
  rw [tik_A]; rfl
theorem smpP_E : plnE (sampA [3]) smpP 5 = 0 := by
  refine plnE_0 (plnB_0 (sampA_ok (by decide) (by decide) (by decide)) (by decide) (by decide) (by decide)) fun j hj => ?_
  have hj : j < 2 := hj
  rcases (show j = 0 ∨ j = 1 by omega) with rfl | rfl
  · exact plnS_0 (fits3b (n := 0) (by decide)) (by decide)
  · exact plnS_0 (fits3b (n := 2) (by decide)) (by rw [smpP_1]; decide)
theorem smpP_V : plnV (sampA [3]) smpP 5 = smpT := by
  rw [plnV_ok smpP_E]
  show [(tkS (sampA [3]) smpP 5 0, gdL (wAt smpP 0)), (tkS (sampA [3]) smpP 5 1, gdL (wAt smpP 1))] = _
  rw [smpP_1]; rfl
theorem plnV_z {A : ArmV} {L : List (List RV)} {s : Int} (hL : L.length ≤ 1048576 ∧ ∀ q, q ∈ L → q.length ≤ 1048576 ∧ ∀ x, x ∈ q → x.z ≤ 1048576) : (plnV A L s).length ≤ 1048576 ∧ ∀ x, x ∈ plnV A L s → x.2.length ≤ 1048576 := by
  by_cases h : plnE A L s = 0
  · rw [plnV_ok h]
    refine ⟨by rw [plnL_len]; exact hL.1, fun x hx => ?_⟩
    obtain ⟨i, hi, rfl⟩ := List.mem_map.1 (show x ∈ List.map _ _ from hx)
    have hi : i < L.length := by simpa using hi
    show (gdL (wAt L i)).length ≤ _
    rw [gdL_len]
    exact (hL.2 _ (wAt_mem hi)).1
  · rw [plnV_no h]; exact ⟨Nat.zero_le _, fun x hx => by simp at hx⟩
theorem k_PlanS (k : K (.tup [.one (.d (.list (List.map keyC smpT))), .one (.d (.v (.int .i64 0)))])) : Ask 37 [.val (.agg [.d (.v (.string ((sampA [3]).name))), .d (.v (.bool ((sampA [3]).bx).s)), .d (.v (.string ((sampA [3]).bx).a)), .d (.v (.string ((sampA [3]).bx).d)), .d (.v (.bool ((sampA [3]).by').s)), .d (.v (.string ((sampA [3]).by').a)), .d (.v (.string ((sampA [3]).by').d)), .d (.v (.bool ((sampA [3]).bh))), .d (.v (.bool ((sampA [3]).bt).s)), .d (.v (.string ((sampA [3]).bt).a)), .d (.v (.string ((sampA [3]).bt).d)), .d (.list (List.map lk ((sampA [3]).links)))]), .val (.one (.d (.list (List.map rdrs smpP)))), int 5] K := k_Plan (ok_of_zs (sampA_zs (by decide) (by decide)) (by decide)) smpP_z (by decide) fun n hn => by
  obtain rfl := hn.trans smpP_E
  rw [smpP_V]; exact k
set_option maxHeartbeats 8000000 in
set_option maxRecDepth 100000 in
theorem timingPlans_spec (A : ArmV) (L : List (List RV)) (s : Int) (hA : A.ok) (hL : L.length ≤ 1048576 ∧ ∀ q, q ∈ L → q.length ≤ 1048576 ∧ ∀ x, x ∈ q → x.z ≤ 1048576) (hs1 : -9223372036854775808 ≤ s ∧ s ≤ 9223372036854775807) : Spec Tryz.prog Tab 8 [.val (.agg [.d (.v (.string A.name)), .d (.v (.bool A.bx.s)), .d (.v (.string A.bx.a)), .d (.v (.string A.bx.d)), .d (.v (.bool A.by'.s)), .d (.v (.string A.by'.a)), .d (.v (.string A.by'.d)), .d (.v (.bool (A.bh))), .d (.v (.bool A.bt.s)), .d (.v (.string A.bt.a)), .d (.v (.string A.bt.d)), .d (.list (List.map lk A.links))]), .val (.one (.d (.list (List.map rdrs L)))), int s] (bool true) := by
  have hA2 := hA
  obtain ⟨tk, htk⟩ : ∃ tk, tk = tkS A L s := ⟨_, rfl⟩
  have hLL : (List.map rdrs L).length = L.length := List.length_map ..
  have hL1 := hL.1
  have o3 : (sampA [3]).ok := ok_of_zs (sampA_zs (by decide) (by decide)) (by decide)
  have a3 : armE (sampA [3]) = 0 := sampA_ok (by decide) (by decide) (by decide)
  refine fn_spec Tryz.func8 rfl rfl Tryz.ntmps8 rfl (by kernel_rfl) rfl rfl ?_
  refine k_sample [3] rfl (by decide) (by decide) ?_
  refine k_numsR [0] rfl (by decide) (by decide) ?_
  refine k_numsR [2] rfl (by decide) (by decide) ?_
  refine k_PlanS ?_
  refine k_ix 0 [D.v (.int .i64 (5)), D.list (List.map rdc (gdL (natRV [0])))] (by first | rfl | omega | (rw [wrap64 _ (by omega) (by omega)]; omega) | (rw [wrap64 _ (by omega) (by omega)]; split <;> omega)) rfl rfl ?_
  refine k_ix 1 [D.v (.int .i64 (13)), D.list (List.map rdc (gdL (natRV [2])))] (by first | rfl | omega | (rw [wrap64 _ (by omega) (by omega)]; omega) | (rw [wrap64 _ (by omega) (by omega)]; split <;> omega)) rfl rfl ?_
  refine ⟨fun e => absurd e (by decide), fun _ => ?_⟩
  refine k_Plan (A := A) (L := L) (s := s) hA2 hL hs1 fun n49 hk_49_1 => ?_
  refine k_Planned (A := A) (L := L) (s := s) hA2 hL hs1 fun n56 hk_56_1 => ?_
  refine ⟨fun e1 => ?_, fun e1 => ?_⟩
  · have f60 : n56 ≠ 0 := bne_t e1
    refine fork (fun e2 => ?_) (fun e2 => ?_)
    · have f64 : n49 = n56 := beq_t e2
      refine Eq.trans (b := bool (((List.map keyC (plnV A L s)).length : Int) == 0)) ?_ rfl
      rw [plnV_no (by rw [← hk_56_1]; exact f60)]; rfl
    · have f64 : ¬ (n49 = n56) := beq_f e2
      exfalso
      exact f64 (by rw [hk_49_1, hk_56_1])
  · have f60 : ¬ (n56 ≠ 0) := fun hh => hh (bne_f e1)
    refine fork (fun e3 => ?_) (fun e3 => ?_)
    · have f71 : n49 = 0 := beq_t e3
      refine k_Same (plnV A L s) rfl rfl (plnV_z hL).1 (plnV_z hL).2 ?_
      refine Eq.trans (b := bool true) ?_ rfl
      rfl
    · have f71 : ¬ (n49 = 0) := beq_f e3
      exfalso
      exact f71 (by rw [hk_49_1, ← hk_56_1]; exact Classical.not_not.1 f60)
theorem timingPlans_walk (v0 : Value) (A0 : ArmV) (v1 : Value) (l1 : List (List RV)) (x2 : Int) (N : Nat) (w : World) (_ : 1 ≤ N) (hN : N ≤ 1048576) (h0 : DenAV w (fun b => b < w.heap.size) noBs noMem v0 (arm A0)) (u0 : A0.zs N) (h1 : Den w (fun b => b < w.heap.size) v1 (.list (l1.map fun m => [D.list (m.map eng.rd)]))) (u1 : wayZ l1 N) (u2 : -9223372036854775808 ≤ x2 ∧ x2 ≤ 9223372036854775807) (hT : Tab w) :
    Calls Tryz.prog 8 #[v0, v1, .int .i64 x2] w fun e w' => e = .returned (.bool true) ∧ Below w.heap.size w w' :=
  calls_of_specI (I := fun b => b < w.heap.size) (timingPlans_spec A0 l1 x2 (ok_of_zs u0 (by omega)) (zs_way u1 hN) u2) rfl hT (fun _ h => h)
    ((((pvl_rel (vs := []) rfl).cons ((pv_iff (v := int x2) rfl).2 rfl)).cons (show DenAV _ _ _ _ v1 (.val (.one (.d (.list _)))) from h1)).cons h0)
end
end Go.Proofs.YtpejadencgfnnaaGreatDoor.eng
