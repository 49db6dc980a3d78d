/- Contract of gantlaw3.TrackChecks: it returns true. Printed by wip/gp_tck.py. -/
import Derived.Test.YtjhoddlhdoiifaaGreatDoorGrpU
import Derived.Test.YtjhoddlhdoiifaaGreatDoorGrpX
import Derived.Test.YtjhoddlhdoiifaaGreatDoorOpenA
import Derived.Test.YtjhoddlhdoiifaaGreatDoorGrpY
namespace Go.Proofs.YtjhoddlhdoiifaaGreatDoor.eng
open Go.RowKit num mem seg q held ratA ratB ratC ratD ratE vars ratF argopen
section
variable {K : AV → Prop}
def q2Q : Rat := ((1 : Int) : Rat) / ((2 : Int) : Rat)
theorem cn_q2 : cn q2Q = ⟨false, enc 1, enc 2⟩ := by
  unfold cn
  rw [show q2Q.num = 1 by decide +kernel, show q2Q.den = 2 by decide +kernel]
  rfl
theorem num_h : Spec Tryz.prog Tab 16 [int 1, int 2] (rat (cn q2Q)) := num_of (mOf1_spec 2 q2Q (by decide) (by decide) cn_q2)
theorem tz_of {t : List (Int × List RV)} {N : Nat} (h : trackZ t N) (hN : N ≤ 1048576) : tz t := zs_track h hN
def keyedL : List (Int × List RV) := [(10, natRV [0]), (20, natRV [1])]
theorem keyedL_z : tz keyedL := by
  refine ⟨by decide, fun k hk => ?_⟩
  have h : k = (10, natRV [0]) ∨ k = (20, natRV [1]) := by simpa [keyedL] using hk
  rcases h with rfl | rfl
  · exact ⟨by decide, by decide, fun x hx => Nat.le_trans (natRV_z (by decide) x hx) (by decide)⟩
  · exact ⟨by decide, by decide, fun x hx => Nat.le_trans (natRV_z (by decide) x hx) (by decide)⟩
theorem tz_nil : tz [] := ⟨by decide, fun k hk => by simp at hk⟩
set_option maxRecDepth 100000 in
theorem keyed_spec  : Spec Tryz.prog Tab 62 [] (.val (.one (.d (.list (List.map keyD keyedL))))) := by
  refine fn_spec Tryz.func62 rfl rfl Tryz.ntmps62 rfl (by kernel_rfl) rfl rfl ?_
  refine k_numsR [0] rfl (by decide) (by decide) ?_
  refine k_numsR [1] rfl (by decide) (by decide) ?_
  refine Eq.trans (b := .val (.one (.d (.list ([[D.v (.int .i64 (10)), D.list (List.map rd (natRV [0]))], [D.v (.int .i64 (20)), D.list (List.map rd (natRV [1]))]]))))) ?_ rfl
  rfl
theorem k_keyed (k : K (.val (.one (.d (.list (List.map keyD keyedL)))))) : Ask 62 [] K := use keyed_spec rfl k
theorem fits3 {n : Nat} (h : n < 2) : fitsE (sampA [3]) (natRV [n]) = 0 := by
  have c : hasE (sampA [3]) ((natRV [n]).length : Int) = 0 := sampA_has (by decide) (by decide) (by decide) rfl
  unfold fitsE
  rw [if_pos c, if_neg]
  rintro ⟨i, l, x, hl, hx, hh⟩
  have hi : i < 1 := (List.getElem?_eq_some_iff.1 hx).1
  obtain rfl : i = 0 := by omega
  obtain rfl := Option.some.inj (show some (sampL 3) = some l from hl)
  obtain rfl := Option.some.inj (show some (cn (n : Rat)) = some x from hx)
  rw [cn_q, show (sampL 3).low.q = m2Q from cn_q _, show (sampL 3).high.q = n2Q from cn_q _] at hh
  rcases (show n = 0 ∨ n = 1 by omega) with rfl | rfl <;> revert hh <;> decide +kernel
theorem keyedL_ok : trackE (sampA [3]) keyedL = 0 := by
  have a3 : armE (sampA [3]) = 0 := sampA_ok (by decide) (by decide) (by decide)
  refine trackE_ok a3 (by decide) (by decide) fun j hj => ?_
  have k0 : key1 (sampA [3]) (10, natRV [0]) = 0 := key1_ok.2 ⟨by decide, fits3 (by decide)⟩
  have k1 : key1 (sampA [3]) (20, natRV [1]) = 0 := key1_ok.2 ⟨by decide, fits3 (by decide)⟩
  have hj : j < 2 := hj
  rcases (show j = 0 ∨ j = 1 by omega) with rfl | rfl
  · rw [keyE_0 (k := (10, natRV [0])) rfl, k0]
  · refine (keyE_s (p := (10, natRV [0])) (k := (20, natRV [1])) (by decide) rfl rfl).trans (key2_0 k1 (by decide) ?_)
    rintro ⟨i, l, x, y, hl, hx, hy, hh⟩
    have hi : i < 1 := (List.getElem?_eq_some_iff.1 hx).1
    obtain rfl : i = 0 := by omega
    obtain rfl := Option.some.inj (show some (sampL 3) = some l from hl)
    obtain rfl := Option.some.inj (show some (cn ((0 : Nat) : Rat)) = some x from hx)
    obtain rfl := Option.some.inj (show some (cn ((1 : Nat) : Rat)) = some y from hy)
    rw [cn_q, cn_q, show (sampL 3).speed.q = q4Q from cn_q _] at hh
    revert hh; decide +kernel
theorem at15 : atL keyedL 15 = [q2Q] := by
  show itL _ _ _ _ = _
  show [itF _ (natRV [0]) (natRV [1]) 0] = _
  unfold itF
  rw [show qAt (natRV [0]) 0 = ((0 : Nat) : Rat) from (qAt_is rfl).trans (cn_q _), show qAt (natRV [1]) 0 = ((1 : Nat) : Rat) from (qAt_is rfl).trans (cn_q _)]
  decide +kernel
set_option maxHeartbeats 4000000 in
set_option maxRecDepth 100000 in
theorem tracks_spec  : Spec Tryz.prog Tab 57 [] (bool true) := by
  have o3 : (sampA [3]).ok := ok_of_zs (sampA_zs (by decide) (by decide)) (by decide)
  have a3 : armE (sampA [3]) = 0 := sampA_ok (by decide) (by decide) (by decide)
  refine fn_spec Tryz.func57 rfl rfl Tryz.ntmps57 rfl (by kernel_rfl) rfl rfl ?_
  refine k_keyed ?_
  refine k_TAt (t := keyedL) 15 rfl keyedL_z (by decide) ?_
  refine use (num_h) rfl ?_
  refine k_equalT (l := atL keyedL 15) (m := [q2Q]) at15 rfl rfl (by rw [at15]; decide) ?_
  refine k_sample [3] rfl (by decide) (by decide) ?_
  refine k_TCheck (A := (sampA [3])) (t := []) (by assumption) tz_nil fun n9 hk_9_1 => ?_
  refine Eq.trans (b := bool (n9 == 14)) ?_ rfl
  rw [show n9 = 14 from by rw [hk_9_1]; exact trackE_nil a3 rfl]; rfl
theorem k_tracks (k : K (bool true)) : Ask 57 [] K := use tracks_spec rfl k
set_option maxHeartbeats 4000000 in
set_option maxRecDepth 100000 in
theorem trackChecks_spec (A : ArmV) (t : List (Int × List RV)) (hA : A.ok) (ht : tz t) : Spec Tryz.prog Tab 10 [.val (.agg [.d (.v (.string A.name)), .d (.v (.bool A.bx.s)), .d (.v (.string A.bx.a)), .d (.v (.string A.bx.d)), .d (.v (.bool A.by'.s)), .d (.v (.string A.by'.a)), .d (.v (.string A.by'.d)), .d (.v (.bool (A.bh))), .d (.v (.bool A.bt.s)), .d (.v (.string A.bt.a)), .d (.v (.string A.bt.d)), .d (.list (List.map lk A.links))]), .val (.one (.d (.list (List.map keyD t))))] (bool true) := by
  have o3 : (sampA [3]).ok := ok_of_zs (sampA_zs (by decide) (by decide)) (by decide)
  have a3 : armE (sampA [3]) = 0 := sampA_ok (by decide) (by decide) (by decide)
  refine fn_spec Tryz.func10 rfl rfl Tryz.ntmps10 rfl (by kernel_rfl) rfl rfl ?_
  refine k_tracks ?_
  refine k_sample [3] rfl (by decide) (by decide) ?_
  refine k_keyed ?_
  refine k_TCheck (A := (sampA [3])) (t := keyedL) (by assumption) keyedL_z fun n10 hk_10_1 => ?_
  refine fork (fun e1 => ?_) (fun e1 => ?_)
  · have f13 : n10 = 0 := beq_t e1
    refine k_TCheck (A := A) (t := t) (by assumption) ht fun n16 hk_16_1 => ?_
    refine k_RTrk (A := A) (t := t) (by assumption) ht fun n19 hk_19_1 => ?_
    refine ⟨by kernel_rfl, ?_⟩
    refine Eq.trans (b := bool (n16 == n19)) ?_ rfl
    rw [hk_16_1, hk_19_1]; exact congrArg bool (beq_self_eq_true _).symm
  · have f13 : ¬ (n10 = 0) := beq_f e1
    exfalso
    exact f13 (by rw [hk_10_1]; exact keyedL_ok)
theorem trackChecks_walk (v0 : Value) (A0 : ArmV) (v1 : Value) (l1 : List (Int × List RV)) (N : Nat) (w : World) (_ : 1 ≤ N) (hN : N ≤ 1048576) (h0 : DenAV w (fun b => b < w.heap.size) noBs noMem v0 (arm A0)) (u0 : A0.zs N) (h1 : Den w (fun b => b < w.heap.size) v1 (.list (l1.map keyD))) (u1 : trackZ l1 N) (hT : Tab w) :
    Calls Tryz.prog 10 #[v0, v1] w fun e w' => e = .returned (.bool true) ∧ Below w.heap.size w w' :=
  calls_of_specI (I := fun b => b < w.heap.size) (trackChecks_spec A0 l1 (ok_of_zs u0 (by omega)) (tz_of u1 hN)) rfl hT (fun _ h => h)
    (((pvl_rel (vs := []) rfl).cons (show DenAV _ _ _ _ v1 (.val (.one (.d (.list _)))) from h1)).cons h0)
end
end Go.Proofs.YtjhoddlhdoiifaaGreatDoor.eng
