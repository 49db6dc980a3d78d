/- Contract of gantlaw1.BorderFrom: it returns true. Printed by wip/gp_brd.py. -/
import Derived.Test.YtpejadencgfnnaaDoorBrdR
namespace Go.Proofs.YtpejadencgfnnaaDoor.eng
open Go.RowKit num mem seg q held ratA ratB ratC ratD ratE vars ratF
set_option exponentiation.threshold 4000
section
variable {K : AV → Prop}
theorem bHi_z {m : Nat} (h : m < 9218868437227405312) : qs (bHi m) ≤ 3000 := by
  have := flt_qs (b := m) (by omega)
  have := flt_qs (b := m + 1) (by omega)
  have := qs_add (fltQ m) (fltQ (m + 1))
  have := qs_mul (((1 : Int) : Rat) / ((2 : Int) : Rat)) (fltQ m + fltQ (m + 1))
  have : qs (((1 : Int) : Rat) / ((2 : Int) : Rat)) ≤ 8 := by decide +kernel
  unfold bHi; omega
theorem bLo_z {m : Nat} (h : m < 9218868437227405312) : qs (bLo m) ≤ 3001 := by
  by_cases h0 : 0 < m
  · have := flt_qs (b := m) (by omega)
    have := flt_qs (b := m - 1) (by omega)
    have := qs_add (fltQ m) (fltQ (m - 1))
    have := qs_mul (((1 : Int) : Rat) / ((2 : Int) : Rat)) (fltQ m + fltQ (m - 1))
    have : qs (((1 : Int) : Rat) / ((2 : Int) : Rat)) ≤ 8 := by decide +kernel
    rw [bLo_pos h0]; omega
  · have := bHi_z h
    have := qs_neg (bHi m)
    rw [bLo_zero h0]; omega
theorem one_E : frE 4607182418800017408 = 0 := by decide
theorem one_A : frA 4607182418800017408 = cn (bLo 4607182418800017408) := (fr_ok (by decide)).2.1.trans (congrArg cn (frLo_pos (by decide)).1)
theorem one_B : frB 4607182418800017408 = cn (bHi 4607182418800017408) := (fr_ok (by decide)).2.2.trans (congrArg cn (frLo_pos (by decide)).2)
set_option maxHeartbeats 2000000 in
set_option maxRecDepth 100000 in
theorem borderBegun_spec  : Spec Tryd.prog Tab 4 [] (bool true) := by
  refine fn_spec Tryd.func4 rfl rfl Tryd.ntmps4 rfl (by kernel_rfl) rfl rfl ?_
  refine k_From 4607182418800017408 rfl (by decide) fun x4 z4 n4 hn4 hx4 hz4 => ?_
  rw [one_E] at hn4
  rw [one_A] at hx4
  rw [one_B] at hz4
  subst hn4 hx4 hz4
  refine k_spanBegun ?_
  refine k_num 1 1 (by decide) (by decide) (by decide) (by decide) (by decide +kernel) fun q14 h14 z14 => ?_
  simp only [cn_z] at z14
  refine k_sHas (x := cn (bLo 4607182418800017408)) (y := cn (bHi 4607182418800017408)) (z := cn q14) (Nat.le_trans (Nat.le_of_eq (cn_z _)) (Nat.le_trans (bLo_z (by decide)) (by decide))) (Nat.le_trans (Nat.le_of_eq (cn_z _)) (Nat.le_trans (bHi_z (by decide)) (by decide))) (by simp only [cn_z]; omega) fun b15 hb15 => ?_
  have hv15 : b15 = true := by rw [hb15, slo_cn (bLo_le _), shi_cn (bLo_le _), cn_q, h14]; decide +kernel
  subst hv15
  refine k_num 2 1 (by decide) (by decide) (by decide) (by decide) (by decide +kernel) fun q19 h19 z19 => ?_
  simp only [cn_z] at z19
  refine k_sHas (x := cn (bLo 4607182418800017408)) (y := cn (bHi 4607182418800017408)) (z := cn q19) (Nat.le_trans (Nat.le_of_eq (cn_z _)) (Nat.le_trans (bLo_z (by decide)) (by decide))) (Nat.le_trans (Nat.le_of_eq (cn_z _)) (Nat.le_trans (bHi_z (by decide)) (by decide))) (by simp only [cn_z]; omega) fun b20 hb20 => ?_
  have hv20 : b20 = false := by rw [hb20, slo_cn (bLo_le _), shi_cn (bLo_le _), cn_q, h19]; decide +kernel
  subst hv20
  refine ⟨by kernel_rfl, ?_⟩
  refine Eq.trans (b := bool true) ?_ rfl
  rfl
theorem k_borderBegun (k : K (bool true)) : Ask 4 [] K := use borderBegun_spec rfl k
set_option maxHeartbeats 8000000 in
set_option maxRecDepth 100000 in
theorem borderFrom_spec (b : Nat) (hb : b < 18446744073709551616) : Spec Tryd.prog Tab 3 [.val (.one (.d (.v (.int .u64 ((b : Int))))))] (bool true) := by
  refine fn_spec Tryd.func3 rfl rfl Tryd.ntmps3 rfl (by kernel_rfl) rfl rfl ?_
  refine k_borderBegun ?_
  refine ⟨fun e => absurd e (by decide), fun _ => ?_⟩
  refine k_From b rfl hb fun x15 z15 n15 hn15 hx15 hz15 => ?_
  refine k_shrB (b) 52 4503599627370496 rfl rfl (by decide) (by decide) ?_
  refine k_andB ((b / 4503599627370496)) 11 2048 rfl rfl rfl (by omega) (by decide) ?_
  refine ⟨fun e1 => ?_, fun e1 => ?_⟩
  · have f21 : (((b / 4503599627370496) % 2048 : Nat) : Int) = 2047 := beq_t e1
    have hmb : 9218868437227405312 ≤ b % 9223372036854775808 := by omega
    refine k_eql_span_t ⟨hx15.trans (fr_bad hmb).2.1, hz15.trans (fr_bad hmb).2.2⟩ ?_
    refine Eq.trans (b := bool (n15 == 3)) ?_ rfl
    rw [hn15, (fr_bad hmb).1]
    all_goals rfl
  · have f21 : ¬ ((((b / 4503599627370496) % 2048 : Nat) : Int) = 2047) := beq_f e1
    have hmb : b % 9223372036854775808 < 9218868437227405312 := by omega
    refine k_andNotB (b) rfl (by omega) ?_
    refine k_Float ((b % 9223372036854775808)) (by first | rfl | (rw [bwu64 (by omega) (by omega)]; omega)) (by omega) fun q32 h32 z32 => ?_
    simp only [cn_z] at z32
    refine k_Float ((b % 9223372036854775808) + 1) (by first | rfl | (rw [bwu64 (by omega) (by omega)]; omega)) (by omega) fun q35 h35 z35 => ?_
    simp only [cn_z] at z35
    refine k_neg (x := cn q35) (by simp only [cn_z]; omega) fun q37 h37 z37 => ?_
    simp only [cn_z] at z37
    simp only [cn_q] at h37
    refine ⟨fun e3 => ?_, fun e3 => ?_⟩
    · have f39 : ((b % 9223372036854775808 : Nat) : Int) > 0 := of_decide_eq_true e3
      refine k_Float ((b % 9223372036854775808) - 1) (by first | rfl | (rw [bwu64 (by omega) (by omega)]; omega)) (by omega) fun q42 h42 z42 => ?_
      simp only [cn_z] at z42
      refine k_num 1 2 (by decide) (by decide) (by decide) (by decide) (by decide +kernel) fun q43 h43 z43 => ?_
      simp only [cn_z] at z43
      refine k_add (x := cn q42) (y := cn q32) (by simp only [cn_z]; omega) (by simp only [cn_z]; omega) fun q46 h46 z46 => ?_
      simp only [cn_z] at z46
      simp only [cn_q] at h46
      refine k_mul (x := cn q43) (y := cn q46) (by simp only [cn_z]; omega) (by simp only [cn_z]; omega) fun q47 h47 z47 => ?_
      simp only [cn_z] at z47
      simp only [cn_q] at h47
      refine k_num 1 2 (by decide) (by decide) (by decide) (by decide) (by decide +kernel) fun q48 h48 z48 => ?_
      simp only [cn_z] at z48
      refine k_add (x := cn q32) (y := cn q35) (by simp only [cn_z]; omega) (by simp only [cn_z]; omega) fun q51 h51 z51 => ?_
      simp only [cn_z] at z51
      simp only [cn_q] at h51
      refine k_mul (x := cn q48) (y := cn q51) (by simp only [cn_z]; omega) (by simp only [cn_z]; omega) fun q52 h52 z52 => ?_
      simp only [cn_z] at z52
      simp only [cn_q] at h52
      refine ⟨by kernel_rfl, ?_⟩
      refine k_shrB (b) 63 9223372036854775808 rfl rfl (by decide) (by decide) ?_
      refine ⟨fun e4 => ?_, fun e4 => ?_⟩
      · have f55 : ((b / 9223372036854775808 : Nat) : Int) = 1 := beq_t e4
        obtain ⟨e1, e2, e3⟩ := fr_ok (b := b) (by omega)
        obtain ⟨e4, e5⟩ := frLo_neg (b := b) (by omega)
        have hhi : bHi (b % 9223372036854775808) = ((1 : Int) : Rat) / ((2 : Int) : Rat) * (fltQ (b % 9223372036854775808) + fltQ ((b % 9223372036854775808) + 1)) := rfl
        have hlo := bLo_pos (m := (b % 9223372036854775808)) (by omega)
        have hlf : ((1 : Int) : Rat) / ((2 : Int) : Rat) = 1 / 2 := rfl
        rw [hlf] at hhi h43 h48
        try rw [hlf] at hlo
        refine k_neg (x := cn q52) (by simp only [cn_z]; omega) fun q57 h57 z57 => ?_
        simp only [cn_z] at z57
        simp only [cn_q] at h57
        refine k_neg (x := cn q47) (by simp only [cn_z]; omega) fun q59 h59 z59 => ?_
        simp only [cn_z] at z59
        simp only [cn_q] at h59
        refine ⟨by kernel_rfl, ?_⟩
        refine fork (fun e5 => ?_) (fun e5 => ?_)
        · have f62 : n15 = 0 := beq_t e5
          refine k_eql_span_t ⟨hx15.trans (e2.trans (congrArg cn (by grind))), hz15.trans (e3.trans (congrArg cn (by grind)))⟩ ?_
          refine Eq.trans (b := bool true) ?_ rfl
          rfl
        · have f62 : ¬ (n15 = 0) := beq_f e5
          exfalso
          exact f62 (hn15.trans e1)
      · have f55 : ¬ (((b / 9223372036854775808 : Nat) : Int) = 1) := beq_f e4
        obtain ⟨e1, e2, e3⟩ := fr_ok (b := b) (by omega)
        obtain ⟨e4, e5⟩ := frLo_pos (b := b) (by omega)
        have hhi : bHi (b % 9223372036854775808) = ((1 : Int) : Rat) / ((2 : Int) : Rat) * (fltQ (b % 9223372036854775808) + fltQ ((b % 9223372036854775808) + 1)) := rfl
        have hlo := bLo_pos (m := (b % 9223372036854775808)) (by omega)
        have hlf : ((1 : Int) : Rat) / ((2 : Int) : Rat) = 1 / 2 := rfl
        rw [hlf] at hhi h43 h48
        try rw [hlf] at hlo
        refine fork (fun e7 => ?_) (fun e7 => ?_)
        · have f62 : n15 = 0 := beq_t e7
          refine k_eql_span_t ⟨hx15.trans (e2.trans (congrArg cn (by grind))), hz15.trans (e3.trans (congrArg cn (by grind)))⟩ ?_
          refine Eq.trans (b := bool true) ?_ rfl
          rfl
        · have f62 : ¬ (n15 = 0) := beq_f e7
          exfalso
          exact f62 (hn15.trans e1)
    · have f39 : ¬ (((b % 9223372036854775808 : Nat) : Int) > 0) := of_decide_eq_false e3
      refine k_num 1 2 (by decide) (by decide) (by decide) (by decide) (by decide +kernel) fun q43 h43 z43 => ?_
      simp only [cn_z] at z43
      refine k_add (x := cn q37) (y := cn q32) (by simp only [cn_z]; omega) (by simp only [cn_z]; omega) fun q46 h46 z46 => ?_
      simp only [cn_z] at z46
      simp only [cn_q] at h46
      refine k_mul (x := cn q43) (y := cn q46) (by simp only [cn_z]; omega) (by simp only [cn_z]; omega) fun q47 h47 z47 => ?_
      simp only [cn_z] at z47
      simp only [cn_q] at h47
      refine k_num 1 2 (by decide) (by decide) (by decide) (by decide) (by decide +kernel) fun q48 h48 z48 => ?_
      simp only [cn_z] at z48
      refine k_add (x := cn q32) (y := cn q35) (by simp only [cn_z]; omega) (by simp only [cn_z]; omega) fun q51 h51 z51 => ?_
      simp only [cn_z] at z51
      simp only [cn_q] at h51
      refine k_mul (x := cn q48) (y := cn q51) (by simp only [cn_z]; omega) (by simp only [cn_z]; omega) fun q52 h52 z52 => ?_
      simp only [cn_z] at z52
      simp only [cn_q] at h52
      refine ⟨by kernel_rfl, ?_⟩
      refine k_shrB (b) 63 9223372036854775808 rfl rfl (by decide) (by decide) ?_
      refine ⟨fun e9 => ?_, fun e9 => ?_⟩
      · have f55 : ((b / 9223372036854775808 : Nat) : Int) = 1 := beq_t e9
        obtain ⟨e1, e2, e3⟩ := fr_ok (b := b) (by omega)
        obtain ⟨e4, e5⟩ := frLo_neg (b := b) (by omega)
        have hhi : bHi (b % 9223372036854775808) = ((1 : Int) : Rat) / ((2 : Int) : Rat) * (fltQ (b % 9223372036854775808) + fltQ ((b % 9223372036854775808) + 1)) := rfl
        have hlo := bLo_zero (m := (b % 9223372036854775808)) (by omega)
        have hlf : ((1 : Int) : Rat) / ((2 : Int) : Rat) = 1 / 2 := rfl
        rw [hlf] at hhi h43 h48
        try rw [hlf] at hlo
        have hz0 : fltQ (b % 9223372036854775808) = 0 := by rw [show (b % 9223372036854775808) = 0 by omega]; decide +kernel
        refine k_neg (x := cn q52) (by simp only [cn_z]; omega) fun q57 h57 z57 => ?_
        simp only [cn_z] at z57
        simp only [cn_q] at h57
        refine k_neg (x := cn q47) (by simp only [cn_z]; omega) fun q59 h59 z59 => ?_
        simp only [cn_z] at z59
        simp only [cn_q] at h59
        refine ⟨by kernel_rfl, ?_⟩
        refine fork (fun e10 => ?_) (fun e10 => ?_)
        · have f62 : n15 = 0 := beq_t e10
          refine k_eql_span_t ⟨hx15.trans (e2.trans (congrArg cn (by grind))), hz15.trans (e3.trans (congrArg cn (by grind)))⟩ ?_
          refine Eq.trans (b := bool true) ?_ rfl
          rfl
        · have f62 : ¬ (n15 = 0) := beq_f e10
          exfalso
          exact f62 (hn15.trans e1)
      · have f55 : ¬ (((b / 9223372036854775808 : Nat) : Int) = 1) := beq_f e9
        obtain ⟨e1, e2, e3⟩ := fr_ok (b := b) (by omega)
        obtain ⟨e4, e5⟩ := frLo_pos (b := b) (by omega)
        have hhi : bHi (b % 9223372036854775808) = ((1 : Int) : Rat) / ((2 : Int) : Rat) * (fltQ (b % 9223372036854775808) + fltQ ((b % 9223372036854775808) + 1)) := rfl
        have hlo := bLo_zero (m := (b % 9223372036854775808)) (by omega)
        have hlf : ((1 : Int) : Rat) / ((2 : Int) : Rat) = 1 / 2 := rfl
        rw [hlf] at hhi h43 h48
        try rw [hlf] at hlo
        have hz0 : fltQ (b % 9223372036854775808) = 0 := by rw [show (b % 9223372036854775808) = 0 by omega]; decide +kernel
        refine fork (fun e12 => ?_) (fun e12 => ?_)
        · have f62 : n15 = 0 := beq_t e12
          refine k_eql_span_t ⟨hx15.trans (e2.trans (congrArg cn (by grind))), hz15.trans (e3.trans (congrArg cn (by grind)))⟩ ?_
          refine Eq.trans (b := bool true) ?_ rfl
          rfl
        · have f62 : ¬ (n15 = 0) := beq_f e12
          exfalso
          exact f62 (hn15.trans e1)
theorem borderFrom_walk (x0 : Int) (N : Nat) (w : World) (_ : 1 ≤ N) (_ : N ≤ 1048576) (u0 : 0 ≤ x0 ∧ x0 < 18446744073709551616) (hT : Tab w) :
    Calls Tryd.prog 3 #[.int .u64 x0] w fun e w' => e = .returned (.bool true) ∧ Below w.heap.size w w' := by
  obtain ⟨b, rfl⟩ := Int.eq_ofNat_of_zero_le u0.1
  exact calls_of_specI (I := fun b => b < w.heap.size) (borderFrom_spec b (by omega)) rfl hT (fun _ h => h) ((pvl_rel (vs := []) rfl).cons ((pv_iff (v := one (.int .u64 (b : Int))) rfl).2 rfl))
end
end Go.Proofs.YtpejadencgfnnaaDoor.eng
