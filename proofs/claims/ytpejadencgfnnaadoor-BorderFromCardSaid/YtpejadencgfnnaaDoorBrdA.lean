/- Contracts: package border (From), gantref1.Float. Printed by wip/gp_brd.py. -/
import Derived.Test.YtpejadencgfnnaaDoorBrd0
namespace Go.Proofs.YtpejadencgfnnaaDoor.eng
open Go.RowKit num mem seg q held ratA ratB ratC ratD ratE vars ratF
set_option exponentiation.threshold 4000
section
variable {K : AV → Prop}
set_option maxRecDepth 100000 in
theorem power_spec (n : Nat) (hn : n ≤ 2000) : Spec Tryd.prog Tab 32 [int (n : Int)] (rat (cn ((2 ^ n : Nat) : Rat))) := by
  have hwn : IntKind.i64.wrap (((n / 8 : Nat) : Int) + 1) = ((n / 8 + 1 : Nat) : Int) := by rw [wrap64 _ (by omega) (by omega)]; omega
  refine fn_spec Tryd.func32 rfl rfl Tryd.ntmps32 rfl (by kernel_rfl) rfl rfl ?_
  refine k_quoW n 8 (by first | rfl | omega | (rw [wrap64 _ (by omega) (by omega)]; omega) | (rw [wrap64 _ (by omega) (by omega)]; split <;> omega)) (by first | rfl | omega | (rw [wrap64 _ (by omega) (by omega)]; omega) | (rw [wrap64 _ (by omega) (by omega)]; split <;> omega)) (by omega) (by omega) ?_
  refine ⟨⟨by rw [hwn]; omega, rfl, (by show (IntKind.i64.wrap (((n / 8 : Nat) : Int) + 1)) * 1 ≤ _; rw [hwn]; omega), by rw [hwn]; omega⟩, ?_⟩
  refine k_remW n 8 (by first | rfl | omega | (rw [wrap64 _ (by omega) (by omega)]; omega) | (rw [wrap64 _ (by omega) (by omega)]; split <;> omega)) (by first | rfl | omega | (rw [wrap64 _ (by omega) (by omega)]; omega) | (rw [wrap64 _ (by omega) (by omega)]; split <;> omega)) (by omega) ?_
  refine k_shlB (n % 8) rfl (by omega) ?_
  refine k_at_ownB 0 (by first | rfl | omega | (rw [wrap64 _ (by omega) (by omega)]; omega) | (rw [wrap64 _ (by omega) (by omega)]; split <;> omega)) (by rw [List.length_replicate, hwn]; omega) ?_
  refine ⟨(by rw [List.length_replicate, hwn]; omega), ?_⟩
  refine k_bstr (pwL n) (pwB n) (by rw [show (IntKind.i64.wrap (((n / 8 : Nat) : Int) + 1)).toNat = n / 8 + 1 from by rw [wrap64 _ (by omega) (by omega)]; omega]; exact pw_row n) rfl ?_
  refine k_nOf (n := 1) (by omega) ?_
  refine ⟨by kernel_rfl, ?_⟩
  refine Eq.trans (b := .val (.agg [.d (.v (.bool z0.s)), .d (.v (.string (pwB n))), .d (.v (.string (enc 1)))])) ?_ rfl
  rw [← pw_cn]
  rfl
theorem k_power (n : Nat) {y : Int} (hy : y = (n : Int)) (hn : n ≤ 2000) (k : ∀ q, q = ((2 ^ n : Nat) : Rat) → (cn q).z ≤ 300 → K (rat (cn q))) : Ask 32 [int y] K := by
  subst hy; exact use (power_spec n hn) rfl (k _ rfl (pw_z hn))
set_option maxHeartbeats 2000000 in
set_option maxRecDepth 100000 in
theorem exact_spec (b : Nat) (hb : b ≤ 9218868437227405312) : Spec Tryd.prog Tab 14 [.val (.one (.d (.v (.int .u64 ((b : Int))))))] (rat (cn (fltQ b))) := by
  have hle := fe_le hb
  refine fn_spec Tryd.func14 rfl rfl Tryd.ntmps14 rfl (by kernel_rfl) rfl rfl ?_
  refine k_shrB (b) 52 4503599627370496 rfl rfl (by decide) (by decide) ?_
  refine k_convI ((b / 4503599627370496)) (by first | rfl | (rw [bwu64 (by omega) (by omega)]; omega)) (by omega) ?_
  refine k_andB (b) 52 4503599627370496 rfl rfl rfl (by omega) (by decide) ?_
  refine ⟨fun e1 => ?_, fun e1 => ?_⟩
  · have f12 : (((b / 4503599627370496) : Nat) : Int) = 0 := beq_t e1
    have hfe := fe_lo (b := b) (by omega)
    refine k_convI ((b % 4503599627370496)) (by first | rfl | (rw [bwu64 (by omega) (by omega)]; omega)) (by omega) ?_
    refine k_of ((((b % 4503599627370496) : Nat) : Int)) (by omega) (by omega) fun q17 h17 z17 => ?_
    simp only [cn_z] at z17
    refine ⟨fun e => absurd e (by decide), fun _ => ?_⟩
    refine k_power (1075 - fe b) (by rw [wrap64 _ (by omega) (by omega)]; omega) (by omega) fun q29 h29 z29 => ?_
    simp only [cn_z] at z29
    refine k_div (x := cn q17) (y := cn q29) (by simp only [cn_z]; omega) (by simp only [cn_z]; omega) (by rw [cn_q, h29]; exact two_pos _) fun q30 h30 z30 => ?_
    simp only [cn_z] at z30
    simp only [cn_q] at h30
    refine ⟨by kernel_rfl, ?_⟩
    refine Eq.trans (b := rat (cn q30)) ?_ rfl
    rw [show q30 = fltQ b from by rw [h30, h17, h29, ← flt_lo (by omega), hfe.2]; rfl]
    all_goals rfl
  · have f12 : ¬ ((((b / 4503599627370496) : Nat) : Int) = 0) := beq_f e1
    have hfe := fe_hi (b := b) (by omega)
    refine k_orB ((b % 4503599627370496)) 52 4503599627370496 rfl rfl rfl (by omega) (by decide) ?_
    refine k_convI (((b % 4503599627370496) + 4503599627370496)) (by first | rfl | (rw [bwu64 (by omega) (by omega)]; omega)) (by omega) ?_
    refine k_of (((((b % 4503599627370496) + 4503599627370496) : Nat) : Int)) (by omega) (by omega) fun q17 h17 z17 => ?_
    simp only [cn_z] at z17
    refine ⟨fun e2 => ?_, fun e2 => ?_⟩
    · have f19 : (((b / 4503599627370496) : Nat) : Int) ≥ 1075 := of_decide_eq_true e2
      refine k_power (fe b - 1075) (by rw [wrap64 _ (by omega) (by omega)]; omega) (by omega) fun q23 h23 z23 => ?_
      simp only [cn_z] at z23
      refine k_mul (x := cn q17) (y := cn q23) (by simp only [cn_z]; omega) (by simp only [cn_z]; omega) fun q24 h24 z24 => ?_
      simp only [cn_z] at z24
      simp only [cn_q] at h24
      refine ⟨by kernel_rfl, ?_⟩
      refine Eq.trans (b := rat (cn q24)) ?_ rfl
      rw [show q24 = fltQ b from by rw [h24, h17, h23, ← flt_hi (by omega), hfe.2]; rfl]
      all_goals rfl
    · have f19 : ¬ ((((b / 4503599627370496) : Nat) : Int) ≥ 1075) := of_decide_eq_false e2
      refine k_power (1075 - fe b) (by rw [wrap64 _ (by omega) (by omega)]; omega) (by omega) fun q29 h29 z29 => ?_
      simp only [cn_z] at z29
      refine k_div (x := cn q17) (y := cn q29) (by simp only [cn_z]; omega) (by simp only [cn_z]; omega) (by rw [cn_q, h29]; exact two_pos _) fun q30 h30 z30 => ?_
      simp only [cn_z] at z30
      simp only [cn_q] at h30
      refine ⟨by kernel_rfl, ?_⟩
      refine Eq.trans (b := rat (cn q30)) ?_ rfl
      rw [show q30 = fltQ b from by rw [h30, h17, h29, ← flt_lo (by omega), hfe.2]; rfl]
      all_goals rfl
theorem k_exact (b : Nat) {y : Int} (hy : y = (b : Int)) (hb : b ≤ 9218868437227405312) (k : ∀ q, q = fltQ b → (cn q).z ≤ 1000 → K (rat (cn q))) : Ask 14 [.val (.one (.d (.v (.int .u64 y))))] K := by
  subst hy; exact use (exact_spec b hb) rfl (k _ rfl (flt_qs hb))
set_option maxHeartbeats 4000000 in
set_option maxRecDepth 100000 in
theorem From_spec (b : Nat) (hb : b < 18446744073709551616) : Spec Tryd.prog Tab 5 [.val (.one (.d (.v (.int .u64 ((b : Int))))))] (.tup [.agg [.d (.v (.bool (frA b).s)), .d (.v (.string (frA b).a)), .d (.v (.string (frA b).d)), .d (.v (.bool (frB b).s)), .d (.v (.string (frB b).a)), .d (.v (.string (frB b).d))], .one (.d (.v (.int .i64 ((frE b)))))]) := by
  refine fn_spec Tryd.func5 rfl rfl Tryd.ntmps5 rfl (by kernel_rfl) rfl rfl ?_
  refine k_shrB (b) 63 9223372036854775808 rfl rfl (by decide) (by decide) ?_
  refine k_andNotB (b) rfl (by omega) ?_
  refine ⟨fun e1 => ?_, fun e1 => ?_⟩
  · have f20 : ((b % 9223372036854775808 : Nat) : Int) ≥ 9218868437227405312 := of_decide_eq_true e1
    refine Eq.trans (b := .tup [.agg [.d (.v (.bool z0.s)), .d (.v (.string z0.a)), .d (.v (.string z0.d)), .d (.v (.bool z0.s)), .d (.v (.string z0.a)), .d (.v (.string z0.d))], .one (.d (.v (.int .i64 (3))))]) ?_ rfl
    obtain ⟨e1, e2, e3⟩ := fr_bad (b := b) (by omega)
    rw [e1, e2, e3]
    all_goals rfl
  · have f20 : ¬ (((b % 9223372036854775808 : Nat) : Int) ≥ 9218868437227405312) := of_decide_eq_false e1
    refine k_make 1 2 (by decide) (by decide) (by decide) (by decide) (by decide +kernel) fun q23 h23 z23 => ?_
    simp only [cn_z] at z23
    refine k_exact ((b % 9223372036854775808)) (by first | rfl | (rw [bwu64 (by omega) (by omega)]; omega)) (by omega) fun q27 h27 z27 => ?_
    simp only [cn_z] at z27
    refine k_exact ((b % 9223372036854775808) + 1) (by first | rfl | (rw [bwu64 (by omega) (by omega)]; omega)) (by omega) fun q30 h30 z30 => ?_
    simp only [cn_z] at z30
    refine k_add (x := cn q27) (y := cn q30) (by simp only [cn_z]; omega) (by simp only [cn_z]; omega) fun q34 h34 z34 => ?_
    simp only [cn_z] at z34
    simp only [cn_q] at h34
    refine k_mul (x := cn q23) (y := cn q34) (by simp only [cn_z]; omega) (by simp only [cn_z]; omega) fun q35 h35 z35 => ?_
    simp only [cn_z] at z35
    simp only [cn_q] at h35
    refine ⟨by kernel_rfl, ?_⟩
    refine k_neg (x := cn q35) (by simp only [cn_z]; omega) fun q37 h37 z37 => ?_
    simp only [cn_z] at z37
    simp only [cn_q] at h37
    refine ⟨fun e2 => ?_, fun e2 => ?_⟩
    · have f39 : ((b % 9223372036854775808 : Nat) : Int) > 0 := of_decide_eq_true e2
      refine k_exact ((b % 9223372036854775808) - 1) (by first | rfl | (rw [bwu64 (by omega) (by omega)]; omega)) (by omega) fun q44 h44 z44 => ?_
      simp only [cn_z] at z44
      refine k_add (x := cn q27) (y := cn q44) (by simp only [cn_z]; omega) (by simp only [cn_z]; omega) fun q45 h45 z45 => ?_
      simp only [cn_z] at z45
      simp only [cn_q] at h45
      refine k_mul (x := cn q23) (y := cn q45) (by simp only [cn_z]; omega) (by simp only [cn_z]; omega) fun q46 h46 z46 => ?_
      simp only [cn_z] at z46
      simp only [cn_q] at h46
      refine ⟨by kernel_rfl, ?_⟩
      refine ⟨fun e3 => ?_, fun e3 => ?_⟩
      · have f47 : ((b / 9223372036854775808 : Nat) : Int) = 1 := beq_t e3
        refine k_neg (x := cn q35) (by simp only [cn_z]; omega) fun q49 h49 z49 => ?_
        simp only [cn_z] at z49
        simp only [cn_q] at h49
        refine k_neg (x := cn q46) (by simp only [cn_z]; omega) fun q51 h51 z51 => ?_
        simp only [cn_z] at z51
        simp only [cn_q] at h51
        refine ⟨by kernel_rfl, ?_⟩
        have hle := bLo_le (b % 9223372036854775808)
        have hhi : q35 = bHi (b % 9223372036854775808) := by unfold bHi; rw [h35, h23, h34, h27, h30]
        have hlo : q46 = bLo (b % 9223372036854775808) := by rw [bLo_pos (by omega), h46, h23, h45, h27, h44]
        refine k_sMake_c (x := cn q49) (y := cn q51) (by simp only [cn_z]; omega) (by simp only [cn_z]; omega) (fun g => ?_) (fun _ p55 q55 hp55 hq55 zp zq => ?_)
        · exfalso
          simp only [cn_q] at g
          grind
        simp only [cn_q] at hp55 hq55
        refine Eq.trans (b := .tup [.agg [.d (.v (.bool (cn p55).s)), .d (.v (.string (cn p55).a)), .d (.v (.string (cn p55).d)), .d (.v (.bool (cn q55).s)), .d (.v (.string (cn q55).a)), .d (.v (.string (cn q55).d))], .one (.d (.v (.int .i64 (0))))]) ?_ rfl
        obtain ⟨e1, e2, e3⟩ := fr_ok (b := b) (by omega)
        obtain ⟨e4, e5⟩ := frLo_neg (b := b) (by omega)
        rw [e1, e2, e3, e4, e5, ← hhi, ← hlo, hp55, hq55, h49, h51]
        all_goals rfl
      · have f47 : ¬ (((b / 9223372036854775808 : Nat) : Int) = 1) := beq_f e3
        have hle := bLo_le (b % 9223372036854775808)
        have hhi : q35 = bHi (b % 9223372036854775808) := by unfold bHi; rw [h35, h23, h34, h27, h30]
        have hlo : q46 = bLo (b % 9223372036854775808) := by rw [bLo_pos (by omega), h46, h23, h45, h27, h44]
        refine k_sMake_c (x := cn q46) (y := cn q35) (by simp only [cn_z]; omega) (by simp only [cn_z]; omega) (fun g => ?_) (fun _ p55 q55 hp55 hq55 zp zq => ?_)
        · exfalso
          simp only [cn_q] at g
          grind
        simp only [cn_q] at hp55 hq55
        refine Eq.trans (b := .tup [.agg [.d (.v (.bool (cn p55).s)), .d (.v (.string (cn p55).a)), .d (.v (.string (cn p55).d)), .d (.v (.bool (cn q55).s)), .d (.v (.string (cn q55).a)), .d (.v (.string (cn q55).d))], .one (.d (.v (.int .i64 (0))))]) ?_ rfl
        obtain ⟨e1, e2, e3⟩ := fr_ok (b := b) (by omega)
        obtain ⟨e4, e5⟩ := frLo_pos (b := b) (by omega)
        rw [e1, e2, e3, e4, e5, ← hhi, ← hlo, hp55, hq55]
        all_goals rfl
    · have f39 : ¬ (((b % 9223372036854775808 : Nat) : Int) > 0) := of_decide_eq_false e2
      refine ⟨fun e4 => ?_, fun e4 => ?_⟩
      · have f47 : ((b / 9223372036854775808 : Nat) : Int) = 1 := beq_t e4
        refine k_neg (x := cn q35) (by simp only [cn_z]; omega) fun q49 h49 z49 => ?_
        simp only [cn_z] at z49
        simp only [cn_q] at h49
        refine k_neg (x := cn q37) (by simp only [cn_z]; omega) fun q51 h51 z51 => ?_
        simp only [cn_z] at z51
        simp only [cn_q] at h51
        refine ⟨by kernel_rfl, ?_⟩
        have hle := bLo_le (b % 9223372036854775808)
        have hhi : q35 = bHi (b % 9223372036854775808) := by unfold bHi; rw [h35, h23, h34, h27, h30]
        have hlo : q37 = bLo (b % 9223372036854775808) := by rw [bLo_zero (by omega), ← hhi, h37]
        refine k_sMake_c (x := cn q49) (y := cn q51) (by simp only [cn_z]; omega) (by simp only [cn_z]; omega) (fun g => ?_) (fun _ p55 q55 hp55 hq55 zp zq => ?_)
        · exfalso
          simp only [cn_q] at g
          grind
        simp only [cn_q] at hp55 hq55
        refine Eq.trans (b := .tup [.agg [.d (.v (.bool (cn p55).s)), .d (.v (.string (cn p55).a)), .d (.v (.string (cn p55).d)), .d (.v (.bool (cn q55).s)), .d (.v (.string (cn q55).a)), .d (.v (.string (cn q55).d))], .one (.d (.v (.int .i64 (0))))]) ?_ rfl
        obtain ⟨e1, e2, e3⟩ := fr_ok (b := b) (by omega)
        obtain ⟨e4, e5⟩ := frLo_neg (b := b) (by omega)
        rw [e1, e2, e3, e4, e5, ← hhi, ← hlo, hp55, hq55, h49, h51]
        all_goals rfl
      · have f47 : ¬ (((b / 9223372036854775808 : Nat) : Int) = 1) := beq_f e4
        have hle := bLo_le (b % 9223372036854775808)
        have hhi : q35 = bHi (b % 9223372036854775808) := by unfold bHi; rw [h35, h23, h34, h27, h30]
        have hlo : q37 = bLo (b % 9223372036854775808) := by rw [bLo_zero (by omega), ← hhi, h37]
        refine k_sMake_c (x := cn q37) (y := cn q35) (by simp only [cn_z]; omega) (by simp only [cn_z]; omega) (fun g => ?_) (fun _ p55 q55 hp55 hq55 zp zq => ?_)
        · exfalso
          simp only [cn_q] at g
          grind
        simp only [cn_q] at hp55 hq55
        refine Eq.trans (b := .tup [.agg [.d (.v (.bool (cn p55).s)), .d (.v (.string (cn p55).a)), .d (.v (.string (cn p55).d)), .d (.v (.bool (cn q55).s)), .d (.v (.string (cn q55).a)), .d (.v (.string (cn q55).d))], .one (.d (.v (.int .i64 (0))))]) ?_ rfl
        obtain ⟨e1, e2, e3⟩ := fr_ok (b := b) (by omega)
        obtain ⟨e4, e5⟩ := frLo_pos (b := b) (by omega)
        rw [e1, e2, e3, e4, e5, ← hhi, ← hlo, hp55, hq55]
        all_goals rfl
theorem k_From (b : Nat) {y : Int} (hy : y = (b : Int)) (hb : b < 18446744073709551616) (k : ∀ x z n, n = frE b → x = frA b → z = frB b → K (two (pair x z) (int n))) : Ask 5 [.val (.one (.d (.v (.int .u64 y))))] K := by
  subst hy; exact use (From_spec b hb) rfl (k _ _ _ rfl rfl rfl)
end
end Go.Proofs.YtpejadencgfnnaaDoor.eng
