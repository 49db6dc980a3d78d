/- Contract of gantref1.Float. Printed by wip/gp_brd.py. -/
import Derived.Test.YtpejadencgfnnaaDoorBrdA
namespace Go.Proofs.YtpejadencgfnnaaDoor.eng
open Go.RowKit num mem seg q held ratA ratB ratC ratD ratE vars ratF
set_option exponentiation.threshold 4000
section
variable {K : AV → Prop}
theorem fl_bz {n k : Nat} (h : n ≤ 2 ^ (8 * k)) : (enc n).size ≤ k + 1 := by
  rw [enc_size_le, Nat.pow_succ, show (256 : Nat) ^ k = 2 ^ (8 * k) from by rw [show (256 : Nat) = 2 ^ 8 from rfl, ← Nat.pow_mul]]
  have := Nat.two_pow_pos (8 * k)
  omega
theorem fm_big {b i : Nat} (hi : i ≤ fe b - 1075) (hb : fe b ≤ 2047) : fm b * 2 ^ i ≤ 2 ^ (8 * 200) := by
  have h1 := fm_lt b
  have h2 : fm b * 2 ^ i ≤ 2 ^ 53 * 2 ^ i := Nat.mul_le_mul_right _ (by omega)
  rw [← Nat.pow_add] at h2
  exact Nat.le_trans h2 (Nat.pow_le_pow_right (by decide) (by omega))
theorem pw_big {d i : Nat} (h : d ≤ 2 ^ i) (hi : i ≤ 1075) : d ≤ 2 ^ (8 * 200) := Nat.le_trans h (Nat.pow_le_pow_right (by decide) (by omega))
set_option maxHeartbeats 4000000 in
set_option maxRecDepth 100000 in
theorem Float_spec (b : Nat) (hb : b ≤ 9218868437227405312) : Spec Tryd.prog Tab 6 [.val (.one (.d (.v (.int .u64 ((b : Int))))))] (rat (cn (fltQ b))) := by
  have hle := fe_le hb
  have hfm := fm_lt b
  refine fn_spec Tryd.func6 rfl rfl Tryd.ntmps6 rfl (by kernel_rfl) rfl rfl ?_
  refine k_shrB (b) 63 9223372036854775808 rfl rfl (by decide) (by decide) ?_
  refine k_shrB (b) 52 4503599627370496 rfl rfl (by decide) (by decide) ?_
  refine k_andB ((b / 4503599627370496)) 11 2048 rfl rfl rfl (by omega) (by decide) ?_
  refine k_convI (((b / 4503599627370496) % 2048)) (by first | rfl | (rw [bwu64 (by omega) (by omega)]; omega)) (by omega) ?_
  refine k_andB (b) 52 4503599627370496 rfl rfl rfl (by omega) (by decide) ?_
  refine ⟨fun e1 => ?_, fun e1 => ?_⟩
  · have f20 : ((((b / 4503599627370496) % 2048) : Nat) : Int) > 0 := of_decide_eq_true e1
    have hfe := fe_hi (b := b) (by omega)
    refine ⟨⟨by omega, rfl, (by show 8 * 1 ≤ _; omega), by omega⟩, ?_⟩
    have hL8 : (List.replicate (8 : Int).toNat [D.v (.int .u8 (0))]).length = 8 := List.length_replicate ..
    refine ⟨Nat, fun i => [(2, .val (.one (.ptr 2 0))), (3, bool (((b / 9223372036854775808 : Nat) : Int) == 1)), (4, int ((((b / 4503599627370496) % 2048) : Nat) : Int)), (5, .val (.one (.d (.v (.int .u64 (IntKind.u64.wrap (((b % 4503599627370496 : Nat) : Int) + 4503599627370496))))))), (6, .val (.one (.row 23 0))), (25, int ((List.replicate (8 : Int).toNat [D.v (.int .u8 (0))]).length : Int)), (26, int (i : Int))],
      fun i => [(2, .var 25 [.d (.v (.bool z0.s)), .d (.v (.string z0.a)), .d (.v (.string z0.d))]), (23, .row 5 1 0 (flL (fm b) i) true)], fun i => i ≤ 8, fun i => 8 - i, 0, ?_, Nat.zero_le _, fun i hs => ?_⟩
    · constructor <;> (repeat' (first | exact rfl | exact True.intro | exact ⟨_, _, rfl⟩ | exact (by decide) | apply And.intro))
      all_goals first
        | exact flL_0 _
        | exact (flL_0 _).symm
        | exact congrArg (fun n : Int => D.v (.int .u64 n)) (by omega)
    have hT := flL_len (fm b) i
    have hw8 : IntKind.i64.wrap (8 * (i : Int)) = 8 * (i : Int) := wrap64 _ (by omega) (by omega)
    refine ⟨fun e2 => ?_, fun e2 => ?_⟩
    · have f27 : (i : Int) < ((List.replicate (8 : Int).toNat [D.v (.int .u8 (0))]).length : Int) := of_decide_eq_true e2
      refine k_shrB (fm b) (56 - 8 * i) (2 ^ (56 - 8 * i)) (by first | omega | (rw [bwu64 (by omega) (by omega)]; omega)) (by rw [hw8, wrap64 _ (by omega) (by omega)]; omega) rfl (by omega) ?_
      refine k_convB ((fm b / 2 ^ (56 - 8 * i))) rfl ?_
      refine k_at_ownB i (by first | rfl | omega | (rw [wrap64 _ (by omega) (by omega)]; omega) | (rw [wrap64 _ (by omega) (by omega)]; split <;> omega)) (by rw [hT]; omega) ?_
      refine ⟨(by rw [hT]; omega), ?_⟩
      refine ⟨i + 1, by omega, by simp only; omega, ?_⟩
      constructor <;> (repeat' (first | exact rfl | exact True.intro | apply And.intro))
      all_goals first
        | exact (flL_s (by omega)).symm
        | exact flL_s (by omega)
        | exact congrArg (fun n : Int => D.v (.int .i64 n)) (by rw [wrap64 _ (by omega) (by omega)]; omega)
        | exact congrArg (fun n : Int => D.v (.int .i64 n)) (by omega)
    · have f27 : ¬ ((i : Int) < ((List.replicate (8 : Int).toNat [D.v (.int .u8 (0))]).length : Int)) := of_decide_eq_false e2
      refine k_bstr (flN (fm b)) (strOfNums (flN (fm b))) (by rw [show i = 8 by omega]; exact flL_8 _) rfl ?_
      refine k_rBare (fm b) (flN_nv (by omega)) ?_
      refine ⟨Nat, fun j => [(2, .val (.one (.ptr 2 0))), (3, bool (((b / 9223372036854775808 : Nat) : Int) == 1)), (4, int ((((b / 4503599627370496) % 2048) : Nat) : Int)), (8, str (enc (fm b * 2 ^ j))), (9, str (ByteArray.mk #[1])), (44, int ((fe b - 1075 : Nat) : Int)), (45, int (j : Int))],
        fun j => [(2, .var 25 [.d (.v (.bool z0.s)), .d (.v (.string z0.a)), .d (.v (.string z0.d))])], fun j => j ≤ fe b - 1075, fun j => fe b - 1075 - j, 0, ?_, Nat.zero_le _, fun j hs => ?_⟩
      · constructor <;> (repeat' (first | exact rfl | exact True.intro | exact ⟨_, _, rfl⟩ | exact (by decide) | apply And.intro))
        all_goals first
          | exact congrArg (fun n : Int => D.v (.int .i64 n)) (by rw [wrap64 _ (by omega) (by omega)]; split <;> omega)
          | exact congrArg (fun s : ByteArray => D.v (.string s)) (by rw [Nat.pow_zero, Nat.mul_one])
          | exact congrArg (fun n : Int => D.v (.int .i64 n)) (by omega)
      have hbz := fm_big hs hle.2
      refine ⟨fun e3 => ?_, fun e3 => ?_⟩
      · have f46 : (j : Int) < ((fe b - 1075 : Nat) : Int) := of_decide_eq_true e3
        refine k_rPlus (fm b * 2 ^ j) (fm b * 2 ^ j) (nv_enc _) (nv_enc _) (Nat.le_trans (fl_bz hbz) (by decide)) (Nat.le_trans (fl_bz hbz) (by decide)) ?_
        refine ⟨j + 1, by omega, by simp only; omega, ?_⟩
        constructor <;> (repeat' (first | exact rfl | exact True.intro | apply And.intro))
        all_goals first
          | exact congrArg (fun s : ByteArray => D.v (.string s)) (by rw [Nat.pow_succ, ← Nat.mul_assoc, Nat.mul_two])
          | rfl
          | exact congrArg (fun n : Int => D.v (.int .i64 n)) (by rw [wrap64 _ (by omega) (by omega)]; omega)
          | exact congrArg (fun n : Int => D.v (.int .i64 n)) (by omega)
      · have f46 : ¬ ((j : Int) < ((fe b - 1075 : Nat) : Int)) := of_decide_eq_false e3
        have hj : j = fe b - 1075 := by omega
        refine ⟨Nat × Nat × Nat, fun (k, n, d) => [(2, .val (.one (.ptr 2 0))), (3, bool (((b / 9223372036854775808 : Nat) : Int) == 1)), (8, str (enc n)), (9, str (enc d)), (53, int ((1075 - fe b : Nat) : Int)), (54, int (k : Int))],
          fun (k, n, d) => [(2, .var 25 [.d (.v (.bool z0.s)), .d (.v (.string z0.a)), .d (.v (.string z0.d))])], fun (k, n, d) => k ≤ 1075 - fe b ∧ 0 < d ∧ n * 2 ^ k = fm b * 2 ^ (fe b - 1075) * d ∧ n ≤ fm b * 2 ^ (fe b - 1075) ∧ d ≤ 2 ^ k, fun (k, n, d) => 1075 - fe b - k, (0, fm b * 2 ^ j, 1), ?_, ⟨Nat.zero_le _, Nat.one_pos, by rw [hj, Nat.pow_zero], by rw [hj]; exact Nat.le_refl _, Nat.le_refl _⟩, fun s hs => ?_⟩
        · constructor <;> (repeat' (first | exact rfl | exact True.intro | exact ⟨_, _, rfl⟩ | exact (by decide) | apply And.intro))
          all_goals first
            | exact congrArg (fun n : Int => D.v (.int .i64 n)) (by rw [wrap64 _ (by omega) (by omega)]; split <;> omega)
            | exact congrArg (fun s : ByteArray => D.v (.string s)) enc_one
            | exact congrArg (fun s : ByteArray => D.v (.string s)) enc_one.symm
        obtain ⟨k, n, d⟩ := s
        obtain ⟨g1, h2, h3, h4, h5⟩ := hs
        try simp only at g1 h2 h3 h4 h5
        have hnz : n ≤ 2 ^ (8 * 200) := Nat.le_trans h4 (fm_big (Nat.le_refl _) hle.2)
        have hdz : d ≤ 2 ^ (8 * 200) := pw_big h5 (by omega)
        refine ⟨fun e4 => ?_, fun e4 => ?_⟩
        · have f55 : (k : Int) < ((1075 - fe b : Nat) : Int) := of_decide_eq_true e4
          refine k_rbit n 0 (nv_enc _) rfl (Nat.le_trans (fl_bz hnz) (by decide)) (by decide) ?_
          refine fork (fun e5 => ?_) (fun e5 => ?_)
          · have f59 : ((n / 2 ^ 0 % 2 : Nat) : Int) = 1 := beq_t e5
            refine ⟨fun _ => ?_, fun e => absurd e (by decide)⟩
            refine k_rPlus (d) (d) (nv_enc _) (nv_enc _) (Nat.le_trans (fl_bz hdz) (by decide)) (Nat.le_trans (fl_bz hdz) (by decide)) ?_
            refine ⟨(k + 1, n, d + d), ⟨by omega, by omega, by rw [Nat.pow_succ, ← Nat.mul_assoc, h3, Nat.mul_assoc, Nat.mul_two], h4, by rw [Nat.pow_succ]; omega⟩, by simp only; omega, ?_⟩
            constructor <;> (repeat' (first | exact rfl | exact True.intro | apply And.intro))
            all_goals first
              | exact congrArg (fun n : Int => D.v (.int .i64 n)) (by rw [wrap64 _ (by omega) (by omega)]; omega)
              | exact congrArg (fun n : Int => D.v (.int .i64 n)) (by omega)
          · have f59 : ¬ (((n / 2 ^ 0 % 2 : Nat) : Int) = 1) := beq_f e5
            refine k_eql_str_c (fun f61 => ?_) (fun f61 => ?_)
            · refine ⟨fun _ => ?_, fun e => absurd e (by decide)⟩
              refine k_rPlus (d) (d) (nv_enc _) (nv_enc _) (Nat.le_trans (fl_bz hdz) (by decide)) (Nat.le_trans (fl_bz hdz) (by decide)) ?_
              refine ⟨(k + 1, n, d + d), ⟨by omega, by omega, by rw [Nat.pow_succ, ← Nat.mul_assoc, h3, Nat.mul_assoc, Nat.mul_two], h4, by rw [Nat.pow_succ]; omega⟩, by simp only; omega, ?_⟩
              constructor <;> (repeat' (first | exact rfl | exact True.intro | apply And.intro))
              all_goals first
                | exact congrArg (fun n : Int => D.v (.int .i64 n)) (by rw [wrap64 _ (by omega) (by omega)]; omega)
                | exact congrArg (fun n : Int => D.v (.int .i64 n)) (by omega)
            · refine ⟨fun e => absurd e (by decide), fun _ => ?_⟩
              refine k_rhalved n (nv_enc _) (Nat.le_trans (fl_bz hnz) (by decide)) ?_
              refine ⟨(k + 1, n / 2, d), ⟨by omega, h2, by rw [Nat.pow_succ, Nat.mul_comm (2 ^ k) 2, ← Nat.mul_assoc, show n / 2 * 2 = n by omega]; exact h3, by omega, by rw [Nat.pow_succ]; omega⟩, by simp only; omega, ?_⟩
              constructor <;> (repeat' (first | exact rfl | exact True.intro | apply And.intro))
              all_goals first
                | exact congrArg (fun n : Int => D.v (.int .i64 n)) (by rw [wrap64 _ (by omega) (by omega)]; omega)
                | exact congrArg (fun n : Int => D.v (.int .i64 n)) (by omega)
        · have f55 : ¬ ((k : Int) < ((1075 - fe b : Nat) : Int)) := of_decide_eq_false e4
          refine fork (fun e6 => ?_) (fun e6 => ?_)
          · have f70 : ((b / 9223372036854775808 : Nat) : Int) = 1 := beq_t e6
            exfalso
            omega
          · have f70 : ¬ (((b / 9223372036854775808 : Nat) : Int) = 1) := beq_f e6
            refine k_QRat (r := ⟨false, enc n, enc d⟩) (p := fltQ b) (flt_fr h2 (by rw [← h3]; congr 2; omega)) (RV.z_of (Nat.le_trans (fl_bz hnz) (by decide)) (Nat.le_trans (fl_bz hdz) (by decide))) ?_
            refine Eq.trans (b := rat (cn (fltQ b))) ?_ rfl
            rfl
  · have f20 : ¬ (((((b / 4503599627370496) % 2048) : Nat) : Int) > 0) := of_decide_eq_false e1
    have hfe := fe_lo (b := b) (by omega)
    refine ⟨⟨by omega, rfl, (by show 8 * 1 ≤ _; omega), by omega⟩, ?_⟩
    have hL8 : (List.replicate (8 : Int).toNat [D.v (.int .u8 (0))]).length = 8 := List.length_replicate ..
    refine ⟨Nat, fun i => [(2, .val (.one (.ptr 2 0))), (3, bool (((b / 9223372036854775808 : Nat) : Int) == 1)), (4, int 1), (5, .val (.one (.d (.v (.int .u64 (((b % 4503599627370496 : Nat) : Int))))))), (6, .val (.one (.row 23 0))), (25, int ((List.replicate (8 : Int).toNat [D.v (.int .u8 (0))]).length : Int)), (26, int (i : Int))],
      fun i => [(2, .var 25 [.d (.v (.bool z0.s)), .d (.v (.string z0.a)), .d (.v (.string z0.d))]), (23, .row 5 1 0 (flL (fm b) i) true)], fun i => i ≤ 8, fun i => 8 - i, 0, ?_, Nat.zero_le _, fun i hs => ?_⟩
    · constructor <;> (repeat' (first | exact rfl | exact True.intro | exact ⟨_, _, rfl⟩ | exact (by decide) | apply And.intro))
      all_goals first
        | exact flL_0 _
        | exact (flL_0 _).symm
        | exact congrArg (fun n : Int => D.v (.int .u64 n)) (by omega)
    have hT := flL_len (fm b) i
    have hw8 : IntKind.i64.wrap (8 * (i : Int)) = 8 * (i : Int) := wrap64 _ (by omega) (by omega)
    refine ⟨fun e7 => ?_, fun e7 => ?_⟩
    · have f27 : (i : Int) < ((List.replicate (8 : Int).toNat [D.v (.int .u8 (0))]).length : Int) := of_decide_eq_true e7
      refine k_shrB (fm b) (56 - 8 * i) (2 ^ (56 - 8 * i)) (by first | omega | (rw [bwu64 (by omega) (by omega)]; omega)) (by rw [hw8, wrap64 _ (by omega) (by omega)]; omega) rfl (by omega) ?_
      refine k_convB ((fm b / 2 ^ (56 - 8 * i))) rfl ?_
      refine k_at_ownB i (by first | rfl | omega | (rw [wrap64 _ (by omega) (by omega)]; omega) | (rw [wrap64 _ (by omega) (by omega)]; split <;> omega)) (by rw [hT]; omega) ?_
      refine ⟨(by rw [hT]; omega), ?_⟩
      refine ⟨i + 1, by omega, by simp only; omega, ?_⟩
      constructor <;> (repeat' (first | exact rfl | exact True.intro | apply And.intro))
      all_goals first
        | exact (flL_s (by omega)).symm
        | exact flL_s (by omega)
        | exact congrArg (fun n : Int => D.v (.int .i64 n)) (by rw [wrap64 _ (by omega) (by omega)]; omega)
        | exact congrArg (fun n : Int => D.v (.int .i64 n)) (by omega)
    · have f27 : ¬ ((i : Int) < ((List.replicate (8 : Int).toNat [D.v (.int .u8 (0))]).length : Int)) := of_decide_eq_false e7
      refine k_bstr (flN (fm b)) (strOfNums (flN (fm b))) (by rw [show i = 8 by omega]; exact flL_8 _) rfl ?_
      refine k_rBare (fm b) (flN_nv (by omega)) ?_
      refine ⟨Nat, fun j => [(2, .val (.one (.ptr 2 0))), (3, bool (((b / 9223372036854775808 : Nat) : Int) == 1)), (4, int 1), (8, str (enc (fm b * 2 ^ j))), (9, str (ByteArray.mk #[1])), (44, int ((fe b - 1075 : Nat) : Int)), (45, int (j : Int))],
        fun j => [(2, .var 25 [.d (.v (.bool z0.s)), .d (.v (.string z0.a)), .d (.v (.string z0.d))])], fun j => j ≤ fe b - 1075, fun j => fe b - 1075 - j, 0, ?_, Nat.zero_le _, fun j hs => ?_⟩
      · constructor <;> (repeat' (first | exact rfl | exact True.intro | exact ⟨_, _, rfl⟩ | exact (by decide) | apply And.intro))
        all_goals first
          | exact congrArg (fun n : Int => D.v (.int .i64 n)) (by rw [wrap64 _ (by omega) (by omega)]; split <;> omega)
          | exact congrArg (fun s : ByteArray => D.v (.string s)) (by rw [Nat.pow_zero, Nat.mul_one])
          | exact congrArg (fun n : Int => D.v (.int .i64 n)) (by omega)
      have hbz := fm_big hs hle.2
      refine ⟨fun e8 => ?_, fun e8 => ?_⟩
      · have f46 : (j : Int) < ((fe b - 1075 : Nat) : Int) := of_decide_eq_true e8
        refine k_rPlus (fm b * 2 ^ j) (fm b * 2 ^ j) (nv_enc _) (nv_enc _) (Nat.le_trans (fl_bz hbz) (by decide)) (Nat.le_trans (fl_bz hbz) (by decide)) ?_
        refine ⟨j + 1, by omega, by simp only; omega, ?_⟩
        constructor <;> (repeat' (first | exact rfl | exact True.intro | apply And.intro))
        all_goals first
          | exact congrArg (fun s : ByteArray => D.v (.string s)) (by rw [Nat.pow_succ, ← Nat.mul_assoc, Nat.mul_two])
          | rfl
          | exact congrArg (fun n : Int => D.v (.int .i64 n)) (by rw [wrap64 _ (by omega) (by omega)]; omega)
          | exact congrArg (fun n : Int => D.v (.int .i64 n)) (by omega)
      · have f46 : ¬ ((j : Int) < ((fe b - 1075 : Nat) : Int)) := of_decide_eq_false e8
        have hj : j = fe b - 1075 := by omega
        refine ⟨Nat × Nat × Nat, fun (k, n, d) => [(2, .val (.one (.ptr 2 0))), (3, bool (((b / 9223372036854775808 : Nat) : Int) == 1)), (8, str (enc n)), (9, str (enc d)), (53, int ((1075 - fe b : Nat) : Int)), (54, int (k : Int))],
          fun (k, n, d) => [(2, .var 25 [.d (.v (.bool z0.s)), .d (.v (.string z0.a)), .d (.v (.string z0.d))])], fun (k, n, d) => k ≤ 1075 - fe b ∧ 0 < d ∧ n * 2 ^ k = fm b * 2 ^ (fe b - 1075) * d ∧ n ≤ fm b * 2 ^ (fe b - 1075) ∧ d ≤ 2 ^ k, fun (k, n, d) => 1075 - fe b - k, (0, fm b * 2 ^ j, 1), ?_, ⟨Nat.zero_le _, Nat.one_pos, by rw [hj, Nat.pow_zero], by rw [hj]; exact Nat.le_refl _, Nat.le_refl _⟩, fun s hs => ?_⟩
        · constructor <;> (repeat' (first | exact rfl | exact True.intro | exact ⟨_, _, rfl⟩ | exact (by decide) | apply And.intro))
          all_goals first
            | exact congrArg (fun n : Int => D.v (.int .i64 n)) (by rw [wrap64 _ (by omega) (by omega)]; split <;> omega)
            | exact congrArg (fun s : ByteArray => D.v (.string s)) enc_one
            | exact congrArg (fun s : ByteArray => D.v (.string s)) enc_one.symm
        obtain ⟨k, n, d⟩ := s
        obtain ⟨g1, h2, h3, h4, h5⟩ := hs
        try simp only at g1 h2 h3 h4 h5
        have hnz : n ≤ 2 ^ (8 * 200) := Nat.le_trans h4 (fm_big (Nat.le_refl _) hle.2)
        have hdz : d ≤ 2 ^ (8 * 200) := pw_big h5 (by omega)
        refine ⟨fun e9 => ?_, fun e9 => ?_⟩
        · have f55 : (k : Int) < ((1075 - fe b : Nat) : Int) := of_decide_eq_true e9
          refine k_rbit n 0 (nv_enc _) rfl (Nat.le_trans (fl_bz hnz) (by decide)) (by decide) ?_
          refine fork (fun e10 => ?_) (fun e10 => ?_)
          · have f59 : ((n / 2 ^ 0 % 2 : Nat) : Int) = 1 := beq_t e10
            refine ⟨fun _ => ?_, fun e => absurd e (by decide)⟩
            refine k_rPlus (d) (d) (nv_enc _) (nv_enc _) (Nat.le_trans (fl_bz hdz) (by decide)) (Nat.le_trans (fl_bz hdz) (by decide)) ?_
            refine ⟨(k + 1, n, d + d), ⟨by omega, by omega, by rw [Nat.pow_succ, ← Nat.mul_assoc, h3, Nat.mul_assoc, Nat.mul_two], h4, by rw [Nat.pow_succ]; omega⟩, by simp only; omega, ?_⟩
            constructor <;> (repeat' (first | exact rfl | exact True.intro | apply And.intro))
            all_goals first
              | exact congrArg (fun n : Int => D.v (.int .i64 n)) (by rw [wrap64 _ (by omega) (by omega)]; omega)
              | exact congrArg (fun n : Int => D.v (.int .i64 n)) (by omega)
          · have f59 : ¬ (((n / 2 ^ 0 % 2 : Nat) : Int) = 1) := beq_f e10
            refine k_eql_str_c (fun f61 => ?_) (fun f61 => ?_)
            · refine ⟨fun _ => ?_, fun e => absurd e (by decide)⟩
              refine k_rPlus (d) (d) (nv_enc _) (nv_enc _) (Nat.le_trans (fl_bz hdz) (by decide)) (Nat.le_trans (fl_bz hdz) (by decide)) ?_
              refine ⟨(k + 1, n, d + d), ⟨by omega, by omega, by rw [Nat.pow_succ, ← Nat.mul_assoc, h3, Nat.mul_assoc, Nat.mul_two], h4, by rw [Nat.pow_succ]; omega⟩, by simp only; omega, ?_⟩
              constructor <;> (repeat' (first | exact rfl | exact True.intro | apply And.intro))
              all_goals first
                | exact congrArg (fun n : Int => D.v (.int .i64 n)) (by rw [wrap64 _ (by omega) (by omega)]; omega)
                | exact congrArg (fun n : Int => D.v (.int .i64 n)) (by omega)
            · refine ⟨fun e => absurd e (by decide), fun _ => ?_⟩
              refine k_rhalved n (nv_enc _) (Nat.le_trans (fl_bz hnz) (by decide)) ?_
              refine ⟨(k + 1, n / 2, d), ⟨by omega, h2, by rw [Nat.pow_succ, Nat.mul_comm (2 ^ k) 2, ← Nat.mul_assoc, show n / 2 * 2 = n by omega]; exact h3, by omega, by rw [Nat.pow_succ]; omega⟩, by simp only; omega, ?_⟩
              constructor <;> (repeat' (first | exact rfl | exact True.intro | apply And.intro))
              all_goals first
                | exact congrArg (fun n : Int => D.v (.int .i64 n)) (by rw [wrap64 _ (by omega) (by omega)]; omega)
                | exact congrArg (fun n : Int => D.v (.int .i64 n)) (by omega)
        · have f55 : ¬ ((k : Int) < ((1075 - fe b : Nat) : Int)) := of_decide_eq_false e9
          refine fork (fun e11 => ?_) (fun e11 => ?_)
          · have f70 : ((b / 9223372036854775808 : Nat) : Int) = 1 := beq_t e11
            exfalso
            omega
          · have f70 : ¬ (((b / 9223372036854775808 : Nat) : Int) = 1) := beq_f e11
            refine k_QRat (r := ⟨false, enc n, enc d⟩) (p := fltQ b) (flt_fr h2 (by rw [← h3]; congr 2; omega)) (RV.z_of (Nat.le_trans (fl_bz hnz) (by decide)) (Nat.le_trans (fl_bz hdz) (by decide))) ?_
            refine Eq.trans (b := rat (cn (fltQ b))) ?_ rfl
            rfl
theorem k_Float (b : Nat) {y : Int} (hy : y = (b : Int)) (hb : b ≤ 9218868437227405312) (k : ∀ q, q = fltQ b → (cn q).z ≤ 1000 → K (rat (cn q))) : Ask 6 [.val (.one (.d (.v (.int .u64 y))))] K := by
  subst hy; exact use (Float_spec b hb) rfl (k _ rfl (flt_qs hb))
end
end Go.Proofs.YtpejadencgfnnaaDoor.eng
