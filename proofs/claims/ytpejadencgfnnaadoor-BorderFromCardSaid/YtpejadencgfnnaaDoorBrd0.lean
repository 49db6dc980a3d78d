/- Words of 64 bits for the engine; the numbers that floating-point bits stand for. -/
import Derived.Test.YtpejadencgfnnaaDoorGrpQ
import Derived.Test.YtpejadencgfnnaaDoorGrpS
import Derived.Test.YtpejadencgfnnaaDoorWg
import Derived.Laws.BitsAllLaws
namespace Go.Proofs.YtpejadencgfnnaaDoor.eng
open Go.RowKit num mem seg q held ratA ratB ratC ratD ratE vars ratF
set_option exponentiation.threshold 4000
section
variable {K : AV → Prop} {T : TypeId} {ox oy : Operand}
theorem bwu64 {m : Int} (h0 : 0 ≤ m) (h1 : m < 18446744073709551616) : IntKind.u64.wrap m = m := by
  unfold IntKind.wrap
  simp [IntKind.signed, IntKind.bits]
  omega
theorem bwu8_mod (n : Nat) : IntKind.u8.wrap (n : Int) = ((n % 256 : Nat) : Int) := by
  unfold IntKind.wrap
  simp [IntKind.signed, IntKind.bits]
theorem bwu8 {m : Int} (h0 : 0 ≤ m) (h1 : m < 256) : IntKind.u8.wrap m = m := by
  unfold IntKind.wrap
  simp [IntKind.signed, IntKind.bits]
  omega
/-! ### operations on words -/
theorem run_shrB (T : TypeId) (ox oy : Operand) (k : IntKind) (n r : Nat) (hr : r ≤ 64) (w : World) : (do eqGuard .shr T ox oy (.int .u64 (n : Int)) (.int k (r : Int)); binOp .shr T (.int .u64 (n : Int)) (.int k (r : Int)) : Sem Value).run Tryd.prog w = .ok (.int .u64 ((n / 2 ^ r : Nat) : Int)) w := by
  have hg : eqGuard .shr T ox oy (.int .u64 (n : Int)) (.int k (r : Int)) = pure () := rfl
  rw [hg, binOp_shr]
  unfold Op.shift
  rw [if_neg (by omega)]
  have hm : min (r : Int).toNat IntKind.u64.bits = r := by rw [Int.toNat_natCast]; exact Nat.min_eq_left hr
  have e1 : (n : Int).fdiv (2 ^ r) = ((n / 2 ^ r : Nat) : Int) := by
    have : (2 : Int) ^ r = ((2 ^ r : Nat) : Int) := by rw [Int.natCast_pow]; rfl
    rw [this, Int.fdiv_eq_ediv_of_nonneg _ (Int.natCast_nonneg _)]
    exact (Int.natCast_ediv _ _).symm
  simp only [hm, e1]
  rfl
theorem k_shrB {k : IntKind} {x y : Int} (n r d : Nat) (hx : x = n) (hy : y = r) (hd : 2 ^ r = d) (hr : r ≤ 64) (k1 : K (one (.int .u64 ((n / d : Nat) : Int)))) : AskB .shr T ox oy (.int .u64 x) (.int k y) K := by
  subst hx hy hd
  exact ⟨_, ⟨_, rfl, rfl, run_shrB T ox oy k n r hr⟩, k1⟩
theorem run_andB (T : TypeId) (ox oy : Operand) (n m : Nat) (hn : n < 18446744073709551616) (hm : m < 18446744073709551616) (w : World) : (do eqGuard .and T ox oy (.int .u64 (n : Int)) (.int .u64 (m : Int)); binOp .and T (.int .u64 (n : Int)) (.int .u64 (m : Int)) : Sem Value).run Tryd.prog w = .ok (.int .u64 ((n &&& m : Nat) : Int)) w := by
  rw [← u64_and_nat n m hn hm]
  simp [go_sem]
theorem k_andB {x y : Int} (n j d : Nat) (hx : x = n) (hd : 2 ^ j = d) (hy : y = ((d - 1 : Nat) : Int)) (hn : n < 18446744073709551616) (hj : d ≤ 18446744073709551616) (k : K (one (.int .u64 ((n % d : Nat) : Int)))) : AskB .and T ox oy (.int .u64 x) (.int .u64 y) K := by
  subst hx hy hd
  refine ⟨_, ⟨_, rfl, rfl, run_andB T ox oy n (2 ^ j - 1) hn (by omega)⟩, ?_⟩
  rw [Nat.and_two_pow_sub_one_eq_mod]; exact k
theorem run_orB (T : TypeId) (ox oy : Operand) (n m : Nat) (hn : n < 18446744073709551616) (hm : m < 18446744073709551616) (w : World) : (do eqGuard .or T ox oy (.int .u64 (n : Int)) (.int .u64 (m : Int)); binOp .or T (.int .u64 (n : Int)) (.int .u64 (m : Int)) : Sem Value).run Tryd.prog w = .ok (.int .u64 ((n ||| m : Nat) : Int)) w := by
  rw [← u64_or_nat n m hn hm]
  simp [go_sem]
theorem k_orB {x y : Int} (n j d : Nat) (hx : x = n) (hd : 2 ^ j = d) (hy : y = (d : Int)) (hn : n < d) (hj : d < 18446744073709551616) (k : K (one (.int .u64 ((n + d : Nat) : Int)))) : AskB .or T ox oy (.int .u64 x) (.int .u64 y) K := by
  subst hx hy hd
  refine ⟨_, ⟨_, rfl, rfl, run_orB T ox oy n (2 ^ j) (by omega) hj⟩, ?_⟩
  have e : n ||| 2 ^ j = n + 2 ^ j := by
    have := Nat.two_pow_add_eq_or_of_lt hn 1
    rw [Nat.mul_one, Nat.or_comm] at this
    omega
  rw [e]; exact k
theorem run_andNotB (T : TypeId) (ox oy : Operand) (n m : Nat) (hn : n < 18446744073709551616) (hm : m < 18446744073709551616) (w : World) : (do eqGuard .andNot T ox oy (.int .u64 (n : Int)) (.int .u64 (m : Int)); binOp .andNot T (.int .u64 (n : Int)) (.int .u64 (m : Int)) : Sem Value).run Tryd.prog w = .ok (.int .u64 ((n &&& (18446744073709551615 - m) : Nat) : Int)) w := by
  rw [← u64_andNot_nat n m hn hm]
  simp [go_sem]
/-- without the first bit -/
theorem k_andNotB {x : Int} (n : Nat) (hx : x = n) (hn : n < 18446744073709551616) (k : K (one (.int .u64 ((n % 9223372036854775808 : Nat) : Int)))) : AskB .andNot T ox oy (.int .u64 x) (.int .u64 9223372036854775808) K := by
  subst hx
  refine ⟨_, ⟨_, rfl, rfl, run_andNotB T ox oy n 9223372036854775808 hn (by decide)⟩, ?_⟩
  rw [show 18446744073709551615 - 9223372036854775808 = 2 ^ 63 - 1 from by decide, Nat.and_two_pow_sub_one_eq_mod]; exact k
theorem run_shlB (T : TypeId) (ox oy : Operand) (n r : Nat) (hr : r ≤ 8) (h : n * 2 ^ r < 256) (w : World) : (do eqGuard .shl T ox oy (.int .u8 (n : Int)) (.int .i64 (r : Int)); binOp .shl T (.int .u8 (n : Int)) (.int .i64 (r : Int)) : Sem Value).run Tryd.prog w = .ok (.int .u8 ((n * 2 ^ r : Nat) : Int)) w := by
  have hg : eqGuard .shl T ox oy (.int .u8 (n : Int)) (.int .i64 (r : Int)) = pure () := rfl
  rw [hg, binOp_shl]
  unfold Op.shift
  rw [if_neg (by omega)]
  have hm : min (r : Int).toNat IntKind.u8.bits = r := by rw [Int.toNat_natCast]; exact Nat.min_eq_left hr
  have e1 : (n : Int) * 2 ^ r = ((n * 2 ^ r : Nat) : Int) := by rw [Int.natCast_mul, Int.natCast_pow]; rfl
  simp only [hm, e1]
  rw [bwu8 (by omega) (by omega)]
  rfl
theorem k_shlB {y : Int} (r : Nat) (hy : y = r) (hr : r < 8) (k : K (one (.int .u8 ((2 ^ r : Nat) : Int)))) : AskB .shl T ox oy (.int .u8 1) (.int .i64 y) K := by
  subst hy
  have h : 2 ^ r ≤ 2 ^ 7 := Nat.pow_le_pow_right (by decide) (by omega)
  have := run_shlB T ox oy 1 r (by omega) (by omega)
  rw [Nat.one_mul] at this
  exact ⟨_, ⟨_, rfl, rfl, this⟩, k⟩
/-! ### conversions -/
theorem bu_u64 : (Tryd.prog.underlying 22).isSome = true := by kernel_rfl
theorem bu_int : Tryd.prog.underlying 3 = some (.int .i64) := by kernel_rfl
theorem bu_u8 : Tryd.prog.underlying 5 = some (.int .u8) := by kernel_rfl
theorem bu_bytes : Tryd.prog.underlying 41 = some (.slice 5) := by kernel_rfl
theorem bu_str : Tryd.prog.underlying 9 = some .string := by kernel_rfl
theorem k_convI {x : Int} (n : Nat) (hx : x = n) (hn : n < 9223372036854775808) (k : K (int (n : Int))) :
    ∃ r, (∃ k', (Tryd.prog.underlying 22).isSome = true ∧ Tryd.prog.underlying 3 = some (.int k') ∧ r = one (.int k' (k'.wrap x))) ∧ K r :=
  ⟨_, ⟨.i64, bu_u64, bu_int, rfl⟩, by rw [hx, wrap64 _ (by omega) (by omega)]; exact k⟩
theorem k_convB {x : Int} (n : Nat) (hx : x = n) (k : K (one (.int .u8 ((n % 256 : Nat) : Int)))) :
    ∃ r, (∃ k', (Tryd.prog.underlying 22).isSome = true ∧ Tryd.prog.underlying 5 = some (.int k') ∧ r = one (.int k' (k'.wrap x))) ∧ K r :=
  ⟨_, ⟨.u8, bu_u64, bu_u8, rfl⟩, by rw [hx, bwu8_mod]; exact k⟩
/-- a list of bytes -/
def By (l : List Int) : List (List D) := l.map fun n => [D.v (.int .u8 n)]
theorem k_bstr {xs : List (List D)} (ns : List Int) (s : ByteArray) (hx : xs = By ns) (hs : strOfNums ns = s) (k : K (str s)) :
    ∃ r, (∃ (e : TypeId) (ns : List Int), xs = ns.map (fun n => [D.v (.int .u8 n)]) ∧ Tryd.prog.underlying 41 = some (.slice e) ∧ Tryd.prog.underlying e = some (.int .u8) ∧ Tryd.prog.underlying 9 = some .string ∧ r = one (.string (strOfNums ns))) ∧ K r :=
  ⟨_, ⟨5, ns, hx, bu_bytes, bu_u8, bu_str, rfl⟩, by rw [hs]; exact k⟩
end
theorem k_at_ownB {K : AV → Prop} {xs : List (List D)} {m : Int} {o v n : Nat} (i : Nat) (hm : m = (i : Int)) (h : i < xs.length) (k : K (.val (.one (.rp o v n i 0)))) :
    ∃ r, (0 ≤ m ∧ m < (xs.length : Int) ∧ r = .val (.one (.rp o v n m.toNat 0))) ∧ K r := ⟨_, ⟨by omega, by omega, rfl⟩, by subst hm; exact k⟩
/-! ### powers of 2 -/
def pwL (n : Nat) : List Int := ((2 ^ (n % 8) : Nat) : Int) :: List.replicate (n / 8) 0
def pwB (n : Nat) : ByteArray := strOfNums (pwL n)
theorem pw_row (n : Nat) : (List.replicate (n / 8 + 1) [D.v (.int .u8 0)]).set 0 [D.v (.int .u8 ((2 ^ (n % 8) : Nat) : Int))] = By (pwL n) := by
  unfold By pwL
  rw [List.replicate_succ, List.set_cons_zero, List.map_cons, List.map_replicate]
theorem pw_size (n : Nat) : (pwB n).size = n / 8 + 1 := by
  unfold pwB pwL
  rw [strOfNums_size, List.length_cons, List.length_replicate]
theorem nvl_zeros (j : Nat) : nvl (List.replicate j (0 : UInt8)) = 0 := by
  induction j with
  | zero => rfl
  | succ j ih => rw [List.replicate_succ, nvl_zero_cons, ih]
theorem pw_nv (n : Nat) : nv (pwB n) = 2 ^ n := by
  have h : 2 ^ (n % 8) ≤ 2 ^ 7 := Nat.pow_le_pow_right (by decide) (by have := Nat.mod_lt n (by decide : 8 > 0); omega)
  unfold nv pwB
  rw [strOfNums_data, pwL, List.map_cons, List.map_replicate, nvl_cons, show UInt8.ofNat (Int.toNat 0) = 0 from rfl, nvl_zeros, List.length_replicate, Int.toNat_natCast]
  rw [show (UInt8.ofNat (2 ^ (n % 8))).toNat = 2 ^ (n % 8) from by simp; omega, show (256 : Nat) = 2 ^ 8 from rfl, ← Nat.pow_mul, ← Nat.pow_add, Nat.add_zero]
  congr 1
  omega
theorem pw_enc (n : Nat) : pwB n = enc (2 ^ n) := by
  have hp : 0 < 2 ^ (n % 8) := Nat.two_pow_pos _
  have h : 2 ^ (n % 8) ≤ 2 ^ 7 := Nat.pow_le_pow_right (by decide) (by have := Nat.mod_lt n (by decide : 8 > 0); omega)
  have hs : 0 < (pwB n).size := by rw [pw_size]; omega
  have h0 : (pwB n)[0] = UInt8.ofNat (2 ^ (n % 8)) := rfl
  have := nv_stop (pwB n) hs (by
    rw [h0, beq_eq_false_iff_ne]
    have : (UInt8.ofNat (2 ^ (n % 8))).toNat = 2 ^ (n % 8) := by simp; omega
    rw [this]
    omega)
  rw [← this, pw_nv]
theorem pw_cn (n : Nat) : (⟨false, pwB n, enc 1⟩ : RV) = cn ((2 ^ n : Nat) : Rat) := by
  rw [pw_enc]
  have e : decide ((((2 ^ n : Nat) : Rat)).num < 0) = false := decide_eq_false (Int.not_lt.2 (Int.natCast_nonneg (2 ^ n)))
  unfold cn
  rw [e]; rfl
theorem pw_z {n : Nat} (h : n ≤ 2000) : qs ((2 ^ n : Nat) : Rat) ≤ 300 := by
  rw [← cn_z, ← pw_cn]
  exact RV.z_of (by rw [pw_size]; omega) (by rw [enc_one]; decide)
theorem two_pos (n : Nat) : ((2 ^ n : Nat) : Rat) ≠ 0 := by
  have : 0 < 2 ^ n := Nat.two_pow_pos n
  intro h
  have h2 : ((2 ^ n : Nat) : Rat) = ((0 : Nat) : Rat) := h
  have := Rat.natCast_inj.1 h2
  omega
/-! ### the numbers of bits -/
def fE (b : Nat) : Nat := b / 4503599627370496
def fe (b : Nat) : Nat := if fE b = 0 then 1 else fE b
def fm (b : Nat) : Nat := if fE b = 0 then b % 4503599627370496 else b % 4503599627370496 + 4503599627370496
def fF (b : Nat) : Nat := fm b * 2 ^ fe b
def fltQ (b : Nat) : Rat := (fF b : Rat) / ((2 ^ 1075 : Nat) : Rat)
theorem fe_lo {b : Nat} (h : b / 4503599627370496 = 0) : fe b = 1 ∧ fm b = b % 4503599627370496 := ⟨if_pos h, if_pos h⟩
theorem fe_hi {b : Nat} (h : ¬ b / 4503599627370496 = 0) : fe b = b / 4503599627370496 ∧ fm b = b % 4503599627370496 + 4503599627370496 := ⟨if_neg h, if_neg h⟩
theorem fm_lt (b : Nat) : fm b < 9007199254740992 := by unfold fm; split <;> omega
theorem fe_le {b : Nat} (h : b ≤ 9218868437227405312) : 1 ≤ fe b ∧ fe b ≤ 2047 := by unfold fe fE; split <;> omega
theorem frac_eq {a c : Nat} {B D : Nat} (hB : 0 < B) (hD : 0 < D) (h : a * D = c * B) : (a : Rat) / (B : Rat) = (c : Rat) / (D : Rat) := by
  have b0 : (B : Rat) ≠ 0 := fun e => by have := Rat.natCast_inj.1 (show ((B : Nat) : Rat) = ((0 : Nat) : Rat) from e); omega
  have d0 : (D : Rat) ≠ 0 := fun e => by have := Rat.natCast_inj.1 (show ((D : Nat) : Rat) = ((0 : Nat) : Rat) from e); omega
  have hq : (a : Rat) * (D : Rat) = (c : Rat) * (B : Rat) := by rw [← Rat.natCast_mul, ← Rat.natCast_mul, h]
  grind
theorem flt_hi {b : Nat} (h : 1075 ≤ fe b) : (fm b : Rat) * ((2 ^ (fe b - 1075) : Nat) : Rat) = fltQ b := by
  have e := frac_eq (a := fm b * 2 ^ (fe b - 1075)) (c := fF b) (B := 1) (D := 2 ^ 1075) (by decide) (Nat.two_pow_pos _) (by
    unfold fF
    rw [Nat.mul_assoc, ← Nat.pow_add, Nat.sub_add_cancel h, Nat.mul_one])
  unfold fltQ
  rw [← e, Rat.natCast_mul, show ((1 : Nat) : Rat) = 1 from rfl, Rat.div_def, show (1 : Rat)⁻¹ = 1 from by decide +kernel, Rat.mul_one]
theorem flt_lo {b : Nat} (h : fe b < 1075) : (fm b : Rat) / ((2 ^ (1075 - fe b) : Nat) : Rat) = fltQ b :=
  frac_eq (Nat.two_pow_pos _) (Nat.two_pow_pos _) (by
    unfold fF
    rw [Nat.mul_assoc, ← Nat.pow_add]
    congr 2
    omega)
/-- a fraction that stands for the number of the bits -/
theorem flt_fr {b n d : Nat} (hd : 0 < d) (h : n * 2 ^ (1075 - fe b) = fm b * 2 ^ (fe b - 1075) * d) : Fr ⟨false, enc n, enc d⟩ (fltQ b) := by
  refine ⟨by show 0 < nv (enc d); rw [nv_enc]; exact hd, ?_⟩
  show mkRat (sg false (nv (enc n))) (nv (enc d)) = _
  rw [nv_enc, nv_enc]
  show mkRat ((n : Nat) : Int) d = _
  rw [Rat.mkRat_eq_div]
  show (n : Rat) / (d : Rat) = (fF b : Rat) / _
  refine frac_eq hd (Nat.two_pow_pos _) ?_
  unfold fF
  rcases Nat.lt_or_ge (fe b) 1075 with c | c
  · rw [Nat.sub_eq_zero_of_le (Nat.le_of_lt c), Nat.pow_zero, Nat.mul_one] at h
    have e : (2 : Nat) ^ 1075 = 2 ^ (1075 - fe b) * 2 ^ fe b := by rw [← Nat.pow_add]; congr 1; omega
    rw [e, ← Nat.mul_assoc, h, Nat.mul_assoc, Nat.mul_assoc, Nat.mul_comm d]
  · rw [Nat.sub_eq_zero_of_le c, Nat.pow_zero, Nat.mul_one] at h
    have e : (2 : Nat) ^ fe b = 2 ^ (fe b - 1075) * 2 ^ 1075 := by rw [← Nat.pow_add]; congr 1; omega
    rw [e, h, ← Nat.mul_assoc, Nat.mul_assoc (_ * _) d, Nat.mul_comm d, ← Nat.mul_assoc]
/-! ### in order -/
theorem fF_succ (b : Nat) : fF b ≤ fF (b + 1) := by
  unfold fF
  rcases (show (b + 1) / 4503599627370496 = b / 4503599627370496 ∨ ((b + 1) / 4503599627370496 = b / 4503599627370496 + 1 ∧ b % 4503599627370496 = 4503599627370495 ∧ (b + 1) % 4503599627370496 = 0) by omega) with h | ⟨h, h1, h2⟩
  · have hm : (b + 1) % 4503599627370496 = b % 4503599627370496 + 1 := by omega
    have e : fe (b + 1) = fe b := by unfold fe fE; rw [h]
    have m : fm (b + 1) = fm b + 1 := by unfold fm fE; rw [h, hm]; split <;> omega
    rw [e, m]
    exact Nat.mul_le_mul_right _ (Nat.le_succ _)
  · have m : fm (b + 1) = 4503599627370496 := by unfold fm fE; rw [if_neg (by omega), h2]
    have e : fe (b + 1) = b / 4503599627370496 + 1 := by unfold fe fE; rw [if_neg (by omega), h]
    by_cases z : b / 4503599627370496 = 0
    · rw [m, e, (fe_lo z).1, (fe_lo z).2, h1, z]; decide
    · rw [m, e, (fe_hi z).1, (fe_hi z).2, h1, Nat.pow_succ, ← Nat.mul_assoc, Nat.mul_comm _ 2, ← Nat.mul_assoc]
      exact Nat.mul_le_mul_right _ (by decide)
theorem flt_mono {a b : Nat} (h : a ≤ b) : fltQ a ≤ fltQ b := by
  have hF : fF a ≤ fF b := by
    obtain ⟨d, rfl⟩ := Nat.exists_eq_add_of_le h
    clear h
    induction d with
    | zero => exact Nat.le_refl _
    | succ d ih => exact Nat.le_trans ih (fF_succ (a + d))
  unfold fltQ
  rw [Rat.div_def, Rat.div_def]
  exact Rat.mul_le_mul_of_nonneg_right (Rat.natCast_le_natCast.2 hF) (by decide +kernel)
theorem flt_pos (b : Nat) : 0 ≤ fltQ b := by
  have := flt_mono (Nat.zero_le b)
  have h0 : fltQ 0 = 0 := by decide +kernel
  rw [h0] at this; exact this
theorem flt_qs {b : Nat} (h : b ≤ 9218868437227405312) : qs (fltQ b) ≤ 1000 := by
  obtain ⟨h1, h2⟩ := fe_le h
  have hm := fm_lt b
  have hk : (cn ((fm b : Nat) : Rat)).z ≤ 8 := by
    rw [cn_z]
    exact qs_i64 (n := (fm b : Int)) (by omega) (by omega)
  rcases Nat.lt_or_ge (fe b) 1075 with c | c
  · rw [← flt_lo c]
    have := qs_div ((fm b : Nat) : Rat) ((2 ^ (1075 - fe b) : Nat) : Rat)
    have := pw_z (n := 1075 - fe b) (by omega)
    rw [cn_z] at hk; omega
  · rw [← flt_hi c]
    have := qs_mul ((fm b : Nat) : Rat) ((2 ^ (fe b - 1075) : Nat) : Rat)
    have := pw_z (n := fe b - 1075) (by omega)
    rw [cn_z] at hk; omega
/-! ### the span of the bits: m without the sign -/
def bHi (m : Nat) : Rat := ((1 : Int) : Rat) / ((2 : Int) : Rat) * (fltQ m + fltQ (m + 1))
def bLo (m : Nat) : Rat := if 0 < m then ((1 : Int) : Rat) / ((2 : Int) : Rat) * (fltQ m + fltQ (m - 1)) else -bHi m
theorem bLo_pos {m : Nat} (h : 0 < m) : bLo m = ((1 : Int) : Rat) / ((2 : Int) : Rat) * (fltQ m + fltQ (m - 1)) := if_pos h
theorem bLo_zero {m : Nat} (h : ¬ 0 < m) : bLo m = -bHi m := if_neg h
theorem bLo_le (m : Nat) : bLo m ≤ bHi m := by
  have e : ((1 : Int) : Rat) / ((2 : Int) : Rat) = 1 / 2 := rfl
  have h1 := flt_pos m
  have h2 := flt_pos (m + 1)
  by_cases h : 0 < m
  · rw [bLo_pos h]
    unfold bHi
    have h3 := flt_mono (show m - 1 ≤ m + 1 by omega)
    rw [e]; grind
  · rw [bLo_zero h]
    unfold bHi
    rw [e]; grind
def frLo (b : Nat) : Rat := if b / 9223372036854775808 = 1 then -bHi (b % 9223372036854775808) else bLo (b % 9223372036854775808)
def frHi (b : Nat) : Rat := if b / 9223372036854775808 = 1 then -bLo (b % 9223372036854775808) else bHi (b % 9223372036854775808)
def frE (b : Nat) : Int := if 9218868437227405312 ≤ b % 9223372036854775808 then 3 else 0
def frA (b : Nat) : RV := if 9218868437227405312 ≤ b % 9223372036854775808 then z0 else cn (frLo b)
def frB (b : Nat) : RV := if 9218868437227405312 ≤ b % 9223372036854775808 then z0 else cn (frHi b)
theorem fr_bad {b : Nat} (h : 9218868437227405312 ≤ b % 9223372036854775808) : frE b = 3 ∧ frA b = z0 ∧ frB b = z0 := ⟨if_pos h, if_pos h, if_pos h⟩
theorem fr_ok {b : Nat} (h : ¬ 9218868437227405312 ≤ b % 9223372036854775808) : frE b = 0 ∧ frA b = cn (frLo b) ∧ frB b = cn (frHi b) := ⟨if_neg h, if_neg h, if_neg h⟩
theorem frLo_neg {b : Nat} (h : b / 9223372036854775808 = 1) : frLo b = -bHi (b % 9223372036854775808) ∧ frHi b = -bLo (b % 9223372036854775808) := ⟨if_pos h, if_pos h⟩
theorem frLo_pos {b : Nat} (h : ¬ b / 9223372036854775808 = 1) : frLo b = bLo (b % 9223372036854775808) ∧ frHi b = bHi (b % 9223372036854775808) := ⟨if_neg h, if_neg h⟩
/-! ### eight bytes -/
def flL (m i : Nat) : List (List D) := (List.range 8).map fun j => [D.v (.int .u8 ((if j < i then m / 2 ^ (56 - 8 * j) % 256 else 0 : Nat) : Int))]
theorem flL_len (m i : Nat) : (flL m i).length = 8 := by simp [flL]
theorem flL_0 (m : Nat) : List.replicate 8 [D.v (.int .u8 0)] = flL m 0 := rfl
theorem flL_s {m i : Nat} (h : i < 8) : (flL m i).set i [D.v (.int .u8 ((m / 2 ^ (56 - 8 * i) % 256 : Nat) : Int))] = flL m (i + 1) := by
  rcases (show i = 0 ∨ i = 1 ∨ i = 2 ∨ i = 3 ∨ i = 4 ∨ i = 5 ∨ i = 6 ∨ i = 7 by omega) with rfl | rfl | rfl | rfl | rfl | rfl | rfl | rfl <;> rfl
def flN (m : Nat) : List Int := [(m : Int) / 72057594037927936 % 256, (m : Int) / 281474976710656 % 256, (m : Int) / 1099511627776 % 256, (m : Int) / 4294967296 % 256, (m : Int) / 16777216 % 256, (m : Int) / 65536 % 256, (m : Int) / 256 % 256, (m : Int) % 256]
theorem flL_8 (m : Nat) : flL m 8 = By (flN m) := by
  have e : flL m 8 = [[D.v (.int .u8 ((m / 72057594037927936 % 256 : Nat) : Int))], [D.v (.int .u8 ((m / 281474976710656 % 256 : Nat) : Int))], [D.v (.int .u8 ((m / 1099511627776 % 256 : Nat) : Int))], [D.v (.int .u8 ((m / 4294967296 % 256 : Nat) : Int))], [D.v (.int .u8 ((m / 16777216 % 256 : Nat) : Int))], [D.v (.int .u8 ((m / 65536 % 256 : Nat) : Int))], [D.v (.int .u8 ((m / 256 % 256 : Nat) : Int))], [D.v (.int .u8 ((m / 1 % 256 : Nat) : Int))]] := rfl
  rw [e, Nat.div_one]
  simp only [By, flN, List.map_cons, List.map_nil, Int.natCast_emod, Int.natCast_ediv]
  rfl
theorem flN_nv {m : Nat} (h : m < 18446744073709551616) : nv (strOfNums (flN m)) = m := natA.nv_eight m (by omega)
end Go.Proofs.YtpejadencgfnnaaDoor.eng
