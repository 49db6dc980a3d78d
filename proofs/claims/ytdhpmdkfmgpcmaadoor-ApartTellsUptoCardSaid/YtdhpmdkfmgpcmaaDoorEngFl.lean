/- Contracts: rat.Floor, Down, Up; the functions of package nat that they call, by data. -/
import Derived.Test.YtdhpmdkfmgpcmaaDoorEngU
namespace Go.Proofs.YtdhpmdkfmgpcmaaDoor.eng
open Go.RowKit num mem seg q held ratA ratB ratC ratD ratE vars ratF natC natD natI

def str (s : ByteArray) : AV := .val (.one (.d (.v (.string s))))
section
variable {x y : RV} {K : AV → Prop} {a b : ByteArray} {n m : Nat}
theorem nDiv_spec (a b : ByteArray) (ha : a.size ≤ 35184372088832) (hb : b.size ≤ 35184372088832) (h0 : 0 < nv b) : Spec Tryd.prog Tab 112 [str a, str b] (.tup [.one (.d (.v (.string (enc (nv a / nv b))))), .one (.d (.v (.string (enc (nv a % nv b))))), .one (.d (.v (.int .i64 0)))]) :=
  spec_calls (enters_of Tryd.func112 rfl rfl) rfl rfl fun w _ => (Div_any a b w ha hb h0).mono fun _ _ h => h
theorem k_nDiv (ha : a.size ≤ 35184372088832) (hb : b.size ≤ 35184372088832) (h0 : 0 < nv b) (k : K (.tup [.one (.d (.v (.string (enc (nv a / nv b))))), .one (.d (.v (.string (enc (nv a % nv b))))), .one (.d (.v (.int .i64 0)))])) : Ask 112 [str a, str b] K :=
  use (nDiv_spec a b ha hb h0) rfl k
theorem nAdd_spec (a b : ByteArray) (ha : a.size ≤ 70368744177663) (hb : b.size ≤ 70368744177663) : Spec Tryd.prog Tab 120 [str a, str b] (str (enc (nv a + nv b))) :=
  spec_calls (enters_of Tryd.func120 rfl rfl) rfl rfl fun w _ => (Add_any a b w ha hb).mono fun _ _ h => h
theorem k_nAdd (ha : a.size ≤ 70368744177663) (hb : b.size ≤ 70368744177663) (k : K (str (enc (nv a + nv b)))) : Ask 120 [str a, str b] K :=
  use (nAdd_spec a b ha hb) rfl k
theorem nOf_spec (n : Int) (h : n ≤ 9223372036854775807) : Spec Tryd.prog Tab 145 [int n] (str (enc n.toNat)) :=
  spec_calls (enters_of Tryd.func145 rfl rfl) rfl rfl fun w _ => (Of_any n w h).mono fun _ _ h => h
theorem k_nOf {n : Int} (h : n ≤ 9223372036854775807) (k : K (str (enc n.toNat))) : Ask 145 [int n] K := use (nOf_spec n h) rfl k
theorem made_spec (s : Bool) (n d : Nat) (hn : (enc n).size ≤ 17592186044416) (hd : (enc d).size ≤ 17592186044416) (h0 : 0 < d) : Spec Tryd.prog Tab 126 [bool s, str (enc n), str (enc d)] (rat (cn (mkRat (sg s n) d))) := by
  refine spec_calls (enters_of Tryd.func126 rfl rfl) rfl rfl fun w hT => ?_
  refine (made_any s n d w hn hd h0 hT).mono fun e w' ⟨u, c, f, he, hi, hb⟩ => ?_
  obtain ⟨rfl, rfl, rfl⟩ := is_cn hi
  exact ⟨he, hb⟩
theorem k_made {s : Bool} (n d : Nat) (ha : a = enc n) (hb : b = enc d) (hn : (enc n).size ≤ 17592186044416) (hd : (enc d).size ≤ 17592186044416) (h0 : 0 < d) (k : K (rat (cn (mkRat (sg s n) d)))) : Ask 126 [bool s, str a, str b] K := by
  subst ha hb
  exact use (made_spec s n d hn hd h0) rfl k
theorem fit_spec (x : RV) (hx : x.z ≤ 17592186044416) : Spec Tryd.prog Tab 94 [rat x] (rat (cn x.q)) := by
  refine spec_calls (enters_of Tryd.func94 rfl rfl) rfl rfl fun w hT => ?_
  obtain ⟨h1, h2⟩ := z_sizes hx
  refine (fit_any x.s x.a x.d w h1 h2 hT).mono fun e w' ⟨u, c, f, he, hi, hb⟩ => ?_
  obtain ⟨rfl, rfl, rfl⟩ := is_cn hi
  exact ⟨he, hb⟩
theorem k_fit (hx : x.z ≤ 17592186044416) (k : ∀ q, q = x.q → (cn q).z ≤ x.z + 1 → K (rat (cn q))) : Ask 94 [rat x] K := use (fit_spec x hx) rfl (k _ rfl (by have := x.z1; rw [cn_z]; omega))

/-! ### texts compared -/
theorem neq_str (ox oy : Operand) (s t : ByteArray) (w : World) : (do eqGuard .neq 9 ox oy (.string s) (.string t); binOp .neq 9 (.string s) (.string t) : Sem Value).run Tryd.prog w = .ok (.bool (!decide (s = t))) w := by
  by_cases H : s = t
  · obtain rfl := H; simp [go_sem]
  · rw [decide_eq_false H]; simp [go_sem, ba_iff, H]
theorem eql_str (ox oy : Operand) (s t : ByteArray) (w : World) : (do eqGuard .eql 9 ox oy (.string s) (.string t); binOp .eql 9 (.string s) (.string t) : Sem Value).run Tryd.prog w = .ok (.bool (decide (s = t))) w := by
  by_cases H : s = t
  · obtain rfl := H; simp [go_sem]
  · rw [decide_eq_false H]; simp [go_sem, ba_iff, H]
theorem k_neq_str_c {ox oy : Operand} {s t : ByteArray} (k1 : s = t → K (bool false)) (k0 : ¬ s = t → K (bool true)) : AskB .neq 9 ox oy (.string s) (.string t) K := by
  by_cases H : s = t
  · exact useB (fun w => by have := neq_str ox oy s t w; rw [decide_eq_true H] at this; exact this) (k1 H)
  · exact useB (fun w => by have := neq_str ox oy s t w; rw [decide_eq_false H] at this; exact this) (k0 H)
theorem k_eql_str_c {ox oy : Operand} {s t : ByteArray} (k1 : s = t → K (bool true)) (k0 : ¬ s = t → K (bool false)) : AskB .eql 9 ox oy (.string s) (.string t) K := by
  by_cases H : s = t
  · exact useB (fun w => by have := eql_str ox oy s t w; rw [decide_eq_true H] at this; exact this) (k1 H)
  · exact useB (fun w => by have := eql_str ox oy s t w; rw [decide_eq_false H] at this; exact this) (k0 H)

/-! ### rounded down -/
def upN (s : Bool) (n m : Nat) : Nat := if s = true ∧ n % m ≠ 0 then n / m + 1 else n / m
theorem upN_is (s : Bool) (n m : Nat) (hm : 0 < m) : sg s (upN s n m) = sg s n / (m : Int) := by
  unfold upN
  cases s with
  | false => rw [if_neg (by simp)]; exact Int.natCast_ediv n m
  | true =>
    have hm' : (0 : Int) < (m : Int) := by omega
    have e := Nat.div_add_mod n m
    have e' : (m : Int) * ((n / m : Nat) : Int) + ((n % m : Nat) : Int) = (n : Int) := by rw [← Int.natCast_mul, ← Int.natCast_add, e]
    have hlt := Nat.mod_lt n hm
    by_cases hr : n % m = 0
    · rw [if_neg (by simp [hr])]
      refine ((Int.ediv_emod_unique hm' (q := -((n / m : Nat) : Int)) (r := 0)).2 ⟨?_, by omega, hm'⟩).1.symm
      show 0 + (m : Int) * -((n / m : Nat) : Int) = -(n : Int)
      rw [Int.mul_neg]; omega
    · rw [if_pos ⟨rfl, hr⟩]
      refine ((Int.ediv_emod_unique hm' (q := -((n / m + 1 : Nat) : Int)) (r := (m : Int) - ((n % m : Nat) : Int))).2 ⟨?_, by omega, by omega⟩).1.symm
      show (m : Int) - ((n % m : Nat) : Int) + (m : Int) * -((n / m + 1 : Nat) : Int) = -(n : Int)
      rw [Int.mul_neg, Int.natCast_add, Int.mul_add]; simp only [Int.natCast_one, Int.mul_one]; omega
theorem upN_le (s : Bool) (n m : Nat) : upN s n m ≤ n + 1 := by
  unfold upN
  have := Nat.div_le_self n m
  split <;> omega
theorem enc1_size : (enc 1).size = 1 := by rw [enc_one]; rfl
theorem upN_size (s : Bool) (n m : Nat) : (enc (upN s n m)).size ≤ (enc n).size + 2 := by
  have h1 := enc_mono (upN_le s n m)
  have h2 : (enc (n + 1)).size ≤ ((enc n).size + 1) + 1 := enc_add_le (a := n) (b := 1) (k := (enc n).size + 1) (by omega) (by rw [enc1_size]; omega)
  omega
theorem enc_nil_iff {n : Nat} : enc n = ⟨#[]⟩ ↔ n = 0 := by
  constructor
  · intro h
    have := nv_enc n
    rw [h] at this
    rw [← this]; exact nv_none
  · intro h; subst h; exact enc_zero
theorem floor_is (q : Rat) : mkRat (sg (decide (q.num < 0)) (upN (decide (q.num < 0)) q.num.natAbs q.den)) 1 = ((q.floor : Int) : Rat) := by
  rw [upN_is _ _ _ q.den_pos, sg_neg, of_rat, Rat.floor_def]
theorem qs_floor (q : Rat) : qs ((q.floor : Int) : Rat) ≤ qs q + 2 := by
  rw [← floor_is, of_rat]
  unfold qs
  rw [Rat.num_intCast, Rat.den_intCast, sg_abs, enc1_size]
  have := upN_size (decide (q.num < 0)) q.num.natAbs q.den
  omega
def flV (q : Rat) : Int := if q.floor < 0 then -intV q.floor.natAbs else intV q.floor.natAbs
def flE (q : Rat) : Int := intE q.floor.natAbs
theorem intV_range (n : Nat) : 0 ≤ intV n ∧ intV n ≤ 9223372036854775807 := by unfold intV; split <;> omega
theorem wrap64' (n : Int) (h1 : -9223372036854775808 ≤ n) (h2 : n ≤ 9223372036854775807) : IntKind.i64.wrap n = n := by
  unfold IntKind.wrap
  simp [IntKind.signed, IntKind.bits]
  split <;> omega
def dnN (den : Int) : Int := if 1 > den then 1 else den
theorem dnN_pos (den : Int) (h : den ≤ 9223372036854775807) : 0 < dnN den ∧ dnN den ≤ 9223372036854775807 := by unfold dnN; split <;> omega
def downQ (q : Rat) (den : Int) : Rat := mkRat ((q * ((dnN den : Int) : Rat)).floor) (dnN den).toNat
theorem nat_q (n : Nat) : RV.q ⟨false, enc n, ⟨#[1]⟩⟩ = ((n : Int) : Rat) ∧ RV.z ⟨false, enc n, ⟨#[1]⟩⟩ = max (enc n).size 1 := by
  have : (⟨false, enc n, ⟨#[1]⟩⟩ : RV) = cn ((n : Int) : Rat) := by
    unfold cn
    rw [Rat.num_intCast, Rat.den_intCast, enc_one]
    simp
  refine ⟨by rw [this, cn_q], rfl⟩
theorem enc_i64 {n : Nat} (h : n ≤ 9223372036854775807) : (enc n).size ≤ 8 := enc_size_le.2 (by omega)
theorem qs_down (q : Rat) (den : Int) (hd : den ≤ 9223372036854775807) : qs (downQ q den) ≤ qs q + 40 := by
  obtain ⟨d1, d2⟩ := dnN_pos den hd
  unfold downQ
  have h1 : mkRat (q * ((dnN den : Int) : Rat)).floor (dnN den).toNat = (((q * ((dnN den : Int) : Rat)).floor : Int) : Rat) / ((dnN den : Int) : Rat) := by
    rw [Rat.mkRat_eq_div]
    congr 1
    rw [← Rat.intCast_natCast, Int.toNat_of_nonneg (by omega)]
  rw [h1]
  have := qs_div (((q * ((dnN den : Int) : Rat)).floor : Int) : Rat) ((dnN den : Int) : Rat)
  have := qs_floor (q * ((dnN den : Int) : Rat))
  have := qs_mul q ((dnN den : Int) : Rat)
  have : qs ((dnN den : Int) : Rat) ≤ 8 := qs_i64 (by omega) d2
  omega
def upQ (q : Rat) (den : Int) : Rat := -downQ (-q) den
end
end Go.Proofs.YtdhpmdkfmgpcmaaDoor.eng
