/- Joined by wip/bundle.py: XEngH3 XEngH3b XEngH3c XLawCl. -/
import Derived.Test.YtnnffjolkgomhaaDoorGrpA
import Derived.Test.YtnnffjolkgomhaaDoorGrpB
/- Contracts: the helpers of gantlaw3 (num, nums, equal), gantmake.Of at small numbers, gantref3.Back. -/
namespace Go.Proofs.YtnnffjolkgomhaaDoor.eng
open Go.RowKit num mem seg q held ratA ratB ratC ratD ratE vars ratF natC natD natI sub32
/-- a list of bytes -/
def BL (l : List Int) : List (List D) := l.map fun n => [D.v (.int .u8 n)]
/-- a list of ints -/
def KL (l : List Int) : List (List D) := l.map fun n => [D.v (.int .i64 n)]
def RL (l : List Rat) : List (List D) := l.map fun q => rd (cn q)
section
variable {K : AV → Prop}
set_option maxRecDepth 100000 in
theorem Rev_spec (l : List (List D)) (h : l.length ≤ 1) : Spec Tryd.prog Tab 190 [.val (.one (.d (.list l)))] (.tup []) := by
  refine fn_spec Tryd.func190 rfl rfl Tryd.ntmps190 rfl (by kernel_rfl) rfl rfl ?_
  refine ⟨Unit, fun _ => [(2, int 0), (3, int (IntKind.i64.wrap ((l.length : Int) - 1)))], fun _ => [], fun _ => True, fun _ => 0, (), ?_, trivial, fun _ _ => ?_⟩
  · constructor <;> (repeat' (first | exact rfl | exact True.intro | apply And.intro))
  refine ⟨fun e => ?_, fun _ => ?_⟩
  · have h1 := of_decide_eq_true e
    rw [wrap64 _ (by omega) (by omega)] at h1
    omega
  · exact rfl
theorem str_one (n : Nat) (h0 : 0 < n) (h : n < 256) : strOfNums [(n : Int)] = enc n := by
  apply ba_ext
  rw [strOfNums_data, enc_data, digs, if_neg (by omega), Nat.div_eq_of_lt h, digs_zero, Nat.mod_eq_of_lt h]
  simp
set_option maxRecDepth 100000 in
/-- the bytes of a small number -/
theorem digits_spec (n : Nat) (hn : n < 256) : Spec Tryd.prog Tab 164 [int (n : Int)] (str (enc n)) := by
  refine fn_spec Tryd.func164 rfl rfl Tryd.ntmps164 rfl (by kernel_rfl) rfl rfl ?_
  refine ⟨Bool, fun s => [(0, int (bif s then 0 else (n : Int))), (3, .val (.one (.row 13 0)))], fun s => [(13, .row 5 1 0 (BL (bif s then [(n : Int)] else [])) true)], fun s => s = true → 0 < n, fun s => bif s then 0 else 1, false, ?_, fun h => by simp at h, fun s hs => ?_⟩
  · constructor <;> (repeat' (first | exact rfl | exact True.intro | exact ⟨_, _, rfl⟩ | exact (by decide : 0 < 1) | apply And.intro))
  have stop : ∀ l : List Int, l = (bif s then [(n : Int)] else []) → (bif s then 0 else (n : Int)) ≤ 0 → strOfNums l = enc n ∧ l.length ≤ 1 := by
    rintro l rfl h
    cases s with
    | true => exact ⟨str_one n (hs rfl) hn, Nat.le_refl 1⟩
    | false =>
      have h0 : n = 0 := by simp at h; omega
      subst h0
      exact ⟨by rw [enc_zero]; rfl, Nat.zero_le _⟩
  refine ⟨fun e => ?_, fun e => ?_⟩
  · have h1 := of_decide_eq_true e
    cases s with
    | true => simp at h1
    | false =>
      have h2 : 0 < n := by simp at h1; omega
      refine k_remN n 256 rfl rfl (by decide) ?_
      refine k_conv s_int u_u8 (n : Int) (by unfold IntKind.wrap; simp [IntKind.signed, IntKind.bits]; omega) ?_
      refine ⟨⟨fun row hrow => by rw [List.mem_singleton.1 hrow]; rfl, (by decide : 1 * 1 ≤ 140737488355328), (by decide : 1 ≤ 140737488355328)⟩, ?_⟩
      refine k_quoN n 256 rfl rfl (by decide) (by omega) ?_
      refine ⟨true, fun _ => h2, by simp, ?_⟩
      constructor <;> (repeat' (first | exact rfl | exact True.intro | apply And.intro))
      all_goals exact congrArg (fun n : Nat => D.v (.int .i64 (n : Int))) (show 0 = n / 256 by omega)
  · have h1 := of_decide_eq_false e
    obtain ⟨h2, h3⟩ := stop _ rfl (by omega)
    refine use (Rev_spec (BL (bif s then [(n : Int)] else [])) (by unfold BL; rw [List.length_map]; exact h3)) rfl ?_
    refine ⟨_, ⟨5, (bif s then [(n : Int)] else []), rfl, u_bytes, u_u8, u_str, rfl⟩, ?_⟩
    refine Eq.trans (b := str (strOfNums (bif s then [(n : Int)] else []))) ?_ rfl
    rw [h2]
theorem k_digits {x : Int} (n : Nat) (hx : x = n) (hn : n < 256) (k : K (str (enc n))) : Ask 164 [int x] K := by
  subst hx; exact use (digits_spec n hn) rfl k
theorem cn_nat (n : Nat) : cn (n : Rat) = ⟨false, enc n, enc 1⟩ := by
  unfold cn
  rw [show ((n : Rat)).num = (n : Int) from Rat.num_natCast n, show ((n : Rat)).den = 1 from Rat.den_natCast n, decide_eq_false (by omega)]
  rfl
set_option maxRecDepth 100000 in
theorem mOf_spec (n : Nat) (hn : n < 256) : Spec Tryd.prog Tab 111 [int (n : Int), int 1] (rat (cn (n : Rat))) := by
  refine fn_spec Tryd.func111 rfl rfl Tryd.ntmps111 rfl (by kernel_rfl) rfl rfl ?_
  have hmx : (if IntKind.i64.wrap (0 - (n : Int)) > (n : Int) then IntKind.i64.wrap (0 - (n : Int)) else (n : Int)) = (n : Int) := by
    rw [wrap64 _ (by omega) (by omega)]; split <;> omega
  refine ⟨Bool, fun s => [(0, int (n : Int)), (1, int 1), (4, .val (.one (.ptr 4 0))), (5, int (bif s then 1 else (n : Int))), (6, int (bif s then 0 else 1))],
    fun s => [(4, .var 23 [.d (.v (.bool false)), .d (.v (.string ⟨#[]⟩)), .d (.v (.string ⟨#[]⟩))])], fun _ => True, fun s => bif s then 0 else 1, false, ?_, trivial, fun s _ => ?_⟩
  · constructor <;> (repeat' (first | exact rfl | exact True.intro | apply And.intro))
    all_goals exact congrArg (fun n : Int => D.v (.int .i64 n)) hmx.symm
  cases s with
  | false =>
    refine ⟨fun _ => ?_, fun e => by simp at e⟩
    refine k_remN n 1 rfl rfl (by decide) ?_
    refine ⟨by kernel_rfl, ?_⟩
    refine ⟨true, trivial, by simp, ?_⟩
    constructor <;> (repeat' (first | exact rfl | exact True.intro | apply And.intro))
    all_goals exact congrArg (fun n : Nat => D.v (.int .i64 (n : Int))) (show 0 = n % 1 by omega)
  | true =>
    refine ⟨fun e => by simp at e, fun _ => ?_⟩
    refine k_quoN n 1 rfl rfl (by decide) (by omega) ?_
    refine k_quoN 1 1 rfl rfl (by decide) (by omega) ?_
    refine ⟨by kernel_rfl, ?_⟩
    refine k_digits n (by rw [Nat.div_one]; exact hmx) hn ?_
    refine k_digits 1 rfl (by decide) ?_
    refine Eq.trans (b := rat ⟨decide (((n / 1 : Nat) : Int) < 0), enc n, enc 1⟩) ?_ rfl
    rw [cn_nat, decide_eq_false (by omega)]
theorem k_num3 {m : Int} (n : Nat) (hm : m = n) (hn : n < 256) (k : K (rat (cn (n : Rat)))) : Ask 19 [int m, int 1] K := by
  subst hm
  refine use (r := rat (cn (n : Rat))) ?_ rfl k
  refine fn_spec Tryd.func19 rfl rfl Tryd.ntmps19 rfl (by kernel_rfl) rfl rfl ?_
  refine use (mOf_spec n hn) rfl ?_
  exact rfl
theorem RL_rows (l : List Rat) : ∀ row, row ∈ RL l → row.length = 3 := by
  intro row hr
  obtain ⟨q, _, rfl⟩ := List.mem_map.1 hr
  rfl
theorem RL_app (l m : List Rat) : RL (l ++ m) = RL l ++ RL m := by simp [RL]
theorem RL_len (l : List Rat) : (RL l).length = l.length := by simp [RL]
theorem RL_at {l : List Rat} {i : Nat} {q : Rat} (h : l[i]? = some q) : (RL l)[i]? = some (rd (cn q)) := by simp [RL, h]
def natL (l : List Nat) : List Rat := l.map fun n : Nat => (n : Rat)
def NL (l : List Nat) : List (List D) := l.map fun n : Nat => [D.v (.int .i64 (n : Int))]
set_option maxRecDepth 100000 in
theorem nums_spec (l : List Nat) (hl : ∀ n, n ∈ l → n < 256) (hn : l.length ≤ 1024) : Spec Tryd.prog Tab 21 [.val (.one (.d (.list (NL l))))] (rats (natL l)) := by
  have hlen : (NL l).length = l.length := by simp [NL]
  refine fn_spec Tryd.func21 rfl rfl Tryd.ntmps21 rfl (by kernel_rfl) rfl rfl ?_
  refine ⟨Nat, fun i => [(3, .val (.one (.row 16 0))), (6, .val (.one (.d (.list (NL l))))), (7, int (((NL l).length : Nat) : Int)), (8, int (i : Int))],
    fun i => [(16, .row 23 3 0 (RL (natL (l.take i))) true)], fun i => i ≤ l.length, fun i => l.length - i, 0, ?_, Nat.zero_le _, fun i hi => ?_⟩
  · constructor <;> (repeat' (first | exact rfl | exact True.intro | exact ⟨_, _, rfl⟩ | exact (by decide : 0 < 3) | apply And.intro))
  refine ⟨fun e => ?_, fun e => ?_⟩
  · have hlt : i < l.length := by have := of_decide_eq_true e; omega
    obtain ⟨a, ha⟩ : ∃ a, l[i]? = some a := ⟨_, List.getElem?_eq_getElem hlt⟩
    have hlt2 : (RL (natL (l.take i))).length ≤ 1024 := by simp [RL, natL]; omega
    have hq : RL (natL (l.take (i + 1))) = RL (natL (l.take i)) ++ [rd (cn (a : Rat))] := by rw [List.take_add_one, ha]; simp [RL, natL]
    refine k_at [D.v (.int .i64 (a : Int))] (Int.natCast_nonneg _) (by rw [Int.toNat_natCast]; simp [NL, ha]) rfl ?_
    refine k_num3 a rfl (hl a (List.mem_of_getElem? ha)) ?_
    refine ⟨⟨rd_rows2 [(a : Rat)], ?_, ?_⟩, ?_⟩
    · show ((RL (natL (l.take i))).length + 1) * 40 ≤ _; omega
    · show (RL (natL (l.take i))).length + 1 ≤ _; omega
    refine ⟨i + 1, hlt, by simp only; omega, ?_⟩
    constructor <;> (repeat' (first | exact rfl | exact True.intro | apply And.intro))
    all_goals first
      | exact congrArg (fun n : Int => D.v (.int .i64 n)) (show ((i + 1 : Nat) : Int) = IntKind.i64.wrap ((i : Int) + 1) by rw [wrap64 _ (by omega) (by omega)]; omega)
      | (rw [hq]; exact rfl)
  · have hge : i = l.length := by have := of_decide_eq_false e; omega
    subst hge
    refine Eq.trans (b := .val (.one (.d (.list (RL (natL (l.take l.length))))))) ?_ rfl
    rw [List.take_length]; rfl
end
end Go.Proofs.YtnnffjolkgomhaaDoor.eng

/- Contracts: slices.Equal of numbers, gantlaw3.equal, gantref3.Back, clear.Between, gantref3.Mid. -/
namespace Go.Proofs.YtnnffjolkgomhaaDoor.eng
open Go.RowKit num mem seg q held ratA ratB ratC ratD ratE vars ratF natC natD natI sub32
section
variable {K : AV → Prop} {x y : RV}
theorem rats_RL (l : List Rat) : rats l = .val (.one (.d (.list (RL l)))) := rfl
theorem take_ext {α : Type} {l m : List α} {i : Nat} {a : α} (h : l.take i = m.take i) (h1 : l[i]? = some a) (h2 : m[i]? = some a) : l.take (i + 1) = m.take (i + 1) := by
  rw [List.take_add_one, List.take_add_one, h, h1, h2]
set_option maxRecDepth 100000 in
theorem EqR_spec (l m : List Rat) (hn : l.length ≤ 1099511627776) (hm : m.length ≤ 1099511627776) : Spec Tryd.prog Tab 112 [rats l, rats m] (bool (decide (l = m))) := by
  have := hn
  have hl : (RL l).length = l.length := RL_len l
  have hml : (RL m).length = m.length := RL_len m
  have bad : l ≠ m → bool (decide (l = m)) = bool false := fun h => by rw [decide_eq_false h]
  rw [rats_RL, rats_RL]
  refine fn_spec Tryd.func112 rfl rfl Tryd.ntmps112 rfl (by kernel_rfl) rfl rfl ?_
  refine ⟨fun e => ?_, fun e => ?_⟩
  · refine bad fun h => ?_
    have e' : ((((RL l).length : Nat) : Int) != (((RL m).length : Nat) : Int)) = true := e
    rw [h] at e'; simp at e'
  have hlm : l.length = m.length := by
    have e' : ((((RL l).length : Nat) : Int) != (((RL m).length : Nat) : Int)) = false := e
    rw [hl, hml] at e'; simp at e'; omega
  refine ⟨Nat, fun i => [(0, .val (.one (.d (.list (RL l))))), (1, .val (.one (.d (.list (RL m))))), (12, int (((RL l).length : Nat) : Int)), (13, int (i : Int))], fun _ => [], fun i => i ≤ l.length ∧ l.take i = m.take i, fun i => l.length - i, 0, ?_, ⟨Nat.zero_le _, rfl⟩, fun i hi => ?_⟩
  · constructor <;> (repeat' (first | exact rfl | exact True.intro | apply And.intro))
  obtain ⟨hi, htk⟩ := hi
  refine ⟨fun e => ?_, fun e => ?_⟩
  · have h1 := of_decide_eq_true e
    have hil : i < l.length := by omega
    obtain ⟨a, ha⟩ : ∃ a, l[i]? = some a := ⟨_, List.getElem?_eq_getElem hil⟩
    obtain ⟨b, hb⟩ : ∃ b, m[i]? = some b := ⟨_, List.getElem?_eq_getElem (by omega)⟩
    refine k_at (rd (cn a)) (Int.natCast_nonneg _) (by rw [Int.toNat_natCast]; exact RL_at ha) rfl ?_
    refine k_at (rd (cn b)) (Int.natCast_nonneg _) (by rw [Int.toNat_natCast]; exact RL_at hb) rfl ?_
    by_cases hab : a = b
    · subst hab
      refine k_neq_rat_c (x := cn a) (y := cn a) (fun _ => ?_) (fun h => absurd rfl h)
      refine ⟨by kernel_rfl, ?_⟩
      refine ⟨fun e => by simp at e, fun _ => ?_⟩
      refine ⟨i + 1, ⟨hil, take_ext htk ha hb⟩, by simp only; omega, ?_⟩
      constructor <;> (repeat' (first | exact rfl | exact True.intro | apply And.intro))
      all_goals exact congrArg (fun n : Int => D.v (.int .i64 n)) (show ((i + 1 : Nat) : Int) = IntKind.i64.wrap ((i : Int) + 1) by rw [wrap64 _ (by omega) (by omega)]; omega)
    · refine k_neq_rat_c (x := cn a) (y := cn b) (fun h => absurd (cn_inj.1 h) hab) (fun _ => ?_)
      refine ⟨by kernel_rfl, ?_⟩
      refine ⟨fun _ => ?_, fun e => by simp at e⟩
      refine bad fun h => hab ?_
      rw [h, hb] at ha
      exact (Option.some.inj ha).symm
  · have h1 := of_decide_eq_false e
    have hil : i = l.length := by omega
    subst hil
    refine Eq.trans (b := bool true) ?_ rfl
    rw [List.take_length, List.take_of_length_le (by omega)] at htk
    rw [decide_eq_true htk]
theorem k_equal3 (l m : List Rat) {u v : List (List D)} (hu : u = RL l) (hv : v = RL m) (hn : l.length ≤ 1099511627776) (hm : m.length ≤ 1099511627776) (k : ∀ b, b = decide (l = m) → K (bool b)) : Ask 20 [.val (.one (.d (.list u))), .val (.one (.d (.list v)))] K := by
  subst hu hv
  refine use (r := bool (decide (l = m))) ?_ rfl (k _ rfl)
  refine fn_spec Tryd.func20 rfl rfl Tryd.ntmps20 rfl (by kernel_rfl) rfl rfl ?_
  refine use (EqR_spec l m hn hm) rfl ?_
  exact rfl
/-- a list of numbers of gantref3 -/
def q3d (q : Rat) : List D := [.v (.bool (decide (q.num < 0))), .list (W (w32 q.num.natAbs)), .list (W (w32 q.den))]
def QL (l : List Rat) : List (List D) := l.map q3d
theorem QL_at {l : List Rat} {i : Nat} {q : Rat} (h : l[i]? = some q) : (QL l)[i]? = some (q3d q) := by simp [QL, h]
theorem QL_len (l : List Rat) : (QL l).length = l.length := by simp [QL]
theorem QL_rows (l : List Rat) : ∀ row, row ∈ QL l → row.length = 3 := by
  intro row hr
  obtain ⟨q, _, rfl⟩ := List.mem_map.1 hr
  rfl
theorem QL_app (l m : List Rat) : QL (l ++ m) = QL l ++ QL m := by simp [QL]
set_option maxRecDepth 100000 in
theorem Back_spec (l : List Rat) (hl : ∀ q, q ∈ l → qs q ≤ 8589934592) (hn : l.length ≤ 1099511627776) : Spec Tryd.prog Tab 24 [.val (.one (.d (.list (QL l))))] (rats l) := by
  have hlen := QL_len l
  refine fn_spec Tryd.func24 rfl rfl Tryd.ntmps24 rfl (by kernel_rfl) rfl rfl ?_
  refine ⟨Nat, fun i => [(3, .val (.one (.row 16 0))), (6, .val (.one (.d (.list (QL l))))), (7, int (((QL l).length : Nat) : Int)), (8, int (i : Int))],
    fun i => [(16, .row 23 3 0 (RL (l.take i)) true)], fun i => i ≤ l.length, fun i => l.length - i, 0, ?_, Nat.zero_le _, fun i hi => ?_⟩
  · constructor <;> (repeat' (first | exact rfl | exact True.intro | exact ⟨_, _, rfl⟩ | exact (by decide : 0 < 3) | apply And.intro))
  refine ⟨fun e => ?_, fun e => ?_⟩
  · have hlt : i < l.length := by have := of_decide_eq_true e; omega
    obtain ⟨a, ha⟩ : ∃ a, l[i]? = some a := ⟨_, List.getElem?_eq_getElem hlt⟩
    have hlt2 : (RL (l.take i)).length ≤ 1099511627776 := by simp [RL]; omega
    have hq : RL (l.take (i + 1)) = RL (l.take i) ++ [rd (cn a)] := by rw [List.take_add_one, ha]; simp [RL]
    refine k_at (q3d a) (Int.natCast_nonneg _) (by rw [Int.toNat_natCast]; exact QL_at ha) rfl ?_
    refine k_To3 (q := a) (hl a (List.mem_of_getElem? ha)) ?_
    refine ⟨⟨rd_rows2 [a], ?_, ?_⟩, ?_⟩
    · show ((RL (l.take i)).length + 1) * 40 ≤ _; omega
    · show (RL (l.take i)).length + 1 ≤ _; omega
    refine ⟨i + 1, hlt, by simp only; omega, ?_⟩
    constructor <;> (repeat' (first | exact rfl | exact True.intro | apply And.intro))
    all_goals first
      | exact congrArg (fun n : Int => D.v (.int .i64 n)) (show ((i + 1 : Nat) : Int) = IntKind.i64.wrap ((i : Int) + 1) by rw [wrap64 _ (by omega) (by omega)]; omega)
      | (rw [hq]; exact rfl)
  · have hge : i = l.length := by have := of_decide_eq_false e; omega
    subst hge
    refine Eq.trans (b := .val (.one (.d (.list (RL (l.take l.length)))))) ?_ rfl
    rw [List.take_length]; rfl
theorem k_Back (l : List Rat) {u : List (List D)} (hu : u = QL l) (hl : ∀ q, q ∈ l → qs q ≤ 8589934592) (hn : l.length ≤ 1099511627776) (k : K (.val (.one (.d (.list (RL l)))))) : Ask 24 [.val (.one (.d (.list u)))] K := by
  subst hu; exact use (Back_spec l hl hn) rfl k
/-! ### a part of a motion -/
def midQ (p o : Int) (a b : Rat) : Rat := a + (p : Rat) / (o : Rat) * (b - a)
def midL (l m : List RV) (p o : Int) : List Rat := List.zipWith (fun x y => midQ p o x.q y.q) l m
def vr (l : List RV) : List (List D) := l.map rd
theorem vr_at {l : List RV} {i : Nat} {x : RV} (h : l[i]? = some x) : (vr l)[i]? = some (rd x) := by simp [vr, h]
theorem vr_len (l : List RV) : (vr l).length = l.length := by simp [vr]
theorem midL_len (l m : List RV) (p o : Int) : (midL l m p o).length = min l.length m.length := by simp [midL]
theorem midL_at {l m : List RV} {p o : Int} {i : Nat} {x y : RV} (h1 : l[i]? = some x) (h2 : m[i]? = some y) : (midL l m p o)[i]? = some (midQ p o x.q y.q) := by simp [midL, List.getElem?_zipWith, h1, h2]
theorem midQ_qs (p o : Int) (hp1 : -9223372036854775808 ≤ p) (hp2 : p ≤ 9223372036854775807) (ho1 : -9223372036854775808 ≤ o) (ho2 : o ≤ 9223372036854775807) (a b : Rat) : qs (midQ p o a b) ≤ 2 * qs a + qs b + 24 := by
  have h1 := qs_i64 hp1 hp2
  have h2 := qs_i64 ho1 ho2
  have h3 := qs_div (p : Rat) (o : Rat)
  have h4 := qs_sub b a
  have h5 := qs_mul ((p : Rat) / (o : Rat)) (b - a)
  have h6 := qs_add a ((p : Rat) / (o : Rat) * (b - a))
  unfold midQ; omega
theorem midL_qs {l m : List RV} {p o : Int} {Z : Nat} (hp1 : -9223372036854775808 ≤ p) (hp2 : p ≤ 9223372036854775807) (ho1 : -9223372036854775808 ≤ o) (ho2 : o ≤ 9223372036854775807) (hl : ∀ x, x ∈ l → x.z ≤ Z) (hm : ∀ x, x ∈ m → x.z ≤ Z) : ∀ q, q ∈ midL l m p o → qs q ≤ 3 * Z + 27 := by
  intro q hq
  obtain ⟨i, hi, rfl⟩ := List.getElem_of_mem hq
  rw [midL_len] at hi
  have e := midL_at (p := p) (o := o) (List.getElem?_eq_getElem (show i < l.length by omega)) (List.getElem?_eq_getElem (show i < m.length by omega))
  have e2 : (midL l m p o)[i]? = some (midL l m p o)[i] := List.getElem?_eq_getElem (by rw [midL_len]; exact hi)
  rw [e] at e2
  rw [← Option.some.inj e2]
  have h1 := midQ_qs p o hp1 hp2 ho1 ho2 (l[i]'(by omega)).q (m[i]'(by omega)).q
  have h2 := hl _ (List.getElem_mem (by omega : i < l.length))
  have h3 := hm _ (List.getElem_mem (by omega : i < m.length))
  have h4 := (l[i]'(by omega)).z1
  have h5 := (m[i]'(by omega)).z1
  omega
set_option maxRecDepth 100000 in
theorem Bet_spec (l m : List RV) (p o : Int) (hp1 : -9223372036854775808 ≤ p) (hp2 : p ≤ 9223372036854775807) (ho1 : -9223372036854775808 ≤ o) (ho2 : o ≤ 9223372036854775807) (hl : ∀ x, x ∈ l → x.z ≤ 16777216) (hm : ∀ x, x ∈ m → x.z ≤ 16777216) (hn : l.length ≤ 1073741824) (hn' : m.length ≤ 1073741824) :
    Spec Tryd.prog Tab 26 [.val (.one (.d (.list (vr l)))), .val (.one (.d (.list (vr m)))), int p, int o] (rats (midL l m p o)) := by
  have hll := vr_len l
  have hml := vr_len m
  have hlen := midL_len l m p o
  refine fn_spec Tryd.func26 rfl rfl Tryd.ntmps26 rfl (by kernel_rfl) rfl rfl ?_
  refine use (rMake_spec p o hp1 hp2 ho1 ho2) rfl ?_
  obtain ⟨r, hr⟩ : ∃ r, r = quotR (p : Rat) (o : Rat) := ⟨_, rfl⟩
  have hrq : r.q = (p : Rat) / (o : Rat) := by
    rw [hr]; unfold quotR; split
    · rename_i h; rw [h, z0_q, Rat.div_def, Rat.inv_zero, Rat.mul_zero]
    · rw [cn_q]
  have hrz : r.z ≤ 17 := by
    rw [hr]; unfold quotR; split
    · rw [z0_z]; omega
    · have := qs_div (p : Rat) (o : Rat); have := qs_i64 hp1 hp2; have := qs_i64 ho1 ho2; rw [cn_z]; omega
  rw [← hr]
  clear hr
  have hmn : (if (((vr m).length : Nat) : Int) < (((vr l).length : Nat) : Int) then (((vr m).length : Nat) : Int) else (((vr l).length : Nat) : Int)) = (((midL l m p o).length : Nat) : Int) := by
    rw [hll, hml, hlen]; split <;> omega
  refine ⟨Nat, fun i => [(0, .val (.one (.d (.list (vr l))))), (1, .val (.one (.d (.list (vr m))))), (9, .val (.one (.ptr 9 0))), (11, .val (.one (.row 45 0))), (23, int (((midL l m p o).length : Nat) : Int)), (24, int (i : Int))],
    fun i => [(9, .var 23 (rc r)), (45, .row 23 3 0 (RL ((midL l m p o).take i)) true)], fun i => i ≤ (midL l m p o).length, fun i => (midL l m p o).length - i, 0, ?_, Nat.zero_le _, fun i hi => ?_⟩
  · constructor <;> (repeat' (first | exact rfl | exact True.intro | exact ⟨_, _, rfl⟩ | exact (by decide : 0 < 3) | apply And.intro))
    all_goals exact congrArg (fun n : Int => D.v (.int .i64 n)) hmn.symm
  refine ⟨fun e => ?_, fun e => ?_⟩
  · have hlt : i < (midL l m p o).length := by have := of_decide_eq_true e; omega
    obtain ⟨x, hx⟩ : ∃ a, l[i]? = some a := ⟨_, List.getElem?_eq_getElem (by omega)⟩
    obtain ⟨y, hy⟩ : ∃ a, m[i]? = some a := ⟨_, List.getElem?_eq_getElem (by omega)⟩
    have hxz := hl x (List.mem_of_getElem? hx)
    have hyz := hm y (List.mem_of_getElem? hy)
    have hlt2 : (RL ((midL l m p o).take i)).length ≤ 1099511627776 := by simp [RL]; omega
    have hat := midL_at (p := p) (o := o) hx hy
    refine k_at (rd x) (Int.natCast_nonneg _) (by rw [Int.toNat_natCast]; exact vr_at hx) rfl ?_
    refine k_at (rd y) (Int.natCast_nonneg _) (by rw [Int.toNat_natCast]; exact vr_at hy) rfl ?_
    refine k_at (rd x) (Int.natCast_nonneg _) (by rw [Int.toNat_natCast]; exact vr_at hx) rfl ?_
    refine k_sub (x := y) (y := x) (by omega) (by omega) fun q1 h1 z1 => ?_
    refine k_mul (x := r) (by omega) (by omega) fun q2 h2 z2 => ?_
    refine k_add (x := x) (by omega) (by omega) fun q3 h3 z3 => ?_
    have hq : RL ((midL l m p o).take (i + 1)) = RL ((midL l m p o).take i) ++ [rd (cn q3)] := by
      rw [List.take_add_one, hat]
      simp only [cn_q] at h1 h2 h3
      rw [h3, h2, h1, hrq]
      simp [RL, midQ]
    refine ⟨⟨rd_rows2 [q3], ?_, ?_⟩, ?_⟩
    · show ((RL ((midL l m p o).take i)).length + 1) * 40 ≤ _; omega
    · show (RL ((midL l m p o).take i)).length + 1 ≤ _; omega
    refine ⟨by kernel_rfl, ?_⟩
    refine ⟨i + 1, hlt, by simp only; omega, ?_⟩
    constructor <;> (repeat' (first | exact rfl | exact True.intro | apply And.intro))
    all_goals first
      | exact congrArg (fun n : Int => D.v (.int .i64 n)) (show ((i + 1 : Nat) : Int) = IntKind.i64.wrap ((i : Int) + 1) by rw [wrap64 _ (by omega) (by omega)]; omega)
      | (rw [hq]; exact rfl)
  · have hge : i = (midL l m p o).length := by have := of_decide_eq_false e; omega
    subst hge
    refine Eq.trans (b := .val (.one (.d (.list (RL ((midL l m p o).take (midL l m p o).length)))))) ?_ rfl
    rw [List.take_length]; rfl
end
end Go.Proofs.YtnnffjolkgomhaaDoor.eng

/- Contracts: gantref3.Mid, S.To, Parts; clear.Split. -/
namespace Go.Proofs.YtnnffjolkgomhaaDoor.eng
open Go.RowKit num mem seg q held ratA ratB ratC ratD ratE vars ratF natC natD natI sub32
section
variable {K : AV → Prop} {x y : RV}
theorem mid_alt (p o : Int) (a b : Rat) : midQ p o a b = if o = 0 then a else a + (b - a) * (p : Rat) / (o : Rat) := by
  unfold midQ
  split
  · rename_i h
    subst h
    rw [show ((0 : Int) : Rat) = 0 from rfl, Rat.div_def, Rat.inv_zero, Rat.mul_zero, Rat.zero_mul, Rat.add_zero]
  · rw [Rat.div_def, Rat.div_def, Rat.mul_comm (p : Rat), Rat.mul_assoc, Rat.mul_comm ((o : Rat)⁻¹), Rat.mul_comm (p : Rat)]
set_option maxHeartbeats 1000000 in
set_option maxRecDepth 100000 in
theorem Mid_spec (l m : List RV) (p o : Int) (hp1 : -9223372036854775808 ≤ p) (hp2 : p ≤ 9223372036854775807) (ho1 : -9223372036854775808 ≤ o) (ho2 : o ≤ 9223372036854775807) (hl : ∀ x, x ∈ l → x.z ≤ 16777216) (hm : ∀ x, x ∈ m → x.z ≤ 16777216) (hn : l.length ≤ 1073741824) (hn' : m.length ≤ 1073741824) :
    Spec Tryd.prog Tab 27 [.val (.one (.d (.list (vr l)))), .val (.one (.d (.list (vr m)))), int p, int o] (.val (.one (.d (.list (QL (midL l m p o)))))) := by
  have hll := vr_len l
  have hml := vr_len m
  have hlen := midL_len l m p o
  refine fn_spec Tryd.func27 rfl rfl Tryd.ntmps27 rfl (by kernel_rfl) rfl rfl ?_
  have hmn : (if (((vr m).length : Nat) : Int) < (((vr l).length : Nat) : Int) then (((vr m).length : Nat) : Int) else (((vr l).length : Nat) : Int)) = (((midL l m p o).length : Nat) : Int) := by
    rw [hll, hml, hlen]; split <;> omega
  refine ⟨Nat, fun i => [(0, .val (.one (.d (.list (vr l))))), (1, .val (.one (.d (.list (vr m))))), (2, int p), (3, int o), (9, .val (.one (.row 47 0))), (17, int (((midL l m p o).length : Nat) : Int)), (18, int (i : Int))],
    fun i => [(47, .row 49 3 0 (QL ((midL l m p o).take i)) true)], fun i => i ≤ (midL l m p o).length, fun i => (midL l m p o).length - i, 0, ?_, Nat.zero_le _, fun i hi => ?_⟩
  · constructor <;> (repeat' (first | exact rfl | exact True.intro | exact ⟨_, _, rfl⟩ | exact (by decide : 0 < 3) | apply And.intro))
    all_goals exact congrArg (fun n : Int => D.v (.int .i64 n)) hmn.symm
  refine ⟨fun e => ?_, fun e => ?_⟩
  · have hlt : i < (midL l m p o).length := by have := of_decide_eq_true e; omega
    obtain ⟨x, hx⟩ : ∃ a, l[i]? = some a := ⟨_, List.getElem?_eq_getElem (by omega)⟩
    obtain ⟨y, hy⟩ : ∃ a, m[i]? = some a := ⟨_, List.getElem?_eq_getElem (by omega)⟩
    have hxz := hl x (List.mem_of_getElem? hx)
    have hyz := hm y (List.mem_of_getElem? hy)
    have hlt2 : (QL ((midL l m p o).take i)).length ≤ 1099511627776 := by simp [QL]; omega
    have hat := midL_at (p := p) (o := o) hx hy
    have hq : ∀ q, q = midQ p o x.q y.q → QL ((midL l m p o).take (i + 1)) = QL ((midL l m p o).take i) ++ [q3d q] := by
      intro q hq
      rw [List.take_add_one, hat, hq]
      simp [QL]
    refine k_at (rd x) (Int.natCast_nonneg _) (by rw [Int.toNat_natCast]; exact vr_at hx) rfl ?_
    refine k_From3 (x := x) (by omega) fun q1 h1 z1 => ?_
    refine k_at (rd y) (Int.natCast_nonneg _) (by rw [Int.toNat_natCast]; exact vr_at hy) rfl ?_
    refine k_From3 (x := y) (by omega) fun q2 h2 z2 => ?_
    refine ⟨by kernel_rfl, ?_⟩
    refine ⟨fun e2 => ?_, fun e2 => ?_⟩
    · have ho : o ≠ 0 := by
        have : (o != 0) = true := e2
        simpa using this
      refine k_Sub3 (p := q2) (q := q1) (by omega) (by omega) fun q3 h3 z3 => ?_
      refine k_N3 p hp1 hp2 fun q4 h4 z4 => ?_
      refine k_Mul3 (p := q3) (q := q4) (by omega) (by omega) fun q5 h5 z5 => ?_
      refine k_N3 o ho1 ho2 fun q6 h6 z6 => ?_
      refine k_Div3 (p := q5) (q := q6) (by omega) (by omega) (by rw [h6]; exact fun h => ho (Rat.intCast_eq_zero_iff.1 h)) fun q7 h7 z7 => ?_
      refine k_Add3 (p := q1) (q := q7) (by omega) (by omega) fun q8 h8 z8 => ?_
      have hq8 := hq q8 (by rw [mid_alt, if_neg ho, h8, h7, h6, h5, h4, h3, h2, h1])
      refine ⟨by kernel_rfl, ?_⟩
      refine ⟨⟨QL_rows [q8], ?_, ?_⟩, ?_⟩
      · show ((QL ((midL l m p o).take i)).length + 1) * 56 ≤ _; omega
      · show (QL ((midL l m p o).take i)).length + 1 ≤ _; omega
      refine ⟨i + 1, hlt, by simp only; omega, ?_⟩
      constructor <;> (repeat' (first | exact rfl | exact True.intro | apply And.intro))
      all_goals first
        | exact congrArg (fun n : Int => D.v (.int .i64 n)) (show ((i + 1 : Nat) : Int) = IntKind.i64.wrap ((i : Int) + 1) by rw [wrap64 _ (by omega) (by omega)]; omega)
        | (rw [hq8]; exact rfl)
    · have ho : o = 0 := by
        have : (o != 0) = false := e2
        simpa using this
      have hq8 := hq q1 (by rw [mid_alt, if_pos ho, h1])
      refine ⟨⟨QL_rows [q1], ?_, ?_⟩, ?_⟩
      · show ((QL ((midL l m p o).take i)).length + 1) * 56 ≤ _; omega
      · show (QL ((midL l m p o).take i)).length + 1 ≤ _; omega
      refine ⟨i + 1, hlt, by simp only; omega, ?_⟩
      constructor <;> (repeat' (first | exact rfl | exact True.intro | apply And.intro))
      all_goals first
        | exact congrArg (fun n : Int => D.v (.int .i64 n)) (show ((i + 1 : Nat) : Int) = IntKind.i64.wrap ((i : Int) + 1) by rw [wrap64 _ (by omega) (by omega)]; omega)
        | (rw [hq8]; exact rfl)
  · have hge : i = (midL l m p o).length := by have := of_decide_eq_false e; omega
    subst hge
    refine Eq.trans (b := .val (.one (.d (.list (QL ((midL l m p o).take (midL l m p o).length)))))) ?_ rfl
    rw [List.take_length]
/-- a span of gantref3 -/
def s3 (p q : Rat) : AV := .val (.agg [.d (.v (.bool (decide (p.num < 0)))), .d (.list (W (w32 p.num.natAbs))), .d (.list (W (w32 p.den))), .d (.v (.bool (decide (q.num < 0)))), .d (.list (W (w32 q.num.natAbs))), .d (.list (W (w32 q.den)))])
set_option maxRecDepth 100000 in
theorem STo_spec (p q : Rat) (hp : qs p ≤ 8589934592) (hq : qs q ≤ 8589934592) : Spec Tryd.prog Tab 129 [s3 p q] (pair (cn p) (cn q)) := by
  refine fn_spec Tryd.func129 rfl rfl Tryd.ntmps129 rfl (by kernel_rfl) rfl rfl ?_
  refine k_To3 (q := p) hp ?_
  refine k_To3 (q := q) hq ?_
  refine ⟨by kernel_rfl, ?_⟩
  exact rfl
/-! ### the spans of a motion -/
def stepL (l m : List RV) (o : Int) (k : Nat) : List (Rat × Rat) := List.zipWith (fun a b => (minQ a b, maxQ a b)) (midL l m (k : Int) o) (midL l m ((k : Int) + 1) o)
def partsL (l m : List RV) (o : Int) : List (List (Rat × Rat)) := (List.range o.toNat).map (stepL l m o)
def SL (r : List (Rat × Rat)) : List (List D) := r.map fun p => rd (cn p.1) ++ rd (cn p.2)
def PL (rows : List (List (Rat × Rat))) : List (List D) := rows.map fun r => [D.list (SL r)]
theorem SL_len (r : List (Rat × Rat)) : (SL r).length = r.length := by simp [SL]
theorem PL_len (r : List (List (Rat × Rat))) : (PL r).length = r.length := by simp [PL]
theorem SL_rows (l : List (Rat × Rat)) : ∀ row, row ∈ SL l → row.length = 6 := by
  intro row hr
  obtain ⟨q, _, rfl⟩ := List.mem_map.1 hr
  rfl
theorem stepL_len (l m : List RV) (o : Int) (k : Nat) : (stepL l m o k).length = min l.length m.length := by simp [stepL, midL_len]
theorem stepL_at {l m : List RV} {o : Int} {k i : Nat} {a b : Rat} (h1 : (midL l m (k : Int) o)[i]? = some a) (h2 : (midL l m ((k : Int) + 1) o)[i]? = some b) : (stepL l m o k)[i]? = some (minQ a b, maxQ a b) := by
  simp [stepL, List.getElem?_zipWith, h1, h2]
theorem partsL_len (l m : List RV) (o : Int) : (partsL l m o).length = o.toNat := by simp [partsL]
theorem partsL_at {l m : List RV} {o : Int} {k : Nat} (h : k < o.toNat) : (partsL l m o)[k]? = some (stepL l m o k) := by simp [partsL, h]
theorem SL_succ {r : List (Rat × Rat)} {i : Nat} {p : Rat × Rat} (h : r[i]? = some p) : SL (r.take (i + 1)) = SL (r.take i) ++ [rd (cn p.1) ++ rd (cn p.2)] := by
  rw [List.take_add_one, h]; simp [SL]
theorem PL_succ {rows : List (List (Rat × Rat))} {i : Nat} {p : List (Rat × Rat)} (h : rows[i]? = some p) : PL (rows.take (i + 1)) = PL (rows.take i) ++ [[D.list (SL p)]] := by
  rw [List.take_add_one, h]; simp [PL]
def splitBad (l m : List RV) (o : Int) : Prop := l.length ≠ m.length ∨ 3 < l.length ∨ o < 1 ∨ 50 < o
instance (l m : List RV) (o : Int) : Decidable (splitBad l m o) := by unfold splitBad; infer_instance
theorem k_Bet (l m : List RV) (p o : Int) {u v : List (List D)} (hu : u = vr l) (hv : v = vr m) {p' : Int} (hp : p' = p) (hp1 : -9223372036854775808 ≤ p) (hp2 : p ≤ 9223372036854775807) (ho1 : -9223372036854775808 ≤ o) (ho2 : o ≤ 9223372036854775807) (hl : ∀ x, x ∈ l → x.z ≤ 16777216) (hm : ∀ x, x ∈ m → x.z ≤ 16777216) (hn : l.length ≤ 1073741824) (hn' : m.length ≤ 1073741824)
    (k : K (.val (.one (.d (.list (RL (midL l m p o))))))) : Ask 26 [.val (.one (.d (.list u))), .val (.one (.d (.list v))), int p', int o] K := by
  subst hu hv hp
  exact use (Bet_spec l m p' o hp1 hp2 ho1 ho2 hl hm hn hn') rfl k
theorem k_Mid (l m : List RV) (p o : Int) {u v : List (List D)} (hu : u = vr l) (hv : v = vr m) {p' : Int} (hp : p' = p) (hp1 : -9223372036854775808 ≤ p) (hp2 : p ≤ 9223372036854775807) (ho1 : -9223372036854775808 ≤ o) (ho2 : o ≤ 9223372036854775807) (hl : ∀ x, x ∈ l → x.z ≤ 16777216) (hm : ∀ x, x ∈ m → x.z ≤ 16777216) (hn : l.length ≤ 1073741824) (hn' : m.length ≤ 1073741824)
    (k : K (.val (.one (.d (.list (QL (midL l m p o))))))) : Ask 27 [.val (.one (.d (.list u))), .val (.one (.d (.list v))), int p', int o] K := by
  subst hu hv hp
  exact use (Mid_spec l m p' o hp1 hp2 ho1 ho2 hl hm hn hn') rfl k
set_option maxHeartbeats 4000000 in
set_option maxRecDepth 100000 in
theorem Split_spec (l m : List RV) (o : Int) (ho1 : -9223372036854775808 ≤ o) (ho2 : o ≤ 9223372036854775807) (hl : ∀ x, x ∈ l → x.z ≤ 16777216) (hm : ∀ x, x ∈ m → x.z ≤ 16777216) (hn : l.length ≤ 1073741824) (hn' : m.length ≤ 1073741824) :
    Spec Tryd.prog Tab 25 [.val (.one (.d (.list (vr l)))), .val (.one (.d (.list (vr m)))), int o] (if splitBad l m o then two (.val (.one (.d (.list [])))) (int 1) else two (.val (.one (.d (.list (PL (partsL l m o)))))) (int 0)) := by
  have hll := vr_len l
  have hml := vr_len m
  have bad : splitBad l m o → (if splitBad l m o then two (.val (.one (.d (.list [])))) (int 1) else two (.val (.one (.d (.list (PL (partsL l m o)))))) (int 0)) = two (.val (.one (.d (.list [])))) (int 1) := fun h => if_pos h
  refine fn_spec Tryd.func25 rfl rfl Tryd.ntmps25 rfl (by kernel_rfl) rfl rfl ?_
  refine fork (fun e1 => ?_) (fun e1 => ?_)
  · refine ⟨fun _ => ?_, fun e => by simp at e⟩
    refine bad (.inl fun h => ?_)
    have : ((((vr l).length : Nat) : Int) != (((vr m).length : Nat) : Int)) = true := e1
    rw [hll, hml, h] at this; simp at this
  have c1 : l.length = m.length := by
    have : ((((vr l).length : Nat) : Int) != (((vr m).length : Nat) : Int)) = false := e1
    rw [hll, hml] at this; simp at this; omega
  refine fork (fun e2 => ?_) (fun e2 => ?_)
  · refine ⟨fun _ => ?_, fun e => by simp at e⟩
    exact bad (.inr (.inl (by have := of_decide_eq_true e2; omega)))
  have c2 : l.length ≤ 3 := by have := of_decide_eq_false e2; omega
  refine fork (fun e3 => ?_) (fun e3 => ?_)
  · refine ⟨fun _ => ?_, fun e => by simp at e⟩
    exact bad (.inr (.inr (.inl (of_decide_eq_true e3))))
  have c3 : 1 ≤ o := by have := of_decide_eq_false e3; omega
  refine ⟨fun e4 => ?_, fun e4 => ?_⟩
  · exact bad (.inr (.inr (.inr (of_decide_eq_true e4))))
  have c4 : o ≤ 50 := by have := of_decide_eq_false e4; omega
  have good : ¬ splitBad l m o := by
    rintro (h | h | h | h)
    · exact h c1
    · omega
    · omega
    · omega
  refine k_Bet l m 0 o rfl rfl rfl (by omega) (by omega) ho1 ho2 hl hm hn hn' ?_
  have hpl := partsL_len l m o
  refine ⟨Nat, fun k => [(0, .val (.one (.d (.list (vr l))))), (1, .val (.one (.d (.list (vr m))))), (2, int o), (8, .val (.one (.row 77 0))), (9, .val (.one (.d (.list (RL (midL l m (k : Int) o)))))), (36, int o), (37, int (k : Int))],
    fun k => [(77, .row 56 1 0 (PL ((partsL l m o).take k)) true)], fun k => k ≤ o.toNat, fun k => o.toNat - k, 0, ?_, Nat.zero_le _, fun k hk => ?_⟩
  · constructor <;> (repeat' (first | exact rfl | exact True.intro | exact ⟨_, _, rfl⟩ | exact (by decide : 0 < 1) | apply And.intro))
  refine ⟨fun e => ?_, fun e => ?_⟩
  · have hlt : k < o.toNat := by have := of_decide_eq_true e; omega
    have hw1 : IntKind.i64.wrap ((k : Int) + 1) = (k : Int) + 1 := wrap64 _ (by omega) (by omega)
    refine k_Bet l m ((k : Int) + 1) o rfl rfl hw1 (by omega) (by omega) ho1 ho2 hl hm hn hn' ?_
    have la := midL_len l m (k : Int) o
    have lb := midL_len l m ((k : Int) + 1) o
    have ls := stepL_len l m o k
    have za := midL_qs (l := l) (m := m) (p := (k : Int)) (o := o) (Z := 16777216) (by omega) (by omega) ho1 ho2 hl hm
    have zb := midL_qs (l := l) (m := m) (p := (k : Int) + 1) (o := o) (Z := 16777216) (by omega) (by omega) ho1 ho2 hl hm
    refine ⟨Nat, fun i => [(0, .val (.one (.d (.list (vr l))))), (1, .val (.one (.d (.list (vr m))))), (2, int o), (8, .val (.one (.row 77 0))), (9, .val (.one (.d (.list (RL (midL l m (k : Int) o)))))), (11, .val (.one (.d (.list (RL (midL l m ((k : Int) + 1) o)))))), (12, .val (.one (.row 72 0))), (36, int o), (37, int (k : Int)), (47, int ((stepL l m o k).length : Int)), (48, int (i : Int))],
      fun i => [(77, .row 56 1 0 (PL ((partsL l m o).take k)) true), (72, .row 58 6 0 (SL ((stepL l m o k).take i)) true)], fun i => i ≤ (stepL l m o k).length, fun i => (stepL l m o k).length - i, 0, ?_, Nat.zero_le _, fun i hi => ?_⟩
    · constructor <;> (repeat' (first | exact rfl | exact True.intro | exact ⟨_, _, rfl⟩ | exact (by decide : 0 < 6) | apply And.intro))
      all_goals exact congrArg (fun n : Nat => D.v (.int .i64 (n : Int))) (show (stepL l m o k).length = (RL (midL l m (k : Int) o)).length by rw [RL_len]; omega)
    refine ⟨fun e5 => ?_, fun e5 => ?_⟩
    · have hil : i < (stepL l m o k).length := by have := of_decide_eq_true e5; omega
      obtain ⟨a, ha⟩ : ∃ a, (midL l m (k : Int) o)[i]? = some a := ⟨_, List.getElem?_eq_getElem (by omega)⟩
      obtain ⟨b, hb⟩ : ∃ b, (midL l m ((k : Int) + 1) o)[i]? = some b := ⟨_, List.getElem?_eq_getElem (by omega)⟩
      have hza := za a (List.mem_of_getElem? ha)
      have hzb := zb b (List.mem_of_getElem? hb)
      have hs := stepL_at ha hb
      refine k_at (rd (cn a)) (Int.natCast_nonneg _) (by rw [Int.toNat_natCast]; exact RL_at ha) rfl ?_
      refine k_at (rd (cn b)) (Int.natCast_nonneg _) (by rw [Int.toNat_natCast]; exact RL_at hb) rfl ?_
      refine k_min (x := cn a) (y := cn b) (by rw [cn_z]; omega) (by rw [cn_z]; omega) fun q1 h1 z1 => ?_
      refine k_at (rd (cn a)) (Int.natCast_nonneg _) (by rw [Int.toNat_natCast]; exact RL_at ha) rfl ?_
      refine k_at (rd (cn b)) (Int.natCast_nonneg _) (by rw [Int.toNat_natCast]; exact RL_at hb) rfl ?_
      refine k_max (x := cn a) (y := cn b) (by rw [cn_z]; omega) (by rw [cn_z]; omega) fun q2 h2 z2 => ?_
      simp only [cn_q] at h1 h2
      have hq : SL ((stepL l m o k).take (i + 1)) = SL ((stepL l m o k).take i) ++ [rd (cn q1) ++ rd (cn q2)] := by
        rw [SL_succ hs, h1, h2]
      have hlt2 : (SL ((stepL l m o k).take i)).length ≤ 4 := by rw [SL_len, List.length_take]; omega
      refine ⟨⟨SL_rows [(q1, q2)], ?_, ?_⟩, ?_⟩
      · show ((SL ((stepL l m o k).take i)).length + 1) * 80 ≤ _; omega
      · show (SL ((stepL l m o k).take i)).length + 1 ≤ _; omega
      refine ⟨by kernel_rfl, ?_⟩
      refine ⟨i + 1, hil, by simp only; omega, ?_⟩
      constructor <;> (repeat' (first | exact rfl | exact True.intro | apply And.intro))
      all_goals first
        | exact congrArg (fun n : Int => D.v (.int .i64 n)) (show ((i + 1 : Nat) : Int) = IntKind.i64.wrap ((i : Int) + 1) by rw [wrap64 _ (by omega) (by omega)]; omega)
        | (rw [hq]; exact rfl)
    · have hil : i = (stepL l m o k).length := by have := of_decide_eq_false e5; omega
      subst hil
      have hq : PL ((partsL l m o).take (k + 1)) = PL ((partsL l m o).take k) ++ [[D.list (SL ((stepL l m o k).take (stepL l m o k).length))]] := by
        rw [PL_succ (partsL_at hlt), List.take_length]
      have hlt2 : (PL ((partsL l m o).take k)).length ≤ 50 := by rw [PL_len, List.length_take]; omega
      refine ⟨⟨fun row hrow => by rw [List.mem_singleton.1 hrow]; rfl, ?_, ?_⟩, ?_⟩
      · show ((PL ((partsL l m o).take k)).length + 1) * 24 ≤ _; omega
      · show (PL ((partsL l m o).take k)).length + 1 ≤ _; omega
      refine ⟨k + 1, hlt, by simp only; omega, ?_⟩
      constructor <;> (repeat' (first | exact rfl | exact True.intro | apply And.intro))
      all_goals first
        | exact congrArg (fun n : Int => D.v (.int .i64 n)) (show ((k + 1 : Nat) : Int) = IntKind.i64.wrap ((k : Int) + 1) by rw [wrap64 _ (by omega) (by omega)]; omega)
        | (rw [hq]; exact rfl)
        | rw [hq]
  · have hge : k = o.toNat := by have := of_decide_eq_false e; omega
    subst hge
    refine Eq.trans (if_neg good) ?_
    refine Eq.trans (b := two (.val (.one (.d (.list (PL ((partsL l m o).take o.toNat)))))) (int 0)) ?_ rfl
    rw [List.take_of_length_le (by omega)]
set_option maxHeartbeats 4000000 in
set_option maxRecDepth 100000 in
theorem Parts_spec (l m : List RV) (o : Int) (ho1 : 1 ≤ o) (ho2 : o ≤ 50) (hl : ∀ x, x ∈ l → x.z ≤ 16777216) (hm : ∀ x, x ∈ m → x.z ≤ 16777216) (hn : l.length ≤ 1073741824) (hn' : m.length ≤ 1073741824) :
    Spec Tryd.prog Tab 29 [.val (.one (.d (.list (vr l)))), .val (.one (.d (.list (vr m)))), int o] (.val (.one (.d (.list (PL (partsL l m o)))))) := by
  have hll := vr_len l
  have hml := vr_len m
  refine fn_spec Tryd.func29 rfl rfl Tryd.ntmps29 rfl (by kernel_rfl) rfl rfl ?_
  have hpl := partsL_len l m o
  refine ⟨Nat, fun k => [(0, .val (.one (.d (.list (vr l))))), (1, .val (.one (.d (.list (vr m))))), (2, int o), (7, .val (.one (.row 60 0))), (13, int o), (14, int (k : Int))],
    fun k => [(60, .row 56 1 0 (PL ((partsL l m o).take k)) true)], fun k => k ≤ o.toNat, fun k => o.toNat - k, 0, ?_, Nat.zero_le _, fun k hk => ?_⟩
  · constructor <;> (repeat' (first | exact rfl | exact True.intro | exact ⟨_, _, rfl⟩ | exact (by decide : 0 < 1) | apply And.intro))
  refine ⟨fun e => ?_, fun e => ?_⟩
  · have hlt : k < o.toNat := by have := of_decide_eq_true e; omega
    have hw1 : IntKind.i64.wrap ((k : Int) + 1) = (k : Int) + 1 := wrap64 _ (by omega) (by omega)
    refine k_Mid l m (k : Int) o rfl rfl rfl (by omega) (by omega) (by omega) (by omega) hl hm hn hn' ?_
    refine k_Mid l m ((k : Int) + 1) o rfl rfl hw1 (by omega) (by omega) (by omega) (by omega) hl hm hn hn' ?_
    have la := midL_len l m (k : Int) o
    have lb := midL_len l m ((k : Int) + 1) o
    have ls := stepL_len l m o k
    have za := midL_qs (l := l) (m := m) (p := (k : Int)) (o := o) (Z := 16777216) (by omega) (by omega) (by omega) (by omega) hl hm
    have zb := midL_qs (l := l) (m := m) (p := (k : Int) + 1) (o := o) (Z := 16777216) (by omega) (by omega) (by omega) (by omega) hl hm
    refine ⟨Nat, fun i => [(0, .val (.one (.d (.list (vr l))))), (1, .val (.one (.d (.list (vr m))))), (2, int o), (7, .val (.one (.row 60 0))), (9, .val (.one (.d (.list (QL (midL l m (k : Int) o)))))), (10, .val (.one (.d (.list (QL (midL l m ((k : Int) + 1) o)))))), (11, .val (.one (.row 55 0))), (13, int o), (14, int (k : Int)), (29, int ((stepL l m o k).length : Int)), (30, int (i : Int))],
      fun i => [(60, .row 56 1 0 (PL ((partsL l m o).take k)) true), (55, .row 58 6 0 (SL ((stepL l m o k).take i)) true)], fun i => i ≤ (stepL l m o k).length, fun i => (stepL l m o k).length - i, 0, ?_, Nat.zero_le _, fun i hi => ?_⟩
    · constructor <;> (repeat' (first | exact rfl | exact True.intro | exact ⟨_, _, rfl⟩ | exact (by decide : 0 < 6) | apply And.intro))
      all_goals exact congrArg (fun n : Nat => D.v (.int .i64 (n : Int))) (show (stepL l m o k).length = (QL (midL l m (k : Int) o)).length by rw [QL_len]; omega)
    refine ⟨fun e5 => ?_, fun e5 => ?_⟩
    · have hil : i < (stepL l m o k).length := by have := of_decide_eq_true e5; omega
      obtain ⟨a, ha⟩ : ∃ a, (midL l m (k : Int) o)[i]? = some a := ⟨_, List.getElem?_eq_getElem (by omega)⟩
      obtain ⟨b, hb⟩ : ∃ b, (midL l m ((k : Int) + 1) o)[i]? = some b := ⟨_, List.getElem?_eq_getElem (by omega)⟩
      have hza := za a (List.mem_of_getElem? ha)
      have hzb := zb b (List.mem_of_getElem? hb)
      have hs := stepL_at ha hb
      refine k_at (q3d a) (Int.natCast_nonneg _) (by rw [Int.toNat_natCast]; exact QL_at ha) rfl ?_
      refine k_at (q3d b) (Int.natCast_nonneg _) (by rw [Int.toNat_natCast]; exact QL_at hb) rfl ?_
      refine k_least3 (p := a) (q := b) (by omega) (by omega) fun q1 h1 z1 => ?_
      refine k_at (q3d a) (Int.natCast_nonneg _) (by rw [Int.toNat_natCast]; exact QL_at ha) rfl ?_
      refine k_at (q3d b) (Int.natCast_nonneg _) (by rw [Int.toNat_natCast]; exact QL_at hb) rfl ?_
      refine k_most3 (p := a) (q := b) (by omega) (by omega) fun q2 h2 z2 => ?_
      refine use (STo_spec q1 q2 (by omega) (by omega)) rfl ?_
      have hq : SL ((stepL l m o k).take (i + 1)) = SL ((stepL l m o k).take i) ++ [rd (cn q1) ++ rd (cn q2)] := by
        rw [SL_succ hs, h1, h2]
      have hlt2 : (SL ((stepL l m o k).take i)).length ≤ 1073741824 := by rw [SL_len, List.length_take]; omega
      refine ⟨⟨SL_rows [(q1, q2)], ?_, ?_⟩, ?_⟩
      · show ((SL ((stepL l m o k).take i)).length + 1) * 80 ≤ _; omega
      · show (SL ((stepL l m o k).take i)).length + 1 ≤ _; omega
      refine ⟨by kernel_rfl, ?_⟩
      refine ⟨i + 1, hil, by simp only; omega, ?_⟩
      constructor <;> (repeat' (first | exact rfl | exact True.intro | apply And.intro))
      all_goals first
        | exact congrArg (fun n : Int => D.v (.int .i64 n)) (show ((i + 1 : Nat) : Int) = IntKind.i64.wrap ((i : Int) + 1) by rw [wrap64 _ (by omega) (by omega)]; omega)
        | (rw [hq]; exact rfl)
    · have hil : i = (stepL l m o k).length := by have := of_decide_eq_false e5; omega
      subst hil
      have hq : PL ((partsL l m o).take (k + 1)) = PL ((partsL l m o).take k) ++ [[D.list (SL ((stepL l m o k).take (stepL l m o k).length))]] := by
        rw [PL_succ (partsL_at hlt), List.take_length]
      have hlt2 : (PL ((partsL l m o).take k)).length ≤ 50 := by rw [PL_len, List.length_take]; omega
      refine ⟨⟨fun row hrow => by rw [List.mem_singleton.1 hrow]; rfl, ?_, ?_⟩, ?_⟩
      · show ((PL ((partsL l m o).take k)).length + 1) * 24 ≤ _; omega
      · show (PL ((partsL l m o).take k)).length + 1 ≤ _; omega
      refine ⟨k + 1, hlt, by simp only; omega, ?_⟩
      constructor <;> (repeat' (first | exact rfl | exact True.intro | apply And.intro))
      all_goals first
        | exact congrArg (fun n : Int => D.v (.int .i64 n)) (show ((k + 1 : Nat) : Int) = IntKind.i64.wrap ((k : Int) + 1) by rw [wrap64 _ (by omega) (by omega)]; omega)
        | (rw [hq]; exact rfl)
        | rw [hq]
  · have hge : k = o.toNat := by have := of_decide_eq_false e; omega
    subst hge
    refine Eq.trans (b := .val (.one (.d (.list (PL ((partsL l m o).take o.toNat)))))) ?_ rfl
    rw [List.take_of_length_le (by omega)]
end
end Go.Proofs.YtnnffjolkgomhaaDoor.eng

/- Contract of gantlaw3.ClearSplits: it returns true. -/
namespace Go.Proofs.YtnnffjolkgomhaaDoor.eng
open Go.RowKit num mem seg q held ratA ratB ratC ratD ratE vars ratF natC natD natI sub32
section
variable {K : AV → Prop} {x y : RV}
theorem SL_at {l : List (Rat × Rat)} {i : Nat} {p : Rat × Rat} (h : l[i]? = some p) : (SL l)[i]? = some (rd (cn p.1) ++ rd (cn p.2)) := by simp [SL, h]
theorem PL_at {l : List (List (Rat × Rat))} {i : Nat} {p : List (Rat × Rat)} (h : l[i]? = some p) : (PL l)[i]? = some [D.list (SL p)] := by simp [PL, h]
set_option maxRecDepth 100000 in
theorem EqS_spec (l : List (Rat × Rat)) (hn : l.length ≤ 1099511627776) : Spec Tryd.prog Tab 31 [.val (.one (.d (.list (SL l)))), .val (.one (.d (.list (SL l))))] (bool true) := by
  have hl : (SL l).length = l.length := SL_len l
  refine fn_spec Tryd.func31 rfl rfl Tryd.ntmps31 rfl (by kernel_rfl) rfl rfl ?_
  refine ⟨fun e => absurd (show ((((SL l).length : Nat) : Int) != (((SL l).length : Nat) : Int)) = true from e) (by simp), fun _ => ?_⟩
  refine ⟨Nat, fun i => [(0, .val (.one (.d (.list (SL l))))), (1, .val (.one (.d (.list (SL l))))), (12, int ((l.length : Nat) : Int)), (13, int (i : Int))], fun _ => [], fun i => i ≤ l.length, fun i => l.length - i, 0, ?_, Nat.zero_le _, fun i hi => ?_⟩
  · constructor <;> (repeat' (first | exact rfl | exact True.intro | apply And.intro))
    all_goals exact congrArg (fun n : Nat => D.v (.int .i64 (n : Int))) hl.symm
  refine ⟨fun e => ?_, fun e => ?_⟩
  · have h1 := of_decide_eq_true e
    have hil : i < l.length := by omega
    obtain ⟨c, hc⟩ : ∃ c, l[i]? = some c := ⟨_, List.getElem?_eq_getElem hil⟩
    refine k_at (rd (cn c.1) ++ rd (cn c.2)) (Int.natCast_nonneg _) (by rw [Int.toNat_natCast]; exact SL_at hc) rfl ?_
    refine k_at (rd (cn c.1) ++ rd (cn c.2)) (Int.natCast_nonneg _) (by rw [Int.toNat_natCast]; exact SL_at hc) rfl ?_
    refine k_neq_span_t (x := cn c.1) (y := cn c.2) (x' := cn c.1) (y' := cn c.2) ⟨rfl, rfl⟩ ?_
    refine ⟨by kernel_rfl, ?_⟩
    refine ⟨fun e => by simp at e, fun _ => ?_⟩
    refine ⟨i + 1, by simp only; omega, by simp only; omega, ?_⟩
    constructor <;> (repeat' (first | exact rfl | exact True.intro | apply And.intro))
    all_goals exact congrArg (fun n : Int => D.v (.int .i64 n)) (show ((i + 1 : Nat) : Int) = IntKind.i64.wrap ((i : Int) + 1) by rw [wrap64 _ (by omega) (by omega)]; omega)
  · exact rfl
set_option maxRecDepth 100000 in
theorem CS1_spec (l : List (Rat × Rat)) (hn : l.length ≤ 1099511627776) : Spec Tryd.prog Tab 30 [.val (.one (.d (.list (SL l)))), .val (.one (.d (.list (SL l))))] (bool true) := by
  refine fn_spec Tryd.func30 rfl rfl Tryd.ntmps30 rfl (by kernel_rfl) rfl rfl ?_
  refine use (EqS_spec l hn) rfl ?_
  exact rfl
set_option maxRecDepth 100000 in
theorem EqF_spec (l : List (List (Rat × Rat))) (hn : l.length ≤ 1099511627776) (hr : ∀ r, r ∈ l → r.length ≤ 1099511627776) : Spec Tryd.prog Tab 28 [.val (.one (.d (.list (PL l)))), .val (.one (.d (.list (PL l)))), fv 30] (bool true) := by
  have hl : (PL l).length = l.length := PL_len l
  refine fn_spec Tryd.func28 rfl rfl Tryd.ntmps28 rfl (by kernel_rfl) rfl rfl ?_
  refine ⟨fun e => absurd (show ((((PL l).length : Nat) : Int) != (((PL l).length : Nat) : Int)) = true from e) (by simp), fun _ => ?_⟩
  refine ⟨Nat, fun i => [(1, .val (.one (.d (.list (PL l))))), (2, fv 30), (15, .val (.one (.d (.list (PL l))))), (16, int ((l.length : Nat) : Int)), (17, int (i : Int))], fun _ => [], fun i => i ≤ l.length, fun i => l.length - i, 0, ?_, Nat.zero_le _, fun i hi => ?_⟩
  · constructor <;> (repeat' (first | exact rfl | exact True.intro | apply And.intro))
    all_goals exact congrArg (fun n : Nat => D.v (.int .i64 (n : Int))) hl.symm
  refine ⟨fun e => ?_, fun e => ?_⟩
  · have h1 := of_decide_eq_true e
    have hil : i < l.length := by omega
    obtain ⟨c, hc⟩ : ∃ c, l[i]? = some c := ⟨_, List.getElem?_eq_getElem hil⟩
    refine k_at [D.list (SL c)] (Int.natCast_nonneg _) (by rw [Int.toNat_natCast]; exact PL_at hc) rfl ?_
    refine k_at [D.list (SL c)] (Int.natCast_nonneg _) (by rw [Int.toNat_natCast]; exact PL_at hc) rfl ?_
    refine use (CS1_spec c (hr c (List.mem_of_getElem? hc))) rfl ?_
    refine ⟨fun e => by simp at e, fun _ => ?_⟩
    refine ⟨i + 1, by simp only; omega, by simp only; omega, ?_⟩
    constructor <;> (repeat' (first | exact rfl | exact True.intro | apply And.intro))
    all_goals exact congrArg (fun n : Int => D.v (.int .i64 n)) (show ((i + 1 : Nat) : Int) = IntKind.i64.wrap ((i : Int) + 1) by rw [wrap64 _ (by omega) (by omega)]; omega)
  · exact rfl
theorem RL_vr (l : List Rat) : RL l = vr (l.map cn) := by simp [RL, vr]
theorem split_case : Spec Tryd.prog Tab 25 [.val (.one (.d (.list (RL (natL [0]))))), .val (.one (.d (.list (RL (natL [4]))))), int 2] (two (.val (.one (.d (.list [[D.list (SL [(0, 2)])], [D.list (SL [(2, 4)])]])))) (int 0)) := by
  have z0 : (cn ((0 : Nat) : Rat)).z ≤ 16777216 := by rw [cn_z]; exact Nat.le_trans (qs_i64 (n := 0) (by omega) (by omega)) (by omega)
  have z4 : (cn ((4 : Nat) : Rat)).z ≤ 16777216 := by rw [cn_z]; exact Nat.le_trans (qs_i64 (n := 4) (by omega) (by omega)) (by omega)
  have h := Split_spec ((natL [0]).map cn) ((natL [4]).map cn) 2 (by omega) (by omega) (by intro x hx; rw [List.mem_singleton.1 (show x ∈ [cn ((0 : Nat) : Rat)] from hx)]; exact z0) (by intro x hx; rw [List.mem_singleton.1 (show x ∈ [cn ((4 : Nat) : Rat)] from hx)]; exact z4) (by decide) (by decide)
  have hb : ¬ splitBad ((natL [0]).map cn) ((natL [4]).map cn) 2 := by
    rintro (h | h | h | h)
    · exact h rfl
    · exact absurd h (by decide)
    · omega
    · omega
  rw [if_neg hb] at h
  have hp : partsL ((natL [0]).map cn) ((natL [4]).map cn) 2 = [[(0, 2)], [(2, 4)]] := by
    show [stepL [cn ((0 : Nat) : Rat)] [cn ((4 : Nat) : Rat)] 2 0, stepL [cn ((0 : Nat) : Rat)] [cn ((4 : Nat) : Rat)] 2 1] = _
    simp only [stepL, midL, List.zipWith_cons_cons, List.zipWith_nil_left, cn_q]
    decide +kernel
  rw [hp] at h
  rw [RL_vr, RL_vr]
  exact h
set_option maxHeartbeats 4000000 in
set_option maxRecDepth 100000 in
theorem clearSplits_spec (l m : List RV) (p o n : Int) (hp1 : -9223372036854775808 ≤ p) (hp2 : p ≤ 9223372036854775807) (ho1 : -9223372036854775808 ≤ o) (ho2 : o ≤ 9223372036854775807) (hn1 : -9223372036854775808 ≤ n) (hn2 : n ≤ 9223372036854775807)
    (hl : ∀ x, x ∈ l → x.z ≤ 1048576) (hm : ∀ x, x ∈ m → x.z ≤ 1048576) (hn : l.length ≤ 1048576) (hn' : m.length ≤ 1048576) :
    Spec Tryd.prog Tab 5 [.val (.one (.d (.list (vr l)))), .val (.one (.d (.list (vr m)))), int p, int o, int n] (bool true) := by
  have hl' : ∀ x, x ∈ l → x.z ≤ 16777216 := fun x hx => Nat.le_trans (hl x hx) (by decide)
  have hm' : ∀ x, x ∈ m → x.z ≤ 16777216 := fun x hx => Nat.le_trans (hm x hx) (by decide)
  have hll := vr_len l
  have hml := vr_len m
  have hmid := midL_len l m p o
  refine fn_spec Tryd.func5 rfl rfl Tryd.ntmps5 rfl (by kernel_rfl) rfl rfl ?_
  refine use (nums_spec [0] (by decide) (by decide)) rfl ?_
  refine use (nums_spec [4] (by decide) (by decide)) rfl ?_
  refine use split_case rfl ?_
  refine k_at [D.list (SL [(2, 4)])] (by decide) rfl rfl ?_
  refine k_at [D.list (SL [(2, 4)])] (by decide) rfl rfl ?_
  refine k_at (rd (cn 2) ++ rd (cn 4)) (by decide) rfl rfl ?_
  refine k_num3 2 rfl (by decide) ?_
  refine k_num3 4 rfl (by decide) ?_
  refine k_neq_span_t (x := cn 2) (y := cn 4) (x' := cn ((2 : Nat) : Rat)) (y' := cn ((4 : Nat) : Rat)) ⟨rfl, rfl⟩ ?_
  refine ⟨by kernel_rfl, ?_⟩
  refine ⟨fun e => by simp at e, fun _ => ?_⟩
  refine k_Bet l m p o rfl rfl rfl hp1 hp2 ho1 ho2 hl' hm' (by omega) (by omega) ?_
  refine k_Mid l m p o rfl rfl rfl hp1 hp2 ho1 ho2 hl' hm' (by omega) (by omega) ?_
  refine k_Back (midL l m p o) rfl (fun q hq => Nat.le_trans (midL_qs hp1 hp2 ho1 ho2 hl' hm' q hq) (by decide)) (by omega) ?_
  refine k_equal3 (midL l m p o) (midL l m p o) rfl rfl (by omega) (by omega) fun b hb => ?_
  have hb' : b = true := by rw [hb]; exact decide_eq_true rfl
  subst hb'
  refine ⟨fun e => by simp at e, fun _ => ?_⟩
  by_cases hbad : splitBad l m n
  · refine use (by have := Split_spec l m n hn1 hn2 hl' hm' (by omega) (by omega); rw [if_pos hbad] at this; exact this) rfl ?_
    refine fork (fun e1 => ?_) (fun e1 => ?_)
    · refine ⟨fun _ => ?_, fun e => by simp at e⟩
      exact rfl
    refine fork (fun e2 => ?_) (fun e2 => ?_)
    · refine ⟨fun _ => ?_, fun e => by simp at e⟩
      exact rfl
    refine fork (fun e3 => ?_) (fun e3 => ?_)
    · refine ⟨fun _ => ?_, fun e => by simp at e⟩
      exact rfl
    refine ⟨fun e4 => ?_, fun e4 => ?_⟩
    · exact rfl
    · exfalso
      rcases hbad with h | h | h | h
      · have : ((((vr l).length : Nat) : Int) != (((vr m).length : Nat) : Int)) = false := e1
        rw [hll, hml] at this; simp at this; omega
      · have := of_decide_eq_false e2; omega
      · exact of_decide_eq_false e3 h
      · exact of_decide_eq_false e4 h
  · refine use (by have := Split_spec l m n hn1 hn2 hl' hm' (by omega) (by omega); rw [if_neg hbad] at this; exact this) rfl ?_
    refine fork (fun e1 => ?_) (fun e1 => ?_)
    · exact absurd (.inl fun h => by
        have : ((((vr l).length : Nat) : Int) != (((vr m).length : Nat) : Int)) = true := e1
        rw [hll, hml, h] at this; simp at this) hbad
    refine fork (fun e2 => ?_) (fun e2 => ?_)
    · exact absurd (.inr (.inl (by have := of_decide_eq_true e2; omega))) hbad
    refine fork (fun e3 => ?_) (fun e3 => ?_)
    · exact absurd (.inr (.inr (.inl (of_decide_eq_true e3)))) hbad
    refine ⟨fun e4 => absurd (.inr (.inr (.inr (of_decide_eq_true e4)))) hbad, fun e4 => ?_⟩
    have c3 : 1 ≤ n := by have := of_decide_eq_false e3; omega
    have c4 : n ≤ 50 := by have := of_decide_eq_false e4; omega
    refine use (Parts_spec l m n c3 c4 hl' hm' (by omega) (by omega)) rfl ?_
    refine use (EqF_spec (partsL l m n) (by rw [partsL_len]; omega) (fun r hr => by
      obtain ⟨k, _, rfl⟩ := List.mem_map.1 hr
      rw [stepL_len]; omega)) rfl ?_
    exact rfl
theorem den_av {w : World} {I : Nat → Prop} {bs : Bs} {mem : Mem} {v : Value} {xs : List (List D)} (h : Den w I v (.list xs)) : DenAV w I bs mem v (.val (.one (.d (.list xs)))) := h
theorem clearSplits_walk (v0 : Value) (l : List RV) (v1 : Value) (m : List RV) (p o n : Int) (N : Nat) (w : World) (_ : 1 ≤ N) (hN : N ≤ 1048576)
    (h0 : Den w (fun b => b < w.heap.size) v0 (.list (l.map rd))) (l1 : l.length ≤ N) (l2 : ∀ x, x ∈ l → x.z ≤ N) (h1 : Den w (fun b => b < w.heap.size) v1 (.list (m.map rd))) (m1 : m.length ≤ N) (m2 : ∀ x, x ∈ m → x.z ≤ N)
    (hp : -9223372036854775808 ≤ p ∧ p ≤ 9223372036854775807) (ho : -9223372036854775808 ≤ o ∧ o ≤ 9223372036854775807) (hn : -9223372036854775808 ≤ n ∧ n ≤ 9223372036854775807) (hT : Tab w) :
    Calls Tryd.prog 5 #[v0, v1, .int .i64 p, .int .i64 o, .int .i64 n] w fun e w' => e = .returned (.bool true) ∧ Below w.heap.size w w' :=
  calls_of_specI (I := fun b => b < w.heap.size) (clearSplits_spec l m p o n hp.1 hp.2 ho.1 ho.2 hn.1 hn.2 (fun x hx => Nat.le_trans (l2 x hx) hN) (fun x hx => Nat.le_trans (m2 x hx) hN) (Nat.le_trans l1 hN) (Nat.le_trans m1 hN)) rfl hT (fun _ h => h)
    (((pvl_rel (vs := [int p, int o, int n]) rfl).cons (den_av h1)).cons (den_av h0))
end
end Go.Proofs.YtnnffjolkgomhaaDoor.eng

