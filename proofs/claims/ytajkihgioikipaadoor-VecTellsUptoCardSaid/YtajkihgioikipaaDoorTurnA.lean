/- Walks: turn.Of, halfTurn, fit, Cos, Sin; gantref1.Circle. Printed by wip/gen_turn.py. -/
import Derived.Test.YtajkihgioikipaaDoorVecA
import Derived.Deep.DeepCutAuto
namespace Go.Proofs.YtajkihgioikipaaDoor.turnA
open Go.RowKit num mem seg q ratA held ratB ratC ratD ratE vars vecA

theorem size_set (w : World) (a : Addr) (v : Value) : (w.setCell a v).heap.size = w.heap.size := by simp [World.setCell]
theorem size_alloc (w : World) (o : Obj) : (w.alloc o).heap.size = w.heap.size + 1 := by simp
/-- a function's end: it gives the turn of q, or the half turn -/
def Trn (h : Bool) (q : Rat) (B : Nat) (w : World) (e : Ending) (w' : World) : Prop := ∃ u c f, e = .returned (.agg #[.bool h, .bool u, .string c, .string f]) ∧ Is q u c f ∧ qs q ≤ B ∧ Below w.heap.size w w'
/-- .. two numbers -/
def Two (p q : Rat) (B : Nat) (w : World) (e : Ending) (w' : World) : Prop := ∃ u c f u' c' f', e = .returned (.tuple #[.agg #[.bool u, .string c, .string f], .agg #[.bool u', .string c', .string f']]) ∧ Is p u c f ∧ Is q u' c' f' ∧ qs p ≤ B ∧ qs q ≤ B ∧ Below w.heap.size w w'
theorem results_turn {fn : Func} {t : Tmp} (h : fn.results = #[.cell t 81]) (tmps : Array Value) {w : World} {b : Nat} {x y z u : Value} (hp : tmps.getD t undef = .pointer (some ⟨b, 0, none⟩)) (hr : Row w b 81 [x, y, z, u]) :
    (results fn tmps).run Tryd.prog w = .ok (.agg #[x, y, z, u]) w := by
  obtain ⟨r0, r1, r2, r3, _⟩ := row4 hr
  have hp' : tmps[t]?.getD undef = .pointer (some ⟨b, 0, none⟩) := by simpa using hp
  simp [results, h, hp', go_sem, r0, r1, r2, r3]
theorem results_two {fn : Func} {t t' : Tmp} (h : fn.results = #[.cell t 39, .cell t' 39]) (tmps : Array Value) {w : World} {b b' : Nat} {x y z x' y' z' : Value} (hp : tmps.getD t undef = .pointer (some ⟨b, 0, none⟩)) (hp' : tmps.getD t' undef = .pointer (some ⟨b', 0, none⟩))
    (hr : Row w b 39 [x, y, z]) (hr' : Row w b' 39 [x', y', z']) : (results fn tmps).run Tryd.prog w = .ok (.tuple #[.agg #[x, y, z], .agg #[x', y', z']]) w := by
  obtain ⟨r0, r1, r2, _⟩ := row3 hr
  obtain ⟨r0', r1', r2', _⟩ := row3 hr'
  have e : tmps[t]?.getD undef = .pointer (some ⟨b, 0, none⟩) := by simpa using hp
  have e' : tmps[t']?.getD undef = .pointer (some ⟨b', 0, none⟩) := by simpa using hp'
  simp [results, h, e, e', go_sem, r0, r1, r2, r0', r1', r2']
def tq (h : Bool) (p : Rat) : Rat := if h then ((0 : Int) : Rat) else p
def cosq (h : Bool) (p : Rat) : Rat := if h then ((-1 : Int) : Rat) else (((1 : Int) : Rat) - p * p) / (((1 : Int) : Rat) + p * p)
def sinq (p : Rat) : Rat := (p + p) / (((1 : Int) : Rat) + p * p)
def circ (h : Bool) (p : Rat) : Rat := if h then ((-1 : Int) : Rat) else ((2 : Int) : Rat) / (((1 : Int) : Rat) + (p + ((0 : Int) : Rat)) * (p + ((0 : Int) : Rat))) - ((1 : Int) : Rat)
def sirc (h : Bool) (p : Rat) : Rat := if h then ((0 : Int) : Rat) else (p + ((0 : Int) : Rat)) * (((2 : Int) : Rat) / (((1 : Int) : Rat) + (p + ((0 : Int) : Rat)) * (p + ((0 : Int) : Rat))))
theorem one_sq (p : Rat) : ((1 : Int) : Rat) + p * p ≠ 0 := by
  have h0 : 0 ≤ p * p := by
    rcases Rat.le_total (a := 0) (b := p) with h | h
    · exact Rat.mul_nonneg h h
    · have h' : 0 ≤ -p := by have := Rat.neg_le_neg h; simpa using this
      have := Rat.mul_nonneg h' h'
      rwa [Rat.neg_mul, Rat.mul_neg, Rat.neg_neg] at this
  intro h
  have h1 : (1 : Rat) + 0 ≤ 1 + p * p := Rat.add_le_add_left.2 h0
  rw [Rat.intCast_one] at h
  rw [h] at h1
  exact absurd h1 (by decide +kernel)

set_option maxHeartbeats 4000000 in
set_option maxRecDepth 100000 in
theorem tOf_any (s00 : Bool) (a00 d00 : ByteArray) (N : Nat) (w : World) (hN1 : 1 ≤ N) (hN : N ≤ 1073741824) (ha00 : a00.size ≤ N) (hd00 : d00.size ≤ N) (hT : Tab w) :
    Calls Tryd.prog 74 #[.agg #[.bool s00, .string a00, .string d00]] w fun x w' => Trn false (qv s00 a00 d00) N w x w' := by
  have V0 := vars2 w 39 81 [.bool s00, .string a00, .string d00] [.bool false, .bool false, .string ⟨#[]⟩, .string ⟨#[]⟩]
  have zp00 : qs (qv s00 a00 d00) ≤ N := Nat.le_trans (qs_qv s00 a00 d00) (by omega)
  obtain ⟨p00, hp00⟩ : ∃ p, qv s00 a00 d00 = p := ⟨_, rfl⟩
  rw [hp00] at zp00 ⊢
  have P00 := Lib.hid hp00
  clear hp00
  go_enter Tryd.func74, Tryd.ntmps74
  go_wp2_with fail
  refine (rMin_any _ _ _ _ _ _ _ (by omega) (by omega) (by omega) (by omega) (V0.tab hT)).mono ?_
  rintro _ w1 ⟨u1, c1, f1, rfl, i1, hb1⟩
  rw [ite_self] at i1
  rw [P00.out] at i1
  obtain ⟨s1a, s1b⟩ := i1.sz
  have V1 := V0.call hb1
  obtain ⟨r0_0, r0_1, r0_2, f0_0, f0_1, f0_2⟩ := row3 (V1.row 0 rfl)
  obtain ⟨r1_0, r1_1, r1_2, r1_3, f1_0, f1_1, f1_2, f1_3⟩ := row4 (V1.row 1 rfl)
  have U1 : Vars w [(w.heap.size, 39, [.bool s00, .string a00, .string d00]), (w.heap.size + 1, 81, [.bool false, .bool u1, .string c1, .string f1])] _ := V1.put4 1 rfl (.bool false) (.bool u1) (.string c1) (.string f1)
  go_wp2_with fail
  refine bodyPost_ret (results_turn rfl _ rfl (U1.row 1 rfl)) rfl ?_
  exact ⟨_, _, _, rfl, i1, zp00, U1.1⟩

set_option maxHeartbeats 4000000 in
set_option maxRecDepth 100000 in
theorem halfTurn_any (w : World) (hT : Tab w) : Calls Tryd.prog 135 #[] w fun x w' => Trn true ((0 : Int) : Rat) 8 w x w' := by
  have V0 := vars1 w 81 [.bool false, .bool false, .string ⟨#[]⟩, .string ⟨#[]⟩]
  go_enter Tryd.func135, Tryd.ntmps135
  go_wp2_with fail
  refine (rOf_any 0 _ (by decide) (by decide) (V0.tab hT)).mono ?_
  rintro _ w1 ⟨u1, c1, f1, rfl, i1, hb1⟩
  obtain ⟨x1, hx1⟩ : ∃ x, ((0 : Int) : Rat) = x := ⟨_, rfl⟩
  rw [hx1] at i1
  (have z1 : qs x1 ≤ 8 := by (rw [← hx1]; have := qs_i64 (n := 0) (by decide) (by decide); omega))
  have X1 := Lib.hid hx1
  clear hx1
  obtain ⟨s1a, s1b⟩ := i1.sz
  have V1 := V0.call hb1
  obtain ⟨r0_0, r0_1, r0_2, r0_3, f0_0, f0_1, f0_2, f0_3⟩ := row4 (V1.row 0 rfl)
  have U1 : Vars w [(w.heap.size, 81, [.bool true, .bool u1, .string c1, .string f1])] _ := V1.put4 0 rfl (.bool true) (.bool u1) (.string c1) (.string f1)
  go_wp2_with fail
  refine bodyPost_ret (results_turn rfl _ rfl (U1.row 0 rfl)) rfl ?_
  exact ⟨_, _, _, rfl, by rw [X1.out]; exact i1, by rw [X1.out]; exact z1, U1.1⟩

set_option maxHeartbeats 4000000 in
set_option maxRecDepth 100000 in
theorem tfit_any (h0 : Bool) (s00 : Bool) (a00 d00 : ByteArray) (N : Nat) (w : World) (hN1 : 1 ≤ N) (hN : N ≤ 1073741824) (ha00 : a00.size ≤ N) (hd00 : d00.size ≤ N) (hT : Tab w) :
    Calls Tryd.prog 133 #[.agg #[.bool h0, .bool s00, .string a00, .string d00]] w fun x w' => Trn h0 (tq h0 (qv s00 a00 d00)) (N + 8) w x w' := by
  cases h0 with
  | true =>
    have V0 := vars2 w 81 81 [.bool true, .bool s00, .string a00, .string d00] [.bool false, .bool false, .string ⟨#[]⟩, .string ⟨#[]⟩]
    have zp00 : qs (qv s00 a00 d00) ≤ N := Nat.le_trans (qs_qv s00 a00 d00) (by omega)
    obtain ⟨p00, hp00⟩ : ∃ p, qv s00 a00 d00 = p := ⟨_, rfl⟩
    rw [hp00] at zp00 ⊢
    have P00 := Lib.hid hp00
    clear hp00
    go_enter Tryd.func133, Tryd.ntmps133
    go_wp2_with fail
    refine (halfTurn_any _ (V0.tab hT)).mono ?_
    rintro _ w1 ⟨u1, c1, f1, rfl, i1, z1, hb1⟩
    obtain ⟨x1, hx1⟩ : ∃ x, ((0 : Int) : Rat) = x := ⟨_, rfl⟩
    rw [hx1] at i1 z1
    have X1 := Lib.hid hx1
    clear hx1
    obtain ⟨s1a, s1b⟩ := i1.sz
    have V1 := V0.call hb1
    obtain ⟨r0_0, r0_1, r0_2, r0_3, f0_0, f0_1, f0_2, f0_3⟩ := row4 (V1.row 0 rfl)
    obtain ⟨r1_0, r1_1, r1_2, r1_3, f1_0, f1_1, f1_2, f1_3⟩ := row4 (V1.row 1 rfl)
    have U1 : Vars w [(w.heap.size, 81, [.bool true, .bool s00, .string a00, .string d00]), (w.heap.size + 1, 81, [.bool true, .bool u1, .string c1, .string f1])] _ := V1.put4 1 rfl (.bool true) (.bool u1) (.string c1) (.string f1)
    go_wp2_with fail
    refine bodyPost_ret (results_turn rfl _ rfl (U1.row 1 rfl)) rfl ?_
    exact ⟨_, _, _, rfl, by rw [show tq true p00 = ((0 : Int) : Rat) from rfl, X1.out]; exact i1, by rw [show tq true p00 = ((0 : Int) : Rat) from rfl, X1.out]; omega, U1.1⟩
  | false =>
    have V0 := vars2 w 81 81 [.bool false, .bool s00, .string a00, .string d00] [.bool false, .bool false, .string ⟨#[]⟩, .string ⟨#[]⟩]
    have zp00 : qs (qv s00 a00 d00) ≤ N := Nat.le_trans (qs_qv s00 a00 d00) (by omega)
    obtain ⟨p00, hp00⟩ : ∃ p, qv s00 a00 d00 = p := ⟨_, rfl⟩
    rw [hp00] at zp00 ⊢
    have P00 := Lib.hid hp00
    clear hp00
    go_enter Tryd.func133, Tryd.ntmps133
    obtain ⟨r0_0, r0_1, r0_2, r0_3, f0_0, f0_1, f0_2, f0_3⟩ := row4 (V0.row 0 rfl)
    obtain ⟨r1_0, r1_1, r1_2, r1_3, f1_0, f1_1, f1_2, f1_3⟩ := row4 (V0.row 1 rfl)
    go_wp2_with fail
    refine (tOf_any _ _ _ N _ hN1 hN (by omega) (by omega) (V0.tab hT)).mono ?_
    rintro _ w1 ⟨u1, c1, f1, rfl, i1, z1, hb1⟩
    rw [P00.out] at i1 z1
    obtain ⟨s1a, s1b⟩ := i1.sz
    have V1 := V0.call hb1
    clear r0_0 r0_1 r0_2 r0_3 f0_0 f0_1 f0_2 f0_3 r1_0 r1_1 r1_2 r1_3 f1_0 f1_1 f1_2 f1_3
    obtain ⟨r0_0, r0_1, r0_2, r0_3, f0_0, f0_1, f0_2, f0_3⟩ := row4 (V1.row 0 rfl)
    obtain ⟨r1_0, r1_1, r1_2, r1_3, f1_0, f1_1, f1_2, f1_3⟩ := row4 (V1.row 1 rfl)
    have U1 : Vars w [(w.heap.size, 81, [.bool false, .bool s00, .string a00, .string d00]), (w.heap.size + 1, 81, [.bool false, .bool u1, .string c1, .string f1])] _ := V1.put4 1 rfl (.bool false) (.bool u1) (.string c1) (.string f1)
    go_wp2_with fail
    refine bodyPost_ret (results_turn rfl _ rfl (U1.row 1 rfl)) rfl ?_
    exact ⟨_, _, _, rfl, i1, by rw [show tq false p00 = p00 from rfl]; omega, U1.1⟩

set_option maxHeartbeats 4000000 in
set_option maxRecDepth 100000 in
theorem tCos_any (h0 : Bool) (s00 : Bool) (a00 d00 : ByteArray) (N : Nat) (w : World) (hN1 : 1 ≤ N) (hN : N ≤ 1073741824) (ha00 : a00.size ≤ N) (hd00 : d00.size ≤ N) (hT : Tab w) :
    Calls Tryd.prog 75 #[.agg #[.bool h0, .bool s00, .string a00, .string d00]] w fun x w' => Num (cosq h0 (qv s00 a00 d00)) (4 * N + 60) w x w' := by
  cases h0 with
  | true =>
    have V0 := vars2 w 81 39 [.bool true, .bool s00, .string a00, .string d00] [.bool false, .string ⟨#[]⟩, .string ⟨#[]⟩]
    have zp00 : qs (qv s00 a00 d00) ≤ N := Nat.le_trans (qs_qv s00 a00 d00) (by omega)
    obtain ⟨p00, hp00⟩ : ∃ p, qv s00 a00 d00 = p := ⟨_, rfl⟩
    rw [hp00] at zp00 ⊢
    have P00 := Lib.hid hp00
    clear hp00
    go_enter Tryd.func75, Tryd.ntmps75
    go_wp2_with fail
    refine (tfit_any _ _ _ _ N _ hN1 hN (by omega) (by omega) (V0.tab hT)).mono ?_
    rintro _ w1 ⟨u1, c1, f1, rfl, i1, z1, hb1⟩
    rw [P00.out] at i1 z1
    obtain ⟨x1, hx1⟩ : ∃ x, tq true p00 = x := ⟨_, rfl⟩
    rw [hx1] at i1 z1
    have X1 := Lib.hid hx1
    clear hx1
    obtain ⟨s1a, s1b⟩ := i1.sz
    have V1 := V0.call hb1
    obtain ⟨r0_0, r0_1, r0_2, r0_3, f0_0, f0_1, f0_2, f0_3⟩ := row4 (V1.row 0 rfl)
    obtain ⟨r1_0, r1_1, r1_2, f1_0, f1_1, f1_2⟩ := row3 (V1.row 1 rfl)
    have U1 : Vars w [(w.heap.size, 81, [.bool true, .bool u1, .string c1, .string f1]), (w.heap.size + 1, 39, [.bool false, .string ⟨#[]⟩, .string ⟨#[]⟩])] _ := V1.put4 0 rfl (.bool true) (.bool u1) (.string c1) (.string f1)
    go_wp2_with fail
    refine (rOf_any (-1) _ (by decide) (by decide) (U1.tab hT)).mono ?_
    rintro _ w2 ⟨u2, c2, f2, rfl, i2, hb2⟩
    obtain ⟨x2, hx2⟩ : ∃ x, (((-1) : Int) : Rat) = x := ⟨_, rfl⟩
    rw [hx2] at i2
    (have z2 : qs x2 ≤ 8 := by (rw [← hx2]; have := qs_i64 (n := (-1)) (by decide) (by decide); omega))
    have X2 := Lib.hid hx2
    clear hx2
    obtain ⟨s2a, s2b⟩ := i2.sz
    have V2 := U1.call hb2
    clear r0_0 r0_1 r0_2 r0_3 f0_0 f0_1 f0_2 f0_3 r1_0 r1_1 r1_2 f1_0 f1_1 f1_2
    obtain ⟨r0_0, r0_1, r0_2, r0_3, f0_0, f0_1, f0_2, f0_3⟩ := row4 (V2.row 0 rfl)
    obtain ⟨r1_0, r1_1, r1_2, f1_0, f1_1, f1_2⟩ := row3 (V2.row 1 rfl)
    have U2 : Vars w [(w.heap.size, 81, [.bool true, .bool u1, .string c1, .string f1]), (w.heap.size + 1, 39, [.bool u2, .string c2, .string f2])] _ := V2.put3 1 rfl (.bool u2) (.string c2) (.string f2)
    go_wp2_with fail
    refine bodyPost_ret (results_rat rfl _ rfl (U2.row 1 rfl)) rfl ?_
    exact ⟨_, _, _, rfl, by rw [show cosq true p00 = ((-1 : Int) : Rat) from rfl, X2.out]; exact i2, by rw [show cosq true p00 = ((-1 : Int) : Rat) from rfl, X2.out]; omega, U2.1⟩
  | false =>
    have V0 := vars2 w 81 39 [.bool false, .bool s00, .string a00, .string d00] [.bool false, .string ⟨#[]⟩, .string ⟨#[]⟩]
    have zp00 : qs (qv s00 a00 d00) ≤ N := Nat.le_trans (qs_qv s00 a00 d00) (by omega)
    obtain ⟨p00, hp00⟩ : ∃ p, qv s00 a00 d00 = p := ⟨_, rfl⟩
    rw [hp00] at zp00 ⊢
    have P00 := Lib.hid hp00
    clear hp00
    go_enter Tryd.func75, Tryd.ntmps75
    go_wp2_with fail
    refine (tfit_any _ _ _ _ N _ hN1 hN (by omega) (by omega) (V0.tab hT)).mono ?_
    rintro _ w1 ⟨u1, c1, f1, rfl, i1, z1, hb1⟩
    rw [P00.out] at i1 z1
    obtain ⟨x1, hx1⟩ : ∃ x, tq false p00 = x := ⟨_, rfl⟩
    rw [hx1] at i1 z1
    have X1 := Lib.hid hx1
    clear hx1
    obtain ⟨s1a, s1b⟩ := i1.sz
    have V1 := V0.call hb1
    obtain ⟨r0_0, r0_1, r0_2, r0_3, f0_0, f0_1, f0_2, f0_3⟩ := row4 (V1.row 0 rfl)
    obtain ⟨r1_0, r1_1, r1_2, f1_0, f1_1, f1_2⟩ := row3 (V1.row 1 rfl)
    have U1 : Vars w [(w.heap.size, 81, [.bool false, .bool u1, .string c1, .string f1]), (w.heap.size + 1, 39, [.bool false, .string ⟨#[]⟩, .string ⟨#[]⟩])] _ := V1.put4 0 rfl (.bool false) (.bool u1) (.string c1) (.string f1)
    have XT := Lib.hid (show p00 = x1 by rw [← X1.out]; rfl)
    rw [← XT.out] at i1 z1 s1a s1b
    clear X1 XT
    go_wp2_with fail
    refine (rMul_any _ _ _ _ _ _ _ (by omega) (by omega) (by omega) (by omega) (U1.tab hT)).mono ?_
    rintro _ w2 ⟨u2, c2, f2, rfl, i2, hb2⟩
    rw [i1.val] at i2
    obtain ⟨x2, hx2⟩ : ∃ x, p00 * p00 = x := ⟨_, rfl⟩
    rw [hx2] at i2
    (have z2 : qs x2 ≤ 2 * N + 16 := by (rw [← hx2]; have := qs_mul p00 p00; omega))
    have X2 := Lib.hid hx2
    clear hx2
    obtain ⟨s2a, s2b⟩ := i2.sz
    have V2 := U1.call hb2
    clear r0_0 r0_1 r0_2 r0_3 f0_0 f0_1 f0_2 f0_3 r1_0 r1_1 r1_2 f1_0 f1_1 f1_2
    obtain ⟨r0_0, r0_1, r0_2, r0_3, f0_0, f0_1, f0_2, f0_3⟩ := row4 (V2.row 0 rfl)
    obtain ⟨r1_0, r1_1, r1_2, f1_0, f1_1, f1_2⟩ := row3 (V2.row 1 rfl)
    have U2 : Vars w [(w.heap.size, 81, [.bool false, .bool u1, .string c1, .string f1]), (w.heap.size + 1, 39, [.bool false, .string ⟨#[]⟩, .string ⟨#[]⟩]), (w2.heap.size, 39, [.bool u2, .string c2, .string f2])] (w2.alloc (.cells #[.bool u2, .string c2, .string f2] 39)) := by have h := V2.push 39 [.bool u2, .string c2, .string f2]; exact h
    go_upto_region 5 with fail
    obtain ⟨W1, hW1⟩ : ∃ W, W = (w2.alloc (.cells #[.bool u2, .string c2, .string f2] 39)) := ⟨_, rfl⟩
    rw [← hW1] at U2 ⊢
    clear hW1
    clear r0_0 r0_1 r0_2 r0_3 f0_0 f0_1 f0_2 f0_3 r1_0 r1_1 r1_2 f1_0 f1_1 f1_2
    have P5_ : ∀ w', Vars w [(w.heap.size, 81, [.bool false, .bool u1, .string c1, .string f1]), (w.heap.size + 1, 39, [.bool false, .string ⟨#[]⟩, .string ⟨#[]⟩]), (w2.heap.size, 39, [.bool u2, .string c2, .string f2])] w' → Vars w [(w.heap.size, 81, [.bool false, .bool u1, .string c1, .string f1]), (w.heap.size + 1, 39, [.bool false, .string ⟨#[]⟩, .string ⟨#[]⟩]), (w2.heap.size, 39, [.bool u2, .string c2, .string f2])] w' ∧ w'.cell? ⟨w.heap.size, 0, none⟩ = some (.bool false) ∧ w'.cell? ⟨w.heap.size, 1, none⟩ = some (.bool u1) ∧ w'.cell? ⟨w.heap.size, 2, none⟩ = some (.string c1) ∧ w'.cell? ⟨w.heap.size, 3, none⟩ = some (.string f1) ∧ w'.cell? ⟨w.heap.size + 1, 0, none⟩ = some (.bool false) ∧ w'.cell? ⟨w.heap.size + 1, 1, none⟩ = some (.string ⟨#[]⟩) ∧ w'.cell? ⟨w.heap.size + 1, 2, none⟩ = some (.string ⟨#[]⟩) ∧ w'.cell? ⟨w2.heap.size, 0, none⟩ = some (.bool u2) ∧ w'.cell? ⟨w2.heap.size, 1, none⟩ = some (.string c2) ∧ w'.cell? ⟨w2.heap.size, 2, none⟩ = some (.string f2) := fun w' h => by
      obtain ⟨c0_0, c0_1, c0_2, c0_3, _⟩ := row4 (h.row 0 rfl)
      obtain ⟨c1_0, c1_1, c1_2, _⟩ := row3 (h.row 1 rfl)
      obtain ⟨c2_0, c2_1, c2_2, _⟩ := row3 (h.row 2 rfl)
      exact ⟨h, c0_0, c0_1, c0_2, c0_3, c1_0, c1_1, c1_2, c2_0, c2_1, c2_2⟩
    go_cut [4] (fun sl wx => ∃ (g : Nat) (u : Bool) (c f : ByteArray), sl = .pointer (some ⟨g, 0, none⟩) ∧ Is ((((1 : Int) : Rat) - p00 * p00) / (((1 : Int) : Rat) + p00 * p00)) u c f ∧ qs ((((1 : Int) : Rat) - p00 * p00) / (((1 : Int) : Rat) + p00 * p00)) ≤ 4 * N + 60 ∧ Vars w ([(w.heap.size, 81, [.bool false, .bool u1, .string c1, .string f1]), (w.heap.size + 1, 39, [.bool false, .string ⟨#[]⟩, .string ⟨#[]⟩]), (w2.heap.size, 39, [.bool u2, .string c2, .string f2]), (g, 39, [.bool u, .string c, .string f])]) wx)
    case first =>
      have L0 : Vars w [(w.heap.size, 81, [.bool false, .bool u1, .string c1, .string f1]), (w.heap.size + 1, 39, [.bool false, .string ⟨#[]⟩, .string ⟨#[]⟩]), (w2.heap.size, 39, [.bool u2, .string c2, .string f2])] W1.drew := U2.drew.lead
      have M0 : Vars w [(w.heap.size, 81, [.bool false, .bool u1, .string c1, .string f1]), (w.heap.size + 1, 39, [.bool false, .string ⟨#[]⟩, .string ⟨#[]⟩]), (w2.heap.size, 39, [.bool u2, .string c2, .string f2])] (W1.drew.alloc (.cells #[.bool false, .string ⟨#[]⟩, .string ⟨#[]⟩] 39)) := (U2.drew.push 39 [.bool false, .string ⟨#[]⟩, .string ⟨#[]⟩]).lead
      have V9 := U2.drew
      have N9 : Vars w ([(w.heap.size, 81, [.bool false, .bool u1, .string c1, .string f1]), (w.heap.size + 1, 39, [.bool false, .string ⟨#[]⟩, .string ⟨#[]⟩]), (w2.heap.size, 39, [.bool u2, .string c2, .string f2]), (W1.heap.size, 39, [.bool false, .string ⟨#[]⟩, .string ⟨#[]⟩])]) (W1.alloc (.cells #[.bool false, .string ⟨#[]⟩, .string ⟨#[]⟩] 39)).drew := (U2.push 39 [.bool false, .string ⟨#[]⟩, .string ⟨#[]⟩]).drew
      have N0 : Vars w [(w.heap.size, 81, [.bool false, .bool u1, .string c1, .string f1]), (w.heap.size + 1, 39, [.bool false, .string ⟨#[]⟩, .string ⟨#[]⟩]), (w2.heap.size, 39, [.bool u2, .string c2, .string f2])] (W1.alloc (.cells #[.bool false, .string ⟨#[]⟩, .string ⟨#[]⟩] 39)).drew := N9.lead
      go_region_held3 (fun w' => Vars w [(w.heap.size, 81, [.bool false, .bool u1, .string c1, .string f1]), (w.heap.size + 1, 39, [.bool false, .string ⟨#[]⟩, .string ⟨#[]⟩]), (w2.heap.size, 39, [.bool u2, .string c2, .string f2])] w' ∧ w'.cell? ⟨w.heap.size, 0, none⟩ = some (.bool false) ∧ w'.cell? ⟨w.heap.size, 1, none⟩ = some (.bool u1) ∧ w'.cell? ⟨w.heap.size, 2, none⟩ = some (.string c1) ∧ w'.cell? ⟨w.heap.size, 3, none⟩ = some (.string f1) ∧ w'.cell? ⟨w.heap.size + 1, 0, none⟩ = some (.bool false) ∧ w'.cell? ⟨w.heap.size + 1, 1, none⟩ = some (.string ⟨#[]⟩) ∧ w'.cell? ⟨w.heap.size + 1, 2, none⟩ = some (.string ⟨#[]⟩) ∧ w'.cell? ⟨w2.heap.size, 0, none⟩ = some (.bool u2) ∧ w'.cell? ⟨w2.heap.size, 1, none⟩ = some (.string c2) ∧ w'.cell? ⟨w2.heap.size, 2, none⟩ = some (.string f2))
        (first | with_reducible exact P5_ _ LF | with_reducible exact P5_ _ L7 | with_reducible exact P5_ _ M7 | with_reducible exact P5_ _ L6 | with_reducible exact P5_ _ M6 | with_reducible exact P5_ _ L5 | with_reducible exact P5_ _ M5 | with_reducible exact P5_ _ L4 | with_reducible exact P5_ _ M4 | with_reducible exact P5_ _ L3 | with_reducible exact P5_ _ M3 | with_reducible exact P5_ _ L0 | with_reducible exact P5_ _ M0 | with_reducible exact P5_ _ N0)
        (first
          | (go_at_call 99; have _g := hb6; refine (rDiv_any _ _ _ _ _ _ _ (by omega) (by omega) (by omega) (by omega) (by first | exact V6.tab hT | exact (V6.push 39 [.bool false, .string ⟨#[]⟩, .string ⟨#[]⟩]).tab hT)).mono ?_; rintro _ w7 ⟨u7, c7, f7, e7, rfl, hq7, hb7⟩; rw [i4.val] at hq7; rw [i6.val] at hq7; obtain ⟨rfl, i7⟩ := quot_nz hq7 (by rw [← X6.out, ← X3.out, ← X2.out]; exact one_sq _); clear hq7; obtain ⟨x7, hx7⟩ : ∃ x, x4 / x6 = x := ⟨_, rfl⟩; rw [hx7] at i7; (have z7 : qs x7 ≤ 4 * N + 51 := by (rw [← hx7]; have := qs_div x4 x6; omega)); have X7 := Lib.hid hx7; clear hx7; obtain ⟨s7a, s7b⟩ := i7.sz; (first | have V7 := V6.call hb7 | have V7 := (V6.push 39 [.bool false, .string ⟨#[]⟩, .string ⟨#[]⟩]).call hb7); have L7 : Vars w [(w.heap.size, 81, [.bool false, .bool u1, .string c1, .string f1]), (w.heap.size + 1, 39, [.bool false, .string ⟨#[]⟩, .string ⟨#[]⟩]), (w2.heap.size, 39, [.bool u2, .string c2, .string f2])] w7 := V7.lead; have M7 : Vars w [(w.heap.size, 81, [.bool false, .bool u1, .string c1, .string f1]), (w.heap.size + 1, 39, [.bool false, .string ⟨#[]⟩, .string ⟨#[]⟩]), (w2.heap.size, 39, [.bool u2, .string c2, .string f2])] (w7.alloc (.cells #[.bool false, .string ⟨#[]⟩, .string ⟨#[]⟩] 39)) := (L7.push 39 [.bool false, .string ⟨#[]⟩, .string ⟨#[]⟩]).lead; (first | obtain ⟨t0, t1, t2, tf0, tf1, tf2⟩ := row3 (V7.row 3 rfl) | obtain ⟨t0, t1, t2, tf0, tf1, tf2⟩ := row3 ((V7.push 39 [.bool false, .string ⟨#[]⟩, .string ⟨#[]⟩]).row 3 rfl)); (first | have VF := V7.put3 3 rfl (.bool u7) (.string c7) (.string f7) | have VF := V7.push 39 [.bool u7, .string c7, .string f7]); have LF := VF.lead (ls := [(w.heap.size, 81, [.bool false, .bool u1, .string c1, .string f1]), (w.heap.size + 1, 39, [.bool false, .string ⟨#[]⟩, .string ⟨#[]⟩]), (w2.heap.size, 39, [.bool u2, .string c2, .string f2])]))
          | (go_at_call 52; have _g := hb5; refine (rAdd_any _ _ _ _ _ _ _ (by omega) (by omega) (by omega) (by omega) (by first | exact V5.tab hT | exact (V5.push 39 [.bool false, .string ⟨#[]⟩, .string ⟨#[]⟩]).tab hT)).mono ?_; rintro _ w6 ⟨u6, c6, f6, rfl, i6, hb6⟩; rw [i5.val] at i6; rw [i2.val] at i6; obtain ⟨x6, hx6⟩ : ∃ x, x3 + x2 = x := ⟨_, rfl⟩; rw [hx6] at i6; (have z6 : qs x6 ≤ 2 * N + 25 := by (rw [← hx6]; have := qs_add x3 x2; omega)); have X6 := Lib.hid hx6; clear hx6; obtain ⟨s6a, s6b⟩ := i6.sz; (first | have V6 := V5.call hb6 | have V6 := (V5.push 39 [.bool false, .string ⟨#[]⟩, .string ⟨#[]⟩]).call hb6); have L6 : Vars w [(w.heap.size, 81, [.bool false, .bool u1, .string c1, .string f1]), (w.heap.size + 1, 39, [.bool false, .string ⟨#[]⟩, .string ⟨#[]⟩]), (w2.heap.size, 39, [.bool u2, .string c2, .string f2])] w6 := V6.lead; have M6 : Vars w [(w.heap.size, 81, [.bool false, .bool u1, .string c1, .string f1]), (w.heap.size + 1, 39, [.bool false, .string ⟨#[]⟩, .string ⟨#[]⟩]), (w2.heap.size, 39, [.bool u2, .string c2, .string f2])] (w6.alloc (.cells #[.bool false, .string ⟨#[]⟩, .string ⟨#[]⟩] 39)) := (L6.push 39 [.bool false, .string ⟨#[]⟩, .string ⟨#[]⟩]).lead)
          | (go_at_call 102; have _g := hb4; refine (rOf_any 1 _ (by decide) (by decide) (by first | exact V4.tab hT | exact (V4.push 39 [.bool false, .string ⟨#[]⟩, .string ⟨#[]⟩]).tab hT)).mono ?_; rintro _ w5 ⟨u5, c5, f5, rfl, i5, hb5⟩; rw [X3.out] at i5; have z5 := z3; obtain ⟨s5a, s5b⟩ := i5.sz; (first | have V5 := V4.call hb5 | have V5 := (V4.push 39 [.bool false, .string ⟨#[]⟩, .string ⟨#[]⟩]).call hb5); have L5 : Vars w [(w.heap.size, 81, [.bool false, .bool u1, .string c1, .string f1]), (w.heap.size + 1, 39, [.bool false, .string ⟨#[]⟩, .string ⟨#[]⟩]), (w2.heap.size, 39, [.bool u2, .string c2, .string f2])] w5 := V5.lead; have M5 : Vars w [(w.heap.size, 81, [.bool false, .bool u1, .string c1, .string f1]), (w.heap.size + 1, 39, [.bool false, .string ⟨#[]⟩, .string ⟨#[]⟩]), (w2.heap.size, 39, [.bool u2, .string c2, .string f2])] (w5.alloc (.cells #[.bool false, .string ⟨#[]⟩, .string ⟨#[]⟩] 39)) := (L5.push 39 [.bool false, .string ⟨#[]⟩, .string ⟨#[]⟩]).lead)
          | (go_at_call 117; have _g := hb3; refine (rSub_any _ _ _ _ _ _ _ (by omega) (by omega) (by omega) (by omega) (by first | exact V3.tab hT | exact (V3.push 39 [.bool false, .string ⟨#[]⟩, .string ⟨#[]⟩]).tab hT)).mono ?_; rintro _ w4 ⟨u4, c4, f4, rfl, i4, hb4⟩; rw [i3.val] at i4; rw [i2.val] at i4; obtain ⟨x4, hx4⟩ : ∃ x, x3 - x2 = x := ⟨_, rfl⟩; rw [hx4] at i4; (have z4 : qs x4 ≤ 2 * N + 25 := by (rw [← hx4]; have := qs_sub x3 x2; omega)); have X4 := Lib.hid hx4; clear hx4; obtain ⟨s4a, s4b⟩ := i4.sz; (first | have V4 := V3.call hb4 | have V4 := (V3.push 39 [.bool false, .string ⟨#[]⟩, .string ⟨#[]⟩]).call hb4); have L4 : Vars w [(w.heap.size, 81, [.bool false, .bool u1, .string c1, .string f1]), (w.heap.size + 1, 39, [.bool false, .string ⟨#[]⟩, .string ⟨#[]⟩]), (w2.heap.size, 39, [.bool u2, .string c2, .string f2])] w4 := V4.lead; have M4 : Vars w [(w.heap.size, 81, [.bool false, .bool u1, .string c1, .string f1]), (w.heap.size + 1, 39, [.bool false, .string ⟨#[]⟩, .string ⟨#[]⟩]), (w2.heap.size, 39, [.bool u2, .string c2, .string f2])] (w4.alloc (.cells #[.bool false, .string ⟨#[]⟩, .string ⟨#[]⟩] 39)) := (L4.push 39 [.bool false, .string ⟨#[]⟩, .string ⟨#[]⟩]).lead)
          | (go_at_call 102; refine (rOf_any 1 _ (by decide) (by decide) (by first | exact V9.tab hT | exact N9.tab hT)).mono ?_; rintro _ w3 ⟨u3, c3, f3, rfl, i3, hb3⟩; obtain ⟨x3, hx3⟩ : ∃ x, ((1 : Int) : Rat) = x := ⟨_, rfl⟩; rw [hx3] at i3; (have z3 : qs x3 ≤ 8 := by (rw [← hx3]; have := qs_i64 (n := 1) (by decide) (by decide); omega)); have X3 := Lib.hid hx3; clear hx3; obtain ⟨s3a, s3b⟩ := i3.sz; (first | have V3 := V9.call hb3 | have V3 := N9.call hb3); have L3 : Vars w [(w.heap.size, 81, [.bool false, .bool u1, .string c1, .string f1]), (w.heap.size + 1, 39, [.bool false, .string ⟨#[]⟩, .string ⟨#[]⟩]), (w2.heap.size, 39, [.bool u2, .string c2, .string f2])] w3 := V3.lead; have M3 : Vars w [(w.heap.size, 81, [.bool false, .bool u1, .string c1, .string f1]), (w.heap.size + 1, 39, [.bool false, .string ⟨#[]⟩, .string ⟨#[]⟩]), (w2.heap.size, 39, [.bool u2, .string c2, .string f2])] (w3.alloc (.cells #[.bool false, .string ⟨#[]⟩, .string ⟨#[]⟩] 39)) := (L3.push 39 [.bool false, .string ⟨#[]⟩, .string ⟨#[]⟩]).lead))
      all_goals
        go_wp2_with fail
        go_meet
        exact ⟨_, _, _, _, rfl, by simp only [X2.out, X3.out, X4.out, X6.out, X7.out]; exact i7, by simp only [X2.out, X3.out, X4.out, X6.out, X7.out]; omega, VF⟩
    case rest =>
      obtain ⟨g, u, c, f, rfl, iL, zL, VL⟩ := hcut
      obtain ⟨r0_0, r0_1, r0_2, r0_3, f0_0, f0_1, f0_2, f0_3⟩ := row4 (VL.row 0 rfl)
      obtain ⟨r1_0, r1_1, r1_2, f1_0, f1_1, f1_2⟩ := row3 (VL.row 1 rfl)
      obtain ⟨r2_0, r2_1, r2_2, f2_0, f2_1, f2_2⟩ := row3 (VL.row 2 rfl)
      obtain ⟨r3_0, r3_1, r3_2, f3_0, f3_1, f3_2⟩ := row3 (VL.row 3 rfl)
      have U3 : Vars w [(w.heap.size, 81, [.bool false, .bool u1, .string c1, .string f1]), (w.heap.size + 1, 39, [.bool u, .string c, .string f]), (w2.heap.size, 39, [.bool u2, .string c2, .string f2]), (g, 39, [.bool u, .string c, .string f])] _ := VL.put3 1 rfl (.bool u) (.string c) (.string f)
      go_wp2_with fail
      refine bodyPost_ret (results_rat rfl _ rfl (U3.row 1 rfl)) rfl ?_
      exact ⟨_, _, _, rfl, iL, zL, U3.1⟩

end Go.Proofs.YtajkihgioikipaaDoor.turnA
