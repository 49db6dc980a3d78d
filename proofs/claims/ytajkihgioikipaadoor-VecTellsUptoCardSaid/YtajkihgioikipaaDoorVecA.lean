/- Walks: gantref1.I, plain, V, Dot, Cross; vec.Add, Sub, Scale, Dot, Cross. Printed by wip/gen_vec.py. -/
import Derived.Test.YtajkihgioikipaaDoorRatE
namespace Go.Proofs.YtajkihgioikipaaDoor.vecA
open Go.RowKit num mem seg q ratA held ratB ratC ratD ratE vars

/-- a function's end: it gives the number q, of at most B bytes -/
def Num (q : Rat) (B : Nat) (w : World) (e : Ending) (w' : World) : Prop := ∃ u c f, e = .returned (.agg #[.bool u, .string c, .string f]) ∧ Is q u c f ∧ qs q ≤ B ∧ Below w.heap.size w w'
/-- .. the vector of p and q -/
def Vec2 (p q : Rat) (B : Nat) (w : World) (e : Ending) (w' : World) : Prop := ∃ u c f u' c' f', e = .returned (.agg #[.bool u, .string c, .string f, .bool u', .string c', .string f']) ∧ Is p u c f ∧ Is q u' c' f' ∧ qs p ≤ B ∧ qs q ≤ B ∧ Below w.heap.size w w'
theorem quot_nz {p q : Rat} {u : Bool} {c f : ByteArray} {k : Int} (h : q = 0 ∧ u = false ∧ c = ⟨#[]⟩ ∧ f = ⟨#[]⟩ ∧ k = 12 ∨ q ≠ 0 ∧ k = 0 ∧ Is (p / q) u c f) (hq : q ≠ 0) : k = 0 ∧ Is (p / q) u c f := by
  rcases h with h | h
  · exact absurd h.1 hq
  · exact h.2
theorem results_vec {fn : Func} {t : Tmp} (h : fn.results = #[.cell t 41]) (tmps : Array Value) {w : World} {b : Nat} {x y z x' y' z' : Value} (hp : tmps.getD t undef = .pointer (some ⟨b, 0, none⟩)) (hr : Row w b 41 [x, y, z, x', y', z']) :
    (results fn tmps).run Tryd.prog w = .ok (.agg #[x, y, z, x', y', z']) w := by
  obtain ⟨r0, r1, r2, r3, r4, r5, _⟩ := row6 hr
  have hp' : tmps[t]?.getD undef = .pointer (some ⟨b, 0, none⟩) := by simpa using hp
  simp [results, h, hp', go_sem, r0, r1, r2, r3, r4, r5]
theorem I_any (n : Int) (w : World) (h1 : -9223372036854775808 ≤ n) (h2 : n ≤ 9223372036854775807) (hT : Tab w) :
    Calls Tryd.prog 51 #[.int .i64 n] w fun x w' => Gives (n : Rat) w x w' := by
  have V0 := vars1 w 39 [.bool false, .string ⟨#[]⟩, .string ⟨#[]⟩]
  go_enter Tryd.func51, Tryd.ntmps51
  go_wp2_with fail
  refine (rOf_any n _ h1 h2 (V0.tab hT)).mono ?_
  rintro _ w1 ⟨u1, c1, f1, rfl, i1, hb1⟩
  have V1 := V0.call hb1
  obtain ⟨r0, r1, r2, rf0, rf1, rf2⟩ := row3 (V1.row 0 rfl)
  go_wp2_with fail
  have VF := V1.put3 0 rfl (.bool u1) (.string c1) (.string f1)
  refine bodyPost_ret (results_rat rfl _ rfl (VF.row 0 rfl)) rfl ?_
  exact ⟨_, _, _, rfl, i1, VF.1⟩

set_option maxHeartbeats 4000000 in
set_option maxRecDepth 100000 in
theorem plain_any (s00 : Bool) (a00 d00 : ByteArray) (N : Nat) (w : World) (hN1 : 1 ≤ N) (hN : N ≤ 1073741824) (ha00 : a00.size ≤ N) (hd00 : d00.size ≤ N) (hT : Tab w) :
    Calls Tryd.prog 131 #[.agg #[.bool s00, .string a00, .string d00]] w fun x w' => Num (qv s00 a00 d00 + ((0 : Int) : Rat)) (N + 9) w x w' := by
  have V0 := vars2 w 39 39 [.bool s00, .string a00, .string d00] [.bool false, .string ⟨#[]⟩, .string ⟨#[]⟩]
  have zp00 : qs (qv s00 a00 d00) ≤ N := Nat.le_trans (qs_qv s00 a00 d00) (by omega)
  obtain ⟨p00, hp00⟩ : ∃ p, qv s00 a00 d00 = p := ⟨_, rfl⟩
  rw [hp00] at zp00 ⊢
  have P00 := Lib.hid hp00
  clear hp00
  go_enter Tryd.func131, Tryd.ntmps131
  go_upto_region 1 with fail
  obtain ⟨W, hW⟩ : ∃ W, W = ((w.alloc (.cells #[.bool s00, .string a00, .string d00] 39)).alloc (.cells #[.bool false, .string ⟨#[]⟩, .string ⟨#[]⟩] 39)) := ⟨_, rfl⟩
  rw [← hW] at V0 ⊢
  clear hW
  have P0 : ∀ w', Vars w [(w.heap.size, 39, [.bool s00, .string a00, .string d00])] w' → Vars w [(w.heap.size, 39, [.bool s00, .string a00, .string d00])] w' ∧ w'.cell? ⟨w.heap.size, 0, none⟩ = some (.bool s00) ∧ w'.cell? ⟨w.heap.size, 1, none⟩ = some (.string a00) ∧ w'.cell? ⟨w.heap.size, 2, none⟩ = some (.string d00) := fun w' h => by
    obtain ⟨c0_0, c0_1, c0_2, _⟩ := row3 (h.row 0 rfl)
    exact ⟨h, c0_0, c0_1, c0_2⟩
  have L0 : Vars w [(w.heap.size, 39, [.bool s00, .string a00, .string d00])] W.drew := V0.drew.lead
  go_region_held3 (fun w' => Vars w [(w.heap.size, 39, [.bool s00, .string a00, .string d00])] w' ∧ w'.cell? ⟨w.heap.size, 0, none⟩ = some (.bool s00) ∧ w'.cell? ⟨w.heap.size, 1, none⟩ = some (.string a00) ∧ w'.cell? ⟨w.heap.size, 2, none⟩ = some (.string d00))
    (first | with_reducible exact P0 _ LF | with_reducible exact P0 _ L2 | with_reducible exact P0 _ L1 | with_reducible exact P0 _ L0)
    (first
      | (go_at_call 52; have _g := hb1; refine (rAdd_any _ _ _ _ _ _ _ (by omega) (by omega) (by omega) (by omega) (V1.tab hT)).mono ?_; rintro _ w2 ⟨u2, c2, f2, rfl, i2, hb2⟩; rw [P00.out] at i2; rw [i1.val] at i2; obtain ⟨x2, hx2⟩ : ∃ x, p00 + x1 = x := ⟨_, rfl⟩; rw [hx2] at i2; (have z2 : qs x2 ≤ N + 9 := by (rw [← hx2]; have := qs_add p00 x1; omega)); have X2 := Lib.hid hx2; clear hx2; obtain ⟨s2a, s2b⟩ := i2.sz; have V2 := V1.call hb2; have L2 : Vars w [(w.heap.size, 39, [.bool s00, .string a00, .string d00])] w2 := V2.lead; obtain ⟨r0, r1, r2, rf0, rf1, rf2⟩ := row3 (V2.row 1 rfl); have VF := V2.put3 1 rfl (.bool u2) (.string c2) (.string f2); have LF : Vars w [(w.heap.size, 39, [.bool s00, .string a00, .string d00])] (((w2.setCell ⟨w.heap.size + 1, 0, none⟩ (.bool u2)).setCell ⟨w.heap.size + 1, 1, none⟩ (.string c2)).setCell ⟨w.heap.size + 1, 2, none⟩ (.string f2)) := VF.lead)
      | (go_at_call 51; refine (I_any 0 _ (by decide) (by decide) (V0.drew.tab hT)).mono ?_; rintro _ w1 ⟨u1, c1, f1, rfl, i1, hb1⟩; obtain ⟨x1, hx1⟩ : ∃ x, ((0 : Int) : Rat) = x := ⟨_, rfl⟩; rw [hx1] at i1; (have z1 : qs x1 ≤ 0 * N + 8 := by (rw [← hx1]; have := qs_i64 (n := 0) (by decide) (by decide); omega)); have X1 := Lib.hid hx1; clear hx1; obtain ⟨s1a, s1b⟩ := i1.sz; have V1 := V0.drew.call hb1; have L1 : Vars w [(w.heap.size, 39, [.bool s00, .string a00, .string d00])] w1 := V1.lead))
  go_wp2_with fail
  refine bodyPost_ret (results_rat rfl _ rfl (VF.row 1 rfl)) rfl ?_
  exact ⟨_, _, _, rfl, by (simp only [X1.out, X2.out]; exact i2), by (simp only [X1.out, X2.out]; omega), VF.1⟩

set_option maxHeartbeats 4000000 in
set_option maxRecDepth 100000 in
theorem vDot_any (s00 : Bool) (a00 d00 : ByteArray) (s01 : Bool) (a01 d01 : ByteArray) (s10 : Bool) (a10 d10 : ByteArray) (s11 : Bool) (a11 d11 : ByteArray) (N : Nat) (w : World) (hN1 : 1 ≤ N) (hN : N ≤ 1073741824) (ha00 : a00.size ≤ N) (hd00 : d00.size ≤ N) (ha01 : a01.size ≤ N) (hd01 : d01.size ≤ N) (ha10 : a10.size ≤ N) (hd10 : d10.size ≤ N) (ha11 : a11.size ≤ N) (hd11 : d11.size ≤ N) (hT : Tab w) :
    Calls Tryd.prog 50 #[.agg #[.bool s00, .string a00, .string d00, .bool s01, .string a01, .string d01], .agg #[.bool s10, .string a10, .string d10, .bool s11, .string a11, .string d11]] w fun x w' => Num (qv s00 a00 d00 * qv s10 a10 d10 + qv s01 a01 d01 * qv s11 a11 d11) (4 * N + 1) w x w' := by
  have V0 := vars3 w 41 41 39 [.bool s00, .string a00, .string d00, .bool s01, .string a01, .string d01] [.bool s10, .string a10, .string d10, .bool s11, .string a11, .string d11] [.bool false, .string ⟨#[]⟩, .string ⟨#[]⟩]
  have zp00 : qs (qv s00 a00 d00) ≤ N := Nat.le_trans (qs_qv s00 a00 d00) (by omega)
  obtain ⟨p00, hp00⟩ : ∃ p, qv s00 a00 d00 = p := ⟨_, rfl⟩
  rw [hp00] at zp00 ⊢
  have P00 := Lib.hid hp00
  clear hp00
  have zp01 : qs (qv s01 a01 d01) ≤ N := Nat.le_trans (qs_qv s01 a01 d01) (by omega)
  obtain ⟨p01, hp01⟩ : ∃ p, qv s01 a01 d01 = p := ⟨_, rfl⟩
  rw [hp01] at zp01 ⊢
  have P01 := Lib.hid hp01
  clear hp01
  have zp10 : qs (qv s10 a10 d10) ≤ N := Nat.le_trans (qs_qv s10 a10 d10) (by omega)
  obtain ⟨p10, hp10⟩ : ∃ p, qv s10 a10 d10 = p := ⟨_, rfl⟩
  rw [hp10] at zp10 ⊢
  have P10 := Lib.hid hp10
  clear hp10
  have zp11 : qs (qv s11 a11 d11) ≤ N := Nat.le_trans (qs_qv s11 a11 d11) (by omega)
  obtain ⟨p11, hp11⟩ : ∃ p, qv s11 a11 d11 = p := ⟨_, rfl⟩
  rw [hp11] at zp11 ⊢
  have P11 := Lib.hid hp11
  clear hp11
  go_enter Tryd.func50, Tryd.ntmps50
  go_upto_region 1 with fail
  obtain ⟨W, hW⟩ : ∃ W, W = (((w.alloc (.cells #[.bool s00, .string a00, .string d00, .bool s01, .string a01, .string d01] 41)).alloc (.cells #[.bool s10, .string a10, .string d10, .bool s11, .string a11, .string d11] 41)).alloc (.cells #[.bool false, .string ⟨#[]⟩, .string ⟨#[]⟩] 39)) := ⟨_, rfl⟩
  rw [← hW] at V0 ⊢
  clear hW
  have P0 : ∀ w', Vars w [(w.heap.size, 41, [.bool s00, .string a00, .string d00, .bool s01, .string a01, .string d01]), (w.heap.size + 1, 41, [.bool s10, .string a10, .string d10, .bool s11, .string a11, .string d11])] w' → Vars w [(w.heap.size, 41, [.bool s00, .string a00, .string d00, .bool s01, .string a01, .string d01]), (w.heap.size + 1, 41, [.bool s10, .string a10, .string d10, .bool s11, .string a11, .string d11])] w' ∧ w'.cell? ⟨w.heap.size, 0, none⟩ = some (.bool s00) ∧ w'.cell? ⟨w.heap.size, 1, none⟩ = some (.string a00) ∧ w'.cell? ⟨w.heap.size, 2, none⟩ = some (.string d00) ∧ w'.cell? ⟨w.heap.size, 3, none⟩ = some (.bool s01) ∧ w'.cell? ⟨w.heap.size, 4, none⟩ = some (.string a01) ∧ w'.cell? ⟨w.heap.size, 5, none⟩ = some (.string d01) ∧ w'.cell? ⟨w.heap.size + 1, 0, none⟩ = some (.bool s10) ∧ w'.cell? ⟨w.heap.size + 1, 1, none⟩ = some (.string a10) ∧ w'.cell? ⟨w.heap.size + 1, 2, none⟩ = some (.string d10) ∧ w'.cell? ⟨w.heap.size + 1, 3, none⟩ = some (.bool s11) ∧ w'.cell? ⟨w.heap.size + 1, 4, none⟩ = some (.string a11) ∧ w'.cell? ⟨w.heap.size + 1, 5, none⟩ = some (.string d11) := fun w' h => by
    obtain ⟨c0_0, c0_1, c0_2, c0_3, c0_4, c0_5, _⟩ := row6 (h.row 0 rfl)
    obtain ⟨c1_0, c1_1, c1_2, c1_3, c1_4, c1_5, _⟩ := row6 (h.row 1 rfl)
    exact ⟨h, c0_0, c0_1, c0_2, c0_3, c0_4, c0_5, c1_0, c1_1, c1_2, c1_3, c1_4, c1_5⟩
  have L0 : Vars w [(w.heap.size, 41, [.bool s00, .string a00, .string d00, .bool s01, .string a01, .string d01]), (w.heap.size + 1, 41, [.bool s10, .string a10, .string d10, .bool s11, .string a11, .string d11])] W.drew := V0.drew.lead
  go_region_held3 (fun w' => Vars w [(w.heap.size, 41, [.bool s00, .string a00, .string d00, .bool s01, .string a01, .string d01]), (w.heap.size + 1, 41, [.bool s10, .string a10, .string d10, .bool s11, .string a11, .string d11])] w' ∧ w'.cell? ⟨w.heap.size, 0, none⟩ = some (.bool s00) ∧ w'.cell? ⟨w.heap.size, 1, none⟩ = some (.string a00) ∧ w'.cell? ⟨w.heap.size, 2, none⟩ = some (.string d00) ∧ w'.cell? ⟨w.heap.size, 3, none⟩ = some (.bool s01) ∧ w'.cell? ⟨w.heap.size, 4, none⟩ = some (.string a01) ∧ w'.cell? ⟨w.heap.size, 5, none⟩ = some (.string d01) ∧ w'.cell? ⟨w.heap.size + 1, 0, none⟩ = some (.bool s10) ∧ w'.cell? ⟨w.heap.size + 1, 1, none⟩ = some (.string a10) ∧ w'.cell? ⟨w.heap.size + 1, 2, none⟩ = some (.string d10) ∧ w'.cell? ⟨w.heap.size + 1, 3, none⟩ = some (.bool s11) ∧ w'.cell? ⟨w.heap.size + 1, 4, none⟩ = some (.string a11) ∧ w'.cell? ⟨w.heap.size + 1, 5, none⟩ = some (.string d11))
    (first | with_reducible exact P0 _ LF | with_reducible exact P0 _ L3 | with_reducible exact P0 _ L2 | with_reducible exact P0 _ L1 | with_reducible exact P0 _ L0)
    (first
      | (go_at_call 52; have _g := hb2; refine (rAdd_any _ _ _ _ _ _ _ (by omega) (by omega) (by omega) (by omega) (V2.tab hT)).mono ?_; rintro _ w3 ⟨u3, c3, f3, rfl, i3, hb3⟩; rw [i1.val] at i3; rw [i2.val] at i3; obtain ⟨x3, hx3⟩ : ∃ x, x1 + x2 = x := ⟨_, rfl⟩; rw [hx3] at i3; (have z3 : qs x3 ≤ 4 * N + 1 := by (rw [← hx3]; have := qs_add x1 x2; omega)); have X3 := Lib.hid hx3; clear hx3; obtain ⟨s3a, s3b⟩ := i3.sz; have V3 := V2.call hb3; have L3 : Vars w [(w.heap.size, 41, [.bool s00, .string a00, .string d00, .bool s01, .string a01, .string d01]), (w.heap.size + 1, 41, [.bool s10, .string a10, .string d10, .bool s11, .string a11, .string d11])] w3 := V3.lead; obtain ⟨r0, r1, r2, rf0, rf1, rf2⟩ := row3 (V3.row 2 rfl); have VF := V3.put3 2 rfl (.bool u3) (.string c3) (.string f3); have LF : Vars w [(w.heap.size, 41, [.bool s00, .string a00, .string d00, .bool s01, .string a01, .string d01]), (w.heap.size + 1, 41, [.bool s10, .string a10, .string d10, .bool s11, .string a11, .string d11])] (((w3.setCell ⟨w.heap.size + 1 + 1, 0, none⟩ (.bool u3)).setCell ⟨w.heap.size + 1 + 1, 1, none⟩ (.string c3)).setCell ⟨w.heap.size + 1 + 1, 2, none⟩ (.string f3)) := VF.lead)
      | (go_at_call 53; have _g := hb1; refine (rMul_any _ _ _ _ _ _ _ (by omega) (by omega) (by omega) (by omega) (V1.tab hT)).mono ?_; rintro _ w2 ⟨u2, c2, f2, rfl, i2, hb2⟩; rw [P01.out] at i2; rw [P11.out] at i2; obtain ⟨x2, hx2⟩ : ∃ x, p01 * p11 = x := ⟨_, rfl⟩; rw [hx2] at i2; (have z2 : qs x2 ≤ 2 * N + 0 := by (rw [← hx2]; have := qs_mul p01 p11; omega)); have X2 := Lib.hid hx2; clear hx2; obtain ⟨s2a, s2b⟩ := i2.sz; have V2 := V1.call hb2; have L2 : Vars w [(w.heap.size, 41, [.bool s00, .string a00, .string d00, .bool s01, .string a01, .string d01]), (w.heap.size + 1, 41, [.bool s10, .string a10, .string d10, .bool s11, .string a11, .string d11])] w2 := V2.lead)
      | (go_at_call 53; refine (rMul_any _ _ _ _ _ _ _ (by omega) (by omega) (by omega) (by omega) (V0.drew.tab hT)).mono ?_; rintro _ w1 ⟨u1, c1, f1, rfl, i1, hb1⟩; rw [P00.out] at i1; rw [P10.out] at i1; obtain ⟨x1, hx1⟩ : ∃ x, p00 * p10 = x := ⟨_, rfl⟩; rw [hx1] at i1; (have z1 : qs x1 ≤ 2 * N + 0 := by (rw [← hx1]; have := qs_mul p00 p10; omega)); have X1 := Lib.hid hx1; clear hx1; obtain ⟨s1a, s1b⟩ := i1.sz; have V1 := V0.drew.call hb1; have L1 : Vars w [(w.heap.size, 41, [.bool s00, .string a00, .string d00, .bool s01, .string a01, .string d01]), (w.heap.size + 1, 41, [.bool s10, .string a10, .string d10, .bool s11, .string a11, .string d11])] w1 := V1.lead))
  go_wp2_with fail
  refine bodyPost_ret (results_rat rfl _ rfl (VF.row 2 rfl)) rfl ?_
  exact ⟨_, _, _, rfl, by (simp only [X1.out, X2.out, X3.out]; exact i3), by (simp only [X1.out, X2.out, X3.out]; omega), VF.1⟩

set_option maxHeartbeats 4000000 in
set_option maxRecDepth 100000 in
theorem RDot_any (s00 : Bool) (a00 d00 : ByteArray) (s01 : Bool) (a01 d01 : ByteArray) (s10 : Bool) (a10 d10 : ByteArray) (s11 : Bool) (a11 d11 : ByteArray) (N : Nat) (w : World) (hN1 : 1 ≤ N) (hN : N ≤ 1073741824) (ha00 : a00.size ≤ N) (hd00 : d00.size ≤ N) (ha01 : a01.size ≤ N) (hd01 : d01.size ≤ N) (ha10 : a10.size ≤ N) (hd10 : d10.size ≤ N) (ha11 : a11.size ≤ N) (hd11 : d11.size ≤ N) (hT : Tab w) :
    Calls Tryd.prog 59 #[.agg #[.bool s00, .string a00, .string d00, .bool s01, .string a01, .string d01], .agg #[.bool s10, .string a10, .string d10, .bool s11, .string a11, .string d11]] w fun x w' => Num (qv s00 a00 d00 * qv s10 a10 d10 + qv s01 a01 d01 * qv s11 a11 d11) (4 * N + 1) w x w' := by
  have V0 := vars3 w 41 41 39 [.bool s00, .string a00, .string d00, .bool s01, .string a01, .string d01] [.bool s10, .string a10, .string d10, .bool s11, .string a11, .string d11] [.bool false, .string ⟨#[]⟩, .string ⟨#[]⟩]
  have zp00 : qs (qv s00 a00 d00) ≤ N := Nat.le_trans (qs_qv s00 a00 d00) (by omega)
  obtain ⟨p00, hp00⟩ : ∃ p, qv s00 a00 d00 = p := ⟨_, rfl⟩
  rw [hp00] at zp00 ⊢
  have P00 := Lib.hid hp00
  clear hp00
  have zp01 : qs (qv s01 a01 d01) ≤ N := Nat.le_trans (qs_qv s01 a01 d01) (by omega)
  obtain ⟨p01, hp01⟩ : ∃ p, qv s01 a01 d01 = p := ⟨_, rfl⟩
  rw [hp01] at zp01 ⊢
  have P01 := Lib.hid hp01
  clear hp01
  have zp10 : qs (qv s10 a10 d10) ≤ N := Nat.le_trans (qs_qv s10 a10 d10) (by omega)
  obtain ⟨p10, hp10⟩ : ∃ p, qv s10 a10 d10 = p := ⟨_, rfl⟩
  rw [hp10] at zp10 ⊢
  have P10 := Lib.hid hp10
  clear hp10
  have zp11 : qs (qv s11 a11 d11) ≤ N := Nat.le_trans (qs_qv s11 a11 d11) (by omega)
  obtain ⟨p11, hp11⟩ : ∃ p, qv s11 a11 d11 = p := ⟨_, rfl⟩
  rw [hp11] at zp11 ⊢
  have P11 := Lib.hid hp11
  clear hp11
  go_enter Tryd.func59, Tryd.ntmps59
  go_upto_region 1 with fail
  obtain ⟨W, hW⟩ : ∃ W, W = (((w.alloc (.cells #[.bool s00, .string a00, .string d00, .bool s01, .string a01, .string d01] 41)).alloc (.cells #[.bool s10, .string a10, .string d10, .bool s11, .string a11, .string d11] 41)).alloc (.cells #[.bool false, .string ⟨#[]⟩, .string ⟨#[]⟩] 39)) := ⟨_, rfl⟩
  rw [← hW] at V0 ⊢
  clear hW
  have P0 : ∀ w', Vars w [(w.heap.size, 41, [.bool s00, .string a00, .string d00, .bool s01, .string a01, .string d01]), (w.heap.size + 1, 41, [.bool s10, .string a10, .string d10, .bool s11, .string a11, .string d11])] w' → Vars w [(w.heap.size, 41, [.bool s00, .string a00, .string d00, .bool s01, .string a01, .string d01]), (w.heap.size + 1, 41, [.bool s10, .string a10, .string d10, .bool s11, .string a11, .string d11])] w' ∧ w'.cell? ⟨w.heap.size, 0, none⟩ = some (.bool s00) ∧ w'.cell? ⟨w.heap.size, 1, none⟩ = some (.string a00) ∧ w'.cell? ⟨w.heap.size, 2, none⟩ = some (.string d00) ∧ w'.cell? ⟨w.heap.size, 3, none⟩ = some (.bool s01) ∧ w'.cell? ⟨w.heap.size, 4, none⟩ = some (.string a01) ∧ w'.cell? ⟨w.heap.size, 5, none⟩ = some (.string d01) ∧ w'.cell? ⟨w.heap.size + 1, 0, none⟩ = some (.bool s10) ∧ w'.cell? ⟨w.heap.size + 1, 1, none⟩ = some (.string a10) ∧ w'.cell? ⟨w.heap.size + 1, 2, none⟩ = some (.string d10) ∧ w'.cell? ⟨w.heap.size + 1, 3, none⟩ = some (.bool s11) ∧ w'.cell? ⟨w.heap.size + 1, 4, none⟩ = some (.string a11) ∧ w'.cell? ⟨w.heap.size + 1, 5, none⟩ = some (.string d11) := fun w' h => by
    obtain ⟨c0_0, c0_1, c0_2, c0_3, c0_4, c0_5, _⟩ := row6 (h.row 0 rfl)
    obtain ⟨c1_0, c1_1, c1_2, c1_3, c1_4, c1_5, _⟩ := row6 (h.row 1 rfl)
    exact ⟨h, c0_0, c0_1, c0_2, c0_3, c0_4, c0_5, c1_0, c1_1, c1_2, c1_3, c1_4, c1_5⟩
  have L0 : Vars w [(w.heap.size, 41, [.bool s00, .string a00, .string d00, .bool s01, .string a01, .string d01]), (w.heap.size + 1, 41, [.bool s10, .string a10, .string d10, .bool s11, .string a11, .string d11])] W.drew := V0.drew.lead
  go_region_held3 (fun w' => Vars w [(w.heap.size, 41, [.bool s00, .string a00, .string d00, .bool s01, .string a01, .string d01]), (w.heap.size + 1, 41, [.bool s10, .string a10, .string d10, .bool s11, .string a11, .string d11])] w' ∧ w'.cell? ⟨w.heap.size, 0, none⟩ = some (.bool s00) ∧ w'.cell? ⟨w.heap.size, 1, none⟩ = some (.string a00) ∧ w'.cell? ⟨w.heap.size, 2, none⟩ = some (.string d00) ∧ w'.cell? ⟨w.heap.size, 3, none⟩ = some (.bool s01) ∧ w'.cell? ⟨w.heap.size, 4, none⟩ = some (.string a01) ∧ w'.cell? ⟨w.heap.size, 5, none⟩ = some (.string d01) ∧ w'.cell? ⟨w.heap.size + 1, 0, none⟩ = some (.bool s10) ∧ w'.cell? ⟨w.heap.size + 1, 1, none⟩ = some (.string a10) ∧ w'.cell? ⟨w.heap.size + 1, 2, none⟩ = some (.string d10) ∧ w'.cell? ⟨w.heap.size + 1, 3, none⟩ = some (.bool s11) ∧ w'.cell? ⟨w.heap.size + 1, 4, none⟩ = some (.string a11) ∧ w'.cell? ⟨w.heap.size + 1, 5, none⟩ = some (.string d11))
    (first | with_reducible exact P0 _ LF | with_reducible exact P0 _ L3 | with_reducible exact P0 _ L2 | with_reducible exact P0 _ L1 | with_reducible exact P0 _ L0)
    (first
      | (go_at_call 52; have _g := hb2; refine (rAdd_any _ _ _ _ _ _ _ (by omega) (by omega) (by omega) (by omega) (V2.tab hT)).mono ?_; rintro _ w3 ⟨u3, c3, f3, rfl, i3, hb3⟩; rw [i1.val] at i3; rw [i2.val] at i3; obtain ⟨x3, hx3⟩ : ∃ x, x1 + x2 = x := ⟨_, rfl⟩; rw [hx3] at i3; (have z3 : qs x3 ≤ 4 * N + 1 := by (rw [← hx3]; have := qs_add x1 x2; omega)); have X3 := Lib.hid hx3; clear hx3; obtain ⟨s3a, s3b⟩ := i3.sz; have V3 := V2.call hb3; have L3 : Vars w [(w.heap.size, 41, [.bool s00, .string a00, .string d00, .bool s01, .string a01, .string d01]), (w.heap.size + 1, 41, [.bool s10, .string a10, .string d10, .bool s11, .string a11, .string d11])] w3 := V3.lead; obtain ⟨r0, r1, r2, rf0, rf1, rf2⟩ := row3 (V3.row 2 rfl); have VF := V3.put3 2 rfl (.bool u3) (.string c3) (.string f3); have LF : Vars w [(w.heap.size, 41, [.bool s00, .string a00, .string d00, .bool s01, .string a01, .string d01]), (w.heap.size + 1, 41, [.bool s10, .string a10, .string d10, .bool s11, .string a11, .string d11])] (((w3.setCell ⟨w.heap.size + 1 + 1, 0, none⟩ (.bool u3)).setCell ⟨w.heap.size + 1 + 1, 1, none⟩ (.string c3)).setCell ⟨w.heap.size + 1 + 1, 2, none⟩ (.string f3)) := VF.lead)
      | (go_at_call 53; have _g := hb1; refine (rMul_any _ _ _ _ _ _ _ (by omega) (by omega) (by omega) (by omega) (V1.tab hT)).mono ?_; rintro _ w2 ⟨u2, c2, f2, rfl, i2, hb2⟩; rw [P01.out] at i2; rw [P11.out] at i2; obtain ⟨x2, hx2⟩ : ∃ x, p01 * p11 = x := ⟨_, rfl⟩; rw [hx2] at i2; (have z2 : qs x2 ≤ 2 * N + 0 := by (rw [← hx2]; have := qs_mul p01 p11; omega)); have X2 := Lib.hid hx2; clear hx2; obtain ⟨s2a, s2b⟩ := i2.sz; have V2 := V1.call hb2; have L2 : Vars w [(w.heap.size, 41, [.bool s00, .string a00, .string d00, .bool s01, .string a01, .string d01]), (w.heap.size + 1, 41, [.bool s10, .string a10, .string d10, .bool s11, .string a11, .string d11])] w2 := V2.lead)
      | (go_at_call 53; refine (rMul_any _ _ _ _ _ _ _ (by omega) (by omega) (by omega) (by omega) (V0.drew.tab hT)).mono ?_; rintro _ w1 ⟨u1, c1, f1, rfl, i1, hb1⟩; rw [P00.out] at i1; rw [P10.out] at i1; obtain ⟨x1, hx1⟩ : ∃ x, p00 * p10 = x := ⟨_, rfl⟩; rw [hx1] at i1; (have z1 : qs x1 ≤ 2 * N + 0 := by (rw [← hx1]; have := qs_mul p00 p10; omega)); have X1 := Lib.hid hx1; clear hx1; obtain ⟨s1a, s1b⟩ := i1.sz; have V1 := V0.drew.call hb1; have L1 : Vars w [(w.heap.size, 41, [.bool s00, .string a00, .string d00, .bool s01, .string a01, .string d01]), (w.heap.size + 1, 41, [.bool s10, .string a10, .string d10, .bool s11, .string a11, .string d11])] w1 := V1.lead))
  go_wp2_with fail
  refine bodyPost_ret (results_rat rfl _ rfl (VF.row 2 rfl)) rfl ?_
  exact ⟨_, _, _, rfl, by (simp only [X1.out, X2.out, X3.out]; exact i3), by (simp only [X1.out, X2.out, X3.out]; omega), VF.1⟩

set_option maxHeartbeats 4000000 in
set_option maxRecDepth 100000 in
theorem vCross_any (s00 : Bool) (a00 d00 : ByteArray) (s01 : Bool) (a01 d01 : ByteArray) (s10 : Bool) (a10 d10 : ByteArray) (s11 : Bool) (a11 d11 : ByteArray) (N : Nat) (w : World) (hN1 : 1 ≤ N) (hN : N ≤ 1073741824) (ha00 : a00.size ≤ N) (hd00 : d00.size ≤ N) (ha01 : a01.size ≤ N) (hd01 : d01.size ≤ N) (ha10 : a10.size ≤ N) (hd10 : d10.size ≤ N) (ha11 : a11.size ≤ N) (hd11 : d11.size ≤ N) (hT : Tab w) :
    Calls Tryd.prog 60 #[.agg #[.bool s00, .string a00, .string d00, .bool s01, .string a01, .string d01], .agg #[.bool s10, .string a10, .string d10, .bool s11, .string a11, .string d11]] w fun x w' => Num (qv s00 a00 d00 * qv s11 a11 d11 - qv s01 a01 d01 * qv s10 a10 d10) (4 * N + 1) w x w' := by
  have V0 := vars3 w 41 41 39 [.bool s00, .string a00, .string d00, .bool s01, .string a01, .string d01] [.bool s10, .string a10, .string d10, .bool s11, .string a11, .string d11] [.bool false, .string ⟨#[]⟩, .string ⟨#[]⟩]
  have zp00 : qs (qv s00 a00 d00) ≤ N := Nat.le_trans (qs_qv s00 a00 d00) (by omega)
  obtain ⟨p00, hp00⟩ : ∃ p, qv s00 a00 d00 = p := ⟨_, rfl⟩
  rw [hp00] at zp00 ⊢
  have P00 := Lib.hid hp00
  clear hp00
  have zp01 : qs (qv s01 a01 d01) ≤ N := Nat.le_trans (qs_qv s01 a01 d01) (by omega)
  obtain ⟨p01, hp01⟩ : ∃ p, qv s01 a01 d01 = p := ⟨_, rfl⟩
  rw [hp01] at zp01 ⊢
  have P01 := Lib.hid hp01
  clear hp01
  have zp10 : qs (qv s10 a10 d10) ≤ N := Nat.le_trans (qs_qv s10 a10 d10) (by omega)
  obtain ⟨p10, hp10⟩ : ∃ p, qv s10 a10 d10 = p := ⟨_, rfl⟩
  rw [hp10] at zp10 ⊢
  have P10 := Lib.hid hp10
  clear hp10
  have zp11 : qs (qv s11 a11 d11) ≤ N := Nat.le_trans (qs_qv s11 a11 d11) (by omega)
  obtain ⟨p11, hp11⟩ : ∃ p, qv s11 a11 d11 = p := ⟨_, rfl⟩
  rw [hp11] at zp11 ⊢
  have P11 := Lib.hid hp11
  clear hp11
  go_enter Tryd.func60, Tryd.ntmps60
  go_upto_region 1 with fail
  obtain ⟨W, hW⟩ : ∃ W, W = (((w.alloc (.cells #[.bool s00, .string a00, .string d00, .bool s01, .string a01, .string d01] 41)).alloc (.cells #[.bool s10, .string a10, .string d10, .bool s11, .string a11, .string d11] 41)).alloc (.cells #[.bool false, .string ⟨#[]⟩, .string ⟨#[]⟩] 39)) := ⟨_, rfl⟩
  rw [← hW] at V0 ⊢
  clear hW
  have P0 : ∀ w', Vars w [(w.heap.size, 41, [.bool s00, .string a00, .string d00, .bool s01, .string a01, .string d01]), (w.heap.size + 1, 41, [.bool s10, .string a10, .string d10, .bool s11, .string a11, .string d11])] w' → Vars w [(w.heap.size, 41, [.bool s00, .string a00, .string d00, .bool s01, .string a01, .string d01]), (w.heap.size + 1, 41, [.bool s10, .string a10, .string d10, .bool s11, .string a11, .string d11])] w' ∧ w'.cell? ⟨w.heap.size, 0, none⟩ = some (.bool s00) ∧ w'.cell? ⟨w.heap.size, 1, none⟩ = some (.string a00) ∧ w'.cell? ⟨w.heap.size, 2, none⟩ = some (.string d00) ∧ w'.cell? ⟨w.heap.size, 3, none⟩ = some (.bool s01) ∧ w'.cell? ⟨w.heap.size, 4, none⟩ = some (.string a01) ∧ w'.cell? ⟨w.heap.size, 5, none⟩ = some (.string d01) ∧ w'.cell? ⟨w.heap.size + 1, 0, none⟩ = some (.bool s10) ∧ w'.cell? ⟨w.heap.size + 1, 1, none⟩ = some (.string a10) ∧ w'.cell? ⟨w.heap.size + 1, 2, none⟩ = some (.string d10) ∧ w'.cell? ⟨w.heap.size + 1, 3, none⟩ = some (.bool s11) ∧ w'.cell? ⟨w.heap.size + 1, 4, none⟩ = some (.string a11) ∧ w'.cell? ⟨w.heap.size + 1, 5, none⟩ = some (.string d11) := fun w' h => by
    obtain ⟨c0_0, c0_1, c0_2, c0_3, c0_4, c0_5, _⟩ := row6 (h.row 0 rfl)
    obtain ⟨c1_0, c1_1, c1_2, c1_3, c1_4, c1_5, _⟩ := row6 (h.row 1 rfl)
    exact ⟨h, c0_0, c0_1, c0_2, c0_3, c0_4, c0_5, c1_0, c1_1, c1_2, c1_3, c1_4, c1_5⟩
  have L0 : Vars w [(w.heap.size, 41, [.bool s00, .string a00, .string d00, .bool s01, .string a01, .string d01]), (w.heap.size + 1, 41, [.bool s10, .string a10, .string d10, .bool s11, .string a11, .string d11])] W.drew := V0.drew.lead
  go_region_held3 (fun w' => Vars w [(w.heap.size, 41, [.bool s00, .string a00, .string d00, .bool s01, .string a01, .string d01]), (w.heap.size + 1, 41, [.bool s10, .string a10, .string d10, .bool s11, .string a11, .string d11])] w' ∧ w'.cell? ⟨w.heap.size, 0, none⟩ = some (.bool s00) ∧ w'.cell? ⟨w.heap.size, 1, none⟩ = some (.string a00) ∧ w'.cell? ⟨w.heap.size, 2, none⟩ = some (.string d00) ∧ w'.cell? ⟨w.heap.size, 3, none⟩ = some (.bool s01) ∧ w'.cell? ⟨w.heap.size, 4, none⟩ = some (.string a01) ∧ w'.cell? ⟨w.heap.size, 5, none⟩ = some (.string d01) ∧ w'.cell? ⟨w.heap.size + 1, 0, none⟩ = some (.bool s10) ∧ w'.cell? ⟨w.heap.size + 1, 1, none⟩ = some (.string a10) ∧ w'.cell? ⟨w.heap.size + 1, 2, none⟩ = some (.string d10) ∧ w'.cell? ⟨w.heap.size + 1, 3, none⟩ = some (.bool s11) ∧ w'.cell? ⟨w.heap.size + 1, 4, none⟩ = some (.string a11) ∧ w'.cell? ⟨w.heap.size + 1, 5, none⟩ = some (.string d11))
    (first | with_reducible exact P0 _ LF | with_reducible exact P0 _ L3 | with_reducible exact P0 _ L2 | with_reducible exact P0 _ L1 | with_reducible exact P0 _ L0)
    (first
      | (go_at_call 117; have _g := hb2; refine (rSub_any _ _ _ _ _ _ _ (by omega) (by omega) (by omega) (by omega) (V2.tab hT)).mono ?_; rintro _ w3 ⟨u3, c3, f3, rfl, i3, hb3⟩; rw [i1.val] at i3; rw [i2.val] at i3; obtain ⟨x3, hx3⟩ : ∃ x, x1 - x2 = x := ⟨_, rfl⟩; rw [hx3] at i3; (have z3 : qs x3 ≤ 4 * N + 1 := by (rw [← hx3]; have := qs_sub x1 x2; omega)); have X3 := Lib.hid hx3; clear hx3; obtain ⟨s3a, s3b⟩ := i3.sz; have V3 := V2.call hb3; have L3 : Vars w [(w.heap.size, 41, [.bool s00, .string a00, .string d00, .bool s01, .string a01, .string d01]), (w.heap.size + 1, 41, [.bool s10, .string a10, .string d10, .bool s11, .string a11, .string d11])] w3 := V3.lead; obtain ⟨r0, r1, r2, rf0, rf1, rf2⟩ := row3 (V3.row 2 rfl); have VF := V3.put3 2 rfl (.bool u3) (.string c3) (.string f3); have LF : Vars w [(w.heap.size, 41, [.bool s00, .string a00, .string d00, .bool s01, .string a01, .string d01]), (w.heap.size + 1, 41, [.bool s10, .string a10, .string d10, .bool s11, .string a11, .string d11])] (((w3.setCell ⟨w.heap.size + 1 + 1, 0, none⟩ (.bool u3)).setCell ⟨w.heap.size + 1 + 1, 1, none⟩ (.string c3)).setCell ⟨w.heap.size + 1 + 1, 2, none⟩ (.string f3)) := VF.lead)
      | (go_at_call 53; have _g := hb1; refine (rMul_any _ _ _ _ _ _ _ (by omega) (by omega) (by omega) (by omega) (V1.tab hT)).mono ?_; rintro _ w2 ⟨u2, c2, f2, rfl, i2, hb2⟩; rw [P01.out] at i2; rw [P10.out] at i2; obtain ⟨x2, hx2⟩ : ∃ x, p01 * p10 = x := ⟨_, rfl⟩; rw [hx2] at i2; (have z2 : qs x2 ≤ 2 * N + 0 := by (rw [← hx2]; have := qs_mul p01 p10; omega)); have X2 := Lib.hid hx2; clear hx2; obtain ⟨s2a, s2b⟩ := i2.sz; have V2 := V1.call hb2; have L2 : Vars w [(w.heap.size, 41, [.bool s00, .string a00, .string d00, .bool s01, .string a01, .string d01]), (w.heap.size + 1, 41, [.bool s10, .string a10, .string d10, .bool s11, .string a11, .string d11])] w2 := V2.lead)
      | (go_at_call 53; refine (rMul_any _ _ _ _ _ _ _ (by omega) (by omega) (by omega) (by omega) (V0.drew.tab hT)).mono ?_; rintro _ w1 ⟨u1, c1, f1, rfl, i1, hb1⟩; rw [P00.out] at i1; rw [P11.out] at i1; obtain ⟨x1, hx1⟩ : ∃ x, p00 * p11 = x := ⟨_, rfl⟩; rw [hx1] at i1; (have z1 : qs x1 ≤ 2 * N + 0 := by (rw [← hx1]; have := qs_mul p00 p11; omega)); have X1 := Lib.hid hx1; clear hx1; obtain ⟨s1a, s1b⟩ := i1.sz; have V1 := V0.drew.call hb1; have L1 : Vars w [(w.heap.size, 41, [.bool s00, .string a00, .string d00, .bool s01, .string a01, .string d01]), (w.heap.size + 1, 41, [.bool s10, .string a10, .string d10, .bool s11, .string a11, .string d11])] w1 := V1.lead))
  go_wp2_with fail
  refine bodyPost_ret (results_rat rfl _ rfl (VF.row 2 rfl)) rfl ?_
  exact ⟨_, _, _, rfl, by (simp only [X1.out, X2.out, X3.out]; exact i3), by (simp only [X1.out, X2.out, X3.out]; omega), VF.1⟩

set_option maxHeartbeats 4000000 in
set_option maxRecDepth 100000 in
theorem RCross_any (s00 : Bool) (a00 d00 : ByteArray) (s01 : Bool) (a01 d01 : ByteArray) (s10 : Bool) (a10 d10 : ByteArray) (s11 : Bool) (a11 d11 : ByteArray) (N : Nat) (w : World) (hN1 : 1 ≤ N) (hN : N ≤ 1073741824) (ha00 : a00.size ≤ N) (hd00 : d00.size ≤ N) (ha01 : a01.size ≤ N) (hd01 : d01.size ≤ N) (ha10 : a10.size ≤ N) (hd10 : d10.size ≤ N) (ha11 : a11.size ≤ N) (hd11 : d11.size ≤ N) (hT : Tab w) :
    Calls Tryd.prog 61 #[.agg #[.bool s00, .string a00, .string d00, .bool s01, .string a01, .string d01], .agg #[.bool s10, .string a10, .string d10, .bool s11, .string a11, .string d11]] w fun x w' => Num (qv s00 a00 d00 * qv s11 a11 d11 - qv s01 a01 d01 * qv s10 a10 d10) (4 * N + 1) w x w' := by
  have V0 := vars3 w 41 41 39 [.bool s00, .string a00, .string d00, .bool s01, .string a01, .string d01] [.bool s10, .string a10, .string d10, .bool s11, .string a11, .string d11] [.bool false, .string ⟨#[]⟩, .string ⟨#[]⟩]
  have zp00 : qs (qv s00 a00 d00) ≤ N := Nat.le_trans (qs_qv s00 a00 d00) (by omega)
  obtain ⟨p00, hp00⟩ : ∃ p, qv s00 a00 d00 = p := ⟨_, rfl⟩
  rw [hp00] at zp00 ⊢
  have P00 := Lib.hid hp00
  clear hp00
  have zp01 : qs (qv s01 a01 d01) ≤ N := Nat.le_trans (qs_qv s01 a01 d01) (by omega)
  obtain ⟨p01, hp01⟩ : ∃ p, qv s01 a01 d01 = p := ⟨_, rfl⟩
  rw [hp01] at zp01 ⊢
  have P01 := Lib.hid hp01
  clear hp01
  have zp10 : qs (qv s10 a10 d10) ≤ N := Nat.le_trans (qs_qv s10 a10 d10) (by omega)
  obtain ⟨p10, hp10⟩ : ∃ p, qv s10 a10 d10 = p := ⟨_, rfl⟩
  rw [hp10] at zp10 ⊢
  have P10 := Lib.hid hp10
  clear hp10
  have zp11 : qs (qv s11 a11 d11) ≤ N := Nat.le_trans (qs_qv s11 a11 d11) (by omega)
  obtain ⟨p11, hp11⟩ : ∃ p, qv s11 a11 d11 = p := ⟨_, rfl⟩
  rw [hp11] at zp11 ⊢
  have P11 := Lib.hid hp11
  clear hp11
  go_enter Tryd.func61, Tryd.ntmps61
  go_upto_region 1 with fail
  obtain ⟨W, hW⟩ : ∃ W, W = (((w.alloc (.cells #[.bool s00, .string a00, .string d00, .bool s01, .string a01, .string d01] 41)).alloc (.cells #[.bool s10, .string a10, .string d10, .bool s11, .string a11, .string d11] 41)).alloc (.cells #[.bool false, .string ⟨#[]⟩, .string ⟨#[]⟩] 39)) := ⟨_, rfl⟩
  rw [← hW] at V0 ⊢
  clear hW
  have P0 : ∀ w', Vars w [(w.heap.size, 41, [.bool s00, .string a00, .string d00, .bool s01, .string a01, .string d01]), (w.heap.size + 1, 41, [.bool s10, .string a10, .string d10, .bool s11, .string a11, .string d11])] w' → Vars w [(w.heap.size, 41, [.bool s00, .string a00, .string d00, .bool s01, .string a01, .string d01]), (w.heap.size + 1, 41, [.bool s10, .string a10, .string d10, .bool s11, .string a11, .string d11])] w' ∧ w'.cell? ⟨w.heap.size, 0, none⟩ = some (.bool s00) ∧ w'.cell? ⟨w.heap.size, 1, none⟩ = some (.string a00) ∧ w'.cell? ⟨w.heap.size, 2, none⟩ = some (.string d00) ∧ w'.cell? ⟨w.heap.size, 3, none⟩ = some (.bool s01) ∧ w'.cell? ⟨w.heap.size, 4, none⟩ = some (.string a01) ∧ w'.cell? ⟨w.heap.size, 5, none⟩ = some (.string d01) ∧ w'.cell? ⟨w.heap.size + 1, 0, none⟩ = some (.bool s10) ∧ w'.cell? ⟨w.heap.size + 1, 1, none⟩ = some (.string a10) ∧ w'.cell? ⟨w.heap.size + 1, 2, none⟩ = some (.string d10) ∧ w'.cell? ⟨w.heap.size + 1, 3, none⟩ = some (.bool s11) ∧ w'.cell? ⟨w.heap.size + 1, 4, none⟩ = some (.string a11) ∧ w'.cell? ⟨w.heap.size + 1, 5, none⟩ = some (.string d11) := fun w' h => by
    obtain ⟨c0_0, c0_1, c0_2, c0_3, c0_4, c0_5, _⟩ := row6 (h.row 0 rfl)
    obtain ⟨c1_0, c1_1, c1_2, c1_3, c1_4, c1_5, _⟩ := row6 (h.row 1 rfl)
    exact ⟨h, c0_0, c0_1, c0_2, c0_3, c0_4, c0_5, c1_0, c1_1, c1_2, c1_3, c1_4, c1_5⟩
  have L0 : Vars w [(w.heap.size, 41, [.bool s00, .string a00, .string d00, .bool s01, .string a01, .string d01]), (w.heap.size + 1, 41, [.bool s10, .string a10, .string d10, .bool s11, .string a11, .string d11])] W.drew := V0.drew.lead
  go_region_held3 (fun w' => Vars w [(w.heap.size, 41, [.bool s00, .string a00, .string d00, .bool s01, .string a01, .string d01]), (w.heap.size + 1, 41, [.bool s10, .string a10, .string d10, .bool s11, .string a11, .string d11])] w' ∧ w'.cell? ⟨w.heap.size, 0, none⟩ = some (.bool s00) ∧ w'.cell? ⟨w.heap.size, 1, none⟩ = some (.string a00) ∧ w'.cell? ⟨w.heap.size, 2, none⟩ = some (.string d00) ∧ w'.cell? ⟨w.heap.size, 3, none⟩ = some (.bool s01) ∧ w'.cell? ⟨w.heap.size, 4, none⟩ = some (.string a01) ∧ w'.cell? ⟨w.heap.size, 5, none⟩ = some (.string d01) ∧ w'.cell? ⟨w.heap.size + 1, 0, none⟩ = some (.bool s10) ∧ w'.cell? ⟨w.heap.size + 1, 1, none⟩ = some (.string a10) ∧ w'.cell? ⟨w.heap.size + 1, 2, none⟩ = some (.string d10) ∧ w'.cell? ⟨w.heap.size + 1, 3, none⟩ = some (.bool s11) ∧ w'.cell? ⟨w.heap.size + 1, 4, none⟩ = some (.string a11) ∧ w'.cell? ⟨w.heap.size + 1, 5, none⟩ = some (.string d11))
    (first | with_reducible exact P0 _ LF | with_reducible exact P0 _ L3 | with_reducible exact P0 _ L2 | with_reducible exact P0 _ L1 | with_reducible exact P0 _ L0)
    (first
      | (go_at_call 117; have _g := hb2; refine (rSub_any _ _ _ _ _ _ _ (by omega) (by omega) (by omega) (by omega) (V2.tab hT)).mono ?_; rintro _ w3 ⟨u3, c3, f3, rfl, i3, hb3⟩; rw [i1.val] at i3; rw [i2.val] at i3; obtain ⟨x3, hx3⟩ : ∃ x, x1 - x2 = x := ⟨_, rfl⟩; rw [hx3] at i3; (have z3 : qs x3 ≤ 4 * N + 1 := by (rw [← hx3]; have := qs_sub x1 x2; omega)); have X3 := Lib.hid hx3; clear hx3; obtain ⟨s3a, s3b⟩ := i3.sz; have V3 := V2.call hb3; have L3 : Vars w [(w.heap.size, 41, [.bool s00, .string a00, .string d00, .bool s01, .string a01, .string d01]), (w.heap.size + 1, 41, [.bool s10, .string a10, .string d10, .bool s11, .string a11, .string d11])] w3 := V3.lead; obtain ⟨r0, r1, r2, rf0, rf1, rf2⟩ := row3 (V3.row 2 rfl); have VF := V3.put3 2 rfl (.bool u3) (.string c3) (.string f3); have LF : Vars w [(w.heap.size, 41, [.bool s00, .string a00, .string d00, .bool s01, .string a01, .string d01]), (w.heap.size + 1, 41, [.bool s10, .string a10, .string d10, .bool s11, .string a11, .string d11])] (((w3.setCell ⟨w.heap.size + 1 + 1, 0, none⟩ (.bool u3)).setCell ⟨w.heap.size + 1 + 1, 1, none⟩ (.string c3)).setCell ⟨w.heap.size + 1 + 1, 2, none⟩ (.string f3)) := VF.lead)
      | (go_at_call 53; have _g := hb1; refine (rMul_any _ _ _ _ _ _ _ (by omega) (by omega) (by omega) (by omega) (V1.tab hT)).mono ?_; rintro _ w2 ⟨u2, c2, f2, rfl, i2, hb2⟩; rw [P01.out] at i2; rw [P10.out] at i2; obtain ⟨x2, hx2⟩ : ∃ x, p01 * p10 = x := ⟨_, rfl⟩; rw [hx2] at i2; (have z2 : qs x2 ≤ 2 * N + 0 := by (rw [← hx2]; have := qs_mul p01 p10; omega)); have X2 := Lib.hid hx2; clear hx2; obtain ⟨s2a, s2b⟩ := i2.sz; have V2 := V1.call hb2; have L2 : Vars w [(w.heap.size, 41, [.bool s00, .string a00, .string d00, .bool s01, .string a01, .string d01]), (w.heap.size + 1, 41, [.bool s10, .string a10, .string d10, .bool s11, .string a11, .string d11])] w2 := V2.lead)
      | (go_at_call 53; refine (rMul_any _ _ _ _ _ _ _ (by omega) (by omega) (by omega) (by omega) (V0.drew.tab hT)).mono ?_; rintro _ w1 ⟨u1, c1, f1, rfl, i1, hb1⟩; rw [P00.out] at i1; rw [P11.out] at i1; obtain ⟨x1, hx1⟩ : ∃ x, p00 * p11 = x := ⟨_, rfl⟩; rw [hx1] at i1; (have z1 : qs x1 ≤ 2 * N + 0 := by (rw [← hx1]; have := qs_mul p00 p11; omega)); have X1 := Lib.hid hx1; clear hx1; obtain ⟨s1a, s1b⟩ := i1.sz; have V1 := V0.drew.call hb1; have L1 : Vars w [(w.heap.size, 41, [.bool s00, .string a00, .string d00, .bool s01, .string a01, .string d01]), (w.heap.size + 1, 41, [.bool s10, .string a10, .string d10, .bool s11, .string a11, .string d11])] w1 := V1.lead))
  go_wp2_with fail
  refine bodyPost_ret (results_rat rfl _ rfl (VF.row 2 rfl)) rfl ?_
  exact ⟨_, _, _, rfl, by (simp only [X1.out, X2.out, X3.out]; exact i3), by (simp only [X1.out, X2.out, X3.out]; omega), VF.1⟩

set_option maxHeartbeats 4000000 in
set_option maxRecDepth 100000 in
theorem vAdd_any (s00 : Bool) (a00 d00 : ByteArray) (s01 : Bool) (a01 d01 : ByteArray) (s10 : Bool) (a10 d10 : ByteArray) (s11 : Bool) (a11 d11 : ByteArray) (N : Nat) (w : World) (hN1 : 1 ≤ N) (hN : N ≤ 1073741824) (ha00 : a00.size ≤ N) (hd00 : d00.size ≤ N) (ha01 : a01.size ≤ N) (hd01 : d01.size ≤ N) (ha10 : a10.size ≤ N) (hd10 : d10.size ≤ N) (ha11 : a11.size ≤ N) (hd11 : d11.size ≤ N) (hT : Tab w) :
    Calls Tryd.prog 55 #[.agg #[.bool s00, .string a00, .string d00, .bool s01, .string a01, .string d01], .agg #[.bool s10, .string a10, .string d10, .bool s11, .string a11, .string d11]] w fun x w' => Vec2 (qv s00 a00 d00 + qv s10 a10 d10) (qv s01 a01 d01 + qv s11 a11 d11) (2 * N + 1) w x w' := by
  have V0 := vars3 w 41 41 41 [.bool s00, .string a00, .string d00, .bool s01, .string a01, .string d01] [.bool s10, .string a10, .string d10, .bool s11, .string a11, .string d11] [.bool false, .string ⟨#[]⟩, .string ⟨#[]⟩, .bool false, .string ⟨#[]⟩, .string ⟨#[]⟩]
  have zp00 : qs (qv s00 a00 d00) ≤ N := Nat.le_trans (qs_qv s00 a00 d00) (by omega)
  obtain ⟨p00, hp00⟩ : ∃ p, qv s00 a00 d00 = p := ⟨_, rfl⟩
  rw [hp00] at zp00 ⊢
  have P00 := Lib.hid hp00
  clear hp00
  have zp01 : qs (qv s01 a01 d01) ≤ N := Nat.le_trans (qs_qv s01 a01 d01) (by omega)
  obtain ⟨p01, hp01⟩ : ∃ p, qv s01 a01 d01 = p := ⟨_, rfl⟩
  rw [hp01] at zp01 ⊢
  have P01 := Lib.hid hp01
  clear hp01
  have zp10 : qs (qv s10 a10 d10) ≤ N := Nat.le_trans (qs_qv s10 a10 d10) (by omega)
  obtain ⟨p10, hp10⟩ : ∃ p, qv s10 a10 d10 = p := ⟨_, rfl⟩
  rw [hp10] at zp10 ⊢
  have P10 := Lib.hid hp10
  clear hp10
  have zp11 : qs (qv s11 a11 d11) ≤ N := Nat.le_trans (qs_qv s11 a11 d11) (by omega)
  obtain ⟨p11, hp11⟩ : ∃ p, qv s11 a11 d11 = p := ⟨_, rfl⟩
  rw [hp11] at zp11 ⊢
  have P11 := Lib.hid hp11
  clear hp11
  go_enter Tryd.func55, Tryd.ntmps55
  go_upto_region 1 with fail
  obtain ⟨W, hW⟩ : ∃ W, W = (((w.alloc (.cells #[.bool s00, .string a00, .string d00, .bool s01, .string a01, .string d01] 41)).alloc (.cells #[.bool s10, .string a10, .string d10, .bool s11, .string a11, .string d11] 41)).alloc (.cells #[.bool false, .string ⟨#[]⟩, .string ⟨#[]⟩, .bool false, .string ⟨#[]⟩, .string ⟨#[]⟩] 41)) := ⟨_, rfl⟩
  rw [← hW] at V0 ⊢
  clear hW
  have P0 : ∀ w', Vars w [(w.heap.size, 41, [.bool s00, .string a00, .string d00, .bool s01, .string a01, .string d01]), (w.heap.size + 1, 41, [.bool s10, .string a10, .string d10, .bool s11, .string a11, .string d11])] w' → Vars w [(w.heap.size, 41, [.bool s00, .string a00, .string d00, .bool s01, .string a01, .string d01]), (w.heap.size + 1, 41, [.bool s10, .string a10, .string d10, .bool s11, .string a11, .string d11])] w' ∧ w'.cell? ⟨w.heap.size, 0, none⟩ = some (.bool s00) ∧ w'.cell? ⟨w.heap.size, 1, none⟩ = some (.string a00) ∧ w'.cell? ⟨w.heap.size, 2, none⟩ = some (.string d00) ∧ w'.cell? ⟨w.heap.size, 3, none⟩ = some (.bool s01) ∧ w'.cell? ⟨w.heap.size, 4, none⟩ = some (.string a01) ∧ w'.cell? ⟨w.heap.size, 5, none⟩ = some (.string d01) ∧ w'.cell? ⟨w.heap.size + 1, 0, none⟩ = some (.bool s10) ∧ w'.cell? ⟨w.heap.size + 1, 1, none⟩ = some (.string a10) ∧ w'.cell? ⟨w.heap.size + 1, 2, none⟩ = some (.string d10) ∧ w'.cell? ⟨w.heap.size + 1, 3, none⟩ = some (.bool s11) ∧ w'.cell? ⟨w.heap.size + 1, 4, none⟩ = some (.string a11) ∧ w'.cell? ⟨w.heap.size + 1, 5, none⟩ = some (.string d11) := fun w' h => by
    obtain ⟨c0_0, c0_1, c0_2, c0_3, c0_4, c0_5, _⟩ := row6 (h.row 0 rfl)
    obtain ⟨c1_0, c1_1, c1_2, c1_3, c1_4, c1_5, _⟩ := row6 (h.row 1 rfl)
    exact ⟨h, c0_0, c0_1, c0_2, c0_3, c0_4, c0_5, c1_0, c1_1, c1_2, c1_3, c1_4, c1_5⟩
  have L0 : Vars w [(w.heap.size, 41, [.bool s00, .string a00, .string d00, .bool s01, .string a01, .string d01]), (w.heap.size + 1, 41, [.bool s10, .string a10, .string d10, .bool s11, .string a11, .string d11])] W.drew := V0.drew.lead
  go_region_held3 (fun w' => Vars w [(w.heap.size, 41, [.bool s00, .string a00, .string d00, .bool s01, .string a01, .string d01]), (w.heap.size + 1, 41, [.bool s10, .string a10, .string d10, .bool s11, .string a11, .string d11])] w' ∧ w'.cell? ⟨w.heap.size, 0, none⟩ = some (.bool s00) ∧ w'.cell? ⟨w.heap.size, 1, none⟩ = some (.string a00) ∧ w'.cell? ⟨w.heap.size, 2, none⟩ = some (.string d00) ∧ w'.cell? ⟨w.heap.size, 3, none⟩ = some (.bool s01) ∧ w'.cell? ⟨w.heap.size, 4, none⟩ = some (.string a01) ∧ w'.cell? ⟨w.heap.size, 5, none⟩ = some (.string d01) ∧ w'.cell? ⟨w.heap.size + 1, 0, none⟩ = some (.bool s10) ∧ w'.cell? ⟨w.heap.size + 1, 1, none⟩ = some (.string a10) ∧ w'.cell? ⟨w.heap.size + 1, 2, none⟩ = some (.string d10) ∧ w'.cell? ⟨w.heap.size + 1, 3, none⟩ = some (.bool s11) ∧ w'.cell? ⟨w.heap.size + 1, 4, none⟩ = some (.string a11) ∧ w'.cell? ⟨w.heap.size + 1, 5, none⟩ = some (.string d11))
    (first | with_reducible exact P0 _ LF | with_reducible exact P0 _ L2 | with_reducible exact P0 _ L1 | with_reducible exact P0 _ L0)
    (first
      | (go_at_call 52; have _g := hb1; refine (rAdd_any _ _ _ _ _ _ _ (by omega) (by omega) (by omega) (by omega) (V1.tab hT)).mono ?_; rintro _ w2 ⟨u2, c2, f2, rfl, i2, hb2⟩; rw [P01.out] at i2; rw [P11.out] at i2; obtain ⟨x2, hx2⟩ : ∃ x, p01 + p11 = x := ⟨_, rfl⟩; rw [hx2] at i2; (have z2 : qs x2 ≤ 2 * N + 1 := by (rw [← hx2]; have := qs_add p01 p11; omega)); have X2 := Lib.hid hx2; clear hx2; obtain ⟨s2a, s2b⟩ := i2.sz; have V2 := V1.call hb2; have L2 : Vars w [(w.heap.size, 41, [.bool s00, .string a00, .string d00, .bool s01, .string a01, .string d01]), (w.heap.size + 1, 41, [.bool s10, .string a10, .string d10, .bool s11, .string a11, .string d11])] w2 := V2.lead; obtain ⟨r0, r1, r2, r3, r4, r5, rf0, rf1, rf2, rf3, rf4, rf5⟩ := row6 (V2.row 2 rfl); have VF := V2.put6 2 rfl (.bool u1) (.string c1) (.string f1) (.bool u2) (.string c2) (.string f2); have LF : Vars w [(w.heap.size, 41, [.bool s00, .string a00, .string d00, .bool s01, .string a01, .string d01]), (w.heap.size + 1, 41, [.bool s10, .string a10, .string d10, .bool s11, .string a11, .string d11])] ((((((w2.setCell ⟨w.heap.size + 1 + 1, 0, none⟩ (.bool u1)).setCell ⟨w.heap.size + 1 + 1, 1, none⟩ (.string c1)).setCell ⟨w.heap.size + 1 + 1, 2, none⟩ (.string f1)).setCell ⟨w.heap.size + 1 + 1, 3, none⟩ (.bool u2)).setCell ⟨w.heap.size + 1 + 1, 4, none⟩ (.string c2)).setCell ⟨w.heap.size + 1 + 1, 5, none⟩ (.string f2)) := VF.lead)
      | (go_at_call 52; refine (rAdd_any _ _ _ _ _ _ _ (by omega) (by omega) (by omega) (by omega) (V0.drew.tab hT)).mono ?_; rintro _ w1 ⟨u1, c1, f1, rfl, i1, hb1⟩; rw [P00.out] at i1; rw [P10.out] at i1; obtain ⟨x1, hx1⟩ : ∃ x, p00 + p10 = x := ⟨_, rfl⟩; rw [hx1] at i1; (have z1 : qs x1 ≤ 2 * N + 1 := by (rw [← hx1]; have := qs_add p00 p10; omega)); have X1 := Lib.hid hx1; clear hx1; obtain ⟨s1a, s1b⟩ := i1.sz; have V1 := V0.drew.call hb1; have L1 : Vars w [(w.heap.size, 41, [.bool s00, .string a00, .string d00, .bool s01, .string a01, .string d01]), (w.heap.size + 1, 41, [.bool s10, .string a10, .string d10, .bool s11, .string a11, .string d11])] w1 := V1.lead))
  go_wp2_with fail
  refine bodyPost_ret (results_vec rfl _ rfl (VF.row 2 rfl)) rfl ?_
  exact ⟨_, _, _, _, _, _, rfl, by simp only [X1.out, X2.out]; exact i1, by simp only [X1.out, X2.out]; exact i2, by simp only [X1.out, X2.out]; omega, by simp only [X1.out, X2.out]; omega, VF.1⟩

set_option maxHeartbeats 4000000 in
set_option maxRecDepth 100000 in
theorem vSub_any (s00 : Bool) (a00 d00 : ByteArray) (s01 : Bool) (a01 d01 : ByteArray) (s10 : Bool) (a10 d10 : ByteArray) (s11 : Bool) (a11 d11 : ByteArray) (N : Nat) (w : World) (hN1 : 1 ≤ N) (hN : N ≤ 1073741824) (ha00 : a00.size ≤ N) (hd00 : d00.size ≤ N) (ha01 : a01.size ≤ N) (hd01 : d01.size ≤ N) (ha10 : a10.size ≤ N) (hd10 : d10.size ≤ N) (ha11 : a11.size ≤ N) (hd11 : d11.size ≤ N) (hT : Tab w) :
    Calls Tryd.prog 56 #[.agg #[.bool s00, .string a00, .string d00, .bool s01, .string a01, .string d01], .agg #[.bool s10, .string a10, .string d10, .bool s11, .string a11, .string d11]] w fun x w' => Vec2 (qv s00 a00 d00 - qv s10 a10 d10) (qv s01 a01 d01 - qv s11 a11 d11) (2 * N + 1) w x w' := by
  have V0 := vars3 w 41 41 41 [.bool s00, .string a00, .string d00, .bool s01, .string a01, .string d01] [.bool s10, .string a10, .string d10, .bool s11, .string a11, .string d11] [.bool false, .string ⟨#[]⟩, .string ⟨#[]⟩, .bool false, .string ⟨#[]⟩, .string ⟨#[]⟩]
  have zp00 : qs (qv s00 a00 d00) ≤ N := Nat.le_trans (qs_qv s00 a00 d00) (by omega)
  obtain ⟨p00, hp00⟩ : ∃ p, qv s00 a00 d00 = p := ⟨_, rfl⟩
  rw [hp00] at zp00 ⊢
  have P00 := Lib.hid hp00
  clear hp00
  have zp01 : qs (qv s01 a01 d01) ≤ N := Nat.le_trans (qs_qv s01 a01 d01) (by omega)
  obtain ⟨p01, hp01⟩ : ∃ p, qv s01 a01 d01 = p := ⟨_, rfl⟩
  rw [hp01] at zp01 ⊢
  have P01 := Lib.hid hp01
  clear hp01
  have zp10 : qs (qv s10 a10 d10) ≤ N := Nat.le_trans (qs_qv s10 a10 d10) (by omega)
  obtain ⟨p10, hp10⟩ : ∃ p, qv s10 a10 d10 = p := ⟨_, rfl⟩
  rw [hp10] at zp10 ⊢
  have P10 := Lib.hid hp10
  clear hp10
  have zp11 : qs (qv s11 a11 d11) ≤ N := Nat.le_trans (qs_qv s11 a11 d11) (by omega)
  obtain ⟨p11, hp11⟩ : ∃ p, qv s11 a11 d11 = p := ⟨_, rfl⟩
  rw [hp11] at zp11 ⊢
  have P11 := Lib.hid hp11
  clear hp11
  go_enter Tryd.func56, Tryd.ntmps56
  go_upto_region 1 with fail
  obtain ⟨W, hW⟩ : ∃ W, W = (((w.alloc (.cells #[.bool s00, .string a00, .string d00, .bool s01, .string a01, .string d01] 41)).alloc (.cells #[.bool s10, .string a10, .string d10, .bool s11, .string a11, .string d11] 41)).alloc (.cells #[.bool false, .string ⟨#[]⟩, .string ⟨#[]⟩, .bool false, .string ⟨#[]⟩, .string ⟨#[]⟩] 41)) := ⟨_, rfl⟩
  rw [← hW] at V0 ⊢
  clear hW
  have P0 : ∀ w', Vars w [(w.heap.size, 41, [.bool s00, .string a00, .string d00, .bool s01, .string a01, .string d01]), (w.heap.size + 1, 41, [.bool s10, .string a10, .string d10, .bool s11, .string a11, .string d11])] w' → Vars w [(w.heap.size, 41, [.bool s00, .string a00, .string d00, .bool s01, .string a01, .string d01]), (w.heap.size + 1, 41, [.bool s10, .string a10, .string d10, .bool s11, .string a11, .string d11])] w' ∧ w'.cell? ⟨w.heap.size, 0, none⟩ = some (.bool s00) ∧ w'.cell? ⟨w.heap.size, 1, none⟩ = some (.string a00) ∧ w'.cell? ⟨w.heap.size, 2, none⟩ = some (.string d00) ∧ w'.cell? ⟨w.heap.size, 3, none⟩ = some (.bool s01) ∧ w'.cell? ⟨w.heap.size, 4, none⟩ = some (.string a01) ∧ w'.cell? ⟨w.heap.size, 5, none⟩ = some (.string d01) ∧ w'.cell? ⟨w.heap.size + 1, 0, none⟩ = some (.bool s10) ∧ w'.cell? ⟨w.heap.size + 1, 1, none⟩ = some (.string a10) ∧ w'.cell? ⟨w.heap.size + 1, 2, none⟩ = some (.string d10) ∧ w'.cell? ⟨w.heap.size + 1, 3, none⟩ = some (.bool s11) ∧ w'.cell? ⟨w.heap.size + 1, 4, none⟩ = some (.string a11) ∧ w'.cell? ⟨w.heap.size + 1, 5, none⟩ = some (.string d11) := fun w' h => by
    obtain ⟨c0_0, c0_1, c0_2, c0_3, c0_4, c0_5, _⟩ := row6 (h.row 0 rfl)
    obtain ⟨c1_0, c1_1, c1_2, c1_3, c1_4, c1_5, _⟩ := row6 (h.row 1 rfl)
    exact ⟨h, c0_0, c0_1, c0_2, c0_3, c0_4, c0_5, c1_0, c1_1, c1_2, c1_3, c1_4, c1_5⟩
  have L0 : Vars w [(w.heap.size, 41, [.bool s00, .string a00, .string d00, .bool s01, .string a01, .string d01]), (w.heap.size + 1, 41, [.bool s10, .string a10, .string d10, .bool s11, .string a11, .string d11])] W.drew := V0.drew.lead
  go_region_held3 (fun w' => Vars w [(w.heap.size, 41, [.bool s00, .string a00, .string d00, .bool s01, .string a01, .string d01]), (w.heap.size + 1, 41, [.bool s10, .string a10, .string d10, .bool s11, .string a11, .string d11])] w' ∧ w'.cell? ⟨w.heap.size, 0, none⟩ = some (.bool s00) ∧ w'.cell? ⟨w.heap.size, 1, none⟩ = some (.string a00) ∧ w'.cell? ⟨w.heap.size, 2, none⟩ = some (.string d00) ∧ w'.cell? ⟨w.heap.size, 3, none⟩ = some (.bool s01) ∧ w'.cell? ⟨w.heap.size, 4, none⟩ = some (.string a01) ∧ w'.cell? ⟨w.heap.size, 5, none⟩ = some (.string d01) ∧ w'.cell? ⟨w.heap.size + 1, 0, none⟩ = some (.bool s10) ∧ w'.cell? ⟨w.heap.size + 1, 1, none⟩ = some (.string a10) ∧ w'.cell? ⟨w.heap.size + 1, 2, none⟩ = some (.string d10) ∧ w'.cell? ⟨w.heap.size + 1, 3, none⟩ = some (.bool s11) ∧ w'.cell? ⟨w.heap.size + 1, 4, none⟩ = some (.string a11) ∧ w'.cell? ⟨w.heap.size + 1, 5, none⟩ = some (.string d11))
    (first | with_reducible exact P0 _ LF | with_reducible exact P0 _ L2 | with_reducible exact P0 _ L1 | with_reducible exact P0 _ L0)
    (first
      | (go_at_call 117; have _g := hb1; refine (rSub_any _ _ _ _ _ _ _ (by omega) (by omega) (by omega) (by omega) (V1.tab hT)).mono ?_; rintro _ w2 ⟨u2, c2, f2, rfl, i2, hb2⟩; rw [P01.out] at i2; rw [P11.out] at i2; obtain ⟨x2, hx2⟩ : ∃ x, p01 - p11 = x := ⟨_, rfl⟩; rw [hx2] at i2; (have z2 : qs x2 ≤ 2 * N + 1 := by (rw [← hx2]; have := qs_sub p01 p11; omega)); have X2 := Lib.hid hx2; clear hx2; obtain ⟨s2a, s2b⟩ := i2.sz; have V2 := V1.call hb2; have L2 : Vars w [(w.heap.size, 41, [.bool s00, .string a00, .string d00, .bool s01, .string a01, .string d01]), (w.heap.size + 1, 41, [.bool s10, .string a10, .string d10, .bool s11, .string a11, .string d11])] w2 := V2.lead; obtain ⟨r0, r1, r2, r3, r4, r5, rf0, rf1, rf2, rf3, rf4, rf5⟩ := row6 (V2.row 2 rfl); have VF := V2.put6 2 rfl (.bool u1) (.string c1) (.string f1) (.bool u2) (.string c2) (.string f2); have LF : Vars w [(w.heap.size, 41, [.bool s00, .string a00, .string d00, .bool s01, .string a01, .string d01]), (w.heap.size + 1, 41, [.bool s10, .string a10, .string d10, .bool s11, .string a11, .string d11])] ((((((w2.setCell ⟨w.heap.size + 1 + 1, 0, none⟩ (.bool u1)).setCell ⟨w.heap.size + 1 + 1, 1, none⟩ (.string c1)).setCell ⟨w.heap.size + 1 + 1, 2, none⟩ (.string f1)).setCell ⟨w.heap.size + 1 + 1, 3, none⟩ (.bool u2)).setCell ⟨w.heap.size + 1 + 1, 4, none⟩ (.string c2)).setCell ⟨w.heap.size + 1 + 1, 5, none⟩ (.string f2)) := VF.lead)
      | (go_at_call 117; refine (rSub_any _ _ _ _ _ _ _ (by omega) (by omega) (by omega) (by omega) (V0.drew.tab hT)).mono ?_; rintro _ w1 ⟨u1, c1, f1, rfl, i1, hb1⟩; rw [P00.out] at i1; rw [P10.out] at i1; obtain ⟨x1, hx1⟩ : ∃ x, p00 - p10 = x := ⟨_, rfl⟩; rw [hx1] at i1; (have z1 : qs x1 ≤ 2 * N + 1 := by (rw [← hx1]; have := qs_sub p00 p10; omega)); have X1 := Lib.hid hx1; clear hx1; obtain ⟨s1a, s1b⟩ := i1.sz; have V1 := V0.drew.call hb1; have L1 : Vars w [(w.heap.size, 41, [.bool s00, .string a00, .string d00, .bool s01, .string a01, .string d01]), (w.heap.size + 1, 41, [.bool s10, .string a10, .string d10, .bool s11, .string a11, .string d11])] w1 := V1.lead))
  go_wp2_with fail
  refine bodyPost_ret (results_vec rfl _ rfl (VF.row 2 rfl)) rfl ?_
  exact ⟨_, _, _, _, _, _, rfl, by simp only [X1.out, X2.out]; exact i1, by simp only [X1.out, X2.out]; exact i2, by simp only [X1.out, X2.out]; omega, by simp only [X1.out, X2.out]; omega, VF.1⟩

set_option maxHeartbeats 4000000 in
set_option maxRecDepth 100000 in
theorem RV_any (s00 : Bool) (a00 d00 : ByteArray) (s01 : Bool) (a01 d01 : ByteArray) (s10 : Bool) (a10 d10 : ByteArray) (s11 : Bool) (a11 d11 : ByteArray) (N : Nat) (w : World) (hN1 : 1 ≤ N) (hN : N ≤ 1073741824) (ha00 : a00.size ≤ N) (hd00 : d00.size ≤ N) (ha01 : a01.size ≤ N) (hd01 : d01.size ≤ N) (ha10 : a10.size ≤ N) (hd10 : d10.size ≤ N) (ha11 : a11.size ≤ N) (hd11 : d11.size ≤ N) (hT : Tab w) :
    Calls Tryd.prog 57 #[.agg #[.bool s00, .string a00, .string d00, .bool s01, .string a01, .string d01], .agg #[.bool s10, .string a10, .string d10, .bool s11, .string a11, .string d11]] w fun x w' => Vec2 (qv s10 a10 d10 - qv s00 a00 d00) (qv s11 a11 d11 - qv s01 a01 d01) (2 * N + 1) w x w' := by
  have V0 := vars3 w 41 41 41 [.bool s00, .string a00, .string d00, .bool s01, .string a01, .string d01] [.bool s10, .string a10, .string d10, .bool s11, .string a11, .string d11] [.bool false, .string ⟨#[]⟩, .string ⟨#[]⟩, .bool false, .string ⟨#[]⟩, .string ⟨#[]⟩]
  have zp00 : qs (qv s00 a00 d00) ≤ N := Nat.le_trans (qs_qv s00 a00 d00) (by omega)
  obtain ⟨p00, hp00⟩ : ∃ p, qv s00 a00 d00 = p := ⟨_, rfl⟩
  rw [hp00] at zp00 ⊢
  have P00 := Lib.hid hp00
  clear hp00
  have zp01 : qs (qv s01 a01 d01) ≤ N := Nat.le_trans (qs_qv s01 a01 d01) (by omega)
  obtain ⟨p01, hp01⟩ : ∃ p, qv s01 a01 d01 = p := ⟨_, rfl⟩
  rw [hp01] at zp01 ⊢
  have P01 := Lib.hid hp01
  clear hp01
  have zp10 : qs (qv s10 a10 d10) ≤ N := Nat.le_trans (qs_qv s10 a10 d10) (by omega)
  obtain ⟨p10, hp10⟩ : ∃ p, qv s10 a10 d10 = p := ⟨_, rfl⟩
  rw [hp10] at zp10 ⊢
  have P10 := Lib.hid hp10
  clear hp10
  have zp11 : qs (qv s11 a11 d11) ≤ N := Nat.le_trans (qs_qv s11 a11 d11) (by omega)
  obtain ⟨p11, hp11⟩ : ∃ p, qv s11 a11 d11 = p := ⟨_, rfl⟩
  rw [hp11] at zp11 ⊢
  have P11 := Lib.hid hp11
  clear hp11
  go_enter Tryd.func57, Tryd.ntmps57
  go_upto_region 1 with fail
  obtain ⟨W, hW⟩ : ∃ W, W = (((w.alloc (.cells #[.bool s00, .string a00, .string d00, .bool s01, .string a01, .string d01] 41)).alloc (.cells #[.bool s10, .string a10, .string d10, .bool s11, .string a11, .string d11] 41)).alloc (.cells #[.bool false, .string ⟨#[]⟩, .string ⟨#[]⟩, .bool false, .string ⟨#[]⟩, .string ⟨#[]⟩] 41)) := ⟨_, rfl⟩
  rw [← hW] at V0 ⊢
  clear hW
  have P0 : ∀ w', Vars w [(w.heap.size, 41, [.bool s00, .string a00, .string d00, .bool s01, .string a01, .string d01]), (w.heap.size + 1, 41, [.bool s10, .string a10, .string d10, .bool s11, .string a11, .string d11])] w' → Vars w [(w.heap.size, 41, [.bool s00, .string a00, .string d00, .bool s01, .string a01, .string d01]), (w.heap.size + 1, 41, [.bool s10, .string a10, .string d10, .bool s11, .string a11, .string d11])] w' ∧ w'.cell? ⟨w.heap.size, 0, none⟩ = some (.bool s00) ∧ w'.cell? ⟨w.heap.size, 1, none⟩ = some (.string a00) ∧ w'.cell? ⟨w.heap.size, 2, none⟩ = some (.string d00) ∧ w'.cell? ⟨w.heap.size, 3, none⟩ = some (.bool s01) ∧ w'.cell? ⟨w.heap.size, 4, none⟩ = some (.string a01) ∧ w'.cell? ⟨w.heap.size, 5, none⟩ = some (.string d01) ∧ w'.cell? ⟨w.heap.size + 1, 0, none⟩ = some (.bool s10) ∧ w'.cell? ⟨w.heap.size + 1, 1, none⟩ = some (.string a10) ∧ w'.cell? ⟨w.heap.size + 1, 2, none⟩ = some (.string d10) ∧ w'.cell? ⟨w.heap.size + 1, 3, none⟩ = some (.bool s11) ∧ w'.cell? ⟨w.heap.size + 1, 4, none⟩ = some (.string a11) ∧ w'.cell? ⟨w.heap.size + 1, 5, none⟩ = some (.string d11) := fun w' h => by
    obtain ⟨c0_0, c0_1, c0_2, c0_3, c0_4, c0_5, _⟩ := row6 (h.row 0 rfl)
    obtain ⟨c1_0, c1_1, c1_2, c1_3, c1_4, c1_5, _⟩ := row6 (h.row 1 rfl)
    exact ⟨h, c0_0, c0_1, c0_2, c0_3, c0_4, c0_5, c1_0, c1_1, c1_2, c1_3, c1_4, c1_5⟩
  have L0 : Vars w [(w.heap.size, 41, [.bool s00, .string a00, .string d00, .bool s01, .string a01, .string d01]), (w.heap.size + 1, 41, [.bool s10, .string a10, .string d10, .bool s11, .string a11, .string d11])] W.drew := V0.drew.lead
  go_region_held3 (fun w' => Vars w [(w.heap.size, 41, [.bool s00, .string a00, .string d00, .bool s01, .string a01, .string d01]), (w.heap.size + 1, 41, [.bool s10, .string a10, .string d10, .bool s11, .string a11, .string d11])] w' ∧ w'.cell? ⟨w.heap.size, 0, none⟩ = some (.bool s00) ∧ w'.cell? ⟨w.heap.size, 1, none⟩ = some (.string a00) ∧ w'.cell? ⟨w.heap.size, 2, none⟩ = some (.string d00) ∧ w'.cell? ⟨w.heap.size, 3, none⟩ = some (.bool s01) ∧ w'.cell? ⟨w.heap.size, 4, none⟩ = some (.string a01) ∧ w'.cell? ⟨w.heap.size, 5, none⟩ = some (.string d01) ∧ w'.cell? ⟨w.heap.size + 1, 0, none⟩ = some (.bool s10) ∧ w'.cell? ⟨w.heap.size + 1, 1, none⟩ = some (.string a10) ∧ w'.cell? ⟨w.heap.size + 1, 2, none⟩ = some (.string d10) ∧ w'.cell? ⟨w.heap.size + 1, 3, none⟩ = some (.bool s11) ∧ w'.cell? ⟨w.heap.size + 1, 4, none⟩ = some (.string a11) ∧ w'.cell? ⟨w.heap.size + 1, 5, none⟩ = some (.string d11))
    (first | with_reducible exact P0 _ LF | with_reducible exact P0 _ L2 | with_reducible exact P0 _ L1 | with_reducible exact P0 _ L0)
    (first
      | (go_at_call 117; have _g := hb1; refine (rSub_any _ _ _ _ _ _ _ (by omega) (by omega) (by omega) (by omega) (V1.tab hT)).mono ?_; rintro _ w2 ⟨u2, c2, f2, rfl, i2, hb2⟩; rw [P11.out] at i2; rw [P01.out] at i2; obtain ⟨x2, hx2⟩ : ∃ x, p11 - p01 = x := ⟨_, rfl⟩; rw [hx2] at i2; (have z2 : qs x2 ≤ 2 * N + 1 := by (rw [← hx2]; have := qs_sub p11 p01; omega)); have X2 := Lib.hid hx2; clear hx2; obtain ⟨s2a, s2b⟩ := i2.sz; have V2 := V1.call hb2; have L2 : Vars w [(w.heap.size, 41, [.bool s00, .string a00, .string d00, .bool s01, .string a01, .string d01]), (w.heap.size + 1, 41, [.bool s10, .string a10, .string d10, .bool s11, .string a11, .string d11])] w2 := V2.lead; obtain ⟨r0, r1, r2, r3, r4, r5, rf0, rf1, rf2, rf3, rf4, rf5⟩ := row6 (V2.row 2 rfl); have VF := V2.put6 2 rfl (.bool u1) (.string c1) (.string f1) (.bool u2) (.string c2) (.string f2); have LF : Vars w [(w.heap.size, 41, [.bool s00, .string a00, .string d00, .bool s01, .string a01, .string d01]), (w.heap.size + 1, 41, [.bool s10, .string a10, .string d10, .bool s11, .string a11, .string d11])] ((((((w2.setCell ⟨w.heap.size + 1 + 1, 0, none⟩ (.bool u1)).setCell ⟨w.heap.size + 1 + 1, 1, none⟩ (.string c1)).setCell ⟨w.heap.size + 1 + 1, 2, none⟩ (.string f1)).setCell ⟨w.heap.size + 1 + 1, 3, none⟩ (.bool u2)).setCell ⟨w.heap.size + 1 + 1, 4, none⟩ (.string c2)).setCell ⟨w.heap.size + 1 + 1, 5, none⟩ (.string f2)) := VF.lead)
      | (go_at_call 117; refine (rSub_any _ _ _ _ _ _ _ (by omega) (by omega) (by omega) (by omega) (V0.drew.tab hT)).mono ?_; rintro _ w1 ⟨u1, c1, f1, rfl, i1, hb1⟩; rw [P10.out] at i1; rw [P00.out] at i1; obtain ⟨x1, hx1⟩ : ∃ x, p10 - p00 = x := ⟨_, rfl⟩; rw [hx1] at i1; (have z1 : qs x1 ≤ 2 * N + 1 := by (rw [← hx1]; have := qs_sub p10 p00; omega)); have X1 := Lib.hid hx1; clear hx1; obtain ⟨s1a, s1b⟩ := i1.sz; have V1 := V0.drew.call hb1; have L1 : Vars w [(w.heap.size, 41, [.bool s00, .string a00, .string d00, .bool s01, .string a01, .string d01]), (w.heap.size + 1, 41, [.bool s10, .string a10, .string d10, .bool s11, .string a11, .string d11])] w1 := V1.lead))
  go_wp2_with fail
  refine bodyPost_ret (results_vec rfl _ rfl (VF.row 2 rfl)) rfl ?_
  exact ⟨_, _, _, _, _, _, rfl, by simp only [X1.out, X2.out]; exact i1, by simp only [X1.out, X2.out]; exact i2, by simp only [X1.out, X2.out]; omega, by simp only [X1.out, X2.out]; omega, VF.1⟩

set_option maxHeartbeats 4000000 in
set_option maxRecDepth 100000 in
theorem vScale_any (s00 : Bool) (a00 d00 : ByteArray) (s01 : Bool) (a01 d01 : ByteArray) (s10 : Bool) (a10 d10 : ByteArray) (N : Nat) (w : World) (hN1 : 1 ≤ N) (hN : N ≤ 1073741824) (ha00 : a00.size ≤ N) (hd00 : d00.size ≤ N) (ha01 : a01.size ≤ N) (hd01 : d01.size ≤ N) (ha10 : a10.size ≤ N) (hd10 : d10.size ≤ N) (hT : Tab w) :
    Calls Tryd.prog 58 #[.agg #[.bool s00, .string a00, .string d00, .bool s01, .string a01, .string d01], .agg #[.bool s10, .string a10, .string d10]] w fun x w' => Vec2 (qv s00 a00 d00 * qv s10 a10 d10) (qv s01 a01 d01 * qv s10 a10 d10) (2 * N) w x w' := by
  have V0 := vars3 w 41 39 41 [.bool s00, .string a00, .string d00, .bool s01, .string a01, .string d01] [.bool s10, .string a10, .string d10] [.bool false, .string ⟨#[]⟩, .string ⟨#[]⟩, .bool false, .string ⟨#[]⟩, .string ⟨#[]⟩]
  have zp00 : qs (qv s00 a00 d00) ≤ N := Nat.le_trans (qs_qv s00 a00 d00) (by omega)
  obtain ⟨p00, hp00⟩ : ∃ p, qv s00 a00 d00 = p := ⟨_, rfl⟩
  rw [hp00] at zp00 ⊢
  have P00 := Lib.hid hp00
  clear hp00
  have zp01 : qs (qv s01 a01 d01) ≤ N := Nat.le_trans (qs_qv s01 a01 d01) (by omega)
  obtain ⟨p01, hp01⟩ : ∃ p, qv s01 a01 d01 = p := ⟨_, rfl⟩
  rw [hp01] at zp01 ⊢
  have P01 := Lib.hid hp01
  clear hp01
  have zp10 : qs (qv s10 a10 d10) ≤ N := Nat.le_trans (qs_qv s10 a10 d10) (by omega)
  obtain ⟨p10, hp10⟩ : ∃ p, qv s10 a10 d10 = p := ⟨_, rfl⟩
  rw [hp10] at zp10 ⊢
  have P10 := Lib.hid hp10
  clear hp10
  go_enter Tryd.func58, Tryd.ntmps58
  go_upto_region 1 with fail
  obtain ⟨W, hW⟩ : ∃ W, W = (((w.alloc (.cells #[.bool s00, .string a00, .string d00, .bool s01, .string a01, .string d01] 41)).alloc (.cells #[.bool s10, .string a10, .string d10] 39)).alloc (.cells #[.bool false, .string ⟨#[]⟩, .string ⟨#[]⟩, .bool false, .string ⟨#[]⟩, .string ⟨#[]⟩] 41)) := ⟨_, rfl⟩
  rw [← hW] at V0 ⊢
  clear hW
  have P0 : ∀ w', Vars w [(w.heap.size, 41, [.bool s00, .string a00, .string d00, .bool s01, .string a01, .string d01]), (w.heap.size + 1, 39, [.bool s10, .string a10, .string d10])] w' → Vars w [(w.heap.size, 41, [.bool s00, .string a00, .string d00, .bool s01, .string a01, .string d01]), (w.heap.size + 1, 39, [.bool s10, .string a10, .string d10])] w' ∧ w'.cell? ⟨w.heap.size, 0, none⟩ = some (.bool s00) ∧ w'.cell? ⟨w.heap.size, 1, none⟩ = some (.string a00) ∧ w'.cell? ⟨w.heap.size, 2, none⟩ = some (.string d00) ∧ w'.cell? ⟨w.heap.size, 3, none⟩ = some (.bool s01) ∧ w'.cell? ⟨w.heap.size, 4, none⟩ = some (.string a01) ∧ w'.cell? ⟨w.heap.size, 5, none⟩ = some (.string d01) ∧ w'.cell? ⟨w.heap.size + 1, 0, none⟩ = some (.bool s10) ∧ w'.cell? ⟨w.heap.size + 1, 1, none⟩ = some (.string a10) ∧ w'.cell? ⟨w.heap.size + 1, 2, none⟩ = some (.string d10) := fun w' h => by
    obtain ⟨c0_0, c0_1, c0_2, c0_3, c0_4, c0_5, _⟩ := row6 (h.row 0 rfl)
    obtain ⟨c1_0, c1_1, c1_2, _⟩ := row3 (h.row 1 rfl)
    exact ⟨h, c0_0, c0_1, c0_2, c0_3, c0_4, c0_5, c1_0, c1_1, c1_2⟩
  have L0 : Vars w [(w.heap.size, 41, [.bool s00, .string a00, .string d00, .bool s01, .string a01, .string d01]), (w.heap.size + 1, 39, [.bool s10, .string a10, .string d10])] W.drew := V0.drew.lead
  go_region_held3 (fun w' => Vars w [(w.heap.size, 41, [.bool s00, .string a00, .string d00, .bool s01, .string a01, .string d01]), (w.heap.size + 1, 39, [.bool s10, .string a10, .string d10])] w' ∧ w'.cell? ⟨w.heap.size, 0, none⟩ = some (.bool s00) ∧ w'.cell? ⟨w.heap.size, 1, none⟩ = some (.string a00) ∧ w'.cell? ⟨w.heap.size, 2, none⟩ = some (.string d00) ∧ w'.cell? ⟨w.heap.size, 3, none⟩ = some (.bool s01) ∧ w'.cell? ⟨w.heap.size, 4, none⟩ = some (.string a01) ∧ w'.cell? ⟨w.heap.size, 5, none⟩ = some (.string d01) ∧ w'.cell? ⟨w.heap.size + 1, 0, none⟩ = some (.bool s10) ∧ w'.cell? ⟨w.heap.size + 1, 1, none⟩ = some (.string a10) ∧ w'.cell? ⟨w.heap.size + 1, 2, none⟩ = some (.string d10))
    (first | with_reducible exact P0 _ LF | with_reducible exact P0 _ L2 | with_reducible exact P0 _ L1 | with_reducible exact P0 _ L0)
    (first
      | (go_at_call 53; have _g := hb1; refine (rMul_any _ _ _ _ _ _ _ (by omega) (by omega) (by omega) (by omega) (V1.tab hT)).mono ?_; rintro _ w2 ⟨u2, c2, f2, rfl, i2, hb2⟩; rw [P01.out] at i2; rw [P10.out] at i2; obtain ⟨x2, hx2⟩ : ∃ x, p01 * p10 = x := ⟨_, rfl⟩; rw [hx2] at i2; (have z2 : qs x2 ≤ 2 * N + 0 := by (rw [← hx2]; have := qs_mul p01 p10; omega)); have X2 := Lib.hid hx2; clear hx2; obtain ⟨s2a, s2b⟩ := i2.sz; have V2 := V1.call hb2; have L2 : Vars w [(w.heap.size, 41, [.bool s00, .string a00, .string d00, .bool s01, .string a01, .string d01]), (w.heap.size + 1, 39, [.bool s10, .string a10, .string d10])] w2 := V2.lead; obtain ⟨r0, r1, r2, r3, r4, r5, rf0, rf1, rf2, rf3, rf4, rf5⟩ := row6 (V2.row 2 rfl); have VF := V2.put6 2 rfl (.bool u1) (.string c1) (.string f1) (.bool u2) (.string c2) (.string f2); have LF : Vars w [(w.heap.size, 41, [.bool s00, .string a00, .string d00, .bool s01, .string a01, .string d01]), (w.heap.size + 1, 39, [.bool s10, .string a10, .string d10])] ((((((w2.setCell ⟨w.heap.size + 1 + 1, 0, none⟩ (.bool u1)).setCell ⟨w.heap.size + 1 + 1, 1, none⟩ (.string c1)).setCell ⟨w.heap.size + 1 + 1, 2, none⟩ (.string f1)).setCell ⟨w.heap.size + 1 + 1, 3, none⟩ (.bool u2)).setCell ⟨w.heap.size + 1 + 1, 4, none⟩ (.string c2)).setCell ⟨w.heap.size + 1 + 1, 5, none⟩ (.string f2)) := VF.lead)
      | (go_at_call 53; refine (rMul_any _ _ _ _ _ _ _ (by omega) (by omega) (by omega) (by omega) (V0.drew.tab hT)).mono ?_; rintro _ w1 ⟨u1, c1, f1, rfl, i1, hb1⟩; rw [P00.out] at i1; rw [P10.out] at i1; obtain ⟨x1, hx1⟩ : ∃ x, p00 * p10 = x := ⟨_, rfl⟩; rw [hx1] at i1; (have z1 : qs x1 ≤ 2 * N + 0 := by (rw [← hx1]; have := qs_mul p00 p10; omega)); have X1 := Lib.hid hx1; clear hx1; obtain ⟨s1a, s1b⟩ := i1.sz; have V1 := V0.drew.call hb1; have L1 : Vars w [(w.heap.size, 41, [.bool s00, .string a00, .string d00, .bool s01, .string a01, .string d01]), (w.heap.size + 1, 39, [.bool s10, .string a10, .string d10])] w1 := V1.lead))
  go_wp2_with fail
  refine bodyPost_ret (results_vec rfl _ rfl (VF.row 2 rfl)) rfl ?_
  exact ⟨_, _, _, _, _, _, rfl, by simp only [X1.out, X2.out]; exact i1, by simp only [X1.out, X2.out]; exact i2, by simp only [X1.out, X2.out]; omega, by simp only [X1.out, X2.out]; omega, VF.1⟩

end Go.Proofs.YtajkihgioikipaaDoor.vecA
