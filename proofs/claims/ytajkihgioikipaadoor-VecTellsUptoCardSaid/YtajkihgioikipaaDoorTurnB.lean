/- Walks: turn.Sin; gantref1.Circle. Printed by wip/gen_turnb.py. -/
import Derived.Test.YtajkihgioikipaaDoorTurnA
namespace Go.Proofs.YtajkihgioikipaaDoor.turnB
open Go.RowKit num mem seg q ratA held ratB ratC ratD ratE vars vecA turnA

set_option maxHeartbeats 4000000 in
set_option maxRecDepth 100000 in
theorem tSin_any (h0 : Bool) (s00 : Bool) (a00 d00 : ByteArray) (N : Nat) (w : World) (hN1 : 1 ≤ N) (hN : N ≤ 1073741824) (ha00 : a00.size ≤ N) (hd00 : d00.size ≤ N) (hT : Tab w) :
    Calls Tryd.prog 76 #[.agg #[.bool h0, .bool s00, .string a00, .string d00]] w fun x w' => Num (sinq (tq h0 (qv s00 a00 d00))) (4 * N + 60) w x w' := by
  have V0 := vars2 w 81 39 [.bool h0, .bool s00, .string a00, .string d00] [.bool false, .string ⟨#[]⟩, .string ⟨#[]⟩]
  have zp00 : qs (qv s00 a00 d00) ≤ N := Nat.le_trans (qs_qv s00 a00 d00) (by omega)
  obtain ⟨p00, hp00⟩ : ∃ p, qv s00 a00 d00 = p := ⟨_, rfl⟩
  rw [hp00] at zp00 ⊢
  have P00 := Lib.hid hp00
  clear hp00
  obtain ⟨T, hT0⟩ : ∃ T, tq h0 p00 = T := ⟨_, rfl⟩
  rw [hT0]
  have HT0 := Lib.hid hT0
  clear hT0
  go_enter Tryd.func76, Tryd.ntmps76
  go_wp2_with fail
  refine (tfit_any _ _ _ _ N _ hN1 hN (by omega) (by omega) (V0.tab hT)).mono ?_
  rintro _ w1 ⟨u1, c1, f1, rfl, i1, z1, hb1⟩
  rw [P00.out] at i1 z1
  obtain ⟨x1, hx1⟩ : ∃ x, tq h0 p00 = x := ⟨_, rfl⟩
  rw [hx1] at i1 z1
  have X1 := Lib.hid hx1
  clear hx1
  obtain ⟨s1a, s1b⟩ := i1.sz
  have V1 := V0.call hb1
  obtain ⟨r0_0, r0_1, r0_2, r0_3, f0_0, f0_1, f0_2, f0_3⟩ := row4 (V1.row 0 rfl)
  obtain ⟨r1_0, r1_1, r1_2, f1_0, f1_1, f1_2⟩ := row3 (V1.row 1 rfl)
  have U1 : Vars w [(w.heap.size, 81, [.bool h0, .bool u1, .string c1, .string f1]), (w.heap.size + 1, 39, [.bool false, .string ⟨#[]⟩, .string ⟨#[]⟩])] _ := V1.put4 0 rfl (.bool h0) (.bool u1) (.string c1) (.string f1)
  have XT := Lib.hid (show T = x1 by rw [← X1.out, ← HT0.out])
  rw [← XT.out] at i1 z1 s1a s1b
  clear X1 XT HT0
  go_upto_region 2 with fail
  obtain ⟨W1, hW1⟩ : ∃ W, W = ((((w1.setCell ⟨w.heap.size, 0, none⟩ (.bool h0)).setCell ⟨w.heap.size, 1, none⟩ (.bool u1)).setCell ⟨w.heap.size, 2, none⟩ (.string c1)).setCell ⟨w.heap.size, 3, none⟩ (.string f1)) := ⟨_, rfl⟩
  rw [← hW1] at U1 ⊢
  clear hW1
  clear r0_0 r0_1 r0_2 r0_3 f0_0 f0_1 f0_2 f0_3 r1_0 r1_1 r1_2 f1_0 f1_1 f1_2
  have P2_ : ∀ w', Vars w [(w.heap.size, 81, [.bool h0, .bool u1, .string c1, .string f1]), (w.heap.size + 1, 39, [.bool false, .string ⟨#[]⟩, .string ⟨#[]⟩])] w' → Vars w [(w.heap.size, 81, [.bool h0, .bool u1, .string c1, .string f1]), (w.heap.size + 1, 39, [.bool false, .string ⟨#[]⟩, .string ⟨#[]⟩])] w' ∧ w'.cell? ⟨w.heap.size, 0, none⟩ = some (.bool h0) ∧ w'.cell? ⟨w.heap.size, 1, none⟩ = some (.bool u1) ∧ w'.cell? ⟨w.heap.size, 2, none⟩ = some (.string c1) ∧ w'.cell? ⟨w.heap.size, 3, none⟩ = some (.string f1) ∧ w'.cell? ⟨w.heap.size + 1, 0, none⟩ = some (.bool false) ∧ w'.cell? ⟨w.heap.size + 1, 1, none⟩ = some (.string ⟨#[]⟩) ∧ w'.cell? ⟨w.heap.size + 1, 2, none⟩ = some (.string ⟨#[]⟩) := fun w' h => by
    obtain ⟨c0_0, c0_1, c0_2, c0_3, _⟩ := row4 (h.row 0 rfl)
    obtain ⟨c1_0, c1_1, c1_2, _⟩ := row3 (h.row 1 rfl)
    exact ⟨h, c0_0, c0_1, c0_2, c0_3, c1_0, c1_1, c1_2⟩
  go_cut [3] (fun sl wx => ∃ (g : Nat) (u : Bool) (c f : ByteArray), sl = .pointer (some ⟨g, 0, none⟩) ∧ Is (sinq T) u c f ∧ qs (sinq T) ≤ 4 * N + 60 ∧ Vars w ([(w.heap.size, 81, [.bool h0, .bool u1, .string c1, .string f1]), (w.heap.size + 1, 39, [.bool false, .string ⟨#[]⟩, .string ⟨#[]⟩]), (g, 39, [.bool u, .string c, .string f])]) wx)
  case first =>
    have L0 : Vars w [(w.heap.size, 81, [.bool h0, .bool u1, .string c1, .string f1]), (w.heap.size + 1, 39, [.bool false, .string ⟨#[]⟩, .string ⟨#[]⟩])] W1.drew := U1.drew.lead
    have M0 : Vars w [(w.heap.size, 81, [.bool h0, .bool u1, .string c1, .string f1]), (w.heap.size + 1, 39, [.bool false, .string ⟨#[]⟩, .string ⟨#[]⟩])] (W1.drew.alloc (.cells #[.bool false, .string ⟨#[]⟩, .string ⟨#[]⟩] 39)) := (U1.drew.push 39 [.bool false, .string ⟨#[]⟩, .string ⟨#[]⟩]).lead
    have Vst := U1.drew
    have Nst : Vars w ([(w.heap.size, 81, [.bool h0, .bool u1, .string c1, .string f1]), (w.heap.size + 1, 39, [.bool false, .string ⟨#[]⟩, .string ⟨#[]⟩]), (W1.heap.size, 39, [.bool false, .string ⟨#[]⟩, .string ⟨#[]⟩])]) (W1.alloc (.cells #[.bool false, .string ⟨#[]⟩, .string ⟨#[]⟩] 39)).drew := (U1.push 39 [.bool false, .string ⟨#[]⟩, .string ⟨#[]⟩]).drew
    have N0 : Vars w [(w.heap.size, 81, [.bool h0, .bool u1, .string c1, .string f1]), (w.heap.size + 1, 39, [.bool false, .string ⟨#[]⟩, .string ⟨#[]⟩])] (W1.alloc (.cells #[.bool false, .string ⟨#[]⟩, .string ⟨#[]⟩] 39)).drew := Nst.lead
    go_region_held3 (fun w' => Vars w [(w.heap.size, 81, [.bool h0, .bool u1, .string c1, .string f1]), (w.heap.size + 1, 39, [.bool false, .string ⟨#[]⟩, .string ⟨#[]⟩])] w' ∧ w'.cell? ⟨w.heap.size, 0, none⟩ = some (.bool h0) ∧ w'.cell? ⟨w.heap.size, 1, none⟩ = some (.bool u1) ∧ w'.cell? ⟨w.heap.size, 2, none⟩ = some (.string c1) ∧ w'.cell? ⟨w.heap.size, 3, none⟩ = some (.string f1) ∧ w'.cell? ⟨w.heap.size + 1, 0, none⟩ = some (.bool false) ∧ w'.cell? ⟨w.heap.size + 1, 1, none⟩ = some (.string ⟨#[]⟩) ∧ w'.cell? ⟨w.heap.size + 1, 2, none⟩ = some (.string ⟨#[]⟩))
      (with_reducible apply P2_; with_reducible assumption)
      (first
        | (go_at_call 99; have _g := hb5; refine (rDiv_any _ _ _ _ _ _ _ (by omega) (by omega) (by omega) (by omega) (by first | exact V5.tab hT | exact (V5.push 39 [.bool false, .string ⟨#[]⟩, .string ⟨#[]⟩]).tab hT)).mono ?_; rintro _ w6 ⟨u6, c6, f6, e6, rfl, hq6, hb6⟩; rw [i2.val] at hq6; rw [i5.val] at hq6; obtain ⟨rfl, i6⟩ := quot_nz hq6 (by rw [← X5.out, ← X3.out, ← X4.out]; exact one_sq _); clear hq6; obtain ⟨x6, hx6⟩ : ∃ x, x2 / x5 = x := ⟨_, rfl⟩; rw [hx6] at i6; (have z6 : qs x6 ≤ 4 * N + 43 := by (rw [← hx6]; have := qs_div x2 x5; omega)); have X6 := Lib.hid hx6; clear hx6; obtain ⟨s6a, s6b⟩ := i6.sz; (first | have V6 := V5.call hb6 | have V6 := (V5.push 39 [.bool false, .string ⟨#[]⟩, .string ⟨#[]⟩]).call hb6); have L6 : Vars w [(w.heap.size, 81, [.bool h0, .bool u1, .string c1, .string f1]), (w.heap.size + 1, 39, [.bool false, .string ⟨#[]⟩, .string ⟨#[]⟩])] w6 := V6.lead; have M6 : Vars w [(w.heap.size, 81, [.bool h0, .bool u1, .string c1, .string f1]), (w.heap.size + 1, 39, [.bool false, .string ⟨#[]⟩, .string ⟨#[]⟩])] (w6.alloc (.cells #[.bool false, .string ⟨#[]⟩, .string ⟨#[]⟩] 39)) := (L6.push 39 [.bool false, .string ⟨#[]⟩, .string ⟨#[]⟩]).lead; (first | obtain ⟨t0, t1, t2, tf0, tf1, tf2⟩ := row3 (V6.row 2 rfl) | obtain ⟨t0, t1, t2, tf0, tf1, tf2⟩ := row3 ((V6.push 39 [.bool false, .string ⟨#[]⟩, .string ⟨#[]⟩]).row 2 rfl)); (first | have VF := V6.put3 2 rfl (.bool u6) (.string c6) (.string f6) | have VF := V6.push 39 [.bool u6, .string c6, .string f6]); have LF := VF.lead (ls := [(w.heap.size, 81, [.bool h0, .bool u1, .string c1, .string f1]), (w.heap.size + 1, 39, [.bool false, .string ⟨#[]⟩, .string ⟨#[]⟩])]))
        | (go_at_call 52; have _g := hb4; refine (rAdd_any _ _ _ _ _ _ _ (by omega) (by omega) (by omega) (by omega) (by first | exact V4.tab hT | exact (V4.push 39 [.bool false, .string ⟨#[]⟩, .string ⟨#[]⟩]).tab hT)).mono ?_; rintro _ w5 ⟨u5, c5, f5, rfl, i5, hb5⟩; rw [i3.val] at i5; rw [i4.val] at i5; obtain ⟨x5, hx5⟩ : ∃ x, x3 + x4 = x := ⟨_, rfl⟩; rw [hx5] at i5; (have z5 : qs x5 ≤ 2 * N + 25 := by (rw [← hx5]; have := qs_add x3 x4; omega)); have X5 := Lib.hid hx5; clear hx5; obtain ⟨s5a, s5b⟩ := i5.sz; (first | have V5 := V4.call hb5 | have V5 := (V4.push 39 [.bool false, .string ⟨#[]⟩, .string ⟨#[]⟩]).call hb5); have L5 : Vars w [(w.heap.size, 81, [.bool h0, .bool u1, .string c1, .string f1]), (w.heap.size + 1, 39, [.bool false, .string ⟨#[]⟩, .string ⟨#[]⟩])] w5 := V5.lead; have M5 : Vars w [(w.heap.size, 81, [.bool h0, .bool u1, .string c1, .string f1]), (w.heap.size + 1, 39, [.bool false, .string ⟨#[]⟩, .string ⟨#[]⟩])] (w5.alloc (.cells #[.bool false, .string ⟨#[]⟩, .string ⟨#[]⟩] 39)) := (L5.push 39 [.bool false, .string ⟨#[]⟩, .string ⟨#[]⟩]).lead)
        | (go_at_call 53; have _g := hb3; refine (rMul_any _ _ _ _ _ _ _ (by omega) (by omega) (by omega) (by omega) (by first | exact V3.tab hT | exact (V3.push 39 [.bool false, .string ⟨#[]⟩, .string ⟨#[]⟩]).tab hT)).mono ?_; rintro _ w4 ⟨u4, c4, f4, rfl, i4, hb4⟩; rw [i1.val] at i4; obtain ⟨x4, hx4⟩ : ∃ x, T * T = x := ⟨_, rfl⟩; rw [hx4] at i4; (have z4 : qs x4 ≤ 2 * N + 16 := by (rw [← hx4]; have := qs_mul T T; omega)); have X4 := Lib.hid hx4; clear hx4; obtain ⟨s4a, s4b⟩ := i4.sz; (first | have V4 := V3.call hb4 | have V4 := (V3.push 39 [.bool false, .string ⟨#[]⟩, .string ⟨#[]⟩]).call hb4); have L4 : Vars w [(w.heap.size, 81, [.bool h0, .bool u1, .string c1, .string f1]), (w.heap.size + 1, 39, [.bool false, .string ⟨#[]⟩, .string ⟨#[]⟩])] w4 := V4.lead; have M4 : Vars w [(w.heap.size, 81, [.bool h0, .bool u1, .string c1, .string f1]), (w.heap.size + 1, 39, [.bool false, .string ⟨#[]⟩, .string ⟨#[]⟩])] (w4.alloc (.cells #[.bool false, .string ⟨#[]⟩, .string ⟨#[]⟩] 39)) := (L4.push 39 [.bool false, .string ⟨#[]⟩, .string ⟨#[]⟩]).lead)
        | (go_at_call 102; have _g := hb2; refine (rOf_any 1 _ (by decide) (by decide) (by first | exact V2.tab hT | exact (V2.push 39 [.bool false, .string ⟨#[]⟩, .string ⟨#[]⟩]).tab hT)).mono ?_; rintro _ w3 ⟨u3, c3, f3, rfl, i3, hb3⟩; obtain ⟨x3, hx3⟩ : ∃ x, ((1 : Int) : Rat) = x := ⟨_, rfl⟩; rw [hx3] at i3; (have z3 : qs x3 ≤ 8 := by (rw [← hx3]; have := qs_i64 (n := 1) (by decide) (by decide); omega)); have X3 := Lib.hid hx3; clear hx3; obtain ⟨s3a, s3b⟩ := i3.sz; (first | have V3 := V2.call hb3 | have V3 := (V2.push 39 [.bool false, .string ⟨#[]⟩, .string ⟨#[]⟩]).call hb3); have L3 : Vars w [(w.heap.size, 81, [.bool h0, .bool u1, .string c1, .string f1]), (w.heap.size + 1, 39, [.bool false, .string ⟨#[]⟩, .string ⟨#[]⟩])] w3 := V3.lead; have M3 : Vars w [(w.heap.size, 81, [.bool h0, .bool u1, .string c1, .string f1]), (w.heap.size + 1, 39, [.bool false, .string ⟨#[]⟩, .string ⟨#[]⟩])] (w3.alloc (.cells #[.bool false, .string ⟨#[]⟩, .string ⟨#[]⟩] 39)) := (L3.push 39 [.bool false, .string ⟨#[]⟩, .string ⟨#[]⟩]).lead)
        | (go_at_call 52; refine (rAdd_any _ _ _ _ _ _ _ (by omega) (by omega) (by omega) (by omega) (by first | exact Vst.tab hT | exact Nst.tab hT)).mono ?_; rintro _ w2 ⟨u2, c2, f2, rfl, i2, hb2⟩; rw [i1.val] at i2; obtain ⟨x2, hx2⟩ : ∃ x, T + T = x := ⟨_, rfl⟩; rw [hx2] at i2; (have z2 : qs x2 ≤ 2 * N + 17 := by (rw [← hx2]; have := qs_add T T; omega)); have X2 := Lib.hid hx2; clear hx2; obtain ⟨s2a, s2b⟩ := i2.sz; (first | have V2 := Vst.call hb2 | have V2 := Nst.call hb2); have L2 : Vars w [(w.heap.size, 81, [.bool h0, .bool u1, .string c1, .string f1]), (w.heap.size + 1, 39, [.bool false, .string ⟨#[]⟩, .string ⟨#[]⟩])] w2 := V2.lead; have M2 : Vars w [(w.heap.size, 81, [.bool h0, .bool u1, .string c1, .string f1]), (w.heap.size + 1, 39, [.bool false, .string ⟨#[]⟩, .string ⟨#[]⟩])] (w2.alloc (.cells #[.bool false, .string ⟨#[]⟩, .string ⟨#[]⟩] 39)) := (L2.push 39 [.bool false, .string ⟨#[]⟩, .string ⟨#[]⟩]).lead))
    all_goals
      go_wp2_with fail
      go_meet
      exact ⟨_, _, _, _, rfl, by unfold sinq; simp only [X2.out, X3.out, X4.out, X5.out, X6.out]; exact i6, by unfold sinq; simp only [X2.out, X3.out, X4.out, X5.out, X6.out]; omega, VF⟩
  case rest =>
    obtain ⟨g, u, c, f, rfl, iL, zL, VL⟩ := hcut
    obtain ⟨r0_0, r0_1, r0_2, r0_3, f0_0, f0_1, f0_2, f0_3⟩ := row4 (VL.row 0 rfl)
    obtain ⟨r1_0, r1_1, r1_2, f1_0, f1_1, f1_2⟩ := row3 (VL.row 1 rfl)
    obtain ⟨r2_0, r2_1, r2_2, f2_0, f2_1, f2_2⟩ := row3 (VL.row 2 rfl)
    have U2 : Vars w [(w.heap.size, 81, [.bool h0, .bool u1, .string c1, .string f1]), (w.heap.size + 1, 39, [.bool u, .string c, .string f]), (g, 39, [.bool u, .string c, .string f])] _ := VL.put3 1 rfl (.bool u) (.string c) (.string f)
    go_wp2_with fail
    refine bodyPost_ret (results_rat rfl _ rfl (U2.row 1 rfl)) rfl ?_
    exact ⟨_, _, _, rfl, iL, zL, U2.1⟩

set_option maxHeartbeats 4000000 in
set_option maxRecDepth 100000 in
theorem RCircle_any (h0 : Bool) (s00 : Bool) (a00 d00 : ByteArray) (N : Nat) (w : World) (hN1 : 1 ≤ N) (hN : N ≤ 1073741824) (ha00 : a00.size ≤ N) (hd00 : d00.size ≤ N) (hT : Tab w) :
    Calls Tryd.prog 69 #[.agg #[.bool h0, .bool s00, .string a00, .string d00]] w fun x w' => Two (circ h0 (qv s00 a00 d00)) (sirc h0 (qv s00 a00 d00)) (4 * N + 80) w x w' := by
  cases h0 with
  | true =>
    have V0 := vars3 w 81 39 39 [.bool true, .bool s00, .string a00, .string d00] [.bool false, .string ⟨#[]⟩, .string ⟨#[]⟩] [.bool false, .string ⟨#[]⟩, .string ⟨#[]⟩]
    have zp00 : qs (qv s00 a00 d00) ≤ N := Nat.le_trans (qs_qv s00 a00 d00) (by omega)
    obtain ⟨p00, hp00⟩ : ∃ p, qv s00 a00 d00 = p := ⟨_, rfl⟩
    rw [hp00] at zp00 ⊢
    have P00 := Lib.hid hp00
    clear hp00
    go_enter Tryd.func69, Tryd.ntmps69
    go_wp2_with fail
    refine (I_any (-1) _ (by decide) (by decide) (V0.tab hT)).mono ?_
    rintro _ w1 ⟨u1, c1, f1, rfl, i1, hb1⟩
    obtain ⟨x1, hx1⟩ : ∃ x, (((-1) : Int) : Rat) = x := ⟨_, rfl⟩
    rw [hx1] at i1
    (have z1 : qs x1 ≤ 8 := by (rw [← hx1]; have := qs_i64 (n := (-1)) (by decide) (by decide); omega))
    have X1 := Lib.hid hx1
    clear hx1
    obtain ⟨s1a, s1b⟩ := i1.sz
    have V1 := V0.call hb1
    obtain ⟨r0_0, r0_1, r0_2, r0_3, f0_0, f0_1, f0_2, f0_3⟩ := row4 (V1.row 0 rfl)
    obtain ⟨r1_0, r1_1, r1_2, f1_0, f1_1, f1_2⟩ := row3 (V1.row 1 rfl)
    obtain ⟨r2_0, r2_1, r2_2, f2_0, f2_1, f2_2⟩ := row3 (V1.row 2 rfl)
    go_wp2_with fail
    refine (I_any 0 _ (by decide) (by decide) (V1.tab hT)).mono ?_
    rintro _ w2 ⟨u2, c2, f2, rfl, i2, hb2⟩
    obtain ⟨x2, hx2⟩ : ∃ x, ((0 : Int) : Rat) = x := ⟨_, rfl⟩
    rw [hx2] at i2
    (have z2 : qs x2 ≤ 8 := by (rw [← hx2]; have := qs_i64 (n := 0) (by decide) (by decide); omega))
    have X2 := Lib.hid hx2
    clear hx2
    obtain ⟨s2a, s2b⟩ := i2.sz
    have V2 := V1.call hb2
    clear r0_0 r0_1 r0_2 r0_3 f0_0 f0_1 f0_2 f0_3 r1_0 r1_1 r1_2 f1_0 f1_1 f1_2 r2_0 r2_1 r2_2 f2_0 f2_1 f2_2
    obtain ⟨r0_0, r0_1, r0_2, r0_3, f0_0, f0_1, f0_2, f0_3⟩ := row4 (V2.row 0 rfl)
    obtain ⟨r1_0, r1_1, r1_2, f1_0, f1_1, f1_2⟩ := row3 (V2.row 1 rfl)
    obtain ⟨r2_0, r2_1, r2_2, f2_0, f2_1, f2_2⟩ := row3 (V2.row 2 rfl)
    have U1 : Vars w [(w.heap.size, 81, [.bool true, .bool s00, .string a00, .string d00]), (w.heap.size + 1, 39, [.bool u1, .string c1, .string f1]), (w.heap.size + 1 + 1, 39, [.bool false, .string ⟨#[]⟩, .string ⟨#[]⟩])] _ := V2.put3 1 rfl (.bool u1) (.string c1) (.string f1)
    have U2 : Vars w [(w.heap.size, 81, [.bool true, .bool s00, .string a00, .string d00]), (w.heap.size + 1, 39, [.bool u1, .string c1, .string f1]), (w.heap.size + 1 + 1, 39, [.bool u2, .string c2, .string f2])] _ := U1.put3 2 rfl (.bool u2) (.string c2) (.string f2)
    go_wp2_with fail
    refine bodyPost_ret (results_two rfl _ rfl rfl (U2.row 1 rfl) (U2.row 2 rfl)) rfl ?_
    exact ⟨_, _, _, _, _, _, rfl, by rw [show circ true p00 = ((-1 : Int) : Rat) from rfl, X1.out]; exact i1, by rw [show sirc true p00 = ((0 : Int) : Rat) from rfl, X2.out]; exact i2, by rw [show circ true p00 = ((-1 : Int) : Rat) from rfl, X1.out]; omega, by rw [show sirc true p00 = ((0 : Int) : Rat) from rfl, X2.out]; omega, U2.1⟩
  | false =>
    have V0 := vars3 w 81 39 39 [.bool false, .bool s00, .string a00, .string d00] [.bool false, .string ⟨#[]⟩, .string ⟨#[]⟩] [.bool false, .string ⟨#[]⟩, .string ⟨#[]⟩]
    have zp00 : qs (qv s00 a00 d00) ≤ N := Nat.le_trans (qs_qv s00 a00 d00) (by omega)
    obtain ⟨p00, hp00⟩ : ∃ p, qv s00 a00 d00 = p := ⟨_, rfl⟩
    rw [hp00] at zp00 ⊢
    have P00 := Lib.hid hp00
    clear hp00
    go_enter Tryd.func69, Tryd.ntmps69
    obtain ⟨r0_0, r0_1, r0_2, r0_3, f0_0, f0_1, f0_2, f0_3⟩ := row4 (V0.row 0 rfl)
    obtain ⟨r1_0, r1_1, r1_2, f1_0, f1_1, f1_2⟩ := row3 (V0.row 1 rfl)
    obtain ⟨r2_0, r2_1, r2_2, f2_0, f2_1, f2_2⟩ := row3 (V0.row 2 rfl)
    go_wp2_with fail
    refine (plain_any _ _ _ N _ hN1 hN (by omega) (by omega) (V0.tab hT)).mono ?_
    rintro _ w1 ⟨u1, c1, f1, rfl, i1, z1, hb1⟩
    rw [P00.out] at i1 z1
    obtain ⟨x1, hx1⟩ : ∃ x, p00 + ((0 : Int) : Rat) = x := ⟨_, rfl⟩
    rw [hx1] at i1 z1
    have X1 := Lib.hid hx1
    clear hx1
    obtain ⟨s1a, s1b⟩ := i1.sz
    have V1 := V0.call hb1
    clear r0_0 r0_1 r0_2 r0_3 f0_0 f0_1 f0_2 f0_3 r1_0 r1_1 r1_2 f1_0 f1_1 f1_2 r2_0 r2_1 r2_2 f2_0 f2_1 f2_2
    obtain ⟨r0_0, r0_1, r0_2, r0_3, f0_0, f0_1, f0_2, f0_3⟩ := row4 (V1.row 0 rfl)
    obtain ⟨r1_0, r1_1, r1_2, f1_0, f1_1, f1_2⟩ := row3 (V1.row 1 rfl)
    obtain ⟨r2_0, r2_1, r2_2, f2_0, f2_1, f2_2⟩ := row3 (V1.row 2 rfl)
    have U1 : Vars w [(w.heap.size, 81, [.bool false, .bool s00, .string a00, .string d00]), (w.heap.size + 1, 39, [.bool false, .string ⟨#[]⟩, .string ⟨#[]⟩]), (w.heap.size + 1 + 1, 39, [.bool false, .string ⟨#[]⟩, .string ⟨#[]⟩]), (w1.heap.size, 39, [.bool u1, .string c1, .string f1])] (w1.alloc (.cells #[.bool u1, .string c1, .string f1] 39)) := by have h := V1.push 39 [.bool u1, .string c1, .string f1]; exact h
    obtain ⟨t, ht⟩ : ∃ t, x1 = t := ⟨_, rfl⟩
    rw [ht] at i1 z1 s1a s1b
    have HX := Lib.hid (show p00 + ((0 : Int) : Rat) = t by rw [X1.out, ht])
    clear ht X1
    go_upto_region 4 with fail
    obtain ⟨W1, hW1⟩ : ∃ W, W = (w1.alloc (.cells #[.bool u1, .string c1, .string f1] 39)) := ⟨_, rfl⟩
    rw [← hW1] at U1 ⊢
    clear hW1
    clear r0_0 r0_1 r0_2 r0_3 f0_0 f0_1 f0_2 f0_3 r1_0 r1_1 r1_2 f1_0 f1_1 f1_2 r2_0 r2_1 r2_2 f2_0 f2_1 f2_2
    have P4_ : ∀ w', Vars w [(w.heap.size, 81, [.bool false, .bool s00, .string a00, .string d00]), (w.heap.size + 1, 39, [.bool false, .string ⟨#[]⟩, .string ⟨#[]⟩]), (w.heap.size + 1 + 1, 39, [.bool false, .string ⟨#[]⟩, .string ⟨#[]⟩]), (w1.heap.size, 39, [.bool u1, .string c1, .string f1])] w' → Vars w [(w.heap.size, 81, [.bool false, .bool s00, .string a00, .string d00]), (w.heap.size + 1, 39, [.bool false, .string ⟨#[]⟩, .string ⟨#[]⟩]), (w.heap.size + 1 + 1, 39, [.bool false, .string ⟨#[]⟩, .string ⟨#[]⟩]), (w1.heap.size, 39, [.bool u1, .string c1, .string f1])] w' ∧ w'.cell? ⟨w.heap.size, 0, none⟩ = some (.bool false) ∧ w'.cell? ⟨w.heap.size, 1, none⟩ = some (.bool s00) ∧ w'.cell? ⟨w.heap.size, 2, none⟩ = some (.string a00) ∧ w'.cell? ⟨w.heap.size, 3, none⟩ = some (.string d00) ∧ w'.cell? ⟨w.heap.size + 1, 0, none⟩ = some (.bool false) ∧ w'.cell? ⟨w.heap.size + 1, 1, none⟩ = some (.string ⟨#[]⟩) ∧ w'.cell? ⟨w.heap.size + 1, 2, none⟩ = some (.string ⟨#[]⟩) ∧ w'.cell? ⟨w.heap.size + 1 + 1, 0, none⟩ = some (.bool false) ∧ w'.cell? ⟨w.heap.size + 1 + 1, 1, none⟩ = some (.string ⟨#[]⟩) ∧ w'.cell? ⟨w.heap.size + 1 + 1, 2, none⟩ = some (.string ⟨#[]⟩) ∧ w'.cell? ⟨w1.heap.size, 0, none⟩ = some (.bool u1) ∧ w'.cell? ⟨w1.heap.size, 1, none⟩ = some (.string c1) ∧ w'.cell? ⟨w1.heap.size, 2, none⟩ = some (.string f1) := fun w' h => by
      obtain ⟨c0_0, c0_1, c0_2, c0_3, _⟩ := row4 (h.row 0 rfl)
      obtain ⟨c1_0, c1_1, c1_2, _⟩ := row3 (h.row 1 rfl)
      obtain ⟨c2_0, c2_1, c2_2, _⟩ := row3 (h.row 2 rfl)
      obtain ⟨c3_0, c3_1, c3_2, _⟩ := row3 (h.row 3 rfl)
      exact ⟨h, c0_0, c0_1, c0_2, c0_3, c1_0, c1_1, c1_2, c2_0, c2_1, c2_2, c3_0, c3_1, c3_2⟩
    go_cut [5] (fun sl wx => ∃ (g : Nat) (u : Bool) (c f : ByteArray), sl = .pointer (some ⟨g, 0, none⟩) ∧ Is (((2 : Int) : Rat) / (((1 : Int) : Rat) + t * t)) u c f ∧ qs (((2 : Int) : Rat) / (((1 : Int) : Rat) + t * t)) ≤ 2 * N + 60 ∧ Vars w ([(w.heap.size, 81, [.bool false, .bool s00, .string a00, .string d00]), (w.heap.size + 1, 39, [.bool false, .string ⟨#[]⟩, .string ⟨#[]⟩]), (w.heap.size + 1 + 1, 39, [.bool false, .string ⟨#[]⟩, .string ⟨#[]⟩]), (w1.heap.size, 39, [.bool u1, .string c1, .string f1]), (g, 39, [.bool u, .string c, .string f])]) wx)
    case first =>
      have L0 : Vars w [(w.heap.size, 81, [.bool false, .bool s00, .string a00, .string d00]), (w.heap.size + 1, 39, [.bool false, .string ⟨#[]⟩, .string ⟨#[]⟩]), (w.heap.size + 1 + 1, 39, [.bool false, .string ⟨#[]⟩, .string ⟨#[]⟩]), (w1.heap.size, 39, [.bool u1, .string c1, .string f1])] W1.drew := U1.drew.lead
      have M0 : Vars w [(w.heap.size, 81, [.bool false, .bool s00, .string a00, .string d00]), (w.heap.size + 1, 39, [.bool false, .string ⟨#[]⟩, .string ⟨#[]⟩]), (w.heap.size + 1 + 1, 39, [.bool false, .string ⟨#[]⟩, .string ⟨#[]⟩]), (w1.heap.size, 39, [.bool u1, .string c1, .string f1])] (W1.drew.alloc (.cells #[.bool false, .string ⟨#[]⟩, .string ⟨#[]⟩] 39)) := (U1.drew.push 39 [.bool false, .string ⟨#[]⟩, .string ⟨#[]⟩]).lead
      have Vst := U1.drew
      have Nst : Vars w ([(w.heap.size, 81, [.bool false, .bool s00, .string a00, .string d00]), (w.heap.size + 1, 39, [.bool false, .string ⟨#[]⟩, .string ⟨#[]⟩]), (w.heap.size + 1 + 1, 39, [.bool false, .string ⟨#[]⟩, .string ⟨#[]⟩]), (w1.heap.size, 39, [.bool u1, .string c1, .string f1]), (W1.heap.size, 39, [.bool false, .string ⟨#[]⟩, .string ⟨#[]⟩])]) (W1.alloc (.cells #[.bool false, .string ⟨#[]⟩, .string ⟨#[]⟩] 39)).drew := (U1.push 39 [.bool false, .string ⟨#[]⟩, .string ⟨#[]⟩]).drew
      have N0 : Vars w [(w.heap.size, 81, [.bool false, .bool s00, .string a00, .string d00]), (w.heap.size + 1, 39, [.bool false, .string ⟨#[]⟩, .string ⟨#[]⟩]), (w.heap.size + 1 + 1, 39, [.bool false, .string ⟨#[]⟩, .string ⟨#[]⟩]), (w1.heap.size, 39, [.bool u1, .string c1, .string f1])] (W1.alloc (.cells #[.bool false, .string ⟨#[]⟩, .string ⟨#[]⟩] 39)).drew := Nst.lead
      go_region_held3 (fun w' => Vars w [(w.heap.size, 81, [.bool false, .bool s00, .string a00, .string d00]), (w.heap.size + 1, 39, [.bool false, .string ⟨#[]⟩, .string ⟨#[]⟩]), (w.heap.size + 1 + 1, 39, [.bool false, .string ⟨#[]⟩, .string ⟨#[]⟩]), (w1.heap.size, 39, [.bool u1, .string c1, .string f1])] w' ∧ w'.cell? ⟨w.heap.size, 0, none⟩ = some (.bool false) ∧ w'.cell? ⟨w.heap.size, 1, none⟩ = some (.bool s00) ∧ w'.cell? ⟨w.heap.size, 2, none⟩ = some (.string a00) ∧ w'.cell? ⟨w.heap.size, 3, none⟩ = some (.string d00) ∧ w'.cell? ⟨w.heap.size + 1, 0, none⟩ = some (.bool false) ∧ w'.cell? ⟨w.heap.size + 1, 1, none⟩ = some (.string ⟨#[]⟩) ∧ w'.cell? ⟨w.heap.size + 1, 2, none⟩ = some (.string ⟨#[]⟩) ∧ w'.cell? ⟨w.heap.size + 1 + 1, 0, none⟩ = some (.bool false) ∧ w'.cell? ⟨w.heap.size + 1 + 1, 1, none⟩ = some (.string ⟨#[]⟩) ∧ w'.cell? ⟨w.heap.size + 1 + 1, 2, none⟩ = some (.string ⟨#[]⟩) ∧ w'.cell? ⟨w1.heap.size, 0, none⟩ = some (.bool u1) ∧ w'.cell? ⟨w1.heap.size, 1, none⟩ = some (.string c1) ∧ w'.cell? ⟨w1.heap.size, 2, none⟩ = some (.string f1))
        (with_reducible apply P4_; with_reducible assumption)
        (first
          | (go_at_call 99; have _g := hb5; refine (rDiv_any _ _ _ _ _ _ _ (by omega) (by omega) (by omega) (by omega) (by first | exact V5.tab hT | exact (V5.push 39 [.bool false, .string ⟨#[]⟩, .string ⟨#[]⟩]).tab hT)).mono ?_; rintro _ w6 ⟨u6, c6, f6, e6, rfl, hq6, hb6⟩; rw [i2.val] at hq6; rw [i5.val] at hq6; obtain ⟨rfl, i6⟩ := quot_nz hq6 (by rw [← X5.out, ← X3.out, ← X4.out]; exact one_sq _); clear hq6; obtain ⟨x6, hx6⟩ : ∃ x, x2 / x5 = x := ⟨_, rfl⟩; rw [hx6] at i6; (have z6 : qs x6 ≤ 2 * N + 36 := by (rw [← hx6]; have := qs_div x2 x5; omega)); have X6 := Lib.hid hx6; clear hx6; obtain ⟨s6a, s6b⟩ := i6.sz; (first | have V6 := V5.call hb6 | have V6 := (V5.push 39 [.bool false, .string ⟨#[]⟩, .string ⟨#[]⟩]).call hb6); have L6 : Vars w [(w.heap.size, 81, [.bool false, .bool s00, .string a00, .string d00]), (w.heap.size + 1, 39, [.bool false, .string ⟨#[]⟩, .string ⟨#[]⟩]), (w.heap.size + 1 + 1, 39, [.bool false, .string ⟨#[]⟩, .string ⟨#[]⟩]), (w1.heap.size, 39, [.bool u1, .string c1, .string f1])] w6 := V6.lead; have M6 : Vars w [(w.heap.size, 81, [.bool false, .bool s00, .string a00, .string d00]), (w.heap.size + 1, 39, [.bool false, .string ⟨#[]⟩, .string ⟨#[]⟩]), (w.heap.size + 1 + 1, 39, [.bool false, .string ⟨#[]⟩, .string ⟨#[]⟩]), (w1.heap.size, 39, [.bool u1, .string c1, .string f1])] (w6.alloc (.cells #[.bool false, .string ⟨#[]⟩, .string ⟨#[]⟩] 39)) := (L6.push 39 [.bool false, .string ⟨#[]⟩, .string ⟨#[]⟩]).lead; (first | obtain ⟨t0, t1, t2, tf0, tf1, tf2⟩ := row3 (V6.row 4 rfl) | obtain ⟨t0, t1, t2, tf0, tf1, tf2⟩ := row3 ((V6.push 39 [.bool false, .string ⟨#[]⟩, .string ⟨#[]⟩]).row 4 rfl)); (first | have VF := V6.put3 4 rfl (.bool u6) (.string c6) (.string f6) | have VF := V6.push 39 [.bool u6, .string c6, .string f6]); have LF := VF.lead (ls := [(w.heap.size, 81, [.bool false, .bool s00, .string a00, .string d00]), (w.heap.size + 1, 39, [.bool false, .string ⟨#[]⟩, .string ⟨#[]⟩]), (w.heap.size + 1 + 1, 39, [.bool false, .string ⟨#[]⟩, .string ⟨#[]⟩]), (w1.heap.size, 39, [.bool u1, .string c1, .string f1])]))
          | (go_at_call 52; have _g := hb4; refine (rAdd_any _ _ _ _ _ _ _ (by omega) (by omega) (by omega) (by omega) (by first | exact V4.tab hT | exact (V4.push 39 [.bool false, .string ⟨#[]⟩, .string ⟨#[]⟩]).tab hT)).mono ?_; rintro _ w5 ⟨u5, c5, f5, rfl, i5, hb5⟩; rw [i3.val] at i5; rw [i4.val] at i5; obtain ⟨x5, hx5⟩ : ∃ x, x3 + x4 = x := ⟨_, rfl⟩; rw [hx5] at i5; (have z5 : qs x5 ≤ 2 * N + 27 := by (rw [← hx5]; have := qs_add x3 x4; omega)); have X5 := Lib.hid hx5; clear hx5; obtain ⟨s5a, s5b⟩ := i5.sz; (first | have V5 := V4.call hb5 | have V5 := (V4.push 39 [.bool false, .string ⟨#[]⟩, .string ⟨#[]⟩]).call hb5); have L5 : Vars w [(w.heap.size, 81, [.bool false, .bool s00, .string a00, .string d00]), (w.heap.size + 1, 39, [.bool false, .string ⟨#[]⟩, .string ⟨#[]⟩]), (w.heap.size + 1 + 1, 39, [.bool false, .string ⟨#[]⟩, .string ⟨#[]⟩]), (w1.heap.size, 39, [.bool u1, .string c1, .string f1])] w5 := V5.lead; have M5 : Vars w [(w.heap.size, 81, [.bool false, .bool s00, .string a00, .string d00]), (w.heap.size + 1, 39, [.bool false, .string ⟨#[]⟩, .string ⟨#[]⟩]), (w.heap.size + 1 + 1, 39, [.bool false, .string ⟨#[]⟩, .string ⟨#[]⟩]), (w1.heap.size, 39, [.bool u1, .string c1, .string f1])] (w5.alloc (.cells #[.bool false, .string ⟨#[]⟩, .string ⟨#[]⟩] 39)) := (L5.push 39 [.bool false, .string ⟨#[]⟩, .string ⟨#[]⟩]).lead)
          | (go_at_call 53; have _g := hb3; refine (rMul_any _ _ _ _ _ _ _ (by omega) (by omega) (by omega) (by omega) (by first | exact V3.tab hT | exact (V3.push 39 [.bool false, .string ⟨#[]⟩, .string ⟨#[]⟩]).tab hT)).mono ?_; rintro _ w4 ⟨u4, c4, f4, rfl, i4, hb4⟩; rw [i1.val] at i4; obtain ⟨x4, hx4⟩ : ∃ x, t * t = x := ⟨_, rfl⟩; rw [hx4] at i4; (have z4 : qs x4 ≤ 2 * N + 18 := by (rw [← hx4]; have := qs_mul t t; omega)); have X4 := Lib.hid hx4; clear hx4; obtain ⟨s4a, s4b⟩ := i4.sz; (first | have V4 := V3.call hb4 | have V4 := (V3.push 39 [.bool false, .string ⟨#[]⟩, .string ⟨#[]⟩]).call hb4); have L4 : Vars w [(w.heap.size, 81, [.bool false, .bool s00, .string a00, .string d00]), (w.heap.size + 1, 39, [.bool false, .string ⟨#[]⟩, .string ⟨#[]⟩]), (w.heap.size + 1 + 1, 39, [.bool false, .string ⟨#[]⟩, .string ⟨#[]⟩]), (w1.heap.size, 39, [.bool u1, .string c1, .string f1])] w4 := V4.lead; have M4 : Vars w [(w.heap.size, 81, [.bool false, .bool s00, .string a00, .string d00]), (w.heap.size + 1, 39, [.bool false, .string ⟨#[]⟩, .string ⟨#[]⟩]), (w.heap.size + 1 + 1, 39, [.bool false, .string ⟨#[]⟩, .string ⟨#[]⟩]), (w1.heap.size, 39, [.bool u1, .string c1, .string f1])] (w4.alloc (.cells #[.bool false, .string ⟨#[]⟩, .string ⟨#[]⟩] 39)) := (L4.push 39 [.bool false, .string ⟨#[]⟩, .string ⟨#[]⟩]).lead)
          | (go_at_call 51; have _g := hb2; refine (I_any 1 _ (by decide) (by decide) (by first | exact V2.tab hT | exact (V2.push 39 [.bool false, .string ⟨#[]⟩, .string ⟨#[]⟩]).tab hT)).mono ?_; rintro _ w3 ⟨u3, c3, f3, rfl, i3, hb3⟩; obtain ⟨x3, hx3⟩ : ∃ x, ((1 : Int) : Rat) = x := ⟨_, rfl⟩; rw [hx3] at i3; (have z3 : qs x3 ≤ 8 := by (rw [← hx3]; have := qs_i64 (n := 1) (by decide) (by decide); omega)); have X3 := Lib.hid hx3; clear hx3; obtain ⟨s3a, s3b⟩ := i3.sz; (first | have V3 := V2.call hb3 | have V3 := (V2.push 39 [.bool false, .string ⟨#[]⟩, .string ⟨#[]⟩]).call hb3); have L3 : Vars w [(w.heap.size, 81, [.bool false, .bool s00, .string a00, .string d00]), (w.heap.size + 1, 39, [.bool false, .string ⟨#[]⟩, .string ⟨#[]⟩]), (w.heap.size + 1 + 1, 39, [.bool false, .string ⟨#[]⟩, .string ⟨#[]⟩]), (w1.heap.size, 39, [.bool u1, .string c1, .string f1])] w3 := V3.lead; have M3 : Vars w [(w.heap.size, 81, [.bool false, .bool s00, .string a00, .string d00]), (w.heap.size + 1, 39, [.bool false, .string ⟨#[]⟩, .string ⟨#[]⟩]), (w.heap.size + 1 + 1, 39, [.bool false, .string ⟨#[]⟩, .string ⟨#[]⟩]), (w1.heap.size, 39, [.bool u1, .string c1, .string f1])] (w3.alloc (.cells #[.bool false, .string ⟨#[]⟩, .string ⟨#[]⟩] 39)) := (L3.push 39 [.bool false, .string ⟨#[]⟩, .string ⟨#[]⟩]).lead)
          | (go_at_call 51; refine (I_any 2 _ (by decide) (by decide) (by first | exact Vst.tab hT | exact Nst.tab hT)).mono ?_; rintro _ w2 ⟨u2, c2, f2, rfl, i2, hb2⟩; obtain ⟨x2, hx2⟩ : ∃ x, ((2 : Int) : Rat) = x := ⟨_, rfl⟩; rw [hx2] at i2; (have z2 : qs x2 ≤ 8 := by (rw [← hx2]; have := qs_i64 (n := 2) (by decide) (by decide); omega)); have X2 := Lib.hid hx2; clear hx2; obtain ⟨s2a, s2b⟩ := i2.sz; (first | have V2 := Vst.call hb2 | have V2 := Nst.call hb2); have L2 : Vars w [(w.heap.size, 81, [.bool false, .bool s00, .string a00, .string d00]), (w.heap.size + 1, 39, [.bool false, .string ⟨#[]⟩, .string ⟨#[]⟩]), (w.heap.size + 1 + 1, 39, [.bool false, .string ⟨#[]⟩, .string ⟨#[]⟩]), (w1.heap.size, 39, [.bool u1, .string c1, .string f1])] w2 := V2.lead; have M2 : Vars w [(w.heap.size, 81, [.bool false, .bool s00, .string a00, .string d00]), (w.heap.size + 1, 39, [.bool false, .string ⟨#[]⟩, .string ⟨#[]⟩]), (w.heap.size + 1 + 1, 39, [.bool false, .string ⟨#[]⟩, .string ⟨#[]⟩]), (w1.heap.size, 39, [.bool u1, .string c1, .string f1])] (w2.alloc (.cells #[.bool false, .string ⟨#[]⟩, .string ⟨#[]⟩] 39)) := (L2.push 39 [.bool false, .string ⟨#[]⟩, .string ⟨#[]⟩]).lead))
      all_goals
        go_wp2_with fail
        go_meet
        exact ⟨_, _, _, _, rfl, by simp only [X2.out, X3.out, X4.out, X5.out, X6.out]; exact i6, by simp only [X2.out, X3.out, X4.out, X5.out, X6.out]; omega, VF⟩
    case rest =>
      obtain ⟨g, u, c, f, rfl, iL, zL, VL⟩ := hcut
      obtain ⟨y, hy⟩ : ∃ y, (((2 : Int) : Rat) / (((1 : Int) : Rat) + t * t)) = y := ⟨_, rfl⟩
      rw [hy] at iL zL
      have HY := Lib.hid hy
      clear hy
      obtain ⟨sLa, sLb⟩ := iL.sz
      go_upto_region 5 with fail
      have P5_ : ∀ (y1_0 y1_1 y1_2 y2_0 y2_1 y2_2 : Value) (w' : World), Vars w [(w.heap.size, 81, [.bool false, .bool s00, .string a00, .string d00]), (w.heap.size + 1, 39, [y1_0, y1_1, y1_2]), (w.heap.size + 1 + 1, 39, [y2_0, y2_1, y2_2]), (w1.heap.size, 39, [.bool u1, .string c1, .string f1]), (g, 39, [.bool u, .string c, .string f])] w' → w'.cell? ⟨w.heap.size, 0, none⟩ = some (.bool false) ∧ w'.cell? ⟨w.heap.size, 1, none⟩ = some (.bool s00) ∧ w'.cell? ⟨w.heap.size, 2, none⟩ = some (.string a00) ∧ w'.cell? ⟨w.heap.size, 3, none⟩ = some (.string d00) ∧ w'.cell? ⟨w1.heap.size, 0, none⟩ = some (.bool u1) ∧ w'.cell? ⟨w1.heap.size, 1, none⟩ = some (.string c1) ∧ w'.cell? ⟨w1.heap.size, 2, none⟩ = some (.string f1) ∧ w'.cell? ⟨g, 0, none⟩ = some (.bool u) ∧ w'.cell? ⟨g, 1, none⟩ = some (.string c) ∧ w'.cell? ⟨g, 2, none⟩ = some (.string f) := fun y1_0 y1_1 y1_2 y2_0 y2_1 y2_2 w' h => by
        obtain ⟨c0_0, c0_1, c0_2, c0_3, _⟩ := row4 (h.row 0 rfl)
        obtain ⟨c3_0, c3_1, c3_2, _⟩ := row3 (h.row 3 rfl)
        obtain ⟨c4_0, c4_1, c4_2, _⟩ := row3 (h.row 4 rfl)
        exact ⟨c0_0, c0_1, c0_2, c0_3, c3_0, c3_1, c3_2, c4_0, c4_1, c4_2⟩
      have Vst := VL.drew
      go_region_held3 (fun w' => w'.cell? ⟨w.heap.size, 0, none⟩ = some (.bool false) ∧ w'.cell? ⟨w.heap.size, 1, none⟩ = some (.bool s00) ∧ w'.cell? ⟨w.heap.size, 2, none⟩ = some (.string a00) ∧ w'.cell? ⟨w.heap.size, 3, none⟩ = some (.string d00) ∧ w'.cell? ⟨w1.heap.size, 0, none⟩ = some (.bool u1) ∧ w'.cell? ⟨w1.heap.size, 1, none⟩ = some (.string c1) ∧ w'.cell? ⟨w1.heap.size, 2, none⟩ = some (.string f1) ∧ w'.cell? ⟨g, 0, none⟩ = some (.bool u) ∧ w'.cell? ⟨g, 1, none⟩ = some (.string c) ∧ w'.cell? ⟨g, 2, none⟩ = some (.string f))
        (with_reducible apply P5_; with_reducible assumption)
        (first
          | (go_at_call 53; have _g := hb8; refine (rMul_any _ _ _ _ _ _ _ (by omega) (by omega) (by omega) (by omega) (V8.tab hT)).mono ?_; rintro _ w9 ⟨u9, c9, f9, rfl, i9, hb9⟩; rw [i1.val] at i9; rw [iL.val] at i9; obtain ⟨x9, hx9⟩ : ∃ x, t * y = x := ⟨_, rfl⟩; rw [hx9] at i9; (have z9 : qs x9 ≤ 3 * N + 69 := by (rw [← hx9]; have := qs_mul t y; omega)); have X9 := Lib.hid hx9; clear hx9; obtain ⟨s9a, s9b⟩ := i9.sz; have V9 := V8.call hb9; obtain ⟨t1_0, t1_1, t1_2, t1_f0, t1_f1, t1_f2⟩ := row3 (V9.row 1 rfl); obtain ⟨t2_0, t2_1, t2_2, t2_f0, t2_f1, t2_f2⟩ := row3 (V9.row 2 rfl); have VG0 := V9.put3 1 rfl (.bool u8) (.string c8) (.string f8); have VF0 : Vars w [(w.heap.size, 81, [.bool false, .bool s00, .string a00, .string d00]), (w.heap.size + 1, 39, [.bool u8, .string c8, .string f8]), (w.heap.size + 1 + 1, 39, [.bool false, .string ⟨#[]⟩, .string ⟨#[]⟩]), (w1.heap.size, 39, [.bool u1, .string c1, .string f1]), (g, 39, [.bool u, .string c, .string f])] (((w9.setCell ⟨w.heap.size + 1, 0, none⟩ (.bool u8)).setCell ⟨w.heap.size + 1, 1, none⟩ (.string c8)).setCell ⟨w.heap.size + 1, 2, none⟩ (.string f8)) := VG0; clear VG0; have VG1 := VF0.put3 2 rfl (.bool u9) (.string c9) (.string f9); have VF1 : Vars w [(w.heap.size, 81, [.bool false, .bool s00, .string a00, .string d00]), (w.heap.size + 1, 39, [.bool u8, .string c8, .string f8]), (w.heap.size + 1 + 1, 39, [.bool u9, .string c9, .string f9]), (w1.heap.size, 39, [.bool u1, .string c1, .string f1]), (g, 39, [.bool u, .string c, .string f])] ((((((w9.setCell ⟨w.heap.size + 1, 0, none⟩ (.bool u8)).setCell ⟨w.heap.size + 1, 1, none⟩ (.string c8)).setCell ⟨w.heap.size + 1, 2, none⟩ (.string f8)).setCell ⟨w.heap.size + 1 + 1, 0, none⟩ (.bool u9)).setCell ⟨w.heap.size + 1 + 1, 1, none⟩ (.string c9)).setCell ⟨w.heap.size + 1 + 1, 2, none⟩ (.string f9)) := VG1; clear VG1)
          | (go_at_call 117; have _g := hb7; refine (rSub_any _ _ _ _ _ _ _ (by omega) (by omega) (by omega) (by omega) (V7.tab hT)).mono ?_; rintro _ w8 ⟨u8, c8, f8, rfl, i8, hb8⟩; rw [iL.val] at i8; rw [i7.val] at i8; obtain ⟨x8, hx8⟩ : ∃ x, y - x7 = x := ⟨_, rfl⟩; rw [hx8] at i8; (have z8 : qs x8 ≤ 2 * N + 69 := by (rw [← hx8]; have := qs_sub y x7; omega)); have X8 := Lib.hid hx8; clear hx8; obtain ⟨s8a, s8b⟩ := i8.sz; have V8 := V7.call hb8)
          | (go_at_call 51; refine (I_any 1 _ (by decide) (by decide) (Vst.tab hT)).mono ?_; rintro _ w7 ⟨u7, c7, f7, rfl, i7, hb7⟩; obtain ⟨x7, hx7⟩ : ∃ x, ((1 : Int) : Rat) = x := ⟨_, rfl⟩; rw [hx7] at i7; (have z7 : qs x7 ≤ 8 := by (rw [← hx7]; have := qs_i64 (n := 1) (by decide) (by decide); omega)); have X7 := Lib.hid hx7; clear hx7; obtain ⟨s7a, s7b⟩ := i7.sz; have V7 := Vst.call hb7))
      go_wp2_with fail
      refine bodyPost_ret (results_two rfl _ rfl rfl (VF1.row 1 rfl) (VF1.row 2 rfl)) rfl ?_
      have EA : circ false p00 = x8 := by rw [show circ false p00 = ((2 : Int) : Rat) / (((1 : Int) : Rat) + (p00 + ((0 : Int) : Rat)) * (p00 + ((0 : Int) : Rat))) - ((1 : Int) : Rat) from rfl, HX.out, HY.out, X7.out, X8.out]
      have EB : sirc false p00 = x9 := by rw [show sirc false p00 = (p00 + ((0 : Int) : Rat)) * (((2 : Int) : Rat) / (((1 : Int) : Rat) + (p00 + ((0 : Int) : Rat)) * (p00 + ((0 : Int) : Rat)))) from rfl, HX.out, HY.out, X9.out]
      exact ⟨_, _, _, _, _, _, rfl, by rw [EA]; exact i8, by rw [EB]; exact i9, by rw [EA]; omega, by rw [EB]; omega, VF1.1⟩

end Go.Proofs.YtajkihgioikipaaDoor.turnB
