/- Walks: vec.Turn, gantref1.Moved. Printed by wip/gen_vect.py. -/
import Derived.Test.YtajkihgioikipaaDoorTurnB
namespace Go.Proofs.YtajkihgioikipaaDoor.vecB
open Go.RowKit num mem seg q ratA held ratB ratC ratD ratE vars vecA turnA turnB

theorem row10 {w : World} {b T : Nat} {x0 x1 x2 x3 x4 x5 x6 x7 x8 x9 : Value} (h : Row w b T [x0, x1, x2, x3, x4, x5, x6, x7, x8, x9]) :
    w.cell? ⟨b, 0, none⟩ = some x0 ∧ w.cell? ⟨b, 1, none⟩ = some x1 ∧ w.cell? ⟨b, 2, none⟩ = some x2 ∧ w.cell? ⟨b, 3, none⟩ = some x3 ∧ w.cell? ⟨b, 4, none⟩ = some x4 ∧ w.cell? ⟨b, 5, none⟩ = some x5 ∧ w.cell? ⟨b, 6, none⟩ = some x6 ∧ w.cell? ⟨b, 7, none⟩ = some x7 ∧ w.cell? ⟨b, 8, none⟩ = some x8 ∧ w.cell? ⟨b, 9, none⟩ = some x9 ∧
    w.frozen? ⟨b, 0, none⟩ = false ∧ w.frozen? ⟨b, 1, none⟩ = false ∧ w.frozen? ⟨b, 2, none⟩ = false ∧ w.frozen? ⟨b, 3, none⟩ = false ∧ w.frozen? ⟨b, 4, none⟩ = false ∧ w.frozen? ⟨b, 5, none⟩ = false ∧ w.frozen? ⟨b, 6, none⟩ = false ∧ w.frozen? ⟨b, 7, none⟩ = false ∧ w.frozen? ⟨b, 8, none⟩ = false ∧ w.frozen? ⟨b, 9, none⟩ = false :=
  ⟨h.cell? 0, h.cell? 1, h.cell? 2, h.cell? 3, h.cell? 4, h.cell? 5, h.cell? 6, h.cell? 7, h.cell? 8, h.cell? 9, h.frozen 0, h.frozen 1, h.frozen 2, h.frozen 3, h.frozen 4, h.frozen 5, h.frozen 6, h.frozen 7, h.frozen 8, h.frozen 9⟩

set_option maxHeartbeats 4000000 in
set_option maxRecDepth 100000 in
theorem vTurn_any (s00 : Bool) (a00 d00 : ByteArray) (s01 : Bool) (a01 d01 : ByteArray) (h1 : Bool) (s10 : Bool) (a10 d10 : ByteArray) (N : Nat) (w : World) (hN1 : 1 ≤ N) (hN : N ≤ 1073741824) (ha00 : a00.size ≤ N) (hd00 : d00.size ≤ N) (ha01 : a01.size ≤ N) (hd01 : d01.size ≤ N) (ha10 : a10.size ≤ N) (hd10 : d10.size ≤ N) (hT : Tab w) :
    Calls Tryd.prog 62 #[.agg #[.bool s00, .string a00, .string d00, .bool s01, .string a01, .string d01], .agg #[.bool h1, .bool s10, .string a10, .string d10]] w fun x w' => Vec2 (qv s00 a00 d00 * cosq h1 (qv s10 a10 d10) - qv s01 a01 d01 * sinq (tq h1 (qv s10 a10 d10))) (qv s00 a00 d00 * sinq (tq h1 (qv s10 a10 d10)) + qv s01 a01 d01 * cosq h1 (qv s10 a10 d10)) (10 * N + 200) w x w' := by
  have V0 := vars3 w 41 81 41 [.bool s00, .string a00, .string d00, .bool s01, .string a01, .string d01] [.bool h1, .bool s10, .string a10, .string d10] [.bool false, .string ⟨#[]⟩, .string ⟨#[]⟩, .bool false, .string ⟨#[]⟩, .string ⟨#[]⟩]
  have zp00 : qs (qv s00 a00 d00) ≤ N := Nat.le_trans (qs_qv s00 a00 d00) (by omega)
  obtain ⟨p00, hp00⟩ : ∃ p, qv s00 a00 d00 = p := ⟨_, rfl⟩
  rw [hp00] at zp00 ⊢
  have P00 := Lib.hid hp00
  clear hp00
  have zp01 : qs (qv s01 a01 d01) ≤ N := Nat.le_trans (qs_qv s01 a01 d01) (by omega)
  obtain ⟨p01, hp01⟩ : ∃ p, qv s01 a01 d01 = p := ⟨_, rfl⟩
  rw [hp01] at zp01 ⊢
  have P01 := Lib.hid hp01
  clear hp01
  have zp10 : qs (qv s10 a10 d10) ≤ N := Nat.le_trans (qs_qv s10 a10 d10) (by omega)
  obtain ⟨p10, hp10⟩ : ∃ p, qv s10 a10 d10 = p := ⟨_, rfl⟩
  rw [hp10] at zp10 ⊢
  have P10 := Lib.hid hp10
  clear hp10
  obtain ⟨C, hC0⟩ : ∃ C, cosq h1 p10 = C := ⟨_, rfl⟩
  obtain ⟨T, hT0⟩ : ∃ T, sinq (tq h1 p10) = T := ⟨_, rfl⟩
  rw [hC0, hT0]
  have HC0 := Lib.hid hC0
  have HT0 := Lib.hid hT0
  clear hC0 hT0
  go_enter Tryd.func62, Tryd.ntmps62
  go_upto_region 1 with fail
  obtain ⟨W1, hW1⟩ : ∃ W, W = (((w.alloc (.cells #[.bool s00, .string a00, .string d00, .bool s01, .string a01, .string d01] 41)).alloc (.cells #[.bool h1, .bool s10, .string a10, .string d10] 81)).alloc (.cells #[.bool false, .string ⟨#[]⟩, .string ⟨#[]⟩, .bool false, .string ⟨#[]⟩, .string ⟨#[]⟩] 41)) := ⟨_, rfl⟩
  rw [← hW1] at V0 ⊢
  clear hW1
  have P1_ : ∀ w', Vars w [(w.heap.size, 41, [.bool s00, .string a00, .string d00, .bool s01, .string a01, .string d01]), (w.heap.size + 1, 81, [.bool h1, .bool s10, .string a10, .string d10]), (w.heap.size + 1 + 1, 41, [.bool false, .string ⟨#[]⟩, .string ⟨#[]⟩, .bool false, .string ⟨#[]⟩, .string ⟨#[]⟩])] w' → Vars w [(w.heap.size, 41, [.bool s00, .string a00, .string d00, .bool s01, .string a01, .string d01]), (w.heap.size + 1, 81, [.bool h1, .bool s10, .string a10, .string d10]), (w.heap.size + 1 + 1, 41, [.bool false, .string ⟨#[]⟩, .string ⟨#[]⟩, .bool false, .string ⟨#[]⟩, .string ⟨#[]⟩])] w' ∧ w'.cell? ⟨w.heap.size, 0, none⟩ = some (.bool s00) ∧ w'.cell? ⟨w.heap.size, 1, none⟩ = some (.string a00) ∧ w'.cell? ⟨w.heap.size, 2, none⟩ = some (.string d00) ∧ w'.cell? ⟨w.heap.size, 3, none⟩ = some (.bool s01) ∧ w'.cell? ⟨w.heap.size, 4, none⟩ = some (.string a01) ∧ w'.cell? ⟨w.heap.size, 5, none⟩ = some (.string d01) ∧ w'.cell? ⟨w.heap.size + 1, 0, none⟩ = some (.bool h1) ∧ w'.cell? ⟨w.heap.size + 1, 1, none⟩ = some (.bool s10) ∧ w'.cell? ⟨w.heap.size + 1, 2, none⟩ = some (.string a10) ∧ w'.cell? ⟨w.heap.size + 1, 3, none⟩ = some (.string d10) ∧ w'.cell? ⟨w.heap.size + 1 + 1, 0, none⟩ = some (.bool false) ∧ w'.cell? ⟨w.heap.size + 1 + 1, 1, none⟩ = some (.string ⟨#[]⟩) ∧ w'.cell? ⟨w.heap.size + 1 + 1, 2, none⟩ = some (.string ⟨#[]⟩) ∧ w'.cell? ⟨w.heap.size + 1 + 1, 3, none⟩ = some (.bool false) ∧ w'.cell? ⟨w.heap.size + 1 + 1, 4, none⟩ = some (.string ⟨#[]⟩) ∧ w'.cell? ⟨w.heap.size + 1 + 1, 5, none⟩ = some (.string ⟨#[]⟩) := fun w' h => by
    obtain ⟨c0_0, c0_1, c0_2, c0_3, c0_4, c0_5, _⟩ := row6 (h.row 0 rfl)
    obtain ⟨c1_0, c1_1, c1_2, c1_3, _⟩ := row4 (h.row 1 rfl)
    obtain ⟨c2_0, c2_1, c2_2, c2_3, c2_4, c2_5, _⟩ := row6 (h.row 2 rfl)
    exact ⟨h, c0_0, c0_1, c0_2, c0_3, c0_4, c0_5, c1_0, c1_1, c1_2, c1_3, c2_0, c2_1, c2_2, c2_3, c2_4, c2_5⟩
  go_cut [5] (fun sl wx => ∃ (g : Nat) (u : Bool) (c f : ByteArray) (u' : Bool) (c' f' : ByteArray), sl = .pointer (some ⟨g, 0, none⟩) ∧ Is C u c f ∧ Is T u' c' f' ∧ qs C ≤ 4 * N + 60 ∧ qs T ≤ 4 * N + 60 ∧ Vars w ([(w.heap.size, 41, [.bool s00, .string a00, .string d00, .bool s01, .string a01, .string d01]), (w.heap.size + 1, 81, [.bool h1, .bool s10, .string a10, .string d10]), (w.heap.size + 1 + 1, 41, [.bool false, .string ⟨#[]⟩, .string ⟨#[]⟩, .bool false, .string ⟨#[]⟩, .string ⟨#[]⟩]), (g, 41, [.bool u, .string c, .string f, .bool u', .string c', .string f'])]) wx)
  case first =>
    have L0 : Vars w [(w.heap.size, 41, [.bool s00, .string a00, .string d00, .bool s01, .string a01, .string d01]), (w.heap.size + 1, 81, [.bool h1, .bool s10, .string a10, .string d10]), (w.heap.size + 1 + 1, 41, [.bool false, .string ⟨#[]⟩, .string ⟨#[]⟩, .bool false, .string ⟨#[]⟩, .string ⟨#[]⟩])] W1.drew := V0.drew.lead
    have M0 : Vars w [(w.heap.size, 41, [.bool s00, .string a00, .string d00, .bool s01, .string a01, .string d01]), (w.heap.size + 1, 81, [.bool h1, .bool s10, .string a10, .string d10]), (w.heap.size + 1 + 1, 41, [.bool false, .string ⟨#[]⟩, .string ⟨#[]⟩, .bool false, .string ⟨#[]⟩, .string ⟨#[]⟩])] (W1.drew.alloc (.cells #[.bool false, .string ⟨#[]⟩, .string ⟨#[]⟩, .bool false, .string ⟨#[]⟩, .string ⟨#[]⟩] 41)) := (V0.drew.push 41 [.bool false, .string ⟨#[]⟩, .string ⟨#[]⟩, .bool false, .string ⟨#[]⟩, .string ⟨#[]⟩]).lead
    have Vst := V0.drew
    have Nst : Vars w ([(w.heap.size, 41, [.bool s00, .string a00, .string d00, .bool s01, .string a01, .string d01]), (w.heap.size + 1, 81, [.bool h1, .bool s10, .string a10, .string d10]), (w.heap.size + 1 + 1, 41, [.bool false, .string ⟨#[]⟩, .string ⟨#[]⟩, .bool false, .string ⟨#[]⟩, .string ⟨#[]⟩]), (W1.heap.size, 41, [.bool false, .string ⟨#[]⟩, .string ⟨#[]⟩, .bool false, .string ⟨#[]⟩, .string ⟨#[]⟩])]) (W1.alloc (.cells #[.bool false, .string ⟨#[]⟩, .string ⟨#[]⟩, .bool false, .string ⟨#[]⟩, .string ⟨#[]⟩] 41)).drew := (V0.push 41 [.bool false, .string ⟨#[]⟩, .string ⟨#[]⟩, .bool false, .string ⟨#[]⟩, .string ⟨#[]⟩]).drew
    have N0 : Vars w [(w.heap.size, 41, [.bool s00, .string a00, .string d00, .bool s01, .string a01, .string d01]), (w.heap.size + 1, 81, [.bool h1, .bool s10, .string a10, .string d10]), (w.heap.size + 1 + 1, 41, [.bool false, .string ⟨#[]⟩, .string ⟨#[]⟩, .bool false, .string ⟨#[]⟩, .string ⟨#[]⟩])] (W1.alloc (.cells #[.bool false, .string ⟨#[]⟩, .string ⟨#[]⟩, .bool false, .string ⟨#[]⟩, .string ⟨#[]⟩] 41)).drew := Nst.lead
    go_region_held3 (fun w' => Vars w [(w.heap.size, 41, [.bool s00, .string a00, .string d00, .bool s01, .string a01, .string d01]), (w.heap.size + 1, 81, [.bool h1, .bool s10, .string a10, .string d10]), (w.heap.size + 1 + 1, 41, [.bool false, .string ⟨#[]⟩, .string ⟨#[]⟩, .bool false, .string ⟨#[]⟩, .string ⟨#[]⟩])] w' ∧ w'.cell? ⟨w.heap.size, 0, none⟩ = some (.bool s00) ∧ w'.cell? ⟨w.heap.size, 1, none⟩ = some (.string a00) ∧ w'.cell? ⟨w.heap.size, 2, none⟩ = some (.string d00) ∧ w'.cell? ⟨w.heap.size, 3, none⟩ = some (.bool s01) ∧ w'.cell? ⟨w.heap.size, 4, none⟩ = some (.string a01) ∧ w'.cell? ⟨w.heap.size, 5, none⟩ = some (.string d01) ∧ w'.cell? ⟨w.heap.size + 1, 0, none⟩ = some (.bool h1) ∧ w'.cell? ⟨w.heap.size + 1, 1, none⟩ = some (.bool s10) ∧ w'.cell? ⟨w.heap.size + 1, 2, none⟩ = some (.string a10) ∧ w'.cell? ⟨w.heap.size + 1, 3, none⟩ = some (.string d10) ∧ w'.cell? ⟨w.heap.size + 1 + 1, 0, none⟩ = some (.bool false) ∧ w'.cell? ⟨w.heap.size + 1 + 1, 1, none⟩ = some (.string ⟨#[]⟩) ∧ w'.cell? ⟨w.heap.size + 1 + 1, 2, none⟩ = some (.string ⟨#[]⟩) ∧ w'.cell? ⟨w.heap.size + 1 + 1, 3, none⟩ = some (.bool false) ∧ w'.cell? ⟨w.heap.size + 1 + 1, 4, none⟩ = some (.string ⟨#[]⟩) ∧ w'.cell? ⟨w.heap.size + 1 + 1, 5, none⟩ = some (.string ⟨#[]⟩))
      (with_reducible apply P1_; with_reducible assumption)
      (first
        | (go_at_call 76; have _g := hb1; refine (tSin_any _ _ _ _ N _ hN1 hN (by omega) (by omega) (by first | exact V1.tab hT | exact (V1.push 41 [.bool false, .string ⟨#[]⟩, .string ⟨#[]⟩, .bool false, .string ⟨#[]⟩, .string ⟨#[]⟩]).tab hT)).mono ?_; rintro _ w2 ⟨u2, c2, f2, rfl, i2, z2, hb2⟩; rw [P10.out] at i2 z2; obtain ⟨x2, hx2⟩ : ∃ x, sinq (tq h1 p10) = x := ⟨_, rfl⟩; rw [hx2] at i2 z2; have X2 := Lib.hid hx2; clear hx2; obtain ⟨s2a, s2b⟩ := i2.sz; (first | have V2 := V1.call hb2 | have V2 := (V1.push 41 [.bool false, .string ⟨#[]⟩, .string ⟨#[]⟩, .bool false, .string ⟨#[]⟩, .string ⟨#[]⟩]).call hb2); have L2 : Vars w [(w.heap.size, 41, [.bool s00, .string a00, .string d00, .bool s01, .string a01, .string d01]), (w.heap.size + 1, 81, [.bool h1, .bool s10, .string a10, .string d10]), (w.heap.size + 1 + 1, 41, [.bool false, .string ⟨#[]⟩, .string ⟨#[]⟩, .bool false, .string ⟨#[]⟩, .string ⟨#[]⟩])] w2 := V2.lead; have M2 : Vars w [(w.heap.size, 41, [.bool s00, .string a00, .string d00, .bool s01, .string a01, .string d01]), (w.heap.size + 1, 81, [.bool h1, .bool s10, .string a10, .string d10]), (w.heap.size + 1 + 1, 41, [.bool false, .string ⟨#[]⟩, .string ⟨#[]⟩, .bool false, .string ⟨#[]⟩, .string ⟨#[]⟩])] (w2.alloc (.cells #[.bool false, .string ⟨#[]⟩, .string ⟨#[]⟩, .bool false, .string ⟨#[]⟩, .string ⟨#[]⟩] 41)) := (L2.push 41 [.bool false, .string ⟨#[]⟩, .string ⟨#[]⟩, .bool false, .string ⟨#[]⟩, .string ⟨#[]⟩]).lead; (first | obtain ⟨t0, t1, t2, t3, t4, t5, tf0, tf1, tf2, tf3, tf4, tf5⟩ := row6 (V2.row 3 rfl) | obtain ⟨t0, t1, t2, t3, t4, t5, tf0, tf1, tf2, tf3, tf4, tf5⟩ := row6 ((V2.push 41 [.bool false, .string ⟨#[]⟩, .string ⟨#[]⟩, .bool false, .string ⟨#[]⟩, .string ⟨#[]⟩]).row 3 rfl)); (first | have VF := V2.put6 3 rfl (.bool u1) (.string c1) (.string f1) (.bool u2) (.string c2) (.string f2) | have VF := V2.push 41 [.bool u1, .string c1, .string f1, .bool u2, .string c2, .string f2]); have LF := VF.lead (ls := [(w.heap.size, 41, [.bool s00, .string a00, .string d00, .bool s01, .string a01, .string d01]), (w.heap.size + 1, 81, [.bool h1, .bool s10, .string a10, .string d10]), (w.heap.size + 1 + 1, 41, [.bool false, .string ⟨#[]⟩, .string ⟨#[]⟩, .bool false, .string ⟨#[]⟩, .string ⟨#[]⟩])]))
        | (go_at_call 75; refine (tCos_any _ _ _ _ N _ hN1 hN (by omega) (by omega) (by first | exact Vst.tab hT | exact Nst.tab hT)).mono ?_; rintro _ w1 ⟨u1, c1, f1, rfl, i1, z1, hb1⟩; rw [P10.out] at i1 z1; obtain ⟨x1, hx1⟩ : ∃ x, cosq h1 p10 = x := ⟨_, rfl⟩; rw [hx1] at i1 z1; have X1 := Lib.hid hx1; clear hx1; obtain ⟨s1a, s1b⟩ := i1.sz; (first | have V1 := Vst.call hb1 | have V1 := Nst.call hb1); have L1 : Vars w [(w.heap.size, 41, [.bool s00, .string a00, .string d00, .bool s01, .string a01, .string d01]), (w.heap.size + 1, 81, [.bool h1, .bool s10, .string a10, .string d10]), (w.heap.size + 1 + 1, 41, [.bool false, .string ⟨#[]⟩, .string ⟨#[]⟩, .bool false, .string ⟨#[]⟩, .string ⟨#[]⟩])] w1 := V1.lead; have M1 : Vars w [(w.heap.size, 41, [.bool s00, .string a00, .string d00, .bool s01, .string a01, .string d01]), (w.heap.size + 1, 81, [.bool h1, .bool s10, .string a10, .string d10]), (w.heap.size + 1 + 1, 41, [.bool false, .string ⟨#[]⟩, .string ⟨#[]⟩, .bool false, .string ⟨#[]⟩, .string ⟨#[]⟩])] (w1.alloc (.cells #[.bool false, .string ⟨#[]⟩, .string ⟨#[]⟩, .bool false, .string ⟨#[]⟩, .string ⟨#[]⟩] 41)) := (L1.push 41 [.bool false, .string ⟨#[]⟩, .string ⟨#[]⟩, .bool false, .string ⟨#[]⟩, .string ⟨#[]⟩]).lead))
    all_goals
      go_wp2_with fail
      go_meet
      exact ⟨_, _, _, _, _, _, _, rfl, by rw [← HC0.out, X1.out]; exact i1, by rw [← HT0.out, X2.out]; exact i2, by rw [← HC0.out, X1.out]; omega, by rw [← HT0.out, X2.out]; omega, VF⟩
  case rest =>
    obtain ⟨g, u, c, f, u', c', f', rfl, iC, iT, zC, zT, VL⟩ := hcut
    obtain ⟨sCa, sCb⟩ := iC.sz
    obtain ⟨sTa, sTb⟩ := iT.sz
    go_upto_region 2 with fail
    have P2_ : ∀ (y2_0 y2_1 y2_2 y2_3 y2_4 y2_5 : Value) (w' : World), Vars w [(w.heap.size, 41, [.bool s00, .string a00, .string d00, .bool s01, .string a01, .string d01]), (w.heap.size + 1, 81, [.bool h1, .bool s10, .string a10, .string d10]), (w.heap.size + 1 + 1, 41, [y2_0, y2_1, y2_2, y2_3, y2_4, y2_5]), (g, 41, [.bool u, .string c, .string f, .bool u', .string c', .string f'])] w' → w'.cell? ⟨w.heap.size, 0, none⟩ = some (.bool s00) ∧ w'.cell? ⟨w.heap.size, 1, none⟩ = some (.string a00) ∧ w'.cell? ⟨w.heap.size, 2, none⟩ = some (.string d00) ∧ w'.cell? ⟨w.heap.size, 3, none⟩ = some (.bool s01) ∧ w'.cell? ⟨w.heap.size, 4, none⟩ = some (.string a01) ∧ w'.cell? ⟨w.heap.size, 5, none⟩ = some (.string d01) ∧ w'.cell? ⟨w.heap.size + 1, 0, none⟩ = some (.bool h1) ∧ w'.cell? ⟨w.heap.size + 1, 1, none⟩ = some (.bool s10) ∧ w'.cell? ⟨w.heap.size + 1, 2, none⟩ = some (.string a10) ∧ w'.cell? ⟨w.heap.size + 1, 3, none⟩ = some (.string d10) ∧ w'.cell? ⟨g, 0, none⟩ = some (.bool u) ∧ w'.cell? ⟨g, 1, none⟩ = some (.string c) ∧ w'.cell? ⟨g, 2, none⟩ = some (.string f) ∧ w'.cell? ⟨g, 3, none⟩ = some (.bool u') ∧ w'.cell? ⟨g, 4, none⟩ = some (.string c') ∧ w'.cell? ⟨g, 5, none⟩ = some (.string f') := fun y2_0 y2_1 y2_2 y2_3 y2_4 y2_5 w' h => by
      obtain ⟨c0_0, c0_1, c0_2, c0_3, c0_4, c0_5, _⟩ := row6 (h.row 0 rfl)
      obtain ⟨c1_0, c1_1, c1_2, c1_3, _⟩ := row4 (h.row 1 rfl)
      obtain ⟨c3_0, c3_1, c3_2, c3_3, c3_4, c3_5, _⟩ := row6 (h.row 3 rfl)
      exact ⟨c0_0, c0_1, c0_2, c0_3, c0_4, c0_5, c1_0, c1_1, c1_2, c1_3, c3_0, c3_1, c3_2, c3_3, c3_4, c3_5⟩
    have Vst := VL.drew
    go_region_held3 (fun w' => w'.cell? ⟨w.heap.size, 0, none⟩ = some (.bool s00) ∧ w'.cell? ⟨w.heap.size, 1, none⟩ = some (.string a00) ∧ w'.cell? ⟨w.heap.size, 2, none⟩ = some (.string d00) ∧ w'.cell? ⟨w.heap.size, 3, none⟩ = some (.bool s01) ∧ w'.cell? ⟨w.heap.size, 4, none⟩ = some (.string a01) ∧ w'.cell? ⟨w.heap.size, 5, none⟩ = some (.string d01) ∧ w'.cell? ⟨w.heap.size + 1, 0, none⟩ = some (.bool h1) ∧ w'.cell? ⟨w.heap.size + 1, 1, none⟩ = some (.bool s10) ∧ w'.cell? ⟨w.heap.size + 1, 2, none⟩ = some (.string a10) ∧ w'.cell? ⟨w.heap.size + 1, 3, none⟩ = some (.string d10) ∧ w'.cell? ⟨g, 0, none⟩ = some (.bool u) ∧ w'.cell? ⟨g, 1, none⟩ = some (.string c) ∧ w'.cell? ⟨g, 2, none⟩ = some (.string f) ∧ w'.cell? ⟨g, 3, none⟩ = some (.bool u') ∧ w'.cell? ⟨g, 4, none⟩ = some (.string c') ∧ w'.cell? ⟨g, 5, none⟩ = some (.string f'))
      (with_reducible apply P2_; with_reducible assumption)
      (first
        | (go_at_call 52; have _g := hb7; refine (rAdd_any _ _ _ _ _ _ _ (by omega) (by omega) (by omega) (by omega) (V7.tab hT)).mono ?_; rintro _ w8 ⟨u8, c8, f8, rfl, i8, hb8⟩; rw [i6.val] at i8; rw [i7.val] at i8; obtain ⟨x8, hx8⟩ : ∃ x, x6 + x7 = x := ⟨_, rfl⟩; rw [hx8] at i8; (have z8 : qs x8 ≤ 10 * N + 121 := by (rw [← hx8]; have := qs_add x6 x7; omega)); have X8 := Lib.hid hx8; clear hx8; obtain ⟨s8a, s8b⟩ := i8.sz; have V8 := V7.call hb8; obtain ⟨t2_0, t2_1, t2_2, t2_3, t2_4, t2_5, t2_f0, t2_f1, t2_f2, t2_f3, t2_f4, t2_f5⟩ := row6 (V8.row 2 rfl); have VG0 := V8.put6 2 rfl (.bool u5) (.string c5) (.string f5) (.bool u8) (.string c8) (.string f8); have VF0 : Vars w [(w.heap.size, 41, [.bool s00, .string a00, .string d00, .bool s01, .string a01, .string d01]), (w.heap.size + 1, 81, [.bool h1, .bool s10, .string a10, .string d10]), (w.heap.size + 1 + 1, 41, [.bool u5, .string c5, .string f5, .bool u8, .string c8, .string f8]), (g, 41, [.bool u, .string c, .string f, .bool u', .string c', .string f'])] ((((((w8.setCell ⟨w.heap.size + 1 + 1, 0, none⟩ (.bool u5)).setCell ⟨w.heap.size + 1 + 1, 1, none⟩ (.string c5)).setCell ⟨w.heap.size + 1 + 1, 2, none⟩ (.string f5)).setCell ⟨w.heap.size + 1 + 1, 3, none⟩ (.bool u8)).setCell ⟨w.heap.size + 1 + 1, 4, none⟩ (.string c8)).setCell ⟨w.heap.size + 1 + 1, 5, none⟩ (.string f8)) := VG0; clear VG0)
        | (go_at_call 53; have _g := hb6; refine (rMul_any _ _ _ _ _ _ _ (by omega) (by omega) (by omega) (by omega) (V6.tab hT)).mono ?_; rintro _ w7 ⟨u7, c7, f7, rfl, i7, hb7⟩; rw [P01.out] at i7; rw [iC.val] at i7; obtain ⟨x7, hx7⟩ : ∃ x, p01 * C = x := ⟨_, rfl⟩; rw [hx7] at i7; (have z7 : qs x7 ≤ 5 * N + 60 := by (rw [← hx7]; have := qs_mul p01 C; omega)); have X7 := Lib.hid hx7; clear hx7; obtain ⟨s7a, s7b⟩ := i7.sz; have V7 := V6.call hb7)
        | (go_at_call 53; have _g := hb5; refine (rMul_any _ _ _ _ _ _ _ (by omega) (by omega) (by omega) (by omega) (V5.tab hT)).mono ?_; rintro _ w6 ⟨u6, c6, f6, rfl, i6, hb6⟩; rw [P00.out] at i6; rw [iT.val] at i6; obtain ⟨x6, hx6⟩ : ∃ x, p00 * T = x := ⟨_, rfl⟩; rw [hx6] at i6; (have z6 : qs x6 ≤ 5 * N + 60 := by (rw [← hx6]; have := qs_mul p00 T; omega)); have X6 := Lib.hid hx6; clear hx6; obtain ⟨s6a, s6b⟩ := i6.sz; have V6 := V5.call hb6)
        | (go_at_call 117; have _g := hb4; refine (rSub_any _ _ _ _ _ _ _ (by omega) (by omega) (by omega) (by omega) (V4.tab hT)).mono ?_; rintro _ w5 ⟨u5, c5, f5, rfl, i5, hb5⟩; rw [i3.val] at i5; rw [i4.val] at i5; obtain ⟨x5, hx5⟩ : ∃ x, x3 - x4 = x := ⟨_, rfl⟩; rw [hx5] at i5; (have z5 : qs x5 ≤ 10 * N + 121 := by (rw [← hx5]; have := qs_sub x3 x4; omega)); have X5 := Lib.hid hx5; clear hx5; obtain ⟨s5a, s5b⟩ := i5.sz; have V5 := V4.call hb5)
        | (go_at_call 53; have _g := hb3; refine (rMul_any _ _ _ _ _ _ _ (by omega) (by omega) (by omega) (by omega) (V3.tab hT)).mono ?_; rintro _ w4 ⟨u4, c4, f4, rfl, i4, hb4⟩; rw [P01.out] at i4; rw [iT.val] at i4; obtain ⟨x4, hx4⟩ : ∃ x, p01 * T = x := ⟨_, rfl⟩; rw [hx4] at i4; (have z4 : qs x4 ≤ 5 * N + 60 := by (rw [← hx4]; have := qs_mul p01 T; omega)); have X4 := Lib.hid hx4; clear hx4; obtain ⟨s4a, s4b⟩ := i4.sz; have V4 := V3.call hb4)
        | (go_at_call 53; refine (rMul_any _ _ _ _ _ _ _ (by omega) (by omega) (by omega) (by omega) (Vst.tab hT)).mono ?_; rintro _ w3 ⟨u3, c3, f3, rfl, i3, hb3⟩; rw [P00.out] at i3; rw [iC.val] at i3; obtain ⟨x3, hx3⟩ : ∃ x, p00 * C = x := ⟨_, rfl⟩; rw [hx3] at i3; (have z3 : qs x3 ≤ 5 * N + 60 := by (rw [← hx3]; have := qs_mul p00 C; omega)); have X3 := Lib.hid hx3; clear hx3; obtain ⟨s3a, s3b⟩ := i3.sz; have V3 := Vst.call hb3))
    go_wp2_with fail
    refine bodyPost_ret (results_vec rfl _ rfl (VF0.row 2 rfl)) rfl ?_
    exact ⟨_, _, _, _, _, _, rfl, by simp only [X3.out, X4.out, X5.out, X6.out, X7.out, X8.out]; exact i5, by simp only [X3.out, X4.out, X5.out, X6.out, X7.out, X8.out]; exact i8, by simp only [X3.out, X4.out, X5.out, X6.out, X7.out, X8.out]; omega, by simp only [X3.out, X4.out, X5.out, X6.out, X7.out, X8.out]; omega, VF0.1⟩

set_option maxHeartbeats 4000000 in
set_option maxRecDepth 100000 in
theorem RMoved_any (s00 : Bool) (a00 d00 : ByteArray) (s01 : Bool) (a01 d01 : ByteArray) (h0 : Bool) (s02 : Bool) (a02 d02 : ByteArray) (s10 : Bool) (a10 d10 : ByteArray) (s11 : Bool) (a11 d11 : ByteArray) (N : Nat) (w : World) (hN1 : 1 ≤ N) (hN : N ≤ 1073741824) (ha00 : a00.size ≤ N) (hd00 : d00.size ≤ N) (ha01 : a01.size ≤ N) (hd01 : d01.size ≤ N) (ha02 : a02.size ≤ N) (hd02 : d02.size ≤ N) (ha10 : a10.size ≤ N) (hd10 : d10.size ≤ N) (ha11 : a11.size ≤ N) (hd11 : d11.size ≤ N) (hT : Tab w) :
    Calls Tryd.prog 54 #[.agg #[.bool s00, .string a00, .string d00, .bool s01, .string a01, .string d01, .bool h0, .bool s02, .string a02, .string d02], .agg #[.bool s10, .string a10, .string d10, .bool s11, .string a11, .string d11]] w fun x w' => Vec2 (qv s00 a00 d00 + (qv s10 a10 d10 * circ h0 (qv s02 a02 d02) - qv s11 a11 d11 * sirc h0 (qv s02 a02 d02))) (qv s01 a01 d01 + (qv s10 a10 d10 * sirc h0 (qv s02 a02 d02) + qv s11 a11 d11 * circ h0 (qv s02 a02 d02))) (11 * N + 200) w x w' := by
  have V0 := vars3 w 87 41 41 [.bool s00, .string a00, .string d00, .bool s01, .string a01, .string d01, .bool h0, .bool s02, .string a02, .string d02] [.bool s10, .string a10, .string d10, .bool s11, .string a11, .string d11] [.bool false, .string ⟨#[]⟩, .string ⟨#[]⟩, .bool false, .string ⟨#[]⟩, .string ⟨#[]⟩]
  have zp00 : qs (qv s00 a00 d00) ≤ N := Nat.le_trans (qs_qv s00 a00 d00) (by omega)
  obtain ⟨p00, hp00⟩ : ∃ p, qv s00 a00 d00 = p := ⟨_, rfl⟩
  rw [hp00] at zp00 ⊢
  have P00 := Lib.hid hp00
  clear hp00
  have zp01 : qs (qv s01 a01 d01) ≤ N := Nat.le_trans (qs_qv s01 a01 d01) (by omega)
  obtain ⟨p01, hp01⟩ : ∃ p, qv s01 a01 d01 = p := ⟨_, rfl⟩
  rw [hp01] at zp01 ⊢
  have P01 := Lib.hid hp01
  clear hp01
  have zp02 : qs (qv s02 a02 d02) ≤ N := Nat.le_trans (qs_qv s02 a02 d02) (by omega)
  obtain ⟨p02, hp02⟩ : ∃ p, qv s02 a02 d02 = p := ⟨_, rfl⟩
  rw [hp02] at zp02 ⊢
  have P02 := Lib.hid hp02
  clear hp02
  have zp10 : qs (qv s10 a10 d10) ≤ N := Nat.le_trans (qs_qv s10 a10 d10) (by omega)
  obtain ⟨p10, hp10⟩ : ∃ p, qv s10 a10 d10 = p := ⟨_, rfl⟩
  rw [hp10] at zp10 ⊢
  have P10 := Lib.hid hp10
  clear hp10
  have zp11 : qs (qv s11 a11 d11) ≤ N := Nat.le_trans (qs_qv s11 a11 d11) (by omega)
  obtain ⟨p11, hp11⟩ : ∃ p, qv s11 a11 d11 = p := ⟨_, rfl⟩
  rw [hp11] at zp11 ⊢
  have P11 := Lib.hid hp11
  clear hp11
  obtain ⟨C, hC0⟩ : ∃ C, circ h0 p02 = C := ⟨_, rfl⟩
  obtain ⟨T, hT0⟩ : ∃ T, sirc h0 p02 = T := ⟨_, rfl⟩
  rw [hC0, hT0]
  have HC0 := Lib.hid hC0
  have HT0 := Lib.hid hT0
  clear hC0 hT0
  go_enter Tryd.func54, Tryd.ntmps54
  obtain ⟨r0_0, r0_1, r0_2, r0_3, r0_4, r0_5, r0_6, r0_7, r0_8, r0_9, f0_0, f0_1, f0_2, f0_3, f0_4, f0_5, f0_6, f0_7, f0_8, f0_9⟩ := row10 (V0.row 0 rfl)
  obtain ⟨r1_0, r1_1, r1_2, r1_3, r1_4, r1_5, f1_0, f1_1, f1_2, f1_3, f1_4, f1_5⟩ := row6 (V0.row 1 rfl)
  obtain ⟨r2_0, r2_1, r2_2, r2_3, r2_4, r2_5, f2_0, f2_1, f2_2, f2_3, f2_4, f2_5⟩ := row6 (V0.row 2 rfl)
  go_wp2_with fail
  refine (RCircle_any _ _ _ _ N _ hN1 hN (by omega) (by omega) (V0.tab hT)).mono ?_
  rintro _ w1 ⟨u1, c1, f1, u1', c1', f1', rfl, i1p, i1q, z1p, z1q, hb1⟩
  rw [P02.out] at i1p z1p
  obtain ⟨x1p, hx1p⟩ : ∃ x, circ h0 p02 = x := ⟨_, rfl⟩
  rw [hx1p] at i1p z1p
  have X1p := Lib.hid hx1p
  clear hx1p
  obtain ⟨s1pa, s1pb⟩ := i1p.sz
  rw [P02.out] at i1q z1q
  obtain ⟨x1q, hx1q⟩ : ∃ x, sirc h0 p02 = x := ⟨_, rfl⟩
  rw [hx1q] at i1q z1q
  have X1q := Lib.hid hx1q
  clear hx1q
  obtain ⟨s1qa, s1qb⟩ := i1q.sz
  have V1 := V0.call hb1
  clear r0_0 r0_1 r0_2 r0_3 r0_4 r0_5 r0_6 r0_7 r0_8 r0_9 f0_0 f0_1 f0_2 f0_3 f0_4 f0_5 f0_6 f0_7 f0_8 f0_9 r1_0 r1_1 r1_2 r1_3 r1_4 r1_5 f1_0 f1_1 f1_2 f1_3 f1_4 f1_5 r2_0 r2_1 r2_2 r2_3 r2_4 r2_5 f2_0 f2_1 f2_2 f2_3 f2_4 f2_5
  obtain ⟨r0_0, r0_1, r0_2, r0_3, r0_4, r0_5, r0_6, r0_7, r0_8, r0_9, f0_0, f0_1, f0_2, f0_3, f0_4, f0_5, f0_6, f0_7, f0_8, f0_9⟩ := row10 (V1.row 0 rfl)
  obtain ⟨r1_0, r1_1, r1_2, r1_3, r1_4, r1_5, f1_0, f1_1, f1_2, f1_3, f1_4, f1_5⟩ := row6 (V1.row 1 rfl)
  obtain ⟨r2_0, r2_1, r2_2, r2_3, r2_4, r2_5, f2_0, f2_1, f2_2, f2_3, f2_4, f2_5⟩ := row6 (V1.row 2 rfl)
  have U1 : Vars w [(w.heap.size, 87, [.bool s00, .string a00, .string d00, .bool s01, .string a01, .string d01, .bool h0, .bool s02, .string a02, .string d02]), (w.heap.size + 1, 41, [.bool s10, .string a10, .string d10, .bool s11, .string a11, .string d11]), (w.heap.size + 1 + 1, 41, [.bool false, .string ⟨#[]⟩, .string ⟨#[]⟩, .bool false, .string ⟨#[]⟩, .string ⟨#[]⟩]), (w1.heap.size, 39, [.bool u1, .string c1, .string f1])] (w1.alloc (.cells #[.bool u1, .string c1, .string f1] 39)) := by have h := V1.push 39 [.bool u1, .string c1, .string f1]; exact h
  have U2 : Vars w [(w.heap.size, 87, [.bool s00, .string a00, .string d00, .bool s01, .string a01, .string d01, .bool h0, .bool s02, .string a02, .string d02]), (w.heap.size + 1, 41, [.bool s10, .string a10, .string d10, .bool s11, .string a11, .string d11]), (w.heap.size + 1 + 1, 41, [.bool false, .string ⟨#[]⟩, .string ⟨#[]⟩, .bool false, .string ⟨#[]⟩, .string ⟨#[]⟩]), (w1.heap.size, 39, [.bool u1, .string c1, .string f1]), (w1.heap.size + 1, 39, [.bool u1', .string c1', .string f1'])] ((w1.alloc (.cells #[.bool u1, .string c1, .string f1] 39)).alloc (.cells #[.bool u1', .string c1', .string f1'] 39)) := by have h := U1.push 39 [.bool u1', .string c1', .string f1']; simp only [size_set, size_alloc] at h; exact h
  have XC := Lib.hid (show x1p = C by rw [← X1p.out, HC0.out])
  have XS := Lib.hid (show x1q = T by rw [← X1q.out, HT0.out])
  rw [XC.out] at i1p z1p s1pa s1pb
  rw [XS.out] at i1q z1q s1qa s1qb
  clear XC XS X1p X1q HC0 HT0
  go_upto_region 2 with fail
  obtain ⟨W1, hW1⟩ : ∃ W, W = ((w1.alloc (.cells #[.bool u1, .string c1, .string f1] 39)).alloc (.cells #[.bool u1', .string c1', .string f1'] 39)) := ⟨_, rfl⟩
  rw [← hW1] at U2 ⊢
  clear hW1
  clear r0_0 r0_1 r0_2 r0_3 r0_4 r0_5 r0_6 r0_7 r0_8 r0_9 f0_0 f0_1 f0_2 f0_3 f0_4 f0_5 f0_6 f0_7 f0_8 f0_9 r1_0 r1_1 r1_2 r1_3 r1_4 r1_5 f1_0 f1_1 f1_2 f1_3 f1_4 f1_5 r2_0 r2_1 r2_2 r2_3 r2_4 r2_5 f2_0 f2_1 f2_2 f2_3 f2_4 f2_5
  have P2_ : ∀ (y2_0 y2_1 y2_2 y2_3 y2_4 y2_5 : Value) (w' : World), Vars w [(w.heap.size, 87, [.bool s00, .string a00, .string d00, .bool s01, .string a01, .string d01, .bool h0, .bool s02, .string a02, .string d02]), (w.heap.size + 1, 41, [.bool s10, .string a10, .string d10, .bool s11, .string a11, .string d11]), (w.heap.size + 1 + 1, 41, [y2_0, y2_1, y2_2, y2_3, y2_4, y2_5]), (w1.heap.size, 39, [.bool u1, .string c1, .string f1]), (w1.heap.size + 1, 39, [.bool u1', .string c1', .string f1'])] w' → w'.cell? ⟨w.heap.size, 0, none⟩ = some (.bool s00) ∧ w'.cell? ⟨w.heap.size, 1, none⟩ = some (.string a00) ∧ w'.cell? ⟨w.heap.size, 2, none⟩ = some (.string d00) ∧ w'.cell? ⟨w.heap.size, 3, none⟩ = some (.bool s01) ∧ w'.cell? ⟨w.heap.size, 4, none⟩ = some (.string a01) ∧ w'.cell? ⟨w.heap.size, 5, none⟩ = some (.string d01) ∧ w'.cell? ⟨w.heap.size, 6, none⟩ = some (.bool h0) ∧ w'.cell? ⟨w.heap.size, 7, none⟩ = some (.bool s02) ∧ w'.cell? ⟨w.heap.size, 8, none⟩ = some (.string a02) ∧ w'.cell? ⟨w.heap.size, 9, none⟩ = some (.string d02) ∧ w'.cell? ⟨w.heap.size + 1, 0, none⟩ = some (.bool s10) ∧ w'.cell? ⟨w.heap.size + 1, 1, none⟩ = some (.string a10) ∧ w'.cell? ⟨w.heap.size + 1, 2, none⟩ = some (.string d10) ∧ w'.cell? ⟨w.heap.size + 1, 3, none⟩ = some (.bool s11) ∧ w'.cell? ⟨w.heap.size + 1, 4, none⟩ = some (.string a11) ∧ w'.cell? ⟨w.heap.size + 1, 5, none⟩ = some (.string d11) ∧ w'.cell? ⟨w1.heap.size, 0, none⟩ = some (.bool u1) ∧ w'.cell? ⟨w1.heap.size, 1, none⟩ = some (.string c1) ∧ w'.cell? ⟨w1.heap.size, 2, none⟩ = some (.string f1) ∧ w'.cell? ⟨w1.heap.size + 1, 0, none⟩ = some (.bool u1') ∧ w'.cell? ⟨w1.heap.size + 1, 1, none⟩ = some (.string c1') ∧ w'.cell? ⟨w1.heap.size + 1, 2, none⟩ = some (.string f1') := fun y2_0 y2_1 y2_2 y2_3 y2_4 y2_5 w' h => by
    obtain ⟨c0_0, c0_1, c0_2, c0_3, c0_4, c0_5, c0_6, c0_7, c0_8, c0_9, _⟩ := row10 (h.row 0 rfl)
    obtain ⟨c1_0, c1_1, c1_2, c1_3, c1_4, c1_5, _⟩ := row6 (h.row 1 rfl)
    obtain ⟨c3_0, c3_1, c3_2, _⟩ := row3 (h.row 3 rfl)
    obtain ⟨c4_0, c4_1, c4_2, _⟩ := row3 (h.row 4 rfl)
    exact ⟨c0_0, c0_1, c0_2, c0_3, c0_4, c0_5, c0_6, c0_7, c0_8, c0_9, c1_0, c1_1, c1_2, c1_3, c1_4, c1_5, c3_0, c3_1, c3_2, c4_0, c4_1, c4_2⟩
  have Vst := U2.drew
  go_region_held3 (fun w' => w'.cell? ⟨w.heap.size, 0, none⟩ = some (.bool s00) ∧ w'.cell? ⟨w.heap.size, 1, none⟩ = some (.string a00) ∧ w'.cell? ⟨w.heap.size, 2, none⟩ = some (.string d00) ∧ w'.cell? ⟨w.heap.size, 3, none⟩ = some (.bool s01) ∧ w'.cell? ⟨w.heap.size, 4, none⟩ = some (.string a01) ∧ w'.cell? ⟨w.heap.size, 5, none⟩ = some (.string d01) ∧ w'.cell? ⟨w.heap.size, 6, none⟩ = some (.bool h0) ∧ w'.cell? ⟨w.heap.size, 7, none⟩ = some (.bool s02) ∧ w'.cell? ⟨w.heap.size, 8, none⟩ = some (.string a02) ∧ w'.cell? ⟨w.heap.size, 9, none⟩ = some (.string d02) ∧ w'.cell? ⟨w.heap.size + 1, 0, none⟩ = some (.bool s10) ∧ w'.cell? ⟨w.heap.size + 1, 1, none⟩ = some (.string a10) ∧ w'.cell? ⟨w.heap.size + 1, 2, none⟩ = some (.string d10) ∧ w'.cell? ⟨w.heap.size + 1, 3, none⟩ = some (.bool s11) ∧ w'.cell? ⟨w.heap.size + 1, 4, none⟩ = some (.string a11) ∧ w'.cell? ⟨w.heap.size + 1, 5, none⟩ = some (.string d11) ∧ w'.cell? ⟨w1.heap.size, 0, none⟩ = some (.bool u1) ∧ w'.cell? ⟨w1.heap.size, 1, none⟩ = some (.string c1) ∧ w'.cell? ⟨w1.heap.size, 2, none⟩ = some (.string f1) ∧ w'.cell? ⟨w1.heap.size + 1, 0, none⟩ = some (.bool u1') ∧ w'.cell? ⟨w1.heap.size + 1, 1, none⟩ = some (.string c1') ∧ w'.cell? ⟨w1.heap.size + 1, 2, none⟩ = some (.string f1'))
    (with_reducible apply P2_; with_reducible assumption)
    (first
      | (go_at_call 52; have _g := hb8; refine (rAdd_any _ _ _ _ _ _ _ (by omega) (by omega) (by omega) (by omega) (V8.tab hT)).mono ?_; rintro _ w9 ⟨u9, c9, f9, rfl, i9, hb9⟩; rw [P01.out] at i9; rw [i8.val] at i9; obtain ⟨x9, hx9⟩ : ∃ x, p01 + x8 = x := ⟨_, rfl⟩; rw [hx9] at i9; (have z9 : qs x9 ≤ 11 * N + 162 := by (rw [← hx9]; have := qs_add p01 x8; omega)); have X9 := Lib.hid hx9; clear hx9; obtain ⟨s9a, s9b⟩ := i9.sz; have V9 := V8.call hb9; obtain ⟨t2_0, t2_1, t2_2, t2_3, t2_4, t2_5, t2_f0, t2_f1, t2_f2, t2_f3, t2_f4, t2_f5⟩ := row6 (V9.row 2 rfl); have VG0 := V9.put6 2 rfl (.bool u5) (.string c5) (.string f5) (.bool u9) (.string c9) (.string f9); have VF0 : Vars w [(w.heap.size, 87, [.bool s00, .string a00, .string d00, .bool s01, .string a01, .string d01, .bool h0, .bool s02, .string a02, .string d02]), (w.heap.size + 1, 41, [.bool s10, .string a10, .string d10, .bool s11, .string a11, .string d11]), (w.heap.size + 1 + 1, 41, [.bool u5, .string c5, .string f5, .bool u9, .string c9, .string f9]), (w1.heap.size, 39, [.bool u1, .string c1, .string f1]), (w1.heap.size + 1, 39, [.bool u1', .string c1', .string f1'])] ((((((w9.setCell ⟨w.heap.size + 1 + 1, 0, none⟩ (.bool u5)).setCell ⟨w.heap.size + 1 + 1, 1, none⟩ (.string c5)).setCell ⟨w.heap.size + 1 + 1, 2, none⟩ (.string f5)).setCell ⟨w.heap.size + 1 + 1, 3, none⟩ (.bool u9)).setCell ⟨w.heap.size + 1 + 1, 4, none⟩ (.string c9)).setCell ⟨w.heap.size + 1 + 1, 5, none⟩ (.string f9)) := VG0; clear VG0)
      | (go_at_call 52; have _g := hb7; refine (rAdd_any _ _ _ _ _ _ _ (by omega) (by omega) (by omega) (by omega) (V7.tab hT)).mono ?_; rintro _ w8 ⟨u8, c8, f8, rfl, i8, hb8⟩; rw [i6.val] at i8; rw [i7.val] at i8; obtain ⟨x8, hx8⟩ : ∃ x, x6 + x7 = x := ⟨_, rfl⟩; rw [hx8] at i8; (have z8 : qs x8 ≤ 10 * N + 161 := by (rw [← hx8]; have := qs_add x6 x7; omega)); have X8 := Lib.hid hx8; clear hx8; obtain ⟨s8a, s8b⟩ := i8.sz; have V8 := V7.call hb8)
      | (go_at_call 53; have _g := hb6; refine (rMul_any _ _ _ _ _ _ _ (by omega) (by omega) (by omega) (by omega) (V6.tab hT)).mono ?_; rintro _ w7 ⟨u7, c7, f7, rfl, i7, hb7⟩; rw [P11.out] at i7; rw [i1p.val] at i7; obtain ⟨x7, hx7⟩ : ∃ x, p11 * C = x := ⟨_, rfl⟩; rw [hx7] at i7; (have z7 : qs x7 ≤ 5 * N + 80 := by (rw [← hx7]; have := qs_mul p11 C; omega)); have X7 := Lib.hid hx7; clear hx7; obtain ⟨s7a, s7b⟩ := i7.sz; have V7 := V6.call hb7)
      | (go_at_call 53; have _g := hb5; refine (rMul_any _ _ _ _ _ _ _ (by omega) (by omega) (by omega) (by omega) (V5.tab hT)).mono ?_; rintro _ w6 ⟨u6, c6, f6, rfl, i6, hb6⟩; rw [P10.out] at i6; rw [i1q.val] at i6; obtain ⟨x6, hx6⟩ : ∃ x, p10 * T = x := ⟨_, rfl⟩; rw [hx6] at i6; (have z6 : qs x6 ≤ 5 * N + 80 := by (rw [← hx6]; have := qs_mul p10 T; omega)); have X6 := Lib.hid hx6; clear hx6; obtain ⟨s6a, s6b⟩ := i6.sz; have V6 := V5.call hb6)
      | (go_at_call 52; have _g := hb4; refine (rAdd_any _ _ _ _ _ _ _ (by omega) (by omega) (by omega) (by omega) (V4.tab hT)).mono ?_; rintro _ w5 ⟨u5, c5, f5, rfl, i5, hb5⟩; rw [P00.out] at i5; rw [i4.val] at i5; obtain ⟨x5, hx5⟩ : ∃ x, p00 + x4 = x := ⟨_, rfl⟩; rw [hx5] at i5; (have z5 : qs x5 ≤ 11 * N + 162 := by (rw [← hx5]; have := qs_add p00 x4; omega)); have X5 := Lib.hid hx5; clear hx5; obtain ⟨s5a, s5b⟩ := i5.sz; have V5 := V4.call hb5)
      | (go_at_call 117; have _g := hb3; refine (rSub_any _ _ _ _ _ _ _ (by omega) (by omega) (by omega) (by omega) (V3.tab hT)).mono ?_; rintro _ w4 ⟨u4, c4, f4, rfl, i4, hb4⟩; rw [i2.val] at i4; rw [i3.val] at i4; obtain ⟨x4, hx4⟩ : ∃ x, x2 - x3 = x := ⟨_, rfl⟩; rw [hx4] at i4; (have z4 : qs x4 ≤ 10 * N + 161 := by (rw [← hx4]; have := qs_sub x2 x3; omega)); have X4 := Lib.hid hx4; clear hx4; obtain ⟨s4a, s4b⟩ := i4.sz; have V4 := V3.call hb4)
      | (go_at_call 53; have _g := hb2; refine (rMul_any _ _ _ _ _ _ _ (by omega) (by omega) (by omega) (by omega) (V2.tab hT)).mono ?_; rintro _ w3 ⟨u3, c3, f3, rfl, i3, hb3⟩; rw [P11.out] at i3; rw [i1q.val] at i3; obtain ⟨x3, hx3⟩ : ∃ x, p11 * T = x := ⟨_, rfl⟩; rw [hx3] at i3; (have z3 : qs x3 ≤ 5 * N + 80 := by (rw [← hx3]; have := qs_mul p11 T; omega)); have X3 := Lib.hid hx3; clear hx3; obtain ⟨s3a, s3b⟩ := i3.sz; have V3 := V2.call hb3)
      | (go_at_call 53; refine (rMul_any _ _ _ _ _ _ _ (by omega) (by omega) (by omega) (by omega) (Vst.tab hT)).mono ?_; rintro _ w2 ⟨u2, c2, f2, rfl, i2, hb2⟩; rw [P10.out] at i2; rw [i1p.val] at i2; obtain ⟨x2, hx2⟩ : ∃ x, p10 * C = x := ⟨_, rfl⟩; rw [hx2] at i2; (have z2 : qs x2 ≤ 5 * N + 80 := by (rw [← hx2]; have := qs_mul p10 C; omega)); have X2 := Lib.hid hx2; clear hx2; obtain ⟨s2a, s2b⟩ := i2.sz; have V2 := Vst.call hb2))
  go_wp2_with fail
  refine bodyPost_ret (results_vec rfl _ rfl (VF0.row 2 rfl)) rfl ?_
  exact ⟨_, _, _, _, _, _, rfl, by simp only [X2.out, X3.out, X4.out, X5.out, X6.out, X7.out, X8.out, X9.out]; exact i5, by simp only [X2.out, X3.out, X4.out, X5.out, X6.out, X7.out, X8.out, X9.out]; exact i9, by simp only [X2.out, X3.out, X4.out, X5.out, X6.out, X7.out, X8.out, X9.out]; omega, by simp only [X2.out, X3.out, X4.out, X5.out, X6.out, X7.out, X8.out, X9.out]; omega, VF0.1⟩

end Go.Proofs.YtajkihgioikipaaDoor.vecB
