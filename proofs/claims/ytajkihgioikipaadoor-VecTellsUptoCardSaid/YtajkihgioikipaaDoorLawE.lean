/- Walk: gantlaw1.VecTells. Printed by wip/gen_lawe.py. -/
import Derived.Test.YtajkihgioikipaaDoorVecD
namespace Go.Proofs.YtajkihgioikipaaDoor.lawE
open Go.RowKit num mem seg q ratA held ratB ratC ratD ratE vars vecA turnA turnB vecB vecC vecD

set_option maxHeartbeats 4000000 in
set_option maxRecDepth 100000 in
theorem vecTells_any (s00 : Bool) (a00 d00 : ByteArray) (s01 : Bool) (a01 d01 : ByteArray) (s10 : Bool) (a10 d10 : ByteArray) (s11 : Bool) (a11 d11 : ByteArray) (s20 : Bool) (a20 d20 : ByteArray) (h3 : Bool) (s30 : Bool) (a30 d30 : ByteArray) (N : Nat) (w : World) (hN1 : 1 ≤ N) (hN : N ≤ 1048576) (ha00 : a00.size ≤ N) (hd00 : d00.size ≤ N) (ha01 : a01.size ≤ N) (hd01 : d01.size ≤ N) (ha10 : a10.size ≤ N) (hd10 : d10.size ≤ N) (ha11 : a11.size ≤ N) (hd11 : d11.size ≤ N) (ha20 : a20.size ≤ N) (hd20 : d20.size ≤ N) (ha30 : a30.size ≤ N) (hd30 : d30.size ≤ N) (hT : Tab w) :
    Calls Tryd.prog 10 #[.agg #[.bool s00, .string a00, .string d00, .bool s01, .string a01, .string d01], .agg #[.bool s10, .string a10, .string d10, .bool s11, .string a11, .string d11], .agg #[.bool s20, .string a20, .string d20], .agg #[.bool h3, .bool s30, .string a30, .string d30]] w fun x w' => x = .returned (.bool true) ∧ Below w.heap.size w w' := by
  have V0 := vars4 w 41 41 39 81 [.bool s00, .string a00, .string d00, .bool s01, .string a01, .string d01] [.bool s10, .string a10, .string d10, .bool s11, .string a11, .string d11] [.bool s20, .string a20, .string d20] [.bool h3, .bool s30, .string a30, .string d30]
  have zp00 : qs (qv s00 a00 d00) ≤ N := Nat.le_trans (qs_qv s00 a00 d00) (by omega)
  obtain ⟨p00, hp00⟩ : ∃ p, qv s00 a00 d00 = p := ⟨_, rfl⟩
  rw [hp00] at zp00
  have P00 := Lib.hid hp00
  clear hp00
  have zp01 : qs (qv s01 a01 d01) ≤ N := Nat.le_trans (qs_qv s01 a01 d01) (by omega)
  obtain ⟨p01, hp01⟩ : ∃ p, qv s01 a01 d01 = p := ⟨_, rfl⟩
  rw [hp01] at zp01
  have P01 := Lib.hid hp01
  clear hp01
  have zp10 : qs (qv s10 a10 d10) ≤ N := Nat.le_trans (qs_qv s10 a10 d10) (by omega)
  obtain ⟨p10, hp10⟩ : ∃ p, qv s10 a10 d10 = p := ⟨_, rfl⟩
  rw [hp10] at zp10
  have P10 := Lib.hid hp10
  clear hp10
  have zp11 : qs (qv s11 a11 d11) ≤ N := Nat.le_trans (qs_qv s11 a11 d11) (by omega)
  obtain ⟨p11, hp11⟩ : ∃ p, qv s11 a11 d11 = p := ⟨_, rfl⟩
  rw [hp11] at zp11
  have P11 := Lib.hid hp11
  clear hp11
  have zp20 : qs (qv s20 a20 d20) ≤ N := Nat.le_trans (qs_qv s20 a20 d20) (by omega)
  obtain ⟨p20, hp20⟩ : ∃ p, qv s20 a20 d20 = p := ⟨_, rfl⟩
  rw [hp20] at zp20
  have P20 := Lib.hid hp20
  clear hp20
  have zp30 : qs (qv s30 a30 d30) ≤ N := Nat.le_trans (qs_qv s30 a30 d30) (by omega)
  obtain ⟨p30, hp30⟩ : ∃ p, qv s30 a30 d30 = p := ⟨_, rfl⟩
  rw [hp30] at zp30
  have P30 := Lib.hid hp30
  clear hp30
  go_enter Tryd.func10, Tryd.ntmps10
  go_wp2_with fail
  refine (turnBegun_any _ (V0.tab hT)).mono ?_
  rintro _ w1 ⟨rfl, hb1⟩
  have V1 := V0.call hb1
  obtain ⟨r0_0, r0_1, r0_2, r0_3, r0_4, r0_5, f0_0, f0_1, f0_2, f0_3, f0_4, f0_5⟩ := row6 (V1.row 0 rfl)
  obtain ⟨r1_0, r1_1, r1_2, r1_3, r1_4, r1_5, f1_0, f1_1, f1_2, f1_3, f1_4, f1_5⟩ := row6 (V1.row 1 rfl)
  obtain ⟨r2_0, r2_1, r2_2, f2_0, f2_1, f2_2⟩ := row3 (V1.row 2 rfl)
  obtain ⟨r3_0, r3_1, r3_2, r3_3, f3_0, f3_1, f3_2, f3_3⟩ := row4 (V1.row 3 rfl)
  go_wp2_with fail
  refine (I_any 1 _ (by decide) (by decide) (V1.tab hT)).mono ?_
  rintro _ w2 ⟨u2, c2, f2, rfl, i2, hb2⟩
  obtain ⟨x2, hx2⟩ : ∃ x, ((1 : Int) : Rat) = x := ⟨_, rfl⟩
  rw [hx2] at i2
  (have z2 : qs x2 ≤ 8 := by (rw [← hx2]; have := qs_i64 (n := 1) (by decide) (by decide); omega))
  have X2 := Lib.hid hx2
  clear hx2
  obtain ⟨s2a, s2b⟩ := i2.sz
  have V2 := V1.call hb2
  clear r0_0 r0_1 r0_2 r0_3 r0_4 r0_5 f0_0 f0_1 f0_2 f0_3 f0_4 f0_5 r1_0 r1_1 r1_2 r1_3 r1_4 r1_5 f1_0 f1_1 f1_2 f1_3 f1_4 f1_5 r2_0 r2_1 r2_2 f2_0 f2_1 f2_2 r3_0 r3_1 r3_2 r3_3 f3_0 f3_1 f3_2 f3_3
  obtain ⟨r0_0, r0_1, r0_2, r0_3, r0_4, r0_5, f0_0, f0_1, f0_2, f0_3, f0_4, f0_5⟩ := row6 (V2.row 0 rfl)
  obtain ⟨r1_0, r1_1, r1_2, r1_3, r1_4, r1_5, f1_0, f1_1, f1_2, f1_3, f1_4, f1_5⟩ := row6 (V2.row 1 rfl)
  obtain ⟨r2_0, r2_1, r2_2, f2_0, f2_1, f2_2⟩ := row3 (V2.row 2 rfl)
  obtain ⟨r3_0, r3_1, r3_2, r3_3, f3_0, f3_1, f3_2, f3_3⟩ := row4 (V2.row 3 rfl)
  go_wp2_with fail
  refine (I_any 2 _ (by decide) (by decide) (V2.tab hT)).mono ?_
  rintro _ w3 ⟨u3, c3, f3, rfl, i3, hb3⟩
  obtain ⟨x3, hx3⟩ : ∃ x, ((2 : Int) : Rat) = x := ⟨_, rfl⟩
  rw [hx3] at i3
  (have z3 : qs x3 ≤ 8 := by (rw [← hx3]; have := qs_i64 (n := 2) (by decide) (by decide); omega))
  have X3 := Lib.hid hx3
  clear hx3
  obtain ⟨s3a, s3b⟩ := i3.sz
  have V3 := V2.call hb3
  clear r0_0 r0_1 r0_2 r0_3 r0_4 r0_5 f0_0 f0_1 f0_2 f0_3 f0_4 f0_5 r1_0 r1_1 r1_2 r1_3 r1_4 r1_5 f1_0 f1_1 f1_2 f1_3 f1_4 f1_5 r2_0 r2_1 r2_2 f2_0 f2_1 f2_2 r3_0 r3_1 r3_2 r3_3 f3_0 f3_1 f3_2 f3_3
  obtain ⟨r0_0, r0_1, r0_2, r0_3, r0_4, r0_5, f0_0, f0_1, f0_2, f0_3, f0_4, f0_5⟩ := row6 (V3.row 0 rfl)
  obtain ⟨r1_0, r1_1, r1_2, r1_3, r1_4, r1_5, f1_0, f1_1, f1_2, f1_3, f1_4, f1_5⟩ := row6 (V3.row 1 rfl)
  obtain ⟨r2_0, r2_1, r2_2, f2_0, f2_1, f2_2⟩ := row3 (V3.row 2 rfl)
  obtain ⟨r3_0, r3_1, r3_2, r3_3, f3_0, f3_1, f3_2, f3_3⟩ := row4 (V3.row 3 rfl)
  go_wp2_with fail
  refine (I_any 3 _ (by decide) (by decide) (V3.tab hT)).mono ?_
  rintro _ w4 ⟨u4, c4, f4, rfl, i4, hb4⟩
  obtain ⟨x4, hx4⟩ : ∃ x, ((3 : Int) : Rat) = x := ⟨_, rfl⟩
  rw [hx4] at i4
  (have z4 : qs x4 ≤ 8 := by (rw [← hx4]; have := qs_i64 (n := 3) (by decide) (by decide); omega))
  have X4 := Lib.hid hx4
  clear hx4
  obtain ⟨s4a, s4b⟩ := i4.sz
  have V4 := V3.call hb4
  clear r0_0 r0_1 r0_2 r0_3 r0_4 r0_5 f0_0 f0_1 f0_2 f0_3 f0_4 f0_5 r1_0 r1_1 r1_2 r1_3 r1_4 r1_5 f1_0 f1_1 f1_2 f1_3 f1_4 f1_5 r2_0 r2_1 r2_2 f2_0 f2_1 f2_2 r3_0 r3_1 r3_2 r3_3 f3_0 f3_1 f3_2 f3_3
  obtain ⟨r0_0, r0_1, r0_2, r0_3, r0_4, r0_5, f0_0, f0_1, f0_2, f0_3, f0_4, f0_5⟩ := row6 (V4.row 0 rfl)
  obtain ⟨r1_0, r1_1, r1_2, r1_3, r1_4, r1_5, f1_0, f1_1, f1_2, f1_3, f1_4, f1_5⟩ := row6 (V4.row 1 rfl)
  obtain ⟨r2_0, r2_1, r2_2, f2_0, f2_1, f2_2⟩ := row3 (V4.row 2 rfl)
  obtain ⟨r3_0, r3_1, r3_2, r3_3, f3_0, f3_1, f3_2, f3_3⟩ := row4 (V4.row 3 rfl)
  go_wp2_with fail
  refine (I_any 4 _ (by decide) (by decide) (V4.tab hT)).mono ?_
  rintro _ w5 ⟨u5, c5, f5, rfl, i5, hb5⟩
  obtain ⟨x5, hx5⟩ : ∃ x, ((4 : Int) : Rat) = x := ⟨_, rfl⟩
  rw [hx5] at i5
  (have z5 : qs x5 ≤ 8 := by (rw [← hx5]; have := qs_i64 (n := 4) (by decide) (by decide); omega))
  have X5 := Lib.hid hx5
  clear hx5
  obtain ⟨s5a, s5b⟩ := i5.sz
  have V5 := V4.call hb5
  clear r0_0 r0_1 r0_2 r0_3 r0_4 r0_5 f0_0 f0_1 f0_2 f0_3 f0_4 f0_5 r1_0 r1_1 r1_2 r1_3 r1_4 r1_5 f1_0 f1_1 f1_2 f1_3 f1_4 f1_5 r2_0 r2_1 r2_2 f2_0 f2_1 f2_2 r3_0 r3_1 r3_2 r3_3 f3_0 f3_1 f3_2 f3_3
  obtain ⟨r0_0, r0_1, r0_2, r0_3, r0_4, r0_5, f0_0, f0_1, f0_2, f0_3, f0_4, f0_5⟩ := row6 (V5.row 0 rfl)
  obtain ⟨r1_0, r1_1, r1_2, r1_3, r1_4, r1_5, f1_0, f1_1, f1_2, f1_3, f1_4, f1_5⟩ := row6 (V5.row 1 rfl)
  obtain ⟨r2_0, r2_1, r2_2, f2_0, f2_1, f2_2⟩ := row3 (V5.row 2 rfl)
  obtain ⟨r3_0, r3_1, r3_2, r3_3, f3_0, f3_1, f3_2, f3_3⟩ := row4 (V5.row 3 rfl)
  go_wp2_with fail
  refine (vDot_any _ _ _ _ _ _ _ _ _ _ _ _ (8) _ (by omega) (by omega) (by omega) (by omega) (by omega) (by omega) (by omega) (by omega) (by omega) (by omega) (V5.tab hT)).mono ?_
  rintro _ w6 ⟨u6, c6, f6, rfl, i6, z6, hb6⟩
  rw [i2.val] at i6 z6
  rw [i3.val] at i6 z6
  rw [i4.val] at i6 z6
  rw [i5.val] at i6 z6
  have E11 : x2 * x4 + x3 * x5 = ((11 : Int) : Rat) := by (rw [← X2.out, ← X3.out, ← X4.out, ← X5.out]; decide +kernel)
  rw [E11] at i6
  have V6 := V5.call hb6
  clear r0_0 r0_1 r0_2 r0_3 r0_4 r0_5 f0_0 f0_1 f0_2 f0_3 f0_4 f0_5 r1_0 r1_1 r1_2 r1_3 r1_4 r1_5 f1_0 f1_1 f1_2 f1_3 f1_4 f1_5 r2_0 r2_1 r2_2 f2_0 f2_1 f2_2 r3_0 r3_1 r3_2 r3_3 f3_0 f3_1 f3_2 f3_3
  obtain ⟨r0_0, r0_1, r0_2, r0_3, r0_4, r0_5, f0_0, f0_1, f0_2, f0_3, f0_4, f0_5⟩ := row6 (V6.row 0 rfl)
  obtain ⟨r1_0, r1_1, r1_2, r1_3, r1_4, r1_5, f1_0, f1_1, f1_2, f1_3, f1_4, f1_5⟩ := row6 (V6.row 1 rfl)
  obtain ⟨r2_0, r2_1, r2_2, f2_0, f2_1, f2_2⟩ := row3 (V6.row 2 rfl)
  obtain ⟨r3_0, r3_1, r3_2, r3_3, f3_0, f3_1, f3_2, f3_3⟩ := row4 (V6.row 3 rfl)
  go_wp2_with fail
  refine (I_any 11 _ (by decide) (by decide) (V6.tab hT)).mono ?_
  rintro _ w7 ⟨u7, c7, f7, rfl, i7, hb7⟩
  obtain ⟨x7, hx7⟩ : ∃ x, ((11 : Int) : Rat) = x := ⟨_, rfl⟩
  rw [hx7] at i7
  (have z7 : qs x7 ≤ 8 := by (rw [← hx7]; have := qs_i64 (n := 11) (by decide) (by decide); omega))
  have X7 := Lib.hid hx7
  clear hx7
  obtain ⟨s7a, s7b⟩ := i7.sz
  have V7 := V6.call hb7
  rw [← X7.out] at i7
  (obtain ⟨rfl, rfl, rfl⟩ := i6.inj i7)
  clear r0_0 r0_1 r0_2 r0_3 r0_4 r0_5 f0_0 f0_1 f0_2 f0_3 f0_4 f0_5 r1_0 r1_1 r1_2 r1_3 r1_4 r1_5 f1_0 f1_1 f1_2 f1_3 f1_4 f1_5 r2_0 r2_1 r2_2 f2_0 f2_1 f2_2 r3_0 r3_1 r3_2 r3_3 f3_0 f3_1 f3_2 f3_3
  obtain ⟨r0_0, r0_1, r0_2, r0_3, r0_4, r0_5, f0_0, f0_1, f0_2, f0_3, f0_4, f0_5⟩ := row6 (V7.row 0 rfl)
  obtain ⟨r1_0, r1_1, r1_2, r1_3, r1_4, r1_5, f1_0, f1_1, f1_2, f1_3, f1_4, f1_5⟩ := row6 (V7.row 1 rfl)
  obtain ⟨r2_0, r2_1, r2_2, f2_0, f2_1, f2_2⟩ := row3 (V7.row 2 rfl)
  obtain ⟨r3_0, r3_1, r3_2, r3_3, f3_0, f3_1, f3_2, f3_3⟩ := row4 (V7.row 3 rfl)
  clear r0_0 r0_1 r0_2 r0_3 r0_4 r0_5 f0_0 f0_1 f0_2 f0_3 f0_4 f0_5 r1_0 r1_1 r1_2 r1_3 r1_4 r1_5 f1_0 f1_1 f1_2 f1_3 f1_4 f1_5 r2_0 r2_1 r2_2 f2_0 f2_1 f2_2 r3_0 r3_1 r3_2 r3_3 f3_0 f3_1 f3_2 f3_3
  obtain ⟨r0_0, r0_1, r0_2, r0_3, r0_4, r0_5, f0_0, f0_1, f0_2, f0_3, f0_4, f0_5⟩ := row6 (V7.row 0 rfl)
  obtain ⟨r1_0, r1_1, r1_2, r1_3, r1_4, r1_5, f1_0, f1_1, f1_2, f1_3, f1_4, f1_5⟩ := row6 (V7.row 1 rfl)
  obtain ⟨r2_0, r2_1, r2_2, f2_0, f2_1, f2_2⟩ := row3 (V7.row 2 rfl)
  obtain ⟨r3_0, r3_1, r3_2, r3_3, f3_0, f3_1, f3_2, f3_3⟩ := row4 (V7.row 3 rfl)
  go_upto_region 3 with fail
  clear r0_0 r0_1 r0_2 r0_3 r0_4 r0_5 f0_0 f0_1 f0_2 f0_3 f0_4 f0_5 r1_0 r1_1 r1_2 r1_3 r1_4 r1_5 f1_0 f1_1 f1_2 f1_3 f1_4 f1_5 r2_0 r2_1 r2_2 f2_0 f2_1 f2_2 r3_0 r3_1 r3_2 r3_3 f3_0 f3_1 f3_2 f3_3
  have P3_ : ∀ w', Vars w [(w.heap.size, 41, [.bool s00, .string a00, .string d00, .bool s01, .string a01, .string d01]), (w.heap.size + 1, 41, [.bool s10, .string a10, .string d10, .bool s11, .string a11, .string d11]), (w.heap.size + 1 + 1, 39, [.bool s20, .string a20, .string d20]), (w.heap.size + 1 + 1 + 1, 81, [.bool h3, .bool s30, .string a30, .string d30])] w' → Vars w [(w.heap.size, 41, [.bool s00, .string a00, .string d00, .bool s01, .string a01, .string d01]), (w.heap.size + 1, 41, [.bool s10, .string a10, .string d10, .bool s11, .string a11, .string d11]), (w.heap.size + 1 + 1, 39, [.bool s20, .string a20, .string d20]), (w.heap.size + 1 + 1 + 1, 81, [.bool h3, .bool s30, .string a30, .string d30])] w' ∧ w'.cell? ⟨w.heap.size, 0, none⟩ = some (.bool s00) ∧ w'.cell? ⟨w.heap.size, 1, none⟩ = some (.string a00) ∧ w'.cell? ⟨w.heap.size, 2, none⟩ = some (.string d00) ∧ w'.cell? ⟨w.heap.size, 3, none⟩ = some (.bool s01) ∧ w'.cell? ⟨w.heap.size, 4, none⟩ = some (.string a01) ∧ w'.cell? ⟨w.heap.size, 5, none⟩ = some (.string d01) ∧ w'.cell? ⟨w.heap.size + 1, 0, none⟩ = some (.bool s10) ∧ w'.cell? ⟨w.heap.size + 1, 1, none⟩ = some (.string a10) ∧ w'.cell? ⟨w.heap.size + 1, 2, none⟩ = some (.string d10) ∧ w'.cell? ⟨w.heap.size + 1, 3, none⟩ = some (.bool s11) ∧ w'.cell? ⟨w.heap.size + 1, 4, none⟩ = some (.string a11) ∧ w'.cell? ⟨w.heap.size + 1, 5, none⟩ = some (.string d11) ∧ w'.cell? ⟨w.heap.size + 1 + 1, 0, none⟩ = some (.bool s20) ∧ w'.cell? ⟨w.heap.size + 1 + 1, 1, none⟩ = some (.string a20) ∧ w'.cell? ⟨w.heap.size + 1 + 1, 2, none⟩ = some (.string d20) ∧ w'.cell? ⟨w.heap.size + 1 + 1 + 1, 0, none⟩ = some (.bool h3) ∧ w'.cell? ⟨w.heap.size + 1 + 1 + 1, 1, none⟩ = some (.bool s30) ∧ w'.cell? ⟨w.heap.size + 1 + 1 + 1, 2, none⟩ = some (.string a30) ∧ w'.cell? ⟨w.heap.size + 1 + 1 + 1, 3, none⟩ = some (.string d30) := fun w' h => by
    obtain ⟨c0_0, c0_1, c0_2, c0_3, c0_4, c0_5, _⟩ := row6 (h.row 0 rfl)
    obtain ⟨c1_0, c1_1, c1_2, c1_3, c1_4, c1_5, _⟩ := row6 (h.row 1 rfl)
    obtain ⟨c2_0, c2_1, c2_2, _⟩ := row3 (h.row 2 rfl)
    obtain ⟨c3_0, c3_1, c3_2, c3_3, _⟩ := row4 (h.row 3 rfl)
    exact ⟨h, c0_0, c0_1, c0_2, c0_3, c0_4, c0_5, c1_0, c1_1, c1_2, c1_3, c1_4, c1_5, c2_0, c2_1, c2_2, c3_0, c3_1, c3_2, c3_3⟩
  go_cut [9] (fun sl wx => ∃ (g : Nat) (u : Bool) (c f : ByteArray) (u' : Bool) (c' f' : ByteArray), sl = .pointer (some ⟨g, 0, none⟩) ∧ Is (p00 + p10) u c f ∧ Is (p01 + p11) u' c' f' ∧ Vars w ([(w.heap.size, 41, [.bool s00, .string a00, .string d00, .bool s01, .string a01, .string d01]), (w.heap.size + 1, 41, [.bool s10, .string a10, .string d10, .bool s11, .string a11, .string d11]), (w.heap.size + 1 + 1, 39, [.bool s20, .string a20, .string d20]), (w.heap.size + 1 + 1 + 1, 81, [.bool h3, .bool s30, .string a30, .string d30]), (g, 41, [.bool u, .string c, .string f, .bool u', .string c', .string f'])]) wx)
  case first =>
    have L0 : Vars w [(w.heap.size, 41, [.bool s00, .string a00, .string d00, .bool s01, .string a01, .string d01]), (w.heap.size + 1, 41, [.bool s10, .string a10, .string d10, .bool s11, .string a11, .string d11]), (w.heap.size + 1 + 1, 39, [.bool s20, .string a20, .string d20]), (w.heap.size + 1 + 1 + 1, 81, [.bool h3, .bool s30, .string a30, .string d30])] w7.drew := V7.drew.lead
    have M0 : Vars w [(w.heap.size, 41, [.bool s00, .string a00, .string d00, .bool s01, .string a01, .string d01]), (w.heap.size + 1, 41, [.bool s10, .string a10, .string d10, .bool s11, .string a11, .string d11]), (w.heap.size + 1 + 1, 39, [.bool s20, .string a20, .string d20]), (w.heap.size + 1 + 1 + 1, 81, [.bool h3, .bool s30, .string a30, .string d30])] (w7.drew.alloc (.cells #[.bool false, .string ⟨#[]⟩, .string ⟨#[]⟩, .bool false, .string ⟨#[]⟩, .string ⟨#[]⟩] 41)) := (V7.drew.push 41 [.bool false, .string ⟨#[]⟩, .string ⟨#[]⟩, .bool false, .string ⟨#[]⟩, .string ⟨#[]⟩]).lead
    have Vst := V7.drew
    have Nst : Vars w ([(w.heap.size, 41, [.bool s00, .string a00, .string d00, .bool s01, .string a01, .string d01]), (w.heap.size + 1, 41, [.bool s10, .string a10, .string d10, .bool s11, .string a11, .string d11]), (w.heap.size + 1 + 1, 39, [.bool s20, .string a20, .string d20]), (w.heap.size + 1 + 1 + 1, 81, [.bool h3, .bool s30, .string a30, .string d30]), (w7.heap.size, 41, [.bool false, .string ⟨#[]⟩, .string ⟨#[]⟩, .bool false, .string ⟨#[]⟩, .string ⟨#[]⟩])]) (w7.alloc (.cells #[.bool false, .string ⟨#[]⟩, .string ⟨#[]⟩, .bool false, .string ⟨#[]⟩, .string ⟨#[]⟩] 41)).drew := (V7.push 41 [.bool false, .string ⟨#[]⟩, .string ⟨#[]⟩, .bool false, .string ⟨#[]⟩, .string ⟨#[]⟩]).drew
    have N0 : Vars w [(w.heap.size, 41, [.bool s00, .string a00, .string d00, .bool s01, .string a01, .string d01]), (w.heap.size + 1, 41, [.bool s10, .string a10, .string d10, .bool s11, .string a11, .string d11]), (w.heap.size + 1 + 1, 39, [.bool s20, .string a20, .string d20]), (w.heap.size + 1 + 1 + 1, 81, [.bool h3, .bool s30, .string a30, .string d30])] (w7.alloc (.cells #[.bool false, .string ⟨#[]⟩, .string ⟨#[]⟩, .bool false, .string ⟨#[]⟩, .string ⟨#[]⟩] 41)).drew := Nst.lead
    go_region_held3 (fun w' => Vars w [(w.heap.size, 41, [.bool s00, .string a00, .string d00, .bool s01, .string a01, .string d01]), (w.heap.size + 1, 41, [.bool s10, .string a10, .string d10, .bool s11, .string a11, .string d11]), (w.heap.size + 1 + 1, 39, [.bool s20, .string a20, .string d20]), (w.heap.size + 1 + 1 + 1, 81, [.bool h3, .bool s30, .string a30, .string d30])] w' ∧ w'.cell? ⟨w.heap.size, 0, none⟩ = some (.bool s00) ∧ w'.cell? ⟨w.heap.size, 1, none⟩ = some (.string a00) ∧ w'.cell? ⟨w.heap.size, 2, none⟩ = some (.string d00) ∧ w'.cell? ⟨w.heap.size, 3, none⟩ = some (.bool s01) ∧ w'.cell? ⟨w.heap.size, 4, none⟩ = some (.string a01) ∧ w'.cell? ⟨w.heap.size, 5, none⟩ = some (.string d01) ∧ w'.cell? ⟨w.heap.size + 1, 0, none⟩ = some (.bool s10) ∧ w'.cell? ⟨w.heap.size + 1, 1, none⟩ = some (.string a10) ∧ w'.cell? ⟨w.heap.size + 1, 2, none⟩ = some (.string d10) ∧ w'.cell? ⟨w.heap.size + 1, 3, none⟩ = some (.bool s11) ∧ w'.cell? ⟨w.heap.size + 1, 4, none⟩ = some (.string a11) ∧ w'.cell? ⟨w.heap.size + 1, 5, none⟩ = some (.string d11) ∧ w'.cell? ⟨w.heap.size + 1 + 1, 0, none⟩ = some (.bool s20) ∧ w'.cell? ⟨w.heap.size + 1 + 1, 1, none⟩ = some (.string a20) ∧ w'.cell? ⟨w.heap.size + 1 + 1, 2, none⟩ = some (.string d20) ∧ w'.cell? ⟨w.heap.size + 1 + 1 + 1, 0, none⟩ = some (.bool h3) ∧ w'.cell? ⟨w.heap.size + 1 + 1 + 1, 1, none⟩ = some (.bool s30) ∧ w'.cell? ⟨w.heap.size + 1 + 1 + 1, 2, none⟩ = some (.string a30) ∧ w'.cell? ⟨w.heap.size + 1 + 1 + 1, 3, none⟩ = some (.string d30))
      (with_reducible apply P3_; with_reducible assumption)
      (first
        | (go_at_call 52; have _g := hb8; refine (rAdd_any _ _ _ _ _ _ _ (by omega) (by omega) (by omega) (by omega) (by first | exact V8.tab hT | exact (V8.push 41 [.bool false, .string ⟨#[]⟩, .string ⟨#[]⟩, .bool false, .string ⟨#[]⟩, .string ⟨#[]⟩]).tab hT)).mono ?_; rintro _ w9 ⟨u9, c9, f9, rfl, i9, hb9⟩; rw [P01.out] at i9; rw [P11.out] at i9; obtain ⟨x9, hx9⟩ : ∃ x, p01 + p11 = x := ⟨_, rfl⟩; rw [hx9] at i9; (have z9 : qs x9 ≤ 2 * N + 1 := by (rw [← hx9]; have := qs_add p01 p11; omega)); have X9 := Lib.hid hx9; clear hx9; obtain ⟨s9a, s9b⟩ := i9.sz; (first | have V9 := V8.call hb9 | have V9 := (V8.push 41 [.bool false, .string ⟨#[]⟩, .string ⟨#[]⟩, .bool false, .string ⟨#[]⟩, .string ⟨#[]⟩]).call hb9); have L9 : Vars w [(w.heap.size, 41, [.bool s00, .string a00, .string d00, .bool s01, .string a01, .string d01]), (w.heap.size + 1, 41, [.bool s10, .string a10, .string d10, .bool s11, .string a11, .string d11]), (w.heap.size + 1 + 1, 39, [.bool s20, .string a20, .string d20]), (w.heap.size + 1 + 1 + 1, 81, [.bool h3, .bool s30, .string a30, .string d30])] w9 := V9.lead; have M9 : Vars w [(w.heap.size, 41, [.bool s00, .string a00, .string d00, .bool s01, .string a01, .string d01]), (w.heap.size + 1, 41, [.bool s10, .string a10, .string d10, .bool s11, .string a11, .string d11]), (w.heap.size + 1 + 1, 39, [.bool s20, .string a20, .string d20]), (w.heap.size + 1 + 1 + 1, 81, [.bool h3, .bool s30, .string a30, .string d30])] (w9.alloc (.cells #[.bool false, .string ⟨#[]⟩, .string ⟨#[]⟩, .bool false, .string ⟨#[]⟩, .string ⟨#[]⟩] 41)) := (L9.push 41 [.bool false, .string ⟨#[]⟩, .string ⟨#[]⟩, .bool false, .string ⟨#[]⟩, .string ⟨#[]⟩]).lead; (first | obtain ⟨t0, t1, t2, t3, t4, t5, tf0, tf1, tf2, tf3, tf4, tf5⟩ := row6 (V9.row 4 rfl) | obtain ⟨t0, t1, t2, t3, t4, t5, tf0, tf1, tf2, tf3, tf4, tf5⟩ := row6 ((V9.push 41 [.bool false, .string ⟨#[]⟩, .string ⟨#[]⟩, .bool false, .string ⟨#[]⟩, .string ⟨#[]⟩]).row 4 rfl)); (first | have VF := V9.put6 4 rfl (.bool u8) (.string c8) (.string f8) (.bool u9) (.string c9) (.string f9) | have VF := V9.push 41 [.bool u8, .string c8, .string f8, .bool u9, .string c9, .string f9]); have LF := VF.lead (ls := [(w.heap.size, 41, [.bool s00, .string a00, .string d00, .bool s01, .string a01, .string d01]), (w.heap.size + 1, 41, [.bool s10, .string a10, .string d10, .bool s11, .string a11, .string d11]), (w.heap.size + 1 + 1, 39, [.bool s20, .string a20, .string d20]), (w.heap.size + 1 + 1 + 1, 81, [.bool h3, .bool s30, .string a30, .string d30])]))
        | (go_at_call 52; refine (rAdd_any _ _ _ _ _ _ _ (by omega) (by omega) (by omega) (by omega) (by first | exact Vst.tab hT | exact Nst.tab hT)).mono ?_; rintro _ w8 ⟨u8, c8, f8, rfl, i8, hb8⟩; rw [P00.out] at i8; rw [P10.out] at i8; obtain ⟨x8, hx8⟩ : ∃ x, p00 + p10 = x := ⟨_, rfl⟩; rw [hx8] at i8; (have z8 : qs x8 ≤ 2 * N + 1 := by (rw [← hx8]; have := qs_add p00 p10; omega)); have X8 := Lib.hid hx8; clear hx8; obtain ⟨s8a, s8b⟩ := i8.sz; (first | have V8 := Vst.call hb8 | have V8 := Nst.call hb8); have L8 : Vars w [(w.heap.size, 41, [.bool s00, .string a00, .string d00, .bool s01, .string a01, .string d01]), (w.heap.size + 1, 41, [.bool s10, .string a10, .string d10, .bool s11, .string a11, .string d11]), (w.heap.size + 1 + 1, 39, [.bool s20, .string a20, .string d20]), (w.heap.size + 1 + 1 + 1, 81, [.bool h3, .bool s30, .string a30, .string d30])] w8 := V8.lead; have M8 : Vars w [(w.heap.size, 41, [.bool s00, .string a00, .string d00, .bool s01, .string a01, .string d01]), (w.heap.size + 1, 41, [.bool s10, .string a10, .string d10, .bool s11, .string a11, .string d11]), (w.heap.size + 1 + 1, 39, [.bool s20, .string a20, .string d20]), (w.heap.size + 1 + 1 + 1, 81, [.bool h3, .bool s30, .string a30, .string d30])] (w8.alloc (.cells #[.bool false, .string ⟨#[]⟩, .string ⟨#[]⟩, .bool false, .string ⟨#[]⟩, .string ⟨#[]⟩] 41)) := (L8.push 41 [.bool false, .string ⟨#[]⟩, .string ⟨#[]⟩, .bool false, .string ⟨#[]⟩, .string ⟨#[]⟩]).lead))
    all_goals
      go_wp2_with fail
      go_meet
      exact ⟨_, _, _, _, _, _, _, rfl, by rw [X8.out]; exact i8, by rw [X9.out]; exact i9, VF⟩
  case rest =>
    obtain ⟨gS, uS, cS, fS, uS', cS', fS', rfl, iS, jS, VLS⟩ := hcut
    go_upto_region 4 with fail
    have P4_ : ∀ w', Vars w [(w.heap.size, 41, [.bool s00, .string a00, .string d00, .bool s01, .string a01, .string d01]), (w.heap.size + 1, 41, [.bool s10, .string a10, .string d10, .bool s11, .string a11, .string d11]), (w.heap.size + 1 + 1, 39, [.bool s20, .string a20, .string d20]), (w.heap.size + 1 + 1 + 1, 81, [.bool h3, .bool s30, .string a30, .string d30]), (gS, 41, [.bool uS, .string cS, .string fS, .bool uS', .string cS', .string fS'])] w' → Vars w [(w.heap.size, 41, [.bool s00, .string a00, .string d00, .bool s01, .string a01, .string d01]), (w.heap.size + 1, 41, [.bool s10, .string a10, .string d10, .bool s11, .string a11, .string d11]), (w.heap.size + 1 + 1, 39, [.bool s20, .string a20, .string d20]), (w.heap.size + 1 + 1 + 1, 81, [.bool h3, .bool s30, .string a30, .string d30]), (gS, 41, [.bool uS, .string cS, .string fS, .bool uS', .string cS', .string fS'])] w' ∧ w'.cell? ⟨w.heap.size, 0, none⟩ = some (.bool s00) ∧ w'.cell? ⟨w.heap.size, 1, none⟩ = some (.string a00) ∧ w'.cell? ⟨w.heap.size, 2, none⟩ = some (.string d00) ∧ w'.cell? ⟨w.heap.size, 3, none⟩ = some (.bool s01) ∧ w'.cell? ⟨w.heap.size, 4, none⟩ = some (.string a01) ∧ w'.cell? ⟨w.heap.size, 5, none⟩ = some (.string d01) ∧ w'.cell? ⟨w.heap.size + 1, 0, none⟩ = some (.bool s10) ∧ w'.cell? ⟨w.heap.size + 1, 1, none⟩ = some (.string a10) ∧ w'.cell? ⟨w.heap.size + 1, 2, none⟩ = some (.string d10) ∧ w'.cell? ⟨w.heap.size + 1, 3, none⟩ = some (.bool s11) ∧ w'.cell? ⟨w.heap.size + 1, 4, none⟩ = some (.string a11) ∧ w'.cell? ⟨w.heap.size + 1, 5, none⟩ = some (.string d11) ∧ w'.cell? ⟨w.heap.size + 1 + 1, 0, none⟩ = some (.bool s20) ∧ w'.cell? ⟨w.heap.size + 1 + 1, 1, none⟩ = some (.string a20) ∧ w'.cell? ⟨w.heap.size + 1 + 1, 2, none⟩ = some (.string d20) ∧ w'.cell? ⟨w.heap.size + 1 + 1 + 1, 0, none⟩ = some (.bool h3) ∧ w'.cell? ⟨w.heap.size + 1 + 1 + 1, 1, none⟩ = some (.bool s30) ∧ w'.cell? ⟨w.heap.size + 1 + 1 + 1, 2, none⟩ = some (.string a30) ∧ w'.cell? ⟨w.heap.size + 1 + 1 + 1, 3, none⟩ = some (.string d30) ∧ w'.cell? ⟨gS, 0, none⟩ = some (.bool uS) ∧ w'.cell? ⟨gS, 1, none⟩ = some (.string cS) ∧ w'.cell? ⟨gS, 2, none⟩ = some (.string fS) ∧ w'.cell? ⟨gS, 3, none⟩ = some (.bool uS') ∧ w'.cell? ⟨gS, 4, none⟩ = some (.string cS') ∧ w'.cell? ⟨gS, 5, none⟩ = some (.string fS') := fun w' h => by
      obtain ⟨c0_0, c0_1, c0_2, c0_3, c0_4, c0_5, _⟩ := row6 (h.row 0 rfl)
      obtain ⟨c1_0, c1_1, c1_2, c1_3, c1_4, c1_5, _⟩ := row6 (h.row 1 rfl)
      obtain ⟨c2_0, c2_1, c2_2, _⟩ := row3 (h.row 2 rfl)
      obtain ⟨c3_0, c3_1, c3_2, c3_3, _⟩ := row4 (h.row 3 rfl)
      obtain ⟨c4_0, c4_1, c4_2, c4_3, c4_4, c4_5, _⟩ := row6 (h.row 4 rfl)
      exact ⟨h, c0_0, c0_1, c0_2, c0_3, c0_4, c0_5, c1_0, c1_1, c1_2, c1_3, c1_4, c1_5, c2_0, c2_1, c2_2, c3_0, c3_1, c3_2, c3_3, c4_0, c4_1, c4_2, c4_3, c4_4, c4_5⟩
    go_cut [10] (fun sl wx => ∃ (g : Nat) (u : Bool) (c f : ByteArray) (u' : Bool) (c' f' : ByteArray), sl = .pointer (some ⟨g, 0, none⟩) ∧ Is (p00 * p20) u c f ∧ Is (p01 * p20) u' c' f' ∧ Vars w ([(w.heap.size, 41, [.bool s00, .string a00, .string d00, .bool s01, .string a01, .string d01]), (w.heap.size + 1, 41, [.bool s10, .string a10, .string d10, .bool s11, .string a11, .string d11]), (w.heap.size + 1 + 1, 39, [.bool s20, .string a20, .string d20]), (w.heap.size + 1 + 1 + 1, 81, [.bool h3, .bool s30, .string a30, .string d30]), (gS, 41, [.bool uS, .string cS, .string fS, .bool uS', .string cS', .string fS']), (g, 41, [.bool u, .string c, .string f, .bool u', .string c', .string f'])]) wx)
    case first =>
      have L0 : Vars w [(w.heap.size, 41, [.bool s00, .string a00, .string d00, .bool s01, .string a01, .string d01]), (w.heap.size + 1, 41, [.bool s10, .string a10, .string d10, .bool s11, .string a11, .string d11]), (w.heap.size + 1 + 1, 39, [.bool s20, .string a20, .string d20]), (w.heap.size + 1 + 1 + 1, 81, [.bool h3, .bool s30, .string a30, .string d30]), (gS, 41, [.bool uS, .string cS, .string fS, .bool uS', .string cS', .string fS'])] wc.drew := VLS.drew.lead
      have M0 : Vars w [(w.heap.size, 41, [.bool s00, .string a00, .string d00, .bool s01, .string a01, .string d01]), (w.heap.size + 1, 41, [.bool s10, .string a10, .string d10, .bool s11, .string a11, .string d11]), (w.heap.size + 1 + 1, 39, [.bool s20, .string a20, .string d20]), (w.heap.size + 1 + 1 + 1, 81, [.bool h3, .bool s30, .string a30, .string d30]), (gS, 41, [.bool uS, .string cS, .string fS, .bool uS', .string cS', .string fS'])] (wc.drew.alloc (.cells #[.bool false, .string ⟨#[]⟩, .string ⟨#[]⟩, .bool false, .string ⟨#[]⟩, .string ⟨#[]⟩] 41)) := (VLS.drew.push 41 [.bool false, .string ⟨#[]⟩, .string ⟨#[]⟩, .bool false, .string ⟨#[]⟩, .string ⟨#[]⟩]).lead
      have Vst := VLS.drew
      have Nst : Vars w ([(w.heap.size, 41, [.bool s00, .string a00, .string d00, .bool s01, .string a01, .string d01]), (w.heap.size + 1, 41, [.bool s10, .string a10, .string d10, .bool s11, .string a11, .string d11]), (w.heap.size + 1 + 1, 39, [.bool s20, .string a20, .string d20]), (w.heap.size + 1 + 1 + 1, 81, [.bool h3, .bool s30, .string a30, .string d30]), (gS, 41, [.bool uS, .string cS, .string fS, .bool uS', .string cS', .string fS']), (wc.heap.size, 41, [.bool false, .string ⟨#[]⟩, .string ⟨#[]⟩, .bool false, .string ⟨#[]⟩, .string ⟨#[]⟩])]) (wc.alloc (.cells #[.bool false, .string ⟨#[]⟩, .string ⟨#[]⟩, .bool false, .string ⟨#[]⟩, .string ⟨#[]⟩] 41)).drew := (VLS.push 41 [.bool false, .string ⟨#[]⟩, .string ⟨#[]⟩, .bool false, .string ⟨#[]⟩, .string ⟨#[]⟩]).drew
      have N0 : Vars w [(w.heap.size, 41, [.bool s00, .string a00, .string d00, .bool s01, .string a01, .string d01]), (w.heap.size + 1, 41, [.bool s10, .string a10, .string d10, .bool s11, .string a11, .string d11]), (w.heap.size + 1 + 1, 39, [.bool s20, .string a20, .string d20]), (w.heap.size + 1 + 1 + 1, 81, [.bool h3, .bool s30, .string a30, .string d30]), (gS, 41, [.bool uS, .string cS, .string fS, .bool uS', .string cS', .string fS'])] (wc.alloc (.cells #[.bool false, .string ⟨#[]⟩, .string ⟨#[]⟩, .bool false, .string ⟨#[]⟩, .string ⟨#[]⟩] 41)).drew := Nst.lead
      go_region_held3 (fun w' => Vars w [(w.heap.size, 41, [.bool s00, .string a00, .string d00, .bool s01, .string a01, .string d01]), (w.heap.size + 1, 41, [.bool s10, .string a10, .string d10, .bool s11, .string a11, .string d11]), (w.heap.size + 1 + 1, 39, [.bool s20, .string a20, .string d20]), (w.heap.size + 1 + 1 + 1, 81, [.bool h3, .bool s30, .string a30, .string d30]), (gS, 41, [.bool uS, .string cS, .string fS, .bool uS', .string cS', .string fS'])] w' ∧ w'.cell? ⟨w.heap.size, 0, none⟩ = some (.bool s00) ∧ w'.cell? ⟨w.heap.size, 1, none⟩ = some (.string a00) ∧ w'.cell? ⟨w.heap.size, 2, none⟩ = some (.string d00) ∧ w'.cell? ⟨w.heap.size, 3, none⟩ = some (.bool s01) ∧ w'.cell? ⟨w.heap.size, 4, none⟩ = some (.string a01) ∧ w'.cell? ⟨w.heap.size, 5, none⟩ = some (.string d01) ∧ w'.cell? ⟨w.heap.size + 1, 0, none⟩ = some (.bool s10) ∧ w'.cell? ⟨w.heap.size + 1, 1, none⟩ = some (.string a10) ∧ w'.cell? ⟨w.heap.size + 1, 2, none⟩ = some (.string d10) ∧ w'.cell? ⟨w.heap.size + 1, 3, none⟩ = some (.bool s11) ∧ w'.cell? ⟨w.heap.size + 1, 4, none⟩ = some (.string a11) ∧ w'.cell? ⟨w.heap.size + 1, 5, none⟩ = some (.string d11) ∧ w'.cell? ⟨w.heap.size + 1 + 1, 0, none⟩ = some (.bool s20) ∧ w'.cell? ⟨w.heap.size + 1 + 1, 1, none⟩ = some (.string a20) ∧ w'.cell? ⟨w.heap.size + 1 + 1, 2, none⟩ = some (.string d20) ∧ w'.cell? ⟨w.heap.size + 1 + 1 + 1, 0, none⟩ = some (.bool h3) ∧ w'.cell? ⟨w.heap.size + 1 + 1 + 1, 1, none⟩ = some (.bool s30) ∧ w'.cell? ⟨w.heap.size + 1 + 1 + 1, 2, none⟩ = some (.string a30) ∧ w'.cell? ⟨w.heap.size + 1 + 1 + 1, 3, none⟩ = some (.string d30) ∧ w'.cell? ⟨gS, 0, none⟩ = some (.bool uS) ∧ w'.cell? ⟨gS, 1, none⟩ = some (.string cS) ∧ w'.cell? ⟨gS, 2, none⟩ = some (.string fS) ∧ w'.cell? ⟨gS, 3, none⟩ = some (.bool uS') ∧ w'.cell? ⟨gS, 4, none⟩ = some (.string cS') ∧ w'.cell? ⟨gS, 5, none⟩ = some (.string fS'))
        (with_reducible apply P4_; with_reducible assumption)
        (first
          | (go_at_call 53; have _g := hb10; refine (rMul_any _ _ _ _ _ _ _ (by omega) (by omega) (by omega) (by omega) (by first | exact V10.tab hT | exact (V10.push 41 [.bool false, .string ⟨#[]⟩, .string ⟨#[]⟩, .bool false, .string ⟨#[]⟩, .string ⟨#[]⟩]).tab hT)).mono ?_; rintro _ w11 ⟨u11, c11, f11, rfl, i11, hb11⟩; rw [P01.out] at i11; rw [P20.out] at i11; obtain ⟨x11, hx11⟩ : ∃ x, p01 * p20 = x := ⟨_, rfl⟩; rw [hx11] at i11; (have z11 : qs x11 ≤ 2 * N + 0 := by (rw [← hx11]; have := qs_mul p01 p20; omega)); have X11 := Lib.hid hx11; clear hx11; obtain ⟨s11a, s11b⟩ := i11.sz; (first | have V11 := V10.call hb11 | have V11 := (V10.push 41 [.bool false, .string ⟨#[]⟩, .string ⟨#[]⟩, .bool false, .string ⟨#[]⟩, .string ⟨#[]⟩]).call hb11); have L11 : Vars w [(w.heap.size, 41, [.bool s00, .string a00, .string d00, .bool s01, .string a01, .string d01]), (w.heap.size + 1, 41, [.bool s10, .string a10, .string d10, .bool s11, .string a11, .string d11]), (w.heap.size + 1 + 1, 39, [.bool s20, .string a20, .string d20]), (w.heap.size + 1 + 1 + 1, 81, [.bool h3, .bool s30, .string a30, .string d30]), (gS, 41, [.bool uS, .string cS, .string fS, .bool uS', .string cS', .string fS'])] w11 := V11.lead; have M11 : Vars w [(w.heap.size, 41, [.bool s00, .string a00, .string d00, .bool s01, .string a01, .string d01]), (w.heap.size + 1, 41, [.bool s10, .string a10, .string d10, .bool s11, .string a11, .string d11]), (w.heap.size + 1 + 1, 39, [.bool s20, .string a20, .string d20]), (w.heap.size + 1 + 1 + 1, 81, [.bool h3, .bool s30, .string a30, .string d30]), (gS, 41, [.bool uS, .string cS, .string fS, .bool uS', .string cS', .string fS'])] (w11.alloc (.cells #[.bool false, .string ⟨#[]⟩, .string ⟨#[]⟩, .bool false, .string ⟨#[]⟩, .string ⟨#[]⟩] 41)) := (L11.push 41 [.bool false, .string ⟨#[]⟩, .string ⟨#[]⟩, .bool false, .string ⟨#[]⟩, .string ⟨#[]⟩]).lead; (first | obtain ⟨t0, t1, t2, t3, t4, t5, tf0, tf1, tf2, tf3, tf4, tf5⟩ := row6 (V11.row 5 rfl) | obtain ⟨t0, t1, t2, t3, t4, t5, tf0, tf1, tf2, tf3, tf4, tf5⟩ := row6 ((V11.push 41 [.bool false, .string ⟨#[]⟩, .string ⟨#[]⟩, .bool false, .string ⟨#[]⟩, .string ⟨#[]⟩]).row 5 rfl)); (first | have VF := V11.put6 5 rfl (.bool u10) (.string c10) (.string f10) (.bool u11) (.string c11) (.string f11) | have VF := V11.push 41 [.bool u10, .string c10, .string f10, .bool u11, .string c11, .string f11]); have LF := VF.lead (ls := [(w.heap.size, 41, [.bool s00, .string a00, .string d00, .bool s01, .string a01, .string d01]), (w.heap.size + 1, 41, [.bool s10, .string a10, .string d10, .bool s11, .string a11, .string d11]), (w.heap.size + 1 + 1, 39, [.bool s20, .string a20, .string d20]), (w.heap.size + 1 + 1 + 1, 81, [.bool h3, .bool s30, .string a30, .string d30]), (gS, 41, [.bool uS, .string cS, .string fS, .bool uS', .string cS', .string fS'])]))
          | (go_at_call 53; refine (rMul_any _ _ _ _ _ _ _ (by omega) (by omega) (by omega) (by omega) (by first | exact Vst.tab hT | exact Nst.tab hT)).mono ?_; rintro _ w10 ⟨u10, c10, f10, rfl, i10, hb10⟩; rw [P00.out] at i10; rw [P20.out] at i10; obtain ⟨x10, hx10⟩ : ∃ x, p00 * p20 = x := ⟨_, rfl⟩; rw [hx10] at i10; (have z10 : qs x10 ≤ 2 * N + 0 := by (rw [← hx10]; have := qs_mul p00 p20; omega)); have X10 := Lib.hid hx10; clear hx10; obtain ⟨s10a, s10b⟩ := i10.sz; (first | have V10 := Vst.call hb10 | have V10 := Nst.call hb10); have L10 : Vars w [(w.heap.size, 41, [.bool s00, .string a00, .string d00, .bool s01, .string a01, .string d01]), (w.heap.size + 1, 41, [.bool s10, .string a10, .string d10, .bool s11, .string a11, .string d11]), (w.heap.size + 1 + 1, 39, [.bool s20, .string a20, .string d20]), (w.heap.size + 1 + 1 + 1, 81, [.bool h3, .bool s30, .string a30, .string d30]), (gS, 41, [.bool uS, .string cS, .string fS, .bool uS', .string cS', .string fS'])] w10 := V10.lead; have M10 : Vars w [(w.heap.size, 41, [.bool s00, .string a00, .string d00, .bool s01, .string a01, .string d01]), (w.heap.size + 1, 41, [.bool s10, .string a10, .string d10, .bool s11, .string a11, .string d11]), (w.heap.size + 1 + 1, 39, [.bool s20, .string a20, .string d20]), (w.heap.size + 1 + 1 + 1, 81, [.bool h3, .bool s30, .string a30, .string d30]), (gS, 41, [.bool uS, .string cS, .string fS, .bool uS', .string cS', .string fS'])] (w10.alloc (.cells #[.bool false, .string ⟨#[]⟩, .string ⟨#[]⟩, .bool false, .string ⟨#[]⟩, .string ⟨#[]⟩] 41)) := (L10.push 41 [.bool false, .string ⟨#[]⟩, .string ⟨#[]⟩, .bool false, .string ⟨#[]⟩, .string ⟨#[]⟩]).lead))
      all_goals
        go_wp2_with fail
        go_meet
        exact ⟨_, _, _, _, _, _, _, rfl, by rw [X10.out]; exact i10, by rw [X11.out]; exact i11, VF⟩
    case rest =>
      obtain ⟨gT, uT, cT, fT, uT', cT', fT', rfl, iT, jT, VLT⟩ := hcut
      obtain ⟨r0_0, r0_1, r0_2, r0_3, r0_4, r0_5, f0_0, f0_1, f0_2, f0_3, f0_4, f0_5⟩ := row6 (VLT.row 0 rfl)
      obtain ⟨r1_0, r1_1, r1_2, r1_3, r1_4, r1_5, f1_0, f1_1, f1_2, f1_3, f1_4, f1_5⟩ := row6 (VLT.row 1 rfl)
      obtain ⟨r2_0, r2_1, r2_2, f2_0, f2_1, f2_2⟩ := row3 (VLT.row 2 rfl)
      obtain ⟨r3_0, r3_1, r3_2, r3_3, f3_0, f3_1, f3_2, f3_3⟩ := row4 (VLT.row 3 rfl)
      obtain ⟨r4_0, r4_1, r4_2, r4_3, r4_4, r4_5, f4_0, f4_1, f4_2, f4_3, f4_4, f4_5⟩ := row6 (VLT.row 4 rfl)
      obtain ⟨r5_0, r5_1, r5_2, r5_3, r5_4, r5_5, f5_0, f5_1, f5_2, f5_3, f5_4, f5_5⟩ := row6 (VLT.row 5 rfl)
      have hE0 : (⟨#[]⟩ : ByteArray).size = 0 := rfl
      go_wp2_with fail
      refine (RMoved_any _ _ _ _ _ _ _ _ _ _ _ _ _ _ _ _ (N + 1) _ (by omega) (by omega) (by omega) (by omega) (by omega) (by omega) (by omega) (by omega) (by omega) (by omega) (by omega) (by omega) (VLT.tab hT)).mono ?_
      rintro _ w12 ⟨u12, c12, f12, u12', c12', f12', rfl, i12, j12, z12, y12, hb12⟩
      (try rw [qv_empty] at i12 z12)
      (try rw [qv_empty] at j12 y12)
      (try rw [P30.out] at i12 z12)
      (try rw [P30.out] at j12 y12)
      (try rw [P00.out] at i12 z12)
      (try rw [P00.out] at j12 y12)
      (try rw [P01.out] at i12 z12)
      (try rw [P01.out] at j12 y12)
      rw [Rat.zero_add, circ_cos, sirc_sin] at i12 z12
      rw [Rat.zero_add, circ_cos, sirc_sin] at j12 y12
      have V12 := VLT.call hb12
      clear r0_0 r0_1 r0_2 r0_3 r0_4 r0_5 f0_0 f0_1 f0_2 f0_3 f0_4 f0_5 r1_0 r1_1 r1_2 r1_3 r1_4 r1_5 f1_0 f1_1 f1_2 f1_3 f1_4 f1_5 r2_0 r2_1 r2_2 f2_0 f2_1 f2_2 r3_0 r3_1 r3_2 r3_3 f3_0 f3_1 f3_2 f3_3 r4_0 r4_1 r4_2 r4_3 r4_4 r4_5 f4_0 f4_1 f4_2 f4_3 f4_4 f4_5 r5_0 r5_1 r5_2 r5_3 r5_4 r5_5 f5_0 f5_1 f5_2 f5_3 f5_4 f5_5
      obtain ⟨r0_0, r0_1, r0_2, r0_3, r0_4, r0_5, f0_0, f0_1, f0_2, f0_3, f0_4, f0_5⟩ := row6 (V12.row 0 rfl)
      obtain ⟨r1_0, r1_1, r1_2, r1_3, r1_4, r1_5, f1_0, f1_1, f1_2, f1_3, f1_4, f1_5⟩ := row6 (V12.row 1 rfl)
      obtain ⟨r2_0, r2_1, r2_2, f2_0, f2_1, f2_2⟩ := row3 (V12.row 2 rfl)
      obtain ⟨r3_0, r3_1, r3_2, r3_3, f3_0, f3_1, f3_2, f3_3⟩ := row4 (V12.row 3 rfl)
      obtain ⟨r4_0, r4_1, r4_2, r4_3, r4_4, r4_5, f4_0, f4_1, f4_2, f4_3, f4_4, f4_5⟩ := row6 (V12.row 4 rfl)
      obtain ⟨r5_0, r5_1, r5_2, r5_3, r5_4, r5_5, f5_0, f5_1, f5_2, f5_3, f5_4, f5_5⟩ := row6 (V12.row 5 rfl)
      have U1 : Vars w [(w.heap.size, 41, [.bool s00, .string a00, .string d00, .bool s01, .string a01, .string d01]), (w.heap.size + 1, 41, [.bool s10, .string a10, .string d10, .bool s11, .string a11, .string d11]), (w.heap.size + 1 + 1, 39, [.bool s20, .string a20, .string d20]), (w.heap.size + 1 + 1 + 1, 81, [.bool h3, .bool s30, .string a30, .string d30]), (gS, 41, [.bool uS, .string cS, .string fS, .bool uS', .string cS', .string fS']), (gT, 41, [.bool uT, .string cT, .string fT, .bool uT', .string cT', .string fT']), (w12.heap.size, 41, [.bool u12, .string c12, .string f12, .bool u12', .string c12', .string f12'])] (w12.alloc (.cells #[.bool u12, .string c12, .string f12, .bool u12', .string c12', .string f12'] 41)) := by have h := V12.push 41 [.bool u12, .string c12, .string f12, .bool u12', .string c12', .string f12']; exact h
      clear hE0
      go_upto_region 6 with fail
      obtain ⟨W3, hW3⟩ : ∃ W, W = (w12.alloc (.cells #[.bool u12, .string c12, .string f12, .bool u12', .string c12', .string f12'] 41)) := ⟨_, rfl⟩
      rw [← hW3] at U1 ⊢
      clear hW3
      clear r0_0 r0_1 r0_2 r0_3 r0_4 r0_5 f0_0 f0_1 f0_2 f0_3 f0_4 f0_5 r1_0 r1_1 r1_2 r1_3 r1_4 r1_5 f1_0 f1_1 f1_2 f1_3 f1_4 f1_5 r2_0 r2_1 r2_2 f2_0 f2_1 f2_2 r3_0 r3_1 r3_2 r3_3 f3_0 f3_1 f3_2 f3_3 r4_0 r4_1 r4_2 r4_3 r4_4 r4_5 f4_0 f4_1 f4_2 f4_3 f4_4 f4_5 r5_0 r5_1 r5_2 r5_3 r5_4 r5_5 f5_0 f5_1 f5_2 f5_3 f5_4 f5_5
      have P6_ : ∀ (w' : World), Vars w [(w.heap.size, 41, [.bool s00, .string a00, .string d00, .bool s01, .string a01, .string d01]), (w.heap.size + 1, 41, [.bool s10, .string a10, .string d10, .bool s11, .string a11, .string d11]), (w.heap.size + 1 + 1, 39, [.bool s20, .string a20, .string d20]), (w.heap.size + 1 + 1 + 1, 81, [.bool h3, .bool s30, .string a30, .string d30]), (gS, 41, [.bool uS, .string cS, .string fS, .bool uS', .string cS', .string fS']), (gT, 41, [.bool uT, .string cT, .string fT, .bool uT', .string cT', .string fT']), (w12.heap.size, 41, [.bool u12, .string c12, .string f12, .bool u12', .string c12', .string f12'])] w' → w'.cell? ⟨w.heap.size, 0, none⟩ = some (.bool s00) ∧ w'.cell? ⟨w.heap.size, 1, none⟩ = some (.string a00) ∧ w'.cell? ⟨w.heap.size, 2, none⟩ = some (.string d00) ∧ w'.cell? ⟨w.heap.size, 3, none⟩ = some (.bool s01) ∧ w'.cell? ⟨w.heap.size, 4, none⟩ = some (.string a01) ∧ w'.cell? ⟨w.heap.size, 5, none⟩ = some (.string d01) ∧ w'.cell? ⟨w.heap.size + 1, 0, none⟩ = some (.bool s10) ∧ w'.cell? ⟨w.heap.size + 1, 1, none⟩ = some (.string a10) ∧ w'.cell? ⟨w.heap.size + 1, 2, none⟩ = some (.string d10) ∧ w'.cell? ⟨w.heap.size + 1, 3, none⟩ = some (.bool s11) ∧ w'.cell? ⟨w.heap.size + 1, 4, none⟩ = some (.string a11) ∧ w'.cell? ⟨w.heap.size + 1, 5, none⟩ = some (.string d11) ∧ w'.cell? ⟨w.heap.size + 1 + 1, 0, none⟩ = some (.bool s20) ∧ w'.cell? ⟨w.heap.size + 1 + 1, 1, none⟩ = some (.string a20) ∧ w'.cell? ⟨w.heap.size + 1 + 1, 2, none⟩ = some (.string d20) ∧ w'.cell? ⟨w.heap.size + 1 + 1 + 1, 0, none⟩ = some (.bool h3) ∧ w'.cell? ⟨w.heap.size + 1 + 1 + 1, 1, none⟩ = some (.bool s30) ∧ w'.cell? ⟨w.heap.size + 1 + 1 + 1, 2, none⟩ = some (.string a30) ∧ w'.cell? ⟨w.heap.size + 1 + 1 + 1, 3, none⟩ = some (.string d30) ∧ w'.cell? ⟨gS, 0, none⟩ = some (.bool uS) ∧ w'.cell? ⟨gS, 1, none⟩ = some (.string cS) ∧ w'.cell? ⟨gS, 2, none⟩ = some (.string fS) ∧ w'.cell? ⟨gS, 3, none⟩ = some (.bool uS') ∧ w'.cell? ⟨gS, 4, none⟩ = some (.string cS') ∧ w'.cell? ⟨gS, 5, none⟩ = some (.string fS') ∧ w'.cell? ⟨gT, 0, none⟩ = some (.bool uT) ∧ w'.cell? ⟨gT, 1, none⟩ = some (.string cT) ∧ w'.cell? ⟨gT, 2, none⟩ = some (.string fT) ∧ w'.cell? ⟨gT, 3, none⟩ = some (.bool uT') ∧ w'.cell? ⟨gT, 4, none⟩ = some (.string cT') ∧ w'.cell? ⟨gT, 5, none⟩ = some (.string fT') ∧ w'.cell? ⟨w12.heap.size, 0, none⟩ = some (.bool u12) ∧ w'.cell? ⟨w12.heap.size, 1, none⟩ = some (.string c12) ∧ w'.cell? ⟨w12.heap.size, 2, none⟩ = some (.string f12) ∧ w'.cell? ⟨w12.heap.size, 3, none⟩ = some (.bool u12') ∧ w'.cell? ⟨w12.heap.size, 4, none⟩ = some (.string c12') ∧ w'.cell? ⟨w12.heap.size, 5, none⟩ = some (.string f12') := fun  w' h => by
        obtain ⟨c0_0, c0_1, c0_2, c0_3, c0_4, c0_5, _⟩ := row6 (h.row 0 rfl)
        obtain ⟨c1_0, c1_1, c1_2, c1_3, c1_4, c1_5, _⟩ := row6 (h.row 1 rfl)
        obtain ⟨c2_0, c2_1, c2_2, _⟩ := row3 (h.row 2 rfl)
        obtain ⟨c3_0, c3_1, c3_2, c3_3, _⟩ := row4 (h.row 3 rfl)
        obtain ⟨c4_0, c4_1, c4_2, c4_3, c4_4, c4_5, _⟩ := row6 (h.row 4 rfl)
        obtain ⟨c5_0, c5_1, c5_2, c5_3, c5_4, c5_5, _⟩ := row6 (h.row 5 rfl)
        obtain ⟨c6_0, c6_1, c6_2, c6_3, c6_4, c6_5, _⟩ := row6 (h.row 6 rfl)
        exact ⟨c0_0, c0_1, c0_2, c0_3, c0_4, c0_5, c1_0, c1_1, c1_2, c1_3, c1_4, c1_5, c2_0, c2_1, c2_2, c3_0, c3_1, c3_2, c3_3, c4_0, c4_1, c4_2, c4_3, c4_4, c4_5, c5_0, c5_1, c5_2, c5_3, c5_4, c5_5, c6_0, c6_1, c6_2, c6_3, c6_4, c6_5⟩
      have Vst := U1.drew
      go_region_held3 (fun w' => w'.cell? ⟨w.heap.size, 0, none⟩ = some (.bool s00) ∧ w'.cell? ⟨w.heap.size, 1, none⟩ = some (.string a00) ∧ w'.cell? ⟨w.heap.size, 2, none⟩ = some (.string d00) ∧ w'.cell? ⟨w.heap.size, 3, none⟩ = some (.bool s01) ∧ w'.cell? ⟨w.heap.size, 4, none⟩ = some (.string a01) ∧ w'.cell? ⟨w.heap.size, 5, none⟩ = some (.string d01) ∧ w'.cell? ⟨w.heap.size + 1, 0, none⟩ = some (.bool s10) ∧ w'.cell? ⟨w.heap.size + 1, 1, none⟩ = some (.string a10) ∧ w'.cell? ⟨w.heap.size + 1, 2, none⟩ = some (.string d10) ∧ w'.cell? ⟨w.heap.size + 1, 3, none⟩ = some (.bool s11) ∧ w'.cell? ⟨w.heap.size + 1, 4, none⟩ = some (.string a11) ∧ w'.cell? ⟨w.heap.size + 1, 5, none⟩ = some (.string d11) ∧ w'.cell? ⟨w.heap.size + 1 + 1, 0, none⟩ = some (.bool s20) ∧ w'.cell? ⟨w.heap.size + 1 + 1, 1, none⟩ = some (.string a20) ∧ w'.cell? ⟨w.heap.size + 1 + 1, 2, none⟩ = some (.string d20) ∧ w'.cell? ⟨w.heap.size + 1 + 1 + 1, 0, none⟩ = some (.bool h3) ∧ w'.cell? ⟨w.heap.size + 1 + 1 + 1, 1, none⟩ = some (.bool s30) ∧ w'.cell? ⟨w.heap.size + 1 + 1 + 1, 2, none⟩ = some (.string a30) ∧ w'.cell? ⟨w.heap.size + 1 + 1 + 1, 3, none⟩ = some (.string d30) ∧ w'.cell? ⟨gS, 0, none⟩ = some (.bool uS) ∧ w'.cell? ⟨gS, 1, none⟩ = some (.string cS) ∧ w'.cell? ⟨gS, 2, none⟩ = some (.string fS) ∧ w'.cell? ⟨gS, 3, none⟩ = some (.bool uS') ∧ w'.cell? ⟨gS, 4, none⟩ = some (.string cS') ∧ w'.cell? ⟨gS, 5, none⟩ = some (.string fS') ∧ w'.cell? ⟨gT, 0, none⟩ = some (.bool uT) ∧ w'.cell? ⟨gT, 1, none⟩ = some (.string cT) ∧ w'.cell? ⟨gT, 2, none⟩ = some (.string fT) ∧ w'.cell? ⟨gT, 3, none⟩ = some (.bool uT') ∧ w'.cell? ⟨gT, 4, none⟩ = some (.string cT') ∧ w'.cell? ⟨gT, 5, none⟩ = some (.string fT') ∧ w'.cell? ⟨w12.heap.size, 0, none⟩ = some (.bool u12) ∧ w'.cell? ⟨w12.heap.size, 1, none⟩ = some (.string c12) ∧ w'.cell? ⟨w12.heap.size, 2, none⟩ = some (.string f12) ∧ w'.cell? ⟨w12.heap.size, 3, none⟩ = some (.bool u12') ∧ w'.cell? ⟨w12.heap.size, 4, none⟩ = some (.string c12') ∧ w'.cell? ⟨w12.heap.size, 5, none⟩ = some (.string f12'))
        (with_reducible apply P6_; with_reducible assumption)
        (first
          | (go_at_call 64; have _g := hb22; refine (REq_any _ _ _ _ _ _ _ _ _ _ _ _ N _ (by omega) (by omega) (by omega) (by omega) (by omega) (by omega) (by omega) (by omega) (by omega) (by omega) (V22.tab hT)).mono ?_; rintro _ w23 ⟨rfl, hb23⟩; have V23 := V22.call hb23)
          | (go_at_call 63; have _g := hb21; refine (vSame_any _ _ _ _ _ _ _ _ _ _ _ _ N _ (by omega) (by omega) (by omega) (by omega) (by omega) (by omega) (by omega) (by omega) (by omega) (V21.tab hT)).mono ?_; rintro _ w22 ⟨rfl, hb22⟩; have V22 := V21.call hb22)
          | (go_at_call 62; have _g := hb20; refine (vTurn_any _ _ _ _ _ _ _ _ _ _ N _ (by omega) (by omega) (by omega) (by omega) (by omega) (by omega) (by omega) (by omega) (V20.tab hT)).mono ?_; rintro _ w21 ⟨u21, c21, f21, u21', c21', f21', rfl, i21, j21, z21, y21, hb21⟩; (try rw [P00.out] at i21 z21); (try rw [P00.out] at j21 y21); (try rw [P01.out] at i21 z21); (try rw [P01.out] at j21 y21); (try rw [P30.out] at i21 z21); (try rw [P30.out] at j21 y21); (obtain ⟨rfl, rfl, rfl⟩ := i12.inj i21); (obtain ⟨rfl, rfl, rfl⟩ := j12.inj j21); have V21 := V20.call hb21)
          | (go_at_call 61; have _g := hb19; refine (RCross_any _ _ _ _ _ _ _ _ _ _ _ _ N _ (by omega) (by omega) (by omega) (by omega) (by omega) (by omega) (by omega) (by omega) (by omega) (by omega) (V19.tab hT)).mono ?_; rintro _ w20 ⟨u20, c20, f20, rfl, i20, z20, hb20⟩; rw [P00.out] at i20 z20; rw [P01.out] at i20 z20; rw [P10.out] at i20 z20; rw [P11.out] at i20 z20; (obtain ⟨rfl, rfl, rfl⟩ := i19.inj i20); have V20 := V19.call hb20)
          | (go_at_call 60; have _g := hb18; refine (vCross_any _ _ _ _ _ _ _ _ _ _ _ _ N _ (by omega) (by omega) (by omega) (by omega) (by omega) (by omega) (by omega) (by omega) (by omega) (by omega) (V18.tab hT)).mono ?_; rintro _ w19 ⟨u19, c19, f19, rfl, i19, z19, hb19⟩; rw [P00.out] at i19 z19; rw [P01.out] at i19 z19; rw [P10.out] at i19 z19; rw [P11.out] at i19 z19; have V19 := V18.call hb19)
          | (go_at_call 59; have _g := hb17; refine (RDot_any _ _ _ _ _ _ _ _ _ _ _ _ N _ (by omega) (by omega) (by omega) (by omega) (by omega) (by omega) (by omega) (by omega) (by omega) (by omega) (V17.tab hT)).mono ?_; rintro _ w18 ⟨u18, c18, f18, rfl, i18, z18, hb18⟩; rw [P00.out] at i18 z18; rw [P01.out] at i18 z18; rw [P10.out] at i18 z18; rw [P11.out] at i18 z18; (obtain ⟨rfl, rfl, rfl⟩ := i17.inj i18); have V18 := V17.call hb18)
          | (go_at_call 50; have _g := hb16; refine (vDot_any _ _ _ _ _ _ _ _ _ _ _ _ N _ (by omega) (by omega) (by omega) (by omega) (by omega) (by omega) (by omega) (by omega) (by omega) (by omega) (V16.tab hT)).mono ?_; rintro _ w17 ⟨u17, c17, f17, rfl, i17, z17, hb17⟩; rw [P00.out] at i17 z17; rw [P01.out] at i17 z17; rw [P10.out] at i17 z17; rw [P11.out] at i17 z17; have V17 := V16.call hb17)
          | (go_at_call 58; have _g := hb15; refine (vScale_any _ _ _ _ _ _ _ _ _ N _ (by omega) (by omega) (by omega) (by omega) (by omega) (by omega) (by omega) (by omega) (V15.tab hT)).mono ?_; rintro _ w16 ⟨u16, c16, f16, u16', c16', f16', rfl, i16, j16, z16, y16, hb16⟩; (try rw [P00.out] at i16 z16); (try rw [P00.out] at j16 y16); (try rw [P01.out] at i16 z16); (try rw [P01.out] at j16 y16); (try rw [P20.out] at i16 z16); (try rw [P20.out] at j16 y16); (obtain ⟨rfl, rfl, rfl⟩ := iT.inj i16); (obtain ⟨rfl, rfl, rfl⟩ := jT.inj j16); have V16 := V15.call hb16)
          | (go_at_call 57; have _g := hb14; refine (RV_any _ _ _ _ _ _ _ _ _ _ _ _ N _ (by omega) (by omega) (by omega) (by omega) (by omega) (by omega) (by omega) (by omega) (by omega) (by omega) (V14.tab hT)).mono ?_; rintro _ w15 ⟨u15, c15, f15, u15', c15', f15', rfl, i15, j15, z15, y15, hb15⟩; (try rw [P10.out] at i15 z15); (try rw [P10.out] at j15 y15); (try rw [P11.out] at i15 z15); (try rw [P11.out] at j15 y15); (try rw [P00.out] at i15 z15); (try rw [P00.out] at j15 y15); (try rw [P01.out] at i15 z15); (try rw [P01.out] at j15 y15); (obtain ⟨rfl, rfl, rfl⟩ := i14.inj i15); (obtain ⟨rfl, rfl, rfl⟩ := j14.inj j15); have V15 := V14.call hb15)
          | (go_at_call 56; have _g := hb13; refine (vSub_any _ _ _ _ _ _ _ _ _ _ _ _ N _ (by omega) (by omega) (by omega) (by omega) (by omega) (by omega) (by omega) (by omega) (by omega) (by omega) (V13.tab hT)).mono ?_; rintro _ w14 ⟨u14, c14, f14, u14', c14', f14', rfl, i14, j14, z14, y14, hb14⟩; (try rw [P00.out] at i14 z14); (try rw [P00.out] at j14 y14); (try rw [P01.out] at i14 z14); (try rw [P01.out] at j14 y14); (try rw [P10.out] at i14 z14); (try rw [P10.out] at j14 y14); (try rw [P11.out] at i14 z14); (try rw [P11.out] at j14 y14); have V14 := V13.call hb14)
          | (go_at_call 55; refine (vAdd_any _ _ _ _ _ _ _ _ _ _ _ _ N _ (by omega) (by omega) (by omega) (by omega) (by omega) (by omega) (by omega) (by omega) (by omega) (by omega) (Vst.tab hT)).mono ?_; rintro _ w13 ⟨u13, c13, f13, u13', c13', f13', rfl, i13, j13, z13, y13, hb13⟩; (try rw [P00.out] at i13 z13); (try rw [P00.out] at j13 y13); (try rw [P01.out] at i13 z13); (try rw [P01.out] at j13 y13); (try rw [P10.out] at i13 z13); (try rw [P10.out] at j13 y13); (try rw [P11.out] at i13 z13); (try rw [P11.out] at j13 y13); (obtain ⟨rfl, rfl, rfl⟩ := iS.inj i13); (obtain ⟨rfl, rfl, rfl⟩ := jS.inj j13); have V13 := Vst.call hb13))
      go_wp2_with fail
      go_ret
      exact ⟨ret_bool (by simp), V23.1⟩

end Go.Proofs.YtajkihgioikipaaDoor.lawE
