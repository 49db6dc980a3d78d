/- Walks: rat.Sub, rat.Min, rat.Max, rat.Make. -/
import Derived.Test.YtjhoddlhdoiifaaGreatDoorGrpE
import Derived.Test.YtjhoddlhdoiifaaGreatDoorVars
namespace Go.Proofs.YtjhoddlhdoiifaaGreatDoor.ratE
open Go.RowKit num mem seg q ratA held ratB ratC ratD vars

set_option maxHeartbeats 4000000 in
set_option maxRecDepth 100000 in
theorem rSub_any (s : Bool) (a d : ByteArray) (t : Bool) (c e : ByteArray) (w : World) (ha : a.size ≤ 4398046511104) (hd : d.size ≤ 4398046511104) (hc : c.size ≤ 4398046511104) (he : e.size ≤ 4398046511104) (hT : Tab w) :
    Calls Tryz.prog 78 #[.agg #[.bool s, .string a, .string d], .agg #[.bool t, .string c, .string e]] w fun x w' => Gives (qv s a d - qv t c e) w x w' := by
  have V0 := vars3 w 23 23 23 [.bool s, .string a, .string d] [.bool t, .string c, .string e] [.bool false, .string ⟨#[]⟩, .string ⟨#[]⟩]
  have zq := qs_qv t c e
  go_enter Tryz.func78, Tryz.ntmps78
  go_upto_region 1 with fail
  obtain ⟨W, hW⟩ : ∃ W, W = (((w.alloc (.cells #[.bool s, .string a, .string d] 23)).alloc (.cells #[.bool t, .string c, .string e] 23)).alloc (.cells #[.bool false, .string ⟨#[]⟩, .string ⟨#[]⟩] 23)) := ⟨_, rfl⟩
  rw [← hW] at V0 ⊢
  clear hW
  have P0 : ∀ w', Vars w [(w.heap.size, 23, [.bool s, .string a, .string d]), (w.heap.size + 1, 23, [.bool t, .string c, .string e])] w' → Vars w [(w.heap.size, 23, [.bool s, .string a, .string d]), (w.heap.size + 1, 23, [.bool t, .string c, .string e])] w' ∧ w'.cell? ⟨w.heap.size, 0, none⟩ = some (.bool s) ∧ w'.cell? ⟨w.heap.size, 1, none⟩ = some (.string a) ∧ w'.cell? ⟨w.heap.size, 2, none⟩ = some (.string d) ∧ w'.cell? ⟨w.heap.size + 1, 0, none⟩ = some (.bool t) ∧ w'.cell? ⟨w.heap.size + 1, 1, none⟩ = some (.string c) ∧ w'.cell? ⟨w.heap.size + 1, 2, none⟩ = some (.string e) := fun w' h => by
    obtain ⟨c00, c01, c02, _⟩ := row3 (h.row 0 rfl)
    obtain ⟨c10, c11, c12, _⟩ := row3 (h.row 1 rfl)
    exact ⟨h, c00, c01, c02, c10, c11, c12⟩
  go_region_held3 (fun w' => Vars w [(w.heap.size, 23, [.bool s, .string a, .string d]), (w.heap.size + 1, 23, [.bool t, .string c, .string e])] w' ∧ w'.cell? ⟨w.heap.size, 0, none⟩ = some (.bool s) ∧ w'.cell? ⟨w.heap.size, 1, none⟩ = some (.string a) ∧ w'.cell? ⟨w.heap.size, 2, none⟩ = some (.string d) ∧ w'.cell? ⟨w.heap.size + 1, 0, none⟩ = some (.bool t) ∧ w'.cell? ⟨w.heap.size + 1, 1, none⟩ = some (.string c) ∧ w'.cell? ⟨w.heap.size + 1, 2, none⟩ = some (.string e))
    (first | exact P0 _ (V2.put3 2 rfl _ _ _).lead | exact P0 _ V2.lead | exact P0 _ V1.lead | exact P0 _ V0.drew.lead)
    (first
      | (go_at_call 126; have _g := i1; refine (rAdd_any _ _ _ _ _ _ _ (by omega) (by omega) (by omega) (by omega) (V1.tab hT)).mono ?_; rintro _ w2 ⟨u2, c2, f2, rfl, i2, hb2⟩; rw [i1.val, ← Rat.sub_eq_add_neg] at i2; have V2 := V1.call hb2; obtain ⟨r0, r1, r2, rf0, rf1, rf2⟩ := row3 (V2.row 2 rfl))
      | (go_at_call 118; refine (rNeg_any _ _ _ _ (by omega) (by omega) (V0.drew.tab hT)).mono ?_; rintro _ w1 ⟨u1, c1, f1, rfl, i1, hb1⟩; have V1 := V0.drew.call hb1; obtain ⟨s1a, s1b⟩ := i1.sz; rw [qs_neg] at s1a s1b))
  go_wp2_with fail
  have V3 := V2.put3 2 rfl (.bool u2) (.string c2) (.string f2)
  refine bodyPost_ret (results_rat rfl _ rfl (V3.row 2 rfl)) rfl ?_
  exact ⟨_, _, _, rfl, i2, V3.1⟩

set_option maxHeartbeats 4000000 in
set_option maxRecDepth 100000 in
theorem rMin_any (s : Bool) (a d : ByteArray) (t : Bool) (c e : ByteArray) (w : World) (ha : a.size ≤ 4398046511104) (hd : d.size ≤ 4398046511104) (hc : c.size ≤ 4398046511104) (he : e.size ≤ 4398046511104) (hT : Tab w) :
    Calls Tryz.prog 158 #[.agg #[.bool s, .string a, .string d], .agg #[.bool t, .string c, .string e]] w fun x w' => Gives (if cmpQ (qv s a d) (qv t c e) ≤ 0 then qv s a d else qv t c e) w x w' := by
  have V0 := vars3 w 23 23 23 [.bool s, .string a, .string d] [.bool t, .string c, .string e] [.bool false, .string ⟨#[]⟩, .string ⟨#[]⟩]
  obtain ⟨k, hk⟩ : ∃ k, cmpQ (qv s a d) (qv t c e) = k := ⟨_, rfl⟩
  have hkr : -1 ≤ k ∧ k ≤ 1 := by
    rw [← hk]; unfold cmpQ
    split
    · omega
    · split <;> omega
  rw [hk]
  have HK := Lib.hid hk
  obtain ⟨hk1, hk2⟩ := hkr
  clear hk
  by_cases hy : k ≤ 0
  · rw [if_pos hy]
    go_enter Tryz.func158, Tryz.ntmps158
    go_wp2_with fail
    refine (rCmp_any _ _ _ _ _ _ _ ha hd hc he (V0.tab hT)).mono ?_
    rintro _ w1 ⟨rfl, hb1⟩
    rw [HK.out]
    have V1 := V0.call hb1
    obtain ⟨p0, p1, p2, pf0, pf1, pf2⟩ := row3 (V1.row 0 rfl)
    go_wp2_with fail
    refine (fit_any _ _ _ _ (by omega) (by omega) (V1.tab hT)).mono ?_
    rintro _ w2 ⟨u2, c2, f2, rfl, i2, hb2⟩
    have V2 := V1.call hb2
    obtain ⟨r0, r1, r2, rf0, rf1, rf2⟩ := row3 (V2.row 2 rfl)
    go_wp2_with fail
    have V3 := V2.put3 2 rfl (.bool u2) (.string c2) (.string f2)
    refine bodyPost_ret (results_rat rfl _ rfl (V3.row 2 rfl)) rfl ?_
    exact ⟨_, _, _, rfl, i2, V3.1⟩
  · rw [if_neg hy]
    go_enter Tryz.func158, Tryz.ntmps158
    go_wp2_with fail
    refine (rCmp_any _ _ _ _ _ _ _ ha hd hc he (V0.tab hT)).mono ?_
    rintro _ w1 ⟨rfl, hb1⟩
    rw [HK.out]
    have V1 := V0.call hb1
    obtain ⟨p0, p1, p2, pf0, pf1, pf2⟩ := row3 (V1.row 1 rfl)
    go_wp2_with fail
    refine (fit_any _ _ _ _ (by omega) (by omega) (V1.tab hT)).mono ?_
    rintro _ w2 ⟨u2, c2, f2, rfl, i2, hb2⟩
    have V2 := V1.call hb2
    obtain ⟨r0, r1, r2, rf0, rf1, rf2⟩ := row3 (V2.row 2 rfl)
    go_wp2_with fail
    have V3 := V2.put3 2 rfl (.bool u2) (.string c2) (.string f2)
    refine bodyPost_ret (results_rat rfl _ rfl (V3.row 2 rfl)) rfl ?_
    exact ⟨_, _, _, rfl, i2, V3.1⟩

set_option maxHeartbeats 4000000 in
set_option maxRecDepth 100000 in
theorem rMax_any (s : Bool) (a d : ByteArray) (t : Bool) (c e : ByteArray) (w : World) (ha : a.size ≤ 4398046511104) (hd : d.size ≤ 4398046511104) (hc : c.size ≤ 4398046511104) (he : e.size ≤ 4398046511104) (hT : Tab w) :
    Calls Tryz.prog 77 #[.agg #[.bool s, .string a, .string d], .agg #[.bool t, .string c, .string e]] w fun x w' => Gives (if 0 ≤ cmpQ (qv s a d) (qv t c e) then qv s a d else qv t c e) w x w' := by
  have V0 := vars3 w 23 23 23 [.bool s, .string a, .string d] [.bool t, .string c, .string e] [.bool false, .string ⟨#[]⟩, .string ⟨#[]⟩]
  obtain ⟨k, hk⟩ : ∃ k, cmpQ (qv s a d) (qv t c e) = k := ⟨_, rfl⟩
  have hkr : -1 ≤ k ∧ k ≤ 1 := by
    rw [← hk]; unfold cmpQ
    split
    · omega
    · split <;> omega
  rw [hk]
  have HK := Lib.hid hk
  obtain ⟨hk1, hk2⟩ := hkr
  clear hk
  by_cases hy : 0 ≤ k
  · rw [if_pos hy]
    go_enter Tryz.func77, Tryz.ntmps77
    go_wp2_with fail
    refine (rCmp_any _ _ _ _ _ _ _ ha hd hc he (V0.tab hT)).mono ?_
    rintro _ w1 ⟨rfl, hb1⟩
    rw [HK.out]
    have V1 := V0.call hb1
    obtain ⟨p0, p1, p2, pf0, pf1, pf2⟩ := row3 (V1.row 0 rfl)
    go_wp2_with fail
    refine (fit_any _ _ _ _ (by omega) (by omega) (V1.tab hT)).mono ?_
    rintro _ w2 ⟨u2, c2, f2, rfl, i2, hb2⟩
    have V2 := V1.call hb2
    obtain ⟨r0, r1, r2, rf0, rf1, rf2⟩ := row3 (V2.row 2 rfl)
    go_wp2_with fail
    have V3 := V2.put3 2 rfl (.bool u2) (.string c2) (.string f2)
    refine bodyPost_ret (results_rat rfl _ rfl (V3.row 2 rfl)) rfl ?_
    exact ⟨_, _, _, rfl, i2, V3.1⟩
  · rw [if_neg hy]
    go_enter Tryz.func77, Tryz.ntmps77
    go_wp2_with fail
    refine (rCmp_any _ _ _ _ _ _ _ ha hd hc he (V0.tab hT)).mono ?_
    rintro _ w1 ⟨rfl, hb1⟩
    rw [HK.out]
    have V1 := V0.call hb1
    obtain ⟨p0, p1, p2, pf0, pf1, pf2⟩ := row3 (V1.row 1 rfl)
    go_wp2_with fail
    refine (fit_any _ _ _ _ (by omega) (by omega) (V1.tab hT)).mono ?_
    rintro _ w2 ⟨u2, c2, f2, rfl, i2, hb2⟩
    have V2 := V1.call hb2
    obtain ⟨r0, r1, r2, rf0, rf1, rf2⟩ := row3 (V2.row 2 rfl)
    go_wp2_with fail
    have V3 := V2.put3 2 rfl (.bool u2) (.string c2) (.string f2)
    refine bodyPost_ret (results_rat rfl _ rfl (V3.row 2 rfl)) rfl ?_
    exact ⟨_, _, _, rfl, i2, V3.1⟩

theorem qs_i64 {n : Int} (h1 : -9223372036854775808 ≤ n) (h2 : n ≤ 9223372036854775807) : qs (n : Rat) ≤ 8 :=
  qs_int (Nat.lt_of_le_of_lt (show n.natAbs ≤ 9223372036854775808 by omega) (by decide)) (by omega)
end Go.Proofs.YtjhoddlhdoiifaaGreatDoor.ratE
