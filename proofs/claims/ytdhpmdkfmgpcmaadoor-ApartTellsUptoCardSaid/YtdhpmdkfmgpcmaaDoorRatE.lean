/- Walks: rat.Sub, rat.Min, rat.Max, rat.Make. -/
import Derived.Test.YtdhpmdkfmgpcmaaDoorGrpE
import Derived.Test.YtdhpmdkfmgpcmaaDoorVars
namespace Go.Proofs.YtdhpmdkfmgpcmaaDoor.ratE
open Go.RowKit num mem seg q ratA held ratB ratC ratD vars

set_option maxHeartbeats 4000000 in
set_option maxRecDepth 100000 in
theorem rSub_any (s : Bool) (a d : ByteArray) (t : Bool) (c e : ByteArray) (w : World) (ha : a.size ≤ 4398046511104) (hd : d.size ≤ 4398046511104) (hc : c.size ≤ 4398046511104) (he : e.size ≤ 4398046511104) (hT : Tab w) :
    Calls Tryd.prog 106 #[.agg #[.bool s, .string a, .string d], .agg #[.bool t, .string c, .string e]] w fun x w' => Gives (qv s a d - qv t c e) w x w' := by
  have V0 := vars3 w 23 23 23 [.bool s, .string a, .string d] [.bool t, .string c, .string e] [.bool false, .string ⟨#[]⟩, .string ⟨#[]⟩]
  have zq := qs_qv t c e
  go_enter Tryd.func106, Tryd.ntmps106
  go_upto_region 1 with fail
  obtain ⟨W, hW⟩ : ∃ W, W = (((w.alloc (.cells #[.bool s, .string a, .string d] 23)).alloc (.cells #[.bool t, .string c, .string e] 23)).alloc (.cells #[.bool false, .string ⟨#[]⟩, .string ⟨#[]⟩] 23)) := ⟨_, rfl⟩
  rw [← hW] at V0 ⊢
  clear hW
  have P0 : ∀ w', Vars w [(w.heap.size, 23, [.bool s, .string a, .string d]), (w.heap.size + 1, 23, [.bool t, .string c, .string e])] w' → Vars w [(w.heap.size, 23, [.bool s, .string a, .string d]), (w.heap.size + 1, 23, [.bool t, .string c, .string e])] w' ∧ w'.cell? ⟨w.heap.size, 0, none⟩ = some (.bool s) ∧ w'.cell? ⟨w.heap.size, 1, none⟩ = some (.string a) ∧ w'.cell? ⟨w.heap.size, 2, none⟩ = some (.string d) ∧ w'.cell? ⟨w.heap.size + 1, 0, none⟩ = some (.bool t) ∧ w'.cell? ⟨w.heap.size + 1, 1, none⟩ = some (.string c) ∧ w'.cell? ⟨w.heap.size + 1, 2, none⟩ = some (.string e) := fun w' h => by
    obtain ⟨c00, c01, c02, _⟩ := row3 (h.row 0 rfl)
    obtain ⟨c10, c11, c12, _⟩ := row3 (h.row 1 rfl)
    exact ⟨h, c00, c01, c02, c10, c11, c12⟩
  go_region_held3 (fun w' => Vars w [(w.heap.size, 23, [.bool s, .string a, .string d]), (w.heap.size + 1, 23, [.bool t, .string c, .string e])] w' ∧ w'.cell? ⟨w.heap.size, 0, none⟩ = some (.bool s) ∧ w'.cell? ⟨w.heap.size, 1, none⟩ = some (.string a) ∧ w'.cell? ⟨w.heap.size, 2, none⟩ = some (.string d) ∧ w'.cell? ⟨w.heap.size + 1, 0, none⟩ = some (.bool t) ∧ w'.cell? ⟨w.heap.size + 1, 1, none⟩ = some (.string c) ∧ w'.cell? ⟨w.heap.size + 1, 2, none⟩ = some (.string e))
    (first | exact P0 _ (V2.put3 2 rfl _ _ _).lead | exact P0 _ V2.lead | exact P0 _ V1.lead | exact P0 _ V0.drew.lead)
    (first
      | (go_at_call 61; have _g := i1; refine (rAdd_any _ _ _ _ _ _ _ (by omega) (by omega) (by omega) (by omega) (V1.tab hT)).mono ?_; rintro _ w2 ⟨u2, c2, f2, rfl, i2, hb2⟩; rw [i1.val, ← Rat.sub_eq_add_neg] at i2; have V2 := V1.call hb2; obtain ⟨r0, r1, r2, rf0, rf1, rf2⟩ := row3 (V2.row 2 rfl))
      | (go_at_call 58; refine (rNeg_any _ _ _ _ (by omega) (by omega) (V0.drew.tab hT)).mono ?_; rintro _ w1 ⟨u1, c1, f1, rfl, i1, hb1⟩; have V1 := V0.drew.call hb1; obtain ⟨s1a, s1b⟩ := i1.sz; rw [qs_neg] at s1a s1b))
  go_wp2_with fail
  have V3 := V2.put3 2 rfl (.bool u2) (.string c2) (.string f2)
  refine bodyPost_ret (results_rat rfl _ rfl (V3.row 2 rfl)) rfl ?_
  exact ⟨_, _, _, rfl, i2, V3.1⟩

set_option maxHeartbeats 4000000 in
set_option maxRecDepth 100000 in
theorem rMin_any (s : Bool) (a d : ByteArray) (t : Bool) (c e : ByteArray) (w : World) (ha : a.size ≤ 4398046511104) (hd : d.size ≤ 4398046511104) (hc : c.size ≤ 4398046511104) (he : e.size ≤ 4398046511104) (hT : Tab w) :
    Calls Tryd.prog 69 #[.agg #[.bool s, .string a, .string d], .agg #[.bool t, .string c, .string e]] w fun x w' => Gives (if cmpQ (qv s a d) (qv t c e) ≤ 0 then qv s a d else qv t c e) w x w' := by
  have V0 := vars3 w 23 23 23 [.bool s, .string a, .string d] [.bool t, .string c, .string e] [.bool false, .string ⟨#[]⟩, .string ⟨#[]⟩]
  obtain ⟨k, hk⟩ : ∃ k, cmpQ (qv s a d) (qv t c e) = k := ⟨_, rfl⟩
  have hkr : -1 ≤ k ∧ k ≤ 1 := by
    rw [← hk]; unfold cmpQ
    split
    · omega
    · split <;> omega
  rw [hk]
  have HK := Lib.hid hk
  obtain ⟨hk1, hk2⟩ := hkr
  clear hk
  by_cases hy : k ≤ 0
  · rw [if_pos hy]
    go_enter Tryd.func69, Tryd.ntmps69
    go_wp2_with fail
    refine (rCmp_any _ _ _ _ _ _ _ ha hd hc he (V0.tab hT)).mono ?_
    rintro _ w1 ⟨rfl, hb1⟩
    rw [HK.out]
    have V1 := V0.call hb1
    obtain ⟨p0, p1, p2, pf0, pf1, pf2⟩ := row3 (V1.row 0 rfl)
    go_wp2_with fail
    refine (fit_any _ _ _ _ (by omega) (by omega) (V1.tab hT)).mono ?_
    rintro _ w2 ⟨u2, c2, f2, rfl, i2, hb2⟩
    have V2 := V1.call hb2
    obtain ⟨r0, r1, r2, rf0, rf1, rf2⟩ := row3 (V2.row 2 rfl)
    go_wp2_with fail
    have V3 := V2.put3 2 rfl (.bool u2) (.string c2) (.string f2)
    refine bodyPost_ret (results_rat rfl _ rfl (V3.row 2 rfl)) rfl ?_
    exact ⟨_, _, _, rfl, i2, V3.1⟩
  · rw [if_neg hy]
    go_enter Tryd.func69, Tryd.ntmps69
    go_wp2_with fail
    refine (rCmp_any _ _ _ _ _ _ _ ha hd hc he (V0.tab hT)).mono ?_
    rintro _ w1 ⟨rfl, hb1⟩
    rw [HK.out]
    have V1 := V0.call hb1
    obtain ⟨p0, p1, p2, pf0, pf1, pf2⟩ := row3 (V1.row 1 rfl)
    go_wp2_with fail
    refine (fit_any _ _ _ _ (by omega) (by omega) (V1.tab hT)).mono ?_
    rintro _ w2 ⟨u2, c2, f2, rfl, i2, hb2⟩
    have V2 := V1.call hb2
    obtain ⟨r0, r1, r2, rf0, rf1, rf2⟩ := row3 (V2.row 2 rfl)
    go_wp2_with fail
    have V3 := V2.put3 2 rfl (.bool u2) (.string c2) (.string f2)
    refine bodyPost_ret (results_rat rfl _ rfl (V3.row 2 rfl)) rfl ?_
    exact ⟨_, _, _, rfl, i2, V3.1⟩

set_option maxHeartbeats 4000000 in
set_option maxRecDepth 100000 in
theorem rMax_any (s : Bool) (a d : ByteArray) (t : Bool) (c e : ByteArray) (w : World) (ha : a.size ≤ 4398046511104) (hd : d.size ≤ 4398046511104) (hc : c.size ≤ 4398046511104) (he : e.size ≤ 4398046511104) (hT : Tab w) :
    Calls Tryd.prog 87 #[.agg #[.bool s, .string a, .string d], .agg #[.bool t, .string c, .string e]] w fun x w' => Gives (if 0 ≤ cmpQ (qv s a d) (qv t c e) then qv s a d else qv t c e) w x w' := by
  have V0 := vars3 w 23 23 23 [.bool s, .string a, .string d] [.bool t, .string c, .string e] [.bool false, .string ⟨#[]⟩, .string ⟨#[]⟩]
  obtain ⟨k, hk⟩ : ∃ k, cmpQ (qv s a d) (qv t c e) = k := ⟨_, rfl⟩
  have hkr : -1 ≤ k ∧ k ≤ 1 := by
    rw [← hk]; unfold cmpQ
    split
    · omega
    · split <;> omega
  rw [hk]
  have HK := Lib.hid hk
  obtain ⟨hk1, hk2⟩ := hkr
  clear hk
  by_cases hy : 0 ≤ k
  · rw [if_pos hy]
    go_enter Tryd.func87, Tryd.ntmps87
    go_wp2_with fail
    refine (rCmp_any _ _ _ _ _ _ _ ha hd hc he (V0.tab hT)).mono ?_
    rintro _ w1 ⟨rfl, hb1⟩
    rw [HK.out]
    have V1 := V0.call hb1
    obtain ⟨p0, p1, p2, pf0, pf1, pf2⟩ := row3 (V1.row 0 rfl)
    go_wp2_with fail
    refine (fit_any _ _ _ _ (by omega) (by omega) (V1.tab hT)).mono ?_
    rintro _ w2 ⟨u2, c2, f2, rfl, i2, hb2⟩
    have V2 := V1.call hb2
    obtain ⟨r0, r1, r2, rf0, rf1, rf2⟩ := row3 (V2.row 2 rfl)
    go_wp2_with fail
    have V3 := V2.put3 2 rfl (.bool u2) (.string c2) (.string f2)
    refine bodyPost_ret (results_rat rfl _ rfl (V3.row 2 rfl)) rfl ?_
    exact ⟨_, _, _, rfl, i2, V3.1⟩
  · rw [if_neg hy]
    go_enter Tryd.func87, Tryd.ntmps87
    go_wp2_with fail
    refine (rCmp_any _ _ _ _ _ _ _ ha hd hc he (V0.tab hT)).mono ?_
    rintro _ w1 ⟨rfl, hb1⟩
    rw [HK.out]
    have V1 := V0.call hb1
    obtain ⟨p0, p1, p2, pf0, pf1, pf2⟩ := row3 (V1.row 1 rfl)
    go_wp2_with fail
    refine (fit_any _ _ _ _ (by omega) (by omega) (V1.tab hT)).mono ?_
    rintro _ w2 ⟨u2, c2, f2, rfl, i2, hb2⟩
    have V2 := V1.call hb2
    obtain ⟨r0, r1, r2, rf0, rf1, rf2⟩ := row3 (V2.row 2 rfl)
    go_wp2_with fail
    have V3 := V2.put3 2 rfl (.bool u2) (.string c2) (.string f2)
    refine bodyPost_ret (results_rat rfl _ rfl (V3.row 2 rfl)) rfl ?_
    exact ⟨_, _, _, rfl, i2, V3.1⟩

theorem qs_i64 {n : Int} (h1 : -9223372036854775808 ≤ n) (h2 : n ≤ 9223372036854775807) : qs (n : Rat) ≤ 8 :=
  qs_int (Nat.lt_of_le_of_lt (show n.natAbs ≤ 9223372036854775808 by omega) (by decide)) (by omega)
set_option maxHeartbeats 4000000 in
set_option maxRecDepth 100000 in
theorem rMake_any (n m : Int) (w : World) (h1 : -9223372036854775808 ≤ n) (h2 : n ≤ 9223372036854775807) (h3 : -9223372036854775808 ≤ m) (h4 : m ≤ 9223372036854775807) (hT : Tab w) :
    Calls Tryd.prog 92 #[.int .i64 n, .int .i64 m] w fun x w' => Quot (n : Rat) (m : Rat) w x w' := by
  have V0 := vars1 w 23 [.bool false, .string ⟨#[]⟩, .string ⟨#[]⟩]
  have hn := qs_i64 h1 h2
  have hm := qs_i64 h3 h4
  go_enter Tryd.func92, Tryd.ntmps92
  go_wp2_with fail
  refine (rOf_any n _ h1 h2 (V0.tab hT)).mono ?_
  rintro _ w1 ⟨u1, c1, f1, rfl, i1, hb1⟩
  have V1 := V0.call hb1
  obtain ⟨s1a, s1b⟩ := i1.sz
  go_wp2_with fail
  refine (rOf_any m _ h3 h4 (V1.tab hT)).mono ?_
  rintro _ w2 ⟨u2, c2, f2, rfl, i2, hb2⟩
  have V2 := V1.call hb2
  obtain ⟨s2a, s2b⟩ := i2.sz
  go_wp2_with fail
  refine (rDiv_any _ _ _ _ _ _ _ (by omega) (by omega) (by omega) (by omega) (V2.tab hT)).mono ?_
  rintro _ w3 ⟨u3, c3, f3, k, rfl, hq, hb3⟩
  rw [i1.val, i2.val] at hq
  have HQ := Lib.hid hq
  clear hq
  have V3 := V2.call hb3
  obtain ⟨r0, r1, r2, rf0, rf1, rf2⟩ := row3 (V3.row 0 rfl)
  go_wp2_with fail
  have V4 := V3.put3 0 rfl (.bool u3) (.string c3) (.string f3)
  refine bodyPost_ret (results_rat2 rfl _ rfl rfl (V4.row 0 rfl)) rfl ?_
  exact ⟨_, _, _, _, rfl, HQ.out, V4.1⟩

end Go.Proofs.YtdhpmdkfmgpcmaaDoor.ratE
