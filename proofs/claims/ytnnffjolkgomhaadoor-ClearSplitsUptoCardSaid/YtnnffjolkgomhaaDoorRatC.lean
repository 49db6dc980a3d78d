/- Walks: rat.Mul, rat.Div. -/
import Derived.Test.YtnnffjolkgomhaaDoorRatB
namespace Go.Proofs.YtnnffjolkgomhaaDoor.ratC
open Go.RowKit num mem natA natB natC natD natE natI seg natM natN natO q ratA held ratB

theorem sg_ne (s t : Bool) (x y : Nat) : sg (s != t) (x * y) = sg s x * sg t y := by
  cases s <;> cases t <;> simp [sg, Int.neg_mul, Int.mul_neg]
set_option maxHeartbeats 4000000 in
set_option maxRecDepth 100000 in
theorem rMul_any (s : Bool) (a d : ByteArray) (t : Bool) (c e : ByteArray) (w : World) (ha : a.size ≤ 4398046511104) (hd : d.size ≤ 4398046511104) (hc : c.size ≤ 4398046511104) (he : e.size ≤ 4398046511104) (hT : Tab w) :
    Calls Tryd.prog 76 #[.agg #[.bool s, .string a, .string d], .agg #[.bool t, .string c, .string e]] w fun x w' => Gives (qv s a d * qv t c e) w x w' := by
  have z1 := qs_qv s a d
  have z2 := qs_qv t c e
  obtain ⟨p, hp⟩ : ∃ p, qv s a d = p := ⟨_, rfl⟩
  obtain ⟨q, hq⟩ : ∃ q, qv t c e = q := ⟨_, rfl⟩
  rw [hp] at z1 ⊢
  rw [hq] at z2 ⊢
  have HP := Lib.hid hp
  have HQ := Lib.hid hq
  clear hp hq
  go_enter Tryd.func76, Tryd.ntmps76
  go_upto_region 1 with fail
  have hH := Held.start3 w 23 23 23 [.bool s, .string a, .string d] [.bool t, .string c, .string e] [.bool false, .string ⟨#[]⟩, .string ⟨#[]⟩]
  obtain ⟨W, hW⟩ : ∃ W, W = (((w.alloc (.cells #[.bool s, .string a, .string d] 23)).alloc (.cells #[.bool t, .string c, .string e] 23)).alloc (.cells #[.bool false, .string ⟨#[]⟩, .string ⟨#[]⟩] 23)) := ⟨_, rfl⟩
  rw [← hW] at hH ⊢
  clear hW
  go_cut [2, 3, 4] (fun s2 s3 s4 wx => s2 = .pointer (some ⟨w.heap.size, 0, none⟩) ∧ s3 = .pointer (some ⟨w.heap.size + 1, 0, none⟩) ∧ s4 = .pointer (some ⟨w.heap.size + 2, 0, none⟩) ∧ ∃ u1 a1 d1 u2 a2 d2, Is p u1 a1 d1 ∧ Is q u2 a2 d2 ∧ Held w [(23, [.bool u1, .string a1, .string d1]), (23, [.bool u2, .string a2, .string d2]), (23, [.bool false, .string ⟨#[]⟩, .string ⟨#[]⟩])] wx)
  case first =>
    have hH0 := hH.drew
    obtain ⟨p0, p1, p2, _, _, _⟩ := row3 (hH0.row0 rfl)
    obtain ⟨q0, q1, q2, _, _, _⟩ := row3 (hH0.row 1 rfl)
    have hT0 := hH0.tab hT
    have ha' : a.size ≤ 17592186044416 := by omega
    have hd' : d.size ≤ 17592186044416 := by omega
    have hc' : c.size ≤ 17592186044416 := by omega
    have he' : e.size ≤ 17592186044416 := by omega
    go_region_with (first
      | (go_at_call_of 134 (Value.string a); refine (fit_any s a d _ ha' hd' ?_).mono ?_; (first | exact hTb | exact hT0); rintro _ wa ⟨ua, ca, fa, rfl, ia, hba⟩; rw [HP.out] at ia; (first | have hHa := hHb.call hba | have hHa := hH0.call hba); (have hTa := hHa.tab hT); (obtain ⟨p0, p1, p2, _, _, _⟩ := row3 (hHa.row0 rfl)); (obtain ⟨q0, q1, q2, _, _, _⟩ := row3 (hHa.row 1 rfl)))
      | (go_at_call_of 134 (Value.string c); refine (fit_any t c e _ hc' he' ?_).mono ?_; (first | exact hTa | exact hT0); rintro _ wb ⟨ub, cb, fb, rfl, ib, hbb⟩; rw [HQ.out] at ib; (first | have hHb := hHa.call hbb | have hHb := hH0.call hbb); (have hTb := hHb.tab hT); (obtain ⟨p0, p1, p2, _, _, _⟩ := row3 (hHb.row0 rfl)); (obtain ⟨q0, q1, q2, _, _, _⟩ := row3 (hHb.row 1 rfl))))
    all_goals
      go_wp2_with fail
      go_meet
      first
        | exact ⟨rfl, rfl, rfl, _, _, _, _, _, _, ia, ib, (hHb.put3_0 rfl _ _ _).put3 1 rfl _ _ _⟩
        | exact ⟨rfl, rfl, rfl, _, _, _, _, _, _, ia, ib, (hHa.put3_0 rfl _ _ _).put3 1 rfl _ _ _⟩
  case rest =>
    obtain ⟨rfl, rfl, rfl, u1, a1, d1, u2, a2, d2, i1, i2, hH⟩ := hcut
    have s1 := i1.sz
    have s2 := i2.sz
    obtain ⟨n1, m1, rfl, rfl, hn1, hm1, hm1p, hx1⟩ := i1.parts
    obtain ⟨n2, m2, rfl, rfl, hn2, hm2, hm2p, hx2⟩ := i2.parts
    have sn1 : (enc n1).size ≤ 4398046511105 := by omega
    have sm1 : (enc m1).size ≤ 4398046511105 := by omega
    have sn2 : (enc n2).size ≤ 4398046511105 := by omega
    have sm2 : (enc m2).size ≤ 4398046511105 := by omega
    have I1 := Lib.hid i1
    have I2 := Lib.hid i2
    have H1 := Lib.hid (And.intro hn1 (And.intro hm1 hm1p))
    have H2 := Lib.hid (And.intro hn2 (And.intro hm2 hm2p))
    clear i1 i2 z1 z2 s1 s2 hn1 hm1 hm1p hn2 hm2 hm2p hx1 hx2 ha hd hc he
    obtain ⟨p0, p1, p2, _, _, _⟩ := row3 (hH.row0 rfl)
    obtain ⟨q0, q1, q2, _, _, _⟩ := row3 (hH.row 1 rfl)
    have P0 : ∀ w', Held w [(23, [.bool u1, .string (enc n1), .string (enc m1)]), (23, [.bool u2, .string (enc n2), .string (enc m2)])] w' →
        Held w [(23, [.bool u1, .string (enc n1), .string (enc m1)]), (23, [.bool u2, .string (enc n2), .string (enc m2)])] w' ∧ w'.cell? ⟨w.heap.size, 0, none⟩ = some (.bool u1) ∧ w'.cell? ⟨w.heap.size, 1, none⟩ = some (.string (enc n1)) ∧ w'.cell? ⟨w.heap.size, 2, none⟩ = some (.string (enc m1)) ∧
        w'.cell? ⟨w.heap.size + 1, 0, none⟩ = some (.bool u2) ∧ w'.cell? ⟨w.heap.size + 1, 1, none⟩ = some (.string (enc n2)) ∧ w'.cell? ⟨w.heap.size + 1, 2, none⟩ = some (.string (enc m2)) := fun w' h => by
      obtain ⟨a0, a1, a2, _⟩ := row3 (h.row0 rfl)
      obtain ⟨b0, b1, b2, _⟩ := row3 (h.row 1 rfl)
      exact ⟨h, a0, a1, a2, b0, b1, b2⟩
    have hmp : 0 < m1 * m2 := Nat.mul_pos H1.out.2.2 H2.out.2.2
    have HA := Lib.hid (show mkRat (sg (u1 != u2) (n1 * n2)) (m1 * m2) = p * q by
      rw [sg_ne, H1.out.1, H2.out.1, H1.out.2.1, H2.out.2.1, ← Rat.mul_def'])
    go_wp2_with fail
    have hsz : (enc (n1 * n2)).size ≤ 8796093022210 := enc_mul_le sn1 sn2
    have hsz2 : (enc (m1 * m2)).size ≤ 8796093022210 := enc_mul_le sm1 sm2
    clear p0 p1 p2 q0 q1 q2
    go_region_held3 (fun w' => Held w [(23, [.bool u1, .string (enc n1), .string (enc m1)]), (23, [.bool u2, .string (enc n2), .string (enc m2)])] w' ∧ w'.cell? ⟨w.heap.size, 0, none⟩ = some (.bool u1) ∧ w'.cell? ⟨w.heap.size, 1, none⟩ = some (.string (enc n1)) ∧ w'.cell? ⟨w.heap.size, 2, none⟩ = some (.string (enc m1)) ∧
          w'.cell? ⟨w.heap.size + 1, 0, none⟩ = some (.bool u2) ∧ w'.cell? ⟨w.heap.size + 1, 1, none⟩ = some (.string (enc n2)) ∧ w'.cell? ⟨w.heap.size + 1, 2, none⟩ = some (.string (enc m2)))
      (first | exact P0 _ hH.two.drew | exact P0 _ (hHm.two.past3 (by simp) _ _ _) | exact P0 _ hHm.two | exact P0 _ hHa.two | exact P0 _ hHb.two)
      (first
        | (go_at_call_of 136 (Value.string (enc n1)); refine (Mul_any (enc n1) (enc n2) _ (by omega) (by omega)).mono ?_; rintro _ wa ⟨rfl, hba⟩; rw [nv_enc, nv_enc]; (first | have hHa := hHb.call hba | have hHa := hH.drew.call hba))
        | (go_at_call_of 136 (Value.string (enc m1)); refine (Mul_any (enc m1) (enc m2) _ (by omega) (by omega)).mono ?_; rintro _ wb ⟨rfl, hbb⟩; rw [nv_enc, nv_enc]; (first | have hHb := hHa.call hbb | have hHb := hH.drew.call hbb))
        | (go_at_call 138; refine (made_any (u1 != u2) (n1 * n2) (m1 * m2) _ (by omega) (by omega) hmp ?_).mono ?_; (first | exact hHb.tab hT | exact hHa.tab hT); rintro _ wm ⟨ur, zr, dr, rfl, ir, hbm⟩; rw [HA.out] at ir; (first | have hHm := hHb.call hbm | have hHm := hHa.call hbm); (obtain ⟨r0, r1, r2, f0, f1, f2⟩ := row3 (hHm.row 2 rfl))))
    go_wp2_with fail
    have hH8 := hHm.put3 2 rfl (.bool ur) (.string zr) (.string dr)
    refine bodyPost_ret (results_rat rfl _ rfl (hH8.row 2 rfl)) rfl ?_
    exact ⟨_, _, _, rfl, ir, hH8.1⟩
theorem results_rat2 {fn : Func} {t u : Tmp} (h : fn.results = #[.cell t 23, .tmp u]) (tmps : Array Value) {w : World} {b : Nat} {x y z v : Value} (hp : tmps.getD t undef = .pointer (some ⟨b, 0, none⟩)) (hv : tmps.getD u undef = v) (hr : Row w b 23 [x, y, z]) :
    (results fn tmps).run Tryd.prog w = .ok (.tuple #[.agg #[x, y, z], v]) w := by
  obtain ⟨r0, r1, r2, _⟩ := row3 hr
  have hp' : tmps[t]?.getD undef = .pointer (some ⟨b, 0, none⟩) := by simpa using hp
  have hv' : tmps[u]?.getD undef = v := by simpa using hv
  simp [results, h, hp', hv', go_sem, r0, r1, r2]
/-- a division's end -/
def Quot (p q : Rat) (w : World) (e : Ending) (w' : World) : Prop := ∃ u c f k, e = .returned (.tuple #[.agg #[.bool u, .string c, .string f], .int .i64 k]) ∧ (q = 0 ∧ u = false ∧ c = ⟨#[]⟩ ∧ f = ⟨#[]⟩ ∧ k = 12 ∨ q ≠ 0 ∧ k = 0 ∧ Is (p / q) u c f) ∧ Below w.heap.size w w'
theorem div_parts {p q : Rat} {s t : Bool} {n m k l : Nat} (h1 : sg s n = p.num) (h2 : m = p.den) (h3 : sg t k = q.num) (h4 : l = q.den) (hk : 0 < k) (_hm : 0 < m) : mkRat (sg (s != t) (n * l)) (m * k) = p / q := by
  have hq0 : q.num ≠ 0 := by
    rw [← h3]
    intro h
    have := congrArg Int.natAbs h
    rw [sg_abs] at this
    simp at this
    omega
  have hinv : q⁻¹ = mkRat (sg t l) k := by
    have e1 : k = q.num.natAbs := by rw [← h3, sg_abs]
    have e2 : sg t l = q.num.sign * (q.den : Int) := by
      rw [← h3, ← h4]
      unfold sg
      cases t with
      | false => simp [Int.sign_eq_one_of_pos (show (0 : Int) < (k : Int) by omega)]
      | true => simp [Int.sign_eq_one_of_pos (show (0 : Int) < (k : Int) by omega)]
    rw [← Rat.mkRat_self q⁻¹, Rat.num_inv, Rat.den_inv, if_neg hq0, e2, e1]
  rw [Rat.div_def, hinv, ← Rat.mkRat_self p, ← h1, ← h2, Rat.mkRat_mul_mkRat, sg_ne]
set_option maxHeartbeats 4000000 in
set_option maxRecDepth 100000 in
theorem rDiv_any (s : Bool) (a d : ByteArray) (t : Bool) (c e : ByteArray) (w : World) (ha : a.size ≤ 4398046511104) (hd : d.size ≤ 4398046511104) (hc : c.size ≤ 4398046511104) (he : e.size ≤ 4398046511104) (hT : Tab w) :
    Calls Tryd.prog 75 #[.agg #[.bool s, .string a, .string d], .agg #[.bool t, .string c, .string e]] w fun x w' => Quot (qv s a d) (qv t c e) w x w' := by
  have z1 := qs_qv s a d
  have z2 := qs_qv t c e
  obtain ⟨p, hp⟩ : ∃ p, qv s a d = p := ⟨_, rfl⟩
  obtain ⟨q, hq⟩ : ∃ q, qv t c e = q := ⟨_, rfl⟩
  rw [hp] at z1 ⊢
  rw [hq] at z2 ⊢
  have HP := Lib.hid hp
  have HQ := Lib.hid hq
  clear hp hq
  go_enter Tryd.func75, Tryd.ntmps75
  go_upto_region 1 with fail
  have hH := Held.start3 w 23 23 23 [.bool s, .string a, .string d] [.bool t, .string c, .string e] [.bool false, .string ⟨#[]⟩, .string ⟨#[]⟩]
  obtain ⟨W, hW⟩ : ∃ W, W = (((w.alloc (.cells #[.bool s, .string a, .string d] 23)).alloc (.cells #[.bool t, .string c, .string e] 23)).alloc (.cells #[.bool false, .string ⟨#[]⟩, .string ⟨#[]⟩] 23)) := ⟨_, rfl⟩
  rw [← hW] at hH ⊢
  clear hW
  go_cut [2, 3, 4] (fun s2 s3 s4 wx => s2 = .pointer (some ⟨w.heap.size, 0, none⟩) ∧ s3 = .pointer (some ⟨w.heap.size + 1, 0, none⟩) ∧ s4 = .pointer (some ⟨w.heap.size + 2, 0, none⟩) ∧ ∃ u1 a1 d1 u2 a2 d2, Is p u1 a1 d1 ∧ Is q u2 a2 d2 ∧ Held w [(23, [.bool u1, .string a1, .string d1]), (23, [.bool u2, .string a2, .string d2]), (23, [.bool false, .string ⟨#[]⟩, .string ⟨#[]⟩])] wx)
  case first =>
    have hH0 := hH.drew
    obtain ⟨p0, p1, p2, _, _, _⟩ := row3 (hH0.row0 rfl)
    obtain ⟨q0, q1, q2, _, _, _⟩ := row3 (hH0.row 1 rfl)
    have hT0 := hH0.tab hT
    have ha' : a.size ≤ 17592186044416 := by omega
    have hd' : d.size ≤ 17592186044416 := by omega
    have hc' : c.size ≤ 17592186044416 := by omega
    have he' : e.size ≤ 17592186044416 := by omega
    go_region_with (first
      | (go_at_call_of 134 (Value.string a); refine (fit_any s a d _ ha' hd' ?_).mono ?_; (first | exact hTb | exact hT0); rintro _ wa ⟨ua, ca, fa, rfl, ia, hba⟩; rw [HP.out] at ia; (first | have hHa := hHb.call hba | have hHa := hH0.call hba); (have hTa := hHa.tab hT); (obtain ⟨p0, p1, p2, _, _, _⟩ := row3 (hHa.row0 rfl)); (obtain ⟨q0, q1, q2, _, _, _⟩ := row3 (hHa.row 1 rfl)))
      | (go_at_call_of 134 (Value.string c); refine (fit_any t c e _ hc' he' ?_).mono ?_; (first | exact hTa | exact hT0); rintro _ wb ⟨ub, cb, fb, rfl, ib, hbb⟩; rw [HQ.out] at ib; (first | have hHb := hHa.call hbb | have hHb := hH0.call hbb); (have hTb := hHb.tab hT); (obtain ⟨p0, p1, p2, _, _, _⟩ := row3 (hHb.row0 rfl)); (obtain ⟨q0, q1, q2, _, _, _⟩ := row3 (hHb.row 1 rfl))))
    all_goals
      go_wp2_with fail
      go_meet
      first
        | exact ⟨rfl, rfl, rfl, _, _, _, _, _, _, ia, ib, (hHb.put3_0 rfl _ _ _).put3 1 rfl _ _ _⟩
        | exact ⟨rfl, rfl, rfl, _, _, _, _, _, _, ia, ib, (hHa.put3_0 rfl _ _ _).put3 1 rfl _ _ _⟩
  case rest =>
    obtain ⟨rfl, rfl, rfl, u1, a1, d1, u2, a2, d2, i1, i2, hH⟩ := hcut
    have s1 := i1.sz
    have s2 := i2.sz
    obtain ⟨n1, m1, rfl, rfl, hn1, hm1, hm1p, hx1⟩ := i1.parts
    obtain ⟨n2, m2, rfl, rfl, hn2, hm2, hm2p, hx2⟩ := i2.parts
    have sn1 : (enc n1).size ≤ 4398046511105 := by omega
    have sm1 : (enc m1).size ≤ 4398046511105 := by omega
    have sn2 : (enc n2).size ≤ 4398046511105 := by omega
    have sm2 : (enc m2).size ≤ 4398046511105 := by omega
    have I1 := Lib.hid i1
    have I2 := Lib.hid i2
    have H1 := Lib.hid (And.intro hn1 (And.intro hm1 hm1p))
    have H2 := Lib.hid (And.intro hn2 (And.intro hm2 hm2p))
    clear i1 i2 z1 z2 s1 s2 hn1 hm1 hm1p hn2 hm2 hm2p hx1 hx2 ha hd hc he
    obtain ⟨p0, p1, p2, _, _, _⟩ := row3 (hH.row0 rfl)
    obtain ⟨q0, q1, q2, _, _, _⟩ := row3 (hH.row 1 rfl)
    have P0 : ∀ w', Held w [(23, [.bool u1, .string (enc n1), .string (enc m1)]), (23, [.bool u2, .string (enc n2), .string (enc m2)])] w' →
        Held w [(23, [.bool u1, .string (enc n1), .string (enc m1)]), (23, [.bool u2, .string (enc n2), .string (enc m2)])] w' ∧ w'.cell? ⟨w.heap.size, 0, none⟩ = some (.bool u1) ∧ w'.cell? ⟨w.heap.size, 1, none⟩ = some (.string (enc n1)) ∧ w'.cell? ⟨w.heap.size, 2, none⟩ = some (.string (enc m1)) ∧
        w'.cell? ⟨w.heap.size + 1, 0, none⟩ = some (.bool u2) ∧ w'.cell? ⟨w.heap.size + 1, 1, none⟩ = some (.string (enc n2)) ∧ w'.cell? ⟨w.heap.size + 1, 2, none⟩ = some (.string (enc m2)) := fun w' h => by
      obtain ⟨a0, a1, a2, _⟩ := row3 (h.row0 rfl)
      obtain ⟨b0, b1, b2, _⟩ := row3 (h.row 1 rfl)
      exact ⟨h, a0, a1, a2, b0, b1, b2⟩
    by_cases hn0 : n2 = 0
    · subst hn0
      have hq0 : q = 0 := by
        apply Rat.num_eq_zero.1
        rw [← H2.out.1]; unfold sg; simp
      have HQ0 := Lib.hid hq0
      rw [enc_zero] at q1
      obtain ⟨r0, r1, r2, f0, f1, f2⟩ := row3 (hH.row 2 rfl)
      clear hq0
      go_wp2_with fail
      have hH8 := hH.put3 2 rfl (.bool false) (.string ⟨#[]⟩) (.string ⟨#[]⟩)
      refine bodyPost_ret (results_rat2 rfl _ rfl rfl (hH8.row 2 rfl)) rfl ?_
      exact ⟨_, _, _, _, rfl, .inl ⟨HQ0.out, rfl, rfl, rfl, rfl⟩, hH8.1⟩
    · have hnt := enc_ne (show 0 < n2 by omega)
      have hmp : 0 < m1 * n2 := Nat.mul_pos H1.out.2.2 (by omega)
      have HA := Lib.hid (show mkRat (sg (u1 != u2) (n1 * m2)) (m1 * n2) = p / q from div_parts H1.out.1 H1.out.2.1 H2.out.1 H2.out.2.1 (by omega) H1.out.2.2)
      have HQ0 := Lib.hid (show q ≠ 0 by
        intro h
        have := H2.out.1
        rw [h] at this
        have := congrArg Int.natAbs this
        rw [sg_abs] at this
        simp at this
        exact hn0 this)
      clear hn0
      go_wp2_with fail
      have hsz : (enc (n1 * m2)).size ≤ 8796093022210 := enc_mul_le sn1 sm2
      have hsz2 : (enc (m1 * n2)).size ≤ 8796093022210 := enc_mul_le sm1 sn2
      clear p0 p1 p2 q0 q1 q2
      go_region_held3 (fun w' => Held w [(23, [.bool u1, .string (enc n1), .string (enc m1)]), (23, [.bool u2, .string (enc n2), .string (enc m2)])] w' ∧ w'.cell? ⟨w.heap.size, 0, none⟩ = some (.bool u1) ∧ w'.cell? ⟨w.heap.size, 1, none⟩ = some (.string (enc n1)) ∧ w'.cell? ⟨w.heap.size, 2, none⟩ = some (.string (enc m1)) ∧
          w'.cell? ⟨w.heap.size + 1, 0, none⟩ = some (.bool u2) ∧ w'.cell? ⟨w.heap.size + 1, 1, none⟩ = some (.string (enc n2)) ∧ w'.cell? ⟨w.heap.size + 1, 2, none⟩ = some (.string (enc m2)))
        (first | exact P0 _ hH.two.drew | exact P0 _ (hHm.two.past3 (by simp) _ _ _) | exact P0 _ hHm.two | exact P0 _ hHa.two | exact P0 _ hHb.two)
        (first
          | (go_at_call_of 136 (Value.string (enc n1)); refine (Mul_any (enc n1) (enc m2) _ (by omega) (by omega)).mono ?_; rintro _ wa ⟨rfl, hba⟩; rw [nv_enc, nv_enc]; (first | have hHa := hHb.call hba | have hHa := hH.drew.call hba))
          | (go_at_call_of 136 (Value.string (enc m1)); refine (Mul_any (enc m1) (enc n2) _ (by omega) (by omega)).mono ?_; rintro _ wb ⟨rfl, hbb⟩; rw [nv_enc, nv_enc]; (first | have hHb := hHa.call hbb | have hHb := hH.drew.call hbb))
          | (go_at_call 138; refine (made_any (u1 != u2) (n1 * m2) (m1 * n2) _ (by omega) (by omega) hmp ?_).mono ?_; (first | exact hHb.tab hT | exact hHa.tab hT); rintro _ wm ⟨ur, zr, dr, rfl, ir, hbm⟩; rw [HA.out] at ir; (first | have hHm := hHb.call hbm | have hHm := hHa.call hbm); (obtain ⟨r0, r1, r2, f0, f1, f2⟩ := row3 (hHm.row 2 rfl))))
      go_wp2_with fail
      have hH8 := hHm.put3 2 rfl (.bool ur) (.string zr) (.string dr)
      refine bodyPost_ret (results_rat2 rfl _ rfl rfl (hH8.row 2 rfl)) rfl ?_
      exact ⟨_, _, _, _, rfl, .inr ⟨HQ0.out, rfl, ir⟩, hH8.1⟩

end Go.Proofs.YtnnffjolkgomhaaDoor.ratC
