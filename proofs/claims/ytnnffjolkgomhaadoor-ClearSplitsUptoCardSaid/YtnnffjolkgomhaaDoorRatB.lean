/- Walks: rat.Add, rat.Mul. -/
import Derived.Test.YtnnffjolkgomhaaDoorRatA
import Derived.Test.YtnnffjolkgomhaaDoorHeld
import Derived.Deep.RegionHeld3
namespace Go.Proofs.YtnnffjolkgomhaaDoor.ratB
open Go.RowKit num mem natA natB natC natD natE natI seg natM natN natO q ratA held

theorem results_rat {fn : Func} {t : Tmp} (h : fn.results = #[.cell t 23]) (tmps : Array Value) {w : World} {b : Nat} {x y z : Value} (hp : tmps.getD t undef = .pointer (some ⟨b, 0, none⟩)) (hr : Row w b 23 [x, y, z]) :
    (results fn tmps).run Tryd.prog w = .ok (.agg #[x, y, z]) w := by
  obtain ⟨r0, r1, r2, _⟩ := row3 hr
  have hp' : tmps[t]?.getD undef = .pointer (some ⟨b, 0, none⟩) := by simpa using hp
  simp [results, h, hp', go_sem, r0, r1, r2]

set_option maxHeartbeats 4000000 in
set_option maxRecDepth 100000 in
theorem rAdd_any (s : Bool) (a d : ByteArray) (t : Bool) (c e : ByteArray) (w : World) (ha : a.size ≤ 4398046511104) (hd : d.size ≤ 4398046511104) (hc : c.size ≤ 4398046511104) (he : e.size ≤ 4398046511104) (hT : Tab w) :
    Calls Tryd.prog 46 #[.agg #[.bool s, .string a, .string d], .agg #[.bool t, .string c, .string e]] w fun x w' => Gives (qv s a d + qv t c e) w x w' := by
  have z1 := qs_qv s a d
  have z2 := qs_qv t c e
  obtain ⟨p, hp⟩ : ∃ p, qv s a d = p := ⟨_, rfl⟩
  obtain ⟨q, hq⟩ : ∃ q, qv t c e = q := ⟨_, rfl⟩
  rw [hp] at z1 ⊢
  rw [hq] at z2 ⊢
  have HP := Lib.hid hp
  have HQ := Lib.hid hq
  clear hp hq
  go_enter Tryd.func46, Tryd.ntmps46
  go_upto_region 1 with fail
  have hH := Held.start3 w 23 23 23 [.bool s, .string a, .string d] [.bool t, .string c, .string e] [.bool false, .string ⟨#[]⟩, .string ⟨#[]⟩]
  obtain ⟨W, hW⟩ : ∃ W, W = (((w.alloc (.cells #[.bool s, .string a, .string d] 23)).alloc (.cells #[.bool t, .string c, .string e] 23)).alloc (.cells #[.bool false, .string ⟨#[]⟩, .string ⟨#[]⟩] 23)) := ⟨_, rfl⟩
  rw [← hW] at hH ⊢
  clear hW
  go_cut [2, 3, 4] (fun s2 s3 s4 wx => s2 = .pointer (some ⟨w.heap.size, 0, none⟩) ∧ s3 = .pointer (some ⟨w.heap.size + 1, 0, none⟩) ∧ s4 = .pointer (some ⟨w.heap.size + 2, 0, none⟩) ∧ ∃ u1 a1 d1 u2 a2 d2, Is p u1 a1 d1 ∧ Is q u2 a2 d2 ∧ Held w [(23, [.bool u1, .string a1, .string d1]), (23, [.bool u2, .string a2, .string d2]), (23, [.bool false, .string ⟨#[]⟩, .string ⟨#[]⟩])] wx)
  case first =>
    have hH0 := hH.drew
    obtain ⟨p0, p1, p2, _, _, _⟩ := row3 (hH0.row0 rfl)
    obtain ⟨q0, q1, q2, _, _, _⟩ := row3 (hH0.row 1 rfl)
    have hT0 := hH0.tab hT
    have ha' : a.size ≤ 17592186044416 := by omega
    have hd' : d.size ≤ 17592186044416 := by omega
    have hc' : c.size ≤ 17592186044416 := by omega
    have he' : e.size ≤ 17592186044416 := by omega
    go_region_with (first
      | (go_at_call_of 134 (Value.string a); refine (fit_any s a d _ ha' hd' ?_).mono ?_; (first | exact hTb | exact hT0); rintro _ wa ⟨ua, ca, fa, rfl, ia, hba⟩; rw [HP.out] at ia; (first | have hHa := hHb.call hba | have hHa := hH0.call hba); (have hTa := hHa.tab hT); (obtain ⟨p0, p1, p2, _, _, _⟩ := row3 (hHa.row0 rfl)); (obtain ⟨q0, q1, q2, _, _, _⟩ := row3 (hHa.row 1 rfl)))
      | (go_at_call_of 134 (Value.string c); refine (fit_any t c e _ hc' he' ?_).mono ?_; (first | exact hTa | exact hT0); rintro _ wb ⟨ub, cb, fb, rfl, ib, hbb⟩; rw [HQ.out] at ib; (first | have hHb := hHa.call hbb | have hHb := hH0.call hbb); (have hTb := hHb.tab hT); (obtain ⟨p0, p1, p2, _, _, _⟩ := row3 (hHb.row0 rfl)); (obtain ⟨q0, q1, q2, _, _, _⟩ := row3 (hHb.row 1 rfl))))
    all_goals
      go_wp2_with fail
      go_meet
      first
        | exact ⟨rfl, rfl, rfl, _, _, _, _, _, _, ia, ib, (hHb.put3_0 rfl _ _ _).put3 1 rfl _ _ _⟩
        | exact ⟨rfl, rfl, rfl, _, _, _, _, _, _, ia, ib, (hHa.put3_0 rfl _ _ _).put3 1 rfl _ _ _⟩
  case rest =>
    obtain ⟨rfl, rfl, rfl, u1, a1, d1, u2, a2, d2, i1, i2, hH⟩ := hcut
    have s1 := i1.sz
    have s2 := i2.sz
    obtain ⟨n1, m1, rfl, rfl, hn1, hm1, hm1p, hx1⟩ := i1.parts
    obtain ⟨n2, m2, rfl, rfl, hn2, hm2, hm2p, hx2⟩ := i2.parts
    have sn1 : (enc n1).size ≤ 4398046511105 := by omega
    have sm1 : (enc m1).size ≤ 4398046511105 := by omega
    have sn2 : (enc n2).size ≤ 4398046511105 := by omega
    have sm2 : (enc m2).size ≤ 4398046511105 := by omega
    have H1 := Lib.hid (And.intro hn1 (And.intro hm1 hm1p))
    have H2 := Lib.hid (And.intro hn2 (And.intro hm2 hm2p))
    clear i1 i2 z1 z2 s1 s2 hn1 hm1 hm1p hn2 hm2 hm2p hx1 hx2 ha hd hc he
    obtain ⟨p0, p1, p2, _, _, _⟩ := row3 (hH.row0 rfl)
    obtain ⟨q0, q1, q2, _, _, _⟩ := row3 (hH.row 1 rfl)
    by_cases hdd : m1 = m2
    · subst hdd
      go_wp2_with fail
      refine (signed_any u1 u2 n1 n2 wc (by omega) (by omega)).mono ?_
      rintro _ w5 ⟨u, z, rfl, huz, hb5⟩
      have hH5 := hH.call hb5
      obtain ⟨p0, p1, p2, _, _, _⟩ := row3 (hH5.row0 rfl)
      have hz : (enc z).size ≤ 4398046511106 := Nat.le_trans (enc_mono (sg_sum_le huz)) (enc_add_le sn1 sn2)
      have HZ := Lib.hid (show mkRat (sg u z) m1 = p + q by
        rw [huz, H1.out.1, H2.out.1, H1.out.2.1]
        exact add_same (by rw [← H1.out.2.1, ← H2.out.2.1]))
      clear huz
      go_wp2_with fail
      refine (made_any u z m1 w5 (by omega) (by omega) H1.out.2.2 (hH5.tab hT)).mono ?_
      rintro _ w6 ⟨ur, zr, dr, rfl, ir, hb6⟩
      rw [HZ.out] at ir
      have hH6 := hH5.call hb6
      obtain ⟨r0, r1, r2, _, _, _⟩ := row3 (hH6.row 2 rfl)
      clear hH5 hH p0 p1 p2 q0 q1 q2
      go_wp2_with fail
      have hH7 := hH6.put3 2 rfl (.bool ur) (.string zr) (.string dr)
      refine bodyPost_ret (results_rat rfl _ rfl (hH7.row 2 rfl)) rfl ?_
      exact ⟨_, _, _, rfl, ir, hH7.1⟩
    · have hddt : ((enc m1).toList == (enc m2).toList) = false := by
        rw [Lib.toList_data, Lib.toList_data]
        simp only [beq_eq_false_iff_ne]
        intro e
        exact hdd (enc_inj (ba_ext e))
      have P0 : ∀ w', Held w [(23, [.bool u1, .string (enc n1), .string (enc m1)]), (23, [.bool u2, .string (enc n2), .string (enc m2)]), (23, [.bool false, .string ⟨#[]⟩, .string ⟨#[]⟩])] w' →
          Held w [(23, [.bool u1, .string (enc n1), .string (enc m1)]), (23, [.bool u2, .string (enc n2), .string (enc m2)]), (23, [.bool false, .string ⟨#[]⟩, .string ⟨#[]⟩])] w' ∧ w'.cell? ⟨w.heap.size, 0, none⟩ = some (.bool u1) ∧ w'.cell? ⟨w.heap.size, 1, none⟩ = some (.string (enc n1)) ∧ w'.cell? ⟨w.heap.size, 2, none⟩ = some (.string (enc m1)) ∧
          w'.cell? ⟨w.heap.size + 1, 0, none⟩ = some (.bool u2) ∧ w'.cell? ⟨w.heap.size + 1, 1, none⟩ = some (.string (enc n2)) ∧ w'.cell? ⟨w.heap.size + 1, 2, none⟩ = some (.string (enc m2)) := fun w' h => by
        obtain ⟨a0, a1, a2, _⟩ := row3 (h.row0 rfl)
        obtain ⟨b0, b1, b2, _⟩ := row3 (h.row 1 rfl)
        exact ⟨h, a0, a1, a2, b0, b1, b2⟩
      have hsz : (enc (n1 * m2)).size ≤ 8796093022210 := enc_mul_le sn1 sm2
      have hsz2 : (enc (n2 * m1)).size ≤ 8796093022210 := enc_mul_le sn2 sm1
      have HA := Lib.hid (show mkRat (sg u1 (n1 * m2) + sg u2 (n2 * m1)) (m1 * m2) = p + q from add_parts H1.out.1 H1.out.2.1 H2.out.1 H2.out.2.1)
      go_wp2_with fail
      clear p0 p1 p2 q0 q1 q2
      go_region_held3 (fun w' => Held w [(23, [.bool u1, .string (enc n1), .string (enc m1)]), (23, [.bool u2, .string (enc n2), .string (enc m2)]), (23, [.bool false, .string ⟨#[]⟩, .string ⟨#[]⟩])] w' ∧ w'.cell? ⟨w.heap.size, 0, none⟩ = some (.bool u1) ∧ w'.cell? ⟨w.heap.size, 1, none⟩ = some (.string (enc n1)) ∧ w'.cell? ⟨w.heap.size, 2, none⟩ = some (.string (enc m1)) ∧
          w'.cell? ⟨w.heap.size + 1, 0, none⟩ = some (.bool u2) ∧ w'.cell? ⟨w.heap.size + 1, 1, none⟩ = some (.string (enc n2)) ∧ w'.cell? ⟨w.heap.size + 1, 2, none⟩ = some (.string (enc m2)))
        (first | exact P0 _ hH.drew | exact P0 _ hHs | exact P0 _ hHa | exact P0 _ hHb)
        (first
          | (go_at_call_of 136 (Value.string (enc n1)); refine (Mul_any (enc n1) (enc m2) _ (by omega) (by omega)).mono ?_; rintro _ wa ⟨rfl, hba⟩; rw [nv_enc, nv_enc]; (first | have hHa := hHb.call hba | have hHa := hH.drew.call hba))
          | (go_at_call_of 136 (Value.string (enc n2)); refine (Mul_any (enc n2) (enc m1) _ (by omega) (by omega)).mono ?_; rintro _ wb ⟨rfl, hbb⟩; rw [nv_enc, nv_enc]; (first | have hHb := hHa.call hbb | have hHb := hH.drew.call hbb))
          | (go_at_call 137; refine (signed_any u1 u2 (n1 * m2) (n2 * m1) _ (by omega) (by omega)).mono ?_; rintro _ ws ⟨u, z, rfl, huz, hbs⟩; (first | have hHs := hHb.call hbs | have hHs := hHa.call hbs)))
      have hz : (enc z).size ≤ 8796093022211 := Nat.le_trans (enc_mono (sg_sum_le huz)) (enc_add_le hsz hsz2)
      have hsz3 : (enc (m1 * m2)).size ≤ 8796093022210 := enc_mul_le sm1 sm2
      have HU := Lib.hid huz
      have hmp : 0 < m1 * m2 := Nat.mul_pos H1.out.2.2 H2.out.2.2
      obtain ⟨p0, p1, p2, _, _, _⟩ := row3 (hHs.row0 rfl)
      obtain ⟨q0, q1, q2, _, _, _⟩ := row3 (hHs.row 1 rfl)
      clear huz hHa hHb hH P0
      go_wp2_with fail
      refine (Mul_any (enc m1) (enc m2) ws (by omega) (by omega)).mono ?_
      rintro _ w6 ⟨rfl, hb6⟩
      rw [nv_enc, nv_enc]
      have hH6 := hHs.call hb6
      clear p0 p1 p2 q0 q1 q2
      go_wp2_with fail
      refine (made_any u z (m1 * m2) w6 (by omega) (by omega) hmp (hH6.tab hT)).mono ?_
      rintro _ w7 ⟨ur, zr, dr, rfl, ir, hb7⟩
      rw [HU.out, HA.out] at ir
      have hH7 := hH6.call hb7
      obtain ⟨r0, r1, r2, _, _, _⟩ := row3 (hH7.row 2 rfl)
      clear hHs hH6
      go_wp2_with fail
      have hH8 := hH7.put3 2 rfl (.bool ur) (.string zr) (.string dr)
      refine bodyPost_ret (results_rat rfl _ rfl (hH8.row 2 rfl)) rfl ?_
      exact ⟨_, _, _, rfl, ir, hH8.1⟩

end Go.Proofs.YtnnffjolkgomhaaDoor.ratB
