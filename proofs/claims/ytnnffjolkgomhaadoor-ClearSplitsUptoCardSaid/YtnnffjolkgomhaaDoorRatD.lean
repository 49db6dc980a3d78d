/- Walks: rat.Cmp, rat.Neg, rat.Of. -/
import Derived.Test.YtnnffjolkgomhaaDoorRatC
namespace Go.Proofs.YtnnffjolkgomhaaDoor.ratD
open Go.RowKit num mem natA natB natC natD natE natI seg natM natN natO q ratA held ratB ratC

/-- Cmp's answer -/
def cmpQ (p q : Rat) : Int := if p < q then -1 else if q < p then 1 else 0
theorem cmp_signs {p q : Rat} {u1 u2 : Bool} (h1 : u1 = decide (p.num < 0)) (h2 : u2 = decide (q.num < 0)) (hne : ¬ u1 = u2) : cmpQ p q = if u1 then -1 else 1 := by
  have d1 : (0 : Int) < (p.den : Int) := by have := p.den_nz; omega
  have d2 : (0 : Int) < (q.den : Int) := by have := q.den_nz; omega
  have key : ∀ x y : Rat, (0 : Int) < (x.den : Int) → (0 : Int) < (y.den : Int) → x.num < 0 → ¬ y.num < 0 → x < y := by
    intro x y hx hy h h'
    rw [Rat.lt_iff]
    have e1 := Int.mul_neg_of_neg_of_pos h hy
    have e2 := Int.mul_nonneg (Int.not_lt.1 h') (Int.le_of_lt hx)
    omega
  unfold cmpQ
  cases hu : u1 with
  | true =>
    have a1 : p.num < 0 := by rw [hu] at h1; simpa using h1.symm
    have a2 : ¬ q.num < 0 := by
      intro h
      apply hne
      rw [h1, h2, decide_eq_true a1, decide_eq_true h]
    rw [if_pos (key p q d1 d2 a1 a2)]
    rfl
  | false =>
    have a1 : ¬ p.num < 0 := by rw [hu] at h1; simpa using h1.symm
    have a2 : q.num < 0 := by
      apply Decidable.byContradiction
      intro h
      apply hne
      rw [h1, h2, decide_eq_false a1, decide_eq_false h]
    have hlt := key q p d2 d1 a2 a1
    rw [if_neg (Rat.not_lt.2 (Rat.le_of_lt hlt)), if_pos hlt]
    rfl
theorem cmp_parts {p q : Rat} {u : Bool} {n1 m1 n2 m2 : Nat} (h1 : sg u n1 = p.num) (h2 : m1 = p.den) (h3 : sg u n2 = q.num) (h4 : m2 = q.den) : cmpQ p q = if u then -cmpN (n1 * m2) (n2 * m1) else cmpN (n1 * m2) (n2 * m1) := by
  have e : ∀ x y : Nat, (sg u x < sg u y ↔ if u then y < x else x < y) := by
    intro x y
    unfold sg
    cases u <;> simp <;> omega
  have l1 : p < q ↔ sg u (n1 * m2) < sg u (n2 * m1) := by rw [Rat.lt_iff, sg_mul, sg_mul, h1, h2, h3, h4]
  have l2 : q < p ↔ sg u (n2 * m1) < sg u (n1 * m2) := by rw [Rat.lt_iff, sg_mul, sg_mul, h1, h2, h3, h4]
  rw [e] at l1 l2
  unfold cmpQ cmpN
  generalize n1 * m2 = x at *
  generalize n2 * m1 = y at *
  cases u with
  | true =>
    simp only [if_true] at l1 l2 ⊢
    by_cases a : y < x
    · rw [if_pos (l1.2 a), if_neg (by omega), if_pos a]
    · rw [if_neg (fun h => a (l1.1 h))]
      by_cases b : x < y
      · rw [if_pos (l2.2 b), if_pos b]; rfl
      · rw [if_neg (fun h => b (l2.1 h)), if_neg b, if_neg a]; rfl
  | false =>
    simp only [Bool.false_eq_true, if_false] at l1 l2 ⊢
    by_cases a : x < y
    · rw [if_pos (l1.2 a), if_pos a]
    · rw [if_neg (fun h => a (l1.1 h)), if_neg a]
      by_cases b : y < x
      · rw [if_pos (l2.2 b), if_pos b]
      · rw [if_neg (fun h => b (l2.1 h)), if_neg b]
theorem cmpN_range (x y : Nat) : -1 ≤ cmpN x y ∧ cmpN x y ≤ 1 := by
  unfold cmpN
  split
  · omega
  · split <;> omega

set_option maxHeartbeats 4000000 in
set_option maxRecDepth 100000 in
theorem rCmp_any (s : Bool) (a d : ByteArray) (t : Bool) (c e : ByteArray) (w : World) (ha : a.size ≤ 4398046511104) (hd : d.size ≤ 4398046511104) (hc : c.size ≤ 4398046511104) (he : e.size ≤ 4398046511104) (hT : Tab w) :
    Calls Tryd.prog 44 #[.agg #[.bool s, .string a, .string d], .agg #[.bool t, .string c, .string e]] w fun x w' => x = .returned (.int .i64 (cmpQ (qv s a d) (qv t c e))) ∧ Below w.heap.size w w' := by
  have z1 := qs_qv s a d
  have z2 := qs_qv t c e
  obtain ⟨p, hp⟩ : ∃ p, qv s a d = p := ⟨_, rfl⟩
  obtain ⟨q, hq⟩ : ∃ q, qv t c e = q := ⟨_, rfl⟩
  rw [hp] at z1 ⊢
  rw [hq] at z2 ⊢
  have HP := Lib.hid hp
  have HQ := Lib.hid hq
  clear hp hq
  go_enter Tryd.func44, Tryd.ntmps44
  go_upto_region 1 with fail
  have hH := Held.start2 w 23 23 [.bool s, .string a, .string d] [.bool t, .string c, .string e]
  obtain ⟨W, hW⟩ : ∃ W, W = ((w.alloc (.cells #[.bool s, .string a, .string d] 23)).alloc (.cells #[.bool t, .string c, .string e] 23)) := ⟨_, rfl⟩
  rw [← hW] at hH ⊢
  clear hW
  go_cut [2, 3] (fun s2 s3 wx => s2 = .pointer (some ⟨w.heap.size, 0, none⟩) ∧ s3 = .pointer (some ⟨w.heap.size + 1, 0, none⟩) ∧ ∃ u1 a1 d1 u2 a2 d2, Is p u1 a1 d1 ∧ Is q u2 a2 d2 ∧ Held w [(23, [.bool u1, .string a1, .string d1]), (23, [.bool u2, .string a2, .string d2])] wx)
  case first =>
    have hH0 := hH.drew
    obtain ⟨p0, p1, p2, _, _, _⟩ := row3 (hH0.row0 rfl)
    obtain ⟨q0, q1, q2, _, _, _⟩ := row3 (hH0.row 1 rfl)
    have hT0 := hH0.tab hT
    have ha' : a.size ≤ 17592186044416 := by omega
    have hd' : d.size ≤ 17592186044416 := by omega
    have hc' : c.size ≤ 17592186044416 := by omega
    have he' : e.size ≤ 17592186044416 := by omega
    go_region_with (first
      | (go_at_call_of 134 (Value.string a); refine (fit_any s a d _ ha' hd' ?_).mono ?_; (first | exact hTb | exact hT0); rintro _ wa ⟨ua, ca, fa, rfl, ia, hba⟩; rw [HP.out] at ia; (first | have hHa := hHb.call hba | have hHa := hH0.call hba); (have hTa := hHa.tab hT); (obtain ⟨p0, p1, p2, _, _, _⟩ := row3 (hHa.row0 rfl)); (obtain ⟨q0, q1, q2, _, _, _⟩ := row3 (hHa.row 1 rfl)))
      | (go_at_call_of 134 (Value.string c); refine (fit_any t c e _ hc' he' ?_).mono ?_; (first | exact hTa | exact hT0); rintro _ wb ⟨ub, cb, fb, rfl, ib, hbb⟩; rw [HQ.out] at ib; (first | have hHb := hHa.call hbb | have hHb := hH0.call hbb); (have hTb := hHb.tab hT); (obtain ⟨p0, p1, p2, _, _, _⟩ := row3 (hHb.row0 rfl)); (obtain ⟨q0, q1, q2, _, _, _⟩ := row3 (hHb.row 1 rfl))))
    all_goals
      go_wp2_with fail
      go_meet
      first
        | exact ⟨rfl, rfl, _, _, _, _, _, _, ia, ib, (hHb.put3_0 rfl _ _ _).put3 1 rfl _ _ _⟩
        | exact ⟨rfl, rfl, _, _, _, _, _, _, ia, ib, (hHa.put3_0 rfl _ _ _).put3 1 rfl _ _ _⟩
  case rest =>
    obtain ⟨rfl, rfl, u1, a1, d1, u2, a2, d2, i1, i2, hH⟩ := hcut
    have s1 := i1.sz
    have s2 := i2.sz
    obtain ⟨n1, m1, rfl, rfl, hn1, hm1, hm1p, hx1⟩ := i1.parts
    obtain ⟨n2, m2, rfl, rfl, hn2, hm2, hm2p, hx2⟩ := i2.parts
    have sn1 : (enc n1).size ≤ 4398046511105 := by omega
    have sm1 : (enc m1).size ≤ 4398046511105 := by omega
    have sn2 : (enc n2).size ≤ 4398046511105 := by omega
    have sm2 : (enc m2).size ≤ 4398046511105 := by omega
    have I1 := Lib.hid i1
    have I2 := Lib.hid i2
    have H1 := Lib.hid (And.intro hn1 (And.intro hm1 hm1p))
    have H2 := Lib.hid (And.intro hn2 (And.intro hm2 hm2p))
    clear i1 i2 z1 z2 s1 s2 hn1 hm1 hm1p hn2 hm2 hm2p hx1 hx2 ha hd hc he
    obtain ⟨p0, p1, p2, _, _, _⟩ := row3 (hH.row0 rfl)
    obtain ⟨q0, q1, q2, _, _, _⟩ := row3 (hH.row 1 rfl)
    have P0 : ∀ w', Held w [(23, [.bool u1, .string (enc n1), .string (enc m1)]), (23, [.bool u2, .string (enc n2), .string (enc m2)])] w' →
        Held w [(23, [.bool u1, .string (enc n1), .string (enc m1)]), (23, [.bool u2, .string (enc n2), .string (enc m2)])] w' ∧ w'.cell? ⟨w.heap.size, 0, none⟩ = some (.bool u1) ∧ w'.cell? ⟨w.heap.size, 1, none⟩ = some (.string (enc n1)) ∧ w'.cell? ⟨w.heap.size, 2, none⟩ = some (.string (enc m1)) ∧
        w'.cell? ⟨w.heap.size + 1, 0, none⟩ = some (.bool u2) ∧ w'.cell? ⟨w.heap.size + 1, 1, none⟩ = some (.string (enc n2)) ∧ w'.cell? ⟨w.heap.size + 1, 2, none⟩ = some (.string (enc m2)) := fun w' h => by
      obtain ⟨a0, a1, a2, _⟩ := row3 (h.row0 rfl)
      obtain ⟨b0, b1, b2, _⟩ := row3 (h.row 1 rfl)
      exact ⟨h, a0, a1, a2, b0, b1, b2⟩
    by_cases hu : u1 = u2
    · subst hu
      have HC := Lib.hid (cmp_parts H1.out.1 H1.out.2.1 H2.out.1 H2.out.2.1)
      have hsz : (enc (n1 * m2)).size ≤ 8796093022210 := enc_mul_le sn1 sm2
      have hsz2 : (enc (n2 * m1)).size ≤ 8796093022210 := enc_mul_le sn2 sm1
      obtain ⟨k, hk⟩ : ∃ k, cmpN (n1 * m2) (n2 * m1) = k := ⟨_, rfl⟩
      have hkr := cmpN_range (n1 * m2) (n2 * m1)
      rw [hk] at hkr
      have HK := Lib.hid hk
      obtain ⟨hk1, hk2⟩ := hkr
      clear hk
      go_wp2_with fail
      clear p0 p1 p2 q0 q1 q2
      go_region_held3 (fun w' => Held w [(23, [.bool u1, .string (enc n1), .string (enc m1)]), (23, [.bool u1, .string (enc n2), .string (enc m2)])] w' ∧ w'.cell? ⟨w.heap.size, 0, none⟩ = some (.bool u1) ∧ w'.cell? ⟨w.heap.size, 1, none⟩ = some (.string (enc n1)) ∧ w'.cell? ⟨w.heap.size, 2, none⟩ = some (.string (enc m1)) ∧
          w'.cell? ⟨w.heap.size + 1, 0, none⟩ = some (.bool u1) ∧ w'.cell? ⟨w.heap.size + 1, 1, none⟩ = some (.string (enc n2)) ∧ w'.cell? ⟨w.heap.size + 1, 2, none⟩ = some (.string (enc m2)))
        (first | exact P0 _ hH.drew | exact P0 _ hHa | exact P0 _ hHb)
        (first
          | (go_at_call_of 136 (Value.string (enc n1)); refine (Mul_any (enc n1) (enc m2) _ (by omega) (by omega)).mono ?_; rintro _ wa ⟨rfl, hba⟩; rw [nv_enc, nv_enc]; (first | have hHa := hHb.call hba | have hHa := hH.drew.call hba))
          | (go_at_call_of 136 (Value.string (enc n2)); refine (Mul_any (enc n2) (enc m1) _ (by omega) (by omega)).mono ?_; rintro _ wb ⟨rfl, hbb⟩; rw [nv_enc, nv_enc]; (first | have hHb := hHa.call hbb | have hHb := hH.drew.call hbb))
          | (go_at_call 135; refine (Cmp_any _ _ _).mono ?_; rintro _ wc ⟨rfl, rfl⟩; rw [nv_enc, nv_enc, HK.out]))
      obtain ⟨p0, p1, p2, _, _, _⟩ := row3 (hHb.row0 rfl)
      clear hHa hH P0
      cases u1 with
      | true =>
        have HC2 := Lib.hid (show cmpQ p q = -k by rw [HC.out, if_pos rfl, HK.out])
        go_wp2_with fail
        go_ret
        exact ⟨ret_int HC2.out.symm, hHb.1⟩
      | false =>
        have HC2 := Lib.hid (show cmpQ p q = k by rw [HC.out, if_neg (by decide), HK.out])
        go_wp2_with fail
        go_ret
        exact ⟨ret_int HC2.out.symm, hHb.1⟩
    · have HC := Lib.hid (cmp_signs I1.out.1 I2.out.1 hu)
      have hut : (u1 == u2) = false := by simpa using hu
      have Hu := Lib.hid hu
      cases u1 with
      | true =>
        obtain rfl : u2 = false := by cases u2 with | true => exact absurd rfl hu | false => rfl
        clear hu
        go_wp2_with fail
        go_ret
        exact ⟨ret_int HC.out.symm, hH.1⟩
      | false =>
        obtain rfl : u2 = true := by cases u2 with | true => rfl | false => exact absurd rfl hu
        clear hu
        go_wp2_with fail
        go_ret
        exact ⟨ret_int HC.out.symm, hH.1⟩

theorem is_neg {p : Rat} {u : Bool} {n m : Nat} (h : Is p u (enc n) (enc m)) : Is (-p) (if n = 0 then false else !u) (enc n) (enc m) := by
  obtain ⟨h1, h2, h3⟩ := h
  have hn : n = p.num.natAbs := enc_inj h2
  refine ⟨?_, ?_, ?_⟩
  · rw [Rat.neg_num]
    by_cases h0 : n = 0
    · rw [if_pos h0]; symm; apply decide_eq_false; omega
    · rw [if_neg h0, h1]
      by_cases hp : p.num < 0
      · rw [decide_eq_true hp, decide_eq_false (by omega)]; rfl
      · rw [decide_eq_false hp, decide_eq_true (by omega)]; rfl
  · rw [Rat.neg_num, Int.natAbs_neg, ← hn]
  · rw [Rat.neg_den]; exact h3

set_option maxHeartbeats 4000000 in
set_option maxRecDepth 100000 in
theorem rNeg_any (s : Bool) (a d : ByteArray) (w : World) (ha : a.size ≤ 17592186044416) (hd : d.size ≤ 17592186044416) (hT : Tab w) :
    Calls Tryd.prog 42 #[.agg #[.bool s, .string a, .string d]] w fun x w' => Gives (-qv s a d) w x w' := by
  have hH := Held.start2 w 23 23 [.bool s, .string a, .string d] [.bool false, .string ⟨#[]⟩, .string ⟨#[]⟩]
  go_enter Tryd.func42, Tryd.ntmps42
  go_wp2_with fail
  refine (fit_any s a d _ ha hd (hH.tab hT)).mono ?_
  rintro _ w1 ⟨u, c, f, rfl, i1, hb1⟩
  have hH1 := hH.call hb1
  obtain ⟨p0, p1, p2, f0, f1, f2⟩ := row3 (hH1.row0 rfl)
  obtain ⟨r0, r1, r2, g0, g1, g2⟩ := row3 (hH1.row 1 rfl)
  obtain ⟨n, m, rfl, rfl, hn, hm, hmp, hx⟩ := i1.parts
  have hH2 := hH1.put3_0 rfl (.bool u) (.string (enc n)) (.string (enc m))
  have HI := Lib.hid (is_neg i1)
  clear hH hn hm hmp hx i1 hb1
  by_cases h0 : n = 0
  · subst h0
    have HI2 := Lib.hid (show Is (-qv s a d) false (enc 0) (enc m) by simpa using HI.out)
    rw [enc_zero] at hH2 HI2 ⊢
    have hH3 := (hH2.set 0 0 rfl (.bool false)).put3 1 rfl (.bool false) (.string ⟨#[]⟩) (.string (enc m))
    cases u with
    | true =>
      go_wp2_with fail
      refine bodyPost_ret (results_rat rfl _ rfl (hH3.row 1 rfl)) rfl ?_
      exact ⟨_, _, _, rfl, HI2.out, hH3.1⟩
    | false =>
      go_wp2_with fail
      refine bodyPost_ret (results_rat rfl _ rfl (hH3.row 1 rfl)) rfl ?_
      exact ⟨_, _, _, rfl, HI2.out, hH3.1⟩
  · have HI2 := Lib.hid (show Is (-qv s a d) (!u) (enc n) (enc m) by have := HI.out; rwa [if_neg h0] at this)
    have hne := enc_ne (show 0 < n by omega)
    have hH3 := (hH2.set 0 0 rfl (.bool (!u))).put3 1 rfl (.bool (!u)) (.string (enc n)) (.string (enc m))
    clear h0
    cases u with
    | true =>
      go_wp2_with fail
      refine bodyPost_ret (results_rat rfl _ rfl (hH3.row 1 rfl)) rfl ?_
      exact ⟨_, _, _, rfl, HI2.out, hH3.1⟩
    | false =>
      go_wp2_with fail
      refine bodyPost_ret (results_rat rfl _ rfl (hH3.row 1 rfl)) rfl ?_
      exact ⟨_, _, _, rfl, HI2.out, hH3.1⟩

theorem of_rat (n : Int) : mkRat n 1 = (n : Rat) := by
  rw [← Rat.mkRat_self (n : Rat), Rat.num_intCast, Rat.den_intCast]
theorem rOf_any (n : Int) (w : World) (h1 : -9223372036854775808 ≤ n) (h2 : n ≤ 9223372036854775807) (hT : Tab w) :
    Calls Tryd.prog 110 #[.int .i64 n] w fun x w' => Gives (n : Rat) w x w' := by
  have hH := Held.start1 w 23 [.bool false, .string ⟨#[]⟩, .string ⟨#[]⟩]
  have one : ∀ (s : Bool) (k : Nat) (w : World) (hk : k ≤ 9223372036854775808) (hT : Tab w), Calls Tryd.prog 138 #[.bool s, .string (enc k), .string ⟨#[1]⟩] w fun e w' => Gives (mkRat (sg s k) 1) w e w' := by
    intro s k w hk hT
    have hks : (enc k).size ≤ 8 := enc_size_le.2 (Nat.lt_of_le_of_lt hk (by decide))
    have := made_any s k 1 w (by omega) (Nat.le_trans (enc_size_le.2 (by decide : 1 < 256 ^ 1)) (by omega)) (by omega) hT
    rwa [enc_one] at this
  by_cases h0 : 0 ≤ n
  · obtain ⟨k, rfl⟩ : ∃ k : Nat, n = k := ⟨n.toNat, by omega⟩
    have HQ := Lib.hid (show mkRat (sg false k) 1 = ((k : Int) : Rat) from of_rat k)
    go_enter Tryd.func110, Tryd.ntmps110
    go_wp2_with fail
    refine (Of_any k _ h2).mono ?_
    rintro _ w1 ⟨rfl, hb1⟩
    rw [Int.toNat_natCast]
    have hH1 := hH.call hb1
    go_wp2_with fail
    refine (one false k w1 (by omega) (hH1.tab hT)).mono ?_
    rintro _ w2 ⟨u, c, f, rfl, i2, hb2⟩
    rw [HQ.out] at i2
    have hH2 := hH1.call hb2
    obtain ⟨r0, r1, r2, g0, g1, g2⟩ := row3 (hH2.row0 rfl)
    go_wp2_with fail
    have hH3 := hH2.put3_0 rfl (.bool u) (.string c) (.string f)
    refine bodyPost_ret (results_rat rfl _ rfl (hH3.row0 rfl)) rfl ?_
    exact ⟨_, _, _, rfl, i2, hH3.1⟩
  · obtain ⟨k, hk⟩ : ∃ k : Nat, -(n + 1) = (k : Int) := ⟨(-(n + 1)).toNat, by omega⟩
    have hkl : k ≤ 9223372036854775807 := by omega
    have HQ := Lib.hid (show mkRat (sg true (k + 1)) 1 = (n : Rat) by rw [← of_rat n]; congr 1; unfold sg; simp; omega)
    go_enter Tryd.func110, Tryd.ntmps110
    go_wp2_with fail
    refine (Of_any k _ (by omega)).mono ?_
    rintro _ w1 ⟨rfl, hb1⟩
    rw [Int.toNat_natCast]
    have hH1 := hH.call hb1
    have hks : (enc k).size ≤ 8 := enc_size_le.2 (Nat.lt_of_le_of_lt hkl (by decide))
    go_wp2_with fail
    refine (natD.Add_any (enc k) ⟨#[1]⟩ w1 (by omega) (by decide)).mono ?_
    rintro _ w2 ⟨rfl, hb2⟩
    rw [nv_enc, nv_one]
    have hH2 := hH1.call hb2
    go_wp2_with fail
    refine (one true (k + 1) w2 (by omega) (hH2.tab hT)).mono ?_
    rintro _ w3 ⟨u, c, f, rfl, i3, hb3⟩
    rw [HQ.out] at i3
    have hH3 := hH2.call hb3
    obtain ⟨r0, r1, r2, g0, g1, g2⟩ := row3 (hH3.row0 rfl)
    go_wp2_with fail
    have hH4 := hH3.put3_0 rfl (.bool u) (.string c) (.string f)
    refine bodyPost_ret (results_rat rfl _ rfl (hH4.row0 rfl)) rfl ?_
    exact ⟨_, _, _, rfl, i3, hH4.1⟩

end Go.Proofs.YtnnffjolkgomhaaDoor.ratD
