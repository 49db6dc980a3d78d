/- Walks: rat.zero, rat.Good, rat.fit, rat.made, rat.signed. -/
import Derived.Test.YtnnffjolkgomhaaDoorGrpD
import Derived.Test.YtnnffjolkgomhaaDoorQ
import Derived.Test.YtnnffjolkgomhaaDoorHeld
namespace Go.Proofs.YtnnffjolkgomhaaDoor.ratA
open Go.RowKit num mem natA natB natC natD natE natI seg natN natO q held

theorem zero_any (w : World) : Calls Tryd.prog 175 #[] w fun e w' => e = .returned (.agg #[.bool false, .string ⟨#[]⟩, .string ⟨#[1]⟩]) ∧ Below w.heap.size w w' := by
  go_enter Tryd.func175, Tryd.ntmps175
  go_wp2_with fail
  simp [bodyPost, results, Tryd.results175, go_sem]
  exact (Below.refl _ _).alloc (Nat.le_refl _) _

theorem ne_toList {d : ByteArray} (h : ¬ d = ⟨#[]⟩) : d.toList.isEmpty = false ∧ 0 < d.size := by
  have hs : 0 < d.size := by
    apply Nat.pos_of_ne_zero
    intro h0
    apply h
    apply ba_ext
    exact List.eq_nil_of_length_eq_zero (by rw [ba_length]; exact h0)
  refine ⟨?_, hs⟩
  rw [Lib.toList_data]
  cases e : d.data.toList with
  | nil => have := ba_length d; rw [e] at this; simp at this; omega
  | cons x l => rfl
theorem head_bad {d : ByteArray} (h : 0 < d.size) (h0 : d[0] = 0) : ¬ enc (nv d) = d := by
  intro e
  have h1 := cut_toList d h
  have h2 : d.data.toList = digs (nv d) := by rw [← enc_data, e]
  rw [h2] at h1
  exact digs_head _ _ _ h1 h0
theorem head_test {d : ByteArray} (h : 0 < d.size) (h0 : ¬ d[0] = 0) : (((d[0]).toNat : Int) == 0) = false := by
  have : (d[0]).toNat ≠ 0 := fun e => h0 (UInt8.toNat_inj.1 (by simpa using e))
  simpa using this
theorem pos_of {t : ByteArray} (h : 0 < t.size) (e : enc (nv t) = t) : 0 < nv t := by
  apply Nat.pos_of_ne_zero
  intro h0
  rw [h0, enc_zero] at e
  rw [← e] at h
  exact absurd h (by decide)
theorem enc_one : enc 1 = ⟨#[1]⟩ := by
  have h : nv ⟨#[1]⟩ = 1 := by decide
  rw [← h]
  exact enc_nv_of_nz (by intro c r e; simp at e; rw [← e.1]; decide)
theorem toList_one {d : ByteArray} : d.toList = [1] ↔ d = ⟨#[1]⟩ := by
  rw [Lib.toList_data]
  constructor
  · intro h; exact ba_ext h
  · intro h; rw [h]
theorem one_test {d : ByteArray} : (d.toList == [1]) = decide (d = ⟨#[1]⟩) := by
  by_cases h : d.toList = [1]
  · rw [decide_eq_true (toList_one.1 h), h]; rfl
  · rw [decide_eq_false (fun e => h (toList_one.2 e))]; simpa using h
theorem enc_one_test (g : Nat) : ((enc g).toList == [1]) = decide (g = 1) := by
  rw [one_test, ← enc_one]
  exact decide_eq_decide.2 enc_eq_iff
theorem nv_one : nv ⟨#[1]⟩ = 1 := by decide
theorem nv_none : nv ⟨#[]⟩ = 0 := by decide

theorem Good_any (s : Bool) (a d : ByteArray) (w : World) (ha : a.size ≤ 17592186044416) (hd : d.size ≤ 17592186044416) (hT : Tab w) :
    Calls Tryd.prog 55 #[.agg #[.bool s, .string a, .string d]] w fun e w' => e = .returned (.bool (decide (good s a d))) ∧ Below w.heap.size w w' := by
  have hB : ∀ o, Below w.heap.size w (w.alloc o) := fun o => (Below.refl _ _).alloc (Nat.le_refl _) o
  by_cases hd0 : d = ⟨#[]⟩
  · subst hd0
    have HE := Lib.hid (show false = decide (good s a ⟨#[]⟩) by
      symm; apply decide_eq_false; intro h; have := h.2.2.1; rw [nv_none] at this; omega)
    go_enter Tryd.func55, Tryd.ntmps55
    go_wp2_with fail
    go_ret
    exact ⟨ret_bool HE.out, hB _⟩
  · obtain ⟨hdn, hds⟩ := ne_toList hd0
    by_cases hd1 : d[0] = 0
    · have h1 : (((d[0]).toNat : Int) == 0) = true := by rw [hd1]; rfl
      have HE := Lib.hid (show false = decide (good s a d) by
        symm; apply decide_eq_false; intro h; exact head_bad hds hd1 h.2.1)
      clear hd0 hd1
      go_enter Tryd.func55, Tryd.ntmps55
      go_wp2_with fail
      go_ret
      exact ⟨ret_bool HE.out, hB _⟩
    · have h1 := head_test hds hd1
      have hdc := nv_stop d hds h1
      have hdp := pos_of hds hdc
      have HD := Lib.hid (And.intro hdc hdp)
      clear hd0 hd1 hdc hdp
      by_cases ha0 : a = ⟨#[]⟩
      · subst ha0
        cases s with
        | true =>
          have HE := Lib.hid (show false = decide (good true ⟨#[]⟩ d) by
            symm; apply decide_eq_false; intro h; exact absurd (h.2.2.2.1 nv_none) (by decide))
          go_enter Tryd.func55, Tryd.ntmps55
          go_wp2_with fail
          go_ret
          exact ⟨ret_bool HE.out, hB _⟩
        | false =>
          by_cases ho : d = ⟨#[1]⟩
          · subst ho
            have HE := Lib.hid (show true = decide (good false ⟨#[]⟩ ⟨#[1]⟩) by
              symm; apply decide_eq_true
              exact ⟨by rw [nv_none, enc_zero], by rw [nv_one, enc_one], by rw [nv_one]; omega, fun _ => rfl, by rw [nv_none, nv_one]; rfl⟩)
            go_enter Tryd.func55, Tryd.ntmps55
            go_wp2_with fail
            go_ret
            exact ⟨ret_bool HE.out, hB _⟩
          · have hot : (d.toList == [1]) = false := by rw [one_test]; simpa using ho
            have HE := Lib.hid (show false = decide (good false ⟨#[]⟩ d) by
              symm; apply decide_eq_false; intro h
              have h5 := h.2.2.2.2
              rw [nv_none, Nat.gcd_zero_left] at h5
              apply ho
              rw [← HD.out.1, h5, enc_one])
            clear ho
            go_enter Tryd.func55, Tryd.ntmps55
            go_wp2_with fail
            go_ret
            exact ⟨ret_bool HE.out, hB _⟩
      · obtain ⟨han, has⟩ := ne_toList ha0
        by_cases ha1 : a[0] = 0
        · have h2 : (((a[0]).toNat : Int) == 0) = true := by rw [ha1]; rfl
          have HE := Lib.hid (show false = decide (good s a d) by
            symm; apply decide_eq_false; intro h; exact head_bad has ha1 h.1)
          clear ha0 ha1
          go_enter Tryd.func55, Tryd.ntmps55
          go_wp2_with fail
          go_ret
          exact ⟨ret_bool HE.out, hB _⟩
        · have h2 := head_test has ha1
          have hac := nv_stop a has h2
          have hap := pos_of has hac
          have HA := Lib.hid (And.intro hac hap)
          have hgood : Nat.gcd (nv a) (nv d) = 1 ↔ good s a d := ⟨fun h => ⟨HA.out.1, HD.out.1, HD.out.2, fun h0 => absurd h0 (by have := HA.out.2; omega), h⟩, fun h => h.2.2.2.2⟩
          clear ha0 ha1 hac hap
          by_cases ho : d = ⟨#[1]⟩
          · subst ho
            have HE := Lib.hid (show true = decide (good s a ⟨#[1]⟩) by
              symm; apply decide_eq_true; apply hgood.1; rw [nv_one, Nat.gcd_one_right])
            clear hgood
            go_enter Tryd.func55, Tryd.ntmps55
            go_wp2_with fail
            go_ret
            exact ⟨ret_bool HE.out, hB _⟩
          · have hot : (d.toList == [1]) = false := by rw [one_test]; simpa using ho
            have HE := Lib.hid (show decide (Nat.gcd (nv a) (nv d) = 1) = decide (good s a d) from decide_eq_decide.2 hgood)
            obtain ⟨g, hg⟩ : ∃ g, Nat.gcd (nv a) (nv d) = g := ⟨_, rfl⟩
            have Hg := Lib.hid hg
            have hgt := enc_one_test g
            clear ho hgood hg
            go_enter Tryd.func55, Tryd.ntmps55
            go_wp2_with fail
            refine (Gcd_any a d _ ha hd (hT.below (hB _) (Nat.le_refl _))).mono ?_
            rintro e w2 ⟨rfl, hb2⟩
            rw [Hg.out]
            go_wp2_with fail
            go_ret
            exact ⟨ret_bool (by rw [← HE.out]; exact decide_eq_decide.2 (by rw [Hg.out])), (hB _).trans (hb2.mono (hB _).size)⟩

/-- a function's end: it gives the number q -/
def Gives (q : Rat) (w : World) (e : Ending) (w' : World) : Prop := ∃ u c f, e = .returned (.agg #[.bool u, .string c, .string f]) ∧ Is q u c f ∧ Below w.heap.size w w'
theorem qs_qv (s : Bool) (a d : ByteArray) : qs (qv s a d) ≤ max (max a.size d.size) 1 := by
  unfold qv
  split
  · rename_i h
    refine qs_mkRat (by have := h.2.2.1; omega) ?_ ?_
    · rw [sg_abs]
      exact Nat.lt_of_lt_of_le (nv_lt a) (Nat.pow_le_pow_right (by omega) (by omega))
    · exact Nat.lt_of_lt_of_le (nv_lt d) (Nat.pow_le_pow_right (by omega) (by omega))
  · have h0 : qs 0 ≤ 1 := by rw [qs_le]; decide
    omega
theorem below_set3 {W w : World} {b : Nat} {x y z : Value} (h : Below W.heap.size W w) (hb : W.heap.size ≤ b) : Below W.heap.size W (((w.setCell ⟨b, 0, none⟩ x).setCell ⟨b, 1, none⟩ y).setCell ⟨b, 2, none⟩ z) :=
  ((h.setCell hb _).setCell hb _).setCell hb _

theorem fit_any (s : Bool) (a d : ByteArray) (w : World) (ha : a.size ≤ 17592186044416) (hd : d.size ≤ 17592186044416) (hT : Tab w) :
    Calls Tryd.prog 134 #[.agg #[.bool s, .string a, .string d]] w fun e w' => Gives (qv s a d) w e w' := by
  have hB : ∀ o o', Below w.heap.size w ((w.alloc o).alloc o') := fun o o' => ((Below.refl _ _).alloc (Nat.le_refl _) o).alloc (by simp) o'
  have rA : Row ((w.alloc (.cells #[.bool s, .string a, .string d] 23)).alloc (.cells #[.bool false, .string ⟨#[]⟩, .string ⟨#[]⟩] 23)) w.heap.size 23 [.bool s, .string a, .string d] := (Row.alloc_new w 23 [.bool s, .string a, .string d]).alloc _
  have rR : Row ((w.alloc (.cells #[.bool s, .string a, .string d] 23)).alloc (.cells #[.bool false, .string ⟨#[]⟩, .string ⟨#[]⟩] 23)) (w.heap.size + 1) 23 [.bool false, .string ⟨#[]⟩, .string ⟨#[]⟩] := by
    have := Row.alloc_new (w.alloc (.cells #[.bool s, .string a, .string d] 23)) 23 [.bool false, .string ⟨#[]⟩, .string ⟨#[]⟩]
    simpa using this
  by_cases hg : good s a d
  · have HG := Lib.hid hg
    have hdg : decide (good s a d) = true := by simpa using hg
    clear hg
    go_enter Tryd.func134, Tryd.ntmps134
    go_wp2_with fail
    refine (Good_any s a d _ ha hd (hT.below (hB _ _) (Nat.le_refl _))).mono ?_
    rintro e w2 ⟨rfl, hb2⟩
    rw [hdg]
    obtain ⟨a0, a1, a2, _, _, _⟩ := row3 (rA.below hb2 rA.lt)
    obtain ⟨r0, r1, r2, f0, f1, f2⟩ := row3 (rR.below hb2 rR.lt)
    have hB2 := (hB _ _).trans (hb2.mono (hB _ _).size)
    clear rA rR hB hb2
    go_wp2_with fail
    simp [bodyPost, results, Tryd.results134, go_sem, r0, r1, r2]

    exact ⟨_, _, _, rfl, is_of_good HG.out, below_set3 hB2 (by omega)⟩
  · have HG := Lib.hid (show qv s a d = 0 by unfold qv; rw [if_neg hg])
    have hdg : decide (good s a d) = false := by simpa using hg
    clear hg
    go_enter Tryd.func134, Tryd.ntmps134
    go_wp2_with fail
    refine (Good_any s a d _ ha hd (hT.below (hB _ _) (Nat.le_refl _))).mono ?_
    rintro e w2 ⟨rfl, hb2⟩
    rw [hdg]
    go_wp2_with fail
    refine (zero_any _).mono ?_
    rintro e w3 ⟨rfl, hb3⟩
    have rR3 := (rR.below hb2 rR.lt).below hb3 (rR.below hb2 rR.lt).lt
    obtain ⟨r0, r1, r2, f0, f1, f2⟩ := row3 rR3
    have hB2 := (hB _ _).trans (hb2.mono (hB _ _).size)
    have hB3 := hB2.trans (hb3.mono hB2.size)
    clear rA rR rR3 hB hb2 hb3 hB2
    go_wp2_with fail
    simp [bodyPost, results, Tryd.results134, go_sem, r0, r1, r2]
    exact ⟨_, _, _, rfl, by rw [HG.out]; exact is_zero, below_set3 hB3 (by omega)⟩

/-- what made gives -/
theorem mk_is {s : Bool} {n d : Nat} (hn : 0 < n) (hd : 0 < d) : Is (mkRat (sg s n) d) s (enc (n / Nat.gcd n d)) (enc (d / Nat.gcd n d)) := by
  have hg : 0 < Nat.gcd n d := Nat.gcd_pos_of_pos_left _ hn
  have h1 : (mkRat (sg s n) d).den = d / Nat.gcd n d := by
    rw [Rat.den_mkRat, if_neg (by omega), sg_abs, Nat.gcd_comm]
  have h2 : (mkRat (sg s n) d).num = sg s (n / Nat.gcd n d) := by
    rw [Rat.num_mkRat, if_neg (by omega), sg_abs, Nat.gcd_comm]
    unfold sg
    cases s with
    | false => simp
    | true =>
      have : ((Nat.gcd n d : Nat) : Int) ∣ (n : Int) := Int.ofNat_dvd.2 (Nat.gcd_dvd_left n d)
      simp [Int.neg_ediv_of_dvd this]
  have h3 : 0 < n / Nat.gcd n d := Nat.div_pos (Nat.le_of_dvd hn (Nat.gcd_dvd_left n d)) hg
  refine ⟨?_, ?_, ?_⟩
  · rw [h2]
    unfold sg
    generalize n / Nat.gcd n d = k at h3
    cases s with
    | false => simp
    | true => simp; omega
  · rw [h2, sg_abs]
  · rw [h1]

theorem made_any (s : Bool) (n d : Nat) (w : World) (hn : (enc n).size ≤ 17592186044416) (hd : (enc d).size ≤ 17592186044416) (hd0 : 0 < d) (hT : Tab w) :
    Calls Tryd.prog 138 #[.bool s, .string (enc n), .string (enc d)] w fun e w' => Gives (mkRat (sg s n) d) w e w' := by
  have hB : ∀ o, Below w.heap.size w (w.alloc o) := fun o => (Below.refl _ _).alloc (Nat.le_refl _) o
  have rR : Row (w.alloc (.cells #[.bool false, .string ⟨#[]⟩, .string ⟨#[]⟩] 23)) w.heap.size 23 [.bool false, .string ⟨#[]⟩, .string ⟨#[]⟩] := Row.alloc_new w 23 [.bool false, .string ⟨#[]⟩, .string ⟨#[]⟩]
  by_cases hn0 : n = 0
  · subst hn0
    rw [enc_zero]
    have HQ := Lib.hid (show mkRat (sg s 0) d = 0 by unfold sg; simp)
    go_enter Tryd.func138, Tryd.ntmps138
    go_wp2_with fail
    refine (zero_any _).mono ?_
    rintro e w3 ⟨rfl, hb3⟩
    obtain ⟨r0, r1, r2, f0, f1, f2⟩ := row3 (rR.below hb3 rR.lt)
    have hB3 := (hB _).trans (hb3.mono (hB _).size)
    clear rR hB hb3
    go_wp2_with fail
    simp [bodyPost, results, Tryd.results138, go_sem, r0, r1, r2]
    exact ⟨_, _, _, rfl, by rw [HQ.out]; exact is_zero, below_set3 hB3 (by omega)⟩
  · have hne := enc_ne (show 0 < n by omega)
    have hdt := enc_one_test d
    have Hn0 := Lib.hid (show 0 < n by omega)
    have Hd0 := Lib.hid hd0
    clear hn0
    by_cases hd1 : d = 1
    · subst hd1
      have HI := Lib.hid (mk_is (s := s) Hn0.out (show 0 < 1 by omega))
      go_enter Tryd.func138, Tryd.ntmps138
      go_wp2_with fail
      simp [bodyPost, results, Tryd.results138, go_sem]
      exact ⟨_, _, _, rfl, by have := HI.out; rw [Nat.gcd_one_right, Nat.div_one, Nat.div_one] at this; exact this, hB _⟩
    · have hdt1 : decide (d = 1) = false := by simpa using hd1
      rw [hdt1] at hdt
      obtain ⟨g, hg⟩ : ∃ g, Nat.gcd n d = g := ⟨_, rfl⟩
      have hI := mk_is (s := s) Hn0.out Hd0.out
      rw [hg] at hI
      have HI := Lib.hid hI
      have Hg := Lib.hid hg
      have hgp : 0 < g := by rw [← hg]; exact Nat.gcd_pos_of_pos_left _ Hn0.out
      have hgt := enc_one_test g
      have Hgn := Lib.hid (show g ≤ n by rw [← hg]; exact Nat.gcd_le_left _ Hn0.out)
      clear hg hI hd1 hdt1
      by_cases hg1 : g = 1
      · subst hg1
        go_enter Tryd.func138, Tryd.ntmps138
        go_wp2_with fail
        refine (Gcd_any (enc n) (enc d) _ hn hd (hT.below (hB _) (Nat.le_refl _))).mono ?_
        rintro e w3 ⟨rfl, hb3⟩
        rw [nv_enc, nv_enc, Hg.out]
        obtain ⟨r0, r1, r2, f0, f1, f2⟩ := row3 (rR.below hb3 rR.lt)
        have hB3 := (hB _).trans (hb3.mono (hB _).size)
        clear rR hB hb3
        go_wp2_with fail
        simp [bodyPost, results, Tryd.results138, go_sem, r0, r1, r2]
        exact ⟨_, _, _, rfl, by have := HI.out; rw [Nat.div_one, Nat.div_one] at this; exact this, below_set3 hB3 (by omega)⟩
      · have hgt1 : decide (g = 1) = false := by simpa using hg1
        rw [hgt1] at hgt
        clear hg1 hgt1
        have hgs : (enc g).size ≤ 17592186044416 := Nat.le_trans (enc_mono Hgn.out) hn
        go_enter Tryd.func138, Tryd.ntmps138
        go_wp2_with fail
        refine (Gcd_any (enc n) (enc d) _ hn hd (hT.below (hB _) (Nat.le_refl _))).mono ?_
        rintro e w3 ⟨rfl, hb3⟩
        rw [nv_enc, nv_enc, Hg.out]
        have rR3 := rR.below hb3 rR.lt
        have hB3 := (hB _).trans (hb3.mono (hB _).size)
        go_wp2_with fail
        refine (Div_any (enc n) (enc g) _ (by omega) (by omega) (by rw [nv_enc]; exact hgp)).mono ?_
        rintro e w4 ⟨rfl, hb4⟩
        rw [nv_enc, nv_enc]
        have rR4 := rR3.below hb4 rR3.lt
        have hB4 := hB3.trans (hb4.mono hB3.size)
        go_wp2_with fail
        refine (Div_any (enc d) (enc g) _ (by omega) (by omega) (by rw [nv_enc]; exact hgp)).mono ?_
        rintro e w5 ⟨rfl, hb5⟩
        rw [nv_enc, nv_enc]
        have rR5 := rR4.below hb5 rR4.lt
        have hB5 := hB4.trans (hb5.mono hB4.size)
        obtain ⟨r0, r1, r2, f0, f1, f2⟩ := row3 rR5
        clear rR rR3 rR4 rR5 hB hB3 hB4 hb3 hb4 hb5
        go_wp2_with fail
        simp [bodyPost, results, Tryd.results138, go_sem, r0, r1, r2]
        exact ⟨_, _, _, rfl, HI.out, below_set3 hB5 (by omega)⟩

theorem ret_bs {a b : Bool} {c d : ByteArray} (h : a = b) (h' : c = d) : Ending.returned (.tuple #[.bool a, .string c]) = .returned (.tuple #[.bool b, .string d]) := by rw [h, h']
theorem signed_any (s t : Bool) (x y : Nat) (w : World) (hx : (enc x).size ≤ 70368744177663) (hy : (enc y).size ≤ 70368744177663) :
    Calls Tryd.prog 137 #[.bool s, .string (enc x), .bool t, .string (enc y)] w fun e w' => ∃ (u : Bool) (z : Nat), e = .returned (.tuple #[.bool u, .string (enc z)]) ∧ sg u z = sg s x + sg t y ∧ Below w.heap.size w w' := by
  by_cases hst : s = t
  · subst hst
    go_enter Tryd.func137, Tryd.ntmps137
    go_wp2_with fail
    refine (Add_any (enc x) (enc y) _ hx hy).mono ?_
    rintro e w1 ⟨rfl, hb1⟩
    rw [nv_enc, nv_enc]
    go_wp2_with fail
    go_ret2
    refine ⟨_, _, ret_bs rfl rfl, ?_, hb1⟩
    cases s <;> simp [sg] <;> omega
  · have hne : (s == t) = false := by simpa using hst
    by_cases hlt : x < y
    · have HE := Lib.hid (show subE x y = 1 by unfold subE; rw [if_pos hlt])
      have HE2 := Lib.hid (show subE y x = 0 by unfold subE; rw [if_neg (by omega)])
      have Hlt := Lib.hid hlt
      clear hlt
      go_enter Tryd.func137, Tryd.ntmps137
      go_wp2_with fail
      refine (Sub_any (enc x) (enc y) _ (by omega) (by omega)).mono ?_
      rintro e w1 ⟨rfl, hb1⟩
      rw [nv_enc, nv_enc, HE.out]
      go_wp2_with fail
      refine (Sub_any (enc y) (enc x) _ (by omega) (by omega)).mono ?_
      rintro e w2 ⟨rfl, hb2⟩
      rw [nv_enc, nv_enc, HE2.out]
      go_wp2_with fail
      go_ret2
      refine ⟨_, _, ret_bs rfl rfl, ?_, hb1.trans (hb2.mono hb1.size)⟩
      have := Hlt.out
      cases s <;> cases t <;> simp_all [sg] <;> omega
    · have HE := Lib.hid (show subE x y = 0 by unfold subE; rw [if_neg hlt])
      have Hlt := Lib.hid hlt
      clear hlt
      go_enter Tryd.func137, Tryd.ntmps137
      go_wp2_with fail
      refine (Sub_any (enc x) (enc y) _ (by omega) (by omega)).mono ?_
      rintro e w1 ⟨rfl, hb1⟩
      rw [nv_enc, nv_enc, HE.out]
      go_wp2_with fail
      go_ret2
      refine ⟨_, _, ret_bs rfl rfl, ?_, hb1⟩
      have := Hlt.out
      cases s <;> cases t <;> simp_all [sg] <;> omega

end Go.Proofs.YtnnffjolkgomhaaDoor.ratA
