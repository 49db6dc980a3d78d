/- Walk: nat.halves. -/
import Derived.Test.YtnnffjolkgomhaaDoorNatM
import Derived.Test.YtnnffjolkgomhaaDoorNatI
namespace Go.Proofs.YtnnffjolkgomhaaDoor.natN
open Go.RowKit num mem natA natB natC natD natE seg natL natM

theorem gcd_lt {x y B : Nat} (hx : x < B) (hy : y < B) : Nat.gcd x y < B := by
  by_cases h : x = 0
  · subst h; rw [Nat.gcd_zero_left]; exact hy
  · exact Nat.lt_of_le_of_lt (Nat.gcd_le_left _ (by omega)) hx

set_option maxHeartbeats 4000000 in
set_option maxRecDepth 100000 in
theorem halves_any (n m : Nat) (w : World) (hn : 0 < n) (hm : 0 < m) (sn : (enc n).size ≤ 17592186044416) (sm : (enc m).size ≤ 17592186044416) (hT : Tab w) :
    Calls Tryd.prog 185 #[.string (enc n), .string (enc m)] w fun e w' => e = .returned (.string (enc (Nat.gcd n m))) ∧ Below w.heap.size w w' := by
  have Hn := Lib.hid hn
  have Hm := Lib.hid hm
  have hwn : wlen 8 n ≤ 2199023255553 := by unfold wlen; omega
  have hwm : wlen 8 m ≤ 2199023255553 := by unfold wlen; omega
  clear hn hm
  go_enter Tryd.func185, Tryd.ntmps185
  go_wp2_with fail
  refine (limbs_any n w (by omega)).mono ?_
  rintro e w1 ⟨bx, rfl, hX, hbx, hb1⟩
  go_wp2_with fail
  refine (limbs_any m w1 (by omega)).mono ?_
  rintro e w2 ⟨by', rfl, hY, hby, hb2⟩
  have hX2 := hX.below hb2 hX.lt
  have hbxl := hX.lt
  have hB2 := hb1.trans (hb2.mono hb1.size)
  have hT2 := hT.below hB2 (Nat.le_refl _)
  have hTl := hT.lt
  clear hX hb1 hb2
  obtain ⟨X, hXX⟩ : ∃ X, X = w64 n := ⟨_, rfl⟩
  obtain ⟨Y, hYY⟩ : ∃ Y, Y = w64 m := ⟨_, rfl⟩
  have HX := Lib.hid (show (∀ d ∈ X, d < 18446744073709551616) ∧ lv 18446744073709551616 X = n by rw [hXX]; exact ⟨w64_lt _, lv_w64 _⟩)
  have HY := Lib.hid (show (∀ d ∈ Y, d < 18446744073709551616) ∧ lv 18446744073709551616 Y = m by rw [hYY]; exact ⟨w64_lt _, lv_w64 _⟩)
  have eX : wlen 8 n = X.length := by rw [hXX, w64_length]
  have eY : wlen 8 m = Y.length := by rw [hYY, w64_length]
  rw [← hXX] at hX2
  rw [← hYY] at hY
  rw [eX] at hwn ⊢
  rw [eY] at hwm ⊢
  clear hXX hYY eX eY
  have sX : Seg w2 bx 169 0 (nums .u64 X) := Seg.of_row hX2
  have sY : Seg w2 by' 169 0 (nums .u64 Y) := Seg.of_row hY
  have hbyl := hY.lt
  have hne : bx ≠ by' := by omega
  clear hX2 hY
  go_wp2_with fail
  refine (evens_any bx 0 X.length X w2 sX HX.out.1 (by omega) (by rw [HX.out.2]; exact Hn.out) hT2).mono ?_
  rintro e w' ⟨t, q1, rfl, hq1, ht, rfl⟩
  have Hq1 := Lib.hid hq1
  clear hq1
  go_wp2_with fail
  refine (evens_any by' 0 Y.length Y w2 sY HY.out.1 (by omega) (by rw [HY.out.2]; exact Hm.out) hT2).mono ?_
  rintro e w' ⟨s, q2, rfl, hq2, hs, rfl⟩
  have Hq2 := Lib.hid hq2
  clear hq2
  go_wp2_with fail
  refine (right_any bx 0 X.length t X w2 sX HX.out.1 (Nat.le_refl _) (by omega) ht).mono ?_
  rintro e w3 ⟨A, oa, ca, rfl, sA, dA, vA, tA, lA, cA, g3, z3⟩
  have sY3 := sY.grown g3 (by intro e; have := Option.some.inj e; omega)
  have hB3 : Below w.heap.size w w3 := hB2.grown g3 hB2.size (by intro j hj; have := Option.some.inj hj; omega)
  have hT3 := hT.below hB3 (Nat.le_refl _)
  have HA := Lib.hid (show (∀ d ∈ A, d < 18446744073709551616) ∧ lv 18446744073709551616 A = 2 * q1 + 1 ∧ Top A by
    refine ⟨dA, ?_, tA⟩
    rw [vA, Hq1.out, Nat.mul_div_cancel_left _ (Nat.pow_pos (by omega))])
  clear sX sY dA vA tA g3
  go_wp2_with fail
  refine (right_any by' 0 Y.length s Y w3 sY3 HY.out.1 (Nat.le_refl _) (by omega) hs).mono ?_
  rintro e w4 ⟨B, ob, cb, rfl, sB, dB, vB, tB, lB, cB, g4, z4⟩
  have sA4 := sA.grown g4 (by intro e; have := Option.some.inj e; omega)
  have hB4 : Below w.heap.size w w4 := hB3.grown g4 hB3.size (by intro j hj; have := Option.some.inj hj; have := hB2.size; omega)
  have hT4 := hT.below hB4 (Nat.le_refl _)
  have HB := Lib.hid (show (∀ d ∈ B, d < 18446744073709551616) ∧ lv 18446744073709551616 B = 2 * q2 + 1 ∧ Top B by
    refine ⟨dB, ?_, tB⟩
    rw [vB, Hq2.out, Nat.mul_div_cancel_left _ (Nat.pow_pos (by omega))])
  clear sA sY3 dB vB tB g4 hT2 hT3 hB2 hB3
  obtain ⟨G, hG⟩ : ∃ G, G = Nat.gcd (2 * q1 + 1) (2 * q2 + 1) := ⟨_, rfl⟩
  have HG := Lib.hid (show Nat.gcd n m = G * 2 ^ min t s by
    rw [← HX.out.2, ← HY.out.2, Hq1.out, Hq2.out, gcd_halves _ _ _ _ (by omega) (by omega), hG])
  have Hg := Lib.hid hG
  clear hG
  go_upto_block 0 with (fail)
  go_cut [5, 6] (fun s5 s6 wx => ∃ (b1 o1 c1 b2 o2 c2 : Nat) (A B : List Nat), s5 = .slice (some ⟨b1, o1, none⟩) A.length c1 ∧ s6 = .slice (some ⟨b2, o2, none⟩) B.length c2 ∧ b1 ≠ b2 ∧ w.heap.size ≤ b1 ∧ w.heap.size ≤ b2 ∧ Seg wx b1 169 o1 (nums .u64 A) ∧ Seg wx b2 169 o2 (nums .u64 B) ∧
      Hid ((∀ d ∈ A, d < 18446744073709551616) ∧ (∀ d ∈ B, d < 18446744073709551616)) ∧ B.length ≤ 2199023255553 ∧ Hid (A.length = 0 ∧ lv 18446744073709551616 B = G ∨ A.length = 1 ∧ B.length = 1 ∧ Nat.gcd (lv 18446744073709551616 A) (lv 18446744073709551616 B) = G) ∧ Below w.heap.size w wx)
  case first =>
    go_wp2_with fail
    go_loopg [5, 6] (lv 18446744073709551616 A + lv 18446744073709551616 B) (fun g s5 s6 wr => ∃ (b1 o1 c1 b2 o2 c2 : Nat) (A B : List Nat), s5 = .slice (some ⟨b1, o1, none⟩) A.length c1 ∧ s6 = .slice (some ⟨b2, o2, none⟩) B.length c2 ∧ b1 ≠ b2 ∧ w.heap.size ≤ b1 ∧ w.heap.size ≤ b2 ∧ Seg wr b1 169 o1 (nums .u64 A) ∧ Seg wr b2 169 o2 (nums .u64 B) ∧
      Hid ((∀ d ∈ A, d < 18446744073709551616) ∧ (∀ d ∈ B, d < 18446744073709551616) ∧ Top A ∧ Top B) ∧ A.length ≤ c1 ∧ c1 ≤ 2199023255553 ∧ B.length ≤ c2 ∧ c2 ≤ 2199023255553 ∧
      Hid (lv 18446744073709551616 A % 2 = 1 ∧ lv 18446744073709551616 B % 2 = 1 ∧ Nat.gcd (lv 18446744073709551616 A) (lv 18446744073709551616 B) = G ∧ g = lv 18446744073709551616 A + lv 18446744073709551616 B) ∧ Below w.heap.size w wr)
    case atStart =>
      exact ⟨bx, oa, ca, by', ob, cb, A, B, rfl, rfl, hne, hbx, by omega, sA4, sB, ⟨HA.out.1, HB.out.1, HA.out.2.2, HB.out.2.2⟩, lA, by omega, lB, by omega, ⟨by rw [HA.out.2.1]; omega, by rw [HB.out.2.1]; omega, by rw [HA.out.2.1, HB.out.2.1, Hg.out], rfl⟩, hB4⟩
    case round =>
      clear HA HB sA4 sB hB4 hT4 lA cA lB cB
      obtain ⟨b1, o1, c1, b2, o2, c2, A', B', rfl, rfl, hne', hb1, hb2, sA, sB, hdig, lA, cA, lB, cB, hval, hB⟩ := hrel
      by_cases hend : A'.length ≤ 1 ∧ B'.length ≤ 1
      · obtain ⟨e1, e2⟩ := hend
        have hA1 : A'.length = 1 := by
          rcases A' with _ | ⟨x, A'⟩
          · have := hval.out.1; rw [lv_nil] at this; omega
          · simp at e1 ⊢; omega
        have hB1 : B'.length = 1 := by
          rcases B' with _ | ⟨x, B'⟩
          · have := hval.out.2.1; rw [lv_nil] at this; omega
          · simp at e2 ⊢; omega
        have HF := Lib.hid (And.intro hA1 (And.intro hB1 hval.out.2.2.1))
        go_wp2_with fail
        go_meet
        exact ⟨b1, o1, c1, b2, o2, c2, A', B', by rw [HF.out.1], by rw [HF.out.2.1], hne', hb1, hb2, sA, sB, ⟨hdig.out.1, hdig.out.2.1⟩, by omega, .inr ⟨HF.out.1, HF.out.2.1, HF.out.2.2⟩, hB⟩
      · have Hend := Lib.hid hend
        go_upto_region 4 with (fail)
        go_cut [35] (fun s wx => s = .bool true ∧ wr = wx)
        case first =>
          by_cases h1 : 1 < A'.length
          · clear hend
            go_wp2_with fail
            go_meet
            exact ⟨rfl, rfl⟩
          · have H2 := Lib.hid (show Value.bool (decide ((1 : Int) < (A'.length : Int)) || decide ((1 : Int) < (B'.length : Int))) = Value.bool true by simp; omega)
            clear hend
            go_wp2_with fail
            go_meet
            exact ⟨H2.out, rfl⟩
        case rest =>
          obtain ⟨rfl, rfl⟩ := hcut
          clear hend
          go_wp2_with fail
          refine (below_any b1 o1 c1 b2 o2 c2 A' B' wr sA sB hdig.out.1 hdig.out.2.1 hdig.out.2.2.1 hdig.out.2.2.2 (by omega) (by omega)).mono ?_
          rintro e w5 ⟨rfl, hb5⟩
          have sA5 := sA.below hb5 sA.lt
          have sB5 := sB.below hb5 sB.lt
          have hB5 := hB.trans (hb5.mono hB.size)
          clear sA sB hB hb5
          go_upto_if 38 with (fail)
          go_cut [5, 6] (fun s5 s6 wx => ∃ (b1 o1 c1 b2 o2 c2 : Nat) (A B : List Nat), s5 = .slice (some ⟨b1, o1, none⟩) A.length c1 ∧ s6 = .slice (some ⟨b2, o2, none⟩) B.length c2 ∧ b1 ≠ b2 ∧ w.heap.size ≤ b1 ∧ w.heap.size ≤ b2 ∧ Seg wx b1 169 o1 (nums .u64 A) ∧ Seg wx b2 169 o2 (nums .u64 B) ∧
            Hid ((∀ d ∈ A, d < 18446744073709551616) ∧ (∀ d ∈ B, d < 18446744073709551616) ∧ Top A ∧ Top B) ∧ A.length ≤ c1 ∧ c1 ≤ 2199023255553 ∧ B.length ≤ c2 ∧ c2 ≤ 2199023255553 ∧
            Hid (lv 18446744073709551616 A % 2 = 1 ∧ lv 18446744073709551616 B % 2 = 1 ∧ Nat.gcd (lv 18446744073709551616 A) (lv 18446744073709551616 B) = G ∧ gk = lv 18446744073709551616 A + lv 18446744073709551616 B ∧ lv 18446744073709551616 B ≤ lv 18446744073709551616 A) ∧ Below w.heap.size w wx)
          case first =>
            by_cases hlt : lv 18446744073709551616 A' < lv 18446744073709551616 B'
            · have hd : decide (lv 18446744073709551616 A' < lv 18446744073709551616 B') = true := by simpa using hlt
              have Hlt := Lib.hid hlt
              clear hlt
              rw [hd]
              go_wp2_with fail
              go_meet
              exact ⟨b2, o2, c2, b1, o1, c1, B', A', rfl, rfl, fun e => hne' e.symm, hb2, hb1, sB5, sA5, ⟨hdig.out.2.1, hdig.out.1, hdig.out.2.2.2, hdig.out.2.2.1⟩, lB, cB, lA, cA, ⟨hval.out.2.1, hval.out.1, by rw [Nat.gcd_comm]; exact hval.out.2.2.1, by rw [Nat.add_comm]; exact hval.out.2.2.2, Nat.le_of_lt Hlt.out⟩, hB5⟩
            · have hd : decide (lv 18446744073709551616 A' < lv 18446744073709551616 B') = false := by simpa using hlt
              have Hlt := Lib.hid hlt
              clear hlt
              rw [hd]
              go_wp2_with fail
              go_meet
              exact ⟨b1, o1, c1, b2, o2, c2, A', B', rfl, rfl, hne', hb1, hb2, sA5, sB5, hdig, lA, cA, lB, cB, ⟨hval.out.1, hval.out.2.1, hval.out.2.2.1, hval.out.2.2.2, Nat.le_of_not_lt Hlt.out⟩, hB5⟩
          case rest =>
            clear sA5 sB5 hB5 hdig lA cA lB cB hne' hb1 hb2 hval Hend
            obtain ⟨b1, o1, c1, b2, o2, c2, A', B', rfl, rfl, hne', hb1, hb2, sA, sB, hdig, lA, cA, lB, cB, hval, hB⟩ := hcut
            have hBA := len_of_lv_le hdig.out.1 (by omega) hdig.out.2.2.2 hval.out.2.2.2.2
            go_wp2_with fail
            refine (minus_any b1 o1 c1 b2 o2 c2 A' B' wc sA sB hne' hdig.out.1 hdig.out.2.1 hBA lA (by omega) hval.out.2.2.2.2).mono ?_
            rintro e w6 ⟨Z, rfl, sZ, dZ, vZ, tZ, lZ, g6, z6⟩
            have sB6 := sB.grown g6 (by intro e; have := Option.some.inj e; omega)
            have hB6 : Below w.heap.size w w6 := hB.grown g6 hB.size (by intro j hj; have := Option.some.inj hj; omega)
            have HZ := Lib.hid (And.intro dZ (And.intro vZ tZ))
            clear sA sB hB g6 z6 dZ vZ tZ
            by_cases h0 : Z.length = 0
            · have hZ0 : Z = [] := List.eq_nil_of_length_eq_zero h0
              have HF := Lib.hid (show lv 18446744073709551616 B' = G by
                have h1 := HZ.out.2.1
                rw [hZ0, lv_nil] at h1
                have h2 : lv 18446744073709551616 A' = lv 18446744073709551616 B' := by have := hval.out.2.2.2.2; omega
                rw [← hval.out.2.2.1, h2, Nat.gcd_self])
              clear hZ0
              go_wp2_with fail
              go_meet
              exact ⟨b1, o1, c1, b2, o2, c2, Z, B', by rw [h0], rfl, hne', hb1, hb2, sZ, sB6, ⟨HZ.out.1, hdig.out.2.1⟩, by omega, .inl ⟨h0, HF.out⟩, hB6⟩
            · have hZpos : 0 < lv 18446744073709551616 Z := top_pos (by omega) HZ.out.2.2 (by omega)
              have HZp := Lib.hid hZpos
              have hT6 := hT.below hB6 (Nat.le_refl _)
              clear hZpos
              go_wp2_with fail
              refine (evens_any b1 o1 c1 Z w6 sZ HZ.out.1 (by omega) HZp.out hT6).mono ?_
              rintro e w' ⟨t', q', rfl, hq', ht', rfl⟩
              have Hq' := Lib.hid hq'
              clear hq'
              go_wp2_with fail
              refine (right_any b1 o1 c1 t' Z w6 sZ HZ.out.1 (by omega) (by omega) ht').mono ?_
              rintro e w7 ⟨Z', o', c', rfl, sZ', dZ', vZ', tZ', lZ', cZ', g7, z7⟩
              have sB7 := sB6.grown g7 (by intro e; have := Option.some.inj e; omega)
              have hB7 : Below w.heap.size w w7 := hB6.grown g7 hB6.size (by intro j hj; have := Option.some.inj hj; omega)
              have vq : lv 18446744073709551616 Z' = 2 * q' + 1 := by rw [vZ', Hq'.out, Nat.mul_div_cancel_left _ (Nat.pow_pos (by omega))]
              have hle' : lv 18446744073709551616 Z' ≤ lv 18446744073709551616 Z := by rw [vZ']; exact Nat.div_le_self _ _
              have hgcd : Nat.gcd (lv 18446744073709551616 Z') (lv 18446744073709551616 B') = G := by
                rw [vq, ← gcd_two_pow t' _ hval.out.2.1, ← Hq'.out, HZ.out.2.1, gcd_minus hval.out.2.2.2.2, hval.out.2.2.1]
              have HN := Lib.hid (show lv 18446744073709551616 Z' % 2 = 1 ∧ Nat.gcd (lv 18446744073709551616 Z') (lv 18446744073709551616 B') = G ∧ lv 18446744073709551616 Z' + lv 18446744073709551616 B' < gk by
                refine ⟨by omega, hgcd, ?_⟩
                have h1 := HZ.out.2.1
                have h2 := hval.out
                have : 0 < lv 18446744073709551616 B' := by omega
                omega)
              have HD' := Lib.hid (And.intro dZ' tZ')
              clear sZ sB6 hB6 g7 z7 vq hle' hgcd dZ' tZ' vZ'
              go_wp2_with fail
              go_roundg (lv 18446744073709551616 Z' + lv 18446744073709551616 B')
              case measure => exact HN.out.2.2
              case rel => exact ⟨b1, o', c', b2, o2, c2, Z', B', rfl, rfl, hne', hb1, hb2, sZ', sB7, ⟨HD'.out.1, hdig.out.2.1, HD'.out.2, hdig.out.2.2.2⟩, lZ', by omega, lB, cB, ⟨HN.out.1, hval.out.2.1, HN.out.2.1, rfl⟩, hB7⟩
  case rest =>
    clear HA HB sA4 sB hB4 hT4 lA cA lB cB hne hbxl hbyl
    obtain ⟨b1, o1, c1, b2, o2, c2, A, B, rfl, rfl, hne, hb1, hb2, sA, sB, hdig, lB, hcase, hB⟩ := hcut
    go_upto_region 10 with (fail)
    go_cut [58] (fun s wx => s = .bool (decide (A.length = 1)) ∧ wc = wx)
    case first =>
      rcases hcase.out with ⟨h1, _⟩ | ⟨h1, h2, _⟩
      · have H2 := Lib.hid (show Value.bool false = Value.bool (decide (A.length = 1)) by rw [h1]; rfl)
        go_wp2_with fail
        go_meet
        exact ⟨H2.out, rfl⟩
      · have H2 := Lib.hid (show Value.bool true = Value.bool (decide (A.length = 1)) by rw [h1]; rfl)
        go_wp2_with fail
        go_meet
        exact ⟨H2.out, rfl⟩
    case rest =>
      obtain ⟨rfl, rfl⟩ := hcut
      go_upto_if 58 with (fail)
      go_cut [6] (fun s6 wx => ∃ (b2 o2 c2 : Nat) (B : List Nat), s6 = .slice (some ⟨b2, o2, none⟩) B.length c2 ∧ w.heap.size ≤ b2 ∧ Seg wx b2 169 o2 (nums .u64 B) ∧ Hid (∀ d ∈ B, d < 18446744073709551616) ∧ B.length ≤ 2199023255553 ∧ Hid (lv 18446744073709551616 B = G) ∧ Below w.heap.size w wx)
      case first =>
        rcases hcase.out with ⟨h1, h2⟩ | ⟨h1, h2, h3⟩
        · have hd : decide (A.length = 1) = false := by rw [h1]; rfl
          have HF := Lib.hid h2
          clear h1 h2
          rw [hd]
          go_wp2_with fail
          go_meet
          exact ⟨b2, o2, c2, B, rfl, hb2, sB, hdig.out.2, lB, HF, hB⟩
        · have hd : decide (A.length = 1) = true := by rw [h1]; rfl
          obtain ⟨x, hx⟩ : ∃ x : Nat, A = [x] := List.length_eq_one_iff.1 h1
          obtain ⟨y, hy⟩ : ∃ y : Nat, B = [y] := List.length_eq_one_iff.1 h2
          have hcx := sA.int (i := 0) (by omega)
          have hcy := sB.int (i := 0) (by omega)
          have hfy := sB.frozen (o2 + 0)
          subst hx
          subst hy
          have HF := Lib.hid (show Nat.gcd x y = G by simpa [lv] using h3)
          have hxl : x < 18446744073709551616 := hdig.out.1 x (by simp)
          have hyl : y < 18446744073709551616 := hdig.out.2 y (by simp)
          rw [hd]
          clear h1 h2 h3
          simp only [List.getD, List.getElem?_cons_zero, Option.getD_some, Nat.add_zero] at hcx hcy hfy
          have sB0 : Seg wc.drew b2 169 o2 (nums .u64 [y]) := sB.drew
          go_wp2_with fail
          go_region_with (first | (go_at_call 184; refine (common_any x y wc.drew hxl hyl).mono ?_; rintro e w5 ⟨rfl, hb5⟩; have sB5 := sB0.below hb5 sB0.lt; have hcy5 : w5.cell? ⟨b2, o2, none⟩ = some (.int .u64 (y : Int)) := sB5.int (i := 0) (by simp); have hfy5 := sB5.frozen o2; rw [HF.out]))
          all_goals
            go_wp2_with fail
            go_meet
            exact ⟨b2, o2, c2, [G], rfl, hb2, sB5.int_set 0 G, (by intro d hd; rw [List.mem_singleton] at hd; rw [hd, ← HF.out]; exact gcd_lt hxl hyl), by simp, (by show _ = _; simp [lv]), (hB.drew.trans (hb5.mono hB.drew.size)).setCell hb2 _⟩
      case rest =>
        clear sA sB hB hdig hcase lB hne hb1 hb2
        obtain ⟨b, o, c, Y, rfl, hb, sY, hdY, lY, hG, hB⟩ := hcut
        obtain ⟨L, hL⟩ : ∃ L, Y.length = L := ⟨_, rfl⟩
        rw [hL] at lY ⊢
        have HL := Lib.hid hL
        have hyv := hdY.out
        have Hpos := Lib.hid (show Hid (lv 18446744073709551616 Y < 256 ^ (8 * L)) by
          show _ < _
          rw [Nat.pow_mul, ← HL.out]; exact lv_lt hyv)
        clear hL hyv
        go_wp2_with (first | (at_make; refine wpList_make_row _ rfl _ _ _ rfl 5 _ 1 Tryd.underlying189 info5 rfl _ _ _ _ (8 * L) rfl rfl (by omega) (by omega) (by omega) (by omega) ?_))
        intro w8 hR8 hg8 hsz8
        have sY8 := sY.grown hg8 (by simp)
        have hbl := sY.lt
        have hB8 : Below w.heap.size w w8 := hB.grown hg8 hB.size (by simp)
        have hwc := hB.size
        have hR80 : Row w8 wc.heap.size 5 (nums .u8 (laidW G (8 * L) 0 0)) := by rw [laidW_zero]; simpa [nums] using hR8
        clear sY hR8 hg8 hB
        go_wp2
        go_loopw [74] (fun si wr => ∃ k : Nat, k ≤ L ∧ si = .int .i64 k ∧ Row wr wc.heap.size 5 (nums .u8 (laidW G (8 * L) k 0)) ∧ Seg wr b 169 o (nums .u64 Y) ∧ Below w.heap.size w wr) (fun si _ => L - (intOf si).toNat)
        case atStart => exact ⟨0, Nat.zero_le _, rfl, hR80, sY8, hB8⟩
        case round =>
          obtain ⟨wo, rfl⟩ : ∃ wo : World, wo = wr := ⟨_, rfl⟩
          obtain ⟨k, hk, rfl, hRk, sYk, hBk⟩ := hrel
          clear hR80 sY8 hB8
          by_cases hlt : k < L
          · obtain ⟨x, hx⟩ : ∃ x : Nat, x = Y.getD k 0 := ⟨_, rfl⟩
            have hcx := sYk.int (i := k) (by rw [HL.out]; exact hlt)
            rw [← hx] at hcx
            have Hx := Lib.hid hx
            clear hx
            go_wp2
            go_loopw [79] (fun si wr => ∃ j : Nat, j ≤ 8 ∧ si = .int .i64 j ∧ Row wr wc.heap.size 5 (nums .u8 (laidW G (8 * L) k j)) ∧ Seg wr b 169 o (nums .u64 Y) ∧ Below w.heap.size w wr) (fun si _ => 8 - (intOf si).toNat)
            case atStart => exact ⟨0, Nat.zero_le _, rfl, hRk, sYk, hBk⟩
            case round =>
              obtain ⟨j, hj, rfl, hRj, sYj, hBj⟩ := hrel
              clear hRk sYk hBk hcx
              by_cases hj8 : j < 8
              · obtain ⟨p, hp⟩ : ∃ p : Nat, (8 : Int) * ((L : Int) - 1 - (k : Int)) + (j : Int) = (p : Int) := ⟨8 * (L - 1 - k) + j, by omega⟩
                have hp2 : p < 8 * L := by omega
                have hcp := hRj.int (i := p) (by rw [laidW_length]; exact hp2)
                have hfp := hRj.frozen p
                have Hp := Lib.hid (show p = 8 * L - 8 * (k + 1) + j by omega)
                have hval : ((x : Int) / 2 ^ (56 - 8 * j) % 256) = ((G / 256 ^ (8 * k + (7 - j)) % 256 : Nat) : Int) := by
                  have h1 := byte_of_word (W := 18446744073709551616) (s := 8) (V := G) (k := k) (t := 7 - j) rfl (by omega)
                  have h2 : x = G / 18446744073709551616 ^ k % 18446744073709551616 := by rw [Hx.out, ← hG.out]; exact getD_of_lv (by omega) hdY.out (by rw [HL.out]; exact hlt)
                  rw [← h1, ← h2, show (256 : Nat) ^ (7 - j) = 2 ^ (56 - 8 * j) by rw [show (256 : Nat) = 2 ^ 8 by decide, ← Nat.pow_mul]; congr 1; omega]
                  simp
                have HV := Lib.hid hval
                clear hval
                go_wp2
                go_roundw
                case rel =>
                  have hR' := hRj.int_set p (G / 256 ^ (8 * k + (7 - j)) % 256)
                  rw [show (laidW G (8 * L) k j).set p (G / 256 ^ (8 * k + (7 - j)) % 256) = laidW G (8 * L) k (j + 1) by rw [Hp.out]; exact laidW_set (by omega) hj8] at hR'
                  rw [HV.out]
                  exact ⟨j + 1, by omega, by go_num, hR', sYj.set_ne (by show wc.heap.size ≠ b; omega) _, hBj.setCell hwc _⟩
                case measure => simp [intOf] <;> omega
              · obtain rfl : j = 8 := by omega
                rw [laidW_next _ _ _ (by omega)] at hRj
                go_wp2
                go_roundw
                case rel => exact ⟨k + 1, by omega, by go_num, hRj, sYj, hBj⟩
                case measure => simp [intOf] <;> omega
          · have HK := Lib.hid (show k = L by omega)
            rw [HK.out, laidW_all] at hRk
            clear hk
            obtain ⟨u, hu⟩ : ∃ u, u = min t s := ⟨_, rfl⟩
            have hul : u / 8 ≤ 17592186044424 := by omega
            have hmin : min (t : Int) (s : Int) = (u : Int) := by omega
            have Hu := Lib.hid hu
            have hbr : wc.heap.size < wo.heap.size := hRk.lt
            clear hu
            go_wp2_with (first | (at_make; refine wpList_make_row _ rfl _ _ _ rfl 5 _ 1 Tryd.underlying189 info5 rfl _ _ _ _ (u / 8 + 1) rfl rfl (by omega) (by omega) (by omega) (by omega) ?_))
            intro w9 hR9 hg9 hsz9
            have hl9 := hRk.grown hg9 (by simp)
            have hB9 : Below w.heap.size w w9 := hBk.grown hg9 hBk.size (by simp)
            have hR90 : Row w9 wo.heap.size 5 (nums .u8 (0 :: List.replicate (u / 8) 0)) := by
              rw [List.replicate_succ] at hR9
              simpa [nums] using hR9
            have hc0 := hR90.int (i := 0) (by simp)
            have hf0 := hR90.frozen 0
            obtain ⟨v, hv⟩ : ∃ v : Nat, v = 2 ^ (u % 8) := ⟨_, rfl⟩
            have hpw : v < 256 := by rw [hv]; exact Nat.lt_of_le_of_lt (Nat.pow_le_pow_right (by omega) (show u % 8 ≤ 7 by omega)) (by decide)
            have hve : ((2 : Int) ^ (u % 8) % 256) = (v : Int) := by
              have h1 : ((2 : Int) ^ (u % 8)) = ((2 ^ (u % 8) : Nat) : Int) := by simp
              rw [h1, ← hv]; omega
            have hB10 : Below w.heap.size w (w9.setCell ⟨wo.heap.size, 0, none⟩ (.int .u8 (v : Int))) := hB9.setCell hBk.size _
            have hR10 := hR90.int_set 0 v
            rw [List.set_cons_zero] at hR10
            have hl10 := hl9.set_ne (a := ⟨wo.heap.size, 0, none⟩) (by show wo.heap.size ≠ wc.heap.size; omega) (.int .u8 (v : Int))
            have hcl := bytes_row hl10 (by rw [← laidW_all]; exact laidW_lt _ _ _ _) (8 * L) (laidB_length _ _ _)
            have hcp := bytes_row hR10 (by
              intro d hd
              rcases List.mem_cons.1 hd with rfl | hd
              · exact hpw
              · have := List.eq_of_mem_replicate hd; omega) (u / 8 + 1) (by simp)
            have hvl : nv ⟨((laidB G (8 * L) (8 * L)).map fun d => UInt8.ofNat d).toArray⟩ = G := nvl_laidB (by have := Hpos.out.out; rw [hG.out] at this; exact this)
            have hvp : nv ⟨((v :: List.replicate (u / 8) 0).map fun d => UInt8.ofNat d).toArray⟩ = 2 ^ u := by rw [hv]; exact nvl_power u
            have hsl : (⟨((laidB G (8 * L) (8 * L)).map fun d => UInt8.ofNat d).toArray⟩ : ByteArray).size = 8 * L := by simp [ByteArray.size, laidB_length]
            have hsp : (⟨((v :: List.replicate (u / 8) 0).map fun d => UInt8.ofNat d).toArray⟩ : ByteArray).size = u / 8 + 1 := by simp [ByteArray.size]
            generalize (⟨((laidB G (8 * L) (8 * L)).map fun d => UInt8.ofNat d).toArray⟩ : ByteArray) = sl at *
            generalize (⟨((v :: List.replicate (u / 8) 0).map fun d => UInt8.ofNat d).toArray⟩ : ByteArray) = sp at *
            have HF := Lib.hid (show nv sl * nv sp = Nat.gcd n m by rw [hvl, hvp, HG.out, Hu.out])
            have HZ := Lib.hid (And.intro hsl hsp)
            clear hR9 hl9 hR90 hR10 hl10 hvl hvp hsl hsp hRk sYk hBk hB9 hg9 hv
            go_wp2_with fail
            refine (Mul_any sl sp _ (by rw [HZ.out.1]; omega) (by rw [HZ.out.2]; omega)).mono ?_
            rintro e w11 ⟨rfl, hb11⟩
            rw [HF.out]
            go_wp2_with fail
            go_ret
            exact ⟨rfl, hB10.trans (hb11.mono hB10.size)⟩

end Go.Proofs.YtnnffjolkgomhaaDoor.natN
