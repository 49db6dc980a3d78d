/- Walk: nat.Text. -/
import Derived.Test.YtdhpmdkfmgpcmaaDoorGrpF
import Derived.Test.YtdhpmdkfmgpcmaaDoorDec
import Derived.Test.YtdhpmdkfmgpcmaaDoorRefB
namespace Go.Proofs.YtdhpmdkfmgpcmaaDoor.natJ
open Go.RowKit num mem natA natB natC natD natE natF natG natH natI dec refA refB

/-- a slice's length -/
def sliceLen : Value → Nat | .slice _ n _ => n | _ => 0
theorem rest_ten {r x : Nat} (hr : r < 10) (hx : x < 4294967296) : ∃ q r' : Nat,
    IntKind.u64.wrap ((bits .or .u64 ((r : Int) * 4294967296) (x : Int)).tdiv 10) % 4294967296 = (q : Int) ∧
    (bits .or .u64 ((r : Int) * 4294967296) (x : Int)).tmod 10 = (r' : Int) ∧ q < 4294967296 ∧ r' < 10 ∧ q * 10 + r' = r * 4294967296 + x :=
  rest_bits (y := 10) hr (by omega) hx

set_option maxHeartbeats 1000000 in
set_option maxRecDepth 100000 in
theorem Text_any (a : ByteArray) (w : World) (ha : a.size ≤ 17592186044416) :
    Calls Tryd.prog 131 #[.string a] w fun e w' => e = .returned (.string (dec (nv a))) ∧ Below w.heap.size w w' := by
  obtain ⟨n, hn⟩ : ∃ n, nv a = n := ⟨_, rfl⟩
  have hdl : (decL n).length ≤ 52776558133248 := by
    have h1 := decL_bytes (nv_lt a)
    rw [hn] at h1
    omega
  rw [hn]
  have Hn := Lib.hid hn
  have Hdl := Lib.hid hdl
  clear hdl
  have hwn : wlen 4 n ≤ a.size := by
    rw [← hn]
    refine (wlen_le (by omega)).2 ?_
    have h1 := nv_lt a
    have h2 : 256 ^ a.size ≤ (256 ^ 4) ^ a.size := Nat.pow_le_pow_left (by decide) _
    exact Nat.lt_of_lt_of_le h1 h2
  clear hn
  obtain ⟨p, hp⟩ : ∃ p, wlen 4 n = p := ⟨_, rfl⟩
  have Hp := Lib.hid hp
  rw [hp] at hwn
  clear hp
  go_enter Tryd.func131, Tryd.ntmps131
  go_wp2_with fail
  refine (words_any a _ (by omega)).mono ?_
  rintro e w1 ⟨b, rfl, hX, hbx, hb1⟩
  rw [Hn.out, Hp.out]
  rw [Hn.out] at hX
  have hbl := hX.lt
  go_wp2_with fail
  go_loopg [3, 4] (decL n).length (fun g sl so wr => ∃ (D X : List Nat) (vo : Value), vo = so ∧ g = (decL (lv 4294967296 X)).length ∧ sl = .slice (some ⟨b, 0, none⟩) X.length p ∧ X.length ≤ p ∧ Hid (∀ d ∈ X, d < 4294967296) ∧ Hid (0 < X.length → 0 < lv 4294967296 X) ∧ Hid (decL n = D ++ decL (lv 4294967296 X)) ∧
      Pre wr b 151 p (nums .u32 X) ∧ wr.ownsRow w1.heap.size 5 1 vo D.length (nums .u8 (D.map (48 + ·))) ∧ Below w.heap.size w wr ∧ Hid (w1.heap.size ≤ wr.heap.size))
  case atStart =>
    refine ⟨[], w32 n, _, rfl, by rw [lv_w32], by rw [w32_length, Hp.out], by rw [w32_length, Hp.out]; exact Nat.le_refl _, w32_lt n, ?_, by show _ = _; rw [lv_w32]; rfl, ?_, World.ownsRow_nil _ _ _ _, hb1, Nat.le_refl _⟩
    · intro h
      rw [lv_w32]
      apply Nat.pos_of_ne_zero
      intro h0
      rw [w32_length] at h
      have := (@wlen_le 4 n 0 (by omega)).2 (by rw [h0]; simp)
      omega
    · have := hX.pre
      rw [nums_length, w32_length, Hp.out] at this
      exact this
  case round =>
    obtain ⟨wo, rfl⟩ : ∃ wo : World, wo = wr := ⟨_, rfl⟩
    obtain ⟨D, X, vo, rfl, hg, rfl, hXp, hXd, hXt, hdec, hP, hown, hB, hsz⟩ := hrel
    clear hX
    by_cases h0 : 0 < X.length
    · have hv0 := hXt.out h0
      have hgk : gk = (decL (lv 4294967296 X / 10)).length + 1 := by rw [hg, decL_pos (by omega)]; rfl
      subst hgk
      clear hg
      go_wp2_with fail
      go_loopw [5, 6] (fun rr i wr => ∃ (k r : Nat) (e : Int) (Z : List Nat), k ≤ X.length ∧ i = .int .i64 e ∧ e = (k : Int) - 1 ∧ rr = .int .u64 r ∧ r < 10 ∧ Hid (Z.length = X.length - k) ∧ Hid (∀ d ∈ Z, d < 4294967296) ∧ Hid (lv 4294967296 Z * 10 + r = lv 4294967296 (X.drop k)) ∧
          Pre wr b 151 p (nums .u32 (X.take k ++ Z)) ∧ wr.ownsRow w1.heap.size 5 1 vo D.length (nums .u8 (D.map (48 + ·))) ∧ Below w.heap.size w wr ∧ Hid (w1.heap.size ≤ wr.heap.size)) (fun _ i _ => (intOf i + 1).toNat)
      case atStart =>
        refine ⟨X.length, 0, _, [], Nat.le_refl _, rfl, by go_num, rfl, by omega, by simp [Hid], (by intro d hd; cases hd), ?_, ?_, hown, hB, hsz⟩
        · show _ = _; rw [List.drop_of_length_le (Nat.le_refl _)]; simp [lv]
        · rw [List.append_nil, List.take_of_length_le (Nat.le_refl _)]; exact hP
      case round =>
        obtain ⟨k, r, e, Z, hk, rfl, he, rfl, hr, hZl, hZ, hlv, hPr, hownr, hBr, hszr⟩ := hrel
        clear hP hown hB hsz
        rcases k with _ | j
        · obtain rfl : e = -1 := by simpa using he
          clear he
          have hlz : lv 4294967296 Z = lv 4294967296 X / 10 ∧ r = lv 4294967296 X % 10 := by
            have h1 := hlv.out
            rw [List.drop_zero] at h1
            omega
          have hPz : Pre wr b 151 p (nums .u32 Z) := hPr
          have HLZ := Lib.hid hlz
          have hDl : D.length ≤ 52776558133248 := by
            have h1 := Hdl.out
            rw [hdec.out, List.length_append] at h1
            omega
          rw [Nat.sub_zero] at hZl
          clear hlz hPr
          go_wp2_with (first | (at_builtin; refine wpList_push rfl _ _ _ rfl w1.heap.size 5 _ 1 Tryd.underlying124 natB.info5 rfl _ (nums .u8 (D.map (48 + ·))) rfl (by rw [nums_length, List.length_map]; exact hownr.alloc _) _ _ rfl (cell_new1 _ _ _) rfl (by rw [nums_length, List.length_map]; omega) (by rw [nums_length, List.length_map]; omega) (by have := hszr.out; simp; omega) ?_))
          intro v' w2 hown2 hg2
          have hPz2 := (hPz.alloc _).grown hg2 (by
            intro e
            have := owned_block hownr b e.symm
            omega)
          have hB2 : Below w.heap.size w w2 := (hBr.alloc hBr.size _).grown hg2 (hBr.alloc hBr.size _).size (by
            intro k hk
            have := owned_block hownr k hk
            have := hb1.size
            omega)
          have hsz2 := Lib.hid (show w1.heap.size ≤ w2.heap.size by
            have h1 := hg2.size
            have h2 := hszr.out
            simp at h1
            omega)
          rw [show (48 : Int) + (r : Int) = ((48 + r : Nat) : Int) by omega, nums_snoc, nums_length, List.length_map] at hown2
          clear hownr hPz hg2 hBr hszr
          go_wp2_with fail
          go_loop [3] (fun sl => ∃ k : Nat, k ≤ Z.length ∧ sl = .slice (some ⟨b, 0, none⟩) k p ∧ Hid (lv 4294967296 (Z.take k) = lv 4294967296 Z)) (fun sl => sliceLen sl)
          case atStart => exact ⟨Z.length, Nat.le_refl _, by rw [hZl.out], by show _ = _; rw [List.take_of_length_le (Nat.le_refl _)]⟩
          case round =>
            obtain ⟨k, hkz, rfl, hz⟩ := hrel
            rcases k with _ | j
            · go_wp2_with fail
              go_roundg (decL (lv 4294967296 X / 10)).length
              case measure => omega
              case rel =>
                have hPk := hPz2.take (0)
                rw [nums_take] at hPk
                have hlk : (Z.take (0)).length = 0 := by rw [List.length_take]; omega
                refine ⟨D ++ [r], Z.take (0), v', rfl, by rw [hz.out, HLZ.out.1], by rw [hlk], by rw [hlk]; omega, fun d hd => hZ.out d (List.mem_of_mem_take hd), ?_, ?_, hPk, ?_, hB2, hsz2⟩
                · intro h
                  simp at h
                · show _ = _
                  rw [hz.out, HLZ.out.1, HLZ.out.2]
                  exact decL_snoc hdec.out (by omega)
                · rw [List.length_append, List.map_append]; exact hown2
            · have c1 := hPz2.int (i := j) (by omega)
              obtain ⟨x, hx⟩ : ∃ x, x = Z.getD j 0 := ⟨_, rfl⟩
              rw [← hx] at c1
              obtain ⟨k, hkj⟩ : ∃ k, k = j + 1 := ⟨_, rfl⟩
              have hkZ : k ≤ Z.length := by omega
              have hkX : k ≤ X.length := by have := hZl.out; omega
              have e1 : IntKind.i64.wrap ((k : Int) - 1) = (j : Int) := by rw [IntWalk.i64_in _ (by omega)]; omega
              have hk0 : 0 < k := by omega
              have hjz : j < Z.length := by omega
              have hjk : j < k := by omega
              rw [← hkj] at hz ⊢
              have Hkj := Lib.hid hkj
              clear hkj hkz
              by_cases hx0 : x = 0
              · subst hx0
                have hz2 := Lib.hid (show lv 4294967296 (Z.take j) = lv 4294967296 Z by rw [← hz.out, Hkj.out]; exact (lv_take_zero hx.symm).symm)
                clear hx
                go_wp2_with fail
                go_round
                case rel => exact ⟨j, by omega, rfl, hz2.out⟩
                case measure => simp [sliceLen]; exact hjk
              · have hx1 : ((x : Int) == 0) = false := by simp; omega
                have Hx := Lib.hid (show 0 < Z.getD j 0 by omega)
                clear hx hx0
                go_wp2_with fail
                go_roundg (decL (lv 4294967296 X / 10)).length
                case measure => omega
                case rel =>
                  have hPk := hPz2.take k
                  rw [nums_take] at hPk
                  have hlk : (Z.take k).length = k := by rw [List.length_take]; omega
                  refine ⟨D ++ [r], Z.take k, v', rfl, by rw [hz.out, HLZ.out.1], by rw [hlk], by rw [hlk]; omega, fun d hd => hZ.out d (List.mem_of_mem_take hd), ?_, ?_, hPk, ?_, hB2, hsz2⟩
                  · intro h
                    refine lv_top (k := j) (by rw [hlk, Hkj.out]) ?_ (by omega)
                    rw [List.getD, List.getElem?_take_of_lt (by omega)]
                    exact Hx.out
                  · show _ = _
                    rw [hz.out, HLZ.out.1, HLZ.out.2]
                    exact decL_snoc hdec.out (by omega)
                  · rw [List.length_append, List.map_append]; exact hown2
        · obtain rfl : e = (j : Int) := by omega
          clear he
          obtain ⟨x, hx⟩ : ∃ x : Nat, x = X.getD j 0 := ⟨_, rfl⟩
          have hxl : x < 4294967296 := by rw [hx]; exact getD_lt (by omega) hXd.out j
          have c1 := hPr.int (i := j) (by rw [List.length_append, List.length_take, hZl.out]; omega)
          rw [show (X.take (j + 1) ++ Z).getD j 0 = x by rw [hx]; rw [List.getD, List.getElem?_append_left (by rw [List.length_take]; omega), List.getElem?_take_of_lt (by omega)]; rfl] at c1
          have f1 := hPr.frozen j
          have Hx := Lib.hid hx
          obtain ⟨q, r', e1, e2, hq, hr', h5⟩ := rest_ten hr hxl
          have E1 := Lib.hid e1
          have E2 := Lib.hid e2
          have H5 := Lib.hid h5
          clear hx e1 e2 h5
          go_wp2_with fail
          go_roundw
          case rel =>
            rw [E1.out, E2.out]
            have hR' := hPr.int_set j q
            have hl : (X.take j).length = j := by rw [List.length_take]; omega
            have e : (X.take (j + 1) ++ Z).set j q = X.take j ++ (q :: Z) := by
              rw [List.take_succ_eq_append_getElem (by omega), List.append_assoc, List.set_append_right _ _ (by rw [hl]; exact Nat.le_refl _), hl, Nat.sub_self]
              rfl
            rw [e] at hR'
            refine ⟨j, r', _, q :: Z, by omega, rfl, by go_num, rfl, hr', by have := hZl.out; simp [Hid, this]; omega, ?_, ?_, hR', ownsRow_setCell_below hownr hbl _, hBr.setCell hbx _, by show _ ≤ _; simp [World.setCell]; exact hszr.out⟩
            · intro d hd
              rcases List.mem_cons.1 hd with rfl | hd
              · exact hq
              · exact hZ.out d hd
            · show _ = _
              have hd : X.drop j = x :: X.drop (j + 1) := by
                rw [List.drop_eq_getElem_cons (by omega)]
                congr 1
                rw [Hx.out]
                simp [List.getD, List.getElem?_eq_getElem (show j < X.length by omega)]
              rw [hd, lv_cons, lv_cons, ← hlv.out, Nat.add_mul, Nat.mul_add, Nat.mul_assoc]
              have := H5.out
              generalize lv 4294967296 Z * 10 = z at *
              omega
          case measure => simp [intOf] <;> omega
    · have hX0 : X = [] := List.eq_nil_of_length_eq_zero (by omega)
      subst hX0
      have hD : decL n = D := by have := hdec.out; rw [lv_nil, decL_zero, List.append_nil] at this; exact this
      clear hg hdec hXt hXd hXp h0 hP
      rcases owns_pre (by rw [nums_length, List.length_map]; exact hown) with ⟨rfl, hnil⟩ | ⟨g, cp, rfl, hg, hP⟩
      · have hD0 : D = [] := by simpa [nums] using hnil
        subst hD0
        have HV := Lib.hid (show dec n = ⟨#[48]⟩ by rw [decL_nil hD, dec_zero])
        clear hD
        go_wp2_with fail
        go_ret
        exact ⟨ret_string HV.out.symm, hB⟩
      · rw [nums_length, List.length_map] at *
        clear hown
        have hDl : D.length ≤ 52776558133248 := by rw [← hD]; exact Hdl.out
        have hDd := Lib.hid (show ∀ d ∈ D, d < 10 by rw [← hD]; exact decL_lt n)
        have HD := Lib.hid hD
        obtain ⟨E, hE⟩ : ∃ E, E = D.map (48 + ·) := ⟨_, rfl⟩
        have hEl : E.length = D.length := by rw [hE, List.length_map]
        rw [← hE] at hP
        have hP0 : Pre wo g 5 cp (nums .u8 (revTo E 0)) := by rw [revTo_zero]; exact hP
        obtain ⟨n', hn'⟩ : ∃ n, n = D.length := ⟨_, rfl⟩
        rw [← hn'] at hDl hEl ⊢
        by_cases hn0 : n' = 0
        · have hD0 : D = [] := List.eq_nil_of_length_eq_zero (by omega)
          subst hD0
          subst hn0
          have HV := Lib.hid (show dec n = ⟨#[48]⟩ by rw [decL_nil hD, dec_zero])
          clear hD hn' hP hP0 hE hEl
          go_wp2_with fail
          go_ret
          exact ⟨ret_string HV.out.symm, hB⟩
        · have HE := Lib.hid hE
          have HN := Lib.hid (show E.length = n' ∧ n' = D.length from ⟨hEl, hn'⟩)
          have hn1 : 0 < n' := by omega
          clear hE hEl hP hD hn' hn0
          have hgw : w.heap.size ≤ g := by have := hb1.size; omega
          have HV := Lib.hid (show (⟨(E.reverse.map fun d => UInt8.ofNat d).toArray⟩ : ByteArray) = dec n by
            have hn0 : n ≠ 0 := by
              intro h
              have h1 := HD.out
              rw [h, decL_zero] at h1
              have h2 := HN.out.2
              rw [← h1] at h2
              simp at h2
              omega
            rw [dec_pos hn0, HD.out, HE.out, ← List.map_reverse, List.map_map]
            rfl)
          have HEd := Lib.hid (show ∀ d ∈ E, d < 256 by
            rw [HE.out]
            intro d hd
            obtain ⟨x, hx, rfl⟩ := List.mem_map.1 hd
            have := hDd.out x hx
            show 48 + x < 256
            omega)
          go_wp2_with fail
          go_loopw [7, 8] (fun s6 s7 wx => ∃ (j : Nat) (e : Int), s6 = .int .i64 j ∧ s7 = .int .i64 e ∧ Hid (e = (n' : Int) - 1 - (j : Int)) ∧ 2 * j ≤ n' ∧ Pre wx g 5 cp (nums .u8 (revTo E j)) ∧ Below w.heap.size w wx) (fun s6 _ _ => n' - (intOf s6).toNat)
          case atStart => exact ⟨0, _, rfl, rfl, by simp [Hid], by omega, hP0, hB⟩
          case round =>
            rename_i wx
            obtain ⟨j, e, rfl, rfl, he, hj, hPj, hBj⟩ := hrel
            clear hP0 hB
            by_cases hlj : 2 * j + 1 < n'
            · obtain ⟨m, hm⟩ : ∃ m : Nat, e = (m : Int) := ⟨n' - 1 - j, by have := he.out; omega⟩
              subst hm
              have hm2 : m = n' - 1 - j := by have := he.out; omega
              have hjm : j < m := by omega
              have hmn : m < n' := by omega
              have Hm := Lib.hid hm2
              clear hm2
              have c1 := hPj.int (i := j) (by rw [revTo_length, HN.out.1]; omega)
              have c2 := hPj.int (i := m) (by rw [revTo_length, HN.out.1]; omega)
              rw [revTo_mid (Nat.le_refl _) (by rw [HN.out.1]; omega)] at c1
              rw [revTo_mid (by omega) (by rw [HN.out.1]; have := Hm.out; omega)] at c2
              obtain ⟨x, hx⟩ : ∃ x, x = E.getD j 0 := ⟨_, rfl⟩
              obtain ⟨y, hy⟩ : ∃ y, y = E.getD m 0 := ⟨_, rfl⟩
              rw [← hx] at c1
              rw [← hy] at c2
              have f1 := hPj.frozen j
              have f2 := hPj.frozen m
              have Hx := Lib.hid hx
              have Hy := Lib.hid hy
              clear hx hy
              go_wp2
              go_region
              go_wp2
              go_roundw
              case rel =>
                have hS := (hPj.int_set j y).int_set m x
                rw [Hx.out, Hy.out, Hm.out, ← HN.out.1, revTo_step (by rw [HN.out.1]; exact hlj)] at hS
                refine ⟨j + 1, (m : Int) - 1, by go_num, by go_num, ?_, by omega, ?_, ((hBj.setCell hgw _).setCell hgw _).drew⟩
                · have := he.out; show _ = _; omega
                · rw [Hx.out, Hy.out, Hm.out, ← HN.out.1]; exact hS.drew
              case measure => simp [intOf] <;> omega
            · have hnj : n' ≤ 2 * j + 1 := by omega
              have HR := Lib.hid (revTo_end (D := E) (j := j) (by rw [HN.out.1]; exact hj) (by rw [HN.out.1]; exact hnj))
              rw [HR.out] at hPj
              have hcv := bytes_pre hPj (fun d hd => HEd.out d (by simpa using hd)) n' (by rw [List.length_reverse, HN.out.1])
              have he0 : e = (n' : Int) - 1 - (j : Int) := he.out
              have hej : ¬ (j : Int) < e := by omega
              clear he0 hnj hlj
              go_wp2_with fail
              go_ret
              exact ⟨ret_string (by rw [← List.map_reverse]; exact HV.out), hBj⟩

end Go.Proofs.YtdhpmdkfmgpcmaaDoor.natJ
