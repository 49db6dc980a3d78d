/- Walk: gantref1.Decimal. -/
import Derived.Test.YtdhpmdkfmgpcmaaDoorRefF
import Derived.Test.YtdhpmdkfmgpcmaaDoorNatK
import Derived.Lib.ConvBytes
namespace Go.Proofs.YtdhpmdkfmgpcmaaDoor.refG
open Go.RowKit num mem natA natB natC natD dec refA refB natJ natK

/-- the number of digits in base 256, the first one first -/
def bv (l : List Nat) : Nat := l.foldl (fun v d => v * 256 + d) 0
theorem bv_nil : bv [] = 0 := rfl
theorem bv_snoc (l : List Nat) (d : Nat) : bv (l ++ [d]) = bv l * 256 + d := by unfold bv; rw [List.foldl_append]; rfl
theorem take_getD_succ (l : List Nat) (k : Nat) (h : k < l.length) : l.take (k + 1) = l.take k ++ [l.getD k 0] := by
  rw [List.take_succ_eq_append_getElem h]
  simp [List.getD, List.getElem?_eq_getElem h]
theorem bv_bytes : ∀ (l : List UInt8), bv (l.map (·.toNat)) = nvl l := by
  intro l
  unfold bv nvl
  rw [List.foldl_map]
/-- cells that are read as bytes -/
def Cells (w : World) (b : Nat) (L : List Nat) : Prop := ∀ i, i < L.length → w.cell? ⟨b, i, none⟩ = some (.int .u8 ((L.getD i 0 : Nat) : Int))
theorem Cells.below {w w' : World} {b B : Nat} {L : List Nat} (h : Cells w b L) (hb : Below B w w') (hB : b < B) : Cells w' b L := by
  intro i hi
  have := h i hi
  unfold World.cell? at this ⊢
  rw [hb.block b hB]
  exact this
theorem Pre.cells {w : World} {b T cap : Nat} {L : List Nat} (h : Pre w b T cap (nums .u8 L)) : Cells w b L := fun _ hi => h.int hi
theorem dec_step {V c r Q : Nat} (hr : r = V % 10) (hQ : Q = V / 10) : (V * 256 + c) / 10 = Q * 256 + (256 * r + c) / 10 ∧ (V * 256 + c) % 10 = (256 * r + c) % 10 := by omega
theorem ascii_snoc (D : List Nat) (r : Nat) : ascii (D ++ [r]) = ⟨#[UInt8.ofNat (48 + r)] ++ (ascii D).data⟩ := by
  unfold ascii
  simp
theorem ascii_cat (D : List Nat) (r : Nat) : (⟨#[UInt8.ofNat (48 + r)]⟩ : ByteArray) ++ ascii D = ascii (D ++ [r]) := by
  rw [ascii_snoc]
  apply ba_ext
  simp [ByteArray.data_append]

theorem bytes_below (w : World) (e : TypeId) (s : ByteArray) : Below w.heap.size w (Lib.bytesWorld w e s) :=
  ⟨rfl, rfl, rfl, by rw [Lib.bytesWorld_size]; omega, fun k hk => Lib.bytesWorld_at_old w e s k hk⟩
theorem bytes_cells (w : World) (e : TypeId) (s : ByteArray) : Cells (Lib.bytesWorld w e s) w.heap.size (s.data.toList.map (·.toNat)) := by
  intro i hi
  rw [List.length_map, ba_length] at hi
  rw [Lib.bytesWorld_cell w e s i hi]
  have hl : i < s.data.toList.length := by rw [ba_length]; exact hi
  simp [List.getD, List.getElem?_eq_getElem hl]

theorem ascii_size (D : List Nat) : (ascii D).size = D.length := by
  unfold ascii
  simp [ByteArray.size]
theorem encode_digit {r : Nat} (hr : r < 10) : Utf8.encode (48 + (r : Int)) = ⟨#[UInt8.ofNat (48 + r)]⟩ := by
  have k : ∀ r : Fin 10, Utf8.encode (48 + ((r.val : Nat) : Int)) = ⟨#[UInt8.ofNat (48 + r.val)]⟩ := by decide +kernel
  exact k ⟨r, hr⟩
theorem own_len {w : World} {base e : Nat} {v : Value} {Q : List Nat} (h : w.ownsRow base e 1 v Q.length (nums .u8 Q)) (u : World) :
    (Builtin.len_ #[124] 3 #[v]).run Tryd.prog u = .ok (.int .i64 (Q.length : Nat)) u := by
  rcases owns_pre (by rw [nums_length]; exact h) with ⟨rfl, hnil⟩ | ⟨g, cp, rfl, _, _⟩
  · have : Q = [] := by simpa [nums] using hnil
    subst this
    simp [Builtin.len_, goInt]
  · rw [nums_length]
    simp [Builtin.len_, goInt]

set_option maxHeartbeats 1000000 in
set_option maxRecDepth 100000 in
theorem Decimal_any (a : ByteArray) (w : World) (ha : a.size ≤ 17592186044416) :
    Calls Tryd.prog 48 #[.string a] w fun e w' => e = .returned (.string (dec (nv a))) ∧ Below w.heap.size w w' := by
  obtain ⟨n, hn⟩ : ∃ n, nv a = n := ⟨_, rfl⟩
  have hdl : (decL n).length ≤ 52776558133248 := by
    have h1 := decL_bytes (nv_lt a)
    rw [hn] at h1
    omega
  have hla : (enc n).size ≤ 17592186044416 := by rw [← hn]; exact Nat.le_trans (enc_nv_le a) ha
  rw [hn]
  have Hn := Lib.hid hn
  have Hdl := Lib.hid hdl
  clear hdl hn
  have hcv := Lib.run_convert_string_bytes (P := Tryd.prog) w 9 124 5 (enc n) Tryd.underlying9 Tryd.underlying124 Tryd.underlying5
  obtain ⟨w1, hw1⟩ : ∃ x, Lib.bytesWorld w 5 (enc n) = x := ⟨_, rfl⟩
  have hC1 := bytes_cells w 5 (enc n)
  have hB1 := bytes_below w 5 (enc n)
  have hs1 : w1.heap.size = w.heap.size + 1 := by rw [← hw1, Lib.bytesWorld_size]
  rw [hw1] at hcv hC1 hB1
  obtain ⟨cap, hcap⟩ : ∃ x, grownCap w (enc n).size 0 5 = x := ⟨_, rfl⟩
  rw [hcap] at hcv
  have HW := Lib.hid (And.intro hw1 hcap)
  clear hw1 hcap
  go_enter Tryd.func48, Tryd.ntmps48
  go_wp2_with fail
  refine (Bare_any a _).mono ?_
  rintro e w' ⟨rfl, rfl⟩
  rw [Hn.out]
  go_wp2_with fail
  go_loopg [3, 4] (decL n).length (fun g ss sl wr => ∃ (D L : List Nat), g = (decL (bv L)).length ∧ ss = .string (ascii D) ∧ Hid (decL n = D ++ decL (bv L)) ∧ Hid (0 < L.length → 0 < bv L) ∧ Hid (∀ d ∈ L, d < 256) ∧ L.length ≤ 17592186044416 ∧
      ((sl = .slice none 0 0 ∧ L = []) ∨ ∃ b cp, sl = .slice (some ⟨b, 0, none⟩) L.length cp ∧ Hid (Cells wr b L) ∧ b < wr.heap.size) ∧ Below w.heap.size w wr)
  case atStart =>
    have hbv : bv ((enc n).data.toList.map (·.toNat)) = n := by rw [bv_bytes]; exact nv_enc n
    have hll : ((enc n).data.toList.map (·.toNat)).length = (enc n).size := by rw [List.length_map, ba_length]
    refine ⟨[], _, by rw [hbv], rfl, by rw [hbv]; rfl, ?_, ?_, by rw [hll]; exact hla, .inr ⟨w.heap.size, cap, by rw [hll], hC1, by omega⟩, hB1⟩
    · intro h
      rw [hll] at h
      rw [hbv]
      apply Nat.pos_of_ne_zero
      intro h0
      rw [h0, enc_zero] at h
      exact absurd h (by decide)
    · intro d hd
      obtain ⟨x, _, rfl⟩ := List.mem_map.1 hd
      exact UInt8.toNat_lt _
  case round =>
    obtain ⟨wo, rfl⟩ : ∃ wo : World, wo = wr := ⟨_, rfl⟩
    obtain ⟨D, L, hg, rfl, hdec, hpos, hLd, hLl, hsl, hB⟩ := hrel
    clear hC1 hB1 hcv hs1
    by_cases hL0 : L.length = 0
    · have hLn : L = [] := List.eq_nil_of_length_eq_zero hL0
      subst hLn
      have hD : decL n = D := by have := hdec.out; rw [bv_nil, decL_zero, List.append_nil] at this; exact this
      clear hg hdec hpos hLd hLl hL0
      by_cases hn0 : n = 0
      · have hD0 : D = [] := by rw [← hD, hn0, decL_zero]
        subst hD0
        have HV := Lib.hid (show dec n = ⟨#[48]⟩ by rw [hn0, dec_zero])
        have h1 : ascii [] = ⟨#[]⟩ := rfl
        rw [h1]
        clear hD hn0 h1
        rcases hsl with ⟨rfl, _⟩ | ⟨b, cp, rfl, _, _⟩
        all_goals
          go_wp2_with fail
          go_ret
          exact ⟨ret_string HV.out.symm, hB⟩
      · have HV := Lib.hid (show dec n = ascii D by rw [dec_pos hn0, hD])
        obtain ⟨x, hx⟩ : ∃ x, ascii D = x := ⟨_, rfl⟩
        have hne : x.toList.isEmpty = false := by
          rw [← hx, Lib.toList_data]
          cases h : (ascii D).data.toList with
          | nil =>
            have h2 : (ascii D).data.toList.length = 0 := by rw [h]; rfl
            rw [ba_length, ascii_size] at h2
            exact absurd (hD.trans (List.eq_nil_of_length_eq_zero h2)) (decL_ne_nil hn0)
          | cons x l => rfl
        rw [hx] at HV ⊢
        clear hD hn0 hx
        rcases hsl with ⟨rfl, _⟩ | ⟨b, cp, rfl, _, _⟩
        all_goals
          go_wp2_with fail
          go_ret
          exact ⟨ret_string HV.out.symm, hB⟩
    · have hsl2 : ∃ b cp, _ ∧ Hid (Cells wo b L) ∧ b < wo.heap.size := hsl.resolve_left (fun h => hL0 (by rw [h.2]; rfl))
      obtain ⟨b, cp, rfl, hC, hb⟩ := hsl2
      have hv0 := hpos.out (by omega)
      have hgk : gk = (decL (bv L / 10)).length + 1 := by rw [hg, decL_pos (by omega)]; rfl
      subst hgk
      clear hg hsl
      have hL1 : 0 < L.length := by omega
      go_wp2_with fail
      go_loopw [5, 6, 17] (fun q rr i wr => ∃ (k r : Nat) (Q : List Nat) (vo : Value), vo = q ∧ k ≤ L.length ∧ i = .int .i64 k ∧ rr = .int .i64 r ∧ r < 10 ∧ Hid (bv Q = bv (L.take k) / 10 ∧ r = bv (L.take k) % 10) ∧ Hid (0 < Q.length → 0 < bv Q) ∧ Hid (∀ d ∈ Q, d < 256) ∧ Q.length ≤ k ∧
          wr.ownsRow wo.heap.size 5 1 vo Q.length (nums .u8 Q) ∧ Below wo.heap.size wo wr) (fun _ _ i _ => L.length - (intOf i).toNat)
      case atStart => exact ⟨0, 0, [], _, rfl, Nat.zero_le _, rfl, rfl, by omega, (by show _ ∧ _; rw [List.take_zero]; exact ⟨rfl, rfl⟩), (by intro h; exact absurd h (Nat.lt_irrefl _)), (by intro d hd; cases hd), Nat.le_refl _, World.ownsRow_nil _ _ _ _, Below.refl _ _⟩
      case round =>
        obtain ⟨k, r, Q, vo, rfl, hk, rfl, rfl, hr, hQ, hQp, hQd, hQl, hown, hBr⟩ := hrel
        by_cases hlt : k < L.length
        · obtain ⟨c, hc⟩ : ∃ c, c = L.getD k 0 := ⟨_, rfl⟩
          have hcl : c < 256 := by rw [hc]; exact getD_lt (by omega) hLd.out k
          have c1 : wr.cell? ⟨b, k, none⟩ = some (.int .u8 (c : Int)) := by rw [hc]; exact (hC.out.below hBr hb) k hlt
          have hst := dec_step (V := bv (L.take k)) (c := c) hQ.out.2 hQ.out.1
          have htk : bv (L.take (k + 1)) = bv (L.take k) * 256 + c := by rw [take_getD_succ L k hlt, bv_snoc, hc]
          rw [← htk] at hst
          have hlen := own_len hown wr
          obtain ⟨T, hT⟩ : ∃ T, T = 256 * r + c := ⟨_, rfl⟩
          have hTl : T ≤ 2559 := by omega
          have hTc : (256 : Int) * (r : Int) + (c : Int) = (T : Int) := by omega
          rw [← hT] at hst
          have hT2 : (T : Int) % 10 = ((T % 10 : Nat) : Int) := by omega
          have hT3 : (T : Int) / 10 = ((T / 10 : Nat) : Int) := by omega
          have HST := Lib.hid hst
          have HTT := Lib.hid (And.intro hT2 hT3)
          clear hc hst htk hT hT2 hT3
          by_cases hQ0 : 0 < Q.length
          · go_wp2_with (first | (at_builtin; refine wpList_push rfl _ _ _ rfl wo.heap.size 5 _ 1 Tryd.underlying124 natB.info5 rfl _ (nums .u8 Q) rfl (by rw [nums_length]; exact hown.alloc _) _ _ rfl (cell_new1 _ _ _) rfl (by rw [nums_length]; omega) (by rw [nums_length]; omega) (by have := hBr.size; simp; omega) ?_))
            intro v' w2 hown2 hg2
            have hB2 : Below wo.heap.size wo w2 := (hBr.alloc hBr.size _).grown hg2 (hBr.alloc hBr.size _).size (owned_block hown)
            clear hown hg2 hBr hlen c1
            go_wp2_with fail
            rw [HTT.out.2, nums_snoc, nums_length] at hown2
            go_roundw
            case rel =>
              refine ⟨k + 1, T % 10, Q ++ [T / 10], v', rfl, by omega, by go_num, by rw [HTT.out.1], by omega, ?_, ?_, all_snoc hQd.out (by omega), by rw [List.length_append]; simp; omega, by rw [List.length_append]; exact hown2, hB2⟩
              · show _ ∧ _
                rw [bv_snoc, HST.out.1, HST.out.2]
                exact ⟨rfl, rfl⟩
              · intro _
                rw [bv_snoc]
                have := hQp.out hQ0
                omega
            case measure => simp [intOf] <;> omega
          · have hQn : Q = [] := List.eq_nil_of_length_eq_zero (by omega)
            subst hQn
            by_cases hT9 : 9 < T
            · go_wp2_with (first | (at_builtin; refine wpList_push rfl _ _ _ rfl wo.heap.size 5 _ 1 Tryd.underlying124 natB.info5 rfl _ (nums .u8 []) rfl (by exact hown.alloc _) _ _ rfl (cell_new1 _ _ _) rfl (by simp [nums]) (by simp [nums]) (by have := hBr.size; simp; omega) ?_))
              intro v' w2 hown2 hg2
              have hB2 : Below wo.heap.size wo w2 := (hBr.alloc hBr.size _).grown hg2 (hBr.alloc hBr.size _).size (owned_block hown)
              clear hown hg2 hBr hlen c1
              go_wp2_with fail
              rw [HTT.out.2] at hown2
              go_roundw
              case rel =>
                refine ⟨k + 1, T % 10, [T / 10], v', rfl, by omega, by go_num, by rw [HTT.out.1], by omega, ?_, ?_, ?_, by simp, hown2, hB2⟩
                · show _ ∧ _
                  rw [HST.out.1, HST.out.2]
                  exact ⟨by simp [bv], rfl⟩
                · intro _
                  show 0 < bv [T / 10]
                  simp [bv]
                  omega
                · intro d hd
                  rw [List.mem_singleton] at hd
                  omega
              case measure => simp [intOf] <;> omega
            · go_wp2_with fail
              go_roundw
              case rel =>
                refine ⟨k + 1, T % 10, [], _, rfl, by omega, by go_num, by rw [HTT.out.1], by omega, ?_, hQp.out, hQd.out, by simp, hown, hBr⟩
                show _ ∧ _
                rw [HST.out.1, HST.out.2]
                exact ⟨by simp [bv]; omega, rfl⟩
              case measure => simp [intOf] <;> omega
        · obtain rfl : k = L.length := by omega
          have hfin := hQ.out
          rw [List.take_of_length_le (Nat.le_refl _)] at hfin
          have HF := Lib.hid hfin
          clear hfin hQ hlt
          obtain ⟨en, hen⟩ : ∃ en, Utf8.encode (48 + (r : Int)) = en := ⟨_, rfl⟩
          have hen2 : en = ⟨#[UInt8.ofNat (48 + r)]⟩ := by rw [← hen]; exact encode_digit hr
          have hDl : D.length ≤ 52776558133248 := by
            have h1 := Hdl.out
            rw [hdec.out, List.length_append] at h1
            omega
          have hz : ¬ 9223372036854775807 < en.size + (ascii D).size := by
            rw [hen2, ascii_size]
            show ¬ _ < 1 + D.length
            omega
          have HE := Lib.hid hen2
          clear hen2
          go_wp2_with fail
          go_roundg (decL (bv L / 10)).length
          case measure => omega
          case rel =>
            refine ⟨D ++ [r], Q, by rw [HF.out.1], ?_, ?_, hQp.out, hQd.out, by omega, ?_, hB.trans (hBr.mono hB.size)⟩
            · rw [HE.out, ascii_cat]
            · show _ = _
              rw [HF.out.1, HF.out.2]
              exact decL_snoc hdec.out (by omega)
            · rcases owns_pre (by rw [nums_length]; exact hown) with ⟨rfl, hnil⟩ | ⟨g, cq, rfl, hgb, hP⟩
              · exact .inl ⟨rfl, by simpa [nums] using hnil⟩
              · exact .inr ⟨g, cq, by rw [nums_length], Pre.cells hP, hP.lt⟩

end Go.Proofs.YtdhpmdkfmgpcmaaDoor.refG
