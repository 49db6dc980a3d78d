/- Walk: nat.Read. -/
import Derived.Test.YtdhpmdkfmgpcmaaDoorNatJ
import Derived.Test.YtdhpmdkfmgpcmaaDoorOwn
namespace Go.Proofs.YtdhpmdkfmgpcmaaDoor.natK
open Go.RowKit num mem natA natB natC natD natE natI dec refA refB natJ

/-- byte j of a text -/
def chr (s : ByteArray) (j : Nat) : Nat := (s.data.toList.getD j 0).toNat
theorem chr_eq (s : ByteArray) (j : Nat) (h : j < s.size) : s[j].toNat = chr s j := by
  unfold chr
  rw [List.getD, List.getElem?_eq_getElem (by rw [ba_length]; exact h)]
  rfl
theorem chr_lt (s : ByteArray) (j : Nat) : chr s j < 256 := UInt8.toNat_lt _
/-- a decimal notation -/
def readable (s : ByteArray) : Prop := s.size ≠ 0 ∧ ¬ (1 < s.size ∧ chr s 0 = 48) ∧ ∀ j, j < s.size → 48 ≤ chr s j ∧ chr s j ≤ 57
instance (s : ByteArray) : Decidable (readable s) := by unfold readable; infer_instance
/-- the number of the first k digits -/
def readV (s : ByteArray) (k : Nat) : Nat := numv ((List.range k).map fun j => chr s j - 48)
theorem readV_succ (s : ByteArray) (k : Nat) : readV s (k + 1) = readV s k * 10 + (chr s k - 48) := by
  unfold readV
  rw [List.range_succ, List.map_append]
  exact numv_snoc _ _
def readS (s : ByteArray) : ByteArray := if readable s then enc (readV s s.size) else ⟨#[]⟩
def readE (s : ByteArray) : Int := if readable s then 0 else 15

theorem text_nil (cap : Nat) (w : World) :
    Calls Tryd.prog 159 #[.slice none 0 cap] w fun e w' => e = .returned (.string (enc 0)) ∧ Below w.heap.size w w' := by
  go_enter Tryd.func159, Tryd.ntmps159
  go_wp2_with (first | (at_make; refine wpList_make_row _ rfl _ _ _ rfl 5 _ 1 Tryd.underlying124 info5 rfl _ _ _ _ 0 rfl rfl (by omega) (by omega) (by omega) (by omega) ?_))
  intro w1 hR1 hg hsz
  have hB0 : Below w.heap.size w w1 := (Below.refl _ _).grown hg (Nat.le_refl _) (by simp)
  have hR0 : Row w1 w.heap.size 5 (nums .u8 []) := hR1
  clear hR1 hg
  have hcv := bytes_row hR0 (fun d hd => by cases hd) 0 rfl
  have HF := Lib.hid (show nv ⟨(([] : List Nat).map fun d => UInt8.ofNat d).toArray⟩ = 0 from rfl)
  go_wp2_with fail
  refine wp_loop_rounds 1 ?_
  rw [rounds_succ]
  go_wp2_with (first | (go_at_call 107; refine (trim_any _ _).mono ?_; rintro e w' ⟨rfl, rfl⟩))
  go_ret
  exact ⟨ret_string (congrArg enc HF.out), hB0⟩

theorem ten_step {c x : Nat} (hc : c < 10) (hx : x < 4294967296) : ∃ t : Nat, t = c + 10 * x ∧ t < 42949672960 ∧ (c : Int) + 10 * (x : Int) = (t : Int) :=
  ⟨_, rfl, by omega, by omega⟩

theorem ten_lv {B d j c t : Nat} {Z X : List Nat} (hZ : Z.length = j) (h : lv B Z + c * B ^ j = lv B (X.take j) * 10 + d) (ht : t = c + 10 * X.getD j 0) :
    lv B (Z ++ [t % B]) + t / B * B ^ (j + 1) = lv B (X.take (j + 1)) * 10 + d := by
  rw [lv_snoc, hZ, lv_take_step, Nat.pow_succ, Nat.add_mul]
  have h1 := Nat.mod_add_div t B
  have h2 := congrArg (fun v => B ^ j * v) h1
  simp only [Nat.mul_add] at h2
  rw [ht, Nat.mul_add] at h2
  have e1 : t / B * (B ^ j * B) = B ^ j * (B * (t / B)) := by
    rw [Nat.mul_comm, Nat.mul_assoc]
  have e2 : B ^ j * X.getD j 0 * 10 = B ^ j * (10 * X.getD j 0) := by
    rw [Nat.mul_assoc, Nat.mul_comm (X.getD j 0)]
  rw [← ht] at h2
  rw [e1, e2]
  rw [Nat.mul_comm c] at h
  omega

theorem ret_se {a b : ByteArray} {c d : Int} (h : a = b) (h' : c = d) : Ending.returned (.tuple #[.string a, .int .i64 c]) = .returned (.tuple #[.string b, .int .i64 d]) := by rw [h, h']
theorem Read_large (s : ByteArray) (w : World) (h : 2000 < s.size) :
    Calls Tryd.prog 125 #[.string s] w fun e w' => e = .returned (.tuple #[.string ⟨#[]⟩, .int .i64 2]) ∧ w = w' := by
  go_enter Tryd.func125, Tryd.ntmps125
  go_wp2_with fail
  go_ret2
  exact ⟨rfl, rfl⟩

set_option maxHeartbeats 1000000 in
set_option maxRecDepth 100000 in
theorem Read_any (s : ByteArray) (w : World) (hs : s.size ≤ 2000) :
    Calls Tryd.prog 125 #[.string s] w fun e w' => e = .returned (.tuple #[.string (readS s), .int .i64 (readE s)]) ∧ Below w.heap.size w w' := by
  obtain ⟨rs, hrs⟩ : ∃ x, x = readS s := ⟨_, rfl⟩
  obtain ⟨re, hre⟩ : ∃ x, x = readE s := ⟨_, rfl⟩
  have HBAD := Lib.hid (show ¬ readable s → rs = ⟨#[]⟩ ∧ re = 15 by
    intro h; rw [hrs, hre]; unfold readS readE; rw [if_neg h, if_neg h]; exact ⟨rfl, rfl⟩)
  have HGOOD := Lib.hid (show readable s → rs = enc (readV s s.size) ∧ re = 0 by
    intro h; rw [hrs, hre]; unfold readS readE; rw [if_pos h, if_pos h]; exact ⟨rfl, rfl⟩)
  rw [← hrs, ← hre]
  clear hrs hre
  by_cases h0 : s.size = 0
  · obtain ⟨H1, H2⟩ := HBAD.out (fun h => h.1 h0)
    subst H1
    subst H2
    have he : s.toList.isEmpty = true := by
      rw [Lib.toList_data, List.isEmpty_iff]
      exact List.eq_nil_of_length_eq_zero (by rw [ba_length]; exact h0)
    clear HBAD HGOOD h0
    go_enter Tryd.func125, Tryd.ntmps125
    go_wp2_with fail
    go_ret2
    exact ⟨rfl, Below.refl _ _⟩
  · have h0' : 0 < s.size := by omega
    have he : s.toList.isEmpty = false := by
      rw [Lib.toList_data]
      cases h : s.data.toList with
      | nil => exact absurd (show s.size = 0 by rw [← ba_length, h]; rfl) h0
      | cons x l => rfl
    have hc0 := chr_eq s 0 h0'
    clear h0
    by_cases h1 : 1 < s.size ∧ chr s 0 = 48
    · obtain ⟨H1, H2⟩ := HBAD.out (fun h => h.2.1 h1)
      subst H1
      subst H2
      obtain ⟨h1, h2⟩ := h1
      have h3 : (((s[0]).toNat : Int) == 48) = true := by rw [hc0, h2]; rfl
      clear HBAD HGOOD h2 hc0
      go_enter Tryd.func125, Tryd.ntmps125
      go_wp2_with fail
      go_ret2
      exact ⟨rfl, Below.refl _ _⟩
    · have key : ¬ 1 < s.size ∨ (1 < s.size ∧ (((s[0]).toNat : Int) == 48) = false) := by
        by_cases h : 1 < s.size
        · refine .inr ⟨h, ?_⟩
          rw [hc0]
          have : chr s 0 ≠ 48 := fun e => h1 ⟨h, e⟩
          simp; omega
        · exact .inl h
      have H1 := Lib.hid h1
      have H0 := Lib.hid h0'
      clear h1 hc0
      rcases key with h1 | ⟨h1, h3⟩
      all_goals
        go_enter Tryd.func125, Tryd.ntmps125
        go_wp2_with fail
        go_loopw [4, 25] (fun vl i wr => ∃ (k : Nat) (X : List Nat) (vo : Value), vo = vl ∧ k ≤ s.size ∧ i = .int .i64 k ∧ Hid (∀ j, j < k → 48 ≤ chr s j ∧ chr s j ≤ 57) ∧ Hid (lv 4294967296 X = readV s k) ∧ Hid (∀ d ∈ X, d < 4294967296) ∧ X.length ≤ k ∧
          wr.ownsRow w.heap.size 151 1 vo X.length (nums .u32 X) ∧ Below w.heap.size w wr) (fun _ i _ => s.size - (intOf i).toNat)
        case atStart => exact ⟨0, [], _, rfl, Nat.zero_le _, rfl, (by intro j hj; exact absurd hj (Nat.not_lt_zero _)), rfl, (by intro d hd; cases hd), Nat.le_refl _, World.ownsRow_nil _ _ _ _, Below.refl _ _⟩
        case round =>
          obtain ⟨k, X, vo, rfl, hk, rfl, hdig, hlv, hX, hXl, hown, hB⟩ := hrel
          by_cases hlt : k < s.size
          · obtain ⟨c, hc⟩ : ∃ c, chr s k = c := ⟨_, rfl⟩
            have hck := chr_eq s k hlt
            rw [hc] at hck
            have hc256 : c < 256 := by rw [← hc]; exact chr_lt s k
            by_cases hlo : c < 48
            · have HE := Lib.hid (HBAD.out (fun h => by have := (h.2.2 k hlt).1; omega))
              clear hc hc256
              go_wp2_with fail
              go_ret2
              exact ⟨ret_se HE.out.1.symm HE.out.2.symm, hB⟩
            · by_cases hhi : 57 < c
              · have HE := Lib.hid (HBAD.out (fun h => by have := (h.2.2 k hlt).2; omega))
                clear hc hc256
                go_wp2_with fail
                go_ret2
                exact ⟨ret_se HE.out.1.symm HE.out.2.symm, hB⟩
              · obtain ⟨d, hd⟩ : ∃ d, c = d + 48 := ⟨c - 48, by omega⟩
                have hd10 : d < 10 := by omega
                have hl3 : ((c : Int) - 48) = (d : Int) := by omega
                have Hdig := Lib.hid (show ∀ j, j < k + 1 → 48 ≤ chr s j ∧ chr s j ≤ 57 by
                  intro j hj
                  by_cases e : j = k
                  · subst e; omega
                  · exact hdig.out j (by omega))
                have HV := Lib.hid (show readV s (k + 1) = lv 4294967296 X * 10 + d by rw [readV_succ, hlv.out, hc, hd, Nat.add_sub_cancel])
                have Hd := Lib.hid hd
                clear hc hc256 hd hdig hlv
                rcases owns_pre' (by rw [nums_length]; exact hown) with ⟨rfl, hnil⟩ | ⟨g, cp, rfl, hg, hcm, hP⟩
                · have hX0 : X = [] := by simpa [nums] using hnil
                  subst hX0
                  by_cases hd0 : d = 0
                  · subst hd0
                    go_wp2_with fail
                    refine wp_loop_rounds 1 ?_
                    rw [rounds_succ]
                    go_wp2_with fail
                    go_roundw
                    case rel => exact ⟨k + 1, [], _, rfl, by omega, by go_num, Hdig.out, by rw [HV.out]; rfl, hX, by simp, hown, hB⟩
                    case measure => simp [intOf] <;> omega
                  · have hd1 : (0 : Int) < (d : Int) := by omega
                    go_wp2_with fail
                    refine wp_loop_rounds 1 ?_
                    rw [rounds_succ]
                    go_wp2_with (first | (at_builtin; refine wpList_push rfl _ _ _ rfl w.heap.size 151 _ 4 Tryd.underlying34 natB.info151 rfl _ (nums .u32 []) rfl (by rw [nums_length]; exact hown.alloc _) _ _ rfl (cell_new1 _ _ _) rfl (by rw [nums_length]; simp) (by rw [nums_length]; simp) (by have := hB.size; simp; omega) ?_))
                    intro v' w2 hown2 hg2
                    have hB2 : Below w.heap.size w w2 := (hB.alloc hB.size _).grown hg2 (hB.alloc hB.size _).size (owned_block hown)
                    clear hown hg2 hB
                    go_wp2_with fail
                    go_roundw
                    case rel =>
                      refine ⟨k + 1, [d], v', rfl, by omega, by go_num, Hdig.out, ?_, ?_, by simp, hown2, hB2⟩
                      · rw [HV.out]; simp [Hid, lv]
                      · intro x hx
                        rw [List.mem_singleton] at hx
                        omega
                    case measure => simp [intOf] <;> omega
                · rw [nums_length] at *
                  clear hown
                  have HX := Lib.hid hX
                  have hP0 : Pre wr g 151 cp (nums .u32 ([] ++ X.drop 0)) := hP
                  clear hP
                  obtain ⟨wo, rfl⟩ : ∃ wo : World, wo = wr := ⟨_, rfl⟩
                  go_wp2_with fail
                  go_loopw [6, 45] (fun cr i wr => ∃ (j c : Nat) (Z : List Nat), j ≤ X.length ∧ i = .int .i64 j ∧ cr = .int .u64 c ∧ c < 10 ∧ Hid (Z.length = j) ∧ Hid (∀ d ∈ Z, d < 4294967296) ∧ Hid (lv 4294967296 Z + c * 4294967296 ^ j = lv 4294967296 (X.take j) * 10 + d) ∧
                    Pre wr g 151 cp (nums .u32 (Z ++ X.drop j)) ∧ Below w.heap.size w wr) (fun _ i _ => X.length - (intOf i).toNat)
                  case atStart => exact ⟨0, d, [], Nat.zero_le _, rfl, rfl, hd10, rfl, (by intro d hd; cases hd), by simp [Hid, lv], hP0, hB⟩
                  case round =>
                    obtain ⟨j, c', Z, hj, rfl, rfl, hc', hZl, hZ, hlv, hPj, hBj⟩ := hrel
                    clear hP0 hB
                    by_cases hlj : j < X.length
                    · first
                      | (exfalso; omega)
                      | (obtain ⟨x, hx⟩ : ∃ x, x = X.getD j 0 := ⟨_, rfl⟩
                         have hxl : x < 4294967296 := by rw [hx]; exact getD_lt (by omega) HX.out j
                         have c1 := hPj.int (i := j) (by have := hZl.out; simp; omega)
                         rw [append_drop_getD hZl.out, ← hx] at c1
                         have f1 := hPj.frozen j
                         obtain ⟨t, ht, htl, hw⟩ := ten_step hc' hxl
                         have hst := Lib.hid (ten_lv (t := t) hZl.out hlv.out (ht.trans (by rw [hx])))
                         have HW := Lib.hid hw
                         have ht2 : (t : Int) % 4294967296 = ((t % 4294967296 : Nat) : Int) := by omega
                         have ht3 : (t : Int) / 4294967296 = ((t / 4294967296 : Nat) : Int) := by omega
                         have HT := Lib.hid (And.intro ht2 ht3)
                         clear hx ht hw ht2 ht3
                         go_wp2_with fail
                         go_roundw
                         case rel =>
                           rw [HW.out, HT.out.1, HT.out.2]
                           have hR' := hPj.int_set j (t % 4294967296)
                           rw [append_set_drop hZl.out hlj] at hR'
                           exact ⟨j + 1, t / 4294967296, Z ++ [t % 4294967296], by omega, by go_num, rfl, by omega, by have := hZl.out; simp [Hid, this], all_snoc hZ.out (Nat.mod_lt _ (by omega)), hst.out, hR', hBj.setCell hg _⟩
                         case measure => simp [intOf] <;> omega)
                    · obtain rfl : j = X.length := by omega
                      rw [List.drop_of_length_le (Nat.le_refl _), List.append_nil] at hPj
                      have hown' := pre_owns hPj hg hcm
                      rw [nums_length, hZl.out] at hown'
                      have HF := Lib.hid (show lv 4294967296 Z + c' * 4294967296 ^ Z.length = readV s (k + 1) by
                        rw [HV.out, hZl.out]
                        have := hlv.out
                        rw [lv_take_of_le _ _ (Nat.le_refl _)] at this
                        exact this)
                      clear hPj hlj hlv
                      by_cases hc0 : c' = 0
                      · subst hc0
                        go_wp2_with fail
                        go_roundw
                        case rel =>
                          refine ⟨k + 1, Z, _, rfl, by omega, by go_num, Hdig.out, ?_, hZ.out, by rw [hZl.out]; omega, by rw [hZl.out]; exact hown', hBj⟩
                          have := HF.out
                          rw [Nat.zero_mul, Nat.add_zero] at this
                          exact this
                        case measure => simp [intOf] <;> omega
                      · have hc1 : (0 : Int) < (c' : Int) := by omega
                        go_wp2_with (first | (at_builtin; refine wpList_push rfl _ _ _ rfl w.heap.size 151 _ 4 Tryd.underlying34 natB.info151 rfl _ (nums .u32 Z) rfl (by rw [nums_length, hZl.out]; exact hown'.alloc _) _ _ rfl (cell_new1 _ _ _) rfl (by rw [nums_length]; rw [hZl.out]; omega) (by rw [nums_length]; rw [hZl.out]; omega) (by have := hBj.size; simp; omega) ?_))
                        intro v' w2 hown2 hg2
                        have hB2 : Below w.heap.size w w2 := (hBj.alloc hBj.size _).grown hg2 (hBj.alloc hBj.size _).size (owned_block hown')
                        rw [nums_snoc, nums_length] at hown2
                        clear hown' hg2 hBj
                        go_wp2_with fail
                        go_roundw
                        case rel =>
                          refine ⟨k + 1, Z ++ [c'], v', rfl, by omega, by go_num, Hdig.out, ?_, all_snoc hZ.out (by omega), by rw [List.length_append, hZl.out]; simp; omega, by rw [List.length_append]; exact hown2, hB2⟩
                          rw [lv_snoc, Nat.mul_comm (4294967296 ^ Z.length)]
                          exact HF.out
                        case measure => simp [intOf] <;> omega
          · obtain rfl : k = s.size := by omega
            have HE := Lib.hid (HGOOD.out ⟨by have := H0.out; omega, H1.out, hdig.out⟩)
            have HV := Lib.hid hlv.out
            rcases owns_pre' (by rw [nums_length]; exact hown) with ⟨rfl, hnil⟩ | ⟨g, cp, rfl, hg, hcm, hP⟩
            · have hX0 : X = [] := by simpa [nums] using hnil
              subst hX0
              go_wp2_with fail
              refine (text_nil _ _).mono ?_
              rintro e w' ⟨rfl, hb⟩
              go_wp2_with fail
              go_ret2
              exact ⟨ret_se (by rw [HE.out.1, ← HV.out]; rfl) HE.out.2.symm, hB.trans (hb.mono hB.size)⟩
            · rw [nums_length] at *
              go_wp2_with fail
              refine (text_pre g _ _ X _ hP hX.out (by omega)).mono ?_
              rintro e w' ⟨rfl, hb⟩
              go_wp2_with fail
              go_ret2
              exact ⟨ret_se (by rw [HE.out.1, HV.out]) HE.out.2.symm, hB.trans (hb.mono hB.size)⟩

end Go.Proofs.YtdhpmdkfmgpcmaaDoor.natK
