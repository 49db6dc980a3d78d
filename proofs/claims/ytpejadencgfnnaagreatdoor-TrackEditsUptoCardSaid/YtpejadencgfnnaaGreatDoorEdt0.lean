/- Plain law: tracks joined, cut and delayed. No program. -/
import Derived.Test.YtpejadencgfnnaaGreatDoorGrpG
namespace Go.Proofs.YtpejadencgfnnaaGreatDoor.eng
open Go.RowKit num mem seg q held ratA ratB ratC ratD ratE vars ratF argopen
/-- a key with good numbers -/
def gdK (k : Int × List RV) : Int × List Rat := (k.1, qsL k.2)
def cnK (k : Int × List Rat) : Int × List RV := (k.1, k.2.map cn)
def gcK (k : Int × List RV) : Int × List RV := cnK (gdK k)
theorem keyC_cn (k : Int × List Rat) : keyC k = keyD (cnK k) := by
  unfold keyC keyD cnK
  rw [List.map_map]; rfl
theorem keysC_cn (l : List (Int × List Rat)) : List.map keyC l = List.map keyD (l.map cnK) := by
  rw [List.map_map]
  congr 1
  funext k
  exact keyC_cn k
theorem gd_at (q : List RV) (i : Nat) : ((qsL q).map cn)[i]? = (q[i]?).map fun x => cn x.q := by simp [qsL]; rfl
theorem gd_len (q : List RV) : ((qsL q).map cn).length = q.length := by simp [qsL]
theorem far_gd (A : ArmV) (q : List RV) : farQ A ((qsL q).map cn) ↔ farQ A q := by
  constructor
  · rintro ⟨i, l, x, hl, hx, h⟩
    rw [gd_at] at hx
    obtain ⟨y, hy, rfl⟩ := Option.map_eq_some_iff.1 hx
    rw [cn_q] at h
    exact ⟨i, l, y, hl, hy, h⟩
  · rintro ⟨i, l, y, hl, hy, h⟩
    exact ⟨i, l, cn y.q, hl, by rw [gd_at, hy]; rfl, by rw [cn_q]; exact h⟩
theorem fits_gd (A : ArmV) (q : List RV) : fitsE A ((qsL q).map cn) = fitsE A q := by
  unfold fitsE
  rw [gd_len]
  by_cases h : farQ A q
  · rw [if_pos h, if_pos ((far_gd A q).2 h)]
  · rw [if_neg h, if_neg (fun g => h ((far_gd A q).1 g))]
theorem fast_gd (A : ArmV) (p k : Int × List RV) : fastP A (gcK p) (gcK k) ↔ fastP A p k := by
  constructor
  · rintro ⟨i, l, x, y, hl, hx, hy, h⟩
    rw [show (gcK p).2 = (qsL p.2).map cn from rfl, gd_at] at hx
    rw [show (gcK k).2 = (qsL k.2).map cn from rfl, gd_at] at hy
    obtain ⟨x', hx', rfl⟩ := Option.map_eq_some_iff.1 hx
    obtain ⟨y', hy', rfl⟩ := Option.map_eq_some_iff.1 hy
    rw [cn_q, cn_q] at h
    exact ⟨i, l, x', y', hl, hx', hy', h⟩
  · rintro ⟨i, l, x, y, hl, hx, hy, h⟩
    exact ⟨i, l, cn x.q, cn y.q, hl, by rw [show (gcK p).2 = (qsL p.2).map cn from rfl, gd_at, hx]; rfl, by rw [show (gcK k).2 = (qsL k.2).map cn from rfl, gd_at, hy]; rfl, by rw [cn_q, cn_q]; exact h⟩
theorem key1_gd (A : ArmV) (k : Int × List RV) : key1 A (gcK k) = key1 A k := by
  unfold key1
  rw [show (gcK k).2 = (qsL k.2).map cn from rfl, fits_gd]; rfl
theorem key2_gd (A : ArmV) (p k : Int × List RV) : key2 A (gcK p) (gcK k) = key2 A p k := by
  unfold key2
  rw [key1_gd]
  by_cases h : fastP A p k
  · rw [if_pos h, if_pos ((fast_gd A p k).2 h)]; rfl
  · rw [if_neg h, if_neg (fun g => h ((fast_gd A p k).1 g))]; rfl
theorem tAt_gd (t : List (Int × List RV)) (i : Nat) : tAt (t.map gcK) i = gcK (tAt t i) := by
  unfold tAt
  rw [List.getElem?_map]
  cases t[i]? <;> rfl
theorem keyE_gd (A : ArmV) (t : List (Int × List RV)) (i : Nat) : keyE A (t.map gcK) i = keyE A t i := by
  unfold keyE
  rw [tAt_gd, tAt_gd, key1_gd, key2_gd]
theorem track_gd (A : ArmV) (t : List (Int × List RV)) : trackE A (t.map gcK) = trackE A t := by
  unfold trackE
  rw [List.length_map, show keyE A (t.map gcK) = keyE A t from funext fun i => keyE_gd A t i]
/-! what a valid track gives -/
theorem track_ok {A : ArmV} {t : List (Int × List RV)} (h : trackE A t = 0) : armE A = 0 ∧ ¬ t.length = 0 ∧ ¬ 60 < t.length ∧ ∀ j, j < t.length → keyE A t j = 0 := by
  by_cases a : armE A = 0
  · by_cases b : t.length = 0
    · rw [trackE_nil a b] at h; exact absurd h (by decide)
    · by_cases c : 60 < t.length
      · rw [trackE_big a b c] at h; exact absurd h (by decide)
      · refine ⟨a, b, c, firstE_zero ?_⟩
        unfold trackE at h
        rw [if_pos a, if_neg b, if_neg c] at h; exact h
  · rw [trackE_arm a] at h; exact absurd h a
theorem key2_ok {A : ArmV} {p k : Int × List RV} (h : key2 A p k = 0) : key1 A k = 0 ∧ p.1 < k.1 := by
  by_cases a : key1 A k = 0
  · by_cases b : k.1 ≤ p.1
    · rw [key2_9 a b] at h; exact absurd h (by decide)
    · exact ⟨a, by omega⟩
  · rw [key2_1 a] at h; exact absurd h a
theorem track_key {A : ArmV} {t : List (Int × List RV)} (h : trackE A t = 0) {i : Nat} {k : Int × List RV} (hk : t[i]? = some k) : (0 ≤ k.1 ∧ k.1 ≤ 2000) ∧ k.2.length = A.links.length := by
  have hi := (List.getElem?_eq_some_iff.1 hk).1
  have h1 := key1_ok.1 (keyE_fits hk ((track_ok h).2.2.2 i hi))
  exact ⟨h1.1, (fits_len h1.2).1⟩
theorem track_up {A : ArmV} {t : List (Int × List RV)} (h : trackE A t = 0) {i : Nat} {p k : Int × List RV} (hp : t[i]? = some p) (hk : t[i + 1]? = some k) : p.1 < k.1 := by
  have hi := (List.getElem?_eq_some_iff.1 hk).1
  have e := (track_ok h).2.2.2 (i + 1) hi
  rw [keyE_s (by omega) hp hk] at e
  exact (key2_ok e).2
/-- the joint values at a key's tick are the key's -/
theorem atI_key {A : ArmV} {t : List (Int × List RV)} (h : trackE A t = 0) : ∀ (i : Nat) {k : Int × List RV}, t[i]? = some k → i = 0 ∨ atI t k.1 i k
  | 0, k, _ => .inl rfl
  | i + 1, k, hk => by
    have hi := (List.getElem?_eq_some_iff.1 hk).1
    have hp : t[i]? = some _ := List.getElem?_eq_getElem (by omega : i < t.length)
    have hlt := track_up h hp hk
    refine .inr ?_
    -- walk up from the first key
    have h0 : t[0]? = some _ := List.getElem?_eq_getElem (by omega : 0 < t.length)
    have up : ∀ j, j ≤ i → ∀ q, t[j]? = some q → q.1 < k.1 ∧ atI t k.1 j q := by
      intro j
      induction j with
      | zero =>
        intro _ q hq
        have hlt0 : q.1 < k.1 := mono h (by omega) hq hk
        exact ⟨hlt0, atI_0 hq (by omega)⟩
      | succ j ih =>
        intro hj q hq
        have hq0 : t[j]? = some _ := List.getElem?_eq_getElem (by omega : j < t.length)
        obtain ⟨_, ha⟩ := ih (by omega) _ hq0
        have hlt1 : q.1 < k.1 := mono h (by omega) hq hk
        exact ⟨hlt1, atI_s ha hq (by omega)⟩
    obtain ⟨_, ha⟩ := up i (Nat.le_refl _) _ hp
    exact atI_s ha hk (by omega)
where
  mono {A : ArmV} {t : List (Int × List RV)} (h : trackE A t = 0) {i j : Nat} (hij : i < j) {p k : Int × List RV} (hp : t[i]? = some p) (hk : t[j]? = some k) : p.1 < k.1 := by
    obtain ⟨d, rfl⟩ : ∃ d, j = i + 1 + d := ⟨j - i - 1, by omega⟩
    induction d generalizing k with
    | zero => exact track_up h hp hk
    | succ d ih =>
      have hj := (List.getElem?_eq_some_iff.1 hk).1
      have hm : t[i + 1 + d]? = some _ := List.getElem?_eq_getElem (by omega : i + 1 + d < t.length)
      have := ih (by omega) hm
      have := track_up h hm hk
      omega
theorem itF_zero (a b : List RV) (i : Nat) : itF 0 a b i = qAt a i := by unfold itF; rw [Rat.zero_mul, Rat.add_zero]
theorem itL_zero {a b : List RV} (h : a.length = b.length) : itL 0 a b (min a.length b.length) = qsL a := by
  apply List.ext_getElem?
  intro i
  unfold itL qsL
  rw [List.getElem?_map, List.getElem?_map]
  by_cases hi : i < a.length
  · rw [List.getElem?_eq_getElem (by simp; omega), List.getElem?_eq_getElem hi]
    simp only [Option.map_some, List.getElem_range]
    rw [itF_zero, qAt_is (List.getElem?_eq_getElem hi)]
  · rw [List.getElem?_eq_none (by simp; omega), List.getElem?_eq_none (by omega)]; rfl
theorem atL_key {A : ArmV} {t : List (Int × List RV)} (h : trackE A t = 0) {i : Nat} {k : Int × List RV} (hk : t[i]? = some k) : atL t k.1 = qsL k.2 := by
  rcases atI_key h i hk with rfl | ha
  · exact atL_0 hk (Int.le_refl _)
  · by_cases hi : i + 1 < t.length
    · have hy : t[i + 1]? = some _ := List.getElem?_eq_getElem hi
      rw [atI_it ha hy (track_up h hk hy), show ((k.1 : Rat) - (k.1 : Rat)) = 0 from by grind, show (0 : Rat) / _ = 0 from by rw [Rat.div_def, Rat.zero_mul], itL_zero (by rw [(track_key h hk).2, (track_key h hy).2])]
    · exact atI_end ha (by omega)
/-! joined -/
noncomputable def joinE (A : ArmV) (t u : List (Int × List RV)) : Int := if trackE A t = 0 then (if trackE A u = 0 then trackE A (t ++ u) else trackE A u) else trackE A t
noncomputable def joinV (A : ArmV) (t u : List (Int × List RV)) : List (Int × List Rat) := if joinE A t u = 0 then (t ++ u).map gdK else []
section
variable {A : ArmV} {t u : List (Int × List RV)}
theorem joinE_1 (h : ¬ trackE A t = 0) : joinE A t u = trackE A t := if_neg h
theorem joinE_2 (h : trackE A t = 0) (g : ¬ trackE A u = 0) : joinE A t u = trackE A u := by unfold joinE; rw [if_pos h, if_neg g]
theorem joinE_3 (h : trackE A t = 0) (g : trackE A u = 0) : joinE A t u = trackE A (t ++ u) := by unfold joinE; rw [if_pos h, if_pos g]
theorem joinV_no (h : ¬ joinE A t u = 0) : joinV A t u = [] := if_neg h
theorem joinV_ok (h : joinE A t u = 0) : joinV A t u = (t ++ u).map gdK := if_pos h
end
/-! cut -/
def cutBad (s e : Int) : Prop := s < 0 ∨ e ≤ s ∨ 2000 < e
instance (s e : Int) : Decidable (cutBad s e) := by unfold cutBad; infer_instance
def cutK (t : List (Int × List RV)) (s e : Int) : List (Int × List RV) := t.filter fun k => decide (s < k.1) && decide (k.1 < e)
def cutT (t : List (Int × List RV)) (s e : Int) : List (Int × List Rat) := (s, atL t s) :: ((cutK t s e).map gdK ++ [(e, atL t e)])
def ctE (t : List (Int × List RV)) (s e : Int) : Int := if cutBad s e then 1 else if 60 < (cutK t s e).length + 2 then 2 else 0
def ctV (t : List (Int × List RV)) (s e : Int) : List (Int × List Rat) := if ctE t s e = 0 then cutT t s e else []
noncomputable def tcE (A : ArmV) (t : List (Int × List RV)) (s e : Int) : Int := if trackE A t = 0 then ctE t s e else trackE A t
noncomputable def tcV (A : ArmV) (t : List (Int × List RV)) (s e : Int) : List (Int × List Rat) := if trackE A t = 0 then ctV t s e else []
section
variable {A : ArmV} {t : List (Int × List RV)} {s e : Int}
theorem ctE_1 (h : cutBad s e) : ctE t s e = 1 := if_pos h
theorem ctE_2 (h : ¬ cutBad s e) (g : 60 < (cutK t s e).length + 2) : ctE t s e = 2 := by unfold ctE; rw [if_neg h, if_pos g]
theorem ctE_0 (h : ¬ cutBad s e) (g : ¬ 60 < (cutK t s e).length + 2) : ctE t s e = 0 := by unfold ctE; rw [if_neg h, if_neg g]
theorem ctV_no (h : ¬ ctE t s e = 0) : ctV t s e = [] := if_neg h
theorem ctV_ok (h : ctE t s e = 0) : ctV t s e = cutT t s e := if_pos h
theorem tcE_no (h : ¬ trackE A t = 0) : tcE A t s e = trackE A t ∧ tcV A t s e = [] := ⟨if_neg h, if_neg h⟩
theorem tcE_ok (h : trackE A t = 0) : tcE A t s e = ctE t s e ∧ tcV A t s e = ctV t s e := ⟨if_pos h, if_pos h⟩
end
theorem cutK_in {t : List (Int × List RV)} {s e : Int} {i : Nat} {k : Int × List RV} (h : t[i]? = some k) (g : s < k.1 ∧ k.1 < e) : cutK (t.take (i + 1)) s e = cutK (t.take i) s e ++ [k] := by
  unfold cutK
  rw [List.take_add_one, h, List.filter_append]
  simp [g.1, g.2]
theorem cutK_out {t : List (Int × List RV)} {s e : Int} {i : Nat} {k : Int × List RV} (h : t[i]? = some k) (g : ¬ (s < k.1 ∧ k.1 < e)) : cutK (t.take (i + 1)) s e = cutK (t.take i) s e := by
  unfold cutK
  rw [List.take_add_one, h, List.filter_append]
  have : (decide (s < k.1) && decide (k.1 < e)) = false := by
    rw [Bool.and_eq_false_iff, decide_eq_false_iff_not, decide_eq_false_iff_not]
    by_cases a : s < k.1
    · exact .inr fun b => g ⟨a, b⟩
    · exact .inl a
  simp [this]
theorem cutK_len (t : List (Int × List RV)) (s e : Int) : (cutK t s e).length ≤ t.length := List.length_filter_le ..
/-- the ticks of a cut -/
def cutI2 (t : List (Int × List RV)) (s e : Int) : List Int := s :: ((cutK t s e).map Prod.fst ++ [e])
theorem cutT_at {A : ArmV} {t : List (Int × List RV)} (h : trackE A t = 0) (s e : Int) : (cutI2 t s e).map (fun n => (n, atL t n)) = cutT t s e := by
  unfold cutI2 cutT
  simp only [List.map_cons, List.map_append, List.map_map, List.map_nil]
  congr 2
  apply List.map_congr_left
  intro k hk
  obtain ⟨i, hi⟩ := List.mem_iff_getElem?.1 (List.mem_filter.1 hk).1
  show (k.1, atL t k.1) = (k.1, qsL k.2)
  rw [atL_key h hi]
/-! delayed -/
def dlBad (t : List (Int × List RV)) (d : Int) : Prop := d < -2000 ∨ 2000 < d ∨ (tAt t 0).1 + d < 0
instance (t : List (Int × List RV)) (d : Int) : Decidable (dlBad t d) := by unfold dlBad; infer_instance
def dyE (t : List (Int × List RV)) (d : Int) : Int := if dlBad t d then 1 else if 2000 < (tAt t (t.length - 1)).1 + d then 19 else 0
def dlT (t : List (Int × List RV)) (d : Int) (n : Nat) : List (Int × List Rat) := (t.take n).map (fun k => (k.1 + d, qsL k.2)) ++ (t.drop n).map gdK
def dyV (t : List (Int × List RV)) (d : Int) : List (Int × List Rat) := if dyE t d = 0 then dlT t d t.length else []
noncomputable def dlE (A : ArmV) (t : List (Int × List RV)) (d : Int) : Int := if trackE A t = 0 then dyE t d else trackE A t
noncomputable def dlV (A : ArmV) (t : List (Int × List RV)) (d : Int) : List (Int × List Rat) := if trackE A t = 0 then dyV t d else []
section
variable {A : ArmV} {t : List (Int × List RV)} {d : Int}
theorem dyE_1 (h : dlBad t d) : dyE t d = 1 := if_pos h
theorem dyE_2 (h : ¬ dlBad t d) (g : 2000 < (tAt t (t.length - 1)).1 + d) : dyE t d = 19 := by unfold dyE; rw [if_neg h, if_pos g]
theorem dyE_0 (h : ¬ dlBad t d) (g : ¬ 2000 < (tAt t (t.length - 1)).1 + d) : dyE t d = 0 := by unfold dyE; rw [if_neg h, if_neg g]
theorem dyV_no (h : ¬ dyE t d = 0) : dyV t d = [] := if_neg h
theorem dyV_ok (h : dyE t d = 0) : dyV t d = dlT t d t.length := if_pos h
theorem dlE_no (h : ¬ trackE A t = 0) : dlE A t d = trackE A t ∧ dlV A t d = [] := ⟨if_neg h, if_neg h⟩
theorem dlE_ok (h : trackE A t = 0) : dlE A t d = dyE t d ∧ dlV A t d = dyV t d := ⟨if_pos h, if_pos h⟩
end
theorem dlT_0 (t : List (Int × List RV)) (d : Int) : dlT t d 0 = t.map gdK := by simp [dlT]
theorem dlT_len (t : List (Int × List RV)) (d : Int) (n : Nat) : (dlT t d n).length = t.length := by
  unfold dlT
  rw [List.length_append, List.length_map, List.length_map, ← List.length_append, List.take_append_drop]
theorem dlT_at {t : List (Int × List RV)} {d : Int} {n : Nat} {k : Int × List RV} (h : t[n]? = some k) : (dlT t d n)[n]? = some (gdK k) := by
  have hn := (List.getElem?_eq_some_iff.1 h).1
  unfold dlT
  rw [List.getElem?_append_right (by rw [List.length_map, List.length_take]; omega), List.length_map, List.length_take, Nat.min_eq_left (by omega), Nat.sub_self, List.getElem?_map, List.getElem?_drop, Nat.add_zero, h]; rfl
theorem dlT_s {t : List (Int × List RV)} {d : Int} {n : Nat} {k : Int × List RV} (h : t[n]? = some k) : (List.map keyC (dlT t d n)).modify n (fun r => repl r 0 [D.v (.int .i64 (k.1 + d))]) = List.map keyC (dlT t d (n + 1)) := by
  have hn := (List.getElem?_eq_some_iff.1 h).1
  apply List.ext_getElem?
  intro i
  rw [List.getElem?_modify, List.getElem?_map, List.getElem?_map]
  rcases Nat.lt_trichotomy i n with hi | rfl | hi
  · have e : (dlT t d n)[i]? = (dlT t d (n + 1))[i]? := by
      unfold dlT
      rw [List.getElem?_append_left (by rw [List.length_map, List.length_take]; omega), List.getElem?_append_left (by rw [List.length_map, List.length_take]; omega), List.getElem?_map, List.getElem?_map, List.getElem?_take_of_lt hi, List.getElem?_take_of_lt (by omega)]
    rw [e]
    cases (dlT t d (n + 1))[i]? with
    | none => rfl
    | some a => simp [show ¬ n = i by omega]
  · have e2 : (dlT t d (i + 1))[i]? = some (k.1 + d, qsL k.2) := by
      unfold dlT
      rw [List.getElem?_append_left (by rw [List.length_map, List.length_take]; omega), List.getElem?_map, List.getElem?_take_of_lt (by omega), h]; rfl
    rw [dlT_at h, e2]
    simp only [Option.map_some, if_true]
    rfl
  · have e : (dlT t d n)[i]? = (dlT t d (n + 1))[i]? := by
      unfold dlT
      rw [List.getElem?_append_right (by rw [List.length_map, List.length_take]; omega), List.getElem?_append_right (by rw [List.length_map, List.length_take]; omega), List.getElem?_map, List.getElem?_map, List.getElem?_drop, List.getElem?_drop, List.length_map, List.length_map, List.length_take, List.length_take]
      congr 2
      omega
    rw [e]
    cases (dlT t d (n + 1))[i]? with
    | none => rfl
    | some a => simp [show ¬ n = i by omega]
end Go.Proofs.YtpejadencgfnnaaGreatDoor.eng
