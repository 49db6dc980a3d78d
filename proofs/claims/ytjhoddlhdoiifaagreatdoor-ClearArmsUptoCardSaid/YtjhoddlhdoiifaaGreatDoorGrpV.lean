/- Joined by wip/bundle.py: XPlc0 XPlcA XPlcR XLawClr. -/
import Derived.Test.YtjhoddlhdoiifaaGreatDoorForeA
import Derived.Test.YtjhoddlhdoiifaaGreatDoorWide
import Derived.Test.YtjhoddlhdoiifaaGreatDoorGrpL
import Derived.Test.YtjhoddlhdoiifaaGreatDoorGrpX
import Derived.Test.YtjhoddlhdoiifaaGreatDoorGrpZ
import Derived.Test.YtjhoddlhdoiifaaGreatDoorOpenA
/- Plain law: placed shapes: polygons moved by frames stay convex; boxes that do not meet, and an edge between two polygons. No program. -/
namespace Go.Proofs.YtjhoddlhdoiifaaGreatDoor.eng
open Go.RowKit num mem seg q held ratA ratB ratC ratD ratE vars ratF trq
/-- a point of a frame -/
def putQ (f : RF) (x y : Rat) : Rat × Rat := (f.x + f.c * x - f.s * y, f.y + f.s * x + f.c * y)
def plcQ (f : RF) (l : List (RV × RV)) : List (Rat × Rat) := l.map fun v => putQ f v.1.q v.2.q
theorem plcQ_len (f : RF) (l : List (RV × RV)) : (plcQ f l).length = l.length := by simp [plcQ]
theorem movV_plc {f : RF} (hu : f.u) (l : List (RV × RV)) : l.map (movV (cn f.x) (cn f.y) (tofH f.c) (cn (tofQ f.c f.s))) = cvl (plcQ f l) := by
  unfold cvl plcQ
  rw [List.map_map]
  refine List.map_congr_left fun v _ => ?_
  obtain ⟨e1, e2⟩ := vt_tof hu v.1.q v.2.q
  show movV _ _ _ _ v = (cn (f.x + f.c * v.1.q - f.s * v.2.q), cn (f.y + f.s * v.1.q + f.c * v.2.q))
  unfold movV
  rw [cn_q, cn_q, cn_q, e1, e2]
  exact congr (congrArg Prod.mk (congrArg cn (by grind))) (congrArg cn (by grind))
theorem putQ_ori {f : RF} (hu : f.u) (a b c : poly.Pt) : poly.ori (putQ f a.1 a.2) (putQ f b.1 b.2) (putQ f c.1 c.2) = poly.ori a b c := by
  unfold RF.u unitC at hu
  unfold poly.ori putQ
  simp only
  grind
theorem pts_plc {f : RF} {l : List (RV × RV)} {i : Nat} (hi : i < l.length) : pts (cvl (plcQ f l)) i = putQ f (pts l i).1 (pts l i).2 := by
  obtain ⟨v, hv⟩ : ∃ v, l[i]? = some v := ⟨_, List.getElem?_eq_getElem hi⟩
  rw [pts_at hv, cvl_pts]
  have : (plcQ f l)[i]? = some (putQ f v.1.q v.2.q) := by unfold plcQ; rw [List.getElem?_map, hv]; rfl
  simp only [this, Option.getD_some]
theorem plc_conv {f : RF} (hu : f.u) {l : List (RV × RV)} (h : convE 8 l = 0) : convE 64 (cvl (plcQ f l)) = 0 := by
  obtain ⟨h1, h2, h3⟩ := convE_ok.1 h
  have hl : (cvl (plcQ f l)).length = l.length := by rw [cvl_len, plcQ_len]
  refine convE_ok.2 ⟨by rw [hl]; omega, by rw [hl]; exact h2, ?_⟩
  rw [hl]
  intro i k hi hk2 hk
  rw [pts_plc hi, pts_plc (Nat.mod_lt _ (by omega)), pts_plc (Nat.mod_lt _ (by omega)), putQ_ori hu]
  exact h3 i k hi hk2 hk
theorem conv_64 {l : List (RV × RV)} (h : convE 8 l = 0) : convE 64 l = 0 := by
  obtain ⟨h1, h2, h3⟩ := convE_ok.1 h
  exact convE_ok.2 ⟨by omega, h2, h3⟩
/-! ### an edge between two polygons -/
def sepB (a b : List (RV × RV)) : Bool := (bey a b).isSome || (bey b a).isSome
theorem sepB_iff {a b : List (RV × RV)} : sepB a b = true ↔ poly.Beyond (pts a) a.length (pts b) b.length ∨ poly.Beyond (pts b) b.length (pts a) a.length := by
  unfold sepB; rw [Bool.or_eq_true, bey_iffW, bey_iffW]
theorem meetB_sep {a b : List (RV × RV)} (ha : convE 64 a = 0) (hb : convE 64 b = 0) : bothE a b = 0 ∧ meetB a b = !sepB a b := by
  have h := bothE_ok.2 ⟨ha, hb⟩
  refine ⟨h, ?_⟩
  unfold meetB sepB
  rw [h]
  cases bey a b <;> cases bey b a <;> rfl
theorem lowL_at {q : Rat} {l : List Rat} {a : Rat} (h : a = q ∨ a ∈ l) : lowL q l ≤ a := by
  rcases h with rfl | h
  · exact (lowL_le _ _).1
  · exact (lowL_le _ _).2 _ h
theorem highL_at {q : Rat} {l : List Rat} {a : Rat} (h : a = q ∨ a ∈ l) : a ≤ highL q l := by
  rcases h with rfl | h
  · exact (highL_le _ _).1
  · exact (highL_le _ _).2 _ h
theorem bx_in {l : List (RV × RV)} {p : RV × RV} (h : p ∈ l) : (bx1 l ≤ p.1.q ∧ p.1.q ≤ bx3 l) ∧ (bx2 l ≤ p.2.q ∧ p.2.q ≤ bx4 l) := by
  cases l with
  | nil => simp at h
  | cons a r =>
    have hx : p.1.q = a.1.q ∨ p.1.q ∈ xsQ r := by
      rcases List.mem_cons.1 h with rfl | h
      · exact .inl rfl
      · exact .inr (List.mem_map.2 ⟨p, h, rfl⟩)
    have hy : p.2.q = a.2.q ∨ p.2.q ∈ ysQ r := by
      rcases List.mem_cons.1 h with rfl | h
      · exact .inl rfl
      · exact .inr (List.mem_map.2 ⟨p, h, rfl⟩)
    exact ⟨⟨lowL_at hx, highL_at hx⟩, ⟨lowL_at hy, highL_at hy⟩⟩
theorem bx_z {l : List (RV × RV)} {B : Nat} (hl : ∀ p, p ∈ l → p.1.z ≤ B ∧ p.2.z ≤ B) : (qs (bx1 l) ≤ B + 1 ∧ qs (bx2 l) ≤ B + 1) ∧ qs (bx3 l) ≤ B + 1 ∧ qs (bx4 l) ≤ B + 1 := by
  cases l with
  | nil => exact ⟨⟨Nat.le_trans (by decide +kernel : qs 0 ≤ 1) (by omega), Nat.le_trans (by decide +kernel : qs 0 ≤ 1) (by omega)⟩, Nat.le_trans (by decide +kernel : qs 0 ≤ 1) (by omega), Nat.le_trans (by decide +kernel : qs 0 ≤ 1) (by omega)⟩
  | cons a r =>
    have h0 := hl a (by simp)
    have ha := a.1.z1
    have hb := a.2.z1
    have hx : ∀ q, q ∈ a.1.q :: xsQ r → qs q ≤ B + 1 := by
      intro q hq
      rcases List.mem_cons.1 hq with rfl | hq
      · omega
      · obtain ⟨p, hp, rfl⟩ := List.mem_map.1 hq
        have := hl p (List.mem_cons_of_mem _ hp); have := p.1.z1; omega
    have hy : ∀ q, q ∈ a.2.q :: ysQ r → qs q ≤ B + 1 := by
      intro q hq
      rcases List.mem_cons.1 hq with rfl | hq
      · omega
      · obtain ⟨p, hp, rfl⟩ := List.mem_map.1 hq
        have := hl p (List.mem_cons_of_mem _ hp); have := p.2.z1; omega
    exact ⟨⟨lowL_qs hx, lowL_qs hy⟩, highL_qs hx, highL_qs hy⟩
theorem pts_mem {l : List (RV × RV)} {i : Nat} (hi : i < l.length) : ∃ p, p ∈ l ∧ pts l i = (p.1.q, p.2.q) := by
  obtain ⟨v, hv⟩ : ∃ v, l[i]? = some v := ⟨_, List.getElem?_eq_getElem hi⟩
  exact ⟨v, List.mem_of_getElem? hv, pts_at hv⟩
/-- boxes that do not meet: an edge lies between -/
theorem sep_of_boxes {a b : List (RV × RV)} (ca : convE 64 a = 0) (cb : convE 64 b = 0) (h : ¬ bxMeet (cn (bx1 a)) (cn (bx2 a)) (cn (bx3 a)) (cn (bx4 a)) (cn (bx1 b)) (cn (bx2 b)) (cn (bx3 b)) (cn (bx4 b))) : sepB a b = true := by
  obtain ⟨_, a3, aE⟩ := convE_ok.1 ca
  obtain ⟨_, b3, bE⟩ := convE_ok.1 cb
  have line : ∀ N : poly.Pt, (∀ p q, p ∈ a → q ∈ b → 0 < N.1 * (q.1.q - p.1.q) + N.2 * (q.2.q - p.2.q)) → sepB a b = true := by
    intro N hN
    refine sepB_iff.2 (poly.beyond_of_line (N := N) aE bE (by omega) (by omega) fun i j hi hj => ?_)
    obtain ⟨p, hp, ep⟩ := pts_mem hi
    obtain ⟨q, hq, eq⟩ := pts_mem hj
    rw [ep, eq]
    exact hN p q hp hq
  have line' : ∀ N : poly.Pt, (∀ p q, p ∈ a → q ∈ b → 0 < N.1 * (p.1.q - q.1.q) + N.2 * (p.2.q - q.2.q)) → sepB a b = true := by
    intro N hN
    refine line (-N.1, -N.2) fun p q hp hq => ?_
    have := hN p q hp hq
    simp only; grind
  obtain ⟨p0, hp0, _⟩ := pts_mem (l := a) (i := 0) (by omega)
  obtain ⟨q0, hq0, _⟩ := pts_mem (l := b) (i := 0) (by omega)
  have oka : bxOk (cn (bx1 a)) (cn (bx2 a)) (cn (bx3 a)) (cn (bx4 a)) := by
    obtain ⟨⟨h1, h2⟩, h3, h4⟩ := bx_in hp0
    unfold bxOk; simp only [cn_q]; exact ⟨Rat.le_trans h1 h2, Rat.le_trans h3 h4⟩
  have okb : bxOk (cn (bx1 b)) (cn (bx2 b)) (cn (bx3 b)) (cn (bx4 b)) := by
    obtain ⟨⟨h1, h2⟩, h3, h4⟩ := bx_in hq0
    unfold bxOk; simp only [cn_q]; exact ⟨Rat.le_trans h1 h2, Rat.le_trans h3 h4⟩
  unfold bxMeet at h
  simp only [cn_q] at h
  by_cases c1 : bx1 a ≤ bx3 b
  · by_cases c2 : bx1 b ≤ bx3 a
    · by_cases c3 : bx2 a ≤ bx4 b
      · by_cases c4 : bx2 b ≤ bx4 a
        · exact absurd ⟨oka, okb, c1, c2, c3, c4⟩ h
        · refine line (0, 1) fun p q hp hq => ?_
          have := (bx_in hp).2.2; have := (bx_in hq).2.1; have := Rat.not_le.1 c4
          simp only; grind
      · refine line' (0, 1) fun p q hp hq => ?_
        have := (bx_in hp).2.1; have := (bx_in hq).2.2; have := Rat.not_le.1 c3
        simp only; grind
    · refine line (1, 0) fun p q hp hq => ?_
      have := (bx_in hp).1.2; have := (bx_in hq).1.1; have := Rat.not_le.1 c2
      simp only; grind
  · refine line' (1, 0) fun p q hp hq => ?_
    have := (bx_in hp).1.1; have := (bx_in hq).1.2; have := Rat.not_le.1 c1
    simp only; grind
/-! ### lists of polygons -/
def freeB (L M : List (List (RV × RV))) : Bool := L.all fun a => M.all fun b => sepB a b
theorem all_take {α : Type} {l : List α} {f : α → Bool} {i : Nat} {x : α} (h : l[i]? = some x) : (l.take (i + 1)).all f = ((l.take i).all f && f x) := by
  rw [List.take_add_one, h]; simp
theorem all_false {α : Type} {l : List α} {f : α → Bool} {i : Nat} {x : α} (h : l[i]? = some x) (hf : f x = false) : l.all f = false := by
  rw [List.all_eq_false]
  exact ⟨x, List.mem_of_getElem? h, by simp [hf]⟩
/-- as they lie in lists -/
def rdvs (m : List (RV × RV)) : List D := [D.list (List.map rdv m)]
def rqps (m : List (Rat × Rat)) : List D := [D.list (List.map rqP m)]
def shpAt (A : ArmV) (i : Nat) : List (RV × RV) := ((A.links[i]?).getD ⟨z0, z0, z0, z0, z0, []⟩).shape
theorem shpAt_is {A : ArmV} {i : Nat} {l : LinkV} (h : A.links[i]? = some l) : shpAt A i = l.shape := by simp [shpAt, h]
/-- the placed shapes of an arm -/
def plcL (A : ArmV) (Q : List RV) (n : Nat) : List (List (Rat × Rat)) := (List.range n).map fun i => plcQ (linkF A Q i) (shpAt A i)
theorem plcL_len (A : ArmV) (Q : List RV) (n : Nat) : (plcL A Q n).length = n := by simp [plcL]
theorem plcL_at {A : ArmV} {Q : List RV} {n i : Nat} {m : List (Rat × Rat)} (h : (plcL A Q n)[i]? = some m) : m = plcQ (linkF A Q i) (shpAt A i) ∧ i < n := by
  have hi := (List.getElem?_eq_some_iff.1 h).1
  rw [plcL_len] at hi
  simp [plcL, hi] at h
  exact ⟨h.symm, hi⟩
theorem plcL_snoc {α : Type} (g : List (Rat × Rat) → α) (A : ArmV) (Q : List RV) (i : Nat) : List.map g (plcL A Q (i + 1)) = List.map g (plcL A Q i) ++ [g (plcQ (linkF A Q i) (shpAt A i))] := by
  simp [plcL, List.range_succ]
open Classical in
noncomputable def plcV (A : ArmV) (Q : List RV) : List (List (RV × RV)) := if hasE A (Q.length : Int) = 0 then (plcL A Q A.links.length).map cvl else []
theorem plcV_ok {A : ArmV} {Q : List RV} (h : hasE A (Q.length : Int) = 0) : plcV A Q = (plcL A Q A.links.length).map cvl := if_pos h
theorem plcV_no {A : ArmV} {Q : List RV} (h : ¬ hasE A (Q.length : Int) = 0) : plcV A Q = [] := if_neg h
theorem turn_z2 {f : RF} {t : Rat} {a : Nat} (hc : qs f.c ≤ a) (hs : qs f.s ≤ a) (ht : qs t ≤ 1048576) : qs (turnF f t).c ≤ 2 * a + 8388677 ∧ qs (turnF f t).s ≤ 2 * a + 8388677 := by
  obtain ⟨c1, c2⟩ := qs_cs t
  have := qs_mul f.c (cosq false t)
  have := qs_mul f.s (sinq t)
  have := qs_mul f.s (cosq false t)
  have := qs_mul f.c (sinq t)
  have := qs_sub (f.c * cosq false t) (f.s * sinq t)
  have := qs_add (f.s * cosq false t) (f.c * sinq t)
  exact ⟨by show qs (f.c * cosq false t - f.s * sinq t) ≤ _; omega, by show qs (f.s * cosq false t + f.c * sinq t) ≤ _; omega⟩
theorem qAt_z2 {Q : List RV} (hQ : ∀ x, x ∈ Q → x.z ≤ 1048576) (i : Nat) : qs (qAt Q i) ≤ 1048576 := by
  unfold qAt
  cases h : Q[i]? with
  | none => show qs z0.q ≤ _; decide +kernel
  | some x =>
    have := hQ x (List.mem_of_getElem? h)
    have := x.qs_le
    show qs x.q ≤ _; omega
theorem link_z2 {A : ArmV} {Q : List RV} (hA : armE A = 0) (hQ : ∀ x, x ∈ Q → x.z ≤ 1048576) {i : Nat} (hi : i < 3) : (qs (linkF A Q i).x ≤ 92276478 ∧ qs (linkF A Q i).y ≤ 92276478) ∧ qs (linkF A Q i).c ≤ 58721267 ∧ qs (linkF A Q i).s ≤ 58721267 := by
  obtain ⟨b1, b2, b3, b4⟩ := base_z hA
  have t0 := turn_z2 (t := qAt Q 0) b3 b4 (qAt_z2 hQ 0)
  have l0 := long_z (f := linkF A Q 0) (l := lenAt A 0) (b := 4) b1 b2 t0.1 t0.2 (lenAt_z hA 0)
  have t1 := turn_z2 (f := endF A Q 1) (t := qAt Q 1) t0.1 t0.2 (qAt_z2 hQ 1)
  have l1 := long_z (f := linkF A Q 1) (l := lenAt A 1) l0.1 l0.2 t1.1 t1.2 (lenAt_z hA 1)
  have t2 := turn_z2 (f := endF A Q 2) (t := qAt Q 2) t1.1 t1.2 (qAt_z2 hQ 2)
  have up : ∀ {n a b : Nat}, n ≤ a → a ≤ b → n ≤ b := fun h g => Nat.le_trans h g
  rcases (show i = 0 ∨ i = 1 ∨ i = 2 by omega) with rfl | rfl | rfl
  · exact ⟨⟨up b1 (by omega), up b2 (by omega)⟩, up t0.1 (by omega), up t0.2 (by omega)⟩
  · exact ⟨⟨up l0.1 (by omega), up l0.2 (by omega)⟩, up t1.1 (by omega), up t1.2 (by omega)⟩
  · exact ⟨⟨up l1.1 (by omega), up l1.2 (by omega)⟩, up t2.1 (by omega), up t2.2 (by omega)⟩
theorem putQ_z {f : RF} {x y : Rat} (h1 : qs f.x ≤ 92276478 ∧ qs f.y ≤ 92276478) (h2 : qs f.c ≤ 58721267 ∧ qs f.s ≤ 58721267) (hx : qs x ≤ 4) (hy : qs y ≤ 4) : qs (putQ f x y).1 ≤ 215000000 ∧ qs (putQ f x y).2 ≤ 215000000 := by
  have := qs_mul f.c x
  have := qs_mul f.s y
  have := qs_mul f.s x
  have := qs_mul f.c y
  have := qs_add f.x (f.c * x)
  have := qs_sub (f.x + f.c * x) (f.s * y)
  have := qs_add f.y (f.s * x)
  have := qs_add (f.y + f.s * x) (f.c * y)
  exact ⟨by show qs (f.x + f.c * x - f.s * y) ≤ _; omega, by show qs (f.y + f.s * x + f.c * y) ≤ _; omega⟩
def okP (m : List (Rat × Rat)) : Prop := m.length ≤ 8 ∧ ∀ p, p ∈ m → qs p.1 ≤ 215000000 ∧ qs p.2 ≤ 215000000
/-- a polygon that the program may look at -/
def okV (a : List (RV × RV)) : Prop := (a.length ≤ 8 ∧ convE 64 a = 0) ∧ ∀ p, p ∈ a → p.1.z ≤ 215000000 ∧ p.2.z ≤ 215000000
theorem plc_ok {A : ArmV} {Q : List RV} (hA : armE A = 0) (hQ : ∀ x, x ∈ Q → x.z ≤ 1048576) {i : Nat} {l : LinkV} (hl : A.links[i]? = some l) : okP (plcQ (linkF A Q i) (shpAt A i)) ∧ convE 64 (cvl (plcQ (linkF A Q i) (shpAt A i))) = 0 := by
  have hn := (armE_ok hA).1
  have hi : i < 3 := by have := (List.getElem?_eq_some_iff.1 hl).1; omega
  obtain ⟨_, _, _, _, _, _, _, _, _, hc, hs⟩ := link_small hA (List.mem_of_getElem? hl)
  rw [shpAt_is hl]
  refine ⟨⟨by rw [plcQ_len]; have := (convE_ok.1 hc).1; omega, fun p hp => ?_⟩, plc_conv (linkF_u A Q i) hc⟩
  obtain ⟨v, hv, rfl⟩ := List.mem_map.1 hp
  obtain ⟨h1, h2⟩ := link_z2 hA hQ hi
  have s1 := smallP_z (hs v hv).1
  have s2 := smallP_z (hs v hv).2
  have q1 := v.1.qs_le
  have q2 := v.2.qs_le
  exact putQ_z h1 h2 (by omega) (by omega)
theorem plcV_okV {A : ArmV} {Q : List RV} (h : hasE A (Q.length : Int) = 0) (hQ : ∀ x, x ∈ Q → x.z ≤ 1048576) : ∀ a, a ∈ plcV A Q → okV a := by
  intro a ha
  rw [plcV_ok h] at ha
  obtain ⟨m, hm, rfl⟩ := List.mem_map.1 ha
  obtain ⟨i, hi, rfl⟩ := List.mem_map.1 (show m ∈ List.map _ _ from hm)
  have hi : i < A.links.length := by simpa using hi
  obtain ⟨hA, _⟩ := hasE_ok.1 h
  obtain ⟨⟨h1, h2⟩, h3⟩ := plc_ok hA hQ (List.getElem?_eq_getElem hi)
  refine ⟨⟨by rw [cvl_len]; exact h1, h3⟩, fun p hp => ?_⟩
  obtain ⟨r, hr, rfl⟩ := List.mem_map.1 (show p ∈ List.map _ _ from hp)
  exact h2 r hr
/-! ### walls -/
/-- the first error of walls -/
noncomputable def wallsE (l : List (List (RV × RV))) : Int := if 20 < l.length then 2 else firstE (fun i => convE 8 ((l[i]?).getD [])) l.length
theorem wallsE_2 {l : List (List (RV × RV))} (h : 20 < l.length) : wallsE l = 2 := if_pos h
theorem wallsE_at {l : List (List (RV × RV))} {i : Nat} {a : List (RV × RV)} (h : ¬ 20 < l.length) (ha : l[i]? = some a) (hb : ∀ j, j < i → convE 8 ((l[j]?).getD []) = 0) (he : convE 8 a ≠ 0) : wallsE l = convE 8 a := by
  unfold wallsE
  rw [if_neg h, firstE_at hb (by simp only [ha, Option.getD_some]; exact he) (List.getElem?_eq_some_iff.1 ha).1]
  simp only [ha, Option.getD_some]
theorem wallsE_0 {l : List (List (RV × RV))} (h : ¬ 20 < l.length) (hb : ∀ j, j < l.length → convE 8 ((l[j]?).getD []) = 0) : wallsE l = 0 := by
  unfold wallsE; rw [if_neg h, firstE_0 hb]
theorem wallsE_ok {l : List (List (RV × RV))} (h : wallsE l = 0) : l.length ≤ 20 ∧ ∀ a, a ∈ l → convE 8 a = 0 := by
  unfold wallsE at h
  by_cases g : 20 < l.length
  · rw [if_pos g] at h; exact absurd h (by decide)
  · rw [if_neg g] at h
    refine ⟨by omega, fun a ha => ?_⟩
    obtain ⟨i, hi⟩ := List.mem_iff_getElem?.1 ha
    have hlt := (List.getElem?_eq_some_iff.1 hi).1
    refine Classical.byContradiction fun hc => ?_
    -- the first that is not 0
    have key : ∀ n, firstE (fun i => convE 8 ((l[i]?).getD [])) n = 0 → ∀ j, j < n → convE 8 ((l[j]?).getD []) = 0 := by
      intro n
      induction n with
      | zero => intro _ j hj; omega
      | succ n ih =>
        intro e j hj
        unfold firstE at e
        by_cases z : firstE (fun i => convE 8 ((l[i]?).getD [])) n = 0
        · rw [if_pos z] at e
          by_cases hjn : j = n
          · rw [hjn]; exact e
          · exact ih z j (by omega)
        · rw [if_neg z] at e; exact absurd e z
    have := key l.length h i hlt
    rw [hi, Option.getD_some] at this
    exact hc this
/-! ### gantref3's Meet -/
def ptQ (m : List (Rat × Rat)) (i : Nat) : poly.Pt := (m[i]?).getD (0, 0)
theorem ptQ_at {m : List (Rat × Rat)} {i : Nat} {p : Rat × Rat} (h : m[i]? = some p) : ptQ m i = p := by simp [ptQ, h]
/-- a point beyond an edge, all first points of a list beyond it -/
def sdU (m n : List (Rat × Rat)) (i k : Nat) : Bool := (n.take k).all fun q => decide (poly.ori (ptQ m i) (ptQ m ((i + 1) % m.length)) q < 0)
def bydB (m n : List (Rat × Rat)) : Bool := (List.range m.length).any fun i => sdU m n i n.length
def meetR (m n : List (Rat × Rat)) : Bool := !bydB m n && !bydB n m
theorem sdU_iff {m n : List (Rat × Rat)} {i : Nat} : sdU m n i n.length = true ↔ ∀ j, j < n.length → poly.ori (ptQ m i) (ptQ m ((i + 1) % m.length)) (ptQ n j) < 0 := by
  unfold sdU
  rw [List.take_length, List.all_eq_true]
  constructor
  · intro h j hj
    obtain ⟨q, hq⟩ : ∃ q, n[j]? = some q := ⟨_, List.getElem?_eq_getElem hj⟩
    rw [ptQ_at hq]
    exact of_decide_eq_true (h q (List.mem_of_getElem? hq))
  · intro h q hq
    obtain ⟨j, hj⟩ := List.mem_iff_getElem?.1 hq
    have := h j (List.getElem?_eq_some_iff.1 hj).1
    rw [ptQ_at hj] at this
    exact decide_eq_true this
theorem bydB_iff {m n : List (Rat × Rat)} : bydB m n = true ↔ poly.Beyond (ptQ m) m.length (ptQ n) n.length := by
  unfold bydB poly.Beyond
  rw [List.any_eq_true]
  constructor
  · rintro ⟨i, hi, h⟩; exact ⟨i, List.mem_range.1 hi, sdU_iff.1 h⟩
  · rintro ⟨i, hi, h⟩; exact ⟨i, List.mem_range.2 hi, sdU_iff.2 h⟩
theorem byd_yes {m n : List (Rat × Rat)} {i : Nat} (hi : i < m.length) (h : sdU m n i n.length = true) : bydB m n = true := by
  unfold bydB; rw [List.any_eq_true]; exact ⟨i, List.mem_range.2 hi, h⟩
theorem byd_no {m n : List (Rat × Rat)} (h : ∀ i, i < m.length → sdU m n i n.length = false) : bydB m n = false := by
  unfold bydB
  rw [List.any_eq_false]
  intro i hi
  rw [h i (List.mem_range.1 hi)]; exact Bool.false_ne_true
def ptsQ (w : List (RV × RV)) : List (Rat × Rat) := w.map fun p => (p.1.q, p.2.q)
theorem ptsQ_len (w : List (RV × RV)) : (ptsQ w).length = w.length := by simp [ptsQ]
theorem rqv_ptsQ (w : List (RV × RV)) : List.map rqv w = List.map rqP (ptsQ w) := by
  unfold ptsQ; rw [List.map_map]; rfl
theorem ptQ_ptsQ (w : List (RV × RV)) : ptQ (ptsQ w) = pts w := by
  funext i
  unfold ptQ ptsQ pts
  rw [List.getElem?_map]
  cases w[i]? with
  | none => exact Prod.ext z0q.symm z0q.symm
  | some p => rfl
theorem ptsQ_cvl (m : List (Rat × Rat)) : ptsQ (cvl m) = m := by
  unfold ptsQ cvl
  rw [List.map_map]
  refine (List.map_congr_left fun p _ => ?_).trans (List.map_id _)
  show ((cn p.1).q, (cn p.2).q) = p
  rw [cn_q, cn_q]
/-- what clear.free asks of a pair is what Meet denies -/
theorem sep_meet (a b : List (RV × RV)) : sepB a b = !meetR (ptsQ a) (ptsQ b) := by
  have h1 := sepB_iff (a := a) (b := b)
  have e1 := bydB_iff (m := ptsQ a) (n := ptsQ b)
  have e2 := bydB_iff (m := ptsQ b) (n := ptsQ a)
  rw [ptQ_ptsQ, ptQ_ptsQ, ptsQ_len, ptsQ_len] at e1 e2
  rw [← e1, ← e2] at h1
  unfold meetR
  cases hs : sepB a b
  · rw [hs] at h1
    cases hx : bydB (ptsQ a) (ptsQ b)
    · cases hy : bydB (ptsQ b) (ptsQ a)
      · rfl
      · rw [hx, hy] at h1; simp at h1
    · rw [hx] at h1; simp at h1
  · rw [hs] at h1
    rcases h1.1 rfl with h | h
    · rw [h]; rfl
    · rw [h]; cases bydB (ptsQ a) (ptsQ b) <;> rfl
/-- gantref3's Clear -/
def clearB (L : List (List (Rat × Rat))) (W : List (List (RV × RV))) : Bool := L.all fun a => W.all fun w => !meetR a (ptsQ w)
theorem free_clear (L : List (List (Rat × Rat))) (W : List (List (RV × RV))) : freeB (L.map cvl) W = clearB L W := by
  unfold freeB clearB
  rw [List.all_map]
  congr 1
  funext a
  show (W.all fun b => sepB (cvl a) b) = _
  congr 1
  funext b
  rw [sep_meet, ptsQ_cvl]
theorem framesF_at {A : ArmV} {Q : List RV} {i : Nat} {f : RF} (hi : i < A.links.length) (h : (framesF A Q)[i]? = some f) : f = linkF A Q i := by
  rw [framesF, List.getElem?_append_left (by rw [linksF_len]; exact hi)] at h
  exact (linksF_at h).1
theorem plcS_snoc (A : ArmV) (Q : List RV) (i : Nat) : List.map rdvs ((plcL A Q (i + 1)).map cvl) = List.map rdvs ((plcL A Q i).map cvl) ++ [rdvs (cvl (plcQ (linkF A Q i) (shpAt A i)))] := by
  rw [List.map_map, List.map_map]
  exact plcL_snoc (rdvs ∘ cvl) A Q i
end Go.Proofs.YtjhoddlhdoiifaaGreatDoor.eng

/- Contracts: placed shapes, walls: packages shape, clear. Printed by wip/gp_place.py. -/
namespace Go.Proofs.YtjhoddlhdoiifaaGreatDoor.eng
open Go.RowKit num mem seg q held ratA ratB ratC ratD ratE vars ratF trq
section
variable {K : AV → Prop}
theorem k_fListP {f : RF} {l : List (RV × RV)} {m : List (Rat × Rat)} (hu : f.u) (hm : plcQ f l = m) (hx : qs f.x ≤ 268435456) (hy : qs f.y ≤ 268435456) (hz : qs (tofQ f.c f.s) ≤ 268435456) (hl : ∀ p, p ∈ l → p.1.z ≤ 268435456 ∧ p.2.z ≤ 268435456) (hn : l.length ≤ 1073741824) (k : K (.val (.one (.d (.list (List.map rdv (cvl m))))))) : Ask 177 [frame (cn f.x) (cn f.y) (tofH f.c) (cn (tofQ f.c f.s)), .val (.one (.d (.list (List.map rdv l))))] K :=
  k_fList l rfl hx hy hz hl hn (by rw [movV_plc hu, hm]; exact k)
theorem k_pBoxB {l : List (RV × RV)} (hl : ∀ p, p ∈ l → p.1.z ≤ 260000000 ∧ p.2.z ≤ 260000000) (hn : l.length ≤ 1073741824) (k : K (box (cn (bx1 l)) (cn (bx2 l)) (cn (bx3 l)) (cn (bx4 l)))) : Ask 180 [.val (.one (.d (.list (List.map rdv l))))] K :=
  k_pBoxAW hl hn fun p q r u h1 h2 h3 h4 => by subst h1 h2 h3 h4; exact k
set_option maxHeartbeats 4000000 in
set_option maxRecDepth 100000 in
theorem Place_spec (A : ArmV) (Q : List RV) (hA : A.ok) (hQ : ∀ x, x ∈ Q → x.z ≤ 1048576) : Spec Tryz.prog Tab 142 [.val (.agg [.d (.v (.string A.name)), .d (.v (.bool A.bx.s)), .d (.v (.string A.bx.a)), .d (.v (.string A.bx.d)), .d (.v (.bool A.by'.s)), .d (.v (.string A.by'.a)), .d (.v (.string A.by'.d)), .d (.v (.bool (A.bh))), .d (.v (.bool A.bt.s)), .d (.v (.string A.bt.a)), .d (.v (.string A.bt.d)), .d (.list (List.map lk A.links))]), .val (.one (.d (.list (List.map rd Q))))] (.tup [.one (.d (.list (List.map rdvs (plcV A Q)))), .one (.d (.v (.int .i64 (hasE A (Q.length : Int)))))]) := by
  have hA2 := hA
  obtain ⟨z1, z2, z3, z4, z5, z6⟩ := hA
  have hL : (List.map lk A.links).length = A.links.length := List.length_map ..
  have hLq : (List.map rd Q).length = Q.length := List.length_map ..
  have hQ1 : ∀ x, x ∈ Q → x.z ≤ 2097151 := fun x hx => Nat.le_trans (hQ x hx) (by decide)
  refine fn_spec Tryz.func142 rfl rfl Tryz.ntmps142 rfl (by kernel_rfl) rfl rfl ?_
  refine k_Frames (A := A) (Q := Q) (by assumption) (by assumption) fun n14 hk_14_1 => ?_
  refine ⟨fun e1 => ?_, fun e1 => ?_⟩
  · have f18 : n14 ≠ 0 := bne_t e1
    refine Eq.trans (b := .tup [.one (.d (.list ([]))), .one (.d (.v (.int .i64 (n14))))]) ?_ rfl
    rw [plcV_no (by rw [← hk_14_1]; exact f18), ← hk_14_1]
    all_goals rfl
  · have f18 : ¬ (n14 ≠ 0) := fun hh => hh (bne_f e1)
    have h0 : hasE A (Q.length : Int) = 0 := by rw [← hk_14_1]; exact Classical.not_not.1 f18
    obtain ⟨hA0, hlen0⟩ := hasE_ok.1 h0
    have hlen : Q.length = A.links.length := by omega
    obtain ⟨hn3, hnz, _⟩ := armE_ok hA0
    refine ⟨Nat, fun i => [(6, .val (.one (.d (.list (List.map rdF (framesV A Q)))))), (8, .val (.one (.row 37 0))), (21, .val (.one (.d (.list (List.map lk A.links))))), (22, int ((List.map lk A.links).length : Int)), (23, int (i : Int))],
      fun i => [(37, .row 44 1 0 (List.map rdvs ((plcL A Q i).map cvl)) true)], fun i => i ≤ A.links.length, fun i => A.links.length - i, 0, ?_, Nat.zero_le _, fun i hs => ?_⟩
    · constructor <;> (repeat' (first | exact rfl | exact True.intro | exact ⟨_, _, rfl⟩ | exact (by decide) | apply And.intro))
      all_goals first | exact congrArg (fun n : Int => D.v (.int .i64 n)) (by omega) | exact congrArg (fun n : Int => D.v (.int .i64 n)) (by rw [wrap64 _ (by omega) (by omega)]; omega) | (simp; done)
    have hT : (List.map rdvs ((plcL A Q i).map cvl)).length ≤ 3 := by rw [List.length_map, List.length_map, plcL_len]; omega
    refine ⟨fun e2 => ?_, fun e2 => ?_⟩
    · have f24 : (i : Int) < ((List.map lk A.links).length : Int) := of_decide_eq_true e2
      refine get_ex (l := A.links) (i := i) (by first | omega | exact Nat.mod_lt _ (by omega)) fun x26 hx26 => ?_
      obtain ⟨hs1, hs2, hs3, hs4, hs5, hs6, hs7⟩ := z6 x26 (List.mem_of_getElem? hx26)
      have hshx26 := shpAt_is hx26
      obtain ⟨hpo1, hpo2⟩ := plc_ok hA0 hQ hx26
      have hssx26 := (link_small hA0 (List.mem_of_getElem? hx26)).2.2.2.2.2.2.2.2.2.2
      refine k_ix i [D.v (.bool x26.len.s), D.v (.string x26.len.a), D.v (.string x26.len.d), D.v (.bool x26.low.s), D.v (.string x26.low.a), D.v (.string x26.low.d), D.v (.bool x26.high.s), D.v (.string x26.high.a), D.v (.string x26.high.d), D.v (.bool x26.speed.s), D.v (.string x26.speed.a), D.v (.string x26.speed.d), D.v (.bool x26.brake.s), D.v (.string x26.brake.a), D.v (.string x26.brake.d), D.list (List.map rdv x26.shape)] (by first | rfl | omega | (rw [wrap64 _ (by omega) (by omega)]; omega)) (map_at hx26) rfl ?_
      refine get_ex (l := (framesV A Q)) (i := i) (by rw [framesV_ok h0, framesF_len]; omega) fun x31 hx31 => ?_
      have hex31 : x31 = linkF A Q i := framesF_at (by omega) (by rw [← framesV_ok h0]; exact hx31)
      have hux31 : RF.u x31 := by rw [hex31]; exact linkF_u A Q i
      obtain ⟨⟨w1, w2⟩, w3, w4⟩ := link_z2 hA0 hQ (i := i) (by omega)
      rw [← hex31] at w1 w2 w3 w4
      have w5 := tof_z (f := x31) (by omega) (by omega)
      refine k_ix i [D.v (.bool (cn x31.x).s), D.v (.string (cn x31.x).a), D.v (.string (cn x31.x).d), D.v (.bool (cn x31.y).s), D.v (.string (cn x31.y).a), D.v (.string (cn x31.y).d), D.v (.bool (tofH x31.c)), D.v (.bool (cn (tofQ x31.c x31.s)).s), D.v (.string (cn (tofQ x31.c x31.s)).a), D.v (.string (cn (tofQ x31.c x31.s)).d)] (by first | rfl | omega | (rw [wrap64 _ (by omega) (by omega)]; omega)) (map_at hx31) rfl ?_
      refine k_fListP (f := x31) (l := x26.shape) (m := plcQ (linkF A Q i) (shpAt A i)) hux31 (by rw [hex31, hshx26]) (by omega) (by omega) (by omega) (fun p hp => by have := smallP_z (hssx26 p hp).1; have := smallP_z (hssx26 p hp).2; omega) (by omega) ?_
      refine ⟨⟨row1 rfl, (by show ((List.map rdvs ((plcL A Q i).map cvl)).length + 1) * 24 ≤ _; omega), (by show ((List.map rdvs ((plcL A Q i).map cvl)).length + 1) ≤ _; omega)⟩, ?_⟩
      refine ⟨by kernel_rfl, ?_⟩
      refine ⟨i + 1, by omega, by simp only; omega, ?_⟩
      constructor <;> (repeat' (first | exact rfl | exact True.intro | apply And.intro))
      all_goals first
        | (rw [plcS_snoc]; rfl)
        | exact congrArg (fun n : Int => D.v (.int .i64 n)) (by rw [wrap64 _ (by omega) (by omega)]; omega)
        | exact congrArg (fun n : Int => D.v (.int .i64 n)) (by omega)
    · have f24 : ¬ ((i : Int) < ((List.map lk A.links).length : Int)) := of_decide_eq_false e2
      refine Eq.trans (b := .tup [.one (.d (.list (List.map rdvs ((plcL A Q i).map cvl)))), .one (.d (.v (.int .i64 (0))))]) ?_ rfl
      obtain rfl : i = A.links.length := by omega
      rw [plcV_ok h0, h0]
      all_goals rfl
theorem k_Place {A : ArmV} {Q : List RV} (hA : A.ok) (hQ : ∀ x, x ∈ Q → x.z ≤ 1048576) (k : ∀ n, n = hasE A (Q.length : Int) → K (.tup [.one (.d (.list (List.map rdvs (plcV A Q)))), .one (.d (.v (.int .i64 n)))])) : Ask 142 [.val (.agg [.d (.v (.string A.name)), .d (.v (.bool A.bx.s)), .d (.v (.string A.bx.a)), .d (.v (.string A.bx.d)), .d (.v (.bool A.by'.s)), .d (.v (.string A.by'.a)), .d (.v (.string A.by'.d)), .d (.v (.bool (A.bh))), .d (.v (.bool A.bt.s)), .d (.v (.string A.bt.a)), .d (.v (.string A.bt.d)), .d (.list (List.map lk A.links))]), .val (.one (.d (.list (List.map rd Q))))] K := use (Place_spec A Q hA hQ) rfl (k _ rfl)
set_option maxHeartbeats 1000000 in
set_option maxRecDepth 100000 in
theorem wCheck_spec (W : List (List (RV × RV))) (hW : W.length ≤ 1048576 ∧ ∀ m, m ∈ W → m.length ≤ 1048576 ∧ ∀ p, p ∈ m → p.1.z ≤ 1048576 ∧ p.2.z ≤ 1048576) : Spec Tryz.prog Tab 143 [.val (.one (.d (.list (List.map rdvs W))))] (int (wallsE W)) := by
  have hLw : (List.map rdvs W).length = W.length := List.length_map ..
  have hW1 := hW.1
  refine fn_spec Tryz.func143 rfl rfl Tryz.ntmps143 rfl (by kernel_rfl) rfl rfl ?_
  refine ⟨fun e1 => ?_, fun e1 => ?_⟩
  · have f8 : ((List.map rdvs W).length : Int) > 20 := of_decide_eq_true e1
    refine Eq.trans (b := int 2) ?_ rfl
    rw [wallsE_2 (by omega)]
  · have f8 : ¬ (((List.map rdvs W).length : Int) > 20) := of_decide_eq_false e1
    refine ⟨Nat, fun i => [(9, .val (.one (.d (.list (List.map rdvs W))))), (10, int ((List.map rdvs W).length : Int)), (11, int (i : Int))],
      fun i => [], fun i => i ≤ W.length ∧ ∀ j, j < i → convE 8 ((W[j]?).getD []) = 0, fun i => W.length - i, 0, ?_, ⟨Nat.zero_le _, fun j h => by omega⟩, fun i hs => ?_⟩
    · constructor <;> (repeat' (first | exact rfl | exact True.intro | exact ⟨_, _, rfl⟩ | exact (by decide) | apply And.intro))
      all_goals first | exact congrArg (fun n : Int => D.v (.int .i64 n)) (by omega) | exact congrArg (fun n : Int => D.v (.int .i64 n)) (by rw [wrap64 _ (by omega) (by omega)]; omega) | (simp; done)
    obtain ⟨g1, g2⟩ := hs
    refine ⟨fun e2 => ?_, fun e2 => ?_⟩
    · have f12 : (i : Int) < ((List.map rdvs W).length : Int) := of_decide_eq_true e2
      refine get_ex (l := W) (i := i) (by first | omega | exact Nat.mod_lt _ (by omega)) fun x13 hx13 => ?_
      have hwx13 := hW.2 x13 (List.mem_of_getElem? hx13)
      refine k_ix i [D.list (List.map rdv x13)] (by first | rfl | omega | (rw [wrap64 _ (by omega) (by omega)]; omega)) (map_at hx13) rfl ?_
      refine k_PCheck (l := x13) (fun p hp => ⟨Nat.le_trans (hwx13.2 p hp).1 (by decide), Nat.le_trans (hwx13.2 p hp).2 (by decide)⟩) (Nat.le_trans hwx13.1 (by decide)) fun n16 hk_16_1 => ?_
      refine ⟨fun e3 => ?_, fun e3 => ?_⟩
      · have f18 : n16 ≠ 0 := bne_t e3
        refine Eq.trans (b := int n16) ?_ rfl
        rw [wallsE_at (by omega) hx13 g2 (by rw [← hk_16_1]; exact f18), ← hk_16_1]
      · have f18 : ¬ (n16 ≠ 0) := fun hh => hh (bne_f e3)
        have hc0 : convE 8 x13 = 0 := by rw [← hk_16_1]; exact Classical.not_not.1 f18
        refine ⟨i + 1, ⟨by omega, fun j hj => by
          by_cases e : j = i
          · rw [e, hx13, Option.getD_some]; exact hc0
          · exact g2 j (by omega)⟩, by simp only; omega, ?_⟩
        constructor <;> (repeat' (first | exact rfl | exact True.intro | apply And.intro))
        all_goals first
          | exact congrArg (fun n : Int => D.v (.int .i64 n)) (by rw [wrap64 _ (by omega) (by omega)]; omega)
          | exact congrArg (fun n : Int => D.v (.int .i64 n)) (by omega)
    · have f12 : ¬ ((i : Int) < ((List.map rdvs W).length : Int)) := of_decide_eq_false e2
      refine Eq.trans (b := int 0) ?_ rfl
      rw [wallsE_0 (by omega) fun j hj => g2 j (by omega)]
theorem k_wCheck {W : List (List (RV × RV))} (hW : W.length ≤ 1048576 ∧ ∀ m, m ∈ W → m.length ≤ 1048576 ∧ ∀ p, p ∈ m → p.1.z ≤ 1048576 ∧ p.2.z ≤ 1048576) (k : ∀ n, n = wallsE W → K (int n)) : Ask 143 [.val (.one (.d (.list (List.map rdvs W))))] K := use (wCheck_spec W hW) rfl (k _ rfl)
set_option maxHeartbeats 4000000 in
set_option maxRecDepth 100000 in
theorem free_spec (L M : List (List (RV × RV))) (hL : ∀ a, a ∈ L → okV a) (hM : ∀ b, b ∈ M → okV b) (hnL : L.length ≤ 1048576) (hnM : M.length ≤ 1048576) : Spec Tryz.prog Tab 144 [.val (.one (.d (.list (List.map rdvs L)))), .val (.one (.d (.list (List.map rdvs M))))] (bool (freeB L M)) := by
  have hL1 : (List.map rdvs L).length = L.length := List.length_map ..
  have hL2 : (List.map rdvs M).length = M.length := List.length_map ..
  refine fn_spec Tryz.func144 rfl rfl Tryz.ntmps144 rfl (by kernel_rfl) rfl rfl ?_
  refine ⟨Nat, fun i => [(1, .val (.one (.d (.list (List.map rdvs M))))), (11, .val (.one (.d (.list (List.map rdvs L))))), (12, int ((List.map rdvs L).length : Int)), (13, int (i : Int))],
    fun i => [], fun i => i ≤ L.length ∧ (L.take i).all (fun a => M.all fun b => sepB a b) = true, fun i => L.length - i, 0, ?_, ⟨Nat.zero_le _, rfl⟩, fun i hs => ?_⟩
  · constructor <;> (repeat' (first | exact rfl | exact True.intro | exact ⟨_, _, rfl⟩ | exact (by decide) | apply And.intro))
    all_goals first | exact congrArg (fun n : Int => D.v (.int .i64 n)) (by omega) | exact congrArg (fun n : Int => D.v (.int .i64 n)) (by rw [wrap64 _ (by omega) (by omega)]; omega) | (simp; done)
  obtain ⟨g1, g2⟩ := hs
  refine ⟨fun e1 => ?_, fun e1 => ?_⟩
  · have f14 : (i : Int) < ((List.map rdvs L).length : Int) := of_decide_eq_true e1
    refine get_ex (l := L) (i := i) (by first | omega | exact Nat.mod_lt _ (by omega)) fun x15 hx15 => ?_
    obtain ⟨⟨hnx15, hcx15⟩, hvx15⟩ := hL x15 (List.mem_of_getElem? hx15)
    obtain ⟨⟨bz1x15, bz2x15⟩, bz3x15, bz4x15⟩ := bx_z hvx15
    refine k_ix i [D.list (List.map rdv x15)] (by first | rfl | omega | (rw [wrap64 _ (by omega) (by omega)]; omega)) (map_at hx15) rfl ?_
    refine ⟨Nat, fun k => [(1, .val (.one (.d (.list (List.map rdvs M))))), (6, .val (.one (.d (.list (List.map rdv x15))))), (11, .val (.one (.d (.list (List.map rdvs L))))), (12, int ((List.map rdvs L).length : Int)), (13, int (i : Int)), (17, .val (.one (.d (.list (List.map rdvs M))))), (18, int ((List.map rdvs M).length : Int)), (19, int (k : Int))],
      fun k => [], fun k => k ≤ M.length ∧ (M.take k).all (fun b => sepB x15 b) = true, fun k => M.length - k, 0, ?_, ⟨Nat.zero_le _, rfl⟩, fun k hs => ?_⟩
    · constructor <;> (repeat' (first | exact rfl | exact True.intro | exact ⟨_, _, rfl⟩ | exact (by decide) | apply And.intro))
      all_goals first | exact congrArg (fun n : Int => D.v (.int .i64 n)) (by omega) | exact congrArg (fun n : Int => D.v (.int .i64 n)) (by rw [wrap64 _ (by omega) (by omega)]; omega) | (simp; done)
    obtain ⟨g3, g4⟩ := hs
    refine ⟨fun e2 => ?_, fun e2 => ?_⟩
    · have f20 : (k : Int) < ((List.map rdvs M).length : Int) := of_decide_eq_true e2
      refine get_ex (l := M) (i := k) (by first | omega | exact Nat.mod_lt _ (by omega)) fun x21 hx21 => ?_
      obtain ⟨⟨hnx21, hcx21⟩, hvx21⟩ := hM x21 (List.mem_of_getElem? hx21)
      obtain ⟨⟨bz1x21, bz2x21⟩, bz3x21, bz4x21⟩ := bx_z hvx21
      refine k_ix k [D.list (List.map rdv x21)] (by first | rfl | omega | (rw [wrap64 _ (by omega) (by omega)]; omega)) (map_at hx21) rfl ?_
      refine k_pBoxB (l := x15) (fun p hp => by have := hvx15 p hp; omega) (by omega) ?_
      refine k_pBoxB (l := x21) (fun p hp => by have := hvx21 p hp; omega) (by omega) ?_
      refine k_boxesW (by rw [cn_z]; omega) (by rw [cn_z]; omega) (by rw [cn_z]; omega) (by rw [cn_z]; omega) (by rw [cn_z]; omega) (by rw [cn_z]; omega) (by rw [cn_z]; omega) (by rw [cn_z]; omega) fun b27 hb27 => ?_
      refine ⟨fun e3 => ?_, fun e3 => ?_⟩
      · have f28 : ¬ (bxMeet (cn (bx1 x15)) (cn (bx2 x15)) (cn (bx3 x15)) (cn (bx4 x15)) (cn (bx1 x21)) (cn (bx2 x21)) (cn (bx3 x21)) (cn (bx4 x21))) := of_decide_eq_false (hb27.symm.trans (not_t e3))
        have hsp : sepB x15 x21 = true := sep_of_boxes hcx15 hcx21 f28
        refine ⟨k + 1, ⟨by omega, by rw [all_take hx21, g4, hsp]; rfl⟩, by simp only; omega, ?_⟩
        constructor <;> (repeat' (first | exact rfl | exact True.intro | apply And.intro))
        all_goals first
          | exact congrArg (fun n : Int => D.v (.int .i64 n)) (by rw [wrap64 _ (by omega) (by omega)]; omega)
          | exact congrArg (fun n : Int => D.v (.int .i64 n)) (by omega)
      · have f28 : ¬ (¬ (bxMeet (cn (bx1 x15)) (cn (bx2 x15)) (cn (bx3 x15)) (cn (bx4 x15)) (cn (bx1 x21)) (cn (bx2 x21)) (cn (bx3 x21)) (cn (bx4 x21)))) := fun hh => hh (of_decide_eq_true (hb27.symm.trans (not_f e3)))
        refine k_meetW (a := x15) (b := x21) (fun p hp => by have := hvx15 p hp; omega) (fun p hp => by have := hvx21 p hp; omega) (by omega) (by omega) fun n32 hk_32_1 => ?_
        refine fork (fun e4 => ?_) (fun e4 => ?_)
        · have f36 : meetB x15 x21 = true := e4
          refine ⟨fun _ => ?_, fun e => absurd e (by decide)⟩
          refine Eq.trans (b := bool false) ?_ rfl
          have hsp : sepB x15 x21 = false := by
            have := (meetB_sep hcx15 hcx21).2
            rw [f36] at this
            cases hh : sepB x15 x21
            · rfl
            · rw [hh] at this; exact absurd this (by decide)
          have hfr : freeB L M = false := all_false hx15 (all_false hx21 hsp)
          rw [hfr]
        · have f36 : ¬ (meetB x15 x21 = true) := fun hh => tf_no hh e4
          refine ⟨fun e5 => ?_, fun e5 => ?_⟩
          · have f39 : n32 ≠ 0 := bne_t e5
            exfalso
            exact f39 (by rw [hk_32_1]; exact (meetB_sep hcx15 hcx21).1)
          · have f39 : ¬ (n32 ≠ 0) := fun hh => hh (bne_f e5)
            have hsp : sepB x15 x21 = true := by
              have := (meetB_sep hcx15 hcx21).2
              cases hh : sepB x15 x21
              · rw [hh] at this; exact absurd this f36
              · rfl
            refine ⟨k + 1, ⟨by omega, by rw [all_take hx21, g4, hsp]; rfl⟩, by simp only; omega, ?_⟩
            constructor <;> (repeat' (first | exact rfl | exact True.intro | apply And.intro))
            all_goals first
              | exact congrArg (fun n : Int => D.v (.int .i64 n)) (by rw [wrap64 _ (by omega) (by omega)]; omega)
              | exact congrArg (fun n : Int => D.v (.int .i64 n)) (by omega)
    · have f20 : ¬ ((k : Int) < ((List.map rdvs M).length : Int)) := of_decide_eq_false e2
      have hk1 : k = M.length := by omega
      have hall : (M.all fun b => sepB x15 b) = true := by rw [← List.take_length (l := M), ← hk1]; exact g4
      refine ⟨i + 1, ⟨by omega, by rw [all_take hx15, g2, hall]; rfl⟩, by simp only; omega, ?_⟩
      constructor <;> (repeat' (first | exact rfl | exact True.intro | apply And.intro))
      all_goals first
        | exact congrArg (fun n : Int => D.v (.int .i64 n)) (by rw [wrap64 _ (by omega) (by omega)]; omega)
        | exact congrArg (fun n : Int => D.v (.int .i64 n)) (by omega)
  · have f14 : ¬ ((i : Int) < ((List.map rdvs L).length : Int)) := of_decide_eq_false e1
    refine Eq.trans (b := bool true) ?_ rfl
    have hfr : freeB L M = true := by
      have hi : i = L.length := by omega
      unfold freeB
      rw [← List.take_length (l := L), ← hi]; exact g2
    rw [hfr]
theorem k_free {L M : List (List (RV × RV))} (hL : ∀ a, a ∈ L → okV a) (hM : ∀ b, b ∈ M → okV b) (hnL : L.length ≤ 1048576) (hnM : M.length ≤ 1048576) (k : K (bool (freeB L M))) : Ask 144 [.val (.one (.d (.list (List.map rdvs L)))), .val (.one (.d (.list (List.map rdvs M))))] K := use (free_spec L M hL hM hnL hnM) rfl k
noncomputable def wlE (A : ArmV) (Q : List RV) (W : List (List (RV × RV))) : Int := if hasE A (Q.length : Int) = 0 then wallsE W else hasE A (Q.length : Int)
open Classical in
noncomputable def wlB (A : ArmV) (Q : List RV) (W : List (List (RV × RV))) : Bool := if hasE A (Q.length : Int) = 0 ∧ wallsE W = 0 then freeB (plcV A Q) W else false
theorem wlE_1 {A : ArmV} {Q : List RV} {W : List (List (RV × RV))} (h : hasE A (Q.length : Int) = 0) : wlE A Q W = wallsE W := if_pos h
theorem wlE_0 {A : ArmV} {Q : List RV} {W : List (List (RV × RV))} (h : ¬ hasE A (Q.length : Int) = 0) : wlE A Q W = hasE A (Q.length : Int) := if_neg h
theorem wlB_ok {A : ArmV} {Q : List RV} {W : List (List (RV × RV))} (h : hasE A (Q.length : Int) = 0) (g : wallsE W = 0) : wlB A Q W = freeB (plcV A Q) W := if_pos ⟨h, g⟩
theorem wlB_no {A : ArmV} {Q : List RV} {W : List (List (RV × RV))} (h : ¬ (hasE A (Q.length : Int) = 0 ∧ wallsE W = 0)) : wlB A Q W = false := if_neg h
noncomputable def amE (A B : ArmV) (Q R : List RV) : Int := if hasE A (Q.length : Int) = 0 then hasE B (R.length : Int) else hasE A (Q.length : Int)
open Classical in
noncomputable def amB (A B : ArmV) (Q R : List RV) : Bool := if hasE A (Q.length : Int) = 0 ∧ hasE B (R.length : Int) = 0 then freeB (plcV A Q) (plcV B R) else false
theorem amE_1 {A B : ArmV} {Q R : List RV} (h : hasE A (Q.length : Int) = 0) : amE A B Q R = hasE B (R.length : Int) := if_pos h
theorem amE_0 {A B : ArmV} {Q R : List RV} (h : ¬ hasE A (Q.length : Int) = 0) : amE A B Q R = hasE A (Q.length : Int) := if_neg h
theorem amB_ok {A B : ArmV} {Q R : List RV} (h : hasE A (Q.length : Int) = 0) (g : hasE B (R.length : Int) = 0) : amB A B Q R = freeB (plcV A Q) (plcV B R) := if_pos ⟨h, g⟩
theorem amB_no {A B : ArmV} {Q R : List RV} (h : ¬ (hasE A (Q.length : Int) = 0 ∧ hasE B (R.length : Int) = 0)) : amB A B Q R = false := if_neg h
theorem plcV_len (A : ArmV) (Q : List RV) : (plcV A Q).length ≤ 3 := by
  by_cases h : hasE A (Q.length : Int) = 0
  · rw [plcV_ok h, List.length_map, plcL_len]
    exact (armE_ok (hasE_ok.1 h).1).1
  · rw [plcV_no h]; exact Nat.zero_le _
theorem walls_okV {W : List (List (RV × RV))} (h : wallsE W = 0) (hz : ∀ m, m ∈ W → m.length ≤ 1048576 ∧ ∀ p, p ∈ m → p.1.z ≤ 1048576 ∧ p.2.z ≤ 1048576) : ∀ a, a ∈ W → okV a := fun a ha => by
  have hc := (wallsE_ok h).2 a ha
  exact ⟨⟨by have := (convE_ok.1 hc).1; omega, conv_64 hc⟩, fun p hp => by have := (hz a ha).2 p hp; omega⟩
set_option maxHeartbeats 2000000 in
set_option maxRecDepth 100000 in
theorem Walls_spec (A : ArmV) (Q : List RV) (W : List (List (RV × RV))) (hA : A.ok) (hQ : ∀ x, x ∈ Q → x.z ≤ 1048576) (hW : W.length ≤ 1048576 ∧ ∀ m, m ∈ W → m.length ≤ 1048576 ∧ ∀ p, p ∈ m → p.1.z ≤ 1048576 ∧ p.2.z ≤ 1048576) : Spec Tryz.prog Tab 69 [.val (.agg [.d (.v (.string A.name)), .d (.v (.bool A.bx.s)), .d (.v (.string A.bx.a)), .d (.v (.string A.bx.d)), .d (.v (.bool A.by'.s)), .d (.v (.string A.by'.a)), .d (.v (.string A.by'.d)), .d (.v (.bool (A.bh))), .d (.v (.bool A.bt.s)), .d (.v (.string A.bt.a)), .d (.v (.string A.bt.d)), .d (.list (List.map lk A.links))]), .val (.one (.d (.list (List.map rd Q)))), .val (.one (.d (.list (List.map rdvs W))))] (.tup [.one (.d (.v (.bool (wlB A Q W)))), .one (.d (.v (.int .i64 (wlE A Q W))))]) := by
  have hA2 := hA
  obtain ⟨z1, z2, z3, z4, z5, z6⟩ := hA
  have hL : (List.map lk A.links).length = A.links.length := List.length_map ..
  have hLq : (List.map rd Q).length = Q.length := List.length_map ..
  have hQ1 : ∀ x, x ∈ Q → x.z ≤ 2097151 := fun x hx => Nat.le_trans (hQ x hx) (by decide)
  have hLw : (List.map rdvs W).length = W.length := List.length_map ..
  have hW1 := hW.1
  refine fn_spec Tryz.func69 rfl rfl Tryz.ntmps69 rfl (by kernel_rfl) rfl rfl ?_
  refine k_Place (A := A) (Q := Q) (by assumption) (by assumption) fun n13 hk_13_1 => ?_
  refine ⟨fun e1 => ?_, fun e1 => ?_⟩
  · have f17 : n13 = 0 := beq_t e1
    refine k_wCheck (W := W) hW fun n19 hk_19_1 => ?_
    refine ⟨fun e2 => ?_, fun e2 => ?_⟩
    · have f21 : n19 ≠ 0 := bne_t e2
      refine Eq.trans (b := .tup [.one (.d (.v (.bool (false)))), .one (.d (.v (.int .i64 (n19))))]) ?_ rfl
      have h0 : hasE A (Q.length : Int) = 0 := by rw [← hk_13_1]; exact f17
      rw [wlB_no fun g => f21 (by rw [hk_19_1]; exact g.2), wlE_1 h0, ← hk_19_1]
      all_goals rfl
    · have f21 : ¬ (n19 ≠ 0) := fun hh => hh (bne_f e2)
      have h0 : hasE A (Q.length : Int) = 0 := by rw [← hk_13_1]; exact f17
      have hw0 : wallsE W = 0 := by rw [← hk_19_1]; exact Classical.not_not.1 f21
      have hfL := plcV_okV h0 hQ
      have hfM := walls_okV hw0 hW.2
      have hnM := hW.1
      refine k_free (L := plcV A Q) (M := W) hfL hfM (by have := plcV_len A Q; omega) hnM ?_
      refine Eq.trans (b := .tup [.one (.d (.v (.bool (freeB (plcV A Q) W)))), .one (.d (.v (.int .i64 (0))))]) ?_ rfl
      rw [wlB_ok h0 hw0, wlE_1 h0, hw0]
      all_goals rfl
  · have f17 : ¬ (n13 = 0) := beq_f e1
    refine ⟨fun e3 => ?_, fun e3 => ?_⟩
    · have f21 : n13 ≠ 0 := bne_t e3
      refine Eq.trans (b := .tup [.one (.d (.v (.bool (false)))), .one (.d (.v (.int .i64 (n13))))]) ?_ rfl
      have hno : ¬ hasE A (Q.length : Int) = 0 := by rw [← hk_13_1]; exact f17
      rw [wlB_no fun g => hno g.1, wlE_0 hno, ← hk_13_1]
      all_goals rfl
    · have f21 : ¬ (n13 ≠ 0) := fun hh => hh (bne_f e3)
      exfalso
      exact f17 (Classical.not_not.1 f21)
theorem k_Walls {A : ArmV} {Q : List RV} {W : List (List (RV × RV))} (hA : A.ok) (hQ : ∀ x, x ∈ Q → x.z ≤ 1048576) (hW : W.length ≤ 1048576 ∧ ∀ m, m ∈ W → m.length ≤ 1048576 ∧ ∀ p, p ∈ m → p.1.z ≤ 1048576 ∧ p.2.z ≤ 1048576) (k : ∀ b n, b = wlB A Q W → n = wlE A Q W → K (.tup [.one (.d (.v (.bool b))), .one (.d (.v (.int .i64 n)))])) : Ask 69 [.val (.agg [.d (.v (.string A.name)), .d (.v (.bool A.bx.s)), .d (.v (.string A.bx.a)), .d (.v (.string A.bx.d)), .d (.v (.bool A.by'.s)), .d (.v (.string A.by'.a)), .d (.v (.string A.by'.d)), .d (.v (.bool (A.bh))), .d (.v (.bool A.bt.s)), .d (.v (.string A.bt.a)), .d (.v (.string A.bt.d)), .d (.list (List.map lk A.links))]), .val (.one (.d (.list (List.map rd Q)))), .val (.one (.d (.list (List.map rdvs W))))] K := use (Walls_spec A Q W hA hQ hW) rfl (k _ _ rfl rfl)
set_option maxHeartbeats 2000000 in
set_option maxRecDepth 100000 in
theorem Arms_spec (A B : ArmV) (Q R : List RV) (hA : A.ok) (hQ : ∀ x, x ∈ Q → x.z ≤ 1048576) (hB : B.ok) (hR : ∀ x, x ∈ R → x.z ≤ 1048576) : Spec Tryz.prog Tab 73 [.val (.agg [.d (.v (.string A.name)), .d (.v (.bool A.bx.s)), .d (.v (.string A.bx.a)), .d (.v (.string A.bx.d)), .d (.v (.bool A.by'.s)), .d (.v (.string A.by'.a)), .d (.v (.string A.by'.d)), .d (.v (.bool (A.bh))), .d (.v (.bool A.bt.s)), .d (.v (.string A.bt.a)), .d (.v (.string A.bt.d)), .d (.list (List.map lk A.links))]), .val (.agg [.d (.v (.string B.name)), .d (.v (.bool B.bx.s)), .d (.v (.string B.bx.a)), .d (.v (.string B.bx.d)), .d (.v (.bool B.by'.s)), .d (.v (.string B.by'.a)), .d (.v (.string B.by'.d)), .d (.v (.bool (B.bh))), .d (.v (.bool B.bt.s)), .d (.v (.string B.bt.a)), .d (.v (.string B.bt.d)), .d (.list (List.map lk B.links))]), .val (.one (.d (.list (List.map rd Q)))), .val (.one (.d (.list (List.map rd R))))] (.tup [.one (.d (.v (.bool (amB A B Q R)))), .one (.d (.v (.int .i64 (amE A B Q R))))]) := by
  have hA2 := hA
  have hB2 := hB
  refine fn_spec Tryz.func73 rfl rfl Tryz.ntmps73 rfl (by kernel_rfl) rfl rfl ?_
  refine k_Place (A := A) (Q := Q) (by assumption) (by assumption) fun n16 hk_16_1 => ?_
  refine ⟨fun e1 => ?_, fun e1 => ?_⟩
  · have f20 : n16 ≠ 0 := bne_t e1
    refine Eq.trans (b := .tup [.one (.d (.v (.bool (false)))), .one (.d (.v (.int .i64 (n16))))]) ?_ rfl
    have hno : ¬ hasE A (Q.length : Int) = 0 := by rw [← hk_16_1]; exact f20
    rw [amB_no fun g => hno g.1, amE_0 hno, ← hk_16_1]
    all_goals rfl
  · have f20 : ¬ (n16 ≠ 0) := fun hh => hh (bne_f e1)
    refine k_Place (A := B) (Q := R) (by assumption) (by assumption) fun n25 hk_25_1 => ?_
    refine ⟨fun e2 => ?_, fun e2 => ?_⟩
    · have f29 : n25 ≠ 0 := bne_t e2
      refine Eq.trans (b := .tup [.one (.d (.v (.bool (false)))), .one (.d (.v (.int .i64 (n25))))]) ?_ rfl
      have h0 : hasE A (Q.length : Int) = 0 := by rw [← hk_16_1]; exact Classical.not_not.1 f20
      rw [amB_no fun g => f29 (by rw [hk_25_1]; exact g.2), amE_1 h0, ← hk_25_1]
      all_goals rfl
    · have f29 : ¬ (n25 ≠ 0) := fun hh => hh (bne_f e2)
      have h0 : hasE A (Q.length : Int) = 0 := by rw [← hk_16_1]; exact Classical.not_not.1 f20
      have h1 : hasE B (R.length : Int) = 0 := by rw [← hk_25_1]; exact Classical.not_not.1 f29
      have hfL := plcV_okV h0 hQ
      have hfM := plcV_okV h1 hR
      have hnM : (plcV B R).length ≤ 1048576 := by have := plcV_len B R; omega
      refine k_free (L := plcV A Q) (M := plcV B R) hfL hfM (by have := plcV_len A Q; omega) hnM ?_
      refine Eq.trans (b := .tup [.one (.d (.v (.bool (freeB (plcV A Q) (plcV B R))))), .one (.d (.v (.int .i64 (0))))]) ?_ rfl
      rw [amB_ok h0 h1, amE_1 h0, h1]
      all_goals rfl
theorem k_Arms {A B : ArmV} {Q R : List RV} (hA : A.ok) (hQ : ∀ x, x ∈ Q → x.z ≤ 1048576) (hB : B.ok) (hR : ∀ x, x ∈ R → x.z ≤ 1048576) (k : ∀ b n, b = amB A B Q R → n = amE A B Q R → K (.tup [.one (.d (.v (.bool b))), .one (.d (.v (.int .i64 n)))])) : Ask 73 [.val (.agg [.d (.v (.string A.name)), .d (.v (.bool A.bx.s)), .d (.v (.string A.bx.a)), .d (.v (.string A.bx.d)), .d (.v (.bool A.by'.s)), .d (.v (.string A.by'.a)), .d (.v (.string A.by'.d)), .d (.v (.bool (A.bh))), .d (.v (.bool A.bt.s)), .d (.v (.string A.bt.a)), .d (.v (.string A.bt.d)), .d (.list (List.map lk A.links))]), .val (.agg [.d (.v (.string B.name)), .d (.v (.bool B.bx.s)), .d (.v (.string B.bx.a)), .d (.v (.string B.bx.d)), .d (.v (.bool B.by'.s)), .d (.v (.string B.by'.a)), .d (.v (.string B.by'.d)), .d (.v (.bool (B.bh))), .d (.v (.bool B.bt.s)), .d (.v (.string B.bt.a)), .d (.v (.string B.bt.d)), .d (.list (List.map lk B.links))]), .val (.one (.d (.list (List.map rd Q)))), .val (.one (.d (.list (List.map rd R))))] K := use (Arms_spec A B Q R hA hQ hB hR) rfl (k _ _ rfl rfl)
end
end Go.Proofs.YtjhoddlhdoiifaaGreatDoor.eng

/- Contracts: placed shapes, walls: gantref3. Printed by wip/gp_place.py. -/
namespace Go.Proofs.YtjhoddlhdoiifaaGreatDoor.eng
open Go.RowKit num mem seg q held ratA ratB ratC ratD ratE vars ratF trq
section
variable {K : AV → Prop}
set_option maxHeartbeats 4000000 in
set_option maxRecDepth 100000 in
theorem RPlaced_spec (A : ArmV) (Q : List RV) (hA : A.ok) (hA0 : armE A = 0) (hlen : Q.length = A.links.length) (hQ : ∀ x, x ∈ Q → x.z ≤ 1048576) : Spec Tryz.prog Tab 72 [.val (.agg [.d (.v (.string A.name)), .d (.v (.bool A.bx.s)), .d (.v (.string A.bx.a)), .d (.v (.string A.bx.d)), .d (.v (.bool A.by'.s)), .d (.v (.string A.by'.a)), .d (.v (.string A.by'.d)), .d (.v (.bool (A.bh))), .d (.v (.bool A.bt.s)), .d (.v (.string A.bt.a)), .d (.v (.string A.bt.d)), .d (.list (List.map lk A.links))]), .val (.one (.d (.list (List.map rd Q))))] (.val (.one (.d (.list (List.map rqps (plcL A Q A.links.length)))))) := by
  have hA2 := hA
  obtain ⟨z1, z2, z3, z4, z5, z6⟩ := hA
  have hL : (List.map lk A.links).length = A.links.length := List.length_map ..
  have hLq : (List.map rd Q).length = Q.length := List.length_map ..
  have hQ1 : ∀ x, x ∈ Q → x.z ≤ 2097151 := fun x hx => Nat.le_trans (hQ x hx) (by decide)
  obtain ⟨hn3, hnz, _⟩ := armE_ok hA0
  have hLf : (List.map rqF (framesF A Q)).length = A.links.length + 1 := by rw [List.length_map, framesF_len]
  have hLk : (List.map rqF (linksF A Q A.links.length)).length = A.links.length := by rw [List.length_map, linksF_len]
  have hLj := linksF_len A Q A.links.length
  refine fn_spec Tryz.func72 rfl rfl Tryz.ntmps72 rfl (by kernel_rfl) rfl rfl ?_
  refine k_RFrames (A := A) (Q := Q) (by assumption) hA0 hlen (by assumption) ?_
  refine k_take A.links.length (List.map rqF (linksF A Q A.links.length)) (by first | omega | (simp; omega) | simp) (by first | rfl | omega | (rw [wrap64 _ (by omega) (by omega)]; omega)) (map_rows fun _ => rfl) (by rw [← List.map_take, framesF_take]) ?_
  refine ⟨by kernel_rfl, ?_⟩
  refine ⟨Nat, fun i => [(2, .val (.one (.ptr 2 0))), (5, .val (.one (.row 46 0))), (17, .val (.one (.d (.list (List.map rqF (linksF A Q A.links.length)))))), (18, int ((List.map rqF (linksF A Q A.links.length)).length : Int)), (19, int (i : Int))],
    fun i => [(2, .var 32 [.d (.v (.string A.name)), .d (.v (.bool A.bx.s)), .d (.v (.string A.bx.a)), .d (.v (.string A.bx.d)), .d (.v (.bool A.by'.s)), .d (.v (.string A.by'.a)), .d (.v (.string A.by'.d)), .d (.v (.bool (A.bh))), .d (.v (.bool A.bt.s)), .d (.v (.string A.bt.a)), .d (.v (.string A.bt.d)), .d (.list (List.map lk A.links))]), (46, .row 98 1 0 (List.map rqps (plcL A Q i)) true)], fun i => i ≤ A.links.length, fun i => A.links.length - i, 0, ?_, Nat.zero_le _, fun i hs => ?_⟩
  · constructor <;> (repeat' (first | exact rfl | exact True.intro | exact ⟨_, _, rfl⟩ | exact (by decide) | apply And.intro))
    all_goals first | exact congrArg (fun n : Int => D.v (.int .i64 n)) (by omega) | exact congrArg (fun n : Int => D.v (.int .i64 n)) (by rw [wrap64 _ (by omega) (by omega)]; omega) | (simp; done)
  have hT : (List.map rqps (plcL A Q i)).length ≤ 3 := by rw [List.length_map, plcL_len]; omega
  refine ⟨fun e1 => ?_, fun e1 => ?_⟩
  · have f20 : (i : Int) < ((List.map rqF (linksF A Q A.links.length)).length : Int) := of_decide_eq_true e1
    refine get_ex (l := (linksF A Q A.links.length)) (i := i) (by first | omega | exact Nat.mod_lt _ (by omega)) fun x22 hx22 => ?_
    have hex22 : x22 = linkF A Q i := (linksF_at hx22).1
    obtain ⟨⟨w1, w2⟩, w3, w4⟩ := link_z2 hA0 hQ (i := i) (by omega)
    rw [← hex22] at w1 w2 w3 w4
    refine k_ix i [D.v (.bool (decide (x22.x.num < 0))), D.list (W (w32 x22.x.num.natAbs)), D.list (W (w32 x22.x.den)), D.v (.bool (decide (x22.y.num < 0))), D.list (W (w32 x22.y.num.natAbs)), D.list (W (w32 x22.y.den)), D.v (.bool (decide (x22.c.num < 0))), D.list (W (w32 x22.c.num.natAbs)), D.list (W (w32 x22.c.den)), D.v (.bool (decide (x22.s.num < 0))), D.list (W (w32 x22.s.num.natAbs)), D.list (W (w32 x22.s.den))] (by first | rfl | omega | (rw [wrap64 _ (by omega) (by omega)]; omega)) (map_at hx22) rfl ?_
    refine get_ex (l := A.links) (i := i) (by first | omega | exact Nat.mod_lt _ (by omega)) fun x27 hx27 => ?_
    have hli := hx27
    have hshx27 := shpAt_is hx27
    obtain ⟨hpo1, hpo2⟩ := plc_ok hA0 hQ hx27
    have hssx27 := (link_small hA0 (List.mem_of_getElem? hx27)).2.2.2.2.2.2.2.2.2.2
    have hLs : (List.map rdv x27.shape).length = x27.shape.length := List.length_map ..
    have hpl : (plcQ (linkF A Q i) (shpAt A i)).length = x27.shape.length := by rw [plcQ_len, hshx27]
    refine k_ix i [D.v (.bool x27.len.s), D.v (.string x27.len.a), D.v (.string x27.len.d), D.v (.bool x27.low.s), D.v (.string x27.low.a), D.v (.string x27.low.d), D.v (.bool x27.high.s), D.v (.string x27.high.a), D.v (.string x27.high.d), D.v (.bool x27.speed.s), D.v (.string x27.speed.a), D.v (.string x27.speed.d), D.v (.bool x27.brake.s), D.v (.string x27.brake.a), D.v (.string x27.brake.d), D.list (List.map rdv x27.shape)] (by first | rfl | omega | (rw [wrap64 _ (by omega) (by omega)]; omega)) (map_at hx27) rfl ?_
    refine ⟨Nat, fun k => [(2, .val (.one (.ptr 2 0))), (5, .val (.one (.row 46 0))), (7, .val (.one (.ptr 7 0))), (8, .val (.one (.row 41 0))), (17, .val (.one (.d (.list (List.map rqF (linksF A Q A.links.length)))))), (18, int ((List.map rqF (linksF A Q A.links.length)).length : Int)), (19, int (i : Int)), (29, .val (.one (.d (.list (List.map rdv x27.shape))))), (30, int ((List.map rdv x27.shape).length : Int)), (31, int (k : Int))],
      fun k => [(2, .var 32 [.d (.v (.string A.name)), .d (.v (.bool A.bx.s)), .d (.v (.string A.bx.a)), .d (.v (.string A.bx.d)), .d (.v (.bool A.by'.s)), .d (.v (.string A.by'.a)), .d (.v (.string A.by'.d)), .d (.v (.bool (A.bh))), .d (.v (.bool A.bt.s)), .d (.v (.string A.bt.a)), .d (.v (.string A.bt.d)), .d (.list (List.map lk A.links))]), (7, .var 64 [.d (.v (.bool (decide (x22.x.num < 0)))), .d (.list (W (w32 x22.x.num.natAbs))), .d (.list (W (w32 x22.x.den))), .d (.v (.bool (decide (x22.y.num < 0)))), .d (.list (W (w32 x22.y.num.natAbs))), .d (.list (W (w32 x22.y.den))), .d (.v (.bool (decide (x22.c.num < 0)))), .d (.list (W (w32 x22.c.num.natAbs))), .d (.list (W (w32 x22.c.den))), .d (.v (.bool (decide (x22.s.num < 0)))), .d (.list (W (w32 x22.s.num.natAbs))), .d (.list (W (w32 x22.s.den)))]), (41, .row 168 6 0 (List.map rqP ((plcQ (linkF A Q i) (shpAt A i)).take k)) true), (46, .row 98 1 0 (List.map rqps (plcL A Q i)) true)], fun k => k ≤ (plcQ (linkF A Q i) (shpAt A i)).length, fun k => (plcQ (linkF A Q i) (shpAt A i)).length - k, 0, ?_, Nat.zero_le _, fun k hs => ?_⟩
    · constructor <;> (repeat' (first | exact rfl | exact True.intro | exact ⟨_, _, rfl⟩ | exact (by decide) | apply And.intro))
      all_goals first | exact congrArg (fun n : Int => D.v (.int .i64 n)) (by omega) | exact congrArg (fun n : Int => D.v (.int .i64 n)) (by rw [wrap64 _ (by omega) (by omega)]; omega) | (simp; done)
    have hp8 : (plcQ (linkF A Q i) (shpAt A i)).length ≤ 8 := hpo1.1
    have hT2 : (List.map rqP ((plcQ (linkF A Q i) (shpAt A i)).take k)).length ≤ 8 := by rw [List.length_map, List.length_take]; omega
    refine ⟨fun e2 => ?_, fun e2 => ?_⟩
    · have f32 : (k : Int) < ((List.map rdv x27.shape).length : Int) := of_decide_eq_true e2
      refine get_ex (l := x27.shape) (i := k) (by first | omega | exact Nat.mod_lt _ (by omega)) fun x33 hx33 => ?_
      have hv1x33 := smallP_z (hssx27 x33 (List.mem_of_getElem? hx33)).1
      have hv2x33 := smallP_z (hssx27 x33 (List.mem_of_getElem? hx33)).2
      have hvat := hx33
      refine k_ix k [D.v (.bool x33.1.s), D.v (.string x33.1.a), D.v (.string x33.1.d), D.v (.bool x33.2.s), D.v (.string x33.2.a), D.v (.string x33.2.d)] (by first | rfl | omega | (rw [wrap64 _ (by omega) (by omega)]; omega)) (map_at hx33) rfl ?_
      refine k_Pt (x := x33.1) (y := x33.2) (by omega) (by omega) (fun p38 q38 hk_38_2 hk_38_3 hk_38_4 hk_38_5 => ?_)
      refine k_FPut (p := x22.x) (q := x22.y) (r := x22.c) (u := x22.s) (v := p38) (y := q38) (by omega) (by omega) (by omega) (by omega) (by omega) (by omega) (fun ya39 yb39 hk_39_2 hk_39_3 hk_39_4 hk_39_5 => ?_)
      refine ⟨⟨row1 rfl, (by show ((List.map rqP ((plcQ (linkF A Q i) (shpAt A i)).take k)).length + 1) * 112 ≤ _; omega), (by show ((List.map rqP ((plcQ (linkF A Q i) (shpAt A i)).take k)).length + 1) ≤ _; omega)⟩, ?_⟩
      refine ⟨by kernel_rfl, ?_⟩
      have hpk : (plcQ (linkF A Q i) (shpAt A i))[k]? = some (ya39, yb39) := by
        rw [hshx27]; unfold plcQ
        rw [List.getElem?_map, hvat]
        show some (putQ (linkF A Q i) x33.1.q x33.2.q) = _
        rw [hk_39_2, hk_39_3, hk_38_2, hk_38_3, hex22]; rfl
      refine ⟨k + 1, by omega, by simp only; omega, ?_⟩
      constructor <;> (repeat' (first | exact rfl | exact True.intro | apply And.intro))
      all_goals first
        | (rw [map_snoc hpk]; rfl)
        | exact congrArg (fun n : Int => D.v (.int .i64 n)) (by rw [wrap64 _ (by omega) (by omega)]; omega)
        | exact congrArg (fun n : Int => D.v (.int .i64 n)) (by omega)
    · have f32 : ¬ ((k : Int) < ((List.map rdv x27.shape).length : Int)) := of_decide_eq_false e2
      refine ⟨⟨row1 rfl, (by show ((List.map rqps (plcL A Q i)).length + 1) * 24 ≤ _; omega), (by show ((List.map rqps (plcL A Q i)).length + 1) ≤ _; omega)⟩, ?_⟩
      have htk : (plcQ (linkF A Q i) (shpAt A i)).take k = plcQ (linkF A Q i) (shpAt A i) := List.take_of_length_le (by omega)
      refine ⟨i + 1, by omega, by simp only; omega, ?_⟩
      constructor <;> (repeat' (first | exact rfl | exact True.intro | apply And.intro))
      all_goals first
        | (rw [plcL_snoc]; exact congrArg (fun m => List.map rqps (plcL A Q i) ++ [[D.list (List.map rqP m)]]) htk.symm)
        | (rw [plcL_snoc]; exact congrArg (fun m => List.map rqps (plcL A Q i) ++ [[D.list (List.map rqP m)]]) htk)
        | exact congrArg (fun n : Int => D.v (.int .i64 n)) (by rw [wrap64 _ (by omega) (by omega)]; omega)
        | exact congrArg (fun n : Int => D.v (.int .i64 n)) (by omega)
  · have f20 : ¬ ((i : Int) < ((List.map rqF (linksF A Q A.links.length)).length : Int)) := of_decide_eq_false e1
    refine Eq.trans (b := .val (.one (.d (.list (List.map rqps (plcL A Q i)))))) ?_ rfl
    obtain rfl : i = A.links.length := by omega
    rfl
theorem k_RPlaced {A : ArmV} {Q : List RV} (hA : A.ok) (hA0 : armE A = 0) (hlen : Q.length = A.links.length) (hQ : ∀ x, x ∈ Q → x.z ≤ 1048576) (k : K (.val (.one (.d (.list (List.map rqps (plcL A Q A.links.length))))))) : Ask 72 [.val (.agg [.d (.v (.string A.name)), .d (.v (.bool A.bx.s)), .d (.v (.string A.bx.a)), .d (.v (.string A.bx.d)), .d (.v (.bool A.by'.s)), .d (.v (.string A.by'.a)), .d (.v (.string A.by'.d)), .d (.v (.bool (A.bh))), .d (.v (.bool A.bt.s)), .d (.v (.string A.bt.a)), .d (.v (.string A.bt.d)), .d (.list (List.map lk A.links))]), .val (.one (.d (.list (List.map rd Q))))] K := use (RPlaced_spec A Q hA hA0 hlen hQ) rfl k
set_option maxHeartbeats 1000000 in
set_option maxRecDepth 100000 in
theorem RWalls_spec (W : List (List (RV × RV))) (hW : W.length ≤ 1048576 ∧ ∀ m, m ∈ W → m.length ≤ 1048576 ∧ ∀ p, p ∈ m → p.1.z ≤ 1048576 ∧ p.2.z ≤ 1048576) : Spec Tryz.prog Tab 68 [.val (.one (.d (.list (List.map rdvs W))))] (int (wallsE W)) := by
  have hLw : (List.map rdvs W).length = W.length := List.length_map ..
  have hW1 := hW.1
  refine fn_spec Tryz.func68 rfl rfl Tryz.ntmps68 rfl (by kernel_rfl) rfl rfl ?_
  refine ⟨fun e1 => ?_, fun e1 => ?_⟩
  · have f8 : ((List.map rdvs W).length : Int) > 20 := of_decide_eq_true e1
    refine Eq.trans (b := int 2) ?_ rfl
    rw [wallsE_2 (by omega)]
  · have f8 : ¬ (((List.map rdvs W).length : Int) > 20) := of_decide_eq_false e1
    refine ⟨Nat, fun i => [(9, .val (.one (.d (.list (List.map rdvs W))))), (10, int ((List.map rdvs W).length : Int)), (11, int (i : Int))],
      fun i => [], fun i => i ≤ W.length ∧ ∀ j, j < i → convE 8 ((W[j]?).getD []) = 0, fun i => W.length - i, 0, ?_, ⟨Nat.zero_le _, fun j h => by omega⟩, fun i hs => ?_⟩
    · constructor <;> (repeat' (first | exact rfl | exact True.intro | exact ⟨_, _, rfl⟩ | exact (by decide) | apply And.intro))
      all_goals first | exact congrArg (fun n : Int => D.v (.int .i64 n)) (by omega) | exact congrArg (fun n : Int => D.v (.int .i64 n)) (by rw [wrap64 _ (by omega) (by omega)]; omega) | (simp; done)
    obtain ⟨g1, g2⟩ := hs
    refine ⟨fun e2 => ?_, fun e2 => ?_⟩
    · have f12 : (i : Int) < ((List.map rdvs W).length : Int) := of_decide_eq_true e2
      refine get_ex (l := W) (i := i) (by first | omega | exact Nat.mod_lt _ (by omega)) fun x13 hx13 => ?_
      have hwx13 := hW.2 x13 (List.mem_of_getElem? hx13)
      refine k_ix i [D.list (List.map rdv x13)] (by first | rfl | omega | (rw [wrap64 _ (by omega) (by omega)]; omega)) (map_at hx13) rfl ?_
      refine k_PolyFault (l := x13) (fun p hp => ⟨Nat.le_trans (hwx13.2 p hp).1 (by decide), Nat.le_trans (hwx13.2 p hp).2 (by decide)⟩) (Nat.le_trans hwx13.1 (by decide)) fun n16 hk_16_1 => ?_
      refine ⟨fun e3 => ?_, fun e3 => ?_⟩
      · have f18 : n16 ≠ 0 := bne_t e3
        refine Eq.trans (b := int n16) ?_ rfl
        rw [wallsE_at (by omega) hx13 g2 (by rw [← hk_16_1]; exact f18), ← hk_16_1]
      · have f18 : ¬ (n16 ≠ 0) := fun hh => hh (bne_f e3)
        have hc0 : convE 8 x13 = 0 := by rw [← hk_16_1]; exact Classical.not_not.1 f18
        refine ⟨i + 1, ⟨by omega, fun j hj => by
          by_cases e : j = i
          · rw [e, hx13, Option.getD_some]; exact hc0
          · exact g2 j (by omega)⟩, by simp only; omega, ?_⟩
        constructor <;> (repeat' (first | exact rfl | exact True.intro | apply And.intro))
        all_goals first
          | exact congrArg (fun n : Int => D.v (.int .i64 n)) (by rw [wrap64 _ (by omega) (by omega)]; omega)
          | exact congrArg (fun n : Int => D.v (.int .i64 n)) (by omega)
    · have f12 : ¬ ((i : Int) < ((List.map rdvs W).length : Int)) := of_decide_eq_false e2
      refine Eq.trans (b := int 0) ?_ rfl
      rw [wallsE_0 (by omega) fun j hj => g2 j (by omega)]
theorem k_RWalls {W : List (List (RV × RV))} (hW : W.length ≤ 1048576 ∧ ∀ m, m ∈ W → m.length ≤ 1048576 ∧ ∀ p, p ∈ m → p.1.z ≤ 1048576 ∧ p.2.z ≤ 1048576) (k : ∀ n, n = wallsE W → K (int n)) : Ask 68 [.val (.one (.d (.list (List.map rdvs W))))] K := use (RWalls_spec W hW) rfl (k _ rfl)
def swA (m n : List (Rat × Rat)) (c : Nat) : List (Rat × Rat) := if c % 2 = 0 then m else n
theorem sw_s (m n : List (Rat × Rat)) (c : Nat) : swA m n (c + 1) = swA n m c := by
  unfold swA
  by_cases h : c % 2 = 0
  · rw [if_pos h, if_neg (by omega)]
  · rw [if_neg h, if_pos (by omega)]
def qz (m : List (Rat × Rat)) : Prop := m.length ≤ 1048576 ∧ ∀ p, p ∈ m → qs p.1 ≤ 260000000 ∧ qs p.2 ≤ 260000000
theorem sw_z {m n : List (Rat × Rat)} (hm : qz m) (hn : qz n) (c : Nat) : qz (swA m n c) := by
  unfold swA; split <;> assumption
set_option maxHeartbeats 4000000 in
set_option maxRecDepth 100000 in
theorem RMeet_spec (m n : List (Rat × Rat)) (hm : qz m) (hn : qz n) : Spec Tryz.prog Tab 74 [.val (.one (.d (.list (List.map rqP m)))), .val (.one (.d (.list (List.map rqP n))))] (bool (meetR m n)) := by
  refine fn_spec Tryz.func74 rfl rfl Tryz.ntmps74 rfl (by kernel_rfl) rfl rfl ?_
  refine ⟨Nat, fun c => [(0, .val (.one (.d (.list (List.map rqP (swA m n c)))))), (1, .val (.one (.d (.list (List.map rqP (swA n m c)))))), (11, int (c : Int))],
    fun c => [], fun c => c ≤ 2 ∧ ∀ j, j < c → bydB (swA m n j) (swA n m j) = false, fun c => 2 - c, 0, ?_, ⟨Nat.zero_le _, fun j h => by omega⟩, fun c hs => ?_⟩
  · constructor <;> (repeat' (first | exact rfl | exact True.intro | exact ⟨_, _, rfl⟩ | exact (by decide) | apply And.intro))
    all_goals first | exact congrArg (fun n : Int => D.v (.int .i64 n)) (by omega) | exact congrArg (fun n : Int => D.v (.int .i64 n)) (by rw [wrap64 _ (by omega) (by omega)]; omega) | (simp; done)
  obtain ⟨g1, g2⟩ := hs
  have hzA := sw_z hm hn c
  have hzB := sw_z hn hm c
  have hA1 := hzA.1
  have hB1 := hzB.1
  have hLA : (List.map rqP (swA m n c)).length = (swA m n c).length := List.length_map ..
  have hLB : (List.map rqP (swA n m c)).length = (swA n m c).length := List.length_map ..
  refine ⟨fun e1 => ?_, fun e1 => ?_⟩
  · have f12 : (c : Int) < 2 := of_decide_eq_true e1
    refine ⟨Nat, fun i => [(0, .val (.one (.d (.list (List.map rqP (swA m n c)))))), (1, .val (.one (.d (.list (List.map rqP (swA n m c)))))), (11, int (c : Int)), (13, .val (.one (.d (.list (List.map rqP (swA m n c)))))), (14, int ((List.map rqP (swA m n c)).length : Int)), (15, int (i : Int))],
      fun i => [], fun i => i ≤ (swA m n c).length ∧ ∀ j, j < i → sdU (swA m n c) (swA n m c) j (swA n m c).length = false, fun i => (swA m n c).length - i, 0, ?_, ⟨Nat.zero_le _, fun j h => by omega⟩, fun i hs => ?_⟩
    · constructor <;> (repeat' (first | exact rfl | exact True.intro | exact ⟨_, _, rfl⟩ | exact (by decide) | apply And.intro))
      all_goals first | exact congrArg (fun n : Int => D.v (.int .i64 n)) (by omega) | exact congrArg (fun n : Int => D.v (.int .i64 n)) (by rw [wrap64 _ (by omega) (by omega)]; omega) | (simp; done)
    obtain ⟨g3, g4⟩ := hs
    refine ⟨fun e2 => ?_, fun e2 => ?_⟩
    · have f16 : (i : Int) < ((List.map rqP (swA m n c)).length : Int) := of_decide_eq_true e2
      refine get_ex (l := (swA m n c)) (i := i) (by first | omega | exact Nat.mod_lt _ (by omega)) fun x18 hx18 => ?_
      obtain ⟨hq1x18, hq2x18⟩ := hzA.2 x18 (List.mem_of_getElem? hx18)
      refine k_ix i [D.v (.bool (decide (x18.1.num < 0))), D.list (W (w32 x18.1.num.natAbs)), D.list (W (w32 x18.1.den)), D.v (.bool (decide (x18.2.num < 0))), D.list (W (w32 x18.2.num.natAbs)), D.list (W (w32 x18.2.den))] (by first | rfl | omega | (rw [wrap64 _ (by omega) (by omega)]; omega)) (map_at hx18) rfl ?_
      refine k_remW (i + 1) ((swA m n c).length) (by first | rfl | omega | (rw [wrap64 _ (by omega) (by omega)]; omega)) (by first | rfl | omega | (rw [wrap64 _ (by omega) (by omega)]; omega)) (by omega) ?_
      refine get_ex (l := (swA m n c)) (i := ((i + 1) % (swA m n c).length)) (by first | omega | exact Nat.mod_lt _ (by omega)) fun x26 hx26 => ?_
      obtain ⟨hq1x26, hq2x26⟩ := hzA.2 x26 (List.mem_of_getElem? hx26)
      refine k_ix ((i + 1) % (swA m n c).length) [D.v (.bool (decide (x26.1.num < 0))), D.list (W (w32 x26.1.num.natAbs)), D.list (W (w32 x26.1.den)), D.v (.bool (decide (x26.2.num < 0))), D.list (W (w32 x26.2.num.natAbs)), D.list (W (w32 x26.2.den))] (by first | rfl | omega | (rw [wrap64 _ (by omega) (by omega)]; omega)) (map_at hx26) rfl ?_
      refine k_Psub (p := x26.1) (q := x26.2) (r := x18.1) (u := x18.2) (by omega) (by omega) (by omega) (by omega) (fun ya29 yb29 hk_29_2 hk_29_3 hk_29_4 hk_29_5 => ?_)
      refine ⟨by kernel_rfl, ?_⟩
      refine ⟨Nat, fun k => [(0, .val (.one (.d (.list (List.map rqP (swA m n c)))))), (1, .val (.one (.d (.list (List.map rqP (swA n m c)))))), (6, .val (.one (.ptr 6 0))), (7, .val (.one (.ptr 7 0))), (8, bool (sdU (swA m n c) (swA n m c) i k)), (11, int (c : Int)), (13, .val (.one (.d (.list (List.map rqP (swA m n c)))))), (14, int ((List.map rqP (swA m n c)).length : Int)), (15, int (i : Int)), (30, .val (.one (.d (.list (List.map rqP (swA n m c)))))), (31, int ((List.map rqP (swA n m c)).length : Int)), (32, int (k : Int))],
        fun k => [(6, .var 168 [.d (.v (.bool (decide (x18.1.num < 0)))), .d (.list (W (w32 x18.1.num.natAbs))), .d (.list (W (w32 x18.1.den))), .d (.v (.bool (decide (x18.2.num < 0)))), .d (.list (W (w32 x18.2.num.natAbs))), .d (.list (W (w32 x18.2.den)))]), (7, .var 168 [.d (.v (.bool (decide (ya29.num < 0)))), .d (.list (W (w32 ya29.num.natAbs))), .d (.list (W (w32 ya29.den))), .d (.v (.bool (decide (yb29.num < 0)))), .d (.list (W (w32 yb29.num.natAbs))), .d (.list (W (w32 yb29.den)))])], fun k => k ≤ (swA n m c).length, fun k => (swA n m c).length - k, 0, ?_, Nat.zero_le _, fun k hs => ?_⟩
      · constructor <;> (repeat' (first | exact rfl | exact True.intro | exact ⟨_, _, rfl⟩ | exact (by decide) | apply And.intro))
        all_goals first | exact congrArg (fun n : Int => D.v (.int .i64 n)) (by omega) | exact congrArg (fun n : Int => D.v (.int .i64 n)) (by rw [wrap64 _ (by omega) (by omega)]; omega) | (simp; done)
      refine ⟨fun e3 => ?_, fun e3 => ?_⟩
      · have f33 : (k : Int) < ((List.map rqP (swA n m c)).length : Int) := of_decide_eq_true e3
        refine get_ex (l := (swA n m c)) (i := k) (by first | omega | exact Nat.mod_lt _ (by omega)) fun x34 hx34 => ?_
        obtain ⟨hq1x34, hq2x34⟩ := hzB.2 x34 (List.mem_of_getElem? hx34)
        refine k_ix k [D.v (.bool (decide (x34.1.num < 0))), D.list (W (w32 x34.1.num.natAbs)), D.list (W (w32 x34.1.den)), D.v (.bool (decide (x34.2.num < 0))), D.list (W (w32 x34.2.num.natAbs)), D.list (W (w32 x34.2.den))] (by first | rfl | omega | (rw [wrap64 _ (by omega) (by omega)]; omega)) (map_at hx34) rfl ?_
        refine fork (fun e4 => ?_) (fun e4 => ?_)
        · have f37 : sdU (swA m n c) (swA n m c) i k = true := e4
          refine k_Psub (p := x34.1) (q := x34.2) (r := x18.1) (u := x18.2) (by omega) (by omega) (by omega) (by omega) (fun ya41 yb41 hk_41_2 hk_41_3 hk_41_4 hk_41_5 => ?_)
          refine k_Pcross (p := ya29) (q := yb29) (r := ya41) (u := yb41) (by omega) (by omega) (by omega) (by omega) (fun ya42 hk_42_1 hk_42_2 => ?_)
          refine k_Sign3 (q := ya42) fun n43 h43 => ?_
          refine ⟨by kernel_rfl, ?_⟩
          have hstep : sdU (swA m n c) (swA n m c) i (k + 1) = (sdU (swA m n c) (swA n m c) i k && decide (poly.ori (ptQ (swA m n c) i) (ptQ (swA m n c) ((i + 1) % (swA m n c).length)) x34 < 0)) := all_take hx34
          have hok : sdU (swA m n c) (swA n m c) i (k + 1) = decide (n43 < 0) := by
            rw [hstep, f37, Bool.true_and, ptQ_at hx18, ptQ_at hx26]
            refine decide_eq_decide.2 (Iff.trans ?_ (sg0_lt h43).symm)
            rw [hk_42_1, hk_29_2, hk_29_3, hk_41_2, hk_41_3]; exact Iff.rfl
          refine ⟨k + 1, by omega, by simp only; omega, ?_⟩
          constructor <;> (repeat' (first | exact rfl | exact True.intro | apply And.intro))
          all_goals first
            | exact congrArg (fun b : Bool => D.v (.bool b)) hok
            | exact congrArg (fun b : Bool => D.v (.bool b)) hok.symm
            | exact congrArg (fun n : Int => D.v (.int .i64 n)) (by rw [wrap64 _ (by omega) (by omega)]; omega)
            | exact congrArg (fun n : Int => D.v (.int .i64 n)) (by omega)
        · have f37 : ¬ (sdU (swA m n c) (swA n m c) i k = true) := fun hh => tf_no hh e4
          refine ⟨by kernel_rfl, ?_⟩
          have hstep : sdU (swA m n c) (swA n m c) i (k + 1) = (sdU (swA m n c) (swA n m c) i k && decide (poly.ori (ptQ (swA m n c) i) (ptQ (swA m n c) ((i + 1) % (swA m n c).length)) x34 < 0)) := all_take hx34
          have hok : sdU (swA m n c) (swA n m c) i (k + 1) = false := by rw [hstep, Bool.eq_false_iff.2 f37]; rfl
          refine ⟨k + 1, by omega, by simp only; omega, ?_⟩
          constructor <;> (repeat' (first | exact rfl | exact True.intro | apply And.intro))
          all_goals first
            | exact congrArg (fun b : Bool => D.v (.bool b)) hok
            | exact congrArg (fun b : Bool => D.v (.bool b)) hok.symm
            | exact congrArg (fun n : Int => D.v (.int .i64 n)) (by rw [wrap64 _ (by omega) (by omega)]; omega)
            | exact congrArg (fun n : Int => D.v (.int .i64 n)) (by omega)
      · have f33 : ¬ ((k : Int) < ((List.map rqP (swA n m c)).length : Int)) := of_decide_eq_false e3
        refine ⟨fun e5 => ?_, fun e5 => ?_⟩
        · have f47 : sdU (swA m n c) (swA n m c) i k = true := e5
          refine Eq.trans (b := bool false) ?_ rfl
          have hy : bydB (swA m n c) (swA n m c) = true := byd_yes (i := i) (by omega) (by rw [← show k = (swA n m c).length from by omega]; exact f47)
          have hmr : meetR m n = false := by
            rcases (show c = 0 ∨ c = 1 by omega) with rfl | rfl
            · have hy : bydB m n = true := hy
              unfold meetR; rw [hy]; rfl
            · have hy : bydB n m = true := hy
              unfold meetR; rw [hy]; simp
          rw [hmr]
        · have f47 : ¬ (sdU (swA m n c) (swA n m c) i k = true) := fun hh => tf_no hh e5
          have hk1 : k = (swA n m c).length := by omega
          have hsd : sdU (swA m n c) (swA n m c) i (swA n m c).length = false := by rw [← hk1]; exact Bool.eq_false_iff.2 f47
          refine ⟨i + 1, ⟨by omega, fun j hj => by
            by_cases e : j = i
            · rw [e]; exact hsd
            · exact g4 j (by omega)⟩, by simp only; omega, ?_⟩
          constructor <;> (repeat' (first | exact rfl | exact True.intro | apply And.intro))
          all_goals first
            | exact congrArg (fun n : Int => D.v (.int .i64 n)) (by rw [wrap64 _ (by omega) (by omega)]; omega)
            | exact congrArg (fun n : Int => D.v (.int .i64 n)) (by omega)
    · have f16 : ¬ ((i : Int) < ((List.map rqP (swA m n c)).length : Int)) := of_decide_eq_false e2
      have hno : bydB (swA m n c) (swA n m c) = false := byd_no fun j hj => g4 j (by omega)
      refine ⟨c + 1, ⟨by omega, fun j hj => by
        by_cases e : j = c
        · rw [e]; exact hno
        · exact g2 j (by omega)⟩, by simp only; omega, ?_⟩
      constructor <;> (repeat' (first | exact rfl | exact True.intro | apply And.intro))
      all_goals first
        | exact congrArg (fun l => D.list (List.map rqP l)) (sw_s m n c)
        | exact congrArg (fun l => D.list (List.map rqP l)) (sw_s n m c)
        | exact congrArg (fun l => D.list (List.map rqP l)) (sw_s m n c).symm
        | exact congrArg (fun l => D.list (List.map rqP l)) (sw_s n m c).symm
        | exact congrArg (fun n : Int => D.v (.int .i64 n)) (by rw [wrap64 _ (by omega) (by omega)]; omega)
        | exact congrArg (fun n : Int => D.v (.int .i64 n)) (by omega)
  · have f12 : ¬ ((c : Int) < 2) := of_decide_eq_false e1
    refine Eq.trans (b := bool true) ?_ rfl
    have hmr : meetR m n = true := by
      have h1 : bydB m n = false := g2 0 (by omega)
      have h2 : bydB n m = false := g2 1 (by omega)
      unfold meetR; rw [h1, h2]; rfl
    rw [hmr]
theorem k_RMeet {m n : List (Rat × Rat)} (hm : qz m) (hn : qz n) (k : ∀ b, b = meetR m n → K (bool b)) : Ask 74 [.val (.one (.d (.list (List.map rqP m)))), .val (.one (.d (.list (List.map rqP n))))] K := use (RMeet_spec m n hm hn) rfl (k _ rfl)
theorem k_PtsQ {l : List (RV × RV)} (hl : ∀ p, p ∈ l → p.1.z ≤ 67108864 ∧ p.2.z ≤ 67108864) (hn : l.length ≤ 1073741824) (k : K (.val (.one (.d (.list (List.map rqP (ptsQ l))))))) : Ask 145 [.val (.one (.d (.list (List.map rdv l))))] K := k_Pts hl hn (by rw [rqv_ptsQ]; exact k)
theorem ptsQ_z {m : List (RV × RV)} (h : m.length ≤ 1048576 ∧ ∀ p, p ∈ m → p.1.z ≤ 1048576 ∧ p.2.z ≤ 1048576) : qz (ptsQ m) := by
  refine ⟨by rw [ptsQ_len]; exact h.1, fun q hq => ?_⟩
  obtain ⟨p, hp, rfl⟩ := List.mem_map.1 (show q ∈ List.map _ _ from hq)
  have := h.2 p hp; have := p.1.z1; have := p.2.z1
  exact ⟨by show qs p.1.q ≤ _; omega, by show qs p.2.q ≤ _; omega⟩
theorem okP_z {m : List (Rat × Rat)} (h : okP m) : qz m := ⟨by have := h.1; omega, fun p hp => by have := h.2 p hp; omega⟩
set_option maxHeartbeats 2000000 in
set_option maxRecDepth 100000 in
theorem RClear_spec (L : List (List (Rat × Rat))) (W : List (List (RV × RV))) (hL : ∀ a, a ∈ L → okP a) (hnL : L.length ≤ 1048576) (hW : W.length ≤ 1048576 ∧ ∀ m, m ∈ W → m.length ≤ 1048576 ∧ ∀ p, p ∈ m → p.1.z ≤ 1048576 ∧ p.2.z ≤ 1048576) : Spec Tryz.prog Tab 71 [.val (.one (.d (.list (List.map rqps L)))), .val (.one (.d (.list (List.map rdvs W))))] (bool (clearB L W)) := by
  have hLw : (List.map rdvs W).length = W.length := List.length_map ..
  have hW1 := hW.1
  have hL1 : (List.map rqps L).length = L.length := List.length_map ..
  refine fn_spec Tryz.func71 rfl rfl Tryz.ntmps71 rfl (by kernel_rfl) rfl rfl ?_
  refine ⟨Nat, fun i => [(1, .val (.one (.d (.list (List.map rdvs W))))), (9, .val (.one (.d (.list (List.map rqps L))))), (10, int ((List.map rqps L).length : Int)), (11, int (i : Int))],
    fun i => [], fun i => i ≤ L.length ∧ (L.take i).all (fun a => W.all fun v => !meetR a (ptsQ v)) = true, fun i => L.length - i, 0, ?_, ⟨Nat.zero_le _, rfl⟩, fun i hs => ?_⟩
  · constructor <;> (repeat' (first | exact rfl | exact True.intro | exact ⟨_, _, rfl⟩ | exact (by decide) | apply And.intro))
    all_goals first | exact congrArg (fun n : Int => D.v (.int .i64 n)) (by omega) | exact congrArg (fun n : Int => D.v (.int .i64 n)) (by rw [wrap64 _ (by omega) (by omega)]; omega) | (simp; done)
  obtain ⟨g1, g2⟩ := hs
  refine ⟨fun e1 => ?_, fun e1 => ?_⟩
  · have f12 : (i : Int) < ((List.map rqps L).length : Int) := of_decide_eq_true e1
    refine get_ex (l := L) (i := i) (by first | omega | exact Nat.mod_lt _ (by omega)) fun x13 hx13 => ?_
    have hqzx13 := okP_z (hL x13 (List.mem_of_getElem? hx13))
    refine k_ix i [D.list (List.map rqP x13)] (by first | rfl | omega | (rw [wrap64 _ (by omega) (by omega)]; omega)) (map_at hx13) rfl ?_
    refine ⟨Nat, fun k => [(1, .val (.one (.d (.list (List.map rdvs W))))), (6, .val (.one (.d (.list (List.map rqP x13))))), (9, .val (.one (.d (.list (List.map rqps L))))), (10, int ((List.map rqps L).length : Int)), (11, int (i : Int)), (15, .val (.one (.d (.list (List.map rdvs W))))), (16, int ((List.map rdvs W).length : Int)), (17, int (k : Int))],
      fun k => [], fun k => k ≤ W.length ∧ (W.take k).all (fun v => !meetR x13 (ptsQ v)) = true, fun k => W.length - k, 0, ?_, ⟨Nat.zero_le _, rfl⟩, fun k hs => ?_⟩
    · constructor <;> (repeat' (first | exact rfl | exact True.intro | exact ⟨_, _, rfl⟩ | exact (by decide) | apply And.intro))
      all_goals first | exact congrArg (fun n : Int => D.v (.int .i64 n)) (by omega) | exact congrArg (fun n : Int => D.v (.int .i64 n)) (by rw [wrap64 _ (by omega) (by omega)]; omega) | (simp; done)
    obtain ⟨g3, g4⟩ := hs
    refine ⟨fun e2 => ?_, fun e2 => ?_⟩
    · have f18 : (k : Int) < ((List.map rdvs W).length : Int) := of_decide_eq_true e2
      refine get_ex (l := W) (i := k) (by first | omega | exact Nat.mod_lt _ (by omega)) fun x19 hx19 => ?_
      have hwx19 := hW.2 x19 (List.mem_of_getElem? hx19)
      have hqzx19 := ptsQ_z hwx19
      refine k_ix k [D.list (List.map rdv x19)] (by first | rfl | omega | (rw [wrap64 _ (by omega) (by omega)]; omega)) (map_at hx19) rfl ?_
      refine k_PtsQ (l := x19) (fun p hp => ⟨Nat.le_trans (hwx19.2 p hp).1 (by decide), Nat.le_trans (hwx19.2 p hp).2 (by decide)⟩) (Nat.le_trans hwx19.1 (by decide)) ?_
      refine k_RMeet (m := x13) (n := ptsQ x19) hqzx13 hqzx19 fun b24 hb24 => ?_
      refine ⟨fun e3 => ?_, fun e3 => ?_⟩
      · have f24 : meetR x13 (ptsQ x19) = true := hb24.symm.trans e3
        refine Eq.trans (b := bool false) ?_ rfl
        have hcl : clearB L W = false := all_false hx13 (all_false hx19 (by rw [f24]; rfl))
        rw [hcl]
      · have f24 : ¬ (meetR x13 (ptsQ x19) = true) := fun hh => absurd (hh.symm.trans (hb24.symm.trans e3)) (by decide)
        refine ⟨k + 1, ⟨by omega, by rw [all_take hx19, g4, Bool.eq_false_iff.2 f24]; rfl⟩, by simp only; omega, ?_⟩
        constructor <;> (repeat' (first | exact rfl | exact True.intro | apply And.intro))
        all_goals first
          | exact congrArg (fun n : Int => D.v (.int .i64 n)) (by rw [wrap64 _ (by omega) (by omega)]; omega)
          | exact congrArg (fun n : Int => D.v (.int .i64 n)) (by omega)
    · have f18 : ¬ ((k : Int) < ((List.map rdvs W).length : Int)) := of_decide_eq_false e2
      have hk1 : k = W.length := by omega
      have hall : (W.all fun v => !meetR x13 (ptsQ v)) = true := by rw [← List.take_length (l := W), ← hk1]; exact g4
      refine ⟨i + 1, ⟨by omega, by rw [all_take hx13, g2, hall]; rfl⟩, by simp only; omega, ?_⟩
      constructor <;> (repeat' (first | exact rfl | exact True.intro | apply And.intro))
      all_goals first
        | exact congrArg (fun n : Int => D.v (.int .i64 n)) (by rw [wrap64 _ (by omega) (by omega)]; omega)
        | exact congrArg (fun n : Int => D.v (.int .i64 n)) (by omega)
  · have f12 : ¬ ((i : Int) < ((List.map rqps L).length : Int)) := of_decide_eq_false e1
    refine Eq.trans (b := bool true) ?_ rfl
    have hcl : clearB L W = true := by
      have hi : i = L.length := by omega
      unfold clearB
      rw [← List.take_length (l := L), ← hi]; exact g2
    rw [hcl]
theorem k_RClear {L : List (List (Rat × Rat))} {W : List (List (RV × RV))} (hL : ∀ a, a ∈ L → okP a) (hnL : L.length ≤ 1048576) (hW : W.length ≤ 1048576 ∧ ∀ m, m ∈ W → m.length ≤ 1048576 ∧ ∀ p, p ∈ m → p.1.z ≤ 1048576 ∧ p.2.z ≤ 1048576) (k : ∀ b, b = clearB L W → K (bool b)) : Ask 71 [.val (.one (.d (.list (List.map rqps L)))), .val (.one (.d (.list (List.map rdvs W))))] K := use (RClear_spec L W hL hnL hW) rfl (k _ rfl)
end
end Go.Proofs.YtjhoddlhdoiifaaGreatDoor.eng

/- Contracts of gantlaw3.ClearWalls, ClearArms: they return true. Printed by wip/gp_lawclr.py. -/
namespace Go.Proofs.YtjhoddlhdoiifaaGreatDoor.eng
open Go.RowKit num mem seg q held ratA ratB ratC ratD ratE vars ratF argopen trq
section
variable {K : AV → Prop}
def wallL : List (List (RV × RV)) := [[(cn n2Q, cn n0Q), (cn ((4 : Nat) : Rat), cn n0Q), (cn ((4 : Nat) : Rat), cn n1Q)]]
theorem wallL_z : wallL.length ≤ 1048576 ∧ ∀ m, m ∈ wallL → m.length ≤ 1048576 ∧ ∀ p, p ∈ m → p.1.z ≤ 1048576 ∧ p.2.z ≤ 1048576 := by
  refine ⟨by decide, fun m hm => ?_⟩
  obtain rfl := List.mem_singleton.1 hm
  refine ⟨by show 3 ≤ 1048576; omega, fun p hp => ?_⟩
  have h : p = (cn n2Q, cn n0Q) ∨ p = (cn ((4 : Nat) : Rat), cn n0Q) ∨ p = (cn ((4 : Nat) : Rat), cn n1Q) := by simpa using hp
  rcases h with rfl | rfl | rfl
  · exact ⟨(by decide +kernel : qs n2Q ≤ 1048576), (by decide +kernel : qs n0Q ≤ 1048576)⟩
  · exact ⟨(by decide +kernel : qs ((4 : Nat) : Rat) ≤ 1048576), (by decide +kernel : qs n0Q ≤ 1048576)⟩
  · exact ⟨(by decide +kernel : qs ((4 : Nat) : Rat) ≤ 1048576), (by decide +kernel : qs n1Q ≤ 1048576)⟩
theorem wall_conv : convE 8 [(cn n2Q, cn n0Q), (cn ((4 : Nat) : Rat), cn n0Q), (cn ((4 : Nat) : Rat), cn n1Q)] = 0 := by
  refine convE_ok.2 ⟨by show ¬ (8 : Int) < ((3 : Nat) : Int); omega, by show ¬ (3 : Nat) < 3; omega, ?_⟩
  have p0 : pts [(cn n2Q, cn n0Q), (cn ((4 : Nat) : Rat), cn n0Q), (cn ((4 : Nat) : Rat), cn n1Q)] 0 = (n2Q, n0Q) := by rw [pts_at (p := (cn n2Q, cn n0Q)) rfl, cn_q, cn_q]
  have p1 : pts [(cn n2Q, cn n0Q), (cn ((4 : Nat) : Rat), cn n0Q), (cn ((4 : Nat) : Rat), cn n1Q)] 1 = (((4 : Nat) : Rat), n0Q) := by rw [pts_at (p := (cn ((4 : Nat) : Rat), cn n0Q)) rfl, cn_q, cn_q]
  have p2 : pts [(cn n2Q, cn n0Q), (cn ((4 : Nat) : Rat), cn n0Q), (cn ((4 : Nat) : Rat), cn n1Q)] 2 = (((4 : Nat) : Rat), n1Q) := by rw [pts_at (p := (cn ((4 : Nat) : Rat), cn n1Q)) rfl, cn_q, cn_q]
  intro i k hi h2 hk
  have hi : i < 3 := hi
  have hk : k < 3 := hk
  show 0 < poly.ori (pts _ i) (pts _ ((i + 1) % 3)) (pts _ ((i + k) % 3))
  obtain rfl : k = 2 := by omega
  rcases (show (i = 0 ∨ i = 1 ∨ i = 2) from by omega) with rfl | rfl | rfl
  · show 0 < poly.ori (pts _ 0) (pts _ 1) (pts _ 2)
    rw [p0, p1, p2]; decide +kernel
  · show 0 < poly.ori (pts _ 1) (pts _ 2) (pts _ 0)
    rw [p0, p1, p2]; decide +kernel
  · show 0 < poly.ori (pts _ 2) (pts _ 0) (pts _ 1)
    rw [p0, p1, p2]; decide +kernel
theorem wallL_ok : wallsE wallL = 0 := wallsE_0 (by decide) fun j hj => by
  have hj : j < 1 := hj
  obtain rfl : j = 0 := by omega
  exact wall_conv
theorem wallL_pts : ptsQ [(cn n2Q, cn n0Q), (cn ((4 : Nat) : Rat), cn n0Q), (cn ((4 : Nat) : Rat), cn n1Q)] = [(n2Q, n0Q), (((4 : Nat) : Rat), n0Q), (((4 : Nat) : Rat), n1Q)] := by
  show [((cn n2Q).q, (cn n0Q).q), ((cn ((4 : Nat) : Rat)).q, (cn n0Q).q), ((cn ((4 : Nat) : Rat)).q, (cn n1Q).q)] = _
  rw [cn_q, cn_q, cn_q, cn_q]
/-- the sample's only shape, placed -/
def samQ (t : Rat) : List (Rat × Rat) := let f := turnF ⟨n0Q, n0Q, cosq false n0Q, sinq n0Q⟩ t; [putQ f n0Q m1Q, putQ f ((3 : Nat) : Rat) m1Q, putQ f ((3 : Nat) : Rat) n1Q, putQ f n0Q n1Q]
theorem sam_plc (n : Nat) : plcL (sampA [3]) (natRV [n]) 1 = [samQ (n : Rat)] := by
  have hb : baseF (sampA [3]) = ⟨n0Q, n0Q, cosq false n0Q, sinq n0Q⟩ := by
    unfold baseF
    rw [show (sampA [3]).bx.q = n0Q from cn_q _, show (sampA [3]).by'.q = n0Q from cn_q _, show (sampA [3]).bt.q = n0Q from cn_q _]; rfl
  have q0 : qAt (natRV [n]) 0 = (n : Rat) := (qAt_is rfl).trans (cn_q _)
  show [plcQ (turnF (baseF (sampA [3])) (qAt (natRV [n]) 0)) (shpAt (sampA [3]) 0)] = _
  rw [hb, q0, show shpAt (sampA [3]) 0 = sampS 3 from shpAt_is (l := sampL 3) rfl]
  show [[putQ _ (cn n0Q).q (cn m1Q).q, putQ _ (cn ((3 : Nat) : Rat)).q (cn m1Q).q, putQ _ (cn ((3 : Nat) : Rat)).q (cn n1Q).q, putQ _ (cn n0Q).q (cn n1Q).q]] = _
  rw [cn_q, cn_q, cn_q, cn_q]; rfl
theorem sam_has (n : Nat) : hasE (sampA [3]) ((natRV [n]).length : Int) = 0 := sampA_has (by decide) (by decide) (by decide) rfl
theorem sam_wl (n : Nat) : wlB (sampA [3]) (natRV [n]) wallL = !meetR (samQ (n : Rat)) [(n2Q, n0Q), (((4 : Nat) : Rat), n0Q), (((4 : Nat) : Rat), n1Q)] := by
  rw [wlB_ok (sam_has n) wallL_ok, plcV_ok (sam_has n), free_clear]
  show clearB (plcL (sampA [3]) (natRV [n]) 1) wallL = _
  rw [sam_plc]
  show ((!meetR _ (ptsQ [(cn n2Q, cn n0Q), (cn ((4 : Nat) : Rat), cn n0Q), (cn ((4 : Nat) : Rat), cn n1Q)])) && true && true) = _
  rw [wallL_pts, Bool.and_true, Bool.and_true]
theorem sam_e (n : Nat) : wlE (sampA [3]) (natRV [n]) wallL = 0 := (wlE_1 (sam_has n)).trans wallL_ok
theorem sam_0 : wlB (sampA [3]) (natRV [0]) wallL = false := (sam_wl 0).trans (by decide +kernel)
theorem sam_2 : wlB (sampA [3]) (natRV [2]) wallL = true := (sam_wl 2).trans (by decide +kernel)
theorem natRV_zz {n : Nat} (h : n < 256) : ∀ x, x ∈ natRV [n] → x.z ≤ 1048576 := fun x hx => Nat.le_trans (natRV_z (fun m hm => by obtain rfl := List.mem_singleton.1 hm; exact h) x hx) (by decide)
theorem plcL_okP {A : ArmV} {Q : List RV} (hA : armE A = 0) (hQ : ∀ x, x ∈ Q → x.z ≤ 1048576) : ∀ a, a ∈ plcL A Q A.links.length → okP a := fun a ha => by
  obtain ⟨i, hi⟩ := List.mem_iff_getElem?.1 ha
  obtain ⟨rfl, hlt⟩ := plcL_at hi
  exact (plc_ok hA hQ (List.getElem?_eq_getElem hlt)).1
theorem free_arms (L M : List (List (Rat × Rat))) : freeB (L.map cvl) (M.map cvl) = L.all fun a => M.all fun b => !meetR a b := by
  rw [free_clear]
  unfold clearB
  congr 1
  funext a
  rw [List.all_map]
  congr 1
  funext b
  show (!meetR a (ptsQ (cvl b))) = _
  rw [ptsQ_cvl]
theorem okP_q {m : List (Rat × Rat)} (h : okP m) : qz m := ⟨by have := h.1; omega, fun p hp => by have := h.2 p hp; omega⟩
set_option maxHeartbeats 2000000 in
set_option maxRecDepth 100000 in
theorem clears_spec  : Spec Tryz.prog Tab 70 [] (bool true) := by
  have o3 : (sampA [3]).ok := ok_of_zs (sampA_zs (by decide) (by decide)) (by decide)
  have a3 : armE (sampA [3]) = 0 := sampA_ok (by decide) (by decide) (by decide)
  refine fn_spec Tryz.func70 rfl rfl Tryz.ntmps70 rfl (by kernel_rfl) rfl rfl ?_
  refine use (pt_of num_2 num_0) rfl ?_
  refine use (pt_of (num_nat 4 (by decide)) num_0) rfl ?_
  refine use (pt_of (num_nat 4 (by decide)) num_1) rfl ?_
  refine k_sample [3] rfl (by decide) (by decide) ?_
  refine k_numsR [0] rfl (by decide) (by decide) ?_
  refine k_Walls (A := sampA [3]) (Q := natRV [0]) (W := wallL) o3 (natRV_zz (by decide)) wallL_z fun b17 n17 hb17 hn17 => ?_
  obtain rfl := hb17.trans sam_0
  obtain rfl := hn17.trans (sam_e 0)
  refine k_sample [3] rfl (by decide) (by decide) ?_
  refine k_numsR [2] rfl (by decide) (by decide) ?_
  refine k_Walls (A := sampA [3]) (Q := natRV [2]) (W := wallL) o3 (natRV_zz (by decide)) wallL_z fun b26 n26 hb26 hn26 => ?_
  obtain rfl := hb26.trans sam_2
  obtain rfl := hn26.trans (sam_e 2)
  refine Eq.trans (b := bool true) ?_ rfl
  rfl
theorem k_clears (k : K (bool true)) : Ask 70 [] K := use clears_spec rfl k
set_option maxHeartbeats 4000000 in
set_option maxRecDepth 100000 in
theorem clearWalls_spec (A : ArmV) (Q : List RV) (W : List (List (RV × RV))) (hA : A.ok) (hQ : ∀ x, x ∈ Q → x.z ≤ 1048576) (hW : W.length ≤ 1048576 ∧ ∀ m, m ∈ W → m.length ≤ 1048576 ∧ ∀ p, p ∈ m → p.1.z ≤ 1048576 ∧ p.2.z ≤ 1048576) : Spec Tryz.prog Tab 12 [.val (.agg [.d (.v (.string A.name)), .d (.v (.bool A.bx.s)), .d (.v (.string A.bx.a)), .d (.v (.string A.bx.d)), .d (.v (.bool A.by'.s)), .d (.v (.string A.by'.a)), .d (.v (.string A.by'.d)), .d (.v (.bool (A.bh))), .d (.v (.bool A.bt.s)), .d (.v (.string A.bt.a)), .d (.v (.string A.bt.d)), .d (.list (List.map lk A.links))]), .val (.one (.d (.list (List.map rd Q)))), .val (.one (.d (.list (List.map rdvs W))))] (bool true) := by
  have hA2 := hA
  have hL : (List.map lk A.links).length = A.links.length := List.length_map ..
  have hLq : (List.map rd Q).length = Q.length := List.length_map ..
  refine fn_spec Tryz.func12 rfl rfl Tryz.ntmps12 rfl (by kernel_rfl) rfl rfl ?_
  refine k_HasFault (A := A) (n := ((List.map rd Q).length : Int)) (by assumption) fun n13 hk_13_1 => ?_
  rw [List.length_map] at hk_13_1
  refine ⟨fun e1 => ?_, fun e1 => ?_⟩
  · have f15 : n13 = 0 := beq_t e1
    refine k_RWalls (W := W) hW fun n17 hk_17_1 => ?_
    refine k_Walls (A := A) (Q := Q) (W := W) hA hQ hW fun b22 n22 hb22 hk_22_2 => ?_
    refine k_clears ?_
    refine ⟨fun e2 => ?_, fun e2 => ?_⟩
    · have f31 : n22 ≠ n17 := bne_t e2
      exfalso
      exact f31 (by rw [hk_22_2, wlE_1 (by rw [← hk_13_1]; exact f15), hk_17_1])
    · have f31 : ¬ (n22 ≠ n17) := fun hh => hh (bne_f e2)
      refine fork (fun e3 => ?_) (fun e3 => ?_)
      · have f34 : n17 ≠ 0 := bne_t e3
        refine fork (fun e4 => ?_) (fun e4 => ?_)
        · have f38 : ¬ (b22 = true) := fun hh => tf_no hh (not_t e4)
          refine Eq.trans (b := bool true) ?_ rfl
          rfl
        · have f38 : ¬ (¬ (b22 = true)) := fun hh => hh ((not_f e4))
          exfalso
          exact f38 (fun hh => by rw [hb22, wlB_no fun g => f34 (by rw [hk_17_1]; exact g.2)] at hh; exact absurd hh (by decide))
      · have f34 : ¬ (n17 ≠ 0) := fun hh => hh (bne_f e3)
        refine fork (fun e5 => ?_) (fun e5 => ?_)
        · have f41 : n17 = 0 := beq_t e5
          have h0 : hasE A (Q.length : Int) = 0 := by rw [← hk_13_1]; exact f15
          have hw0 : wallsE W = 0 := by rw [← hk_17_1]; exact f41
          have hA0 := (hasE_ok.1 h0).1
          have hlen0 := (hasE_ok.1 h0).2
          have hlen : Q.length = A.links.length := by omega
          have hn3 := (armE_ok hA0).1
          refine k_RPlaced hA hA0 hlen hQ ?_
          refine k_RClear (L := plcL A Q A.links.length) (W := W) (plcL_okP hA0 hQ) (by rw [plcL_len]; omega) hW fun b47 hb47 => ?_
          refine k_eql_bool_c (fun _ => ?_) (fun hh => absurd (by rw [hb22, hb47, wlB_ok h0 hw0, plcV_ok h0, free_clear]) hh)
          refine Eq.trans (b := bool true) ?_ rfl
          rfl
        · have f41 : ¬ (n17 = 0) := beq_f e5
          exfalso
          exact f34 f41
  · have f15 : ¬ (n13 = 0) := beq_f e1
    refine k_Walls (A := A) (Q := Q) (W := W) hA hQ hW fun b22 n22 hb22 hk_22_2 => ?_
    refine k_clears ?_
    refine ⟨fun e6 => ?_, fun e6 => ?_⟩
    · have f31 : n22 ≠ n13 := bne_t e6
      exfalso
      exact f31 (by rw [hk_22_2, wlE_0 (by rw [← hk_13_1]; exact f15), hk_13_1])
    · have f31 : ¬ (n22 ≠ n13) := fun hh => hh (bne_f e6)
      refine fork (fun e7 => ?_) (fun e7 => ?_)
      · have f34 : n13 ≠ 0 := bne_t e7
        refine fork (fun e8 => ?_) (fun e8 => ?_)
        · have f38 : ¬ (b22 = true) := fun hh => tf_no hh (not_t e8)
          refine Eq.trans (b := bool true) ?_ rfl
          rfl
        · have f38 : ¬ (¬ (b22 = true)) := fun hh => hh ((not_f e8))
          exfalso
          exact f38 (fun hh => by rw [hb22, wlB_no fun g => f34 (by rw [hk_13_1]; exact g.1)] at hh; exact absurd hh (by decide))
      · have f34 : ¬ (n13 ≠ 0) := fun hh => hh (bne_f e7)
        exfalso
        exact f34 f15
set_option maxHeartbeats 4000000 in
set_option maxRecDepth 100000 in
theorem clearArms_spec (A B : ArmV) (Q R : List RV) (hA : A.ok) (hB : B.ok) (hQ : ∀ x, x ∈ Q → x.z ≤ 1048576) (hR : ∀ x, x ∈ R → x.z ≤ 1048576) : Spec Tryz.prog Tab 13 [.val (.agg [.d (.v (.string A.name)), .d (.v (.bool A.bx.s)), .d (.v (.string A.bx.a)), .d (.v (.string A.bx.d)), .d (.v (.bool A.by'.s)), .d (.v (.string A.by'.a)), .d (.v (.string A.by'.d)), .d (.v (.bool (A.bh))), .d (.v (.bool A.bt.s)), .d (.v (.string A.bt.a)), .d (.v (.string A.bt.d)), .d (.list (List.map lk A.links))]), .val (.agg [.d (.v (.string B.name)), .d (.v (.bool B.bx.s)), .d (.v (.string B.bx.a)), .d (.v (.string B.bx.d)), .d (.v (.bool B.by'.s)), .d (.v (.string B.by'.a)), .d (.v (.string B.by'.d)), .d (.v (.bool (B.bh))), .d (.v (.bool B.bt.s)), .d (.v (.string B.bt.a)), .d (.v (.string B.bt.d)), .d (.list (List.map lk B.links))]), .val (.one (.d (.list (List.map rd Q)))), .val (.one (.d (.list (List.map rd R))))] (bool true) := by
  have hA2 := hA
  have hB2 := hB
  have hLq : (List.map rd Q).length = Q.length := List.length_map ..
  have hLr : (List.map rd R).length = R.length := List.length_map ..
  refine fn_spec Tryz.func13 rfl rfl Tryz.ntmps13 rfl (by kernel_rfl) rfl rfl ?_
  refine k_HasFault (A := A) (n := ((List.map rd Q).length : Int)) (by assumption) fun n19 hk_19_1 => ?_
  rw [List.length_map] at hk_19_1
  refine ⟨fun e1 => ?_, fun e1 => ?_⟩
  · have f21 : n19 = 0 := beq_t e1
    refine k_HasFault (A := B) (n := ((List.map rd R).length : Int)) (by assumption) fun n25 hk_25_1 => ?_
    rw [List.length_map] at hk_25_1
    refine k_Arms (A := A) (B := B) (Q := Q) (R := R) hA hQ hB hR fun b31 n31 hb31 hk_31_2 => ?_
    refine k_clears ?_
    refine ⟨fun e2 => ?_, fun e2 => ?_⟩
    · have f40 : n31 ≠ n25 := bne_t e2
      exfalso
      exact f40 (by rw [hk_31_2, amE_1 (by rw [← hk_19_1]; exact f21), hk_25_1])
    · have f40 : ¬ (n31 ≠ n25) := fun hh => hh (bne_f e2)
      refine ⟨fun e3 => ?_, fun e3 => ?_⟩
      · have f42 : n25 ≠ 0 := bne_t e3
        refine Eq.trans (b := bool (!b31)) ?_ rfl
        have hno : amB A B Q R = false := amB_no fun g => f42 (by rw [hk_25_1]; exact g.2)
        rw [hb31, hno]; rfl
      · have f42 : ¬ (n25 ≠ 0) := fun hh => hh (bne_f e3)
        have h0 : hasE A (Q.length : Int) = 0 := by rw [← hk_19_1]; exact f21
        have h1 : hasE B (R.length : Int) = 0 := by rw [← hk_25_1]; exact Classical.not_not.1 f42
        obtain ⟨hA0, hlen0⟩ := hasE_ok.1 h0
        obtain ⟨hB0, hlen1⟩ := hasE_ok.1 h1
        have hlenA : Q.length = A.links.length := by omega
        have hlenB : R.length = B.links.length := by omega
        have hn3 := (armE_ok hA0).1
        have hn4 := (armE_ok hB0).1
        have hpA : (List.map rqps (plcL A Q A.links.length)).length = (plcL A Q A.links.length).length := List.length_map ..
        have hpB : (List.map rqps (plcL B R B.links.length)).length = (plcL B R B.links.length).length := List.length_map ..
        have hpA2 := plcL_len A Q A.links.length
        have hpB2 := plcL_len B R B.links.length
        have hLA := plcL_okP hA0 hQ
        have hLB := plcL_okP hB0 hR
        refine k_RPlaced hA hA0 hlenA hQ ?_
        refine ⟨Nat, fun i => [(3, .val (.one (.d (.list (List.map rd R))))), (5, .val (.one (.ptr 5 0))), (10, bool b31), (47, .val (.one (.d (.list (List.map rqps (plcL A Q A.links.length)))))), (48, int ((List.map rqps (plcL A Q A.links.length)).length : Int)), (49, int (i : Int))],
          fun i => [(5, .var 32 [.d (.v (.string B.name)), .d (.v (.bool B.bx.s)), .d (.v (.string B.bx.a)), .d (.v (.string B.bx.d)), .d (.v (.bool B.by'.s)), .d (.v (.string B.by'.a)), .d (.v (.string B.by'.d)), .d (.v (.bool (B.bh))), .d (.v (.bool B.bt.s)), .d (.v (.string B.bt.a)), .d (.v (.string B.bt.d)), .d (.list (List.map lk B.links))])], fun i => i ≤ (plcL A Q A.links.length).length ∧ ((plcL A Q A.links.length).take i).all (fun a => (plcL B R B.links.length).all fun b => !meetR a b) = true, fun i => (plcL A Q A.links.length).length - i, 0, ?_, ⟨Nat.zero_le _, rfl⟩, fun i hs => ?_⟩
        · constructor <;> (repeat' (first | exact rfl | exact True.intro | exact ⟨_, _, rfl⟩ | exact (by decide) | apply And.intro))
          all_goals first | exact congrArg (fun n : Int => D.v (.int .i64 n)) (by omega) | exact congrArg (fun n : Int => D.v (.int .i64 n)) (by rw [wrap64 _ (by omega) (by omega)]; omega) | (simp; done)
        obtain ⟨g1, g2⟩ := hs
        refine ⟨fun e4 => ?_, fun e4 => ?_⟩
        · have f50 : (i : Int) < ((List.map rqps (plcL A Q A.links.length)).length : Int) := of_decide_eq_true e4
          refine get_ex (l := (plcL A Q A.links.length)) (i := i) (by first | omega | exact Nat.mod_lt _ (by omega)) fun x51 hx51 => ?_
          have hqzx51 := okP_q (hLA x51 (List.mem_of_getElem? hx51))
          refine k_ix i [D.list (List.map rqP x51)] (by first | rfl | omega | (rw [wrap64 _ (by omega) (by omega)]; omega)) (map_at hx51) rfl ?_
          refine k_RPlaced hB hB0 hlenB hR ?_
          refine ⟨Nat, fun k => [(3, .val (.one (.d (.list (List.map rd R))))), (5, .val (.one (.ptr 5 0))), (10, bool b31), (13, .val (.one (.d (.list (List.map rqP x51))))), (47, .val (.one (.d (.list (List.map rqps (plcL A Q A.links.length)))))), (48, int ((List.map rqps (plcL A Q A.links.length)).length : Int)), (49, int (i : Int)), (55, .val (.one (.d (.list (List.map rqps (plcL B R B.links.length)))))), (56, int ((List.map rqps (plcL B R B.links.length)).length : Int)), (57, int (k : Int))],
            fun k => [(5, .var 32 [.d (.v (.string B.name)), .d (.v (.bool B.bx.s)), .d (.v (.string B.bx.a)), .d (.v (.string B.bx.d)), .d (.v (.bool B.by'.s)), .d (.v (.string B.by'.a)), .d (.v (.string B.by'.d)), .d (.v (.bool (B.bh))), .d (.v (.bool B.bt.s)), .d (.v (.string B.bt.a)), .d (.v (.string B.bt.d)), .d (.list (List.map lk B.links))])], fun k => k ≤ (plcL B R B.links.length).length ∧ ((plcL B R B.links.length).take k).all (fun b => !meetR x51 b) = true, fun k => (plcL B R B.links.length).length - k, 0, ?_, ⟨Nat.zero_le _, rfl⟩, fun k hs => ?_⟩
          · constructor <;> (repeat' (first | exact rfl | exact True.intro | exact ⟨_, _, rfl⟩ | exact (by decide) | apply And.intro))
            all_goals first | exact congrArg (fun n : Int => D.v (.int .i64 n)) (by omega) | exact congrArg (fun n : Int => D.v (.int .i64 n)) (by rw [wrap64 _ (by omega) (by omega)]; omega) | (simp; done)
          obtain ⟨g3, g4⟩ := hs
          refine ⟨fun e5 => ?_, fun e5 => ?_⟩
          · have f58 : (k : Int) < ((List.map rqps (plcL B R B.links.length)).length : Int) := of_decide_eq_true e5
            refine get_ex (l := (plcL B R B.links.length)) (i := k) (by first | omega | exact Nat.mod_lt _ (by omega)) fun x59 hx59 => ?_
            have hqzx59 := okP_q (hLB x59 (List.mem_of_getElem? hx59))
            refine k_ix k [D.list (List.map rqP x59)] (by first | rfl | omega | (rw [wrap64 _ (by omega) (by omega)]; omega)) (map_at hx59) rfl ?_
            refine k_RMeet (m := x51) (n := x59) hqzx51 hqzx59 fun b63 hb63 => ?_
            refine ⟨fun e6 => ?_, fun e6 => ?_⟩
            · have f63 : meetR x51 x59 = true := hb63.symm.trans e6
              refine Eq.trans (b := bool (!b31)) ?_ rfl
              have hno : b31 = false := by
                rw [hb31, amB_ok h0 h1, plcV_ok h0, plcV_ok h1, free_arms]
                exact all_false hx51 (all_false hx59 (by rw [f63]; rfl))
              rw [hno]; rfl
            · have f63 : ¬ (meetR x51 x59 = true) := fun hh => absurd (hh.symm.trans (hb63.symm.trans e6)) (by decide)
              refine ⟨k + 1, ⟨by omega, by rw [all_take hx59, g4, Bool.eq_false_iff.2 f63]; rfl⟩, by simp only; omega, ?_⟩
              constructor <;> (repeat' (first | exact rfl | exact True.intro | apply And.intro))
              all_goals first
                | exact congrArg (fun n : Int => D.v (.int .i64 n)) (by rw [wrap64 _ (by omega) (by omega)]; omega)
                | exact congrArg (fun n : Int => D.v (.int .i64 n)) (by omega)
          · have f58 : ¬ ((k : Int) < ((List.map rqps (plcL B R B.links.length)).length : Int)) := of_decide_eq_false e5
            have hk1 : k = (plcL B R B.links.length).length := by omega
            have hall : ((plcL B R B.links.length).all fun b => !meetR x51 b) = true := by rw [← List.take_length (l := plcL B R B.links.length), ← hk1]; exact g4
            refine ⟨i + 1, ⟨by omega, by rw [all_take hx51, g2, hall]; rfl⟩, by simp only; omega, ?_⟩
            constructor <;> (repeat' (first | exact rfl | exact True.intro | apply And.intro))
            all_goals first
              | exact congrArg (fun n : Int => D.v (.int .i64 n)) (by rw [wrap64 _ (by omega) (by omega)]; omega)
              | exact congrArg (fun n : Int => D.v (.int .i64 n)) (by omega)
        · have f50 : ¬ ((i : Int) < ((List.map rqps (plcL A Q A.links.length)).length : Int)) := of_decide_eq_false e4
          refine Eq.trans (b := bool b31) ?_ rfl
          have hyes : b31 = true := by
            rw [hb31, amB_ok h0 h1, plcV_ok h0, plcV_ok h1, free_arms]
            have hi : i = (plcL A Q A.links.length).length := by omega
            rw [← List.take_length (l := plcL A Q A.links.length), ← hi]; exact g2
          rw [hyes]
  · have f21 : ¬ (n19 = 0) := beq_f e1
    refine k_Arms (A := A) (B := B) (Q := Q) (R := R) hA hQ hB hR fun b31 n31 hb31 hk_31_2 => ?_
    refine k_clears ?_
    refine ⟨fun e7 => ?_, fun e7 => ?_⟩
    · have f40 : n31 ≠ n19 := bne_t e7
      exfalso
      exact f40 (by rw [hk_31_2, amE_0 (by rw [← hk_19_1]; exact f21), hk_19_1])
    · have f40 : ¬ (n31 ≠ n19) := fun hh => hh (bne_f e7)
      refine ⟨fun e8 => ?_, fun e8 => ?_⟩
      · have f42 : n19 ≠ 0 := bne_t e8
        refine Eq.trans (b := bool (!b31)) ?_ rfl
        have hno : amB A B Q R = false := amB_no fun g => f42 (by rw [hk_19_1]; exact g.1)
        rw [hb31, hno]; rfl
      · have f42 : ¬ (n19 ≠ 0) := fun hh => hh (bne_f e8)
        exfalso
        exact f42 f21
theorem clearWalls_walk (v0 : Value) (A0 : ArmV) (v1 : Value) (l1 : List RV) (v2 : Value) (l2 : List (List (RV × RV))) (N : Nat) (w : World) (_ : 1 ≤ N) (hN : N ≤ 1048576) (h0 : DenAV w (fun b => b < w.heap.size) noBs noMem v0 (arm A0)) (u0 : A0.zs N) (h1 : Den w (fun b => b < w.heap.size) v1 (.list (l1.map eng.rd))) (u1 : ratsZ l1 N) (h2 : Den w (fun b => b < w.heap.size) v2 (.list (l2.map fun m => [D.list (m.map eng.rdv)]))) (u2 : polysZ l2 N) (hT : Tab w) :
    Calls Tryz.prog 12 #[v0, v1, v2] w fun e w' => e = .returned (.bool true) ∧ Below w.heap.size w w' :=
  calls_of_specI (I := fun b => b < w.heap.size) (clearWalls_spec A0 l1 l2 (ok_of_zs u0 (by omega)) (fun x hx => Nat.le_trans (u1.2 x hx) (by omega)) (zs_polys u2 hN)) rfl hT (fun _ h => h)
    ((((pvl_rel (vs := []) rfl).cons (show DenAV _ _ _ _ v2 (.val (.one (.d (.list _)))) from h2)).cons (show DenAV _ _ _ _ v1 (.val (.one (.d (.list _)))) from h1)).cons h0)
theorem clearArms_walk (v0 : Value) (A0 : ArmV) (v1 : Value) (A1 : ArmV) (v2 : Value) (l2 : List RV) (v3 : Value) (l3 : List RV) (N : Nat) (w : World) (_ : 1 ≤ N) (hN : N ≤ 1048576) (h0 : DenAV w (fun b => b < w.heap.size) noBs noMem v0 (arm A0)) (u0 : A0.zs N) (h1 : DenAV w (fun b => b < w.heap.size) noBs noMem v1 (arm A1)) (u1 : A1.zs N) (h2 : Den w (fun b => b < w.heap.size) v2 (.list (l2.map eng.rd))) (u2 : ratsZ l2 N) (h3 : Den w (fun b => b < w.heap.size) v3 (.list (l3.map eng.rd))) (u3 : ratsZ l3 N) (hT : Tab w) :
    Calls Tryz.prog 13 #[v0, v1, v2, v3] w fun e w' => e = .returned (.bool true) ∧ Below w.heap.size w w' :=
  calls_of_specI (I := fun b => b < w.heap.size) (clearArms_spec A0 A1 l2 l3 (ok_of_zs u0 (by omega)) (ok_of_zs u1 (by omega)) (fun x hx => Nat.le_trans (u2.2 x hx) (by omega)) (fun x hx => Nat.le_trans (u3.2 x hx) (by omega))) rfl hT (fun _ h => h)
    (((((pvl_rel (vs := []) rfl).cons (show DenAV _ _ _ _ v3 (.val (.one (.d (.list _)))) from h3)).cons (show DenAV _ _ _ _ v2 (.val (.one (.d (.list _)))) from h2)).cons h1).cons h0)
end
end Go.Proofs.YtjhoddlhdoiifaaGreatDoor.eng

