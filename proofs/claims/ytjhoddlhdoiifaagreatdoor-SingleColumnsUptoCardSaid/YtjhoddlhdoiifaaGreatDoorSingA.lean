/- Contracts: columns of the Jacobian, ranks: package single, gantref3. Printed by wip/gp_single.py. -/
import Derived.Test.YtjhoddlhdoiifaaGreatDoorForeA
namespace Go.Proofs.YtjhoddlhdoiifaaGreatDoor.eng
open Go.RowKit num mem seg q held ratA ratB ratC ratD ratE vars ratF trq
section
variable {K : AV → Prop}
theorem turn_z2 {f : RF} {t : Rat} {a : Nat} (hc : qs f.c ≤ a) (hs : qs f.s ≤ a) (ht : qs t ≤ 1048576) : qs (turnF f t).c ≤ 2 * a + 8388677 ∧ qs (turnF f t).s ≤ 2 * a + 8388677 := by
  obtain ⟨c1, c2⟩ := qs_cs t
  have := qs_mul f.c (cosq false t)
  have := qs_mul f.s (sinq t)
  have := qs_mul f.s (cosq false t)
  have := qs_mul f.c (sinq t)
  have := qs_sub (f.c * cosq false t) (f.s * sinq t)
  have := qs_add (f.s * cosq false t) (f.c * sinq t)
  exact ⟨by show qs (f.c * cosq false t - f.s * sinq t) ≤ _; omega, by show qs (f.s * cosq false t + f.c * sinq t) ≤ _; omega⟩
theorem qAt_z2 {Q : List RV} (hQ : ∀ x, x ∈ Q → x.z ≤ 1048576) (i : Nat) : qs (qAt Q i) ≤ 1048576 := by
  unfold qAt
  cases h : Q[i]? with
  | none => show qs z0.q ≤ _; decide +kernel
  | some x =>
    have := hQ x (List.mem_of_getElem? h)
    have := x.qs_le
    show qs x.q ≤ _; omega
theorem chain_z2 {A : ArmV} {Q : List RV} (hA : armE A = 0) (hQ : ∀ x, x ∈ Q → x.z ≤ 1048576) :
    ∀ i, i ≤ 3 → (qs (endF A Q i).x ≤ 92276478 ∧ qs (endF A Q i).y ≤ 92276478) ∧ (i < 3 → qs (linkF A Q i).x ≤ 92276478 ∧ qs (linkF A Q i).y ≤ 92276478) := by
  obtain ⟨b1, b2, b3, b4⟩ := base_z hA
  have t0 := turn_z2 (t := qAt Q 0) b3 b4 (qAt_z2 hQ 0)
  have l0 := long_z (f := linkF A Q 0) (l := lenAt A 0) (b := 4) b1 b2 t0.1 t0.2 (lenAt_z hA 0)
  have t1 := turn_z2 (f := endF A Q 1) (t := qAt Q 1) t0.1 t0.2 (qAt_z2 hQ 1)
  have l1 := long_z (f := linkF A Q 1) (l := lenAt A 1) l0.1 l0.2 t1.1 t1.2 (lenAt_z hA 1)
  have t2 := turn_z2 (f := endF A Q 2) (t := qAt Q 2) t1.1 t1.2 (qAt_z2 hQ 2)
  have l2 := long_z (f := linkF A Q 2) (l := lenAt A 2) l1.1 l1.2 t2.1 t2.2 (lenAt_z hA 2)
  have up : ∀ {n a b : Nat}, n ≤ a → a ≤ b → n ≤ b := fun h g => Nat.le_trans h g
  intro i hi
  rcases (show i = 0 ∨ i = 1 ∨ i = 2 ∨ i = 3 by omega) with rfl | rfl | rfl | rfl
  · exact ⟨⟨up b1 (by omega), up b2 (by omega)⟩, fun _ => ⟨up b1 (by omega), up b2 (by omega)⟩⟩
  · exact ⟨⟨up l0.1 (by omega), up l0.2 (by omega)⟩, fun _ => ⟨up l0.1 (by omega), up l0.2 (by omega)⟩⟩
  · exact ⟨⟨up l1.1 (by omega), up l1.2 (by omega)⟩, fun _ => ⟨up l1.1 (by omega), up l1.2 (by omega)⟩⟩
  · exact ⟨⟨up l2.1 (by omega), up l2.2 (by omega)⟩, fun h => absurd h (by omega)⟩
/-- a column of the Jacobian -/
def colF (A : ArmV) (Q : List RV) (i : Nat) : Rat × Rat := (-((endF A Q A.links.length).y - (linkF A Q i).y), (endF A Q A.links.length).x - (linkF A Q i).x)
def colsF (A : ArmV) (Q : List RV) (n : Nat) : List (Rat × Rat) := (List.range n).map (colF A Q)
theorem colsF_len (A : ArmV) (Q : List RV) (n : Nat) : (colsF A Q n).length = n := by simp [colsF]
theorem colsF_snoc {α : Type} (g : Rat × Rat → α) (A : ArmV) (Q : List RV) (i : Nat) : List.map g (colsF A Q (i + 1)) = List.map g (colsF A Q i) ++ [g (colF A Q i)] := by
  simp [colsF, List.range_succ]
theorem colsF_at {A : ArmV} {Q : List RV} {n i : Nat} {p : Rat × Rat} (h : (colsF A Q n)[i]? = some p) : p = colF A Q i ∧ i < n := by
  have hi := (List.getElem?_eq_some_iff.1 h).1
  rw [colsF_len] at hi
  simp [colsF, hi] at h
  exact ⟨h.symm, hi⟩
theorem colF_z {A : ArmV} {Q : List RV} (hA : armE A = 0) (hQ : ∀ x, x ∈ Q → x.z ≤ 1048576) {i : Nat} (hi : i < A.links.length) : qs (colF A Q i).1 ≤ 184552957 ∧ qs (colF A Q i).2 ≤ 184552957 := by
  have hn := (armE_ok hA).1
  obtain ⟨⟨a1, a2⟩, _⟩ := chain_z2 hA hQ A.links.length hn
  obtain ⟨_, b⟩ := chain_z2 hA hQ i (by omega)
  obtain ⟨b1, b2⟩ := b (by omega)
  have := qs_sub (endF A Q A.links.length).y (linkF A Q i).y
  have := qs_sub (endF A Q A.links.length).x (linkF A Q i).x
  have := qs_neg ((endF A Q A.links.length).y - (linkF A Q i).y)
  exact ⟨by show qs (-((endF A Q A.links.length).y - (linkF A Q i).y)) ≤ _; omega, by show qs ((endF A Q A.links.length).x - (linkF A Q i).x) ≤ _; omega⟩
def pz (l : List (Rat × Rat)) : Prop := ∀ p, p ∈ l → qs p.1 ≤ 184552957 ∧ qs p.2 ≤ 184552957
theorem colsF_z {A : ArmV} {Q : List RV} (hA : armE A = 0) (hQ : ∀ x, x ∈ Q → x.z ≤ 1048576) : pz (colsF A Q A.links.length) := by
  intro p hp
  obtain ⟨i, hi⟩ := List.mem_iff_getElem?.1 hp
  obtain ⟨rfl, h⟩ := colsF_at hi
  exact colF_z hA hQ h
open Classical in
noncomputable def colsV (A : ArmV) (Q : List RV) : List (Rat × Rat) := if hasE A (Q.length : Int) = 0 then colsF A Q A.links.length else []
theorem colsV_ok {A : ArmV} {Q : List RV} (h : hasE A (Q.length : Int) = 0) : colsV A Q = colsF A Q A.links.length := if_pos h
theorem colsV_no {A : ArmV} {Q : List RV} (h : ¬ hasE A (Q.length : Int) = 0) : colsV A Q = [] := if_neg h
theorem colsV_z {A : ArmV} {Q : List RV} (hQ : ∀ x, x ∈ Q → x.z ≤ 1048576) : pz (colsV A Q) := by
  by_cases h : hasE A (Q.length : Int) = 0
  · rw [colsV_ok h]; exact colsF_z (hasE_ok.1 h).1 hQ
  · rw [colsV_no h]; intro p hp; simp at hp
theorem colsV_len (A : ArmV) (Q : List RV) : (colsV A Q).length ≤ 3 := by
  by_cases h : hasE A (Q.length : Int) = 0
  · rw [colsV_ok h, colsF_len]; exact (armE_ok (hasE_ok.1 h).1).1
  · rw [colsV_no h]; exact Nat.zero_le _
/-! ### ranks -/
open Classical in
noncomputable def rk (p z : Prop) : Int := if p then 2 else if z then 1 else 0
theorem rk_iff {p z p' z' : Prop} (h1 : p ↔ p') (h2 : z ↔ z') : rk p z = rk p' z' := by rw [propext h1, propext h2]
theorem rk_p {p z : Prop} (h : p) : rk p z = 2 := if_pos h
theorem rk_max (p z : Prop) : (if 1 > rk p z then (1 : Int) else rk p z) = rk p True := by
  unfold rk
  by_cases h : p
  · rw [if_pos h, if_pos h]; rfl
  · rw [if_neg h, if_neg h]
    by_cases g : z
    · rw [if_pos g, if_pos trivial]; rfl
    · rw [if_neg g, if_pos trivial]; rfl
def crs (l : List (Rat × Rat)) (a b : Nat) : Rat := ((l[a]?).getD (0, 0)).1 * ((l[b]?).getD (0, 0)).2 - ((l[a]?).getD (0, 0)).2 * ((l[b]?).getD (0, 0)).1
theorem crs_at {l : List (Rat × Rat)} {a b : Nat} {p q : Rat × Rat} (h : l[a]? = some p) (g : l[b]? = some q) : crs l a b = p.1 * q.2 - p.2 * q.1 := by simp [crs, h, g]
def nzA (l : List (Rat × Rat)) (i : Nat) : Prop := ∃ (a : Nat) (p : Rat × Rat), a < i ∧ l[a]? = some p ∧ (p.1 ≠ 0 ∨ p.2 ≠ 0)
def prA (l : List (Rat × Rat)) (i : Nat) : Prop := ∃ a b, b < a ∧ a < i ∧ crs l a b ≠ 0
def prB (l : List (Rat × Rat)) (i : Nat) : Prop := ∃ a b, a < i ∧ b < l.length ∧ crs l a b ≠ 0
noncomputable def rkL (l : List (Rat × Rat)) : Int := rk (prA l l.length) (nzA l l.length)
theorem nzA_yes {l : List (Rat × Rat)} {i : Nat} {p : Rat × Rat} (h : l[i]? = some p) (g : p.1 ≠ 0 ∨ p.2 ≠ 0) : nzA l (i + 1) ↔ True := iff_true_intro ⟨i, p, Nat.lt_succ_self _, h, g⟩
theorem nzA_no {l : List (Rat × Rat)} {i : Nat} {p : Rat × Rat} (h : l[i]? = some p) (g1 : p.1 = 0) (g2 : p.2 = 0) : nzA l (i + 1) ↔ nzA l i := by
  constructor
  · rintro ⟨a, q, h1, h2, h3⟩
    by_cases e : a = i
    · subst e
      obtain rfl := Option.some.inj (h.symm.trans h2)
      rcases h3 with h3 | h3
      · exact absurd g1 h3
      · exact absurd g2 h3
    · exact ⟨a, q, by omega, h2, h3⟩
  · rintro ⟨a, q, h1, h2, h3⟩; exact ⟨a, q, by omega, h2, h3⟩
theorem prA_succ {l : List (Rat × Rat)} {i : Nat} : prA l (i + 1) ↔ prA l i ∨ ∃ b, b < i ∧ crs l i b ≠ 0 := by
  constructor
  · rintro ⟨a, b, h1, h2, h3⟩
    by_cases e : a = i
    · subst e; exact .inr ⟨b, h1, h3⟩
    · exact .inl ⟨a, b, h1, by omega, h3⟩
  · rintro (⟨a, b, h1, h2, h3⟩ | ⟨b, h1, h3⟩)
    · exact ⟨a, b, h1, by omega, h3⟩
    · exact ⟨i, b, h1, Nat.lt_succ_self _, h3⟩
theorem prB_succ {l : List (Rat × Rat)} {i : Nat} : prB l (i + 1) ↔ prB l i ∨ ∃ b, b < l.length ∧ crs l i b ≠ 0 := by
  constructor
  · rintro ⟨a, b, h1, h2, h3⟩
    by_cases e : a = i
    · subst e; exact .inr ⟨b, h2, h3⟩
    · exact .inl ⟨a, b, by omega, h2, h3⟩
  · rintro (⟨a, b, h1, h2, h3⟩ | ⟨b, h1, h3⟩)
    · exact ⟨a, b, by omega, h2, h3⟩
    · exact ⟨i, b, Nat.lt_succ_self _, h1, h3⟩
theorem crs_anti (l : List (Rat × Rat)) (a b : Nat) : crs l a b = -crs l b a := by unfold crs; grind
theorem prB_all (l : List (Rat × Rat)) : prB l l.length ↔ prA l l.length := by
  constructor
  · rintro ⟨a, b, h1, h2, h3⟩
    rcases Nat.lt_trichotomy a b with h | h | h
    · exact ⟨b, a, h, h2, fun e => h3 (by rw [crs_anti, e]; decide +kernel)⟩
    · subst h; exact absurd (by unfold crs; grind) h3
    · exact ⟨a, b, h, h1, h3⟩
  · rintro ⟨a, b, h1, h2, h3⟩; exact ⟨a, b, h2, by omega, h3⟩
theorem or_step {p : Prop} {f : Nat → Prop} {k : Nat} (h : f k) : (p ∨ ∃ b, b < k + 1 ∧ f b) ↔ True := iff_true_intro (.inr ⟨k, Nat.lt_succ_self _, h⟩)
theorem or_skip {p : Prop} {f : Nat → Prop} {k : Nat} (h : ¬ f k) : (p ∨ ∃ b, b < k + 1 ∧ f b) ↔ (p ∨ ∃ b, b < k ∧ f b) := by
  constructor
  · rintro (g | ⟨b, h1, h2⟩)
    · exact .inl g
    · by_cases e : b = k
      · subst e; exact absurd h2 h
      · exact .inr ⟨b, by omega, h2⟩
  · rintro (g | ⟨b, h1, h2⟩)
    · exact .inl g
    · exact .inr ⟨b, by omega, h2⟩
theorem or_none {p : Prop} {f : Nat → Prop} : p ↔ (p ∨ ∃ b, b < 0 ∧ f b) := by
  constructor
  · exact .inl
  · rintro (g | ⟨b, h1, _⟩)
    · exact g
    · exact absurd h1 (Nat.not_lt_zero _)
set_option maxHeartbeats 2000000 in
set_option maxRecDepth 100000 in
theorem Cols_spec (A : ArmV) (Q : List RV) (hA : A.ok) (hQ : ∀ x, x ∈ Q → x.z ≤ 1048576) : Spec Tryz.prog Tab 39 [.val (.agg [.d (.v (.string A.name)), .d (.v (.bool A.bx.s)), .d (.v (.string A.bx.a)), .d (.v (.string A.bx.d)), .d (.v (.bool A.by'.s)), .d (.v (.string A.by'.a)), .d (.v (.string A.by'.d)), .d (.v (.bool (A.bh))), .d (.v (.bool A.bt.s)), .d (.v (.string A.bt.a)), .d (.v (.string A.bt.d)), .d (.list (List.map lk A.links))]), .val (.one (.d (.list (List.map rd Q))))] (.tup [.one (.d (.list (List.map rvP (colsV A Q)))), .one (.d (.v (.int .i64 (hasE A (Q.length : Int)))))]) := by
  have hA2 := hA
  have hL : (List.map lk A.links).length = A.links.length := List.length_map ..
  have hLq : (List.map rd Q).length = Q.length := List.length_map ..
  have hQ1 : ∀ x, x ∈ Q → x.z ≤ 2097151 := fun x hx => Nat.le_trans (hQ x hx) (by decide)
  refine fn_spec Tryz.func39 rfl rfl Tryz.ntmps39 rfl (by kernel_rfl) rfl rfl ?_
  refine k_Frames (A := A) (Q := Q) (by assumption) (by assumption) fun n16 hk_16_1 => ?_
  refine ⟨fun e1 => ?_, fun e1 => ?_⟩
  · have f20 : n16 ≠ 0 := bne_t e1
    refine Eq.trans (b := .tup [.one (.d (.list ([]))), .one (.d (.v (.int .i64 (n16))))]) ?_ rfl
    rw [colsV_no (by rw [← hk_16_1]; exact f20), ← hk_16_1]
    all_goals rfl
  · have f20 : ¬ (n16 ≠ 0) := fun hh => hh (bne_f e1)
    have h0 : hasE A (Q.length : Int) = 0 := by rw [← hk_16_1]; exact Classical.not_not.1 f20
    have hA0 := (hasE_ok.1 h0).1
    have hlen0 := (hasE_ok.1 h0).2
    have hlen : Q.length = A.links.length := by omega
    have hn3 := (armE_ok hA0).1
    have hLv : (List.map rdF (framesV A Q)).length = (framesV A Q).length := List.length_map ..
    have hLf : (framesV A Q).length = A.links.length + 1 := by rw [framesV_ok h0, framesF_len]
    have htk : (framesV A Q).take ((framesV A Q).length - 1) = linksF A Q A.links.length := by rw [hLf, framesV_ok h0]; exact framesF_take A Q
    have hLl : (List.map rdF (linksF A Q A.links.length)).length = A.links.length := by rw [List.length_map, linksF_len]
    have hLl2 := linksF_len A Q A.links.length
    refine get_ex (l := (framesV A Q)) (i := ((framesV A Q).length - 1)) (by first | omega | exact Nat.mod_lt _ (by omega)) fun x26 hx26 => ?_
    have hxt : x26 = endF A Q A.links.length := framesF_last (by rw [← framesV_ok h0, show A.links.length = (framesV A Q).length - 1 from by omega]; exact hx26)
    have hzt := (chain_z2 hA0 hQ A.links.length hn3).1
    rw [← hxt] at hzt
    refine k_ix ((framesV A Q).length - 1) [D.v (.bool (cn x26.x).s), D.v (.string (cn x26.x).a), D.v (.string (cn x26.x).d), D.v (.bool (cn x26.y).s), D.v (.string (cn x26.y).a), D.v (.string (cn x26.y).d), D.v (.bool (tofH x26.c)), D.v (.bool (cn (tofQ x26.c x26.s)).s), D.v (.string (cn (tofQ x26.c x26.s)).a), D.v (.string (cn (tofQ x26.c x26.s)).d)] (by first | rfl | omega | (rw [wrap64 _ (by omega) (by omega)]; omega)) (map_at hx26) rfl ?_
    refine k_take ((framesV A Q).length - 1) (List.map rdF (linksF A Q A.links.length)) (by first | omega | (simp; omega) | simp) (by first | rfl | omega | (rw [wrap64 _ (by omega) (by omega)]; omega)) (map_rows fun _ => rfl) ((by rw [← htk]; exact List.map_take.symm)) ?_
    refine ⟨Nat, fun i => [(8, .val (.one (.ptr 8 0))), (9, .val (.one (.row 51 0))), (33, .val (.one (.d (.list (List.map rdF (linksF A Q A.links.length)))))), (34, int ((List.map rdF (linksF A Q A.links.length)).length : Int)), (35, int (i : Int))],
      fun i => [(8, .var 25 [.d (.v (.bool (cn x26.x).s)), .d (.v (.string (cn x26.x).a)), .d (.v (.string (cn x26.x).d)), .d (.v (.bool (cn x26.y).s)), .d (.v (.string (cn x26.y).a)), .d (.v (.string (cn x26.y).d))]), (51, .row 25 6 0 (List.map rvP (colsF A Q i)) true)], fun i => i ≤ A.links.length, fun i => A.links.length - i, 0, ?_, Nat.zero_le _, fun i hs => ?_⟩
    · constructor <;> (repeat' (first | exact rfl | exact True.intro | exact ⟨_, _, rfl⟩ | exact (by decide) | apply And.intro))
      all_goals first | exact congrArg (fun n : Int => D.v (.int .i64 n)) (by omega) | exact congrArg (fun n : Int => D.v (.int .i64 n)) (by rw [wrap64 _ (by omega) (by omega)]; omega) | (simp; done)
    have hT : (List.map rvP (colsF A Q i)).length ≤ 3 := by rw [List.length_map, colsF_len]; omega
    refine ⟨fun e2 => ?_, fun e2 => ?_⟩
    · have f36 : (i : Int) < ((List.map rdF (linksF A Q A.links.length)).length : Int) := of_decide_eq_true e2
      refine get_ex (l := (linksF A Q A.links.length)) (i := i) (by first | omega | exact Nat.mod_lt _ (by omega)) fun x37 hx37 => ?_
      have hxl : x37 = linkF A Q i := (linksF_at hx37).1
      have hzl := (chain_z2 hA0 hQ i (by omega)).2 (by omega)
      rw [← hxl] at hzl
      refine k_ix i [D.v (.bool (cn x37.x).s), D.v (.string (cn x37.x).a), D.v (.string (cn x37.x).d), D.v (.bool (cn x37.y).s), D.v (.string (cn x37.y).a), D.v (.string (cn x37.y).d), D.v (.bool (tofH x37.c)), D.v (.bool (cn (tofQ x37.c x37.s)).s), D.v (.string (cn (tofQ x37.c x37.s)).a), D.v (.string (cn (tofQ x37.c x37.s)).d)] (by first | rfl | omega | (rw [wrap64 _ (by omega) (by omega)]; omega)) (map_at hx37) rfl ?_
      refine k_vSub (x := cn x26.x) (y := cn x26.y) (z := cn x37.x) (t := cn x37.y) (by simp only [cn_z]; omega) (by simp only [cn_z]; omega) (by simp only [cn_z]; omega) (by simp only [cn_z]; omega) (fun p42 q42 hk_42_2 hk_42_3 hk_42_4 hk_42_5 => ?_)
      try simp only [cn_q] at hk_42_2
      try simp only [cn_q] at hk_42_3
      simp only [cn_z] at hk_42_4
      simp only [cn_z] at hk_42_5
      refine k_neg (x := cn q42) (by simp only [cn_z]; omega) fun q46 h46 z46 => ?_
      simp only [cn_z] at z46
      simp only [cn_q] at h46
      refine ⟨⟨row1 rfl, (by show ((List.map rvP (colsF A Q i)).length + 1) * 80 ≤ _; omega), (by show ((List.map rvP (colsF A Q i)).length + 1) ≤ _; omega)⟩, ?_⟩
      refine ⟨by kernel_rfl, ?_⟩
      have ec : (q46, p42) = colF A Q i := by rw [h46, hk_42_2, hk_42_3, hxt, hxl]; rfl
      have ec1 : q46 = (colF A Q i).1 := by rw [← ec]
      have ec2 : p42 = (colF A Q i).2 := by rw [← ec]
      clear ec h46 hk_42_2
      subst ec1 ec2
      refine ⟨i + 1, by omega, by simp only; omega, ?_⟩
      constructor <;> (repeat' (first | exact rfl | exact True.intro | apply And.intro))
      all_goals first
        | (rw [colsF_snoc]; rfl)
        | exact congrArg (fun n : Int => D.v (.int .i64 n)) (by rw [wrap64 _ (by omega) (by omega)]; omega)
        | exact congrArg (fun n : Int => D.v (.int .i64 n)) (by omega)
    · have f36 : ¬ ((i : Int) < ((List.map rdF (linksF A Q A.links.length)).length : Int)) := of_decide_eq_false e2
      refine Eq.trans (b := .tup [.one (.d (.list (List.map rvP (colsF A Q i)))), .one (.d (.v (.int .i64 (0))))]) ?_ rfl
      obtain rfl : i = A.links.length := by omega
      rw [colsV_ok h0, h0]
      all_goals rfl
theorem k_Cols {A : ArmV} {Q : List RV} (hA : A.ok) (hQ : ∀ x, x ∈ Q → x.z ≤ 1048576) (k : ∀ n, n = hasE A (Q.length : Int) → K (.tup [.one (.d (.list (List.map rvP (colsV A Q)))), .one (.d (.v (.int .i64 n)))])) : Ask 39 [.val (.agg [.d (.v (.string A.name)), .d (.v (.bool A.bx.s)), .d (.v (.string A.bx.a)), .d (.v (.string A.bx.d)), .d (.v (.bool A.by'.s)), .d (.v (.string A.by'.a)), .d (.v (.string A.by'.d)), .d (.v (.bool (A.bh))), .d (.v (.bool A.bt.s)), .d (.v (.string A.bt.a)), .d (.v (.string A.bt.d)), .d (.list (List.map lk A.links))]), .val (.one (.d (.list (List.map rd Q))))] K := use (Cols_spec A Q hA hQ) rfl (k _ rfl)
set_option maxHeartbeats 2000000 in
set_option maxRecDepth 100000 in
theorem Rank_spec (A : ArmV) (Q : List RV) (hA : A.ok) (hQ : ∀ x, x ∈ Q → x.z ≤ 1048576) : Spec Tryz.prog Tab 40 [.val (.agg [.d (.v (.string A.name)), .d (.v (.bool A.bx.s)), .d (.v (.string A.bx.a)), .d (.v (.string A.bx.d)), .d (.v (.bool A.by'.s)), .d (.v (.string A.by'.a)), .d (.v (.string A.by'.d)), .d (.v (.bool (A.bh))), .d (.v (.bool A.bt.s)), .d (.v (.string A.bt.a)), .d (.v (.string A.bt.d)), .d (.list (List.map lk A.links))]), .val (.one (.d (.list (List.map rd Q))))] (.tup [.one (.d (.v (.int .i64 (rkL (colsV A Q))))), .one (.d (.v (.int .i64 (hasE A (Q.length : Int)))))]) := by
  have hA2 := hA
  have hL : (List.map lk A.links).length = A.links.length := List.length_map ..
  have hLq : (List.map rd Q).length = Q.length := List.length_map ..
  have hQ1 : ∀ x, x ∈ Q → x.z ≤ 2097151 := fun x hx => Nat.le_trans (hQ x hx) (by decide)
  have hcz := colsV_z (A := A) hQ
  have hcl := colsV_len A Q
  have hLc : (List.map rvP (colsV A Q)).length = (colsV A Q).length := List.length_map ..
  refine fn_spec Tryz.func40 rfl rfl Tryz.ntmps40 rfl (by kernel_rfl) rfl rfl ?_
  refine k_Cols (A := A) (Q := Q) (by assumption) (by assumption) fun n16 hk_16_1 => ?_
  have e0 : (0 : Int) = rk (prA (colsV A Q) 0) (nzA (colsV A Q) 0) := by
    unfold rk
    rw [if_neg (by rintro ⟨a, b, h1, h2, _⟩; omega), if_neg (by rintro ⟨a, p, h1, _⟩; omega)]
  refine ⟨Nat, fun i => [(6, .val (.one (.d (.list (List.map rvP (colsV A Q)))))), (7, int n16), (8, int (rk (prA (colsV A Q) i) (nzA (colsV A Q) i))), (19, .val (.one (.d (.list (List.map rvP (colsV A Q)))))), (20, int ((List.map rvP (colsV A Q)).length : Int)), (21, int (i : Int))],
    fun i => [], fun i => i ≤ (colsV A Q).length, fun i => (colsV A Q).length - i, 0, ?_, Nat.zero_le _, fun i hs => ?_⟩
  · constructor <;> (repeat' (first | exact rfl | exact True.intro | exact ⟨_, _, rfl⟩ | exact (by decide) | apply And.intro))
    all_goals first
      | exact congrArg (fun n : Int => D.v (.int .i64 n)) e0
      | exact congrArg (fun n : Int => D.v (.int .i64 n)) (by omega)
      | (simp; done)
  refine ⟨fun e1 => ?_, fun e1 => ?_⟩
  · have f22 : (i : Int) < ((List.map rvP (colsV A Q)).length : Int) := of_decide_eq_true e1
    refine get_ex (l := (colsV A Q)) (i := i) (by first | omega | exact Nat.mod_lt _ (by omega)) fun x24 hx24 => ?_
    have hwx24 := hcz x24 (List.mem_of_getElem? hx24)
    refine k_ix i [D.v (.bool (cn x24.1).s), D.v (.string (cn x24.1).a), D.v (.string (cn x24.1).d), D.v (.bool (cn x24.2).s), D.v (.string (cn x24.2).a), D.v (.string (cn x24.2).d)] (by first | rfl | omega | (rw [wrap64 _ (by omega) (by omega)]; omega)) (map_at hx24) rfl ?_
    refine k_sign (x := cn x24.1) (by simp only [cn_z]; omega) fun n28 h28 => ?_
    simp only [cn_q] at h28
    refine fork (fun e2 => ?_) (fun e2 => ?_)
    · have f30 : ¬ x24.1 = 0 := fun hh => bne_t e2 ((sg0_eq h28).2 hh)
      refine ⟨fun _ => ?_, fun e => absurd e (by decide)⟩
      refine k_take i (List.map rvP ((colsV A Q).take i)) (by first | omega | (simp; omega) | simp) (by first | rfl | omega | (rw [wrap64 _ (by omega) (by omega)]; omega)) (map_rows fun _ => rfl) (List.map_take.symm) ?_
      have e1 : (if 1 > (rk (prA (colsV A Q) i) (nzA (colsV A Q) i)) then 1 else (rk (prA (colsV A Q) i) (nzA (colsV A Q) i))) = rk (prA (colsV A Q) i ∨ ∃ b, b < 0 ∧ crs (colsV A Q) i b ≠ 0) (nzA (colsV A Q) (i + 1)) := (rk_max _ _).trans (rk_iff or_none (nzA_yes hx24 (.inl f30)).symm)
      have hLt : (List.map rvP ((colsV A Q).take i)).length = i := by rw [List.length_map, List.length_take]; omega
      have hLt2 : ((colsV A Q).take i).length = i := by rw [List.length_take]; omega
      refine ⟨Nat, fun k => [(6, .val (.one (.d (.list (List.map rvP (colsV A Q)))))), (7, int n16), (8, int (rk (prA (colsV A Q) i ∨ ∃ b, b < k ∧ crs (colsV A Q) i b ≠ 0) (nzA (colsV A Q) (i + 1)))), (10, .val (.one (.ptr 10 0))), (19, .val (.one (.d (.list (List.map rvP (colsV A Q)))))), (20, int ((List.map rvP (colsV A Q)).length : Int)), (21, int (i : Int)), (31, .tup []), (32, .tup []), (33, .tup []), (34, .tup []), (40, .val (.one (.d (.list (List.map rvP ((colsV A Q).take i)))))), (41, int ((List.map rvP ((colsV A Q).take i)).length : Int)), (42, int (k : Int))],
        fun k => [(10, .var 25 [.d (.v (.bool (cn x24.1).s)), .d (.v (.string (cn x24.1).a)), .d (.v (.string (cn x24.1).d)), .d (.v (.bool (cn x24.2).s)), .d (.v (.string (cn x24.2).a)), .d (.v (.string (cn x24.2).d))])], fun k => k ≤ i, fun k => i - k, 0, ?_, Nat.zero_le _, fun k hs => ?_⟩
      · constructor <;> (repeat' (first | exact rfl | exact True.intro | exact ⟨_, _, rfl⟩ | exact (by decide) | apply And.intro))
        all_goals first
          | exact congrArg (fun n : Int => D.v (.int .i64 n)) e1
          | exact congrArg (fun n : Int => D.v (.int .i64 n)) e1.symm
          | exact congrArg (fun n : Int => D.v (.int .i64 n)) (by omega)
          | (simp; done)
      refine ⟨fun e3 => ?_, fun e3 => ?_⟩
      · have f43 : (k : Int) < ((List.map rvP ((colsV A Q).take i)).length : Int) := of_decide_eq_true e3
        refine get_ex (l := ((colsV A Q).take i)) (i := k) (by first | omega | exact Nat.mod_lt _ (by omega)) fun x44 hx44 => ?_
        have hxx44 : (colsV A Q)[k]? = some x44 := by
          have := hx44
          rw [List.getElem?_take_of_lt (by omega)] at this; exact this
        have hwx44 := hcz x44 (List.mem_of_getElem? hxx44)
        refine k_ix k [D.v (.bool (cn x44.1).s), D.v (.string (cn x44.1).a), D.v (.string (cn x44.1).d), D.v (.bool (cn x44.2).s), D.v (.string (cn x44.2).a), D.v (.string (cn x44.2).d)] (by first | rfl | omega | (rw [wrap64 _ (by omega) (by omega)]; omega)) (map_at hx44) rfl ?_
        refine k_vCross (x := cn x24.1) (y := cn x24.2) (z := cn x44.1) (t := cn x44.2) (by simp only [cn_z]; omega) (by simp only [cn_z]; omega) (by simp only [cn_z]; omega) (by simp only [cn_z]; omega) (fun q48 hk_48_1 hk_48_2 => ?_)
        try simp only [cn_q] at hk_48_1
        simp only [cn_z] at hk_48_2
        refine k_sign (x := cn q48) (by simp only [cn_z]; omega) fun n49 h49 => ?_
        simp only [cn_q] at h49
        refine ⟨fun e4 => ?_, fun e4 => ?_⟩
        · have f50 : ¬ q48 = 0 := fun hh => bne_t e4 ((sg0_eq h49).2 hh)
          have e3 : (2 : Int) = rk (prA (colsV A Q) i ∨ ∃ b, b < k + 1 ∧ crs (colsV A Q) i b ≠ 0) (nzA (colsV A Q) (i + 1)) := (rk_p ((or_step (by rw [crs_at hx24 hxx44, ← hk_48_1]; exact f50)).2 trivial)).symm
          refine ⟨k + 1, by omega, by simp only; omega, ?_⟩
          constructor <;> (repeat' (first | exact rfl | exact True.intro | apply And.intro))
          all_goals first
            | exact congrArg (fun n : Int => D.v (.int .i64 n)) e3
            | exact congrArg (fun n : Int => D.v (.int .i64 n)) e3.symm
            | exact congrArg (fun n : Int => D.v (.int .i64 n)) (by rw [wrap64 _ (by omega) (by omega)]; omega)
            | exact congrArg (fun n : Int => D.v (.int .i64 n)) (by omega)
        · have f50 : ¬ (¬ q48 = 0) := fun hh => hh ((sg0_eq h49).1 (bne_f e4))
          have e3 : rk (prA (colsV A Q) i ∨ ∃ b, b < k ∧ crs (colsV A Q) i b ≠ 0) (nzA (colsV A Q) (i + 1)) = rk (prA (colsV A Q) i ∨ ∃ b, b < k + 1 ∧ crs (colsV A Q) i b ≠ 0) (nzA (colsV A Q) (i + 1)) := rk_iff (or_skip (by rw [crs_at hx24 hxx44, ← hk_48_1]; exact f50)).symm Iff.rfl
          refine ⟨k + 1, by omega, by simp only; omega, ?_⟩
          constructor <;> (repeat' (first | exact rfl | exact True.intro | apply And.intro))
          all_goals first
            | exact congrArg (fun n : Int => D.v (.int .i64 n)) e3
            | exact congrArg (fun n : Int => D.v (.int .i64 n)) e3.symm
            | exact congrArg (fun n : Int => D.v (.int .i64 n)) (by rw [wrap64 _ (by omega) (by omega)]; omega)
            | exact congrArg (fun n : Int => D.v (.int .i64 n)) (by omega)
      · have f43 : ¬ ((k : Int) < ((List.map rvP ((colsV A Q).take i)).length : Int)) := of_decide_eq_false e3
        have e2 : rk (prA (colsV A Q) i ∨ ∃ b, b < k ∧ crs (colsV A Q) i b ≠ 0) (nzA (colsV A Q) (i + 1)) = rk (prA (colsV A Q) (i + 1)) (nzA (colsV A Q) (i + 1)) := rk_iff (by rw [prA_succ, show k = i from by omega]) Iff.rfl
        refine ⟨i + 1, by omega, by simp only; omega, ?_⟩
        constructor <;> (repeat' (first | exact rfl | exact True.intro | apply And.intro))
        all_goals first
          | exact congrArg (fun n : Int => D.v (.int .i64 n)) e2
          | exact congrArg (fun n : Int => D.v (.int .i64 n)) e2.symm
          | exact congrArg (fun n : Int => D.v (.int .i64 n)) (by rw [wrap64 _ (by omega) (by omega)]; omega)
          | exact congrArg (fun n : Int => D.v (.int .i64 n)) (by omega)
    · have f30 : ¬ (¬ x24.1 = 0) := fun hh => hh ((sg0_eq h28).1 (bne_f e2))
      refine k_sign (x := cn x24.2) (by simp only [cn_z]; omega) fun n33 h33 => ?_
      simp only [cn_q] at h33
      refine ⟨fun e5 => ?_, fun e5 => ?_⟩
      · have f35 : ¬ x24.2 = 0 := fun hh => bne_t e5 ((sg0_eq h33).2 hh)
        refine k_take i (List.map rvP ((colsV A Q).take i)) (by first | omega | (simp; omega) | simp) (by first | rfl | omega | (rw [wrap64 _ (by omega) (by omega)]; omega)) (map_rows fun _ => rfl) (List.map_take.symm) ?_
        have e1 : (if 1 > (rk (prA (colsV A Q) i) (nzA (colsV A Q) i)) then 1 else (rk (prA (colsV A Q) i) (nzA (colsV A Q) i))) = rk (prA (colsV A Q) i ∨ ∃ b, b < 0 ∧ crs (colsV A Q) i b ≠ 0) (nzA (colsV A Q) (i + 1)) := (rk_max _ _).trans (rk_iff or_none (nzA_yes hx24 (.inr f35)).symm)
        have hLt : (List.map rvP ((colsV A Q).take i)).length = i := by rw [List.length_map, List.length_take]; omega
        have hLt2 : ((colsV A Q).take i).length = i := by rw [List.length_take]; omega
        refine ⟨Nat, fun k => [(6, .val (.one (.d (.list (List.map rvP (colsV A Q)))))), (7, int n16), (8, int (rk (prA (colsV A Q) i ∨ ∃ b, b < k ∧ crs (colsV A Q) i b ≠ 0) (nzA (colsV A Q) (i + 1)))), (10, .val (.one (.ptr 10 0))), (19, .val (.one (.d (.list (List.map rvP (colsV A Q)))))), (20, int ((List.map rvP (colsV A Q)).length : Int)), (21, int (i : Int)), (31, .val (.one (.ptr 10 3))), (32, rat (cn x24.2)), (33, int n33), (34, bool (n33 != 0)), (40, .val (.one (.d (.list (List.map rvP ((colsV A Q).take i)))))), (41, int ((List.map rvP ((colsV A Q).take i)).length : Int)), (42, int (k : Int))],
          fun k => [(10, .var 25 [.d (.v (.bool (cn x24.1).s)), .d (.v (.string (cn x24.1).a)), .d (.v (.string (cn x24.1).d)), .d (.v (.bool (cn x24.2).s)), .d (.v (.string (cn x24.2).a)), .d (.v (.string (cn x24.2).d))])], fun k => k ≤ i, fun k => i - k, 0, ?_, Nat.zero_le _, fun k hs => ?_⟩
        · constructor <;> (repeat' (first | exact rfl | exact True.intro | exact ⟨_, _, rfl⟩ | exact (by decide) | apply And.intro))
          all_goals first
            | exact congrArg (fun n : Int => D.v (.int .i64 n)) e1
            | exact congrArg (fun n : Int => D.v (.int .i64 n)) e1.symm
            | exact congrArg (fun n : Int => D.v (.int .i64 n)) (by omega)
            | (simp; done)
        refine ⟨fun e6 => ?_, fun e6 => ?_⟩
        · have f43 : (k : Int) < ((List.map rvP ((colsV A Q).take i)).length : Int) := of_decide_eq_true e6
          refine get_ex (l := ((colsV A Q).take i)) (i := k) (by first | omega | exact Nat.mod_lt _ (by omega)) fun x44 hx44 => ?_
          have hxx44 : (colsV A Q)[k]? = some x44 := by
            have := hx44
            rw [List.getElem?_take_of_lt (by omega)] at this; exact this
          have hwx44 := hcz x44 (List.mem_of_getElem? hxx44)
          refine k_ix k [D.v (.bool (cn x44.1).s), D.v (.string (cn x44.1).a), D.v (.string (cn x44.1).d), D.v (.bool (cn x44.2).s), D.v (.string (cn x44.2).a), D.v (.string (cn x44.2).d)] (by first | rfl | omega | (rw [wrap64 _ (by omega) (by omega)]; omega)) (map_at hx44) rfl ?_
          refine k_vCross (x := cn x24.1) (y := cn x24.2) (z := cn x44.1) (t := cn x44.2) (by simp only [cn_z]; omega) (by simp only [cn_z]; omega) (by simp only [cn_z]; omega) (by simp only [cn_z]; omega) (fun q48 hk_48_1 hk_48_2 => ?_)
          try simp only [cn_q] at hk_48_1
          simp only [cn_z] at hk_48_2
          refine k_sign (x := cn q48) (by simp only [cn_z]; omega) fun n49 h49 => ?_
          simp only [cn_q] at h49
          refine ⟨fun e7 => ?_, fun e7 => ?_⟩
          · have f50 : ¬ q48 = 0 := fun hh => bne_t e7 ((sg0_eq h49).2 hh)
            have e3 : (2 : Int) = rk (prA (colsV A Q) i ∨ ∃ b, b < k + 1 ∧ crs (colsV A Q) i b ≠ 0) (nzA (colsV A Q) (i + 1)) := (rk_p ((or_step (by rw [crs_at hx24 hxx44, ← hk_48_1]; exact f50)).2 trivial)).symm
            refine ⟨k + 1, by omega, by simp only; omega, ?_⟩
            constructor <;> (repeat' (first | exact rfl | exact True.intro | apply And.intro))
            all_goals first
              | exact congrArg (fun n : Int => D.v (.int .i64 n)) e3
              | exact congrArg (fun n : Int => D.v (.int .i64 n)) e3.symm
              | exact congrArg (fun n : Int => D.v (.int .i64 n)) (by rw [wrap64 _ (by omega) (by omega)]; omega)
              | exact congrArg (fun n : Int => D.v (.int .i64 n)) (by omega)
          · have f50 : ¬ (¬ q48 = 0) := fun hh => hh ((sg0_eq h49).1 (bne_f e7))
            have e3 : rk (prA (colsV A Q) i ∨ ∃ b, b < k ∧ crs (colsV A Q) i b ≠ 0) (nzA (colsV A Q) (i + 1)) = rk (prA (colsV A Q) i ∨ ∃ b, b < k + 1 ∧ crs (colsV A Q) i b ≠ 0) (nzA (colsV A Q) (i + 1)) := rk_iff (or_skip (by rw [crs_at hx24 hxx44, ← hk_48_1]; exact f50)).symm Iff.rfl
            refine ⟨k + 1, by omega, by simp only; omega, ?_⟩
            constructor <;> (repeat' (first | exact rfl | exact True.intro | apply And.intro))
            all_goals first
              | exact congrArg (fun n : Int => D.v (.int .i64 n)) e3
              | exact congrArg (fun n : Int => D.v (.int .i64 n)) e3.symm
              | exact congrArg (fun n : Int => D.v (.int .i64 n)) (by rw [wrap64 _ (by omega) (by omega)]; omega)
              | exact congrArg (fun n : Int => D.v (.int .i64 n)) (by omega)
        · have f43 : ¬ ((k : Int) < ((List.map rvP ((colsV A Q).take i)).length : Int)) := of_decide_eq_false e6
          have e2 : rk (prA (colsV A Q) i ∨ ∃ b, b < k ∧ crs (colsV A Q) i b ≠ 0) (nzA (colsV A Q) (i + 1)) = rk (prA (colsV A Q) (i + 1)) (nzA (colsV A Q) (i + 1)) := rk_iff (by rw [prA_succ, show k = i from by omega]) Iff.rfl
          refine ⟨i + 1, by omega, by simp only; omega, ?_⟩
          constructor <;> (repeat' (first | exact rfl | exact True.intro | apply And.intro))
          all_goals first
            | exact congrArg (fun n : Int => D.v (.int .i64 n)) e2
            | exact congrArg (fun n : Int => D.v (.int .i64 n)) e2.symm
            | exact congrArg (fun n : Int => D.v (.int .i64 n)) (by rw [wrap64 _ (by omega) (by omega)]; omega)
            | exact congrArg (fun n : Int => D.v (.int .i64 n)) (by omega)
      · have f35 : ¬ (¬ x24.2 = 0) := fun hh => hh ((sg0_eq h33).1 (bne_f e5))
        refine k_take i (List.map rvP ((colsV A Q).take i)) (by first | omega | (simp; omega) | simp) (by first | rfl | omega | (rw [wrap64 _ (by omega) (by omega)]; omega)) (map_rows fun _ => rfl) (List.map_take.symm) ?_
        have e1 : ((rk (prA (colsV A Q) i) (nzA (colsV A Q) i))) = rk (prA (colsV A Q) i ∨ ∃ b, b < 0 ∧ crs (colsV A Q) i b ≠ 0) (nzA (colsV A Q) (i + 1)) := rk_iff or_none (nzA_no hx24 (Classical.not_not.1 f30) (Classical.not_not.1 f35)).symm
        have hLt : (List.map rvP ((colsV A Q).take i)).length = i := by rw [List.length_map, List.length_take]; omega
        have hLt2 : ((colsV A Q).take i).length = i := by rw [List.length_take]; omega
        refine ⟨Nat, fun k => [(6, .val (.one (.d (.list (List.map rvP (colsV A Q)))))), (7, int n16), (8, int (rk (prA (colsV A Q) i ∨ ∃ b, b < k ∧ crs (colsV A Q) i b ≠ 0) (nzA (colsV A Q) (i + 1)))), (10, .val (.one (.ptr 10 0))), (19, .val (.one (.d (.list (List.map rvP (colsV A Q)))))), (20, int ((List.map rvP (colsV A Q)).length : Int)), (21, int (i : Int)), (31, .val (.one (.ptr 10 3))), (32, rat (cn x24.2)), (33, int n33), (34, bool (n33 != 0)), (40, .val (.one (.d (.list (List.map rvP ((colsV A Q).take i)))))), (41, int ((List.map rvP ((colsV A Q).take i)).length : Int)), (42, int (k : Int))],
          fun k => [(10, .var 25 [.d (.v (.bool (cn x24.1).s)), .d (.v (.string (cn x24.1).a)), .d (.v (.string (cn x24.1).d)), .d (.v (.bool (cn x24.2).s)), .d (.v (.string (cn x24.2).a)), .d (.v (.string (cn x24.2).d))])], fun k => k ≤ i, fun k => i - k, 0, ?_, Nat.zero_le _, fun k hs => ?_⟩
        · constructor <;> (repeat' (first | exact rfl | exact True.intro | exact ⟨_, _, rfl⟩ | exact (by decide) | apply And.intro))
          all_goals first
            | exact congrArg (fun n : Int => D.v (.int .i64 n)) e1
            | exact congrArg (fun n : Int => D.v (.int .i64 n)) e1.symm
            | exact congrArg (fun n : Int => D.v (.int .i64 n)) (by omega)
            | (simp; done)
        refine ⟨fun e8 => ?_, fun e8 => ?_⟩
        · have f43 : (k : Int) < ((List.map rvP ((colsV A Q).take i)).length : Int) := of_decide_eq_true e8
          refine get_ex (l := ((colsV A Q).take i)) (i := k) (by first | omega | exact Nat.mod_lt _ (by omega)) fun x44 hx44 => ?_
          have hxx44 : (colsV A Q)[k]? = some x44 := by
            have := hx44
            rw [List.getElem?_take_of_lt (by omega)] at this; exact this
          have hwx44 := hcz x44 (List.mem_of_getElem? hxx44)
          refine k_ix k [D.v (.bool (cn x44.1).s), D.v (.string (cn x44.1).a), D.v (.string (cn x44.1).d), D.v (.bool (cn x44.2).s), D.v (.string (cn x44.2).a), D.v (.string (cn x44.2).d)] (by first | rfl | omega | (rw [wrap64 _ (by omega) (by omega)]; omega)) (map_at hx44) rfl ?_
          refine k_vCross (x := cn x24.1) (y := cn x24.2) (z := cn x44.1) (t := cn x44.2) (by simp only [cn_z]; omega) (by simp only [cn_z]; omega) (by simp only [cn_z]; omega) (by simp only [cn_z]; omega) (fun q48 hk_48_1 hk_48_2 => ?_)
          try simp only [cn_q] at hk_48_1
          simp only [cn_z] at hk_48_2
          refine k_sign (x := cn q48) (by simp only [cn_z]; omega) fun n49 h49 => ?_
          simp only [cn_q] at h49
          refine ⟨fun e9 => ?_, fun e9 => ?_⟩
          · have f50 : ¬ q48 = 0 := fun hh => bne_t e9 ((sg0_eq h49).2 hh)
            have e3 : (2 : Int) = rk (prA (colsV A Q) i ∨ ∃ b, b < k + 1 ∧ crs (colsV A Q) i b ≠ 0) (nzA (colsV A Q) (i + 1)) := (rk_p ((or_step (by rw [crs_at hx24 hxx44, ← hk_48_1]; exact f50)).2 trivial)).symm
            refine ⟨k + 1, by omega, by simp only; omega, ?_⟩
            constructor <;> (repeat' (first | exact rfl | exact True.intro | apply And.intro))
            all_goals first
              | exact congrArg (fun n : Int => D.v (.int .i64 n)) e3
              | exact congrArg (fun n : Int => D.v (.int .i64 n)) e3.symm
              | exact congrArg (fun n : Int => D.v (.int .i64 n)) (by rw [wrap64 _ (by omega) (by omega)]; omega)
              | exact congrArg (fun n : Int => D.v (.int .i64 n)) (by omega)
          · have f50 : ¬ (¬ q48 = 0) := fun hh => hh ((sg0_eq h49).1 (bne_f e9))
            have e3 : rk (prA (colsV A Q) i ∨ ∃ b, b < k ∧ crs (colsV A Q) i b ≠ 0) (nzA (colsV A Q) (i + 1)) = rk (prA (colsV A Q) i ∨ ∃ b, b < k + 1 ∧ crs (colsV A Q) i b ≠ 0) (nzA (colsV A Q) (i + 1)) := rk_iff (or_skip (by rw [crs_at hx24 hxx44, ← hk_48_1]; exact f50)).symm Iff.rfl
            refine ⟨k + 1, by omega, by simp only; omega, ?_⟩
            constructor <;> (repeat' (first | exact rfl | exact True.intro | apply And.intro))
            all_goals first
              | exact congrArg (fun n : Int => D.v (.int .i64 n)) e3
              | exact congrArg (fun n : Int => D.v (.int .i64 n)) e3.symm
              | exact congrArg (fun n : Int => D.v (.int .i64 n)) (by rw [wrap64 _ (by omega) (by omega)]; omega)
              | exact congrArg (fun n : Int => D.v (.int .i64 n)) (by omega)
        · have f43 : ¬ ((k : Int) < ((List.map rvP ((colsV A Q).take i)).length : Int)) := of_decide_eq_false e8
          have e2 : rk (prA (colsV A Q) i ∨ ∃ b, b < k ∧ crs (colsV A Q) i b ≠ 0) (nzA (colsV A Q) (i + 1)) = rk (prA (colsV A Q) (i + 1)) (nzA (colsV A Q) (i + 1)) := rk_iff (by rw [prA_succ, show k = i from by omega]) Iff.rfl
          refine ⟨i + 1, by omega, by simp only; omega, ?_⟩
          constructor <;> (repeat' (first | exact rfl | exact True.intro | apply And.intro))
          all_goals first
            | exact congrArg (fun n : Int => D.v (.int .i64 n)) e2
            | exact congrArg (fun n : Int => D.v (.int .i64 n)) e2.symm
            | exact congrArg (fun n : Int => D.v (.int .i64 n)) (by rw [wrap64 _ (by omega) (by omega)]; omega)
            | exact congrArg (fun n : Int => D.v (.int .i64 n)) (by omega)
  · have f22 : ¬ ((i : Int) < ((List.map rvP (colsV A Q)).length : Int)) := of_decide_eq_false e1
    refine Eq.trans (b := .tup [.one (.d (.v (.int .i64 ((rk (prA (colsV A Q) i) (nzA (colsV A Q) i)))))), .one (.d (.v (.int .i64 (n16))))]) ?_ rfl
    obtain rfl : i = (colsV A Q).length := by omega
    rw [← hk_16_1]
    all_goals rfl
theorem k_Rank {A : ArmV} {Q : List RV} (hA : A.ok) (hQ : ∀ x, x ∈ Q → x.z ≤ 1048576) (k : ∀ n, n = hasE A (Q.length : Int) → K (two (int (rkL (colsV A Q))) (int n))) : Ask 40 [.val (.agg [.d (.v (.string A.name)), .d (.v (.bool A.bx.s)), .d (.v (.string A.bx.a)), .d (.v (.string A.bx.d)), .d (.v (.bool A.by'.s)), .d (.v (.string A.by'.a)), .d (.v (.string A.by'.d)), .d (.v (.bool (A.bh))), .d (.v (.bool A.bt.s)), .d (.v (.string A.bt.a)), .d (.v (.string A.bt.d)), .d (.list (List.map lk A.links))]), .val (.one (.d (.list (List.map rd Q))))] K := use (Rank_spec A Q hA hQ) rfl (k _ rfl)
open Classical in
noncomputable def isV (A : ArmV) (Q : List RV) : Bool := decide (hasE A (Q.length : Int) = 0 ∧ rkL (colsV A Q) < 2)
theorem isV_no {A : ArmV} {Q : List RV} (h : ¬ hasE A (Q.length : Int) = 0) : isV A Q = false := by unfold isV; exact decide_eq_false fun g => h g.1
theorem isV_ok {A : ArmV} {Q : List RV} (h : hasE A (Q.length : Int) = 0) : isV A Q = decide (rkL (colsV A Q) < 2) := by unfold isV; exact decide_eq_decide.2 ⟨fun g => g.2, fun g => ⟨h, g⟩⟩
set_option maxRecDepth 100000 in
theorem SIs_spec (A : ArmV) (Q : List RV) (hA : A.ok) (hQ : ∀ x, x ∈ Q → x.z ≤ 1048576) : Spec Tryz.prog Tab 41 [.val (.agg [.d (.v (.string A.name)), .d (.v (.bool A.bx.s)), .d (.v (.string A.bx.a)), .d (.v (.string A.bx.d)), .d (.v (.bool A.by'.s)), .d (.v (.string A.by'.a)), .d (.v (.string A.by'.d)), .d (.v (.bool (A.bh))), .d (.v (.bool A.bt.s)), .d (.v (.string A.bt.a)), .d (.v (.string A.bt.d)), .d (.list (List.map lk A.links))]), .val (.one (.d (.list (List.map rd Q))))] (.tup [.one (.d (.v (.bool (isV A Q)))), .one (.d (.v (.int .i64 (hasE A (Q.length : Int)))))]) := by
  have hA2 := hA
  have hL : (List.map lk A.links).length = A.links.length := List.length_map ..
  have hLq : (List.map rd Q).length = Q.length := List.length_map ..
  have hQ1 : ∀ x, x ∈ Q → x.z ≤ 2097151 := fun x hx => Nat.le_trans (hQ x hx) (by decide)
  refine fn_spec Tryz.func41 rfl rfl Tryz.ntmps41 rfl (by kernel_rfl) rfl rfl ?_
  refine k_Rank (A := A) (Q := Q) (by assumption) (by assumption) fun n11 hk_11_1 => ?_
  refine fork (fun e1 => ?_) (fun e1 => ?_)
  · have f16 : n11 = 0 := beq_t e1
    refine Eq.trans (b := .tup [.one (.d (.v (.bool (decide (rkL (colsV A Q) < 2))))), .one (.d (.v (.int .i64 (n11))))]) ?_ rfl
    rw [isV_ok (by rw [← hk_11_1]; exact f16), ← hk_11_1]
    all_goals rfl
  · have f16 : ¬ (n11 = 0) := beq_f e1
    refine Eq.trans (b := .tup [.one (.d (.v (.bool (false)))), .one (.d (.v (.int .i64 (n11))))]) ?_ rfl
    rw [isV_no (by rw [← hk_11_1]; exact f16), ← hk_11_1]
    all_goals rfl
theorem k_SIs {A : ArmV} {Q : List RV} (hA : A.ok) (hQ : ∀ x, x ∈ Q → x.z ≤ 1048576) (k : ∀ n, n = hasE A (Q.length : Int) → K (two (bool (isV A Q)) (int n))) : Ask 41 [.val (.agg [.d (.v (.string A.name)), .d (.v (.bool A.bx.s)), .d (.v (.string A.bx.a)), .d (.v (.string A.bx.d)), .d (.v (.bool A.by'.s)), .d (.v (.string A.by'.a)), .d (.v (.string A.by'.d)), .d (.v (.bool (A.bh))), .d (.v (.bool A.bt.s)), .d (.v (.string A.bt.a)), .d (.v (.string A.bt.d)), .d (.list (List.map lk A.links))]), .val (.one (.d (.list (List.map rd Q))))] K := use (SIs_spec A Q hA hQ) rfl (k _ rfl)
set_option maxHeartbeats 2000000 in
set_option maxRecDepth 100000 in
theorem RCols_spec (A : ArmV) (Q : List RV) (hA : A.ok) (hA0 : armE A = 0) (hlen : Q.length = A.links.length) (hQ : ∀ x, x ∈ Q → x.z ≤ 1048576) : Spec Tryz.prog Tab 42 [.val (.agg [.d (.v (.string A.name)), .d (.v (.bool A.bx.s)), .d (.v (.string A.bx.a)), .d (.v (.string A.bx.d)), .d (.v (.bool A.by'.s)), .d (.v (.string A.by'.a)), .d (.v (.string A.by'.d)), .d (.v (.bool (A.bh))), .d (.v (.bool A.bt.s)), .d (.v (.string A.bt.a)), .d (.v (.string A.bt.d)), .d (.list (List.map lk A.links))]), .val (.one (.d (.list (List.map rd Q))))] (.val (.one (.d (.list (List.map rqP (colsF A Q A.links.length)))))) := by
  have hA2 := hA
  have hL : (List.map lk A.links).length = A.links.length := List.length_map ..
  have hLq : (List.map rd Q).length = Q.length := List.length_map ..
  have hQ1 : ∀ x, x ∈ Q → x.z ≤ 2097151 := fun x hx => Nat.le_trans (hQ x hx) (by decide)
  have hn3 := (armE_ok hA0).1
  have hLv : (List.map rqF (framesF A Q)).length = (framesF A Q).length := List.length_map ..
  have hLf := framesF_len A Q
  have htk : (framesF A Q).take ((framesF A Q).length - 1) = linksF A Q A.links.length := by rw [hLf]; exact framesF_take A Q
  have hLl : (List.map rqF (linksF A Q A.links.length)).length = A.links.length := by rw [List.length_map, linksF_len]
  have hLl2 := linksF_len A Q A.links.length
  refine fn_spec Tryz.func42 rfl rfl Tryz.ntmps42 rfl (by kernel_rfl) rfl rfl ?_
  refine k_RFrames (A := A) (Q := Q) (by assumption) hA0 hlen (by assumption) ?_
  refine get_ex (l := (framesF A Q)) (i := ((framesF A Q).length - 1)) (by first | omega | exact Nat.mod_lt _ (by omega)) fun x17 hx17 => ?_
  have hxt : x17 = endF A Q A.links.length := framesF_last (by rw [show A.links.length = (framesF A Q).length - 1 from by omega]; exact hx17)
  have hzt := (chain_z2 hA0 hQ A.links.length hn3).1
  rw [← hxt] at hzt
  refine k_ix ((framesF A Q).length - 1) [D.v (.bool (decide (x17.x.num < 0))), D.list (W (w32 x17.x.num.natAbs)), D.list (W (w32 x17.x.den)), D.v (.bool (decide (x17.y.num < 0))), D.list (W (w32 x17.y.num.natAbs)), D.list (W (w32 x17.y.den)), D.v (.bool (decide (x17.c.num < 0))), D.list (W (w32 x17.c.num.natAbs)), D.list (W (w32 x17.c.den)), D.v (.bool (decide (x17.s.num < 0))), D.list (W (w32 x17.s.num.natAbs)), D.list (W (w32 x17.s.den))] (by first | rfl | omega | (rw [wrap64 _ (by omega) (by omega)]; omega)) (map_at hx17) rfl ?_
  refine k_take ((framesF A Q).length - 1) (List.map rqF (linksF A Q A.links.length)) (by first | omega | (simp; omega) | simp) (by first | rfl | omega | (rw [wrap64 _ (by omega) (by omega)]; omega)) (map_rows fun _ => rfl) ((by rw [← htk]; exact List.map_take.symm)) ?_
  refine ⟨Nat, fun i => [(6, .val (.one (.ptr 6 0))), (7, .val (.one (.row 42 0))), (23, .val (.one (.d (.list (List.map rqF (linksF A Q A.links.length)))))), (24, int ((List.map rqF (linksF A Q A.links.length)).length : Int)), (25, int (i : Int))],
    fun i => [(6, .var 64 [.d (.v (.bool (decide (x17.x.num < 0)))), .d (.list (W (w32 x17.x.num.natAbs))), .d (.list (W (w32 x17.x.den))), .d (.v (.bool (decide (x17.y.num < 0)))), .d (.list (W (w32 x17.y.num.natAbs))), .d (.list (W (w32 x17.y.den))), .d (.v (.bool (decide (x17.c.num < 0)))), .d (.list (W (w32 x17.c.num.natAbs))), .d (.list (W (w32 x17.c.den))), .d (.v (.bool (decide (x17.s.num < 0)))), .d (.list (W (w32 x17.s.num.natAbs))), .d (.list (W (w32 x17.s.den)))]), (42, .row 168 6 0 (List.map rqP (colsF A Q i)) true)], fun i => i ≤ A.links.length, fun i => A.links.length - i, 0, ?_, Nat.zero_le _, fun i hs => ?_⟩
  · constructor <;> (repeat' (first | exact rfl | exact True.intro | exact ⟨_, _, rfl⟩ | exact (by decide) | apply And.intro))
    all_goals first | exact congrArg (fun n : Int => D.v (.int .i64 n)) (by omega) | exact congrArg (fun n : Int => D.v (.int .i64 n)) (by rw [wrap64 _ (by omega) (by omega)]; omega) | (simp; done)
  have hT : (List.map rqP (colsF A Q i)).length ≤ 3 := by rw [List.length_map, colsF_len]; omega
  refine ⟨fun e1 => ?_, fun e1 => ?_⟩
  · have f26 : (i : Int) < ((List.map rqF (linksF A Q A.links.length)).length : Int) := of_decide_eq_true e1
    refine get_ex (l := (linksF A Q A.links.length)) (i := i) (by first | omega | exact Nat.mod_lt _ (by omega)) fun x27 hx27 => ?_
    have hxl : x27 = linkF A Q i := (linksF_at hx27).1
    have hzl := (chain_z2 hA0 hQ i (by omega)).2 (by omega)
    rw [← hxl] at hzl
    refine k_ix i [D.v (.bool (decide (x27.x.num < 0))), D.list (W (w32 x27.x.num.natAbs)), D.list (W (w32 x27.x.den)), D.v (.bool (decide (x27.y.num < 0))), D.list (W (w32 x27.y.num.natAbs)), D.list (W (w32 x27.y.den)), D.v (.bool (decide (x27.c.num < 0))), D.list (W (w32 x27.c.num.natAbs)), D.list (W (w32 x27.c.den)), D.v (.bool (decide (x27.s.num < 0))), D.list (W (w32 x27.s.num.natAbs)), D.list (W (w32 x27.s.den))] (by first | rfl | omega | (rw [wrap64 _ (by omega) (by omega)]; omega)) (map_at hx27) rfl ?_
    refine k_Sub3 (p := x27.y) (q := x17.y) (by omega) (by omega) fun q34 h34 z34 => ?_
    refine k_Sub3 (p := x17.x) (q := x27.x) (by omega) (by omega) fun q39 h39 z39 => ?_
    refine ⟨⟨row1 rfl, (by show ((List.map rqP (colsF A Q i)).length + 1) * 112 ≤ _; omega), (by show ((List.map rqP (colsF A Q i)).length + 1) ≤ _; omega)⟩, ?_⟩
    refine ⟨by kernel_rfl, ?_⟩
    have ec1 : q34 = (colF A Q i).1 := by rw [h34, hxt, hxl]; show _ = -((endF A Q A.links.length).y - (linkF A Q i).y); grind
    have ec2 : q39 = (colF A Q i).2 := by rw [h39, hxt, hxl]; rfl
    clear h34 h39
    subst ec1 ec2
    refine ⟨i + 1, by omega, by simp only; omega, ?_⟩
    constructor <;> (repeat' (first | exact rfl | exact True.intro | apply And.intro))
    all_goals first
      | (rw [colsF_snoc]; rfl)
      | exact congrArg (fun n : Int => D.v (.int .i64 n)) (by rw [wrap64 _ (by omega) (by omega)]; omega)
      | exact congrArg (fun n : Int => D.v (.int .i64 n)) (by omega)
  · have f26 : ¬ ((i : Int) < ((List.map rqF (linksF A Q A.links.length)).length : Int)) := of_decide_eq_false e1
    refine Eq.trans (b := .val (.one (.d (.list (List.map rqP (colsF A Q i)))))) ?_ rfl
    obtain rfl : i = A.links.length := by omega
    rfl
theorem k_RCols {A : ArmV} {Q : List RV} (hA : A.ok) (hA0 : armE A = 0) (hlen : Q.length = A.links.length) (hQ : ∀ x, x ∈ Q → x.z ≤ 1048576) (k : K (.val (.one (.d (.list (List.map rqP (colsF A Q A.links.length))))))) : Ask 42 [.val (.agg [.d (.v (.string A.name)), .d (.v (.bool A.bx.s)), .d (.v (.string A.bx.a)), .d (.v (.string A.bx.d)), .d (.v (.bool A.by'.s)), .d (.v (.string A.by'.a)), .d (.v (.string A.by'.d)), .d (.v (.bool (A.bh))), .d (.v (.bool A.bt.s)), .d (.v (.string A.bt.a)), .d (.v (.string A.bt.d)), .d (.list (List.map lk A.links))]), .val (.one (.d (.list (List.map rd Q))))] K := use (RCols_spec A Q hA hA0 hlen hQ) rfl k
set_option maxHeartbeats 2000000 in
set_option maxRecDepth 100000 in
theorem RRank_spec (l : List (Rat × Rat)) (hcz : pz l) (hn : l.length ≤ 1073741824) : Spec Tryz.prog Tab 44 [.val (.one (.d (.list (List.map rqP l))))] (int (rkL l)) := by
  have hL : (List.map rqP l).length = l.length := List.length_map ..
  refine fn_spec Tryz.func44 rfl rfl Tryz.ntmps44 rfl (by kernel_rfl) rfl rfl ?_
  have e0 : (0 : Int) = rk (prB l 0) (nzA l 0) := by
    unfold rk
    rw [if_neg (by rintro ⟨a, b, h1, h2, _⟩; omega), if_neg (by rintro ⟨a, p, h1, _⟩; omega)]
  refine ⟨Nat, fun i => [(0, .val (.one (.d (.list (List.map rqP l))))), (3, int (rk (prB l i) (nzA l i))), (8, .val (.one (.d (.list (List.map rqP l))))), (9, int ((List.map rqP l).length : Int)), (10, int (i : Int))],
    fun i => [], fun i => i ≤ l.length, fun i => l.length - i, 0, ?_, Nat.zero_le _, fun i hs => ?_⟩
  · constructor <;> (repeat' (first | exact rfl | exact True.intro | exact ⟨_, _, rfl⟩ | exact (by decide) | apply And.intro))
    all_goals first
      | exact congrArg (fun n : Int => D.v (.int .i64 n)) e0
      | exact congrArg (fun n : Int => D.v (.int .i64 n)) (by omega)
      | (simp; done)
  refine ⟨fun e1 => ?_, fun e1 => ?_⟩
  · have f11 : (i : Int) < ((List.map rqP l).length : Int) := of_decide_eq_true e1
    refine get_ex (l := l) (i := i) (by first | omega | exact Nat.mod_lt _ (by omega)) fun x12 hx12 => ?_
    have hwx12 := hcz x12 (List.mem_of_getElem? hx12)
    refine k_ix i [D.v (.bool (decide (x12.1.num < 0))), D.list (W (w32 x12.1.num.natAbs)), D.list (W (w32 x12.1.den)), D.v (.bool (decide (x12.2.num < 0))), D.list (W (w32 x12.2.num.natAbs)), D.list (W (w32 x12.2.den))] (by first | rfl | omega | (rw [wrap64 _ (by omega) (by omega)]; omega)) (map_at hx12) rfl ?_
    refine k_Sign3 (q := x12.1) fun n16 h16 => ?_
    refine fork (fun e2 => ?_) (fun e2 => ?_)
    · have f18 : ¬ x12.1 = 0 := fun hh => bne_t e2 ((sg0_eq h16).2 hh)
      refine ⟨fun _ => ?_, fun e => absurd e (by decide)⟩
      have e1 : (if 1 > (rk (prB l i) (nzA l i)) then 1 else (rk (prB l i) (nzA l i))) = rk (prB l i ∨ ∃ b, b < 0 ∧ crs l i b ≠ 0) (nzA l (i + 1)) := (rk_max _ _).trans (rk_iff or_none (nzA_yes hx12 (.inl f18)).symm)
      refine ⟨Nat, fun k => [(0, .val (.one (.d (.list (List.map rqP l))))), (3, int (rk (prB l i ∨ ∃ b, b < k ∧ crs l i b ≠ 0) (nzA l (i + 1)))), (5, .val (.one (.ptr 5 0))), (8, .val (.one (.d (.list (List.map rqP l))))), (9, int ((List.map rqP l).length : Int)), (10, int (i : Int)), (19, .tup []), (20, .tup []), (21, .tup []), (22, .tup []), (26, .val (.one (.d (.list (List.map rqP l))))), (27, int ((List.map rqP l).length : Int)), (28, int (k : Int))],
        fun k => [(5, .var 168 [.d (.v (.bool (decide (x12.1.num < 0)))), .d (.list (W (w32 x12.1.num.natAbs))), .d (.list (W (w32 x12.1.den))), .d (.v (.bool (decide (x12.2.num < 0)))), .d (.list (W (w32 x12.2.num.natAbs))), .d (.list (W (w32 x12.2.den)))])], fun k => k ≤ l.length, fun k => l.length - k, 0, ?_, Nat.zero_le _, fun k hs => ?_⟩
      · constructor <;> (repeat' (first | exact rfl | exact True.intro | exact ⟨_, _, rfl⟩ | exact (by decide) | apply And.intro))
        all_goals first
          | exact congrArg (fun n : Int => D.v (.int .i64 n)) e1
          | exact congrArg (fun n : Int => D.v (.int .i64 n)) e1.symm
          | exact congrArg (fun n : Int => D.v (.int .i64 n)) (by omega)
          | (simp; done)
      refine ⟨fun e3 => ?_, fun e3 => ?_⟩
      · have f29 : (k : Int) < ((List.map rqP l).length : Int) := of_decide_eq_true e3
        refine get_ex (l := l) (i := k) (by first | omega | exact Nat.mod_lt _ (by omega)) fun x30 hx30 => ?_
        have hwx30 := hcz x30 (List.mem_of_getElem? hx30)
        refine k_ix k [D.v (.bool (decide (x30.1.num < 0))), D.list (W (w32 x30.1.num.natAbs)), D.list (W (w32 x30.1.den)), D.v (.bool (decide (x30.2.num < 0))), D.list (W (w32 x30.2.num.natAbs)), D.list (W (w32 x30.2.den))] (by first | rfl | omega | (rw [wrap64 _ (by omega) (by omega)]; omega)) (map_at hx30) rfl ?_
        refine k_Pcross (p := x12.1) (q := x12.2) (r := x30.1) (u := x30.2) (by omega) (by omega) (by omega) (by omega) (fun ya34 hk_34_1 hk_34_2 => ?_)
        refine k_Sign3 (q := ya34) fun n35 h35 => ?_
        refine ⟨fun e4 => ?_, fun e4 => ?_⟩
        · have f36 : ¬ ya34 = 0 := fun hh => bne_t e4 ((sg0_eq h35).2 hh)
          have e3 : (2 : Int) = rk (prB l i ∨ ∃ b, b < k + 1 ∧ crs l i b ≠ 0) (nzA l (i + 1)) := (rk_p ((or_step (by rw [crs_at hx12 hx30, ← hk_34_1]; exact f36)).2 trivial)).symm
          refine ⟨k + 1, by omega, by simp only; omega, ?_⟩
          constructor <;> (repeat' (first | exact rfl | exact True.intro | apply And.intro))
          all_goals first
            | exact congrArg (fun n : Int => D.v (.int .i64 n)) e3
            | exact congrArg (fun n : Int => D.v (.int .i64 n)) e3.symm
            | exact congrArg (fun n : Int => D.v (.int .i64 n)) (by rw [wrap64 _ (by omega) (by omega)]; omega)
            | exact congrArg (fun n : Int => D.v (.int .i64 n)) (by omega)
        · have f36 : ¬ (¬ ya34 = 0) := fun hh => hh ((sg0_eq h35).1 (bne_f e4))
          have e3 : rk (prB l i ∨ ∃ b, b < k ∧ crs l i b ≠ 0) (nzA l (i + 1)) = rk (prB l i ∨ ∃ b, b < k + 1 ∧ crs l i b ≠ 0) (nzA l (i + 1)) := rk_iff (or_skip (by rw [crs_at hx12 hx30, ← hk_34_1]; exact f36)).symm Iff.rfl
          refine ⟨k + 1, by omega, by simp only; omega, ?_⟩
          constructor <;> (repeat' (first | exact rfl | exact True.intro | apply And.intro))
          all_goals first
            | exact congrArg (fun n : Int => D.v (.int .i64 n)) e3
            | exact congrArg (fun n : Int => D.v (.int .i64 n)) e3.symm
            | exact congrArg (fun n : Int => D.v (.int .i64 n)) (by rw [wrap64 _ (by omega) (by omega)]; omega)
            | exact congrArg (fun n : Int => D.v (.int .i64 n)) (by omega)
      · have f29 : ¬ ((k : Int) < ((List.map rqP l).length : Int)) := of_decide_eq_false e3
        have e2 : rk (prB l i ∨ ∃ b, b < k ∧ crs l i b ≠ 0) (nzA l (i + 1)) = rk (prB l (i + 1)) (nzA l (i + 1)) := rk_iff (by rw [prB_succ, show k = l.length from by omega]) Iff.rfl
        refine ⟨i + 1, by omega, by simp only; omega, ?_⟩
        constructor <;> (repeat' (first | exact rfl | exact True.intro | apply And.intro))
        all_goals first
          | exact congrArg (fun n : Int => D.v (.int .i64 n)) e2
          | exact congrArg (fun n : Int => D.v (.int .i64 n)) e2.symm
          | exact congrArg (fun n : Int => D.v (.int .i64 n)) (by rw [wrap64 _ (by omega) (by omega)]; omega)
          | exact congrArg (fun n : Int => D.v (.int .i64 n)) (by omega)
    · have f18 : ¬ (¬ x12.1 = 0) := fun hh => hh ((sg0_eq h16).1 (bne_f e2))
      refine k_Sign3 (q := x12.2) fun n21 h21 => ?_
      refine ⟨fun e5 => ?_, fun e5 => ?_⟩
      · have f23 : ¬ x12.2 = 0 := fun hh => bne_t e5 ((sg0_eq h21).2 hh)
        have e1 : (if 1 > (rk (prB l i) (nzA l i)) then 1 else (rk (prB l i) (nzA l i))) = rk (prB l i ∨ ∃ b, b < 0 ∧ crs l i b ≠ 0) (nzA l (i + 1)) := (rk_max _ _).trans (rk_iff or_none (nzA_yes hx12 (.inr f23)).symm)
        refine ⟨Nat, fun k => [(0, .val (.one (.d (.list (List.map rqP l))))), (3, int (rk (prB l i ∨ ∃ b, b < k ∧ crs l i b ≠ 0) (nzA l (i + 1)))), (5, .val (.one (.ptr 5 0))), (8, .val (.one (.d (.list (List.map rqP l))))), (9, int ((List.map rqP l).length : Int)), (10, int (i : Int)), (19, .val (.one (.ptr 5 3))), (20, q3 x12.2), (21, int n21), (22, bool (n21 != 0)), (26, .val (.one (.d (.list (List.map rqP l))))), (27, int ((List.map rqP l).length : Int)), (28, int (k : Int))],
          fun k => [(5, .var 168 [.d (.v (.bool (decide (x12.1.num < 0)))), .d (.list (W (w32 x12.1.num.natAbs))), .d (.list (W (w32 x12.1.den))), .d (.v (.bool (decide (x12.2.num < 0)))), .d (.list (W (w32 x12.2.num.natAbs))), .d (.list (W (w32 x12.2.den)))])], fun k => k ≤ l.length, fun k => l.length - k, 0, ?_, Nat.zero_le _, fun k hs => ?_⟩
        · constructor <;> (repeat' (first | exact rfl | exact True.intro | exact ⟨_, _, rfl⟩ | exact (by decide) | apply And.intro))
          all_goals first
            | exact congrArg (fun n : Int => D.v (.int .i64 n)) e1
            | exact congrArg (fun n : Int => D.v (.int .i64 n)) e1.symm
            | exact congrArg (fun n : Int => D.v (.int .i64 n)) (by omega)
            | (simp; done)
        refine ⟨fun e6 => ?_, fun e6 => ?_⟩
        · have f29 : (k : Int) < ((List.map rqP l).length : Int) := of_decide_eq_true e6
          refine get_ex (l := l) (i := k) (by first | omega | exact Nat.mod_lt _ (by omega)) fun x30 hx30 => ?_
          have hwx30 := hcz x30 (List.mem_of_getElem? hx30)
          refine k_ix k [D.v (.bool (decide (x30.1.num < 0))), D.list (W (w32 x30.1.num.natAbs)), D.list (W (w32 x30.1.den)), D.v (.bool (decide (x30.2.num < 0))), D.list (W (w32 x30.2.num.natAbs)), D.list (W (w32 x30.2.den))] (by first | rfl | omega | (rw [wrap64 _ (by omega) (by omega)]; omega)) (map_at hx30) rfl ?_
          refine k_Pcross (p := x12.1) (q := x12.2) (r := x30.1) (u := x30.2) (by omega) (by omega) (by omega) (by omega) (fun ya34 hk_34_1 hk_34_2 => ?_)
          refine k_Sign3 (q := ya34) fun n35 h35 => ?_
          refine ⟨fun e7 => ?_, fun e7 => ?_⟩
          · have f36 : ¬ ya34 = 0 := fun hh => bne_t e7 ((sg0_eq h35).2 hh)
            have e3 : (2 : Int) = rk (prB l i ∨ ∃ b, b < k + 1 ∧ crs l i b ≠ 0) (nzA l (i + 1)) := (rk_p ((or_step (by rw [crs_at hx12 hx30, ← hk_34_1]; exact f36)).2 trivial)).symm
            refine ⟨k + 1, by omega, by simp only; omega, ?_⟩
            constructor <;> (repeat' (first | exact rfl | exact True.intro | apply And.intro))
            all_goals first
              | exact congrArg (fun n : Int => D.v (.int .i64 n)) e3
              | exact congrArg (fun n : Int => D.v (.int .i64 n)) e3.symm
              | exact congrArg (fun n : Int => D.v (.int .i64 n)) (by rw [wrap64 _ (by omega) (by omega)]; omega)
              | exact congrArg (fun n : Int => D.v (.int .i64 n)) (by omega)
          · have f36 : ¬ (¬ ya34 = 0) := fun hh => hh ((sg0_eq h35).1 (bne_f e7))
            have e3 : rk (prB l i ∨ ∃ b, b < k ∧ crs l i b ≠ 0) (nzA l (i + 1)) = rk (prB l i ∨ ∃ b, b < k + 1 ∧ crs l i b ≠ 0) (nzA l (i + 1)) := rk_iff (or_skip (by rw [crs_at hx12 hx30, ← hk_34_1]; exact f36)).symm Iff.rfl
            refine ⟨k + 1, by omega, by simp only; omega, ?_⟩
            constructor <;> (repeat' (first | exact rfl | exact True.intro | apply And.intro))
            all_goals first
              | exact congrArg (fun n : Int => D.v (.int .i64 n)) e3
              | exact congrArg (fun n : Int => D.v (.int .i64 n)) e3.symm
              | exact congrArg (fun n : Int => D.v (.int .i64 n)) (by rw [wrap64 _ (by omega) (by omega)]; omega)
              | exact congrArg (fun n : Int => D.v (.int .i64 n)) (by omega)
        · have f29 : ¬ ((k : Int) < ((List.map rqP l).length : Int)) := of_decide_eq_false e6
          have e2 : rk (prB l i ∨ ∃ b, b < k ∧ crs l i b ≠ 0) (nzA l (i + 1)) = rk (prB l (i + 1)) (nzA l (i + 1)) := rk_iff (by rw [prB_succ, show k = l.length from by omega]) Iff.rfl
          refine ⟨i + 1, by omega, by simp only; omega, ?_⟩
          constructor <;> (repeat' (first | exact rfl | exact True.intro | apply And.intro))
          all_goals first
            | exact congrArg (fun n : Int => D.v (.int .i64 n)) e2
            | exact congrArg (fun n : Int => D.v (.int .i64 n)) e2.symm
            | exact congrArg (fun n : Int => D.v (.int .i64 n)) (by rw [wrap64 _ (by omega) (by omega)]; omega)
            | exact congrArg (fun n : Int => D.v (.int .i64 n)) (by omega)
      · have f23 : ¬ (¬ x12.2 = 0) := fun hh => hh ((sg0_eq h21).1 (bne_f e5))
        have e1 : ((rk (prB l i) (nzA l i))) = rk (prB l i ∨ ∃ b, b < 0 ∧ crs l i b ≠ 0) (nzA l (i + 1)) := rk_iff or_none (nzA_no hx12 (Classical.not_not.1 f18) (Classical.not_not.1 f23)).symm
        refine ⟨Nat, fun k => [(0, .val (.one (.d (.list (List.map rqP l))))), (3, int (rk (prB l i ∨ ∃ b, b < k ∧ crs l i b ≠ 0) (nzA l (i + 1)))), (5, .val (.one (.ptr 5 0))), (8, .val (.one (.d (.list (List.map rqP l))))), (9, int ((List.map rqP l).length : Int)), (10, int (i : Int)), (19, .val (.one (.ptr 5 3))), (20, q3 x12.2), (21, int n21), (22, bool (n21 != 0)), (26, .val (.one (.d (.list (List.map rqP l))))), (27, int ((List.map rqP l).length : Int)), (28, int (k : Int))],
          fun k => [(5, .var 168 [.d (.v (.bool (decide (x12.1.num < 0)))), .d (.list (W (w32 x12.1.num.natAbs))), .d (.list (W (w32 x12.1.den))), .d (.v (.bool (decide (x12.2.num < 0)))), .d (.list (W (w32 x12.2.num.natAbs))), .d (.list (W (w32 x12.2.den)))])], fun k => k ≤ l.length, fun k => l.length - k, 0, ?_, Nat.zero_le _, fun k hs => ?_⟩
        · constructor <;> (repeat' (first | exact rfl | exact True.intro | exact ⟨_, _, rfl⟩ | exact (by decide) | apply And.intro))
          all_goals first
            | exact congrArg (fun n : Int => D.v (.int .i64 n)) e1
            | exact congrArg (fun n : Int => D.v (.int .i64 n)) e1.symm
            | exact congrArg (fun n : Int => D.v (.int .i64 n)) (by omega)
            | (simp; done)
        refine ⟨fun e8 => ?_, fun e8 => ?_⟩
        · have f29 : (k : Int) < ((List.map rqP l).length : Int) := of_decide_eq_true e8
          refine get_ex (l := l) (i := k) (by first | omega | exact Nat.mod_lt _ (by omega)) fun x30 hx30 => ?_
          have hwx30 := hcz x30 (List.mem_of_getElem? hx30)
          refine k_ix k [D.v (.bool (decide (x30.1.num < 0))), D.list (W (w32 x30.1.num.natAbs)), D.list (W (w32 x30.1.den)), D.v (.bool (decide (x30.2.num < 0))), D.list (W (w32 x30.2.num.natAbs)), D.list (W (w32 x30.2.den))] (by first | rfl | omega | (rw [wrap64 _ (by omega) (by omega)]; omega)) (map_at hx30) rfl ?_
          refine k_Pcross (p := x12.1) (q := x12.2) (r := x30.1) (u := x30.2) (by omega) (by omega) (by omega) (by omega) (fun ya34 hk_34_1 hk_34_2 => ?_)
          refine k_Sign3 (q := ya34) fun n35 h35 => ?_
          refine ⟨fun e9 => ?_, fun e9 => ?_⟩
          · have f36 : ¬ ya34 = 0 := fun hh => bne_t e9 ((sg0_eq h35).2 hh)
            have e3 : (2 : Int) = rk (prB l i ∨ ∃ b, b < k + 1 ∧ crs l i b ≠ 0) (nzA l (i + 1)) := (rk_p ((or_step (by rw [crs_at hx12 hx30, ← hk_34_1]; exact f36)).2 trivial)).symm
            refine ⟨k + 1, by omega, by simp only; omega, ?_⟩
            constructor <;> (repeat' (first | exact rfl | exact True.intro | apply And.intro))
            all_goals first
              | exact congrArg (fun n : Int => D.v (.int .i64 n)) e3
              | exact congrArg (fun n : Int => D.v (.int .i64 n)) e3.symm
              | exact congrArg (fun n : Int => D.v (.int .i64 n)) (by rw [wrap64 _ (by omega) (by omega)]; omega)
              | exact congrArg (fun n : Int => D.v (.int .i64 n)) (by omega)
          · have f36 : ¬ (¬ ya34 = 0) := fun hh => hh ((sg0_eq h35).1 (bne_f e9))
            have e3 : rk (prB l i ∨ ∃ b, b < k ∧ crs l i b ≠ 0) (nzA l (i + 1)) = rk (prB l i ∨ ∃ b, b < k + 1 ∧ crs l i b ≠ 0) (nzA l (i + 1)) := rk_iff (or_skip (by rw [crs_at hx12 hx30, ← hk_34_1]; exact f36)).symm Iff.rfl
            refine ⟨k + 1, by omega, by simp only; omega, ?_⟩
            constructor <;> (repeat' (first | exact rfl | exact True.intro | apply And.intro))
            all_goals first
              | exact congrArg (fun n : Int => D.v (.int .i64 n)) e3
              | exact congrArg (fun n : Int => D.v (.int .i64 n)) e3.symm
              | exact congrArg (fun n : Int => D.v (.int .i64 n)) (by rw [wrap64 _ (by omega) (by omega)]; omega)
              | exact congrArg (fun n : Int => D.v (.int .i64 n)) (by omega)
        · have f29 : ¬ ((k : Int) < ((List.map rqP l).length : Int)) := of_decide_eq_false e8
          have e2 : rk (prB l i ∨ ∃ b, b < k ∧ crs l i b ≠ 0) (nzA l (i + 1)) = rk (prB l (i + 1)) (nzA l (i + 1)) := rk_iff (by rw [prB_succ, show k = l.length from by omega]) Iff.rfl
          refine ⟨i + 1, by omega, by simp only; omega, ?_⟩
          constructor <;> (repeat' (first | exact rfl | exact True.intro | apply And.intro))
          all_goals first
            | exact congrArg (fun n : Int => D.v (.int .i64 n)) e2
            | exact congrArg (fun n : Int => D.v (.int .i64 n)) e2.symm
            | exact congrArg (fun n : Int => D.v (.int .i64 n)) (by rw [wrap64 _ (by omega) (by omega)]; omega)
            | exact congrArg (fun n : Int => D.v (.int .i64 n)) (by omega)
  · have f11 : ¬ ((i : Int) < ((List.map rqP l).length : Int)) := of_decide_eq_false e1
    refine Eq.trans (b := int (rk (prB l i) (nzA l i))) ?_ rfl
    obtain rfl : i = l.length := by omega
    rw [show rkL l = rk (prB l l.length) (nzA l l.length) from rk_iff (prB_all l).symm Iff.rfl]
theorem k_RRank {l : List (Rat × Rat)} (hcz : pz l) (hn : l.length ≤ 1073741824) (k : ∀ n, n = rkL l → K (int n)) : Ask 44 [.val (.one (.d (.list (List.map rqP l))))] K := use (RRank_spec l hcz hn) rfl (k _ rfl)
end
end Go.Proofs.YtjhoddlhdoiifaaGreatDoor.eng
