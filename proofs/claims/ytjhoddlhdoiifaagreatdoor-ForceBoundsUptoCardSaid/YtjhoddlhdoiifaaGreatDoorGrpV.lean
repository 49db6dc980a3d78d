/- Joined by wip/bundle.py: XBnd0 XBndA XLawSpr. -/
import Derived.Test.YtjhoddlhdoiifaaGreatDoorGrpR
import Derived.Test.YtjhoddlhdoiifaaGreatDoorGrpX
import Derived.Test.YtjhoddlhdoiifaaGreatDoorOpenA
/- Plain law: bounds of the torques of a force: spans that are summed from the last link down. No program. -/
namespace Go.Proofs.YtjhoddlhdoiifaaGreatDoor.eng
open Go.RowKit num mem seg q held ratA ratB ratC ratD ratE vars ratF trq
/-- rows that are filled from the last one down -/
def bdD (f : Nat → List D) (z : List D) (n k : Nat) : List (List D) := (List.range n).map fun i => if n - k ≤ i then f (n - i) else z
theorem bdD_len (f : Nat → List D) (z : List D) (n k : Nat) : (bdD f z n k).length = n := by simp [bdD]
theorem bdD_0 (f : Nat → List D) (z : List D) (n : Nat) : bdD f z n 0 = List.replicate n z := by
  refine List.ext_getElem (by simp [bdD]) fun i h1 h2 => ?_
  rw [bdD_len] at h1
  simp [bdD]
  omega
theorem bdD_set (f : Nat → List D) (z : List D) {n k : Nat} (h : k < n) : bdD f z n (k + 1) = (bdD f z n k).set (n - 1 - k) (f (k + 1)) := by
  refine List.ext_getElem (by simp [bdD]) fun i h1 h2 => ?_
  rw [bdD_len] at h1
  rw [List.getElem_set]
  simp only [bdD, List.getElem_map, List.getElem_range]
  by_cases e : n - 1 - k = i
  · rw [if_pos e, if_pos (by omega), show n - i = k + 1 from by omega]
  · rw [if_neg e]
    by_cases g : n - k ≤ i
    · rw [if_pos g, if_pos (by omega)]
    · rw [if_neg g, if_neg (by omega)]
theorem bdD_all (f : Nat → List D) (z : List D) (n : Nat) : bdD f z n n = (List.range n).map fun i => f (n - i) := by
  simp [bdD]
/-- what a link adds, before its length -/
def ldT (f : LF) (x y : Rat) : Rat × Rat := (mulLo f.cl f.ch y y - mulHi f.sl f.sh x x, mulHi f.cl f.ch y y - mulLo f.sl f.sh x x)
def sumB (A : ArmV) (Q : List (RV × RV)) (x y : Rat) : Nat → Rat × Rat
  | 0 => (((0 : Int) : Rat), ((0 : Int) : Rat))
  | k + 1 => ((sumB A Q x y k).1 + mulLo (lenAt A (A.links.length - 1 - k)) (lenAt A (A.links.length - 1 - k)) (ldT (linkL A Q (A.links.length - 1 - k)) x y).1 (ldT (linkL A Q (A.links.length - 1 - k)) x y).2,
      (sumB A Q x y k).2 + mulHi (lenAt A (A.links.length - 1 - k)) (lenAt A (A.links.length - 1 - k)) (ldT (linkL A Q (A.links.length - 1 - k)) x y).1 (ldT (linkL A Q (A.links.length - 1 - k)) x y).2)
def loadsL (A : ArmV) (Q : List (RV × RV)) (x y : Rat) : List (Rat × Rat) := (List.range A.links.length).map fun i => sumB A Q x y (A.links.length - i)
theorem loadsL_len (A : ArmV) (Q : List (RV × RV)) (x y : Rat) : (loadsL A Q x y).length = A.links.length := by simp [loadsL]
theorem loadsL_at {A : ArmV} {Q : List (RV × RV)} {x y : Rat} {i : Nat} {s : Rat × Rat} (h : (loadsL A Q x y)[i]? = some s) : s = sumB A Q x y (A.links.length - i) ∧ i < A.links.length := by
  have hi := (List.getElem?_eq_some_iff.1 h).1
  rw [loadsL_len] at hi
  simp [loadsL, hi] at h
  exact ⟨h.symm, hi⟩
theorem bdD_loads (g : Rat × Rat → List D) (z : List D) (A : ArmV) (Q : List (RV × RV)) (x y : Rat) : bdD (fun m => g (sumB A Q x y m)) z A.links.length A.links.length = List.map g (loadsL A Q x y) := by
  rw [bdD_all, loadsL, List.map_map]; rfl
theorem mul_sle {a b c d : Rat} (h1 : sle a b) (h2 : sle c d) : sle (mulLo a b c d) (mulHi a b c d) := Rat.le_trans (mul_in Rat.le_refl h1 Rat.le_refl h2).1 (mul_in Rat.le_refl h1 Rat.le_refl h2).2
theorem ldT_sle {f : LF} (hf : f.le) (x y : Rat) : sle (ldT f x y).1 (ldT f x y).2 := by
  have h1 := mul_sle hf.2.2.1 (Rat.le_refl (a := y))
  have h2 := mul_sle hf.2.2.2 (Rat.le_refl (a := x))
  unfold ldT sle at *
  simp only
  grind
theorem sumB_sle (A : ArmV) (Q : List (RV × RV)) (x y : Rat) : ∀ k, sle (sumB A Q x y k).1 (sumB A Q x y k).2
  | 0 => Rat.le_refl
  | k + 1 => by
    have h1 := sumB_sle A Q x y k
    have h2 := mul_sle (Rat.le_refl (a := lenAt A (A.links.length - 1 - k))) (ldT_sle (LF.has_le (linkL_has A Q (A.links.length - 1 - k))) x y)
    unfold sle at *
    show _ + _ ≤ _ + _
    grind
theorem ldT_z {f : LF} (hf : f.zc 3) {x y : Rat} {B : Nat} (hx : qs x ≤ B) (hy : qs y ≤ B) : qs (ldT f x y).1 ≤ 2 * B + 7 ∧ qs (ldT f x y).2 ≤ 2 * B + 7 := by
  obtain ⟨m1, m2⟩ := mul_z3 hf.1.1 hf.1.2 hy hy
  obtain ⟨m3, m4⟩ := mul_z3 hf.2.1 hf.2.2 hx hx
  have := qs_sub (mulLo f.cl f.ch y y) (mulHi f.sl f.sh x x)
  have := qs_sub (mulHi f.cl f.ch y y) (mulLo f.sl f.sh x x)
  exact ⟨by show qs (mulLo f.cl f.ch y y - mulHi f.sl f.sh x x) ≤ _; omega, by show qs (mulHi f.cl f.ch y y - mulLo f.sl f.sh x x) ≤ _; omega⟩
theorem sumB_z {A : ArmV} (hA : armE A = 0) (Q : List (RV × RV)) {x y : Rat} {B : Nat} (hx : qs x ≤ B) (hy : qs y ≤ B) : ∀ k, qs (sumB A Q x y k).1 ≤ k * (2 * B + 12) + 8 ∧ qs (sumB A Q x y k).2 ≤ k * (2 * B + 12) + 8
  | 0 => ⟨by show qs ((0 : Int) : Rat) ≤ _; have := qs_0; omega, by show qs ((0 : Int) : Rat) ≤ _; have := qs_0; omega⟩
  | k + 1 => by
    obtain ⟨h1, h2⟩ := sumB_z hA Q hx hy k
    obtain ⟨t1, t2⟩ := ldT_z (linkL_zc A Q (A.links.length - 1 - k)) hx hy
    have hl := lenAt_z hA (A.links.length - 1 - k)
    obtain ⟨m1, m2⟩ := mul_z3 hl hl t1 t2
    have a1 := qs_add (sumB A Q x y k).1 (mulLo (lenAt A (A.links.length - 1 - k)) (lenAt A (A.links.length - 1 - k)) (ldT (linkL A Q (A.links.length - 1 - k)) x y).1 (ldT (linkL A Q (A.links.length - 1 - k)) x y).2)
    have a2 := qs_add (sumB A Q x y k).2 (mulHi (lenAt A (A.links.length - 1 - k)) (lenAt A (A.links.length - 1 - k)) (ldT (linkL A Q (A.links.length - 1 - k)) x y).1 (ldT (linkL A Q (A.links.length - 1 - k)) x y).2)
    have e : (k + 1) * (2 * B + 12) = k * (2 * B + 12) + (2 * B + 12) := Nat.succ_mul _ _
    exact ⟨by show qs (_ + _) ≤ _; rw [e]; omega, by show qs (_ + _) ≤ _; rw [e]; omega⟩
theorem sumB_z3 {A : ArmV} (hA : armE A = 0) (Q : List (RV × RV)) {x y : Rat} (hx : qs x ≤ 1048577) (hy : qs y ≤ 1048577) {k : Nat} (hk : k ≤ 3) : qs (sumB A Q x y k).1 ≤ 8388608 ∧ qs (sumB A Q x y k).2 ≤ 8388608 := by
  obtain ⟨h1, h2⟩ := sumB_z hA Q hx hy k
  have := Nat.mul_le_mul_right (2 * 1048577 + 12) hk
  omega
/-- the torques are within limits -/
def sAt (L : List (Rat × Rat)) (i : Nat) : Rat × Rat := (L[i]?).getD (0, 0)
theorem sAt_is {L : List (Rat × Rat)} {i : Nat} {s : Rat × Rat} (h : L[i]? = some s) : sAt L i = s := by simp [sAt, h]
def okB (L : List (Rat × Rat)) (R : List RV) : Nat → Bool
  | 0 => true
  | i + 1 => okB L R i && decide ((sAt L i).2 ≤ qAt R i) && decide (-(sAt L i).1 ≤ qAt R i)
theorem okB_no {L : List (Rat × Rat)} {R : List RV} {i : Nat} (h : okB L R i = false) : ∀ {n}, i ≤ n → okB L R n = false
  | 0, hn => by obtain rfl : i = 0 := by omega
                exact h
  | n + 1, hn => by
    by_cases e : i = n + 1
    · subst e; exact h
    · unfold okB; rw [okB_no h (n := n) (by omega)]; rfl
theorem okB_t {L : List (Rat × Rat)} {R : List RV} {i : Nat} (h : okB L R i = true) (h1 : (sAt L i).2 ≤ qAt R i) (h2 : -(sAt L i).1 ≤ qAt R i) : okB L R (i + 1) = true := by
  unfold okB; rw [h, decide_eq_true h1, decide_eq_true h2]; rfl
theorem okB_f1 {L : List (Rat × Rat)} {R : List RV} {i : Nat} (h1 : ¬ (sAt L i).2 ≤ qAt R i) : okB L R (i + 1) = false := by
  unfold okB; rw [decide_eq_false h1]; simp
theorem okB_f2 {L : List (Rat × Rat)} {R : List RV} {i : Nat} (h2 : ¬ -(sAt L i).1 ≤ qAt R i) : okB L R (i + 1) = false := by
  unfold okB; rw [decide_eq_false h2]; simp
theorem okB_f0 {L : List (Rat × Rat)} {R : List RV} {i : Nat} (h : okB L R i = false) : okB L R (i + 1) = false := okB_no h (by omega)
open Classical in
noncomputable def loadsV (A : ArmV) (Q : List (RV × RV)) (x y : Rat) : List (Rat × Rat) := if hasE A (Q.length : Int) = 0 then loadsL A Q x y else []
theorem loadsV_ok {A : ArmV} {Q : List (RV × RV)} {x y : Rat} (h : hasE A (Q.length : Int) = 0) : loadsV A Q x y = loadsL A Q x y := if_pos h
theorem loadsV_no {A : ArmV} {Q : List (RV × RV)} {x y : Rat} (h : ¬ hasE A (Q.length : Int) = 0) : loadsV A Q x y = [] := if_neg h
noncomputable def hldE (A : ArmV) (Q : List (RV × RV)) (R : List RV) : Int := if hasE A (Q.length : Int) = 0 then (if R.length = A.links.length then 0 else 1) else hasE A (Q.length : Int)
open Classical in
noncomputable def hldB (A : ArmV) (Q : List (RV × RV)) (x y : Rat) (R : List RV) : Bool := if hasE A (Q.length : Int) = 0 ∧ R.length = A.links.length then okB (loadsL A Q x y) R A.links.length else false
theorem hldE_2 {A : ArmV} {Q : List (RV × RV)} {R : List RV} (h : ¬ hasE A (Q.length : Int) = 0) : hldE A Q R = hasE A (Q.length : Int) := if_neg h
theorem hldE_1 {A : ArmV} {Q : List (RV × RV)} {R : List RV} (h : hasE A (Q.length : Int) = 0) (g : ¬ R.length = A.links.length) : hldE A Q R = 1 := by unfold hldE; rw [if_pos h, if_neg g]
theorem hldE_0 {A : ArmV} {Q : List (RV × RV)} {R : List RV} (h : hasE A (Q.length : Int) = 0) (g : R.length = A.links.length) : hldE A Q R = 0 := by unfold hldE; rw [if_pos h, if_pos g]
theorem hldB_ok {A : ArmV} {Q : List (RV × RV)} {x y : Rat} {R : List RV} (h : hasE A (Q.length : Int) = 0) (g : R.length = A.links.length) : hldB A Q x y R = okB (loadsL A Q x y) R A.links.length := if_pos ⟨h, g⟩
theorem hldB_no {A : ArmV} {Q : List (RV × RV)} {x y : Rat} {R : List RV} (h : ¬ (hasE A (Q.length : Int) = 0 ∧ R.length = A.links.length)) : hldB A Q x y R = false := if_neg h
/-- a row of gantref3's spans that is made -/
def zS : List D := [D.v (.bool false), D.v (.slice none 0 0), D.v (.slice none 0 0), D.v (.bool false), D.v (.slice none 0 0), D.v (.slice none 0 0)]
end Go.Proofs.YtjhoddlhdoiifaaGreatDoor.eng

/- Contracts: bounds of torques: package force, gantref3. Printed by wip/gp_bound.py. -/
namespace Go.Proofs.YtjhoddlhdoiifaaGreatDoor.eng
open Go.RowKit num mem seg q held ratA ratB ratC ratD ratE vars ratF trq
section
variable {K : AV → Prop}
set_option maxHeartbeats 4000000 in
set_option maxRecDepth 100000 in
theorem Bounds_spec (A : ArmV) (Q : List (RV × RV)) (x y : RV) (hA : A.ok) (hQ : ∀ p, p ∈ Q → p.1.z ≤ 1048576 ∧ p.2.z ≤ 1048576) (hx : x.z ≤ 1048576) (hy : y.z ≤ 1048576) : Spec Tryz.prog Tab 51 [.val (.agg [.d (.v (.string A.name)), .d (.v (.bool A.bx.s)), .d (.v (.string A.bx.a)), .d (.v (.string A.bx.d)), .d (.v (.bool A.by'.s)), .d (.v (.string A.by'.a)), .d (.v (.string A.by'.d)), .d (.v (.bool (A.bh))), .d (.v (.bool A.bt.s)), .d (.v (.string A.bt.a)), .d (.v (.string A.bt.d)), .d (.list (List.map lk A.links))]), .val (.one (.d (.list (List.map rdv Q)))), pair x y] (.tup [.one (.d (.list (List.map rvS (loadsV A Q x.q y.q)))), .one (.d (.v (.int .i64 (hasE A (Q.length : Int)))))]) := by
  have hA2 := hA
  obtain ⟨z1, z2, z3, z4, z5, z6⟩ := hA
  have hL : (List.map lk A.links).length = A.links.length := List.length_map ..
  have hLq : (List.map rdv Q).length = Q.length := List.length_map ..
  have hx1 := x.z1
  have hy1 := y.z1
  refine fn_spec Tryz.func51 rfl rfl Tryz.ntmps51 rfl (by kernel_rfl) rfl rfl ?_
  refine k_Spread (A := A) (Q := Q) (by assumption) (by assumption) fun n19 hk_19_1 => ?_
  refine ⟨fun e1 => ?_, fun e1 => ?_⟩
  · have f23 : n19 ≠ 0 := bne_t e1
    refine Eq.trans (b := .tup [.one (.d (.list ([]))), .one (.d (.v (.int .i64 (n19))))]) ?_ rfl
    rw [loadsV_no (by rw [← hk_19_1]; exact f23), ← hk_19_1]
    all_goals rfl
  · have f23 : ¬ (n19 ≠ 0) := fun hh => hh (bne_f e1)
    have h0 : hasE A (Q.length : Int) = 0 := by rw [← hk_19_1]; exact Classical.not_not.1 f23
    obtain ⟨hA0, hlen0⟩ := hasE_ok.1 h0
    have hlen : Q.length = A.links.length := by omega
    obtain ⟨hn3, hnz, _⟩ := armE_ok hA0
    have hn0 : 0 < A.links.length := List.length_pos_iff.2 hnz
    refine k_sOf (x := x) (by omega) (fun q27 hk_27_1 hk_27_2 => ?_)
    simp only [cn_z] at hk_27_2
    have sl27 : sle q27 q27 := Rat.le_refl
    refine k_sOf (x := y) (by omega) (fun q30 hk_30_1 hk_30_2 => ?_)
    simp only [cn_z] at hk_30_2
    have sl30 : sle q30 q30 := Rat.le_refl
    refine ⟨by kernel_rfl, ?_⟩
    refine k_of (0) (by omega) (by omega) fun q31 h31 z31 => ?_
    simp only [cn_z] at z31
    refine k_sOf (x := cn q31) (by simp only [cn_z]; omega) (fun q32 hk_32_1 hk_32_2 => ?_)
    try simp only [cn_q] at hk_32_1
    simp only [cn_z] at hk_32_2
    refine ⟨⟨by omega, rfl, (by show (((List.map lk A.links).length : Int)) * 80 ≤ _; omega), by omega⟩, ?_⟩
    have b32 : q32 = (sumB A Q x.q y.q 0).1 := hk_32_1.trans h31
    have hrep : List.replicate (((List.map lk A.links).length : Int)).toNat (rdv (z0, z0)) = bdD (fun m => rvS (sumB A Q x.q y.q m)) (rdv (z0, z0)) A.links.length 0 := by rw [bdD_0, Int.toNat_natCast, hL]
    refine ⟨Nat, fun k => [(3, .val (.one (.ptr 3 0))), (8, .val (.one (.d (.list (List.map rdL (spreadV A Q)))))), (10, .val (.one (.ptr 10 0))), (11, .val (.one (.ptr 11 0))), (12, .val (.one (.ptr 12 0))), (13, .val (.one (.row 36 0))), (14, int ((A.links.length : Int) - 1 - (k : Int)))],
      fun k => [(3, .var 32 [.d (.v (.string A.name)), .d (.v (.bool A.bx.s)), .d (.v (.string A.bx.a)), .d (.v (.string A.bx.d)), .d (.v (.bool A.by'.s)), .d (.v (.string A.by'.a)), .d (.v (.string A.by'.d)), .d (.v (.bool (A.bh))), .d (.v (.bool A.bt.s)), .d (.v (.string A.bt.a)), .d (.v (.string A.bt.d)), .d (.list (List.map lk A.links))]), (10, .var 74 [.d (.v (.bool (cn q27).s)), .d (.v (.string (cn q27).a)), .d (.v (.string (cn q27).d)), .d (.v (.bool (cn q27).s)), .d (.v (.string (cn q27).a)), .d (.v (.string (cn q27).d))]), (11, .var 74 [.d (.v (.bool (cn q30).s)), .d (.v (.string (cn q30).a)), .d (.v (.string (cn q30).d)), .d (.v (.bool (cn q30).s)), .d (.v (.string (cn q30).a)), .d (.v (.string (cn q30).d))]), (12, .var 74 [.d (.v (.bool (cn (sumB A Q x.q y.q k).1).s)), .d (.v (.string (cn (sumB A Q x.q y.q k).1).a)), .d (.v (.string (cn (sumB A Q x.q y.q k).1).d)), .d (.v (.bool (cn (sumB A Q x.q y.q k).2).s)), .d (.v (.string (cn (sumB A Q x.q y.q k).2).a)), .d (.v (.string (cn (sumB A Q x.q y.q k).2).d))]), (36, .row 74 6 0 (bdD (fun m => rvS (sumB A Q x.q y.q m)) (rdv (z0, z0)) A.links.length k) true)], fun k => k ≤ A.links.length, fun k => A.links.length - k, 0, ?_, Nat.zero_le _, fun k hs => ?_⟩
    · constructor <;> (repeat' (first | exact rfl | exact True.intro | exact ⟨_, _, rfl⟩ | exact (by decide) | apply And.intro))
      all_goals first
        | exact hrep
        | exact hrep.symm
        | exact congrArg (fun q : Rat => D.v (.bool (cn q).s)) b32
        | exact congrArg (fun q : Rat => D.v (.bool (cn q).s)) b32.symm
        | exact congrArg (fun q : Rat => D.v (.string (cn q).a)) b32
        | exact congrArg (fun q : Rat => D.v (.string (cn q).a)) b32.symm
        | exact congrArg (fun q : Rat => D.v (.string (cn q).d)) b32
        | exact congrArg (fun q : Rat => D.v (.string (cn q).d)) b32.symm
        | exact congrArg (fun n : Int => D.v (.int .i64 n)) (by rw [wrap64 _ (by omega) (by omega)]; omega)
        | exact congrArg (fun n : Int => D.v (.int .i64 n)) (by omega)
        | (simp; done)
    refine ⟨fun e2 => ?_, fun e2 => ?_⟩
    · have f42 : ((A.links.length : Int) - 1 - (k : Int)) ≥ 0 := of_decide_eq_true e2
      have hkn : k < A.links.length := by have := f42; omega
      obtain ⟨hb1, hb2⟩ := sumB_z3 hA0 Q (x := x.q) (y := y.q) (by omega) (by omega) (k := k) (by omega)
      have hbs := sumB_sle A Q x.q y.q k
      have hlz := lenAt_z hA0 (A.links.length - 1 - k)
      refine get_ex (l := (spreadV A Q)) (i := (A.links.length - 1 - k)) (by rw [spreadV_ok h0, spreadL_len]; omega) fun x47 hx47 => ?_
      have hex47 : x47 = linkL A Q (A.links.length - 1 - k) := by
        rcases spreadL_at (show (spreadL A Q)[(A.links.length - 1 - k)]? = some x47 from by rw [← spreadV_ok h0]; exact hx47) with ⟨_, e⟩ | ⟨e, _⟩
        · exact e
        · omega
      obtain ⟨⟨zc1x47, zc2x47⟩, zc3x47, zc4x47⟩ := linkL_zc A Q (A.links.length - 1 - k)
      rw [← hex47] at zc1x47 zc2x47 zc3x47 zc4x47
      obtain ⟨_, _, lcx47, lsx47⟩ := LF.has_le (linkL_has A Q (A.links.length - 1 - k))
      rw [← hex47] at lcx47 lsx47
      refine k_ix (A.links.length - 1 - k) [D.v (.bool (cn x47.xl).s), D.v (.string (cn x47.xl).a), D.v (.string (cn x47.xl).d), D.v (.bool (cn x47.xh).s), D.v (.string (cn x47.xh).a), D.v (.string (cn x47.xh).d), D.v (.bool (cn x47.yl).s), D.v (.string (cn x47.yl).a), D.v (.string (cn x47.yl).d), D.v (.bool (cn x47.yh).s), D.v (.string (cn x47.yh).a), D.v (.string (cn x47.yh).d), D.v (.bool (cn x47.cl).s), D.v (.string (cn x47.cl).a), D.v (.string (cn x47.cl).d), D.v (.bool (cn x47.ch).s), D.v (.string (cn x47.ch).a), D.v (.string (cn x47.ch).d), D.v (.bool (cn x47.sl).s), D.v (.string (cn x47.sl).a), D.v (.string (cn x47.sl).d), D.v (.bool (cn x47.sh).s), D.v (.string (cn x47.sh).a), D.v (.string (cn x47.sh).d)] (by first | rfl | omega | (rw [wrap64 _ (by omega) (by omega)]; omega)) (map_at hx47) rfl ?_
      refine k_oMul (p := x47.cl) (q := x47.ch) (r := q30) (u := q30) (by assumption) (by assumption) (by omega) (by omega) (by omega) (by omega) (fun ya51 yb51 hk_51_2 hk_51_3 hk_51_4 hk_51_5 hk_51_6 => ?_)
      refine k_ix (A.links.length - 1 - k) [D.v (.bool (cn x47.xl).s), D.v (.string (cn x47.xl).a), D.v (.string (cn x47.xl).d), D.v (.bool (cn x47.xh).s), D.v (.string (cn x47.xh).a), D.v (.string (cn x47.xh).d), D.v (.bool (cn x47.yl).s), D.v (.string (cn x47.yl).a), D.v (.string (cn x47.yl).d), D.v (.bool (cn x47.yh).s), D.v (.string (cn x47.yh).a), D.v (.string (cn x47.yh).d), D.v (.bool (cn x47.cl).s), D.v (.string (cn x47.cl).a), D.v (.string (cn x47.cl).d), D.v (.bool (cn x47.ch).s), D.v (.string (cn x47.ch).a), D.v (.string (cn x47.ch).d), D.v (.bool (cn x47.sl).s), D.v (.string (cn x47.sl).a), D.v (.string (cn x47.sl).d), D.v (.bool (cn x47.sh).s), D.v (.string (cn x47.sh).a), D.v (.string (cn x47.sh).d)] (by first | rfl | omega | (rw [wrap64 _ (by omega) (by omega)]; omega)) (map_at hx47) rfl ?_
      refine k_oMul (p := x47.sl) (q := x47.sh) (r := q27) (u := q27) (by assumption) (by assumption) (by omega) (by omega) (by omega) (by omega) (fun ya58 yb58 hk_58_2 hk_58_3 hk_58_4 hk_58_5 hk_58_6 => ?_)
      refine k_oSub (p := ya51) (q := yb51) (r := ya58) (u := yb58) (by assumption) (by assumption) (by omega) (by omega) (by omega) (by omega) (fun ya59 yb59 hk_59_2 hk_59_3 hk_59_4 hk_59_5 hk_59_6 => ?_)
      refine ⟨by kernel_rfl, ?_⟩
      refine get_ex (l := A.links) (i := (A.links.length - 1 - k)) (by first | omega | exact Nat.mod_lt _ (by omega)) fun x64 hx64 => ?_
      obtain ⟨hs1, hs2, hs3, hs4, hs5, hs6, hs7⟩ := z6 x64 (List.mem_of_getElem? hx64)
      have hlx64 := lenAt_is hx64
      have hsmx64 := smallP_z (link_small hA0 (List.mem_of_getElem? hx64)).1
      refine k_ix (A.links.length - 1 - k) [D.v (.bool x64.len.s), D.v (.string x64.len.a), D.v (.string x64.len.d), D.v (.bool x64.low.s), D.v (.string x64.low.a), D.v (.string x64.low.d), D.v (.bool x64.high.s), D.v (.string x64.high.a), D.v (.string x64.high.d), D.v (.bool x64.speed.s), D.v (.string x64.speed.a), D.v (.string x64.speed.d), D.v (.bool x64.brake.s), D.v (.string x64.brake.a), D.v (.string x64.brake.d), D.list (List.map rdv x64.shape)] (by first | rfl | omega | (rw [wrap64 _ (by omega) (by omega)]; omega)) (map_at hx64) rfl ?_
      refine k_sOf (x := x64.len) (by omega) (fun q67 hk_67_1 hk_67_2 => ?_)
      simp only [cn_z] at hk_67_2
      have sl67 : sle q67 q67 := Rat.le_refl
      refine k_oMul (p := q67) (q := q67) (r := ya59) (u := yb59) (by assumption) (by assumption) (by omega) (by omega) (by omega) (by omega) (fun ya69 yb69 hk_69_2 hk_69_3 hk_69_4 hk_69_5 hk_69_6 => ?_)
      refine k_oAdd (p := (sumB A Q x.q y.q k).1) (q := (sumB A Q x.q y.q k).2) (r := ya69) (u := yb69) (by assumption) (by assumption) (by omega) (by omega) (by omega) (by omega) (fun ya70 yb70 hk_70_2 hk_70_3 hk_70_4 hk_70_5 hk_70_6 => ?_)
      refine ⟨by kernel_rfl, ?_⟩
      refine k_at_own' (A.links.length - 1 - k) (by first | rfl | omega | (rw [wrap64 _ (by omega) (by omega)]; omega)) (by rw [bdD_len]; omega) ?_
      refine ⟨by rw [bdD_len]; omega, ?_⟩
      have et1 : ya59 = (ldT (linkL A Q (A.links.length - 1 - k)) x.q y.q).1 := by rw [hk_59_2, hk_51_2, hk_58_3, hk_30_1, hk_27_1, hex47]; rfl
      have et2 : yb59 = (ldT (linkL A Q (A.links.length - 1 - k)) x.q y.q).2 := by rw [hk_59_3, hk_51_3, hk_58_2, hk_30_1, hk_27_1, hex47]; rfl
      have es1 : ya70 = (sumB A Q x.q y.q (k + 1)).1 := by rw [hk_70_2, hk_69_2, hk_67_1, ← hlx64, et1, et2]; rfl
      have es2 : yb70 = (sumB A Q x.q y.q (k + 1)).2 := by rw [hk_70_3, hk_69_3, hk_67_1, ← hlx64, et1, et2]; rfl
      subst es1 es2
      refine ⟨k + 1, by omega, by simp only; omega, ?_⟩
      constructor <;> (repeat' (first | exact rfl | exact True.intro | apply And.intro))
      all_goals first
        | (rw [bdD_set _ _ hkn]; rfl)
        | exact congrArg (fun n : Int => D.v (.int .i64 n)) (by rw [wrap64 _ (by omega) (by omega)]; omega)
        | exact congrArg (fun n : Int => D.v (.int .i64 n)) (by omega)
    · have f42 : ¬ (((A.links.length : Int) - 1 - (k : Int)) ≥ 0) := of_decide_eq_false e2
      refine Eq.trans (b := .tup [.one (.d (.list (bdD (fun m => rvS (sumB A Q x.q y.q m)) (rdv (z0, z0)) A.links.length k))), .one (.d (.v (.int .i64 (0))))]) ?_ rfl
      obtain rfl : k = A.links.length := by omega
      rw [loadsV_ok h0, h0, bdD_loads]
      all_goals rfl
theorem k_Bounds {A : ArmV} {Q : List (RV × RV)} {x y : RV} (hA : A.ok) (hQ : ∀ p, p ∈ Q → p.1.z ≤ 1048576 ∧ p.2.z ≤ 1048576) (hx : x.z ≤ 1048576) (hy : y.z ≤ 1048576) (k : ∀ n, n = hasE A (Q.length : Int) → K (.tup [.one (.d (.list (List.map rvS (loadsV A Q x.q y.q)))), .one (.d (.v (.int .i64 n)))])) : Ask 51 [.val (.agg [.d (.v (.string A.name)), .d (.v (.bool A.bx.s)), .d (.v (.string A.bx.a)), .d (.v (.string A.bx.d)), .d (.v (.bool A.by'.s)), .d (.v (.string A.by'.a)), .d (.v (.string A.by'.d)), .d (.v (.bool (A.bh))), .d (.v (.bool A.bt.s)), .d (.v (.string A.bt.a)), .d (.v (.string A.bt.d)), .d (.list (List.map lk A.links))]), .val (.one (.d (.list (List.map rdv Q)))), pair x y] K := use (Bounds_spec A Q x y hA hQ hx hy) rfl (k _ rfl)
set_option maxHeartbeats 4000000 in
set_option maxRecDepth 100000 in
theorem Holds_spec (A : ArmV) (Q : List (RV × RV)) (R : List RV) (x y : RV) (hA : A.ok) (hQ : ∀ p, p ∈ Q → p.1.z ≤ 1048576 ∧ p.2.z ≤ 1048576) (hx : x.z ≤ 1048576) (hy : y.z ≤ 1048576) (hR : ∀ r, r ∈ R → r.z ≤ 1048576) : Spec Tryz.prog Tab 52 [.val (.agg [.d (.v (.string A.name)), .d (.v (.bool A.bx.s)), .d (.v (.string A.bx.a)), .d (.v (.string A.bx.d)), .d (.v (.bool A.by'.s)), .d (.v (.string A.by'.a)), .d (.v (.string A.by'.d)), .d (.v (.bool (A.bh))), .d (.v (.bool A.bt.s)), .d (.v (.string A.bt.a)), .d (.v (.string A.bt.d)), .d (.list (List.map lk A.links))]), .val (.one (.d (.list (List.map rdv Q)))), pair x y, .val (.one (.d (.list (List.map rd R))))] (.tup [.one (.d (.v (.bool (hldB A Q x.q y.q R)))), .one (.d (.v (.int .i64 (hldE A Q R))))]) := by
  have hA2 := hA
  obtain ⟨z1, z2, z3, z4, z5, z6⟩ := hA
  have hL : (List.map lk A.links).length = A.links.length := List.length_map ..
  have hLq : (List.map rdv Q).length = Q.length := List.length_map ..
  have hx1 := x.z1
  have hy1 := y.z1
  have hLr : (List.map rd R).length = R.length := List.length_map ..
  refine fn_spec Tryz.func52 rfl rfl Tryz.ntmps52 rfl (by kernel_rfl) rfl rfl ?_
  refine k_Bounds (A := A) (Q := Q) (x := x) (y := y) (by assumption) (by assumption) (by omega) (by omega) fun n18 hk_18_1 => ?_
  refine fork (fun e1 => ?_) (fun e1 => ?_)
  · have f23 : n18 = 0 := beq_t e1
    refine ⟨fun e2 => ?_, fun e2 => ?_⟩
    · have f29 : ((List.map rd R).length : Int) ≠ ((List.map rvS (loadsV A Q x.q y.q)).length : Int) := bne_t e2
      have h0 : hasE A (Q.length : Int) = 0 := by rw [← hk_18_1]; exact f23
      obtain ⟨hA0, hlen0⟩ := hasE_ok.1 h0
      have hlen : Q.length = A.links.length := by omega
      obtain ⟨hn3, hnz, _⟩ := armE_ok hA0
      have hLl : (List.map rvS (loadsV A Q x.q y.q)).length = A.links.length := by rw [List.length_map, loadsV_ok h0, loadsL_len]
      have hLw : (loadsV A Q x.q y.q).length = A.links.length := by rw [loadsV_ok h0, loadsL_len]
      have hRl : ¬ R.length = A.links.length := by omega
      refine ⟨fun _ => ?_, fun e => absurd e (by decide)⟩
      refine Eq.trans (b := .tup [.one (.d (.v (.bool (false)))), .one (.d (.v (.int .i64 (1))))]) ?_ rfl
      rw [hldB_no fun g => hRl g.2, hldE_1 h0 hRl]
      all_goals rfl
    · have f29 : ¬ (((List.map rd R).length : Int) ≠ ((List.map rvS (loadsV A Q x.q y.q)).length : Int)) := fun hh => hh (bne_f e2)
      refine ⟨fun e3 => ?_, fun e3 => ?_⟩
      · have f31 : n18 ≠ 0 := bne_t e3
        exfalso
        exact f31 f23
      · have f31 : ¬ (n18 ≠ 0) := fun hh => hh (bne_f e3)
        have h0 : hasE A (Q.length : Int) = 0 := by rw [← hk_18_1]; exact f23
        obtain ⟨hA0, hlen0⟩ := hasE_ok.1 h0
        have hlen : Q.length = A.links.length := by omega
        obtain ⟨hn3, hnz, _⟩ := armE_ok hA0
        have hLl : (List.map rvS (loadsV A Q x.q y.q)).length = A.links.length := by rw [List.length_map, loadsV_ok h0, loadsL_len]
        have hLw : (loadsV A Q x.q y.q).length = A.links.length := by rw [loadsV_ok h0, loadsL_len]
        have hRl : R.length = A.links.length := by omega
        refine ⟨Nat, fun i => [(3, .val (.one (.d (.list (List.map rd R))))), (33, .val (.one (.d (.list (List.map rvS (loadsV A Q x.q y.q)))))), (34, int ((List.map rvS (loadsV A Q x.q y.q)).length : Int)), (35, int (i : Int))],
          fun i => [], fun i => i ≤ A.links.length ∧ okB (loadsL A Q x.q y.q) R i = true, fun i => A.links.length - i, 0, ?_, ⟨Nat.zero_le _, rfl⟩, fun i hs => ?_⟩
        · constructor <;> (repeat' (first | exact rfl | exact True.intro | exact ⟨_, _, rfl⟩ | exact (by decide) | apply And.intro))
          all_goals first | exact congrArg (fun n : Int => D.v (.int .i64 n)) (by omega) | exact congrArg (fun n : Int => D.v (.int .i64 n)) (by rw [wrap64 _ (by omega) (by omega)]; omega) | (simp; done)
        obtain ⟨g1, g2⟩ := hs
        refine ⟨fun e4 => ?_, fun e4 => ?_⟩
        · have f36 : (i : Int) < ((List.map rvS (loadsV A Q x.q y.q)).length : Int) := of_decide_eq_true e4
          refine get_ex (l := (loadsV A Q x.q y.q)) (i := i) (by first | omega | exact Nat.mod_lt _ (by omega)) fun x38 hx38 => ?_
          have hxL : (loadsL A Q x.q y.q)[i]? = some x38 := by rw [← loadsV_ok h0]; exact hx38
          obtain ⟨hxs, _⟩ := loadsL_at hxL
          obtain ⟨hb1, hb2⟩ := sumB_z3 hA0 Q (x := x.q) (y := y.q) (by omega) (by omega) (k := A.links.length - i) (by omega)
          rw [← hxs] at hb1 hb2
          refine k_ix i [D.v (.bool (cn x38.1).s), D.v (.string (cn x38.1).a), D.v (.string (cn x38.1).d), D.v (.bool (cn x38.2).s), D.v (.string (cn x38.2).a), D.v (.string (cn x38.2).d)] (by first | rfl | omega | (rw [wrap64 _ (by omega) (by omega)]; omega)) (map_at hx38) rfl ?_
          refine get_ex (l := R) (i := i) (by first | omega | exact Nat.mod_lt _ (by omega)) fun x44 hx44 => ?_
          have hzx44 := hR x44 (List.mem_of_getElem? hx44)
          have hxR := hx44
          refine k_ix i [D.v (.bool x44.s), D.v (.string x44.a), D.v (.string x44.d)] (by first | rfl | omega | (rw [wrap64 _ (by omega) (by omega)]; omega)) (map_at hx44) rfl ?_
          refine k_cmp (x := cn x38.2) (y := x44) (by simp only [cn_z]; omega) (by omega) fun n46 h46 => ?_
          simp only [cn_q] at h46
          refine fork (fun e5 => ?_) (fun e5 => ?_)
          · have f48 : x44.q < x38.2 := (cq_gt h46).1 (of_decide_eq_true e5)
            refine ⟨by kernel_rfl, ?_⟩
            refine ⟨fun _ => ?_, fun e => absurd e (by decide)⟩
            refine Eq.trans (b := .tup [.one (.d (.v (.bool (false)))), .one (.d (.v (.int .i64 (0))))]) ?_ rfl
            have hok : okB (loadsL A Q x.q y.q) R A.links.length = false := okB_no (i := i + 1) (okB_f1 (by rw [sAt_is hxL, qAt_is hxR]; exact Rat.not_le.2 f48)) (by omega)
            rw [hldB_ok h0 hRl, hok, hldE_0 h0 hRl]
            all_goals rfl
          · have f48 : ¬ (x44.q < x38.2) := fun hh => of_decide_eq_false e5 ((cq_gt h46).2 hh)
            refine k_neg (x := cn x38.1) (by simp only [cn_z]; omega) fun q51 h51 z51 => ?_
            simp only [cn_z] at z51
            simp only [cn_q] at h51
            refine k_ix i [D.v (.bool x44.s), D.v (.string x44.a), D.v (.string x44.d)] (by first | rfl | omega | (rw [wrap64 _ (by omega) (by omega)]; omega)) (map_at hx44) rfl ?_
            refine k_cmp (x := cn q51) (y := x44) (by simp only [cn_z]; omega) (by omega) fun n56 h56 => ?_
            simp only [cn_q] at h56
            refine ⟨by kernel_rfl, ?_⟩
            refine ⟨fun e6 => ?_, fun e6 => ?_⟩
            · have f58 : x44.q < q51 := (cq_gt h56).1 (of_decide_eq_true e6)
              refine Eq.trans (b := .tup [.one (.d (.v (.bool (false)))), .one (.d (.v (.int .i64 (0))))]) ?_ rfl
              have hok : okB (loadsL A Q x.q y.q) R A.links.length = false := okB_no (i := i + 1) (okB_f2 (by rw [sAt_is hxL, qAt_is hxR, ← h51]; exact Rat.not_le.2 f58)) (by omega)
              rw [hldB_ok h0 hRl, hok, hldE_0 h0 hRl]
              all_goals rfl
            · have f58 : ¬ (x44.q < q51) := fun hh => of_decide_eq_false e6 ((cq_gt h56).2 hh)
              refine ⟨i + 1, ⟨by omega, okB_t g2 (by rw [sAt_is hxL, qAt_is hxR]; exact Rat.not_lt.1 f48) (by rw [sAt_is hxL, qAt_is hxR, ← h51]; exact Rat.not_lt.1 f58)⟩, by simp only; omega, ?_⟩
              constructor <;> (repeat' (first | exact rfl | exact True.intro | apply And.intro))
              all_goals first
                | exact congrArg (fun n : Int => D.v (.int .i64 n)) (by rw [wrap64 _ (by omega) (by omega)]; omega)
                | exact congrArg (fun n : Int => D.v (.int .i64 n)) (by omega)
        · have f36 : ¬ ((i : Int) < ((List.map rvS (loadsV A Q x.q y.q)).length : Int)) := of_decide_eq_false e4
          refine Eq.trans (b := .tup [.one (.d (.v (.bool (true)))), .one (.d (.v (.int .i64 (0))))]) ?_ rfl
          obtain rfl : i = A.links.length := by omega
          rw [hldB_ok h0 hRl, g2, hldE_0 h0 hRl]
          all_goals rfl
  · have f23 : ¬ (n18 = 0) := beq_f e1
    refine ⟨fun e => absurd e (by decide), fun _ => ?_⟩
    refine ⟨fun e7 => ?_, fun e7 => ?_⟩
    · have f31 : n18 ≠ 0 := bne_t e7
      refine Eq.trans (b := .tup [.one (.d (.v (.bool (false)))), .one (.d (.v (.int .i64 (n18))))]) ?_ rfl
      have hno : ¬ hasE A (Q.length : Int) = 0 := by rw [← hk_18_1]; exact f23
      rw [hldB_no fun g => hno g.1, hldE_2 hno, ← hk_18_1]
      all_goals rfl
    · have f31 : ¬ (n18 ≠ 0) := fun hh => hh (bne_f e7)
      exfalso
      exact f23 (Classical.not_not.1 f31)
theorem k_Holds {A : ArmV} {Q : List (RV × RV)} {R : List RV} {x y : RV} (hA : A.ok) (hQ : ∀ p, p ∈ Q → p.1.z ≤ 1048576 ∧ p.2.z ≤ 1048576) (hx : x.z ≤ 1048576) (hy : y.z ≤ 1048576) (hR : ∀ r, r ∈ R → r.z ≤ 1048576) (k : ∀ b n, b = hldB A Q x.q y.q R → n = hldE A Q R → K (.tup [.one (.d (.v (.bool b))), .one (.d (.v (.int .i64 n)))])) : Ask 52 [.val (.agg [.d (.v (.string A.name)), .d (.v (.bool A.bx.s)), .d (.v (.string A.bx.a)), .d (.v (.string A.bx.d)), .d (.v (.bool A.by'.s)), .d (.v (.string A.by'.a)), .d (.v (.string A.by'.d)), .d (.v (.bool (A.bh))), .d (.v (.bool A.bt.s)), .d (.v (.string A.bt.a)), .d (.v (.string A.bt.d)), .d (.list (List.map lk A.links))]), .val (.one (.d (.list (List.map rdv Q)))), pair x y, .val (.one (.d (.list (List.map rd R))))] K := use (Holds_spec A Q R x y hA hQ hx hy hR) rfl (k _ _ rfl rfl)
theorem k_BoundsC {A : ArmV} {Q : List (RV × RV)} {x y : Rat} (hA : A.ok) (hQ : ∀ p, p ∈ Q → p.1.z ≤ 1048576 ∧ p.2.z ≤ 1048576) (hx : qs x ≤ 1048576) (hy : qs y ≤ 1048576) (k : ∀ n, n = hasE A (Q.length : Int) → K (.tup [.one (.d (.list (List.map rvS (loadsV A Q x y)))), .one (.d (.v (.int .i64 n)))])) : Ask 51 [.val (.agg [.d (.v (.string A.name)), .d (.v (.bool A.bx.s)), .d (.v (.string A.bx.a)), .d (.v (.string A.bx.d)), .d (.v (.bool A.by'.s)), .d (.v (.string A.by'.a)), .d (.v (.string A.by'.d)), .d (.v (.bool (A.bh))), .d (.v (.bool A.bt.s)), .d (.v (.string A.bt.a)), .d (.v (.string A.bt.d)), .d (.list (List.map lk A.links))]), .val (.one (.d (.list (List.map rdv Q)))), pair (cn x) (cn y)] K :=
  k_Bounds hA hQ hx hy fun n hn => by rw [cn_q, cn_q]; exact k n hn
set_option maxHeartbeats 4000000 in
set_option maxRecDepth 100000 in
theorem RLoads_spec (A : ArmV) (Q : List (RV × RV)) (x y : RV) (hA : A.ok) (hA0 : armE A = 0) (hlen : Q.length = A.links.length) (hQ : ∀ p, p ∈ Q → p.1.z ≤ 1048576 ∧ p.2.z ≤ 1048576) (hx : x.z ≤ 1048576) (hy : y.z ≤ 1048576) : Spec Tryz.prog Tab 53 [.val (.agg [.d (.v (.string A.name)), .d (.v (.bool A.bx.s)), .d (.v (.string A.bx.a)), .d (.v (.string A.bx.d)), .d (.v (.bool A.by'.s)), .d (.v (.string A.by'.a)), .d (.v (.string A.by'.d)), .d (.v (.bool (A.bh))), .d (.v (.bool A.bt.s)), .d (.v (.string A.bt.a)), .d (.v (.string A.bt.d)), .d (.list (List.map lk A.links))]), .val (.one (.d (.list (List.map rdv Q)))), pair x y] (.val (.one (.d (.list (List.map rqS (loadsL A Q x.q y.q)))))) := by
  have hA2 := hA
  obtain ⟨z1, z2, z3, z4, z5, z6⟩ := hA
  have hL : (List.map lk A.links).length = A.links.length := List.length_map ..
  have hLq : (List.map rdv Q).length = Q.length := List.length_map ..
  have hx1 := x.z1
  have hy1 := y.z1
  obtain ⟨hn3, hnz, _⟩ := armE_ok hA0
  have hn0 : 0 < A.links.length := List.length_pos_iff.2 hnz
  refine fn_spec Tryz.func53 rfl rfl Tryz.ntmps53 rfl (by kernel_rfl) rfl rfl ?_
  refine k_RSpread (A := A) (Q := Q) (by assumption) hA0 hlen (by assumption) ?_
  refine k_From3 (x := x) (by omega) fun q18 h18 z18 => ?_
  refine k_Rone (q := q18)  ?_
  refine k_From3 (x := y) (by omega) fun q22 h22 z22 => ?_
  refine k_Rone (q := q22)  ?_
  refine ⟨by kernel_rfl, ?_⟩
  refine ⟨⟨by omega, rfl, (by show (((List.map lk A.links).length : Int)) * 112 ≤ _; omega), by omega⟩, ?_⟩
  refine k_N3 (0) (by omega) (by omega) fun q28 h28 z28 => ?_
  refine k_Rone (q := q28)  ?_
  have b28 : q28 = (sumB A Q x.q y.q 0).1 := h28
  have hrep : List.replicate (((List.map lk A.links).length : Int)).toNat zS = bdD (fun m => rqS (sumB A Q x.q y.q m)) zS A.links.length 0 := by rw [bdD_0, Int.toNat_natCast, hL]
  refine ⟨Nat, fun k => [(3, .val (.one (.ptr 3 0))), (7, .val (.one (.d (.list (List.map rqL (spreadL A Q)))))), (8, .val (.one (.ptr 8 0))), (9, .val (.one (.ptr 9 0))), (10, .val (.one (.row 27 0))), (11, .val (.one (.ptr 11 0))), (12, int ((A.links.length : Int) - 1 - (k : Int)))],
    fun k => [(3, .var 32 [.d (.v (.string A.name)), .d (.v (.bool A.bx.s)), .d (.v (.string A.bx.a)), .d (.v (.string A.bx.d)), .d (.v (.bool A.by'.s)), .d (.v (.string A.by'.a)), .d (.v (.string A.by'.d)), .d (.v (.bool (A.bh))), .d (.v (.bool A.bt.s)), .d (.v (.string A.bt.a)), .d (.v (.string A.bt.d)), .d (.list (List.map lk A.links))]), (8, .var 83 [.d (.v (.bool (decide (q18.num < 0)))), .d (.list (W (w32 q18.num.natAbs))), .d (.list (W (w32 q18.den))), .d (.v (.bool (decide (q18.num < 0)))), .d (.list (W (w32 q18.num.natAbs))), .d (.list (W (w32 q18.den)))]), (9, .var 83 [.d (.v (.bool (decide (q22.num < 0)))), .d (.list (W (w32 q22.num.natAbs))), .d (.list (W (w32 q22.den))), .d (.v (.bool (decide (q22.num < 0)))), .d (.list (W (w32 q22.num.natAbs))), .d (.list (W (w32 q22.den)))]), (11, .var 83 [.d (.v (.bool (decide (((sumB A Q x.q y.q k).1).num < 0)))), .d (.list (W (w32 ((sumB A Q x.q y.q k).1).num.natAbs))), .d (.list (W (w32 ((sumB A Q x.q y.q k).1).den))), .d (.v (.bool (decide (((sumB A Q x.q y.q k).2).num < 0)))), .d (.list (W (w32 ((sumB A Q x.q y.q k).2).num.natAbs))), .d (.list (W (w32 ((sumB A Q x.q y.q k).2).den)))]), (27, .row 83 6 0 (bdD (fun m => rqS (sumB A Q x.q y.q m)) zS A.links.length k) true)], fun k => k ≤ A.links.length, fun k => A.links.length - k, 0, ?_, Nat.zero_le _, fun k hs => ?_⟩
  · constructor <;> (repeat' (first | exact rfl | exact True.intro | exact ⟨_, _, rfl⟩ | exact (by decide) | apply And.intro))
    all_goals first
      | exact hrep
      | exact hrep.symm
      | exact congrArg (fun q : Rat => D.v (.bool (decide (q.num < 0)))) b28
      | exact congrArg (fun q : Rat => D.v (.bool (decide (q.num < 0)))) b28.symm
      | exact congrArg (fun q : Rat => D.list (W (w32 q.num.natAbs))) b28
      | exact congrArg (fun q : Rat => D.list (W (w32 q.num.natAbs))) b28.symm
      | exact congrArg (fun q : Rat => D.list (W (w32 q.den))) b28
      | exact congrArg (fun q : Rat => D.list (W (w32 q.den))) b28.symm
      | exact congrArg (fun n : Int => D.v (.int .i64 n)) (by rw [List.length_replicate, Int.toNat_natCast, wrap64 _ (by omega) (by omega)]; omega)
      | exact congrArg (fun n : Int => D.v (.int .i64 n)) (by omega)
      | (simp; done)
  refine ⟨fun e1 => ?_, fun e1 => ?_⟩
  · have f34 : ((A.links.length : Int) - 1 - (k : Int)) ≥ 0 := of_decide_eq_true e1
    have hkn : k < A.links.length := by have := f34; omega
    obtain ⟨hb1, hb2⟩ := sumB_z3 hA0 Q (x := x.q) (y := y.q) (by omega) (by omega) (k := k) (by omega)
    have hbs := sumB_sle A Q x.q y.q k
    have hlz := lenAt_z hA0 (A.links.length - 1 - k)
    refine get_ex (l := A.links) (i := (A.links.length - 1 - k)) (by first | omega | exact Nat.mod_lt _ (by omega)) fun x41 hx41 => ?_
    obtain ⟨hs1, hs2, hs3, hs4, hs5, hs6, hs7⟩ := z6 x41 (List.mem_of_getElem? hx41)
    have hlx41 := lenAt_is hx41
    have hsmx41 := smallP_z (link_small hA0 (List.mem_of_getElem? hx41)).1
    refine k_ix (A.links.length - 1 - k) [D.v (.bool x41.len.s), D.v (.string x41.len.a), D.v (.string x41.len.d), D.v (.bool x41.low.s), D.v (.string x41.low.a), D.v (.string x41.low.d), D.v (.bool x41.high.s), D.v (.string x41.high.a), D.v (.string x41.high.d), D.v (.bool x41.speed.s), D.v (.string x41.speed.a), D.v (.string x41.speed.d), D.v (.bool x41.brake.s), D.v (.string x41.brake.a), D.v (.string x41.brake.d), D.list (List.map rdv x41.shape)] (by first | rfl | omega | (rw [wrap64 _ (by omega) (by omega)]; omega)) (map_at hx41) rfl ?_
    refine k_From3 (x := x41.len) (by omega) fun q44 h44 z44 => ?_
    refine k_Rone (q := q44)  ?_
    refine get_ex (l := (spreadL A Q)) (i := (A.links.length - 1 - k)) (by rw [spreadL_len]; omega) fun x48 hx48 => ?_
    have hex48 : x48 = linkL A Q (A.links.length - 1 - k) := by
      rcases spreadL_at (show (spreadL A Q)[(A.links.length - 1 - k)]? = some x48 from hx48) with ⟨_, e⟩ | ⟨e, _⟩
      · exact e
      · omega
    obtain ⟨⟨zc1x48, zc2x48⟩, zc3x48, zc4x48⟩ := linkL_zc A Q (A.links.length - 1 - k)
    rw [← hex48] at zc1x48 zc2x48 zc3x48 zc4x48
    obtain ⟨_, _, lcx48, lsx48⟩ := LF.has_le (linkL_has A Q (A.links.length - 1 - k))
    rw [← hex48] at lcx48 lsx48
    refine k_ix (A.links.length - 1 - k) [D.v (.bool (decide (x48.xl.num < 0))), D.list (W (w32 x48.xl.num.natAbs)), D.list (W (w32 x48.xl.den)), D.v (.bool (decide (x48.xh.num < 0))), D.list (W (w32 x48.xh.num.natAbs)), D.list (W (w32 x48.xh.den)), D.v (.bool (decide (x48.yl.num < 0))), D.list (W (w32 x48.yl.num.natAbs)), D.list (W (w32 x48.yl.den)), D.v (.bool (decide (x48.yh.num < 0))), D.list (W (w32 x48.yh.num.natAbs)), D.list (W (w32 x48.yh.den)), D.v (.bool (decide (x48.cl.num < 0))), D.list (W (w32 x48.cl.num.natAbs)), D.list (W (w32 x48.cl.den)), D.v (.bool (decide (x48.ch.num < 0))), D.list (W (w32 x48.ch.num.natAbs)), D.list (W (w32 x48.ch.den)), D.v (.bool (decide (x48.sl.num < 0))), D.list (W (w32 x48.sl.num.natAbs)), D.list (W (w32 x48.sl.den)), D.v (.bool (decide (x48.sh.num < 0))), D.list (W (w32 x48.sh.num.natAbs)), D.list (W (w32 x48.sh.den))] (by first | rfl | omega | (rw [wrap64 _ (by omega) (by omega)]; omega)) (map_at hx48) rfl ?_
    refine k_SMul3 (p := x48.cl) (q := x48.ch) (r := q22) (u := q22) (by omega) (by omega) (by omega) (by omega) (fun ya52 yb52 hk_52_2 hk_52_3 hk_52_4 hk_52_5 => ?_)
    refine k_ix (A.links.length - 1 - k) [D.v (.bool (decide (x48.xl.num < 0))), D.list (W (w32 x48.xl.num.natAbs)), D.list (W (w32 x48.xl.den)), D.v (.bool (decide (x48.xh.num < 0))), D.list (W (w32 x48.xh.num.natAbs)), D.list (W (w32 x48.xh.den)), D.v (.bool (decide (x48.yl.num < 0))), D.list (W (w32 x48.yl.num.natAbs)), D.list (W (w32 x48.yl.den)), D.v (.bool (decide (x48.yh.num < 0))), D.list (W (w32 x48.yh.num.natAbs)), D.list (W (w32 x48.yh.den)), D.v (.bool (decide (x48.cl.num < 0))), D.list (W (w32 x48.cl.num.natAbs)), D.list (W (w32 x48.cl.den)), D.v (.bool (decide (x48.ch.num < 0))), D.list (W (w32 x48.ch.num.natAbs)), D.list (W (w32 x48.ch.den)), D.v (.bool (decide (x48.sl.num < 0))), D.list (W (w32 x48.sl.num.natAbs)), D.list (W (w32 x48.sl.den)), D.v (.bool (decide (x48.sh.num < 0))), D.list (W (w32 x48.sh.num.natAbs)), D.list (W (w32 x48.sh.den))] (by first | rfl | omega | (rw [wrap64 _ (by omega) (by omega)]; omega)) (map_at hx48) rfl ?_
    refine k_SMul3 (p := x48.sl) (q := x48.sh) (r := q18) (u := q18) (by omega) (by omega) (by omega) (by omega) (fun ya59 yb59 hk_59_2 hk_59_3 hk_59_4 hk_59_5 => ?_)
    refine k_SSub3 (p := ya52) (q := yb52) (r := ya59) (u := yb59) (by omega) (by omega) (by omega) (by omega) (fun ya60 yb60 hk_60_2 hk_60_3 hk_60_4 hk_60_5 => ?_)
    refine k_SMul3 (p := q44) (q := q44) (r := ya60) (u := yb60) (by omega) (by omega) (by omega) (by omega) (fun ya61 yb61 hk_61_2 hk_61_3 hk_61_4 hk_61_5 => ?_)
    refine k_SAdd3 (p := (sumB A Q x.q y.q k).1) (q := (sumB A Q x.q y.q k).2) (r := ya61) (u := yb61) (by omega) (by omega) (by omega) (by omega) (fun ya62 yb62 hk_62_2 hk_62_3 hk_62_4 hk_62_5 => ?_)
    refine ⟨by kernel_rfl, ?_⟩
    refine k_at_own' (A.links.length - 1 - k) (by first | rfl | omega | (rw [wrap64 _ (by omega) (by omega)]; omega)) (by rw [bdD_len]; omega) ?_
    refine ⟨by rw [bdD_len]; omega, ?_⟩
    have et1 : ya60 = (ldT (linkL A Q (A.links.length - 1 - k)) x.q y.q).1 := by rw [hk_60_2, hk_52_2, hk_59_3, h22, h18, hex48]; rfl
    have et2 : yb60 = (ldT (linkL A Q (A.links.length - 1 - k)) x.q y.q).2 := by rw [hk_60_3, hk_52_3, hk_59_2, h22, h18, hex48]; rfl
    have es1 : ya62 = (sumB A Q x.q y.q (k + 1)).1 := by rw [hk_62_2, hk_61_2, h44, ← hlx41, et1, et2]; rfl
    have es2 : yb62 = (sumB A Q x.q y.q (k + 1)).2 := by rw [hk_62_3, hk_61_3, h44, ← hlx41, et1, et2]; rfl
    subst es1 es2
    refine ⟨k + 1, by omega, by simp only; omega, ?_⟩
    constructor <;> (repeat' (first | exact rfl | exact True.intro | apply And.intro))
    all_goals first
      | (rw [bdD_set _ _ hkn]; rfl)
      | exact congrArg (fun n : Int => D.v (.int .i64 n)) (by rw [wrap64 _ (by omega) (by omega)]; omega)
      | exact congrArg (fun n : Int => D.v (.int .i64 n)) (by omega)
  · have f34 : ¬ (((A.links.length : Int) - 1 - (k : Int)) ≥ 0) := of_decide_eq_false e1
    refine Eq.trans (b := .val (.one (.d (.list (bdD (fun m => rqS (sumB A Q x.q y.q m)) zS A.links.length k))))) ?_ rfl
    obtain rfl : k = A.links.length := by omega
    rw [bdD_loads]
    all_goals rfl
theorem k_RLoads {A : ArmV} {Q : List (RV × RV)} {x y : RV} (hA : A.ok) (hA0 : armE A = 0) (hlen : Q.length = A.links.length) (hQ : ∀ p, p ∈ Q → p.1.z ≤ 1048576 ∧ p.2.z ≤ 1048576) (hx : x.z ≤ 1048576) (hy : y.z ≤ 1048576) (k : K (.val (.one (.d (.list (List.map rqS (loadsL A Q x.q y.q))))))) : Ask 53 [.val (.agg [.d (.v (.string A.name)), .d (.v (.bool A.bx.s)), .d (.v (.string A.bx.a)), .d (.v (.string A.bx.d)), .d (.v (.bool A.by'.s)), .d (.v (.string A.by'.a)), .d (.v (.string A.by'.d)), .d (.v (.bool (A.bh))), .d (.v (.bool A.bt.s)), .d (.v (.string A.bt.a)), .d (.v (.string A.bt.d)), .d (.list (List.map lk A.links))]), .val (.one (.d (.list (List.map rdv Q)))), pair x y] K := use (RLoads_spec A Q x y hA hA0 hlen hQ hx hy) rfl k
end
end Go.Proofs.YtjhoddlhdoiifaaGreatDoor.eng

/- Contract of gantlaw3.ForeSpreads: it returns true. Printed by wip/gp_lawspr.py. -/
namespace Go.Proofs.YtjhoddlhdoiifaaGreatDoor.eng
open Go.RowKit num mem seg q held ratA ratB ratC ratD ratE vars ratF argopen trq
section
variable {K : AV → Prop}
set_option maxRecDepth 100000 in
theorem STo_spec (p q : Rat) (hp : qs p ≤ 536870912) (hq : qs q ≤ 536870912) : Spec Tryz.prog Tab 36 [q3p p q] (pair (cn p) (cn q)) := by
  refine fn_spec Tryz.func36 rfl rfl Tryz.ntmps36 rfl (by kernel_rfl) rfl rfl ?_
  refine k_To3 (q := p) (by omega) ?_
  refine k_To3 (q := q) (by omega) ?_
  refine ⟨by kernel_rfl, ?_⟩
  refine Eq.trans (b := pair (cn p) (cn q)) ?_ rfl
  rfl
theorem k_STo {p q : Rat} (hp : qs p ≤ 536870912) (hq : qs q ≤ 536870912) (k : K (pair (cn p) (cn q))) : Ask 36 [q3p p q] K := use (STo_spec p q hp hq) rfl k
end
end Go.Proofs.YtjhoddlhdoiifaaGreatDoor.eng

