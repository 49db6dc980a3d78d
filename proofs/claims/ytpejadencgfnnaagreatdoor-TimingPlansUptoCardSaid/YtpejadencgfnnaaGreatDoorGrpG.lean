/- Joined by wip/bundle.py: XTik0 XTik1 XTikA. -/
import Derived.Test.YtpejadencgfnnaaGreatDoorGrpR
import Derived.Test.YtpejadencgfnnaaGreatDoorGrpH
import Derived.Test.YtpejadencgfnnaaGreatDoorGrpU
/- Plain law: how many ticks a motion takes at least. No program. -/
namespace Go.Proofs.YtpejadencgfnnaaGreatDoor.eng
open Go.RowKit num mem seg q held ratA ratB ratC ratD ratE vars ratF trq
/-- the least whole number that is not less -/
def clI (q : Rat) : Int := -(-q).floor
theorem clI_le {q : Rat} {n : Int} : clI q ≤ n ↔ q ≤ (n : Rat) := by
  have h : (-n ≤ (-q).floor) ↔ (((-n : Int) : Rat) ≤ -q) := Rat.le_floor_iff
  have e : ((-n : Int) : Rat) = -(n : Rat) := Rat.intCast_neg n
  rw [e] at h
  unfold clI
  constructor
  · intro g
    have := h.1 (by omega)
    grind
  · intro g
    have := h.2 (by grind)
    omega
theorem lt_clI {q : Rat} {n : Int} : n < clI q ↔ (n : Rat) < q := by
  rw [← Int.not_le, clI_le, Rat.not_le]
/-- timing's: at most 2001 -/
def clQ (q : Rat) : Int := if ((2000 : Int) : Rat) < q then 2001 else clI q
theorem clQ_big {q : Rat} (h : ((2000 : Int) : Rat) < q) : clQ q = 2001 := if_pos h
theorem clQ_small {q : Rat} (h : ¬ ((2000 : Int) : Rat) < q) : clQ q = clI q ∧ clI q ≤ 2000 := ⟨if_neg h, clI_le.2 (Rat.not_lt.1 h)⟩
/-- the ticks that the first joints need -/
def tkN (f : Nat → Rat) : Nat → Int
  | 0 => 1
  | i + 1 => max (tkN f i) (clQ (f i))
theorem tkN_pos (f : Nat → Rat) : ∀ i, 1 ≤ tkN f i
  | 0 => Int.le_refl 1
  | i + 1 => Int.le_trans (tkN_pos f i) (Int.le_max_left ..)
theorem tkN_top (f : Nat → Rat) : ∀ i, tkN f i ≤ 2001
  | 0 => by show (1 : Int) ≤ 2001; omega
  | i + 1 => by
    have h := tkN_top f i
    have g : clQ (f i) ≤ 2001 := by
      by_cases h : ((2000 : Int) : Rat) < f i
      · rw [clQ_big h]; exact Int.le_refl _
      · have := clQ_small h; omega
    show max _ _ ≤ _; omega
theorem tkN_mono (f : Nat → Rat) {i : Nat} : ∀ {j}, i ≤ j → tkN f i ≤ tkN f j
  | 0, h => by obtain rfl : i = 0 := by omega
               exact Int.le_refl _
  | j + 1, h => by
    by_cases e : i = j + 1
    · subst e; exact Int.le_refl _
    · exact Int.le_trans (tkN_mono f (by omega)) (Int.le_max_left ..)
/-- a joint that needs too many -/
theorem tkN_late (f : Nat → Rat) {i n : Nat} (hi : i < n) (h : ((2000 : Int) : Rat) < f i) : tkN f n = 2001 := by
  have h1 := tkN_mono f (i := i + 1) (j := n) hi
  have h2 : tkN f (i + 1) = max (tkN f i) 2001 := by show max _ (clQ (f i)) = _; rw [clQ_big h]
  have h3 := tkN_top f n
  omega
/-- the reference's loop at one joint: from what the joints before it need up to what it needs -/
def tkI (n0 n : Int) (p : Rat) : Prop := n0 ≤ n ∧ (n = n0 ∨ n ≤ clI p)
theorem tkI_0 (n0 : Int) (p : Rat) : tkI n0 n0 p := ⟨Int.le_refl _, .inl rfl⟩
theorem tkI_1 {n0 n : Int} {p : Rat} (h : tkI n0 n p) (hp : (n : Rat) < p) : tkI n0 (n + 1) p := ⟨by have := h.1; omega, .inr (by have := lt_clI.2 hp; omega)⟩
theorem tkI_50 {n0 n : Int} {p : Rat} (h : tkI n0 n p) (hp : n + 1 + 50 < clI p) : tkI n0 (n + 1 + 50) p := ⟨by have := h.1; omega, .inr (by omega)⟩
theorem tkI_end {f : Nat → Rat} {i : Nat} {n : Int} (h : tkI (tkN f i) n (f i)) (hp : ¬ ((2000 : Int) : Rat) < f i) (he : ¬ (n : Rat) < f i) : n = tkN f (i + 1) := by
  have h1 := clI_le.2 (Rat.not_lt.1 he)
  obtain ⟨h2, h3⟩ := h
  have h4 := (clQ_small hp).1
  show n = max _ (clQ (f i))
  rw [h4]
  omega
end Go.Proofs.YtpejadencgfnnaaGreatDoor.eng

/- Plain law: ticks of motions, and planned tracks. No program. -/
namespace Go.Proofs.YtpejadencgfnnaaGreatDoor.eng
open Go.RowKit num mem seg q held ratA ratB ratC ratD ratE vars ratF trq natC
def spdAt (A : ArmV) (i : Nat) : Rat := ((A.links[i]?).getD ⟨z0, z0, z0, z0, z0, []⟩).speed.q
theorem spdAt_is {A : ArmV} {i : Nat} {l : LinkV} (h : A.links[i]? = some l) : spdAt A i = l.speed.q := by simp [spdAt, h]
/-- the part of a joint's change to its speed -/
def tkQ (A : ArmV) (l m : List RV) (i : Nat) : Rat := absV (qAt m i - qAt l i) / spdAt A i
def tkA (A : ArmV) (l m : List RV) : Int := tkN (tkQ A l m) A.links.length
theorem tkA_pos (A : ArmV) (l m : List RV) : 1 ≤ tkA A l m ∧ tkA A l m ≤ 2001 := ⟨tkN_pos _ _, tkN_top _ _⟩
noncomputable def tikE (A : ArmV) (l m : List RV) : Int := if fitsE A l = 0 then (if fitsE A m = 0 then (if tkA A l m ≤ 2000 then 0 else 19) else fitsE A m) else fitsE A l
noncomputable def tikV (A : ArmV) (l m : List RV) : Int := if tikE A l m = 0 then tkA A l m else 0
section
variable {A : ArmV} {l m : List RV}
theorem tikE_1 (h : ¬ fitsE A l = 0) : tikE A l m = fitsE A l := if_neg h
theorem tikE_2 (h : fitsE A l = 0) (g : ¬ fitsE A m = 0) : tikE A l m = fitsE A m := by unfold tikE; rw [if_pos h, if_neg g]
theorem tikE_3 (h : fitsE A l = 0) (g : fitsE A m = 0) (k : ¬ tkA A l m ≤ 2000) : tikE A l m = 19 := by unfold tikE; rw [if_pos h, if_pos g, if_neg k]
theorem tikE_0 (h : fitsE A l = 0) (g : fitsE A m = 0) (k : tkA A l m ≤ 2000) : tikE A l m = 0 := by unfold tikE; rw [if_pos h, if_pos g, if_pos k]
theorem tikV_no (h : ¬ tikE A l m = 0) : tikV A l m = 0 := if_neg h
theorem tikV_ok (h : tikE A l m = 0) : tikV A l m = tkA A l m := if_pos h
end
theorem flV_cl {q : Rat} (h0 : 0 ≤ q) (h : ¬ ((2000 : Int) : Rat) < q) : flV (-q) = -clI q ∧ 0 ≤ clI q ∧ clI q ≤ 2000 := by
  have h1 := (clQ_small h).2
  have h2 : (-1 : Int) < clI q := lt_clI.2 (by have : ((-1 : Int) : Rat) = -1 := rfl
                                               rw [this]; grind)
  refine ⟨?_, by omega, h1⟩
  have e : clI q = -(-q).floor := rfl
  rw [e, Int.neg_neg]
  rw [e] at h1 h2
  unfold flV intV
  generalize (-q).floor = f at *
  (repeat' split) <;> omega
theorem absV_pos (q : Rat) : 0 ≤ absV q := by
  have h := Rat.num_nonneg (q := q)
  unfold absV
  split
  · rename_i g
    have : ¬ 0 ≤ q := fun k => by have := h.2 k; omega
    grind
  · rename_i g
    exact h.1 (by omega)
theorem tkQ_pos {A : ArmV} (hA : armE A = 0) (l m : List RV) {i : Nat} {k : LinkV} (hk : A.links[i]? = some k) : 0 ≤ tkQ A l m i := by
  have hs := (link_small hA (List.mem_of_getElem? hk)).2.2.2.2.2.2.2.1
  unfold tkQ
  rw [spdAt_is hk, Rat.div_def]
  exact Rat.mul_nonneg (absV_pos _) (Rat.le_of_lt (Rat.inv_pos.2 hs))
/-- the tick of a point -/
def tkS (A : ArmV) (P : List (List RV)) (s : Int) : Nat → Int
  | 0 => s
  | i + 1 => tkS A P s i + tkA A (wAt P i) (wAt P (i + 1))
theorem tkS_ge (A : ArmV) (P : List (List RV)) (s : Int) : ∀ i, s ≤ tkS A P s i
  | 0 => Int.le_refl _
  | i + 1 => by
    have h := tkS_ge A P s i
    have g := (tkA_pos A (wAt P i) (wAt P (i + 1))).1
    show s ≤ _ + _
    omega
noncomputable def plnS (A : ArmV) (P : List (List RV)) (s : Int) (i : Nat) : Int := if fitsE A (wAt P i) = 0 then (if tkS A P s i ≤ 2000 then 0 else 19) else fitsE A (wAt P i)
noncomputable def plnBase (A : ArmV) (P : List (List RV)) (s : Int) : Int :=
  if armE A = 0 then (if P.length = 0 then 14 else if 60 < P.length then 2 else if s < 0 ∨ 2000 < s then 1 else 0) else armE A
noncomputable def plnE (A : ArmV) (P : List (List RV)) (s : Int) : Int := if plnBase A P s = 0 then firstE (plnS A P s) P.length else plnBase A P s
def plnG (tk : Nat → Int) (P : List (List RV)) (n : Nat) : List (Int × List Rat) := (List.range n).map fun i => (tk i, gdL (wAt P i))
def plnL (A : ArmV) (P : List (List RV)) (s : Int) (n : Nat) : List (Int × List Rat) := plnG (tkS A P s) P n
noncomputable def plnV (A : ArmV) (P : List (List RV)) (s : Int) : List (Int × List Rat) := if plnE A P s = 0 then plnL A P s P.length else []
section
variable {A : ArmV} {P : List (List RV)} {s : Int} {i : Nat}
theorem plnS_fit (h : ¬ fitsE A (wAt P i) = 0) : plnS A P s i = fitsE A (wAt P i) := if_neg h
theorem plnS_late (h : fitsE A (wAt P i) = 0) (g : ¬ tkS A P s i ≤ 2000) : plnS A P s i = 19 := by unfold plnS; rw [if_pos h, if_neg g]
theorem plnS_0 (h : fitsE A (wAt P i) = 0) (g : tkS A P s i ≤ 2000) : plnS A P s i = 0 := by unfold plnS; rw [if_pos h, if_pos g]
theorem plnS_ok (h : plnS A P s i = 0) : fitsE A (wAt P i) = 0 ∧ tkS A P s i ≤ 2000 := by
  by_cases a : fitsE A (wAt P i) = 0
  · by_cases b : tkS A P s i ≤ 2000
    · exact ⟨a, b⟩
    · rw [plnS_late a b] at h; exact absurd h (by decide)
  · rw [plnS_fit a] at h; exact absurd h a
theorem plnB_arm (h : ¬ armE A = 0) : plnBase A P s = armE A := if_neg h
theorem plnB_nil (h : armE A = 0) (g : P.length = 0) : plnBase A P s = 14 := by unfold plnBase; rw [if_pos h, if_pos g]
theorem plnB_big (h : armE A = 0) (g : 60 < P.length) : plnBase A P s = 2 := by unfold plnBase; rw [if_pos h, if_neg (by omega), if_pos g]
theorem plnB_arg (h : armE A = 0) (g : ¬ P.length = 0) (k : ¬ 60 < P.length) (a : s < 0 ∨ 2000 < s) : plnBase A P s = 1 := by unfold plnBase; rw [if_pos h, if_neg g, if_neg k, if_pos a]
theorem plnB_0 (h : armE A = 0) (g : ¬ P.length = 0) (k : ¬ 60 < P.length) (a : ¬ (s < 0 ∨ 2000 < s)) : plnBase A P s = 0 := by unfold plnBase; rw [if_pos h, if_neg g, if_neg k, if_neg a]
theorem plnE_base (h : ¬ plnBase A P s = 0) : plnE A P s = plnBase A P s := if_neg h
theorem plnE_at (h : plnBase A P s = 0) (hb : ∀ j, j < i → plnS A P s j = 0) (g : ¬ plnS A P s i = 0) (hi : i < P.length) : plnE A P s = plnS A P s i := by
  unfold plnE; rw [if_pos h, firstE_at hb g hi]
theorem plnE_0 (h : plnBase A P s = 0) (hb : ∀ j, j < P.length → plnS A P s j = 0) : plnE A P s = 0 := by
  unfold plnE; rw [if_pos h, firstE_0 hb]
theorem plnV_no (h : ¬ plnE A P s = 0) : plnV A P s = [] := if_neg h
theorem plnV_ok (h : plnE A P s = 0) : plnV A P s = plnL A P s P.length := if_pos h
theorem plnG_app (tk : Nat → Int) (P : List (List RV)) (i : Nat) : plnG tk P (i + 1) = plnG tk P i ++ [(tk i, gdL (wAt P i))] := by simp [plnG, List.range_succ]
theorem plnG_len {tk : Nat → Int} : (plnG tk P i).length = i := by simp [plnG]
theorem plnL_len : (plnL A P s i).length = i := plnG_len
theorem plnG_at {tk : Nat → Int} {n : Nat} (h : i < n) : (plnG tk P n)[i]? = some (tk i, gdL (wAt P i)) := by simp [plnG, h]
end
section
variable {A : ArmV} {P : List (List RV)} {s : Int} {k : Nat}
theorem pln_ok (h : tikE A (wAt P k) (wAt P (k + 1)) = 0) : fitsE A (wAt P (k + 1)) = 0 ∧ tkS A P s (k + 1) = tkS A P s k + tikV A (wAt P k) (wAt P (k + 1)) := by
  rw [tikV_ok h]
  refine ⟨Classical.byContradiction fun g => ?_, rfl⟩
  by_cases f : fitsE A (wAt P k) = 0
  · rw [tikE_2 f g] at h; exact g h
  · rw [tikE_1 f] at h; exact f h
theorem pln_err (hp : fitsE A (wAt P k) = 0) (h0 : 0 ≤ tkS A P s k) (h : ¬ tikE A (wAt P k) (wAt P (k + 1)) = 0) : plnS A P s (k + 1) = tikE A (wAt P k) (wAt P (k + 1)) := by
  by_cases g : fitsE A (wAt P (k + 1)) = 0
  · have hk : ¬ tkA A (wAt P k) (wAt P (k + 1)) ≤ 2000 := fun hk => h (tikE_0 hp g hk)
    rw [tikE_3 hp g hk, plnS_late g (by show ¬ tkS A P s k + tkA A (wAt P k) (wAt P (k + 1)) ≤ 2000; omega)]
  · rw [tikE_2 hp g, plnS_fit g]
end
def keyC (k : Int × List Rat) : List D := [.v (.int .i64 k.1), .list (k.2.map rdc)]
/-- a track that begins as a literal and is appended to -/
def plAV (d : Nat) (P : List (List RV)) (s : Int) : Nat → AV
  | 0 => .val (.one (.full [[D.v (.int .i64 s), D.list (List.map rdc (gdL (wAt P 0)))]]))
  | _ + 1 => .val (.one (.row d 0))
def plOb (d : Nat) (M : List (Int × List Rat)) : Nat → List (Nat × Ob)
  | 0 => []
  | _ + 1 => [(d, .row 86 2 0 (List.map keyC M) true)]
end Go.Proofs.YtpejadencgfnnaaGreatDoor.eng

/- Contracts: how many ticks a motion takes: timing.ceil, Ticks; gantref3.Ticks. Printed by wip/gp_tik.py. -/
namespace Go.Proofs.YtpejadencgfnnaaGreatDoor.eng
open Go.RowKit num mem seg q held ratA ratB ratC ratD ratE vars ratF trq
section
variable {K : AV → Prop}
set_option maxRecDepth 100000 in
theorem ceil_spec (x : RV) (hx : x.z ≤ 268435456) (h0 : 0 ≤ x.q) : Spec Tryz.prog Tab 124 [rat x] (int (clQ x.q)) := by
  refine fn_spec Tryz.func124 rfl rfl Tryz.ntmps124 rfl (by kernel_rfl) rfl rfl ?_
  refine k_of (2000) (by omega) (by omega) fun q6 h6 z6 => ?_
  simp only [cn_z] at z6
  refine k_cmp (x := x) (y := cn q6) (by omega) (by simp only [cn_z]; omega) fun n7 h7 => ?_
  simp only [cn_q] at h7
  refine ⟨by kernel_rfl, ?_⟩
  refine ⟨fun e1 => ?_, fun e1 => ?_⟩
  · have f8 : q6 < x.q := (cq_gt h7).1 (of_decide_eq_true e1)
    refine Eq.trans (b := int 2001) ?_ rfl
    rw [h6] at f8
    rw [clQ_big f8]
  · have f8 : ¬ (q6 < x.q) := fun hh => of_decide_eq_false e1 ((cq_gt h7).2 hh)
    refine k_neg (x := x) (by omega) fun q11 h11 z11 => ?_
    simp only [cn_z] at z11
    refine k_floor (x := cn q11) (by simp only [cn_z]; omega) (fun v12 e12 hk_12_2 hk_12_3 => ?_)
    try simp only [cn_q] at hk_12_2
    try simp only [cn_q] at hk_12_3
    refine Eq.trans (b := int (IntKind.i64.wrap (0 - v12))) ?_ rfl
    rw [h6] at f8
    obtain ⟨c1, c2, c3⟩ := flV_cl h0 f8
    have hv : v12 = -clI x.q := by rw [hk_12_2, h11]; exact c1
    rw [(clQ_small f8).1, hv, wrap64' _ (by omega) (by omega), show 0 - -clI x.q = clI x.q by omega]
theorem k_ceil {q : Rat} (hz : qs q ≤ 268435456) (h0 : 0 ≤ q) (k : K (int (clQ q))) : Ask 124 [rat (cn q)] K := use (ceil_spec (cn q) (by rw [cn_z]; exact hz) (by rw [cn_q]; exact h0)) rfl (by rw [cn_q]; exact k)
set_option maxHeartbeats 4000000 in
set_option maxRecDepth 100000 in
theorem Ticks_spec (A : ArmV) (l m : List RV) (hA : A.ok) (hl : l.length ≤ 1048576 ∧ ∀ x, x ∈ l → x.z ≤ 1048576) (hm : m.length ≤ 1048576 ∧ ∀ x, x ∈ m → x.z ≤ 1048576) : Spec Tryz.prog Tab 34 [.val (.agg [.d (.v (.string A.name)), .d (.v (.bool A.bx.s)), .d (.v (.string A.bx.a)), .d (.v (.string A.bx.d)), .d (.v (.bool A.by'.s)), .d (.v (.string A.by'.a)), .d (.v (.string A.by'.d)), .d (.v (.bool (A.bh))), .d (.v (.bool A.bt.s)), .d (.v (.string A.bt.a)), .d (.v (.string A.bt.d)), .d (.list (List.map lk A.links))]), .val (.one (.d (.list (List.map rd l)))), .val (.one (.d (.list (List.map rd m))))] (.tup [.one (.d (.v (.int .i64 (tikV A l m)))), .one (.d (.v (.int .i64 (tikE A l m))))]) := by
  have hA2 := hA
  obtain ⟨z1, z2, z3, z4, z5, z6⟩ := hA
  have hL : (List.map lk A.links).length = A.links.length := List.length_map ..
  have hl1 := hl.1
  have hm1 := hm.1
  refine fn_spec Tryz.func34 rfl rfl Tryz.ntmps34 rfl (by kernel_rfl) rfl rfl ?_
  refine ⟨Nat, fun i => [(1, .val (.one (.d (.list (List.map rd l))))), (2, .val (.one (.d (.list (List.map rd m))))), (3, .val (.one (.ptr 3 0))), (18, .val (.one (.full ([[D.list (List.map rd l)], [D.list (List.map rd m)]])))), (19, int 2), (20, int (i : Int))],
    fun i => [(3, .var 32 [.d (.v (.string A.name)), .d (.v (.bool A.bx.s)), .d (.v (.string A.bx.a)), .d (.v (.string A.bx.d)), .d (.v (.bool A.by'.s)), .d (.v (.string A.by'.a)), .d (.v (.string A.by'.d)), .d (.v (.bool (A.bh))), .d (.v (.bool A.bt.s)), .d (.v (.string A.bt.a)), .d (.v (.string A.bt.d)), .d (.list (List.map lk A.links))])], fun i => i ≤ 2 ∧ (0 < i → fitsE A l = 0) ∧ (1 < i → fitsE A m = 0), fun i => 2 - i, 0, ?_, ⟨by omega, fun h => absurd h (by decide), fun h => absurd h (by decide)⟩, fun i hs => ?_⟩
  · constructor <;> (repeat' (first | exact rfl | exact True.intro | exact ⟨_, _, rfl⟩ | exact (by decide) | apply And.intro))
    all_goals first | exact congrArg (fun n : Int => D.v (.int .i64 n)) (by omega) | exact congrArg (fun n : Int => D.v (.int .i64 n)) (by rw [wrap64 _ (by omega) (by omega)]; omega) | (simp; done)
  obtain ⟨g1, g2, g3⟩ := hs
  refine ⟨fun e1 => ?_, fun e1 => ?_⟩
  · have f21 : (i : Int) < 2 := of_decide_eq_true e1
    obtain rfl | rfl : i = 0 ∨ i = 1 := by omega
    · refine k_ix 0 [D.list (List.map rd l)] (by first | rfl | omega | (rw [wrap64 _ (by omega) (by omega)]; omega) | (rw [wrap64 _ (by omega) (by omega)]; split <;> omega)) rfl rfl ?_
      refine k_AFits (A := A) (Q := l) hA2 (fun x hx => Nat.le_trans (hl.2 x hx) (by decide)) fun n26 hk_26_1 => ?_
      refine ⟨fun e2 => ?_, fun e2 => ?_⟩
      · have f28 : n26 ≠ 0 := bne_t e2
        refine Eq.trans (b := .tup [.one (.d (.v (.int .i64 (0)))), .one (.d (.v (.int .i64 (n26))))]) ?_ rfl
        have hno : ¬ fitsE A l = 0 := by rw [← hk_26_1]; exact f28
        rw [tikV_no (by rw [tikE_1 hno]; exact hno), tikE_1 hno, ← hk_26_1]
        all_goals rfl
      · have f28 : ¬ (n26 ≠ 0) := fun hh => hh (bne_f e2)
        refine ⟨1, ⟨by omega, fun _ => by rw [← hk_26_1]; exact Classical.not_not.1 f28, fun h => absurd h (by decide)⟩, by decide, ?_⟩
        constructor <;> (repeat' (first | exact rfl | exact True.intro | apply And.intro))
        all_goals first
          | exact congrArg (fun n : Int => D.v (.int .i64 n)) (by rw [wrap64 _ (by omega) (by omega)]; omega)
          | exact congrArg (fun n : Int => D.v (.int .i64 n)) (by omega)
    · refine k_ix 1 [D.list (List.map rd m)] (by first | rfl | omega | (rw [wrap64 _ (by omega) (by omega)]; omega) | (rw [wrap64 _ (by omega) (by omega)]; split <;> omega)) rfl rfl ?_
      refine k_AFits (A := A) (Q := m) hA2 (fun x hx => Nat.le_trans (hm.2 x hx) (by decide)) fun n26 hk_26_1 => ?_
      refine ⟨fun e3 => ?_, fun e3 => ?_⟩
      · have f28 : n26 ≠ 0 := bne_t e3
        refine Eq.trans (b := .tup [.one (.d (.v (.int .i64 (0)))), .one (.d (.v (.int .i64 (n26))))]) ?_ rfl
        have hyes := g2 (by decide)
        have hno : ¬ fitsE A m = 0 := by rw [← hk_26_1]; exact f28
        rw [tikV_no (by rw [tikE_2 hyes hno]; exact hno), tikE_2 hyes hno, ← hk_26_1]
        all_goals rfl
      · have f28 : ¬ (n26 ≠ 0) := fun hh => hh (bne_f e3)
        refine ⟨2, ⟨by omega, fun _ => g2 (by omega), fun _ => by rw [← hk_26_1]; exact Classical.not_not.1 f28⟩, by decide, ?_⟩
        constructor <;> (repeat' (first | exact rfl | exact True.intro | apply And.intro))
        all_goals first
          | exact congrArg (fun n : Int => D.v (.int .i64 n)) (by rw [wrap64 _ (by omega) (by omega)]; omega)
          | exact congrArg (fun n : Int => D.v (.int .i64 n)) (by omega)
  · have f21 : ¬ ((i : Int) < 2) := of_decide_eq_false e1
    obtain rfl : i = 2 := by omega
    have hf1 := g2 (by decide)
    have hf2 := g3 (by decide)
    have hA0 := (fits_len hf1).2
    have hll := (fits_len hf1).1
    have hml := (fits_len hf2).1
    have hn3 := (armE_ok hA0).1
    refine ⟨Nat, fun j => [(1, .val (.one (.d (.list (List.map rd l))))), (2, .val (.one (.d (.list (List.map rd m))))), (11, int (tkN (tkQ A l m) j)), (32, .val (.one (.d (.list (List.map lk A.links))))), (33, int ((List.map lk A.links).length : Int)), (34, int (j : Int))],
      fun j => [], fun j => j ≤ A.links.length, fun j => A.links.length - j, 0, ?_, Nat.zero_le _, fun j hs => ?_⟩
    · constructor <;> (repeat' (first | exact rfl | exact True.intro | exact ⟨_, _, rfl⟩ | exact (by decide) | apply And.intro))
      all_goals first | exact congrArg (fun n : Int => D.v (.int .i64 n)) (by omega) | exact congrArg (fun n : Int => D.v (.int .i64 n)) (by rw [wrap64 _ (by omega) (by omega)]; omega) | (simp; done)
    refine ⟨fun e4 => ?_, fun e4 => ?_⟩
    · have f35 : (j : Int) < ((List.map lk A.links).length : Int) := of_decide_eq_true e4
      refine get_ex (l := A.links) (i := j) (by first | omega | exact Nat.mod_lt _ (by omega)) fun x37 hx37 => ?_
      obtain ⟨hs1x37, hs2x37, hs3x37, hs4x37, hs5, hs6, hs7⟩ := z6 x37 (List.mem_of_getElem? hx37)
      have hspx37 := smallP_z (link_small hA0 (List.mem_of_getElem? hx37)).2.2.2.1
      have hssx37 := (link_small hA0 (List.mem_of_getElem? hx37)).2.2.2.2.2.2.2.1
      have hpos := tkQ_pos hA0 l m hx37
      have hsa := spdAt_is hx37
      refine k_ix j [D.v (.bool x37.len.s), D.v (.string x37.len.a), D.v (.string x37.len.d), D.v (.bool x37.low.s), D.v (.string x37.low.a), D.v (.string x37.low.d), D.v (.bool x37.high.s), D.v (.string x37.high.a), D.v (.string x37.high.d), D.v (.bool x37.speed.s), D.v (.string x37.speed.a), D.v (.string x37.speed.d), D.v (.bool x37.brake.s), D.v (.string x37.brake.a), D.v (.string x37.brake.d), D.list (List.map rdv x37.shape)] (by first | rfl | omega | (rw [wrap64 _ (by omega) (by omega)]; omega) | (rw [wrap64 _ (by omega) (by omega)]; split <;> omega)) (map_at hx37) rfl ?_
      refine get_ex (l := m) (i := j) (by first | omega | exact Nat.mod_lt _ (by omega)) fun x42 hx42 => ?_
      have hzx42 := hm.2 x42 (List.mem_of_getElem? hx42)
      refine k_ix j [D.v (.bool x42.s), D.v (.string x42.a), D.v (.string x42.d)] (by first | rfl | omega | (rw [wrap64 _ (by omega) (by omega)]; omega) | (rw [wrap64 _ (by omega) (by omega)]; split <;> omega)) (map_at hx42) rfl ?_
      refine get_ex (l := l) (i := j) (by first | omega | exact Nat.mod_lt _ (by omega)) fun x46 hx46 => ?_
      have hzx46 := hl.2 x46 (List.mem_of_getElem? hx46)
      refine k_ix j [D.v (.bool x46.s), D.v (.string x46.a), D.v (.string x46.d)] (by first | rfl | omega | (rw [wrap64 _ (by omega) (by omega)]; omega) | (rw [wrap64 _ (by omega) (by omega)]; split <;> omega)) (map_at hx46) rfl ?_
      refine k_sub (x := x42) (y := x46) (by omega) (by omega) fun q48 h48 z48 => ?_
      simp only [cn_z] at z48
      refine k_absV (x := cn q48) (by simp only [cn_z]; omega) (fun q49 hk_49_1 hk_49_2 => ?_)
      try simp only [cn_q] at hk_49_1
      simp only [cn_z] at hk_49_2
      refine k_div (x := cn q49) (y := x37.speed) (by simp only [cn_z]; omega) (by omega) (by exact fun e => absurd hssx37 (by rw [e]; decide)) fun q52 h52 z52 => ?_
      simp only [cn_z] at z52
      simp only [cn_q] at h52
      refine ⟨by kernel_rfl, ?_⟩
      have e52 : q52 = tkQ A l m j := by rw [h52, hk_49_1, h48]; unfold tkQ; rw [qAt_is hx42, qAt_is hx46, hsa]
      refine k_ceil (q := q52) (by omega) (by rw [e52]; exact hpos) ?_
      have hmx : tkN (tkQ A l m) (j + 1) = if clQ q52 > tkN (tkQ A l m) j then clQ q52 else tkN (tkQ A l m) j := by
        rw [e52]
        show max _ _ = _
        split <;> omega
      refine ⟨j + 1, by omega, by simp only; omega, ?_⟩
      constructor <;> (repeat' (first | exact rfl | exact True.intro | apply And.intro))
      all_goals first
        | exact congrArg (fun n : Int => D.v (.int .i64 n)) hmx
        | exact congrArg (fun n : Int => D.v (.int .i64 n)) hmx.symm
        | exact congrArg (fun n : Int => D.v (.int .i64 n)) (by rw [wrap64 _ (by omega) (by omega)]; omega)
        | exact congrArg (fun n : Int => D.v (.int .i64 n)) (by omega)
    · have f35 : ¬ ((j : Int) < ((List.map lk A.links).length : Int)) := of_decide_eq_false e4
      refine ⟨fun e5 => ?_, fun e5 => ?_⟩
      · have f61 : tkN (tkQ A l m) j > 2000 := of_decide_eq_true e5
        refine Eq.trans (b := .tup [.one (.d (.v (.int .i64 (0)))), .one (.d (.v (.int .i64 (19))))]) ?_ rfl
        obtain rfl : j = A.links.length := by omega
        have hno := tikE_3 hf1 hf2 (show ¬ tkA A l m ≤ 2000 from by unfold tkA; omega)
        rw [tikV_no (by rw [hno]; decide), hno]
        all_goals rfl
      · have f61 : ¬ (tkN (tkQ A l m) j > 2000) := of_decide_eq_false e5
        refine Eq.trans (b := .tup [.one (.d (.v (.int .i64 (tkN (tkQ A l m) j)))), .one (.d (.v (.int .i64 (0))))]) ?_ rfl
        obtain rfl : j = A.links.length := by omega
        have hy := tikE_0 hf1 hf2 (show tkA A l m ≤ 2000 from by unfold tkA; omega)
        rw [tikV_ok hy, hy]
        all_goals rfl
theorem mul_lt_div {s f n : Rat} (hs : 0 < s) : s * n < f ↔ n < f / s := by
  have h := Rat.mul_inv_cancel s (fun e => absurd hs (by rw [e]; decide))
  have hi := Rat.inv_pos.2 hs
  rw [Rat.div_def]
  constructor
  · intro g
    have := Rat.mul_lt_mul_of_pos_right g hi
    have e : s * n * s⁻¹ = n := by grind
    rw [e] at this; exact this
  · intro g
    have := Rat.mul_lt_mul_of_pos_right g hs
    have e : f * s⁻¹ * s = f := by grind
    rw [e] at this
    rw [Rat.mul_comm]; exact this
theorem tkI_full {f : Nat → Rat} {i : Nat} {n : Int} (h : tkI (tkN f i) n (f i)) (g : n = tkN f i ∨ ¬ ((2000 : Int) : Rat) < f i) (hn : 2000 < n) (hn2 : n ≤ 2001) : n = tkN f (i + 1) := by
  have h1 := tkN_mono f (i := i) (j := i + 1) (by omega)
  have h2 := tkN_top f (i + 1)
  have h3 := h.2
  rcases g with g | g
  · omega
  · have := (clQ_small g).2
    omega
theorem k_Ticks {A : ArmV} {l m : List RV} (hA : A.ok) (hl : l.length ≤ 1048576 ∧ ∀ x, x ∈ l → x.z ≤ 1048576) (hm : m.length ≤ 1048576 ∧ ∀ x, x ∈ m → x.z ≤ 1048576) (k : ∀ v n, v = tikV A l m → n = tikE A l m → K (.tup [.one (.d (.v (.int .i64 v))), .one (.d (.v (.int .i64 n)))])) : Ask 34 [.val (.agg [.d (.v (.string A.name)), .d (.v (.bool A.bx.s)), .d (.v (.string A.bx.a)), .d (.v (.string A.bx.d)), .d (.v (.bool A.by'.s)), .d (.v (.string A.by'.a)), .d (.v (.string A.by'.d)), .d (.v (.bool (A.bh))), .d (.v (.bool A.bt.s)), .d (.v (.string A.bt.a)), .d (.v (.string A.bt.d)), .d (.list (List.map lk A.links))]), .val (.one (.d (.list (List.map rd l)))), .val (.one (.d (.list (List.map rd m))))] K := use (Ticks_spec A l m hA hl hm) rfl (k _ _ rfl rfl)
set_option maxHeartbeats 4000000 in
set_option maxRecDepth 100000 in
theorem RTicks_spec (A : ArmV) (l m : List RV) (hA : A.ok) (hl : l.length ≤ 1048576 ∧ ∀ x, x ∈ l → x.z ≤ 1048576) (hm : m.length ≤ 1048576 ∧ ∀ x, x ∈ m → x.z ≤ 1048576) (hf1 : fitsE A l = 0) (hf2 : fitsE A m = 0) : Spec Tryz.prog Tab 36 [.val (.agg [.d (.v (.string A.name)), .d (.v (.bool A.bx.s)), .d (.v (.string A.bx.a)), .d (.v (.string A.bx.d)), .d (.v (.bool A.by'.s)), .d (.v (.string A.by'.a)), .d (.v (.string A.by'.d)), .d (.v (.bool (A.bh))), .d (.v (.bool A.bt.s)), .d (.v (.string A.bt.a)), .d (.v (.string A.bt.d)), .d (.list (List.map lk A.links))]), .val (.one (.d (.list (List.map rd l)))), .val (.one (.d (.list (List.map rd m))))] (int (tkA A l m)) := by
  have hA2 := hA
  obtain ⟨z1, z2, z3, z4, z5, z6⟩ := hA
  have hL : (List.map lk A.links).length = A.links.length := List.length_map ..
  have hl1 := hl.1
  have hm1 := hm.1
  have hA0 := (fits_len hf1).2
  have hll := (fits_len hf1).1
  have hml := (fits_len hf2).1
  have hn3 := (armE_ok hA0).1
  refine fn_spec Tryz.func36 rfl rfl Tryz.ntmps36 rfl (by kernel_rfl) rfl rfl ?_
  refine ⟨Nat, fun i => [(1, .val (.one (.d (.list (List.map rd l))))), (2, .val (.one (.d (.list (List.map rd m))))), (7, int (tkN (tkQ A l m) i)), (14, .val (.one (.d (.list (List.map lk A.links))))), (15, int ((List.map lk A.links).length : Int)), (16, int (i : Int))],
    fun i => [], fun i => i ≤ A.links.length, fun i => A.links.length - i, 0, ?_, Nat.zero_le _, fun i hs => ?_⟩
  · constructor <;> (repeat' (first | exact rfl | exact True.intro | exact ⟨_, _, rfl⟩ | exact (by decide) | apply And.intro))
    all_goals first | exact congrArg (fun n : Int => D.v (.int .i64 n)) (by omega) | exact congrArg (fun n : Int => D.v (.int .i64 n)) (by rw [wrap64 _ (by omega) (by omega)]; omega) | (simp; done)
  refine ⟨fun e1 => ?_, fun e1 => ?_⟩
  · have f17 : (i : Int) < ((List.map lk A.links).length : Int) := of_decide_eq_true e1
    refine get_ex (l := A.links) (i := i) (by first | omega | exact Nat.mod_lt _ (by omega)) fun x19 hx19 => ?_
    obtain ⟨hs1x19, hs2x19, hs3x19, hs4x19, hs5, hs6, hs7⟩ := z6 x19 (List.mem_of_getElem? hx19)
    have hspx19 := smallP_z (link_small hA0 (List.mem_of_getElem? hx19)).2.2.2.1
    have hssx19 := (link_small hA0 (List.mem_of_getElem? hx19)).2.2.2.2.2.2.2.1
    have hpos := tkQ_pos hA0 l m hx19
    have hsa := spdAt_is hx19
    refine k_ix i [D.v (.bool x19.len.s), D.v (.string x19.len.a), D.v (.string x19.len.d), D.v (.bool x19.low.s), D.v (.string x19.low.a), D.v (.string x19.low.d), D.v (.bool x19.high.s), D.v (.string x19.high.a), D.v (.string x19.high.d), D.v (.bool x19.speed.s), D.v (.string x19.speed.a), D.v (.string x19.speed.d), D.v (.bool x19.brake.s), D.v (.string x19.brake.a), D.v (.string x19.brake.d), D.list (List.map rdv x19.shape)] (by first | rfl | omega | (rw [wrap64 _ (by omega) (by omega)]; omega) | (rw [wrap64 _ (by omega) (by omega)]; split <;> omega)) (map_at hx19) rfl ?_
    refine get_ex (l := m) (i := i) (by first | omega | exact Nat.mod_lt _ (by omega)) fun x23 hx23 => ?_
    have hzx23 := hm.2 x23 (List.mem_of_getElem? hx23)
    refine k_ix i [D.v (.bool x23.s), D.v (.string x23.a), D.v (.string x23.d)] (by first | rfl | omega | (rw [wrap64 _ (by omega) (by omega)]; omega) | (rw [wrap64 _ (by omega) (by omega)]; split <;> omega)) (map_at hx23) rfl ?_
    refine k_From3 (x := x23) (by omega) fun q25 h25 z25 => ?_
    refine get_ex (l := l) (i := i) (by first | omega | exact Nat.mod_lt _ (by omega)) fun x28 hx28 => ?_
    have hzx28 := hl.2 x28 (List.mem_of_getElem? hx28)
    refine k_ix i [D.v (.bool x28.s), D.v (.string x28.a), D.v (.string x28.d)] (by first | rfl | omega | (rw [wrap64 _ (by omega) (by omega)]; omega) | (rw [wrap64 _ (by omega) (by omega)]; split <;> omega)) (map_at hx28) rfl ?_
    refine k_From3 (x := x28) (by omega) fun q30 h30 z30 => ?_
    refine k_Sub3 (p := q25) (q := q30) (by omega) (by omega) fun q31 h31 z31 => ?_
    refine k_absV3 (q := q31)  (fun r32 hk_32_1 hk_32_2 => ?_)
    refine k_From3 (x := x19.speed) (by omega) fun q35 h35 z35 => ?_
    refine ⟨by kernel_rfl, ?_⟩
    have e32 : r32 = absV (x23.q - x28.q) := by rw [hk_32_1, h31, h25, h30]
    have hss35 : 0 < q35 := by rw [h35]; exact hssx19
    have hfs : r32 / q35 = tkQ A l m i := by rw [h35, e32]; unfold tkQ; rw [qAt_is hx23, qAt_is hx28, hsa]
    refine ⟨Int, fun n => [(1, .val (.one (.d (.list (List.map rd l))))), (2, .val (.one (.d (.list (List.map rd m))))), (7, int n), (10, .val (.one (.ptr 10 0))), (11, .val (.one (.ptr 11 0))), (14, .val (.one (.d (.list (List.map lk A.links))))), (15, int ((List.map lk A.links).length : Int)), (16, int (i : Int))],
      fun n => [(10, .var 51 [.d (.v (.bool (decide (r32.num < 0)))), .d (.list (W (w32 r32.num.natAbs))), .d (.list (W (w32 r32.den)))]), (11, .var 51 [.d (.v (.bool (decide (q35.num < 0)))), .d (.list (W (w32 q35.num.natAbs))), .d (.list (W (w32 q35.den)))])], fun n => tkI (tkN (tkQ A l m) i) n (tkQ A l m i) ∧ (n = tkN (tkQ A l m) i ∨ ¬ ((2000 : Int) : Rat) < tkQ A l m i) ∧ n ≤ 2001, fun n => (2001 - n).toNat, tkN (tkQ A l m) i, ?_, ⟨tkI_0 _ _, .inl rfl, tkN_top _ _⟩, fun n hs => ?_⟩
    · constructor <;> (repeat' (first | exact rfl | exact True.intro | exact ⟨_, _, rfl⟩ | exact (by decide) | apply And.intro))
      all_goals first | exact congrArg (fun n : Int => D.v (.int .i64 n)) (by omega) | exact congrArg (fun n : Int => D.v (.int .i64 n)) (by rw [wrap64 _ (by omega) (by omega)]; omega) | (simp; done)
    obtain ⟨g1, g2, g3⟩ := hs
    have hn0 := tkN_pos (tkQ A l m) i
    have hn1 := g1.1
    refine fork (fun e2 => ?_) (fun e2 => ?_)
    · have f38 : n ≤ 2000 := of_decide_eq_true e2
      refine k_N3 (n) (by omega) (by omega) fun q41 h41 z41 => ?_
      have hN := h41
      refine k_Mul3 (p := q35) (q := q41) (by omega) (by omega) fun q42 h42 z42 => ?_
      refine k_Cmp3 (p := q42) (q := r32) (by omega) (by omega) fun n44 h44 => ?_
      refine ⟨by kernel_rfl, ?_⟩
      refine ⟨fun e3 => ?_, fun e3 => ?_⟩
      · have f46 : q42 < r32 := (c3_lt h44).1 (of_decide_eq_true e3)
        have hnp : (n : Rat) < tkQ A l m i := by rw [← hfs]; exact (mul_lt_div hss35).1 (by rw [h42, hN] at f46; exact f46)
        refine k_Div3 (p := r32) (q := q35) (by omega) (by omega) (by exact fun e => absurd hssx19 (by rw [← h35, e]; decide)) fun q49 h49 z49 => ?_
        refine k_Neg3 (q := q49)  fun q50 h50 z50 => ?_
        refine k_down3 (q := q50) (by omega) (fun ya51 hk_51_1 hk_51_2 => ?_)
        refine k_Neg3 (q := ya51)  fun q52 h52 z52 => ?_
        have e52 : q52 = ((clI (tkQ A l m i) : Int) : Rat) := by
          rw [h52, hk_51_1, h50, h49, hfs]
          exact (Rat.intCast_neg _).symm
        refine k_N3 (2000) (by omega) (by omega) fun q54 h54 z54 => ?_
        refine k_Cmp3 (p := q52) (q := q54) (by omega) (by omega) fun n55 h55 => ?_
        refine ⟨by kernel_rfl, ?_⟩
        refine ⟨fun e4 => ?_, fun e4 => ?_⟩
        · have f56 : q54 < q52 := (c3_gt h55).1 (of_decide_eq_true e4)
          refine Eq.trans (b := int 2001) ?_ rfl
          have hbig : ((2000 : Int) : Rat) < tkQ A l m i := lt_clI.1 (Rat.intCast_lt_intCast.1 (by rw [h54, e52] at f56; exact f56))
          rw [show tkA A l m = 2001 from tkN_late _ (i := i) (by omega) hbig]
        · have f56 : ¬ (q54 < q52) := fun hh => of_decide_eq_false e4 ((c3_gt h55).2 hh)
          have hns : ¬ ((2000 : Int) : Rat) < tkQ A l m i := fun h => f56 (by rw [h54, e52]; exact Rat.intCast_lt_intCast.2 (lt_clI.2 h))
          have hw1 : IntKind.i64.wrap (n + 1) = n + 1 := wrap64 _ (by omega) (by omega)
          have hw2 : IntKind.i64.wrap (n + 1 + 50) = n + 1 + 50 := wrap64 _ (by omega) (by omega)
          refine k_N3 (IntKind.i64.wrap ((IntKind.i64.wrap (n + 1)) + 50)) (by rw [hw1, hw2]; omega) (by rw [hw1, hw2]; omega) fun q62 h62 z62 => ?_
          rw [hw1] at h62
          refine k_Cmp3 (p := q52) (q := q62) (by omega) (by omega) fun n63 h63 => ?_
          refine ⟨by kernel_rfl, ?_⟩
          refine ⟨fun e5 => ?_, fun e5 => ?_⟩
          · have f64 : q62 < q52 := (c3_gt h63).1 (of_decide_eq_true e5)
            have hp1 : n + 1 ≤ clI (tkQ A l m i) := by have := lt_clI.2 hnp; omega
            have hp2 := (clQ_small hns).2
            have hbig : n + 1 + 50 < clI (tkQ A l m i) := Rat.intCast_lt_intCast.1 (by rw [h62, hw2] at f64; rw [← e52]; exact f64)
            refine ⟨n + 1 + 50, ⟨tkI_50 g1 hbig, .inr hns, by omega⟩, by simp only; omega, ?_⟩
            constructor <;> (repeat' (first | exact rfl | exact True.intro | apply And.intro))
            all_goals first
              | exact congrArg (fun n : Int => D.v (.int .i64 n)) (by rw [hw1, hw2])
              | exact congrArg (fun n : Int => D.v (.int .i64 n)) (by rw [hw1, hw2]; rfl)
              | exact congrArg (fun n : Int => D.v (.int .i64 n)) (by rw [wrap64 _ (by omega) (by omega)]; omega)
              | exact congrArg (fun n : Int => D.v (.int .i64 n)) (by omega)
          · have f64 : ¬ (q62 < q52) := fun hh => of_decide_eq_false e5 ((c3_gt h63).2 hh)
            have hp1 : n + 1 ≤ clI (tkQ A l m i) := by have := lt_clI.2 hnp; omega
            have hp2 := (clQ_small hns).2
            refine ⟨n + 1, ⟨tkI_1 g1 hnp, .inr hns, by omega⟩, by simp only; omega, ?_⟩
            constructor <;> (repeat' (first | exact rfl | exact True.intro | apply And.intro))
            all_goals first
              | exact congrArg (fun n : Int => D.v (.int .i64 n)) hw1
              | exact congrArg (fun n : Int => D.v (.int .i64 n)) hw1.symm
              | exact congrArg (fun n : Int => D.v (.int .i64 n)) (by rw [wrap64 _ (by omega) (by omega)]; omega)
              | exact congrArg (fun n : Int => D.v (.int .i64 n)) (by omega)
      · have f46 : ¬ (q42 < r32) := fun hh => of_decide_eq_false e3 ((c3_lt h44).2 hh)
        have hnp : ¬ (n : Rat) < tkQ A l m i := fun h => f46 (by rw [← hfs] at h; rw [h42, hN]; exact (mul_lt_div hss35).2 h)
        have hns : ¬ ((2000 : Int) : Rat) < tkQ A l m i := fun h => hnp (by have h2 : (n : Rat) ≤ ((2000 : Int) : Rat) := Rat.intCast_le_intCast.2 (by omega); grind)
        have hne : n = tkN (tkQ A l m) (i + 1) := tkI_end g1 hns hnp
        refine ⟨i + 1, by omega, by simp only; omega, ?_⟩
        constructor <;> (repeat' (first | exact rfl | exact True.intro | apply And.intro))
        all_goals first
          | exact congrArg (fun n : Int => D.v (.int .i64 n)) hne
          | exact congrArg (fun n : Int => D.v (.int .i64 n)) hne.symm
          | exact congrArg (fun n : Int => D.v (.int .i64 n)) (by rw [wrap64 _ (by omega) (by omega)]; omega)
          | exact congrArg (fun n : Int => D.v (.int .i64 n)) (by omega)
    · have f38 : ¬ (n ≤ 2000) := of_decide_eq_false e2
      refine ⟨by kernel_rfl, ?_⟩
      refine ⟨fun e => absurd e (by decide), fun _ => ?_⟩
      have hne : n = tkN (tkQ A l m) (i + 1) := tkI_full g1 g2 (by omega) g3
      refine ⟨i + 1, by omega, by simp only; omega, ?_⟩
      constructor <;> (repeat' (first | exact rfl | exact True.intro | apply And.intro))
      all_goals first
        | exact congrArg (fun n : Int => D.v (.int .i64 n)) hne
        | exact congrArg (fun n : Int => D.v (.int .i64 n)) hne.symm
        | exact congrArg (fun n : Int => D.v (.int .i64 n)) (by rw [wrap64 _ (by omega) (by omega)]; omega)
        | exact congrArg (fun n : Int => D.v (.int .i64 n)) (by omega)
  · have f17 : ¬ ((i : Int) < ((List.map lk A.links).length : Int)) := of_decide_eq_false e1
    refine Eq.trans (b := int (tkN (tkQ A l m) i)) ?_ rfl
    obtain rfl : i = A.links.length := by omega
    rfl
theorem k_RTicks {A : ArmV} {l m : List RV} (hA : A.ok) (hl : l.length ≤ 1048576 ∧ ∀ x, x ∈ l → x.z ≤ 1048576) (hm : m.length ≤ 1048576 ∧ ∀ x, x ∈ m → x.z ≤ 1048576) (hf1 : fitsE A l = 0) (hf2 : fitsE A m = 0) (k : ∀ v, v = tkA A l m → K (int v)) : Ask 36 [.val (.agg [.d (.v (.string A.name)), .d (.v (.bool A.bx.s)), .d (.v (.string A.bx.a)), .d (.v (.string A.bx.d)), .d (.v (.bool A.by'.s)), .d (.v (.string A.by'.a)), .d (.v (.string A.by'.d)), .d (.v (.bool (A.bh))), .d (.v (.bool A.bt.s)), .d (.v (.string A.bt.a)), .d (.v (.string A.bt.d)), .d (.list (List.map lk A.links))]), .val (.one (.d (.list (List.map rd l)))), .val (.one (.d (.list (List.map rd m))))] K := use (RTicks_spec A l m hA hl hm hf1 hf2) rfl (k _ rfl)
end
end Go.Proofs.YtpejadencgfnnaaGreatDoor.eng

