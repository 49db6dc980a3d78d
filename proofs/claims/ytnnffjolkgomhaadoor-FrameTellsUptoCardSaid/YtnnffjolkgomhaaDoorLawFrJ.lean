/- Contracts: sweeps, bounds, frames; gantlaw1.FrameTells returns true Joined by wip/merge_tpl.py out of XEngSweep XEngBound XEngFrame XEngFrame2 XLawFr. -/
import Derived.Test.YtnnffjolkgomhaaDoorEngSpan2
namespace Go.Proofs.YtnnffjolkgomhaaDoor.eng
open Go.RowKit num mem seg q held ratA ratB ratC ratD ratE vars ratF trq
section
variable {x y z t u v w : RV} {K : AV → Prop}
set_option maxRecDepth 100000 in
theorem vAdd_spec (x y z t : RV) (hx : x.z ≤ 1099511627776) (hy : y.z ≤ 1099511627776) (hz : z.z ≤ 1099511627776) (ht : t.z ≤ 1099511627776) : Spec Tryd.prog Tab 38 [pair x y, pair z t] (pair (cn (x.q + z.q)) (cn (y.q + t.q))) := by
  refine fn_spec Tryd.func38 rfl rfl Tryd.ntmps38 rfl (by kernel_rfl) rfl rfl ?_
  refine k_add (by omega) (by omega) fun q1 h1 z1 => ?_
  try simp only [cn_q] at h1
  refine k_add (by omega) (by omega) fun q2 h2 z2 => ?_
  try simp only [cn_q] at h2
  refine ⟨by kernel_rfl, ?_⟩
  refine Eq.trans (b := pair (cn _) (cn _)) ?_ rfl
  subst_vars; rfl
theorem k_vAdd (hx : x.z ≤ 1099511627776) (hy : y.z ≤ 1099511627776) (hz : z.z ≤ 1099511627776) (ht : t.z ≤ 1099511627776) (k : ∀ p q, p = x.q + z.q → q = y.q + t.q → (cn p).z ≤ x.z + z.z + 3 → (cn q).z ≤ y.z + t.z + 3 → K (pair (cn p) (cn q))) : Ask 38 [pair x y, pair z t] K :=
  use (vAdd_spec x y z t hx hy hz ht) rfl (k _ _ rfl rfl (by have := qs_add x.q z.q; have := x.z1; have := y.z1; have := z.z1; have := t.z1; rw [cn_z]; omega) (by have := qs_add y.q t.q; have := x.z1; have := y.z1; have := z.z1; have := t.z1; rw [cn_z]; omega))
set_option maxRecDepth 100000 in
theorem vSub_spec (x y z t : RV) (hx : x.z ≤ 1099511627776) (hy : y.z ≤ 1099511627776) (hz : z.z ≤ 1099511627776) (ht : t.z ≤ 1099511627776) : Spec Tryd.prog Tab 130 [pair x y, pair z t] (pair (cn (x.q - z.q)) (cn (y.q - t.q))) := by
  refine fn_spec Tryd.func130 rfl rfl Tryd.ntmps130 rfl (by kernel_rfl) rfl rfl ?_
  refine k_sub (by omega) (by omega) fun q1 h1 z1 => ?_
  try simp only [cn_q] at h1
  refine k_sub (by omega) (by omega) fun q2 h2 z2 => ?_
  try simp only [cn_q] at h2
  refine ⟨by kernel_rfl, ?_⟩
  refine Eq.trans (b := pair (cn _) (cn _)) ?_ rfl
  subst_vars; rfl
theorem k_vSub (hx : x.z ≤ 1099511627776) (hy : y.z ≤ 1099511627776) (hz : z.z ≤ 1099511627776) (ht : t.z ≤ 1099511627776) (k : ∀ p q, p = x.q - z.q → q = y.q - t.q → (cn p).z ≤ x.z + z.z + 3 → (cn q).z ≤ y.z + t.z + 3 → K (pair (cn p) (cn q))) : Ask 130 [pair x y, pair z t] K :=
  use (vSub_spec x y z t hx hy hz ht) rfl (k _ _ rfl rfl (by have := qs_sub x.q z.q; have := x.z1; have := y.z1; have := z.z1; have := t.z1; rw [cn_z]; omega) (by have := qs_sub y.q t.q; have := x.z1; have := y.z1; have := z.z1; have := t.z1; rw [cn_z]; omega))
set_option maxRecDepth 100000 in
theorem RV_spec (x y z t : RV) (hx : x.z ≤ 1099511627776) (hy : y.z ≤ 1099511627776) (hz : z.z ≤ 1099511627776) (ht : t.z ≤ 1099511627776) : Spec Tryd.prog Tab 37 [pair x y, pair z t] (pair (cn (z.q - x.q)) (cn (t.q - y.q))) := by
  refine fn_spec Tryd.func37 rfl rfl Tryd.ntmps37 rfl (by kernel_rfl) rfl rfl ?_
  refine k_sub (by omega) (by omega) fun q1 h1 z1 => ?_
  try simp only [cn_q] at h1
  refine k_sub (by omega) (by omega) fun q2 h2 z2 => ?_
  try simp only [cn_q] at h2
  refine ⟨by kernel_rfl, ?_⟩
  refine Eq.trans (b := pair (cn _) (cn _)) ?_ rfl
  subst_vars; rfl
theorem k_RV (hx : x.z ≤ 1099511627776) (hy : y.z ≤ 1099511627776) (hz : z.z ≤ 1099511627776) (ht : t.z ≤ 1099511627776) (k : ∀ p q, p = z.q - x.q → q = t.q - y.q → (cn p).z ≤ x.z + z.z + 3 → (cn q).z ≤ y.z + t.z + 3 → K (pair (cn p) (cn q))) : Ask 37 [pair x y, pair z t] K :=
  use (RV_spec x y z t hx hy hz ht) rfl (k _ _ rfl rfl (by have := qs_sub z.q x.q; have := x.z1; have := y.z1; have := z.z1; have := t.z1; rw [cn_z]; omega) (by have := qs_sub t.q y.q; have := x.z1; have := y.z1; have := z.z1; have := t.z1; rw [cn_z]; omega))
set_option maxRecDepth 100000 in
theorem grown_spec (x y z t u : RV) (hx : x.z ≤ 1099511627776) (hy : y.z ≤ 1099511627776) (hz : z.z ≤ 1099511627776) (ht : t.z ≤ 1099511627776) (hu : u.z ≤ 1099511627776) : Spec Tryd.prog Tab 32 [box x y z t, rat u] (box (cn (x.q - u.q)) (cn (y.q - u.q)) (cn (z.q + u.q)) (cn (t.q + u.q))) := by
  refine fn_spec Tryd.func32 rfl rfl Tryd.ntmps32 rfl (by kernel_rfl) rfl rfl ?_
  refine k_vSub (by omega) (by omega) (by omega) (by omega) fun p1 q1 e1 h1 y1 z1 => ?_
  try simp only [cn_q] at e1 h1
  refine k_vAdd (by omega) (by omega) (by omega) (by omega) fun p2 q2 e2 h2 y2 z2 => ?_
  try simp only [cn_q] at e2 h2
  refine ⟨by kernel_rfl, ?_⟩
  refine Eq.trans (b := box (cn _) (cn _) (cn _) (cn _)) ?_ rfl
  subst_vars; rfl
set_option maxRecDepth 100000 in
theorem bothB_spec (x y z t x2 y2 z2 t2 : RV) (hx : x.z ≤ 1099511627776) (hy : y.z ≤ 1099511627776) (hz : z.z ≤ 1099511627776) (ht : t.z ≤ 1099511627776) (hx2 : x2.z ≤ 1099511627776) (hy2 : y2.z ≤ 1099511627776) (hz2 : z2.z ≤ 1099511627776) (ht2 : t2.z ≤ 1099511627776) : Spec Tryd.prog Tab 35 [box x y z t, box x2 y2 z2 t2] (box (cn (minQ x.q x2.q)) (cn (minQ y.q y2.q)) (cn (maxQ z.q z2.q)) (cn (maxQ t.q t2.q))) := by
  refine fn_spec Tryd.func35 rfl rfl Tryd.ntmps35 rfl (by kernel_rfl) rfl rfl ?_
  refine k_min (by omega) (by omega) fun q1 h1 z1 => ?_
  try simp only [cn_q] at h1
  refine k_min (by omega) (by omega) fun q2 h2 z2 => ?_
  try simp only [cn_q] at h2
  refine k_max (by omega) (by omega) fun q3 h3 z3 => ?_
  try simp only [cn_q] at h3
  refine k_max (by omega) (by omega) fun q4 h4 z4 => ?_
  try simp only [cn_q] at h4
  refine ⟨by kernel_rfl, ?_⟩
  refine Eq.trans (b := box (cn _) (cn _) (cn _) (cn _)) ?_ rfl
  subst_vars; rfl
end

section
variable {x y z t : RV} {K : AV → Prop}
def rdv (p : RV × RV) : List D := rd p.1 ++ rd p.2
/-- a list of vectors -/
def vecs (l : List (RV × RV)) : AV := .val (.one (.d (.list (l.map rdv))))
theorem rd_rows2 (l : List Rat) : ∀ row, row ∈ (l.map fun q => rd (cn q)) → row.length = 3 := by
  intro row hr
  obtain ⟨q, _, rfl⟩ := List.mem_map.1 hr
  rfl
def xsQ (l : List (RV × RV)) : List Rat := l.map fun p => p.1.q
def ysQ (l : List (RV × RV)) : List Rat := l.map fun p => p.2.q
set_option maxHeartbeats 4000000 in
set_option maxRecDepth 100000 in
theorem RBound_spec (p0 : RV × RV) (l : List (RV × RV)) (hz : ∀ p, p ∈ p0 :: l → p.1.z ≤ 1073741824 ∧ p.2.z ≤ 1073741824) (hn : l.length ≤ 1073741824) :
    Spec Tryd.prog Tab 36 [vecs (p0 :: l)] (box (cn (lowL p0.1.q (xsQ l))) (cn (lowL p0.2.q (ysQ l))) (cn (highL p0.1.q (xsQ l))) (cn (highL p0.2.q (ysQ l)))) := by
  refine fn_spec Tryd.func36 rfl rfl Tryd.ntmps36 rfl (by kernel_rfl) rfl rfl ?_
  refine ⟨fun e => absurd (of_decide_eq_true e) (by simp; omega), fun _ => ?_⟩
  refine ⟨Nat, fun i => [(19, vecs (p0 :: l)), (20, int ((((p0 :: l).map rdv).length : Nat) : Int)), (21, int (i : Int)), (4, .val (.one (.row 30 0))), (5, .val (.one (.row 36 0))), (2, .val (.one (.ptr 2 0)))],
    fun i => [(2, .var 27 [.d (.v (.bool false)), .d (.v (.string ⟨#[]⟩)), .d (.v (.string ⟨#[]⟩)), .d (.v (.bool false)), .d (.v (.string ⟨#[]⟩)), .d (.v (.string ⟨#[]⟩)), .d (.v (.bool false)), .d (.v (.string ⟨#[]⟩)), .d (.v (.string ⟨#[]⟩)), .d (.v (.bool false)), .d (.v (.string ⟨#[]⟩)), .d (.v (.string ⟨#[]⟩))]),
      (30, .row 23 3 0 ((xsQ ((p0 :: l).take i)).map fun q => rd (cn q)) true), (36, .row 23 3 0 ((ysQ ((p0 :: l).take i)).map fun q => rd (cn q)) true)],
    fun i => i ≤ (p0 :: l).length,
    fun i => (p0 :: l).length - i, 0, ?_, Nat.zero_le _, fun i hs => ?_⟩
  · constructor <;> (repeat' (first | exact rfl | exact True.intro | exact ⟨_, _, rfl⟩ | exact (by decide : 0 < 3) | apply And.intro))
  refine ⟨fun e => ?_, fun e => ?_⟩
  · have hlt : i < (p0 :: l).length := by have := of_decide_eq_true e; rw [List.length_map] at this; omega
    obtain ⟨a, ha⟩ : ∃ a, (p0 :: l)[i]? = some a := ⟨_, List.getElem?_eq_getElem hlt⟩
    obtain ⟨za, zb⟩ := hz a (List.mem_of_getElem? ha)
    have htake : (p0 :: l).take (i + 1) = (p0 :: l).take i ++ [a] := by
      rw [List.take_add_one, ha]; rfl
    have hlen : ((p0 :: l).take i).length ≤ 1073741825 := by rw [List.length_take]; simp at hlt ⊢; omega
    have hw : IntKind.i64.wrap ((i : Int) + 1) = ((i + 1 : Nat) : Int) := by rw [wrap64 _ (by omega) (by simp at hlt; omega)]; omega
    have hx : (xsQ ((p0 :: l).take (i + 1))).map (fun q => rd (cn q)) = (xsQ ((p0 :: l).take i)).map (fun q => rd (cn q)) ++ [rd (cn a.1.q)] := by rw [htake]; simp [xsQ]
    have hy : (ysQ ((p0 :: l).take (i + 1))).map (fun q => rd (cn q)) = (ysQ ((p0 :: l).take i)).map (fun q => rd (cn q)) ++ [rd (cn a.2.q)] := by rw [htake]; simp [ysQ]
    refine k_at (rdv a) (Int.natCast_nonneg _) (by rw [Int.toNat_natCast, List.getElem?_map, ha]; rfl) rfl ?_
    refine k_plain (x := a.1) (by omega) fun q1 h1 z1 => ?_
    subst h1
    refine ⟨⟨rd_rows2 [a.1.q], ?_, ?_⟩, ?_⟩
    · simp only [xsQ, List.length_map, List.length_cons, List.length_nil]; omega
    · simp only [xsQ, List.length_map, List.length_cons, List.length_nil]; omega
    refine k_plain (x := a.2) (by omega) fun q2 h2 z2 => ?_
    subst h2
    refine ⟨⟨rd_rows2 [a.2.q], ?_, ?_⟩, ?_⟩
    · simp only [ysQ, List.length_map, List.length_cons, List.length_nil]; omega
    · simp only [ysQ, List.length_map, List.length_cons, List.length_nil]; omega
    refine ⟨by kernel_rfl, ?_⟩
    refine ⟨i + 1, hlt, by simp only; omega, ?_⟩
    constructor <;> (repeat' (first | exact rfl | exact True.intro | apply And.intro))
    all_goals first
      | exact congrArg (fun n : Int => D.v (.int .i64 n)) hw.symm
      | exact hx
      | exact hx.symm
      | exact hy
      | exact hy.symm
  · have hge : i = (p0 :: l).length := by have := of_decide_eq_false e; rw [List.length_map] at this; omega
    subst hge
    have hx : (xsQ ((p0 :: l).take (p0 :: l).length)).map (fun q => rd (cn q)) = (p0.1.q :: xsQ l).map fun q => rd (cn q) := by rw [List.take_length]; rfl
    have hy : (ysQ ((p0 :: l).take (p0 :: l).length)).map (fun q => rd (cn q)) = (p0.2.q :: ysQ l).map fun q => rd (cn q) := by rw [List.take_length]; rfl
    refine k_RAro 1073741825 (by decide) p0.1.q (xsQ l) hx ?_ (by simp [xsQ]; omega) fun p1 q1 e1 h1 y1 z1 => ?_
    · intro q hq
      obtain ⟨p, hp, rfl⟩ := List.mem_map.1 (show q ∈ (p0 :: l).map (fun p => p.1.q) from hq)
      have := (hz p hp).1; have := p.1.z1; omega
    refine k_RAro 1073741825 (by decide) p0.2.q (ysQ l) hy ?_ (by simp [ysQ]; omega) fun p2 q2 e2 h2 y2 z2 => ?_
    · intro q hq
      obtain ⟨p, hp, rfl⟩ := List.mem_map.1 (show q ∈ (p0 :: l).map (fun p => p.2.q) from hq)
      have := (hz p hp).2; have := p.2.z1; omega
    refine Eq.trans (b := box (cn _) (cn _) (cn _) (cn _)) ?_ rfl
    subst_vars; rfl
end

section
variable {x y z t u v : RV} {h : Bool} {K : AV → Prop}
def vtX (h : Bool) (p x y : Rat) : Rat := x * cosq h p - y * sinq (tq h p)
def vtY (h : Bool) (p x y : Rat) : Rat := x * sinq (tq h p) + y * cosq h p
set_option maxRecDepth 100000 in
theorem vTurn_spec (h : Bool) (x y z : RV) (hx : x.z ≤ 16777216) (hy : y.z ≤ 16777216) (hz : z.z ≤ 16777216) : Spec Tryd.prog Tab 144 [pair x y, turn h z] (pair (cn (vtX h z.q x.q y.q)) (cn (vtY h z.q x.q y.q))) := by
  refine fn_spec Tryd.func144 rfl rfl Tryd.ntmps144 rfl (by kernel_rfl) rfl rfl ?_
  refine k_tCos (by omega) fun q1 h1 z1 => ?_
  try simp only [cn_q] at h1
  refine k_tSin (by omega) fun q2 h2 z2 => ?_
  try simp only [cn_q] at h2
  refine ⟨by kernel_rfl, ?_⟩
  refine k_mul (by omega) (by omega) fun q3 h3 z3 => ?_
  try simp only [cn_q] at h3
  refine k_mul (by omega) (by omega) fun q4 h4 z4 => ?_
  try simp only [cn_q] at h4
  refine k_sub (by omega) (by omega) fun q5 h5 z5 => ?_
  try simp only [cn_q] at h5
  refine k_mul (by omega) (by omega) fun q6 h6 z6 => ?_
  try simp only [cn_q] at h6
  refine k_mul (by omega) (by omega) fun q7 h7 z7 => ?_
  try simp only [cn_q] at h7
  refine k_add (by omega) (by omega) fun q8 h8 z8 => ?_
  try simp only [cn_q] at h8
  refine ⟨by kernel_rfl, ?_⟩
  refine Eq.trans (b := pair (cn _) (cn _)) ?_ rfl
  subst_vars; rfl
theorem qs_vt (h : Bool) (p x y : Rat) : qs (vtX h p x y) ≤ qs x + qs y + 8 * qs p + 200 ∧ qs (vtY h p x y) ≤ qs x + qs y + 8 * qs p + 200 := by
  have h1 := qs_cosq h p
  have h2 := qs_sinq (tq h p)
  have h3 : qs (tq h p) ≤ qs p + 8 := by
    unfold tq; split
    · have := qs_0; omega
    · omega
  have := qs_mul x (cosq h p)
  have := qs_mul y (sinq (tq h p))
  have := qs_mul x (sinq (tq h p))
  have := qs_mul y (cosq h p)
  have := qs_sub (x * cosq h p) (y * sinq (tq h p))
  have := qs_add (x * sinq (tq h p)) (y * cosq h p)
  unfold vtX vtY
  constructor <;> omega
theorem k_vTurn (hx : x.z ≤ 16777216) (hy : y.z ≤ 16777216) (hz : z.z ≤ 16777216) (k : ∀ p q, p = vtX h z.q x.q y.q → q = vtY h z.q x.q y.q → (cn p).z ≤ x.z + y.z + 8 * z.z + 240 → (cn q).z ≤ x.z + y.z + 8 * z.z + 240 → K (pair (cn p) (cn q))) : Ask 144 [pair x y, turn h z] K :=
  use (vTurn_spec h x y z hx hy hz) rfl (k _ _ rfl rfl (by have := (qs_vt h z.q x.q y.q).1; have := x.z1; have := y.z1; have := z.z1; rw [cn_z]; omega) (by have := (qs_vt h z.q x.q y.q).2; have := x.z1; have := y.z1; have := z.z1; rw [cn_z]; omega))
set_option maxRecDepth 100000 in
theorem put_spec (x y : RV) (h : Bool) (z t u : RV) (hx : x.z ≤ 16777216) (hy : y.z ≤ 16777216) (hz : z.z ≤ 16777216) (ht : t.z ≤ 16777216) (hu : u.z ≤ 16777216) : Spec Tryd.prog Tab 72 [frame x y h z, pair t u] (pair (cn (x.q + vtX h z.q t.q u.q)) (cn (y.q + vtY h z.q t.q u.q))) := by
  refine fn_spec Tryd.func72 rfl rfl Tryd.ntmps72 rfl (by kernel_rfl) rfl rfl ?_
  refine k_vTurn (by omega) (by omega) (by omega) fun p1 q1 e1 h1 y1 z1 => ?_
  try simp only [cn_q] at e1 h1
  refine k_vAdd (by omega) (by omega) (by omega) (by omega) fun p2 q2 e2 h2 y2 z2 => ?_
  try simp only [cn_q] at e2 h2
  refine ⟨by kernel_rfl, ?_⟩
  refine Eq.trans (b := pair (cn _) (cn _)) ?_ rfl
  subst_vars; rfl
set_option maxRecDepth 100000 in
theorem RMoved_spec (x y : RV) (h : Bool) (z t u : RV) (hx : x.z ≤ 16777216) (hy : y.z ≤ 16777216) (hz : z.z ≤ 16777216) (ht : t.z ≤ 16777216) (hu : u.z ≤ 16777216) : Spec Tryd.prog Tab 71 [frame x y h z, pair t u] (pair (cn (x.q + vtX h z.q t.q u.q)) (cn (y.q + vtY h z.q t.q u.q))) := by
  refine fn_spec Tryd.func71 rfl rfl Tryd.ntmps71 rfl (by kernel_rfl) rfl rfl ?_
  refine k_RCircle (by omega) fun p1 q1 e1 h1 y1 z1 => ?_
  try simp only [cn_q] at e1 h1
  refine k_mul (by omega) (by omega) fun q2 h2 z2 => ?_
  try simp only [cn_q] at h2
  refine k_mul (by omega) (by omega) fun q3 h3 z3 => ?_
  try simp only [cn_q] at h3
  refine k_sub (by omega) (by omega) fun q4 h4 z4 => ?_
  try simp only [cn_q] at h4
  refine k_add (by omega) (by omega) fun q5 h5 z5 => ?_
  try simp only [cn_q] at h5
  refine k_mul (by omega) (by omega) fun q6 h6 z6 => ?_
  try simp only [cn_q] at h6
  refine k_mul (by omega) (by omega) fun q7 h7 z7 => ?_
  try simp only [cn_q] at h7
  refine k_add (by omega) (by omega) fun q8 h8 z8 => ?_
  try simp only [cn_q] at h8
  refine k_add (by omega) (by omega) fun q9 h9 z9 => ?_
  try simp only [cn_q] at h9
  refine ⟨by kernel_rfl, ?_⟩
  refine Eq.trans (b := pair (cn _) (cn _)) ?_ rfl
  unfold vtX vtY
  rw [← circ_cos, ← sirc_sin]
  subst_vars; rfl
end

section
variable {x y z t u v w x2 y2 z2 : RV} {h g : Bool} {K : AV → Prop}
theorem k_put (hx : x.z ≤ 16777216) (hy : y.z ≤ 16777216) (hz : z.z ≤ 16777216) (ht : t.z ≤ 16777216) (hu : u.z ≤ 16777216) (k : ∀ p q, p = x.q + vtX h z.q t.q u.q → q = y.q + vtY h z.q t.q u.q → (cn p).z ≤ x.z + t.z + u.z + 8 * z.z + 260 → (cn q).z ≤ y.z + t.z + u.z + 8 * z.z + 260 → K (pair (cn p) (cn q))) : Ask 72 [frame x y h z, pair t u] K :=
  use (put_spec x y h z t u hx hy hz ht hu) rfl (k _ _ rfl rfl (by have := qs_add x.q (vtX h z.q t.q u.q); have := (qs_vt h z.q t.q u.q).1; have := x.z1; have := t.z1; have := u.z1; have := z.z1; rw [cn_z]; omega) (by have := qs_add y.q (vtY h z.q t.q u.q); have := (qs_vt h z.q t.q u.q).2; have := y.z1; have := t.z1; have := u.z1; have := z.z1; rw [cn_z]; omega))
theorem k_RMoved (hx : x.z ≤ 16777216) (hy : y.z ≤ 16777216) (hz : z.z ≤ 16777216) (ht : t.z ≤ 16777216) (hu : u.z ≤ 16777216) (k : ∀ p q, p = x.q + vtX h z.q t.q u.q → q = y.q + vtY h z.q t.q u.q → (cn p).z ≤ x.z + t.z + u.z + 8 * z.z + 260 → (cn q).z ≤ y.z + t.z + u.z + 8 * z.z + 260 → K (pair (cn p) (cn q))) : Ask 71 [frame x y h z, pair t u] K :=
  use (RMoved_spec x y h z t u hx hy hz ht hu) rfl (k _ _ rfl rfl (by have := qs_add x.q (vtX h z.q t.q u.q); have := (qs_vt h z.q t.q u.q).1; have := x.z1; have := t.z1; have := u.z1; have := z.z1; rw [cn_z]; omega) (by have := qs_add y.q (vtY h z.q t.q u.q); have := (qs_vt h z.q t.q u.q).2; have := y.z1; have := t.z1; have := u.z1; have := z.z1; rw [cn_z]; omega))
set_option maxRecDepth 100000 in
theorem fZero_spec  : Spec Tryd.prog Tab 67 [] (frame (cn ((0 : Int) : Rat)) (cn ((0 : Int) : Rat)) false (cn ((0 : Int) : Rat))) := by
  refine fn_spec Tryd.func67 rfl rfl Tryd.ntmps67 rfl (by kernel_rfl) rfl rfl ?_
  refine k_of (0) (by omega) (by omega) fun q1 h1 z1 => ?_
  refine k_tOf (by omega) fun q2 h2 z2 => ?_
  try simp only [cn_q] at h2
  refine ⟨by kernel_rfl, ?_⟩
  refine Eq.trans (b := frame (cn _) (cn _) false (cn _)) ?_ rfl
  subst_vars; rfl
theorem k_fZero (k : ∀ q, q = ((0 : Int) : Rat) → (cn q).z ≤ 8 → K (frame (cn q) (cn q) false (cn q))) : Ask 67 [] K :=
  use fZero_spec rfl (k _ rfl (by have := qs_0; rw [cn_z]; omega))
set_option maxRecDepth 100000 in
theorem fThen_spec (x y : RV) (h : Bool) (z x2 y2 : RV) (g : Bool) (z2 : RV) (hx : x.z ≤ 16777216) (hy : y.z ≤ 16777216) (hz : z.z ≤ 16777216) (hx2 : x2.z ≤ 16777216) (hy2 : y2.z ≤ 16777216) (hz2 : z2.z ≤ 16777216) : Spec Tryd.prog Tab 68 [frame x y h z, frame x2 y2 g z2] (frame (cn (x.q + vtX h z.q x2.q y2.q)) (cn (y.q + vtY h z.q x2.q y2.q)) (thnH h g z.q z2.q) (cn (thnQ h g z.q z2.q))) := by
  refine fn_spec Tryd.func68 rfl rfl Tryd.ntmps68 rfl (by kernel_rfl) rfl rfl ?_
  refine k_put (by omega) (by omega) (by omega) (by omega) (by omega) fun p1 q1 e1 h1 y1 z1 => ?_
  refine k_tThen (by omega) (by omega) fun b2 q2 e2 h2 z2 => ?_
  refine ⟨by kernel_rfl, ?_⟩
  refine Eq.trans (b := frame (cn _) (cn _) _ (cn _)) ?_ rfl
  subst_vars; rfl
theorem k_fThen (hx : x.z ≤ 16777216) (hy : y.z ≤ 16777216) (hz : z.z ≤ 16777216) (hx2 : x2.z ≤ 16777216) (hy2 : y2.z ≤ 16777216) (hz2 : z2.z ≤ 16777216) (k : ∀ p q b r, p = x.q + vtX h z.q x2.q y2.q → q = y.q + vtY h z.q x2.q y2.q → b = thnH h g z.q z2.q → r = thnQ h g z.q z2.q → K (frame (cn p) (cn q) b (cn r))) : Ask 68 [frame x y h z, frame x2 y2 g z2] K :=
  use (fThen_spec x y h z x2 y2 g z2 hx hy hz hx2 hy2 hz2) rfl (k _ _ _ _ rfl rfl rfl rfl)
set_option maxRecDepth 100000 in
theorem fBack_spec (x y : RV) (h : Bool) (z : RV) (hx : x.z ≤ 1048576) (hy : y.z ≤ 1048576) (hz : z.z ≤ 1048576) : Spec Tryd.prog Tab 69 [frame x y h z] (frame (cn (vtX h (-tq h z.q) (((0 : Int) : Rat) - x.q) (((0 : Int) : Rat) - y.q))) (cn (vtY h (-tq h z.q) (((0 : Int) : Rat) - x.q) (((0 : Int) : Rat) - y.q))) h (cn (-tq h z.q))) := by
  refine fn_spec Tryd.func69 rfl rfl Tryd.ntmps69 rfl (by kernel_rfl) rfl rfl ?_
  refine k_tBack (by omega) fun q1 h1 z1 => ?_
  refine k_fZero fun q2 e2 z2 => ?_
  refine k_vSub (by omega) (by omega) (by omega) (by omega) fun p3 q3 e3 h3 y3 z3 => ?_
  refine k_vTurn (by omega) (by omega) (by omega) fun p4 q4 e4 h4 y4 z4 => ?_
  refine ⟨by kernel_rfl, ?_⟩
  try simp only [cn_q] at *
  refine Eq.trans (b := frame (cn _) (cn _) _ (cn _)) ?_ rfl
  subst_vars; rfl
theorem k_fBack (hx : x.z ≤ 1048576) (hy : y.z ≤ 1048576) (hz : z.z ≤ 1048576) (k : ∀ p q r, p = vtX h (-tq h z.q) (((0 : Int) : Rat) - x.q) (((0 : Int) : Rat) - y.q) → q = vtY h (-tq h z.q) (((0 : Int) : Rat) - x.q) (((0 : Int) : Rat) - y.q) → r = -tq h z.q → K (frame (cn p) (cn q) h (cn r))) : Ask 69 [frame x y h z] K :=
  use (fBack_spec x y h z hx hy hz) rfl (k _ _ _ rfl rfl rfl)
def movV (x y : RV) (h : Bool) (z : RV) (p : RV × RV) : RV × RV := (cn (x.q + vtX h z.q p.1.q p.2.q), cn (y.q + vtY h z.q p.1.q p.2.q))
def movL (x y : RV) (h : Bool) (z : RV) (l : List (RV × RV)) (i : Nat) : List (List D) := ((l.take i).map fun p => rdv (movV x y h z p)) ++ List.replicate (l.length - i) (rdv (z0, z0))
theorem movL_set (x y : RV) (h : Bool) (z : RV) (l : List (RV × RV)) (i : Nat) (a : RV × RV) (ha : l[i]? = some a) : (movL x y h z l i).set i (rdv (movV x y h z a)) = movL x y h z l (i + 1) := by
  have hlt : i < l.length := (List.getElem?_eq_some_iff.1 ha).1
  unfold movL
  rw [List.take_add_one, ha]
  have h1 : ((l.take i).map fun p => rdv (movV x y h z p)).length = i := by rw [List.length_map, List.length_take]; omega
  rw [List.set_append_right _ _ (by omega), h1, Nat.sub_self]
  have h2 : l.length - i = (l.length - (i + 1)) + 1 := by omega
  rw [h2, List.replicate_succ]
  simp
theorem movL_len (x y : RV) (h : Bool) (z : RV) (l : List (RV × RV)) (i : Nat) (hi : i ≤ l.length) : (movL x y h z l i).length = l.length := by
  unfold movL
  simp only [List.length_append, List.length_map, List.length_take, List.length_replicate]; omega
theorem k_at_own {xs : List (List D)} {m : Int} {o v n : Nat} (i : Nat) (hm : m = (i : Int)) (h : i < xs.length) (k : K (.val (.one (.rp o v n i 0)))) :
    ∃ r, (0 ≤ m ∧ m < (xs.length : Int) ∧ r = .val (.one (.rp o v n m.toNat 0))) ∧ K r := ⟨_, ⟨by omega, by omega, rfl⟩, by subst hm; exact k⟩
set_option maxRecDepth 100000 in
theorem fList_spec (x y : RV) (h : Bool) (z : RV) (l : List (RV × RV)) (hx : x.z ≤ 16777216) (hy : y.z ≤ 16777216) (hz : z.z ≤ 16777216) (hl : ∀ p, p ∈ l → p.1.z ≤ 16777216 ∧ p.2.z ≤ 16777216) (hn : l.length ≤ 1073741824) :
    Spec Tryd.prog Tab 70 [frame x y h z, vecs l] (vecs (l.map (movV x y h z))) := by
  refine fn_spec Tryd.func70 rfl rfl Tryd.ntmps70 rfl (by kernel_rfl) rfl rfl ?_
  refine ⟨⟨Int.natCast_nonneg _, rfl, by rw [List.length_map]; show ((l.length : Nat) : Int) * ((80 : Nat) : Int) ≤ _; omega, by rw [List.length_map]; omega⟩, ?_⟩
  refine ⟨Nat, fun i => [(5, .val (.one (.row 10 0))), (11, vecs l), (12, int (((l.map rdv).length : Nat) : Int)), (13, int (i : Int)), (2, .val (.one (.ptr 2 0)))],
    fun i => [(2, .var 99 (rc x ++ rc y ++ [.d (.v (.bool h))] ++ rc z)), (10, .row 25 6 0 (movL x y h z l i) true)],
    fun i => i ≤ l.length, fun i => l.length - i, 0, ?_, Nat.zero_le _, fun i hs => ?_⟩
  · constructor <;> (repeat' (first | exact rfl | exact True.intro | apply And.intro))
    all_goals (simp only [List.length_map, Int.toNat_natCast]; rfl)
  refine ⟨fun e => ?_, fun e => ?_⟩
  · have hlt : i < l.length := by have := of_decide_eq_true e; rw [List.length_map] at this; omega
    obtain ⟨a, ha⟩ : ∃ a, l[i]? = some a := ⟨_, List.getElem?_eq_getElem hlt⟩
    obtain ⟨za, zb⟩ := hl a (List.mem_of_getElem? ha)
    have hw : IntKind.i64.wrap ((i : Int) + 1) = ((i + 1 : Nat) : Int) := by rw [wrap64 _ (by omega) (by omega)]; omega
    refine k_at (rdv a) (Int.natCast_nonneg _) (by rw [Int.toNat_natCast, List.getElem?_map, ha]; rfl) rfl ?_
    refine k_put (t := a.1) (u := a.2) (by omega) (by omega) (by omega) (by omega) (by omega) fun p q e1 e2 y1 y2 => ?_
    refine k_at_own i rfl (by rw [movL_len x y h z l i hs]; exact hlt) ?_
    refine ⟨by rw [movL_len x y h z l i hs]; exact hlt, ?_⟩
    refine ⟨i + 1, hlt, by simp only; omega, ?_⟩
    constructor <;> (repeat' (first | exact rfl | exact True.intro | apply And.intro))
    all_goals first
      | exact congrArg (fun n : Int => D.v (.int .i64 n)) hw.symm
      | (rw [← movL_set x y h z l i a ha]; subst e1 e2; rfl)
  · have hge : i = l.length := by have := of_decide_eq_false e; rw [List.length_map] at this; omega
    subst hge
    refine Eq.trans (b := .val (.one (.d (.list (movL x y h z l l.length))))) ?_ rfl
    unfold movL vecs
    rw [List.take_length, Nat.sub_self, List.map_map]; simp [Function.comp_def]
theorem k_fList (l : List (RV × RV)) {vv : List (List D)} (hv : vv = l.map rdv) (hx : x.z ≤ 16777216) (hy : y.z ≤ 16777216) (hz : z.z ≤ 16777216) (hl : ∀ p, p ∈ l → p.1.z ≤ 16777216 ∧ p.2.z ≤ 16777216) (hn : l.length ≤ 1073741824) (k : K (vecs (l.map (movV x y h z)))) : Ask 70 [frame x y h z, .val (.one (.d (.list vv)))] K := by
  subst hv
  exact use (fList_spec x y h z l hx hy hz hl hn) rfl k
end

section
variable {x y z t u x2 y2 z2 : RV} {h g : Bool} {K : AV → Prop}
theorem zero_sub' (a : Rat) : ((0 : Int) : Rat) - a = -a := by rw [Rat.sub_eq_add_neg]; exact Rat.zero_add _
set_option maxHeartbeats 4000000 in
set_option maxRecDepth 100000 in
theorem frameTells_spec (x y : RV) (h : Bool) (z x2 y2 : RV) (g : Bool) (z2 t u : RV) (hx : x.z ≤ 1048576) (hy : y.z ≤ 1048576) (hz : z.z ≤ 1048576) (hx2 : x2.z ≤ 1048576) (hy2 : y2.z ≤ 1048576) (hz2 : z2.z ≤ 1048576) (ht : t.z ≤ 1048576) (hu : u.z ≤ 1048576) :
    Spec Tryd.prog Tab 9 [frame x y h z, frame x2 y2 g z2, pair t u] (bool true) := by
  refine fn_spec Tryd.func9 rfl rfl Tryd.ntmps9 rfl (by kernel_rfl) rfl rfl ?_
  have hz0 : z0.z ≤ 1048576 := by rw [z0_z]; omega
  refine k_I (0) (by omega) (by omega) fun i1 j1 v1 => ?_
  refine k_I (0) (by omega) (by omega) fun i2 j2 v2 => ?_
  refine k_I (0) (by omega) (by omega) fun i3 j3 v3 => ?_
  refine k_turnBegun ?_
  refine k_fZero fun q0 e0 w0 => ?_
  refine k_neq_frame_t ⟨by rw [e0, j1], by rw [e0, j2], rfl, by rw [e0, j3]⟩ ?_
  refine ⟨by kernel_rfl, ?_⟩
  refine ⟨fun e => by simp at e, fun _ => ?_⟩
  refine k_fThen (x := x) (y := y) (h := h) (z := z) (x2 := x2) (y2 := y2) (g := g) (z2 := z2) (by omega) (by omega) (by omega) (by omega) (by omega) (by omega) fun pa pb pc pd a1 a2 a3 a4 => ?_
  refine k_fBack (x := x) (y := y) (h := h) (z := z) (by omega) (by omega) (by omega) fun ba bb bc b1 b2 b3 => ?_
  refine ⟨by kernel_rfl, ?_⟩
  refine k_fList (x := x) (y := y) (h := h) (z := z) [(t, u), (x2, y2)] rfl (by omega) (by omega) (by omega) (by
    intro p hp
    simp only [List.mem_cons, List.mem_nil_iff, or_false] at hp
    rcases hp with rfl | rfl <;> exact ⟨by simp only; omega, by simp only; omega⟩) (by simp) ?_
  refine k_at (rdv (movV x y h z (t, u))) (by decide) rfl rfl ?_
  refine k_RMoved (x := x) (y := y) (h := h) (z := z) (t := t) (u := u) (by omega) (by omega) (by omega) (by omega) (by omega) fun ma mb m1 m2 _ _ => ?_
  refine k_neq_vec_t ⟨by rw [m1]; rfl, by rw [m2]; rfl⟩ ?_
  refine k_at (rdv (movV x y h z (x2, y2))) (by decide) rfl rfl ?_
  refine k_RMoved (x := x) (y := y) (h := h) (z := z) (t := x2) (u := y2) (by omega) (by omega) (by omega) (by omega) (by omega) fun na nb n1 n2 _ _ => ?_
  refine k_neq_vec_t ⟨by rw [n1]; rfl, by rw [n2]; rfl⟩ ?_
  refine ⟨by kernel_rfl, ?_⟩
  refine ⟨fun e => by simp at e, fun _ => ?_⟩
  refine k_RCircle (h := h) (x := z) (by omega) fun c s c1 s1 zc zs => ?_
  refine k_neg (by omega) fun s2 s3 zs2 => ?_
  simp only [cn_q] at s3
  refine k_RTurnOf (by omega) (by omega) fun rb rq r1 r2 zr => ?_
  simp only [cn_q] at r1 r2
  refine ⟨by kernel_rfl, ?_⟩
  refine k_neg (x := x) (by omega) fun x3 x4 zx3 => ?_
  refine k_neg (x := y) (by omega) fun y3 y4 zy3 => ?_
  refine k_RMoved (x := z0) (y := z0) (h := rb) (z := cn rq) (t := cn x3) (u := cn y3) (by omega) (by omega) (by omega) (by omega) (by omega) fun ta tb t1 t2 _ _ => ?_
  simp only [cn_q] at t1 t2
  refine ⟨by kernel_rfl, ?_⟩
  have hback : rb = h ∧ rq = -tq h z.q := by
    have := back_law h z.q
    rw [r1, r2, s3, c1, s1, circ_cos, sirc_sin]
    exact this
  obtain ⟨hrb, hrq⟩ := hback
  refine k_put (x := x) (y := y) (h := h) (z := z) (t := t) (u := u) (by omega) (by omega) (by omega) (by omega) (by omega) fun oa ob o1 o2 _ _ => ?_
  refine k_RMoved (x := x) (y := y) (h := h) (z := z) (t := t) (u := u) (by omega) (by omega) (by omega) (by omega) (by omega) fun la lb l1 l2 _ _ => ?_
  refine k_eql_vec_t ⟨by rw [o1, l1], by rw [o2, l2]⟩ ?_
  refine k_RMoved (x := x) (y := y) (h := h) (z := z) (t := x2) (u := y2) (by omega) (by omega) (by omega) (by omega) (by omega) fun da db d1 d2 _ _ => ?_
  refine k_eql_vec_t ⟨by rw [a1, d1], by rw [a2, d2]⟩ ?_
  refine k_RBoth (h := h) (g := g) (x := z) (y := z2) (by omega) (by omega) fun fb fq f1 f2 _ => ?_
  refine k_RSame_eq (by rw [a3, f1]) (by rw [a4, f2]) ?_
  refine k_eql_vec_t ⟨congrArg cn (by rw [b1, t1, hrb, hrq, x4, y4, z0_q, Rat.zero_add, zero_sub', zero_sub']), congrArg cn (by rw [b2, t2, hrb, hrq, x4, y4, z0_q, Rat.zero_add, zero_sub', zero_sub'])⟩ ?_
  refine k_RSame_eq hrb.symm (by rw [b3, hrq]) ?_
  refine ⟨by kernel_rfl, ?_⟩
  exact rfl
theorem frameTells_walk (s0 : Bool) (a0 d0 : ByteArray) (s1 : Bool) (a1 d1 : ByteArray) (h0 : Bool) (s2 : Bool) (a2 d2 : ByteArray) (s3 : Bool) (a3 d3 : ByteArray) (s4 : Bool) (a4 d4 : ByteArray) (h1 : Bool) (s5 : Bool) (a5 d5 : ByteArray) (s6 : Bool) (a6 d6 : ByteArray) (s7 : Bool) (a7 d7 : ByteArray) (N : Nat) (w : World) (_ : 1 ≤ N) (hN : N ≤ 1048576)
    (k1 : a0.size ≤ N) (k2 : d0.size ≤ N) (k3 : a1.size ≤ N) (k4 : d1.size ≤ N) (k5 : a2.size ≤ N) (k6 : d2.size ≤ N) (k7 : a3.size ≤ N) (k8 : d3.size ≤ N) (k9 : a4.size ≤ N) (k10 : d4.size ≤ N) (k11 : a5.size ≤ N) (k12 : d5.size ≤ N) (k13 : a6.size ≤ N) (k14 : d6.size ≤ N) (k15 : a7.size ≤ N) (k16 : d7.size ≤ N) (hT : Tab w) :
    Calls Tryd.prog 9 #[.agg #[.bool s0, .string a0, .string d0, .bool s1, .string a1, .string d1, .bool h0, .bool s2, .string a2, .string d2], .agg #[.bool s3, .string a3, .string d3, .bool s4, .string a4, .string d4, .bool h1, .bool s5, .string a5, .string d5], .agg #[.bool s6, .string a6, .string d6, .bool s7, .string a7, .string d7]] w fun e w' => e = .returned (.bool true) ∧ Below w.heap.size w w' :=
  have zz : ∀ (s : Bool) (a d : ByteArray), a.size ≤ N → d.size ≤ N → RV.z ⟨s, a, d⟩ ≤ 1048576 := fun s a d h1 h2 => by unfold RV.z; exact Nat.le_trans (Nat.max_le.2 ⟨h1, h2⟩) hN
  calls_of_spec (frameTells_spec ⟨s0, a0, d0⟩ ⟨s1, a1, d1⟩ h0 ⟨s2, a2, d2⟩ ⟨s3, a3, d3⟩ ⟨s4, a4, d4⟩ h1 ⟨s5, a5, d5⟩ ⟨s6, a6, d6⟩ ⟨s7, a7, d7⟩ (zz _ _ _ k1 k2) (zz _ _ _ k3 k4) (zz _ _ _ k5 k6) (zz _ _ _ k7 k8) (zz _ _ _ k9 k10) (zz _ _ _ k11 k12) (zz _ _ _ k13 k14) (zz _ _ _ k15 k16)) rfl hT
    (pvl_rel (vs := [frame ⟨s0, a0, d0⟩ ⟨s1, a1, d1⟩ h0 ⟨s2, a2, d2⟩, frame ⟨s3, a3, d3⟩ ⟨s4, a4, d4⟩ h1 ⟨s5, a5, d5⟩, pair ⟨s6, a6, d6⟩ ⟨s7, a7, d7⟩]) rfl)
end

end Go.Proofs.YtnnffjolkgomhaaDoor.eng
