/- Contracts: package sweep's boxes, gantref1.Bound; gantlaw1.SweepBoxes: it returns true. Joined by wip/merge_tpl.py out of XEngSweep XEngBound XLawSw. -/
import Derived.Test.YtnnffjolkgomhaaDoorEngSpan2
namespace Go.Proofs.YtnnffjolkgomhaaDoor.eng
open Go.RowKit num mem seg q held ratA ratB ratC ratD ratE vars ratF trq
section
variable {x y z t u v w : RV} {K : AV → Prop}
set_option maxRecDepth 100000 in
theorem vAdd_spec (x y z t : RV) (hx : x.z ≤ 1099511627776) (hy : y.z ≤ 1099511627776) (hz : z.z ≤ 1099511627776) (ht : t.z ≤ 1099511627776) : Spec Tryd.prog Tab 38 [pair x y, pair z t] (pair (cn (x.q + z.q)) (cn (y.q + t.q))) := by
  refine fn_spec Tryd.func38 rfl rfl Tryd.ntmps38 rfl (by kernel_rfl) rfl rfl ?_
  refine k_add (by omega) (by omega) fun q1 h1 z1 => ?_
  try simp only [cn_q] at h1
  refine k_add (by omega) (by omega) fun q2 h2 z2 => ?_
  try simp only [cn_q] at h2
  refine ⟨by kernel_rfl, ?_⟩
  refine Eq.trans (b := pair (cn _) (cn _)) ?_ rfl
  subst_vars; rfl
theorem k_vAdd (hx : x.z ≤ 1099511627776) (hy : y.z ≤ 1099511627776) (hz : z.z ≤ 1099511627776) (ht : t.z ≤ 1099511627776) (k : ∀ p q, p = x.q + z.q → q = y.q + t.q → (cn p).z ≤ x.z + z.z + 3 → (cn q).z ≤ y.z + t.z + 3 → K (pair (cn p) (cn q))) : Ask 38 [pair x y, pair z t] K :=
  use (vAdd_spec x y z t hx hy hz ht) rfl (k _ _ rfl rfl (by have := qs_add x.q z.q; have := x.z1; have := y.z1; have := z.z1; have := t.z1; rw [cn_z]; omega) (by have := qs_add y.q t.q; have := x.z1; have := y.z1; have := z.z1; have := t.z1; rw [cn_z]; omega))
set_option maxRecDepth 100000 in
theorem vSub_spec (x y z t : RV) (hx : x.z ≤ 1099511627776) (hy : y.z ≤ 1099511627776) (hz : z.z ≤ 1099511627776) (ht : t.z ≤ 1099511627776) : Spec Tryd.prog Tab 130 [pair x y, pair z t] (pair (cn (x.q - z.q)) (cn (y.q - t.q))) := by
  refine fn_spec Tryd.func130 rfl rfl Tryd.ntmps130 rfl (by kernel_rfl) rfl rfl ?_
  refine k_sub (by omega) (by omega) fun q1 h1 z1 => ?_
  try simp only [cn_q] at h1
  refine k_sub (by omega) (by omega) fun q2 h2 z2 => ?_
  try simp only [cn_q] at h2
  refine ⟨by kernel_rfl, ?_⟩
  refine Eq.trans (b := pair (cn _) (cn _)) ?_ rfl
  subst_vars; rfl
theorem k_vSub (hx : x.z ≤ 1099511627776) (hy : y.z ≤ 1099511627776) (hz : z.z ≤ 1099511627776) (ht : t.z ≤ 1099511627776) (k : ∀ p q, p = x.q - z.q → q = y.q - t.q → (cn p).z ≤ x.z + z.z + 3 → (cn q).z ≤ y.z + t.z + 3 → K (pair (cn p) (cn q))) : Ask 130 [pair x y, pair z t] K :=
  use (vSub_spec x y z t hx hy hz ht) rfl (k _ _ rfl rfl (by have := qs_sub x.q z.q; have := x.z1; have := y.z1; have := z.z1; have := t.z1; rw [cn_z]; omega) (by have := qs_sub y.q t.q; have := x.z1; have := y.z1; have := z.z1; have := t.z1; rw [cn_z]; omega))
set_option maxRecDepth 100000 in
theorem RV_spec (x y z t : RV) (hx : x.z ≤ 1099511627776) (hy : y.z ≤ 1099511627776) (hz : z.z ≤ 1099511627776) (ht : t.z ≤ 1099511627776) : Spec Tryd.prog Tab 37 [pair x y, pair z t] (pair (cn (z.q - x.q)) (cn (t.q - y.q))) := by
  refine fn_spec Tryd.func37 rfl rfl Tryd.ntmps37 rfl (by kernel_rfl) rfl rfl ?_
  refine k_sub (by omega) (by omega) fun q1 h1 z1 => ?_
  try simp only [cn_q] at h1
  refine k_sub (by omega) (by omega) fun q2 h2 z2 => ?_
  try simp only [cn_q] at h2
  refine ⟨by kernel_rfl, ?_⟩
  refine Eq.trans (b := pair (cn _) (cn _)) ?_ rfl
  subst_vars; rfl
theorem k_RV (hx : x.z ≤ 1099511627776) (hy : y.z ≤ 1099511627776) (hz : z.z ≤ 1099511627776) (ht : t.z ≤ 1099511627776) (k : ∀ p q, p = z.q - x.q → q = t.q - y.q → (cn p).z ≤ x.z + z.z + 3 → (cn q).z ≤ y.z + t.z + 3 → K (pair (cn p) (cn q))) : Ask 37 [pair x y, pair z t] K :=
  use (RV_spec x y z t hx hy hz ht) rfl (k _ _ rfl rfl (by have := qs_sub z.q x.q; have := x.z1; have := y.z1; have := z.z1; have := t.z1; rw [cn_z]; omega) (by have := qs_sub t.q y.q; have := x.z1; have := y.z1; have := z.z1; have := t.z1; rw [cn_z]; omega))
set_option maxRecDepth 100000 in
theorem grown_spec (x y z t u : RV) (hx : x.z ≤ 1099511627776) (hy : y.z ≤ 1099511627776) (hz : z.z ≤ 1099511627776) (ht : t.z ≤ 1099511627776) (hu : u.z ≤ 1099511627776) : Spec Tryd.prog Tab 32 [box x y z t, rat u] (box (cn (x.q - u.q)) (cn (y.q - u.q)) (cn (z.q + u.q)) (cn (t.q + u.q))) := by
  refine fn_spec Tryd.func32 rfl rfl Tryd.ntmps32 rfl (by kernel_rfl) rfl rfl ?_
  refine k_vSub (by omega) (by omega) (by omega) (by omega) fun p1 q1 e1 h1 y1 z1 => ?_
  try simp only [cn_q] at e1 h1
  refine k_vAdd (by omega) (by omega) (by omega) (by omega) fun p2 q2 e2 h2 y2 z2 => ?_
  try simp only [cn_q] at e2 h2
  refine ⟨by kernel_rfl, ?_⟩
  refine Eq.trans (b := box (cn _) (cn _) (cn _) (cn _)) ?_ rfl
  subst_vars; rfl
set_option maxRecDepth 100000 in
theorem bothB_spec (x y z t x2 y2 z2 t2 : RV) (hx : x.z ≤ 1099511627776) (hy : y.z ≤ 1099511627776) (hz : z.z ≤ 1099511627776) (ht : t.z ≤ 1099511627776) (hx2 : x2.z ≤ 1099511627776) (hy2 : y2.z ≤ 1099511627776) (hz2 : z2.z ≤ 1099511627776) (ht2 : t2.z ≤ 1099511627776) : Spec Tryd.prog Tab 35 [box x y z t, box x2 y2 z2 t2] (box (cn (minQ x.q x2.q)) (cn (minQ y.q y2.q)) (cn (maxQ z.q z2.q)) (cn (maxQ t.q t2.q))) := by
  refine fn_spec Tryd.func35 rfl rfl Tryd.ntmps35 rfl (by kernel_rfl) rfl rfl ?_
  refine k_min (by omega) (by omega) fun q1 h1 z1 => ?_
  try simp only [cn_q] at h1
  refine k_min (by omega) (by omega) fun q2 h2 z2 => ?_
  try simp only [cn_q] at h2
  refine k_max (by omega) (by omega) fun q3 h3 z3 => ?_
  try simp only [cn_q] at h3
  refine k_max (by omega) (by omega) fun q4 h4 z4 => ?_
  try simp only [cn_q] at h4
  refine ⟨by kernel_rfl, ?_⟩
  refine Eq.trans (b := box (cn _) (cn _) (cn _) (cn _)) ?_ rfl
  subst_vars; rfl
end

section
variable {x y z t : RV} {K : AV → Prop}
def rdv (p : RV × RV) : List D := rd p.1 ++ rd p.2
/-- a list of vectors -/
def vecs (l : List (RV × RV)) : AV := .val (.one (.d (.list (l.map rdv))))
theorem rd_rows2 (l : List Rat) : ∀ row, row ∈ (l.map fun q => rd (cn q)) → row.length = 3 := by
  intro row hr
  obtain ⟨q, _, rfl⟩ := List.mem_map.1 hr
  rfl
def xsQ (l : List (RV × RV)) : List Rat := l.map fun p => p.1.q
def ysQ (l : List (RV × RV)) : List Rat := l.map fun p => p.2.q
set_option maxHeartbeats 4000000 in
set_option maxRecDepth 100000 in
theorem RBound_spec (p0 : RV × RV) (l : List (RV × RV)) (hz : ∀ p, p ∈ p0 :: l → p.1.z ≤ 1073741824 ∧ p.2.z ≤ 1073741824) (hn : l.length ≤ 1073741824) :
    Spec Tryd.prog Tab 36 [vecs (p0 :: l)] (box (cn (lowL p0.1.q (xsQ l))) (cn (lowL p0.2.q (ysQ l))) (cn (highL p0.1.q (xsQ l))) (cn (highL p0.2.q (ysQ l)))) := by
  refine fn_spec Tryd.func36 rfl rfl Tryd.ntmps36 rfl (by kernel_rfl) rfl rfl ?_
  refine ⟨fun e => absurd (of_decide_eq_true e) (by simp; omega), fun _ => ?_⟩
  refine ⟨Nat, fun i => [(19, vecs (p0 :: l)), (20, int ((((p0 :: l).map rdv).length : Nat) : Int)), (21, int (i : Int)), (4, .val (.one (.row 30 0))), (5, .val (.one (.row 36 0))), (2, .val (.one (.ptr 2 0)))],
    fun i => [(2, .var 27 [.d (.v (.bool false)), .d (.v (.string ⟨#[]⟩)), .d (.v (.string ⟨#[]⟩)), .d (.v (.bool false)), .d (.v (.string ⟨#[]⟩)), .d (.v (.string ⟨#[]⟩)), .d (.v (.bool false)), .d (.v (.string ⟨#[]⟩)), .d (.v (.string ⟨#[]⟩)), .d (.v (.bool false)), .d (.v (.string ⟨#[]⟩)), .d (.v (.string ⟨#[]⟩))]),
      (30, .row 23 3 0 ((xsQ ((p0 :: l).take i)).map fun q => rd (cn q)) true), (36, .row 23 3 0 ((ysQ ((p0 :: l).take i)).map fun q => rd (cn q)) true)],
    fun i => i ≤ (p0 :: l).length,
    fun i => (p0 :: l).length - i, 0, ?_, Nat.zero_le _, fun i hs => ?_⟩
  · constructor <;> (repeat' (first | exact rfl | exact True.intro | exact ⟨_, _, rfl⟩ | exact (by decide : 0 < 3) | apply And.intro))
  refine ⟨fun e => ?_, fun e => ?_⟩
  · have hlt : i < (p0 :: l).length := by have := of_decide_eq_true e; rw [List.length_map] at this; omega
    obtain ⟨a, ha⟩ : ∃ a, (p0 :: l)[i]? = some a := ⟨_, List.getElem?_eq_getElem hlt⟩
    obtain ⟨za, zb⟩ := hz a (List.mem_of_getElem? ha)
    have htake : (p0 :: l).take (i + 1) = (p0 :: l).take i ++ [a] := by
      rw [List.take_add_one, ha]; rfl
    have hlen : ((p0 :: l).take i).length ≤ 1073741825 := by rw [List.length_take]; simp at hlt ⊢; omega
    have hw : IntKind.i64.wrap ((i : Int) + 1) = ((i + 1 : Nat) : Int) := by rw [wrap64 _ (by omega) (by simp at hlt; omega)]; omega
    have hx : (xsQ ((p0 :: l).take (i + 1))).map (fun q => rd (cn q)) = (xsQ ((p0 :: l).take i)).map (fun q => rd (cn q)) ++ [rd (cn a.1.q)] := by rw [htake]; simp [xsQ]
    have hy : (ysQ ((p0 :: l).take (i + 1))).map (fun q => rd (cn q)) = (ysQ ((p0 :: l).take i)).map (fun q => rd (cn q)) ++ [rd (cn a.2.q)] := by rw [htake]; simp [ysQ]
    refine k_at (rdv a) (Int.natCast_nonneg _) (by rw [Int.toNat_natCast, List.getElem?_map, ha]; rfl) rfl ?_
    refine k_plain (x := a.1) (by omega) fun q1 h1 z1 => ?_
    subst h1
    refine ⟨⟨rd_rows2 [a.1.q], ?_, ?_⟩, ?_⟩
    · simp only [xsQ, List.length_map, List.length_cons, List.length_nil]; omega
    · simp only [xsQ, List.length_map, List.length_cons, List.length_nil]; omega
    refine k_plain (x := a.2) (by omega) fun q2 h2 z2 => ?_
    subst h2
    refine ⟨⟨rd_rows2 [a.2.q], ?_, ?_⟩, ?_⟩
    · simp only [ysQ, List.length_map, List.length_cons, List.length_nil]; omega
    · simp only [ysQ, List.length_map, List.length_cons, List.length_nil]; omega
    refine ⟨by kernel_rfl, ?_⟩
    refine ⟨i + 1, hlt, by simp only; omega, ?_⟩
    constructor <;> (repeat' (first | exact rfl | exact True.intro | apply And.intro))
    all_goals first
      | exact congrArg (fun n : Int => D.v (.int .i64 n)) hw.symm
      | exact hx
      | exact hx.symm
      | exact hy
      | exact hy.symm
  · have hge : i = (p0 :: l).length := by have := of_decide_eq_false e; rw [List.length_map] at this; omega
    subst hge
    have hx : (xsQ ((p0 :: l).take (p0 :: l).length)).map (fun q => rd (cn q)) = (p0.1.q :: xsQ l).map fun q => rd (cn q) := by rw [List.take_length]; rfl
    have hy : (ysQ ((p0 :: l).take (p0 :: l).length)).map (fun q => rd (cn q)) = (p0.2.q :: ysQ l).map fun q => rd (cn q) := by rw [List.take_length]; rfl
    refine k_RAro 1073741825 (by decide) p0.1.q (xsQ l) hx ?_ (by simp [xsQ]; omega) fun p1 q1 e1 h1 y1 z1 => ?_
    · intro q hq
      obtain ⟨p, hp, rfl⟩ := List.mem_map.1 (show q ∈ (p0 :: l).map (fun p => p.1.q) from hq)
      have := (hz p hp).1; have := p.1.z1; omega
    refine k_RAro 1073741825 (by decide) p0.2.q (ysQ l) hy ?_ (by simp [ysQ]; omega) fun p2 q2 e2 h2 y2 z2 => ?_
    · intro q hq
      obtain ⟨p, hp, rfl⟩ := List.mem_map.1 (show q ∈ (p0 :: l).map (fun p => p.2.q) from hq)
      have := (hz p hp).2; have := p.2.z1; omega
    refine Eq.trans (b := box (cn _) (cn _) (cn _) (cn _)) ?_ rfl
    subst_vars; rfl
end

section
variable {x y z t u x2 y2 z2 t2 : RV} {K : AV → Prop}
theorem k_grown (hx : x.z ≤ 1099511627776) (hy : y.z ≤ 1099511627776) (hz : z.z ≤ 1099511627776) (ht : t.z ≤ 1099511627776) (hu : u.z ≤ 1099511627776)
    (k : ∀ p q r s, p = x.q - u.q → q = y.q - u.q → r = z.q + u.q → s = t.q + u.q → K (box (cn p) (cn q) (cn r) (cn s))) : Ask 32 [box x y z t, rat u] K :=
  use (grown_spec x y z t u hx hy hz ht hu) rfl (k _ _ _ _ rfl rfl rfl rfl)
theorem k_bothB (hx : x.z ≤ 1099511627776) (hy : y.z ≤ 1099511627776) (hz : z.z ≤ 1099511627776) (ht : t.z ≤ 1099511627776) (hx2 : x2.z ≤ 1099511627776) (hy2 : y2.z ≤ 1099511627776) (hz2 : z2.z ≤ 1099511627776) (ht2 : t2.z ≤ 1099511627776)
    (k : ∀ p q r s, p = minQ x.q x2.q → q = minQ y.q y2.q → r = maxQ z.q z2.q → s = maxQ t.q t2.q → K (box (cn p) (cn q) (cn r) (cn s))) : Ask 35 [box x y z t, box x2 y2 z2 t2] K :=
  use (bothB_spec x y z t x2 y2 z2 t2 hx hy hz ht hx2 hy2 hz2 ht2) rfl (k _ _ _ _ rfl rfl rfl rfl)
theorem k_RBound (p0 : RV × RV) (l : List (RV × RV)) {v : List (List D)} (hv : v = (p0 :: l).map rdv) (hz : ∀ p, p ∈ p0 :: l → p.1.z ≤ 1073741824 ∧ p.2.z ≤ 1073741824) (hn : l.length ≤ 1073741824)
    (k : ∀ p q r s, p = lowL p0.1.q (xsQ l) → q = lowL p0.2.q (ysQ l) → r = highL p0.1.q (xsQ l) → s = highL p0.2.q (ysQ l) → K (box (cn p) (cn q) (cn r) (cn s))) : Ask 36 [.val (.one (.d (.list v)))] K := by
  subst hv
  exact use (RBound_spec p0 l hz hn) rfl (k _ _ _ _ rfl rfl rfl rfl)
set_option maxHeartbeats 4000000 in
set_option maxRecDepth 100000 in
theorem sweepBoxes_spec (x y z t x2 y2 z2 t2 u : RV) (hx : x.z ≤ 1048576) (hy : y.z ≤ 1048576) (hz : z.z ≤ 1048576) (ht : t.z ≤ 1048576) (hx2 : x2.z ≤ 1048576) (hy2 : y2.z ≤ 1048576) (hz2 : z2.z ≤ 1048576) (ht2 : t2.z ≤ 1048576) (hu : u.z ≤ 1048576) :
    Spec Tryd.prog Tab 6 [box x y z t, box x2 y2 z2 t2, rat u] (bool true) := by
  refine fn_spec Tryd.func6 rfl rfl Tryd.ntmps6 rfl (by kernel_rfl) rfl rfl ?_
  have hz0 : z0.z ≤ 1048576 := by rw [z0_z]; omega
  refine k_I (2) (by omega) (by omega) fun i2 j2 v2 => ?_
  refine k_grown (x := z0) (y := z0) (z := z0) (t := z0) (by omega) (by omega) (by omega) (by omega) (by omega) fun pa pb pc pd e1 e2 e3 e4 => ?_
  refine k_I (-2) (by omega) (by omega) fun i3 j3 v3 => ?_
  refine k_neq_rat_t (by rw [e1, j3, cn_q, z0_q, j2]; exact congrArg cn (by decide +kernel)) ?_
  refine k_spanBegun ?_
  refine ⟨by kernel_rfl, ?_⟩
  refine ⟨fun e => by simp at e, fun _ => ?_⟩
  refine k_grown (by omega) (by omega) (by omega) (by omega) (by omega) fun ga gb gc gd f1 f2 f3 f4 => ?_
  refine k_bothB (by omega) (by omega) (by omega) (by omega) (by omega) (by omega) (by omega) (by omega) fun ha hb hc hd b1 b2 b3 b4 => ?_
  refine ⟨by kernel_rfl, ?_⟩
  refine k_RBound (x, y) [(x2, y2)] rfl (by
    intro p hp
    simp only [List.mem_cons, List.mem_nil_iff, or_false] at hp
    rcases hp with rfl | rfl <;> exact ⟨by simp only; omega, by simp only; omega⟩) (by simp) fun la lb lc ld l1 l2 l3 l4 => ?_
  refine k_RBound (z, t) [(z2, t2)] rfl (by
    intro p hp
    simp only [List.mem_cons, List.mem_nil_iff, or_false] at hp
    rcases hp with rfl | rfl <;> exact ⟨by simp only; omega, by simp only; omega⟩) (by simp) fun ma mb mc md m1 m2 m3 m4 => ?_
  refine k_RV (x := u) (y := u) (z := x) (t := y) (by omega) (by omega) (by omega) (by omega) fun va vb n1 n2 _ _ => ?_
  refine k_eql_vec_t ⟨congrArg cn (by rw [f1, n1]), congrArg cn (by rw [f2, n2])⟩ ?_
  refine k_vAdd (x := z) (y := t) (z := u) (t := u) (by omega) (by omega) (by omega) (by omega) fun wa wb o1 o2 _ _ => ?_
  refine k_eql_vec_t ⟨congrArg cn (by rw [f3, o1]), congrArg cn (by rw [f4, o2])⟩ ?_
  refine k_eql_vec_t ⟨congrArg cn (by rw [b1, l1, min_low]; rfl), congrArg cn (by rw [b2, l2, min_low]; rfl)⟩ ?_
  refine k_eql_vec_t ⟨congrArg cn (by rw [b3, m3, max_high]; rfl), congrArg cn (by rw [b4, m4, max_high]; rfl)⟩ ?_
  refine ⟨by kernel_rfl, ?_⟩
  exact rfl
theorem sweepBoxes_walk (s00 : Bool) (a00 d00 : ByteArray) (s01 : Bool) (a01 d01 : ByteArray) (s02 : Bool) (a02 d02 : ByteArray) (s03 : Bool) (a03 d03 : ByteArray) (s10 : Bool) (a10 d10 : ByteArray) (s11 : Bool) (a11 d11 : ByteArray) (s12 : Bool) (a12 d12 : ByteArray) (s13 : Bool) (a13 d13 : ByteArray) (s20 : Bool) (a20 d20 : ByteArray) (N : Nat) (w : World) (_ : 1 ≤ N) (hN : N ≤ 1048576)
    (k1 : a00.size ≤ N) (k2 : d00.size ≤ N) (k3 : a01.size ≤ N) (k4 : d01.size ≤ N) (k5 : a02.size ≤ N) (k6 : d02.size ≤ N) (k7 : a03.size ≤ N) (k8 : d03.size ≤ N) (k9 : a10.size ≤ N) (k10 : d10.size ≤ N) (k11 : a11.size ≤ N) (k12 : d11.size ≤ N) (k13 : a12.size ≤ N) (k14 : d12.size ≤ N) (k15 : a13.size ≤ N) (k16 : d13.size ≤ N) (k17 : a20.size ≤ N) (k18 : d20.size ≤ N) (hT : Tab w) :
    Calls Tryd.prog 6 #[.agg #[.bool s00, .string a00, .string d00, .bool s01, .string a01, .string d01, .bool s02, .string a02, .string d02, .bool s03, .string a03, .string d03], .agg #[.bool s10, .string a10, .string d10, .bool s11, .string a11, .string d11, .bool s12, .string a12, .string d12, .bool s13, .string a13, .string d13], .agg #[.bool s20, .string a20, .string d20]] w fun e w' => e = .returned (.bool true) ∧ Below w.heap.size w w' :=
  have zz : ∀ (s : Bool) (a d : ByteArray), a.size ≤ N → d.size ≤ N → RV.z ⟨s, a, d⟩ ≤ 1048576 := fun s a d h1 h2 => by unfold RV.z; exact Nat.le_trans (Nat.max_le.2 ⟨h1, h2⟩) hN
  calls_of_spec (sweepBoxes_spec ⟨s00, a00, d00⟩ ⟨s01, a01, d01⟩ ⟨s02, a02, d02⟩ ⟨s03, a03, d03⟩ ⟨s10, a10, d10⟩ ⟨s11, a11, d11⟩ ⟨s12, a12, d12⟩ ⟨s13, a13, d13⟩ ⟨s20, a20, d20⟩ (zz _ _ _ k1 k2) (zz _ _ _ k3 k4) (zz _ _ _ k5 k6) (zz _ _ _ k7 k8) (zz _ _ _ k9 k10) (zz _ _ _ k11 k12) (zz _ _ _ k13 k14) (zz _ _ _ k15 k16) (zz _ _ _ k17 k18)) rfl hT
    (pvl_rel (vs := [box ⟨s00, a00, d00⟩ ⟨s01, a01, d01⟩ ⟨s02, a02, d02⟩ ⟨s03, a03, d03⟩, box ⟨s10, a10, d10⟩ ⟨s11, a11, d11⟩ ⟨s12, a12, d12⟩ ⟨s13, a13, d13⟩, rat ⟨s20, a20, d20⟩]) rfl)
end

end Go.Proofs.YtnnffjolkgomhaaDoor.eng
