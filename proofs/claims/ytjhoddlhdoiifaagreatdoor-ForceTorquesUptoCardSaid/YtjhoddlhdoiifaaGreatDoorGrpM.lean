/- Joined by wip/bundle.py: XEngFrame XEngFrame2. -/
import Derived.Test.YtjhoddlhdoiifaaGreatDoorGrpS
/- Contracts: vectors turned; frames. Printed by wip/gen_ef.py. -/
namespace Go.Proofs.YtjhoddlhdoiifaaGreatDoor.eng
open Go.RowKit num mem seg q held ratA ratB ratC ratD ratE vars ratF trq
section
variable {x y z t u v : RV} {h : Bool} {K : AV → Prop}
def vtX (h : Bool) (p x y : Rat) : Rat := x * cosq h p - y * sinq (tq h p)
def vtY (h : Bool) (p x y : Rat) : Rat := x * sinq (tq h p) + y * cosq h p
set_option maxRecDepth 100000 in
theorem vTurn_spec (h : Bool) (x y z : RV) (hx : x.z ≤ 268435456) (hy : y.z ≤ 268435456) (hz : z.z ≤ 268435456) : Spec Tryz.prog Tab 202 [pair x y, turn h z] (pair (cn (vtX h z.q x.q y.q)) (cn (vtY h z.q x.q y.q))) := by
  refine fn_spec Tryz.func202 rfl rfl Tryz.ntmps202 rfl (by kernel_rfl) rfl rfl ?_
  refine k_tCos (by omega) fun q1 h1 z1 => ?_
  try simp only [cn_q] at h1
  refine k_tSin (by omega) fun q2 h2 z2 => ?_
  try simp only [cn_q] at h2
  refine ⟨by kernel_rfl, ?_⟩
  refine k_mul (by omega) (by omega) fun q3 h3 z3 => ?_
  try simp only [cn_q] at h3
  refine k_mul (by omega) (by omega) fun q4 h4 z4 => ?_
  try simp only [cn_q] at h4
  refine k_sub (by omega) (by omega) fun q5 h5 z5 => ?_
  try simp only [cn_q] at h5
  refine k_mul (by omega) (by omega) fun q6 h6 z6 => ?_
  try simp only [cn_q] at h6
  refine k_mul (by omega) (by omega) fun q7 h7 z7 => ?_
  try simp only [cn_q] at h7
  refine k_add (by omega) (by omega) fun q8 h8 z8 => ?_
  try simp only [cn_q] at h8
  refine ⟨by kernel_rfl, ?_⟩
  refine Eq.trans (b := pair (cn _) (cn _)) ?_ rfl
  subst_vars; rfl
theorem qs_vt (h : Bool) (p x y : Rat) : qs (vtX h p x y) ≤ qs x + qs y + 8 * qs p + 200 ∧ qs (vtY h p x y) ≤ qs x + qs y + 8 * qs p + 200 := by
  have h1 := qs_cosq h p
  have h2 := qs_sinq (tq h p)
  have h3 : qs (tq h p) ≤ qs p + 8 := by
    unfold tq; split
    · have := qs_0; omega
    · omega
  have := qs_mul x (cosq h p)
  have := qs_mul y (sinq (tq h p))
  have := qs_mul x (sinq (tq h p))
  have := qs_mul y (cosq h p)
  have := qs_sub (x * cosq h p) (y * sinq (tq h p))
  have := qs_add (x * sinq (tq h p)) (y * cosq h p)
  unfold vtX vtY
  constructor <;> omega
theorem k_vTurn (hx : x.z ≤ 268435456) (hy : y.z ≤ 268435456) (hz : z.z ≤ 268435456) (k : ∀ p q, p = vtX h z.q x.q y.q → q = vtY h z.q x.q y.q → (cn p).z ≤ x.z + y.z + 8 * z.z + 240 → (cn q).z ≤ x.z + y.z + 8 * z.z + 240 → K (pair (cn p) (cn q))) : Ask 202 [pair x y, turn h z] K :=
  use (vTurn_spec h x y z hx hy hz) rfl (k _ _ rfl rfl (by have := (qs_vt h z.q x.q y.q).1; have := x.z1; have := y.z1; have := z.z1; rw [cn_z]; omega) (by have := (qs_vt h z.q x.q y.q).2; have := x.z1; have := y.z1; have := z.z1; rw [cn_z]; omega))
set_option maxRecDepth 100000 in
theorem put_spec (x y : RV) (h : Bool) (z t u : RV) (hx : x.z ≤ 268435456) (hy : y.z ≤ 268435456) (hz : z.z ≤ 268435456) (ht : t.z ≤ 268435456) (hu : u.z ≤ 268435456) : Spec Tryz.prog Tab 159 [frame x y h z, pair t u] (pair (cn (x.q + vtX h z.q t.q u.q)) (cn (y.q + vtY h z.q t.q u.q))) := by
  refine fn_spec Tryz.func159 rfl rfl Tryz.ntmps159 rfl (by kernel_rfl) rfl rfl ?_
  refine k_vTurn (by omega) (by omega) (by omega) fun p1 q1 e1 h1 y1 z1 => ?_
  try simp only [cn_q] at e1 h1
  refine k_vAdd (by omega) (by omega) (by omega) (by omega) fun p2 q2 e2 h2 y2 z2 => ?_
  try simp only [cn_q] at e2 h2
  refine ⟨by kernel_rfl, ?_⟩
  refine Eq.trans (b := pair (cn _) (cn _)) ?_ rfl
  subst_vars; rfl
end
end Go.Proofs.YtjhoddlhdoiifaaGreatDoor.eng

/- Contracts: package frame. Printed by wip/gen_ef2.py. -/
namespace Go.Proofs.YtjhoddlhdoiifaaGreatDoor.eng
open Go.RowKit num mem seg q held ratA ratB ratC ratD ratE vars ratF trq
section
variable {x y z t u v w x2 y2 z2 : RV} {h g : Bool} {K : AV → Prop}
theorem k_put (hx : x.z ≤ 268435456) (hy : y.z ≤ 268435456) (hz : z.z ≤ 268435456) (ht : t.z ≤ 268435456) (hu : u.z ≤ 268435456) (k : ∀ p q, p = x.q + vtX h z.q t.q u.q → q = y.q + vtY h z.q t.q u.q → (cn p).z ≤ x.z + t.z + u.z + 8 * z.z + 260 → (cn q).z ≤ y.z + t.z + u.z + 8 * z.z + 260 → K (pair (cn p) (cn q))) : Ask 159 [frame x y h z, pair t u] K :=
  use (put_spec x y h z t u hx hy hz ht hu) rfl (k _ _ rfl rfl (by have := qs_add x.q (vtX h z.q t.q u.q); have := (qs_vt h z.q t.q u.q).1; have := x.z1; have := t.z1; have := u.z1; have := z.z1; rw [cn_z]; omega) (by have := qs_add y.q (vtY h z.q t.q u.q); have := (qs_vt h z.q t.q u.q).2; have := y.z1; have := t.z1; have := u.z1; have := z.z1; rw [cn_z]; omega))
set_option maxRecDepth 100000 in
theorem fThen_spec (x y : RV) (h : Bool) (z x2 y2 : RV) (g : Bool) (z2 : RV) (hx : x.z ≤ 268435456) (hy : y.z ≤ 268435456) (hz : z.z ≤ 268435456) (hx2 : x2.z ≤ 268435456) (hy2 : y2.z ≤ 268435456) (hz2 : z2.z ≤ 268435456) : Spec Tryz.prog Tab 96 [frame x y h z, frame x2 y2 g z2] (frame (cn (x.q + vtX h z.q x2.q y2.q)) (cn (y.q + vtY h z.q x2.q y2.q)) (thnH h g z.q z2.q) (cn (thnQ h g z.q z2.q))) := by
  refine fn_spec Tryz.func96 rfl rfl Tryz.ntmps96 rfl (by kernel_rfl) rfl rfl ?_
  refine k_put (by omega) (by omega) (by omega) (by omega) (by omega) fun p1 q1 e1 h1 y1 z1 => ?_
  refine k_tThen (by omega) (by omega) fun b2 q2 e2 h2 z2 => ?_
  refine ⟨by kernel_rfl, ?_⟩
  refine Eq.trans (b := frame (cn _) (cn _) _ (cn _)) ?_ rfl
  subst_vars; rfl
theorem k_fThen (hx : x.z ≤ 268435456) (hy : y.z ≤ 268435456) (hz : z.z ≤ 268435456) (hx2 : x2.z ≤ 268435456) (hy2 : y2.z ≤ 268435456) (hz2 : z2.z ≤ 268435456) (k : ∀ p q b r, p = x.q + vtX h z.q x2.q y2.q → q = y.q + vtY h z.q x2.q y2.q → b = thnH h g z.q z2.q → r = thnQ h g z.q z2.q → K (frame (cn p) (cn q) b (cn r))) : Ask 96 [frame x y h z, frame x2 y2 g z2] K :=
  use (fThen_spec x y h z x2 y2 g z2 hx hy hz hx2 hy2 hz2) rfl (k _ _ _ _ rfl rfl rfl rfl)
end
end Go.Proofs.YtjhoddlhdoiifaaGreatDoor.eng

