/- Plain law: frames of an arm by cosines and sines; the sizes of their numbers. No program. -/
import Derived.Test.YtpejadencgfnnaaGreatDoorGrpX
import Derived.Test.YtpejadencgfnnaaGreatDoorGrpT
import Derived.Test.YtpejadencgfnnaaGreatDoorGrpM
import Derived.Test.YtpejadencgfnnaaGreatDoorEngH3b
namespace Go.Proofs.YtpejadencgfnnaaGreatDoor.eng
open Go.RowKit num mem seg q held ratA ratB ratC ratD ratE vars ratF trq
/-- a frame by its origin, and the cosine and the sine of its turn -/
structure RF where
  x : Rat
  y : Rat
  c : Rat
  s : Rat
def unitC (c s : Rat) : Prop := c * c + s * s = 1
theorem unit_cs (h : Bool) (p : Rat) : unitC (cosq h p) (sinq (tq h p)) := by
  unfold unitC
  cases h
  · obtain ⟨a1, a2, a3⟩ := cs_facts p
    rw [tq_false]; grind
  · rw [cos_half, tq_true, sin_zero]; decide +kernel
/-- turned by a joint value -/
def turnF (f : RF) (t : Rat) : RF := ⟨f.x, f.y, f.c * cosq false t - f.s * sinq t, f.s * cosq false t + f.c * sinq t⟩
/-- moved along itself -/
def longF (f : RF) (l : Rat) : RF := ⟨f.x + f.c * l, f.y + f.s * l, f.c, f.s⟩
def RF.u (f : RF) : Prop := unitC f.c f.s
theorem turnF_u {f : RF} (h : f.u) (t : Rat) : (turnF f t).u := by
  have h2 := unit_cs false t
  unfold RF.u unitC turnF at *
  rw [tq_false] at h2
  simp only
  generalize cosq false t = a at *
  generalize sinq t = b at *
  grind
theorem longF_u {f : RF} (h : f.u) (l : Rat) : (longF f l).u := h
/-! ### an arm -/
def baseF (A : ArmV) : RF := ⟨A.bx.q, A.by'.q, cosq A.bh A.bt.q, sinq (tq A.bh A.bt.q)⟩
def lenAt (A : ArmV) (i : Nat) : Rat := ((A.links[i]?).getD ⟨z0, z0, z0, z0, z0, []⟩).len.q
theorem lenAt_is {A : ArmV} {i : Nat} {l : LinkV} (h : A.links[i]? = some l) : lenAt A i = l.len.q := by simp [lenAt, h]
/-! ### as they lie in lists -/
/-! ### sizes -/
theorem qs_cs (p : Rat) : qs (cosq false p) ≤ 4 * qs p + 34 ∧ qs (sinq p) ≤ 4 * qs p + 34 := by
  have h1 : qs ((1 : Int) : Rat) ≤ 8 := qs_i64 (n := 1) (by omega) (by omega)
  have := qs_mul p p
  have := qs_sub ((1 : Int) : Rat) (p * p)
  have := qs_add ((1 : Int) : Rat) (p * p)
  have := qs_div (((1 : Int) : Rat) - p * p) (((1 : Int) : Rat) + p * p)
  have := qs_add p p
  have := qs_div (p + p) (((1 : Int) : Rat) + p * p)
  exact ⟨by unfold cosq; simp only [Bool.false_eq_true, if_false]; omega, by unfold sinq; omega⟩
theorem base_z {A : ArmV} (hA : armE A = 0) : qs (baseF A).x ≤ 4 ∧ qs (baseF A).y ≤ 4 ∧ qs (baseF A).c ≤ 66 ∧ qs (baseF A).s ≤ 66 := by
  obtain ⟨_, _, h1, h2, h3, _, _⟩ := armE_ok hA
  have z1 := smallP_z h1
  have z2 := smallP_z h2
  have z3 := smallP_z h3
  have q1 := A.bx.qs_le
  have q2 := A.by'.qs_le
  have q3 := A.bt.qs_le
  obtain ⟨c1, c2⟩ := qs_cs A.bt.q
  refine ⟨by show qs A.bx.q ≤ 4; omega, by show qs A.by'.q ≤ 4; omega, ?_, ?_⟩
  · show qs (cosq A.bh A.bt.q) ≤ 66
    cases A.bh
    · omega
    · rw [show cosq true A.bt.q = ((-1 : Int) : Rat) from rfl]
      have : qs ((-1 : Int) : Rat) ≤ 8 := qs_i64 (n := -1) (by omega) (by omega)
      omega
  · show qs (sinq (tq A.bh A.bt.q)) ≤ 66
    cases A.bh
    · rw [tq_false]; omega
    · rw [tq_true, sin_zero]; decide +kernel
theorem lenAt_z {A : ArmV} (hA : armE A = 0) (i : Nat) : qs (lenAt A i) ≤ 4 := by
  unfold lenAt
  cases h : A.links[i]? with
  | none => show qs z0.q ≤ _; decide +kernel
  | some l =>
    have := smallP_z (link_small hA (List.mem_of_getElem? h)).1
    have := l.len.qs_le
    show qs l.len.q ≤ _; omega
end Go.Proofs.YtpejadencgfnnaaGreatDoor.eng
