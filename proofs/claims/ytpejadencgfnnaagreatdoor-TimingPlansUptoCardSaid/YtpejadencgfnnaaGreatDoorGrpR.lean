/- Joined by wip/bundle.py: XSpr0 XSprA XSprR. -/
import Derived.Test.YtpejadencgfnnaaGreatDoorFore0
import Derived.Test.YtpejadencgfnnaaGreatDoorGrpQ
import Derived.Test.YtpejadencgfnnaaGreatDoorGrpA
import Derived.Test.YtpejadencgfnnaaGreatDoorForeA
import Derived.Test.YtpejadencgfnnaaGreatDoorWg
import Derived.Test.YtpejadencgfnnaaGreatDoorGrpZ
/- Plain law: loose frames of an arm: spans of cosines and sines, rounded outward; what they hold; their sizes. No program. -/
namespace Go.Proofs.YtpejadencgfnnaaGreatDoor.eng
open Go.RowKit num mem seg q held ratA ratB ratC ratD ratE vars ratF trq
theorem hasQ_iff {l h a : Rat} : hasQ l h a = true ↔ l ≤ a ∧ a ≤ h := by
  unfold hasQ; rw [Bool.and_eq_true, decide_eq_true_iff, decide_eq_true_iff]
/-! ### products of spans -/
/-! ### rounding outward -/
/-! ### loose frames -/
structure LF where
  xl : Rat
  xh : Rat
  yl : Rat
  yh : Rat
  cl : Rat
  ch : Rat
  sl : Rat
  sh : Rat
/-- a loose frame holds a frame -/
def LF.has (f : LF) (g : RF) : Prop := (f.xl ≤ g.x ∧ g.x ≤ f.xh) ∧ (f.yl ≤ g.y ∧ g.y ≤ f.yh) ∧ (f.cl ≤ g.c ∧ g.c ≤ f.ch) ∧ (f.sl ≤ g.s ∧ g.s ≤ f.sh)
/-! ### along an arm -/
/-! ### sizes -/
/-! ### as they lie in lists -/
/-! ### folds over the first joint values of a list -/
end Go.Proofs.YtpejadencgfnnaaGreatDoor.eng

/- Contracts: loose frames: span.Out, package fore, the spans of gantref3. Printed by wip/gp_spread.py. -/
namespace Go.Proofs.YtpejadencgfnnaaGreatDoor.eng
open Go.RowKit num mem seg q held ratA ratB ratC ratD ratE vars ratF trq
section
variable {K : AV → Prop}
end
end Go.Proofs.YtpejadencgfnnaaGreatDoor.eng

/- Contracts: loose frames of gantref3. Printed by wip/gp_spread.py. -/
namespace Go.Proofs.YtpejadencgfnnaaGreatDoor.eng
open Go.RowKit num mem seg q held ratA ratB ratC ratD ratE vars ratF trq
section
variable {K : AV → Prop}
section
variable  {p q r u : Rat}
end
section
variable  {p q r u : Rat}
end
section
variable  {p q r u : Rat}
end
theorem k_addN3' (a b : Nat) {vb : List (List D)} (hv : vb = W (w32 b)) (ha : wlen 4 a ≤ 549755813888) (hb : wlen 4 b ≤ 549755813888) (k : K (n3 (a + b))) : Ask 159 [n3 a, .val (.one (.d (.list vb)))] K := by
  subst hv; exact k_addN3 ha hb k
set_option maxRecDepth 100000 in
theorem down3_spec (q : Rat) (hq : qs q ≤ 4294967296) : Spec Tryz.prog Tab 129 [q3 q] (q3 ((q.floor : Int) : Rat)) := by
  have h1 := wl_num q
  have h2 := wl_den q
  have hone : wlen 4 1 ≤ 1 := by rw [← w32_length, w32_one]; decide
  have hdiv : wlen 4 (q.num.natAbs / q.den) ≤ qs q := wlen_le_of (Nat.div_le_self _ _) h1
  have hup : wlen 4 (q.num.natAbs / q.den + 1) ≤ 8589934592 := by
    have h3 := upN_size true q.num.natAbs q.den
    have h4 := wl_le (q.num.natAbs / q.den + 1)
    have h5 : (enc (q.num.natAbs / q.den + 1)).size ≤ qs q + 2 := by
      by_cases hr : q.num.natAbs % q.den = 0
      · have h6 : q.num.natAbs / q.den + 1 ≤ q.num.natAbs + 1 := by have := Nat.div_le_self q.num.natAbs q.den; omega
        have h7 := (qs_lt q).1
        exact enc_size_le.2 (by rw [show (256 : Nat) ^ (qs q + 2) = 256 ^ qs q * 65536 from by rw [Nat.pow_add]]; omega)
      · rw [upN, if_pos ⟨rfl, hr⟩] at h3
        have : (enc q.num.natAbs).size ≤ qs q := by unfold qs; omega
        omega
    omega
  have hn3 := n3_len (q.num.natAbs % q.den)
  refine fn_spec Tryz.func129 rfl rfl Tryz.ntmps129 rfl (by kernel_rfl) rfl rfl ?_
  refine k_divN3 (a := q.num.natAbs) (b := q.den) q.den_pos (by omega) (by omega) ?_
  refine fork (fun e1 => ?_) (fun e1 => ?_)
  · refine ⟨fun e2 => ?_, fun e2 => ?_⟩
    · have hr : ¬ q.num.natAbs % q.den = 0 := by
        intro h
        have h3 := of_decide_eq_true e2
        rw [hn3, (wlen_zero _).2 h] at h3
        exact absurd h3 (by decide)
      refine k_addN3' (q.num.natAbs / q.den) 1 (by rw [w32_one]; rfl) (by omega) (by omega) ?_
      refine k_made3 (q.num.natAbs / q.den + 1) 1 (by rw [w32_one]; rfl) Nat.one_pos hup (by omega) ?_
      refine Eq.trans (b := q3 (mkRat (sg (decide (q.num < 0)) (q.num.natAbs / q.den + 1)) 1)) ?_ rfl
      rw [← floor_is, upN, if_pos ⟨e1, hr⟩]
    · have hr : q.num.natAbs % q.den = 0 := by
        have h3 := of_decide_eq_false e2
        rw [hn3] at h3
        exact (wlen_zero _).1 (by omega)
      refine k_made3 (q.num.natAbs / q.den) 1 (by rw [w32_one]; rfl) Nat.one_pos (by omega) (by omega) ?_
      refine Eq.trans (b := q3 (mkRat (sg (decide (q.num < 0)) (q.num.natAbs / q.den)) 1)) ?_ rfl
      rw [← floor_is, upN, if_neg (fun h => h.2 hr)]
  · refine ⟨fun e => absurd e (by decide), fun _ => ?_⟩
    refine k_made3 (q.num.natAbs / q.den) 1 (by rw [w32_one]; rfl) Nat.one_pos (by omega) (by omega) ?_
    refine Eq.trans (b := q3 (mkRat (sg (decide (q.num < 0)) (q.num.natAbs / q.den)) 1)) ?_ rfl
    rw [← floor_is, upN, if_neg (fun h => by rw [e1] at h; exact absurd h.1 (by decide))]
theorem k_down3 {q : Rat} (hq : qs q ≤ 4294967296) (k : ∀ ya, ya = ((q.floor : Int) : Rat) → qs ya ≤ qs q + 2 → K (q3 ya)) : Ask 129 [q3 q] K := use (down3_spec q hq) rfl (k _ rfl (qs_floor q))
set_option maxRecDepth 100000 in
theorem SHas3_spec (p q a : Rat) (hp : qs p ≤ 536870912) (hq : qs q ≤ 536870912) (ha : qs a ≤ 536870912) : Spec Tryz.prog Tab 125 [q3p p q, q3 a] (bool (hasQ p q a)) := by
  refine fn_spec Tryz.func125 rfl rfl Tryz.ntmps125 rfl (by kernel_rfl) rfl rfl ?_
  refine k_Cmp3 (p := p) (q := a) (by omega) (by omega) fun n8 h8 => ?_
  refine fork (fun e1 => ?_) (fun e1 => ?_)
  · have f10 : p ≤ a := (c3_le h8).1 (of_decide_eq_true e1)
    refine k_Cmp3 (p := a) (q := q) (by omega) (by omega) fun n14 h14 => ?_
    refine Eq.trans (b := bool (decide (n14 ≤ 0))) ?_ rfl
    rw [show hasQ p q a = decide (n14 ≤ 0) from by unfold hasQ; rw [decide_eq_true f10, Bool.true_and]; exact decide_eq_decide.2 (c3_le h14).symm]
  · have f10 : ¬ (p ≤ a) := fun hh => of_decide_eq_false e1 ((c3_le h8).2 hh)
    refine Eq.trans (b := bool false) ?_ rfl
    rw [show hasQ p q a = false from by unfold hasQ; rw [decide_eq_false f10]; rfl]
theorem k_SHas3 {p q a : Rat} (hp : qs p ≤ 536870912) (hq : qs q ≤ 536870912) (ha : qs a ≤ 536870912) (k : ∀ b, b = hasQ p q a → K (bool b)) : Ask 125 [q3p p q, q3 a] K := use (SHas3_spec p q a hp hq ha) rfl (k _ rfl)
end
end Go.Proofs.YtpejadencgfnnaaGreatDoor.eng

