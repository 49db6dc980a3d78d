/- Plain laws of the turns' cosines and sines; walk: gantlaw1.turnBegun. -/
import Derived.Test.YtajkihgioikipaaDoorVecC
namespace Go.Proofs.YtajkihgioikipaaDoor.vecD
open Go.RowKit num mem seg q ratA held ratB ratC ratD ratE vars vecA turnA turnB vecB vecC

theorem circ_cos (h : Bool) (p : Rat) : circ h p = cosq h p := by
  cases h with
  | true => rfl
  | false =>
    have h1 := one_sq p
    show ((2 : Int) : Rat) / (((1 : Int) : Rat) + (p + ((0 : Int) : Rat)) * (p + ((0 : Int) : Rat))) - ((1 : Int) : Rat) = (((1 : Int) : Rat) - p * p) / (((1 : Int) : Rat) + p * p)
    rw [Rat.intCast_zero, Rat.add_zero]
    obtain ⟨D, hD⟩ : ∃ D, ((1 : Int) : Rat) + p * p = D := ⟨_, rfl⟩
    rw [hD] at h1 ⊢
    have e : ((1 : Int) : Rat) - p * p = ((2 : Int) : Rat) - D := by
      rw [← hD, show ((2 : Int) : Rat) = 1 + 1 from by decide +kernel, Rat.intCast_one]; grind
    rw [e, Rat.div_def, Rat.div_def, Rat.sub_eq_add_neg (_ : Rat) D, Rat.add_mul, Rat.neg_mul, Rat.mul_inv_cancel D h1, Rat.intCast_one, Rat.sub_eq_add_neg]
theorem sirc_sin (h : Bool) (p : Rat) : sirc h p = sinq (tq h p) := by
  cases h with
  | true =>
    show ((0 : Int) : Rat) = sinq ((0 : Int) : Rat)
    decide +kernel
  | false =>
    show (p + ((0 : Int) : Rat)) * (((2 : Int) : Rat) / (((1 : Int) : Rat) + (p + ((0 : Int) : Rat)) * (p + ((0 : Int) : Rat)))) = (p + p) / (((1 : Int) : Rat) + p * p)
    rw [Rat.intCast_zero, Rat.add_zero, show ((2 : Int) : Rat) = 1 + 1 from by decide +kernel, Rat.div_def, Rat.div_def, ← Rat.mul_assoc, Rat.mul_add, Rat.mul_one]
theorem qv_empty : qv false ⟨#[]⟩ ⟨#[]⟩ = 0 := by
  unfold qv
  rw [if_neg]
  intro h
  have := h.2.2.1
  rw [nv_none] at this
  omega
theorem vars4 (w : World) (T T' T'' U : Nat) (l l' l'' m : List Value) : Vars w [(w.heap.size, T, l), (w.heap.size + 1, T', l'), (w.heap.size + 1 + 1, T'', l''), (w.heap.size + 1 + 1 + 1, U, m)] ((((w.alloc (.cells l.toArray T)).alloc (.cells l'.toArray T')).alloc (.cells l''.toArray T'')).alloc (.cells m.toArray U)) := by
  have := (vars3 w T T' T'' l l' l'').push U m
  simpa using this

set_option maxHeartbeats 1000000 in
theorem turnBegun_any (w : World) (hT : Tab w) : Calls Tryd.prog 49 #[] w fun x w' => x = .returned (.bool true) ∧ Below w.heap.size w w' := by
  have V0 := Vars.nil w
  have HC := Lib.hid (show cosq false (((1 : Int) : Rat) / ((2 : Int) : Rat)) = ((3 : Int) : Rat) / ((5 : Int) : Rat) by decide +kernel)
  have HS := Lib.hid (show sinq (tq false (((1 : Int) : Rat) / ((2 : Int) : Rat))) = ((4 : Int) : Rat) / ((5 : Int) : Rat) by decide +kernel)
  go_enter Tryd.func49, Tryd.ntmps49
  go_wp2_with fail
  refine (num_any 1 2 _ (by decide) (by decide) (by decide) (by decide) (by decide +kernel) (V0.tab hT)).mono ?_
  rintro _ w1 ⟨u1, c1, f1, rfl, i1, z1, hb1⟩
  have V1 := V0.call hb1
  obtain ⟨s1a, s1b⟩ := i1.sz
  go_wp2_with fail
  refine (tOf_any _ _ _ 17 _ (by omega) (by omega) (by omega) (by omega) (V1.tab hT)).mono ?_
  rintro _ w2 ⟨u2, c2, f2, rfl, i2, z2, hb2⟩
  rw [i1.val] at i2 z2
  have V2 := V1.call hb2
  obtain ⟨s2a, s2b⟩ := i2.sz
  have V3 := V2.push 81 [.bool false, .bool u2, .string c2, .string f2]
  obtain ⟨r0, r1, r2, r3, _⟩ := row4 (V3.row 0 rfl)
  go_wp2_with fail
  refine (ratBegun_any _ (V3.tab hT)).mono ?_
  rintro _ w4 ⟨rfl, hb4⟩
  have V4 := V3.call hb4
  obtain ⟨r0, r1, r2, r3, _⟩ := row4 (V4.row 0 rfl)
  go_wp2_with fail
  refine (tCos_any _ _ _ _ 17 _ (by omega) (by omega) (by omega) (by omega) (V4.tab hT)).mono ?_
  rintro _ w5 ⟨u5, c5, f5, rfl, i5, z5, hb5⟩
  rw [i2.val, HC.out] at i5
  have V5 := V4.call hb5
  obtain ⟨r0, r1, r2, r3, _⟩ := row4 (V5.row 0 rfl)
  go_wp2_with fail
  refine (num_any 3 5 _ (by decide) (by decide) (by decide) (by decide) (by decide +kernel) (V5.tab hT)).mono ?_
  rintro _ w6 ⟨u6, c6, f6, rfl, i6, z6, hb6⟩
  obtain ⟨rfl, rfl, rfl⟩ := i5.inj i6
  have V6 := V5.call hb6
  obtain ⟨r0, r1, r2, r3, _⟩ := row4 (V6.row 0 rfl)
  go_wp2_with fail
  refine (tSin_any _ _ _ _ 17 _ (by omega) (by omega) (by omega) (by omega) (V6.tab hT)).mono ?_
  rintro _ w7 ⟨u7, c7, f7, rfl, i7, z7, hb7⟩
  rw [i2.val, HS.out] at i7
  have V7 := V6.call hb7
  go_wp2_with fail
  refine (num_any 4 5 _ (by decide) (by decide) (by decide) (by decide) (by decide +kernel) (V7.tab hT)).mono ?_
  rintro _ w8 ⟨u8, c8, f8, rfl, i8, z8, hb8⟩
  obtain ⟨rfl, rfl, rfl⟩ := i7.inj i8
  have V8 := V7.call hb8
  go_wp2_with fail
  go_ret
  exact ⟨rfl, V8.1⟩

end Go.Proofs.YtajkihgioikipaaDoor.vecD
