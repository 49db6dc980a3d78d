/- Contract of gantlaw1.TurnTells: it returns true. Printed by wip/gen_lawt.py. -/
import Derived.Test.YtnnffjolkgomhaaDoorEngTurn
namespace Go.Proofs.YtnnffjolkgomhaaDoor.eng
open Go.RowKit num mem seg q held ratA ratB ratC ratD ratE vars ratF trq
section
variable {x y : RV} {h g : Bool} {K : AV → Prop}
set_option maxRecDepth 100000 in
theorem turnTells_spec (h g : Bool) (x y : RV) (hx : x.z ≤ 1048576) (hy : y.z ≤ 1048576) : Spec Tryd.prog Tab 7 [turn h x, turn g y] (bool true) := by
  cases h <;> cases g
  · refine fn_spec Tryd.func7 rfl rfl Tryd.ntmps7 rfl (by kernel_rfl) rfl rfl ?_
    refine k_turnBegun ?_
    refine ⟨fun e => by simp at e, fun _ => ?_⟩
    refine k_RCircle (by omega) fun p1 q1 e1 h1 y1 z1 => ?_
    try simp only [cn_q] at e1 h1
    refine k_neg (by omega) fun q2 h2 z2 => ?_
    try simp only [cn_q] at h2
    refine k_RTurnOf (by omega) (by omega) fun b3 q3 e3 h3 z3 => ?_
    try simp only [cn_q] at e3 h3
    refine ⟨by kernel_rfl, ?_⟩
    refine k_RBoth0 (by omega) fun q4 h4 z4 => ?_
    refine k_RBoth0 (by omega) fun q5 h5 z5 => ?_
    refine ⟨by kernel_rfl, ?_⟩
    refine k_cmp (by omega) (by omega) fun n6 h6 => ?_
    try simp only [cn_q] at h6
    refine ⟨fun e => by simp at e, fun _ => ?_⟩
    refine k_tOf (by omega) fun q7 h7 z7 => ?_
    try simp only [cn_q] at h7
    refine k_I (0) (by omega) (by omega) fun q8 h8 z8 => ?_
    refine k_add (by omega) (by omega) fun q9 h9 z9 => ?_
    try simp only [cn_q] at h9
    refine k_eql_turn_t ⟨rfl, by subst_vars; simp only [cn_q, Rat.intCast_zero, Rat.add_zero]⟩ ?_
    refine k_tCos (by omega) fun q11 h11 z11 => ?_
    try simp only [cn_q] at h11
    refine k_eql_rat_t (by subst_vars; exact congrArg cn (circ_cos _ _).symm) ?_
    refine k_tSin (by omega) fun q13 h13 z13 => ?_
    try simp only [cn_q] at h13
    refine k_eql_rat_t (by subst_vars; exact congrArg cn (sirc_sin _ _).symm) ?_
    refine k_tThen (by omega) (by omega) fun b15 q15 e15 h15 z15 => ?_
    refine k_RBoth (by omega) (by omega) fun b16 q16 e16 h16 z16 => ?_
    refine k_RSame_eq (by subst_vars; rfl) (by subst_vars; rfl) ?_
    refine k_tBack (by omega) fun q17 h17 z17 => ?_
    try simp only [cn_q] at h17
    refine k_RSame_eq (by subst_vars; simp only [cn_q, circ_cos, sirc_sin]; exact (back_law _ x.q).1.symm) (by subst_vars; simp only [cn_q, circ_cos, sirc_sin]; exact congrArg cn (back_law _ x.q).2.symm) ?_
    refine k_tCmp (by omega) (by omega) fun n18 h18 => ?_
    refine ⟨by kernel_rfl, ?_⟩
    refine Eq.trans (b := bool _) ?_ rfl
    subst_vars; simp [tcmp, tq, cn_q]
  · refine fn_spec Tryd.func7 rfl rfl Tryd.ntmps7 rfl (by kernel_rfl) rfl rfl ?_
    refine k_turnBegun ?_
    refine ⟨fun e => by simp at e, fun _ => ?_⟩
    refine k_RCircle (by omega) fun p1 q1 e1 h1 y1 z1 => ?_
    try simp only [cn_q] at e1 h1
    refine k_neg (by omega) fun q2 h2 z2 => ?_
    try simp only [cn_q] at h2
    refine k_RTurnOf (by omega) (by omega) fun b3 q3 e3 h3 z3 => ?_
    try simp only [cn_q] at e3 h3
    refine ⟨by kernel_rfl, ?_⟩
    refine k_RBoth0 (by omega) fun q4 h4 z4 => ?_
    refine k_RBoth0 (by omega) fun q5 h5 z5 => ?_
    refine ⟨by kernel_rfl, ?_⟩
    refine k_cmp (by omega) (by omega) fun n6 h6 => ?_
    try simp only [cn_q] at h6
    refine ⟨fun _ => ?_, fun e => by simp at e⟩
    refine ⟨fun e => by simp at e, fun _ => ?_⟩
    refine ⟨fun _ => ?_, fun e => by simp at e⟩
    refine k_tOf (by omega) fun q7 h7 z7 => ?_
    try simp only [cn_q] at h7
    refine k_I (0) (by omega) (by omega) fun q8 h8 z8 => ?_
    refine k_add (by omega) (by omega) fun q9 h9 z9 => ?_
    try simp only [cn_q] at h9
    refine k_eql_turn_t ⟨rfl, by subst_vars; simp only [cn_q, Rat.intCast_zero, Rat.add_zero]⟩ ?_
    refine k_tCos (by omega) fun q11 h11 z11 => ?_
    try simp only [cn_q] at h11
    refine k_eql_rat_t (by subst_vars; exact congrArg cn (circ_cos _ _).symm) ?_
    refine k_tSin (by omega) fun q13 h13 z13 => ?_
    try simp only [cn_q] at h13
    refine k_eql_rat_t (by subst_vars; exact congrArg cn (sirc_sin _ _).symm) ?_
    refine k_tThen (by omega) (by omega) fun b15 q15 e15 h15 z15 => ?_
    refine k_RBoth (by omega) (by omega) fun b16 q16 e16 h16 z16 => ?_
    refine k_RSame_eq (by subst_vars; rfl) (by subst_vars; rfl) ?_
    refine k_tBack (by omega) fun q17 h17 z17 => ?_
    try simp only [cn_q] at h17
    refine k_RSame_eq (by subst_vars; simp only [cn_q, circ_cos, sirc_sin]; exact (back_law _ x.q).1.symm) (by subst_vars; simp only [cn_q, circ_cos, sirc_sin]; exact congrArg cn (back_law _ x.q).2.symm) ?_
    refine k_tCmp (by omega) (by omega) fun n18 h18 => ?_
    refine ⟨by kernel_rfl, ?_⟩
    refine Eq.trans (b := bool _) ?_ rfl
    subst_vars; simp [tcmp, tq, cn_q]
  · refine fn_spec Tryd.func7 rfl rfl Tryd.ntmps7 rfl (by kernel_rfl) rfl rfl ?_
    refine k_turnBegun ?_
    refine ⟨fun e => by simp at e, fun _ => ?_⟩
    refine k_RCircle (by omega) fun p1 q1 e1 h1 y1 z1 => ?_
    try simp only [cn_q] at e1 h1
    refine k_neg (by omega) fun q2 h2 z2 => ?_
    try simp only [cn_q] at h2
    refine k_RTurnOf (by omega) (by omega) fun b3 q3 e3 h3 z3 => ?_
    try simp only [cn_q] at e3 h3
    refine ⟨by kernel_rfl, ?_⟩
    refine k_RBoth0 (by omega) fun q4 h4 z4 => ?_
    refine k_RBoth0 (by omega) fun q5 h5 z5 => ?_
    refine ⟨by kernel_rfl, ?_⟩
    refine k_cmp (by omega) (by omega) fun n6 h6 => ?_
    try simp only [cn_q] at h6
    refine ⟨fun _ => ?_, fun e => by simp at e⟩
    refine ⟨fun _ => ?_, fun e => by simp at e⟩
    refine ⟨fun e => by simp at e, fun _ => ?_⟩
    refine k_tOf (by omega) fun q7 h7 z7 => ?_
    try simp only [cn_q] at h7
    refine k_I (0) (by omega) (by omega) fun q8 h8 z8 => ?_
    refine k_add (by omega) (by omega) fun q9 h9 z9 => ?_
    try simp only [cn_q] at h9
    refine k_eql_turn_t ⟨rfl, by subst_vars; simp only [cn_q, Rat.intCast_zero, Rat.add_zero]⟩ ?_
    refine k_tCos (by omega) fun q11 h11 z11 => ?_
    try simp only [cn_q] at h11
    refine k_eql_rat_t (by subst_vars; exact congrArg cn (circ_cos _ _).symm) ?_
    refine k_tSin (by omega) fun q13 h13 z13 => ?_
    try simp only [cn_q] at h13
    refine k_eql_rat_t (by subst_vars; exact congrArg cn (sirc_sin _ _).symm) ?_
    refine k_tThen (by omega) (by omega) fun b15 q15 e15 h15 z15 => ?_
    refine k_RBoth (by omega) (by omega) fun b16 q16 e16 h16 z16 => ?_
    refine k_RSame_eq (by subst_vars; rfl) (by subst_vars; rfl) ?_
    refine k_tBack (by omega) fun q17 h17 z17 => ?_
    try simp only [cn_q] at h17
    refine k_RSame_eq (by subst_vars; simp only [cn_q, circ_cos, sirc_sin]; exact (back_law _ x.q).1.symm) (by subst_vars; simp only [cn_q, circ_cos, sirc_sin]; exact congrArg cn (back_law _ x.q).2.symm) ?_
    refine k_tCmp (by omega) (by omega) fun n18 h18 => ?_
    refine ⟨by kernel_rfl, ?_⟩
    refine Eq.trans (b := bool _) ?_ rfl
    subst_vars; simp [tcmp, tq, cn_q]
  · refine fn_spec Tryd.func7 rfl rfl Tryd.ntmps7 rfl (by kernel_rfl) rfl rfl ?_
    refine k_turnBegun ?_
    refine ⟨fun e => by simp at e, fun _ => ?_⟩
    refine k_RCircle (by omega) fun p1 q1 e1 h1 y1 z1 => ?_
    try simp only [cn_q] at e1 h1
    refine k_neg (by omega) fun q2 h2 z2 => ?_
    try simp only [cn_q] at h2
    refine k_RTurnOf (by omega) (by omega) fun b3 q3 e3 h3 z3 => ?_
    try simp only [cn_q] at e3 h3
    refine ⟨by kernel_rfl, ?_⟩
    refine k_RBoth0 (by omega) fun q4 h4 z4 => ?_
    refine k_RBoth0 (by omega) fun q5 h5 z5 => ?_
    refine ⟨by kernel_rfl, ?_⟩
    refine k_cmp (by omega) (by omega) fun n6 h6 => ?_
    try simp only [cn_q] at h6
    refine ⟨fun _ => ?_, fun e => by simp at e⟩
    refine ⟨fun e => by simp at e, fun _ => ?_⟩
    refine ⟨fun e => by simp at e, fun _ => ?_⟩
    refine k_tOf (by omega) fun q7 h7 z7 => ?_
    try simp only [cn_q] at h7
    refine k_I (0) (by omega) (by omega) fun q8 h8 z8 => ?_
    refine k_add (by omega) (by omega) fun q9 h9 z9 => ?_
    try simp only [cn_q] at h9
    refine k_eql_turn_t ⟨rfl, by subst_vars; simp only [cn_q, Rat.intCast_zero, Rat.add_zero]⟩ ?_
    refine k_tCos (by omega) fun q11 h11 z11 => ?_
    try simp only [cn_q] at h11
    refine k_eql_rat_t (by subst_vars; exact congrArg cn (circ_cos _ _).symm) ?_
    refine k_tSin (by omega) fun q13 h13 z13 => ?_
    try simp only [cn_q] at h13
    refine k_eql_rat_t (by subst_vars; exact congrArg cn (sirc_sin _ _).symm) ?_
    refine k_tThen (by omega) (by omega) fun b15 q15 e15 h15 z15 => ?_
    refine k_RBoth (by omega) (by omega) fun b16 q16 e16 h16 z16 => ?_
    refine k_RSame_eq (by subst_vars; rfl) (by subst_vars; rfl) ?_
    refine k_tBack (by omega) fun q17 h17 z17 => ?_
    try simp only [cn_q] at h17
    refine k_RSame_eq (by subst_vars; simp only [cn_q, circ_cos, sirc_sin]; exact (back_law _ x.q).1.symm) (by subst_vars; simp only [cn_q, circ_cos, sirc_sin]; exact congrArg cn (back_law _ x.q).2.symm) ?_
    refine k_tCmp (by omega) (by omega) fun n18 h18 => ?_
    refine ⟨by kernel_rfl, ?_⟩
    refine Eq.trans (b := bool _) ?_ rfl
    subst_vars; simp [tcmp, tq, cn_q]
end
theorem calls_of_spec {P : Program} {G : World → Prop} {f : FuncId} {args : List AV} {vals : List Value} {r : AV} {x : Value} (h : Spec P G f args r) (hr : pv r = some x) {w : World} (hG : G w) (hrel : Rel2 (fun y v => DenAV w (fun _ => False) noBs noMem y v) vals args) :
    Calls P f vals.toArray w fun e w' => e = .returned x ∧ Below w.heap.size w w' :=
  Calls.mono (h.2 w (fun _ => False) vals hG (fun b hb => hb.elim) hrel) fun e w' ⟨y, he, hd, hb⟩ => ⟨by rw [he, (pv_iff hr).1 hd], hb⟩
theorem pvl_rel {w : World} {I : Nat → Prop} {bs : Bs} {mem : Mem} : ∀ {vs : List AV} {l : List Value}, pvl vs = some l → Rel2 (fun y v => DenAV w I bs mem y v) l vs
  | [], l, h => by simp only [pvl, Option.some.injEq] at h; subst h; exact Rel2.nil
  | v :: vs, l, h => by
    simp only [pvl] at h
    split at h
    · rename_i x l' hx hl
      obtain rfl := (Option.some.inj h).symm
      exact (pvl_rel hl).cons ((pv_iff hx).2 rfl)
    · simp at h
theorem turnTells_walk (g0 s00 : Bool) (a00 d00 : ByteArray) (g1 s10 : Bool) (a10 d10 : ByteArray) (N : Nat) (w : World) (_ : 1 ≤ N) (hN : N ≤ 1048576) (ha00 : a00.size ≤ N) (hd00 : d00.size ≤ N) (ha10 : a10.size ≤ N) (hd10 : d10.size ≤ N) (hT : Tab w) :
    Calls Tryd.prog 7 #[.agg #[.bool g0, .bool s00, .string a00, .string d00], .agg #[.bool g1, .bool s10, .string a10, .string d10]] w fun e w' => e = .returned (.bool true) ∧ Below w.heap.size w w' :=
  calls_of_spec (turnTells_spec g0 g1 ⟨s00, a00, d00⟩ ⟨s10, a10, d10⟩ (by unfold RV.z; exact Nat.le_trans (Nat.max_le.2 ⟨ha00, hd00⟩) hN) (by unfold RV.z; exact Nat.le_trans (Nat.max_le.2 ⟨ha10, hd10⟩) hN)) rfl hT (pvl_rel (vs := [turn g0 ⟨s00, a00, d00⟩, turn g1 ⟨s10, a10, d10⟩]) rfl)
end Go.Proofs.YtnnffjolkgomhaaDoor.eng
