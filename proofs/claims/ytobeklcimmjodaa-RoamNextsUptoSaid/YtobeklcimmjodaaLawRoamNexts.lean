/- Proved: gantlaw3.RoamNexts returns true, for all arguments of bulk at most 1048576: Next, All and Number return the results of the reference. Conditions: the bulk of the arguments (the second form). -/
import Derived.Test.YtobeklcimmjodaaRowS
import Derived.Test.YtobeklcimmjodaaOpenS
import Derived.Test.YtobeklcimmjodaaLawRnx
namespace Go.Proofs.Ytobeklcimmjodaa.roamNexts
open Go.ChangeShapes Go.WideShapes Go.ChangeAt Go.RowKit row argopen
open Go.ChangeMaps (open_string)

set_option maxRecDepth 100000 in
theorem reads_ok (t : TypeId) (ht : t ∈ Try.f3.params.toList) : Try.prog.readableRec t = true ∧ t < Try.prog.types.size := by
  rw [Try.params3] at ht
  have h : t ∈ [3, 3, 22] := ht
  simp only [List.mem_cons, List.mem_nil_iff, or_false] at h
  rcases h with rfl | rfl | rfl
  · exact ⟨by kernel_rfl, of_decide_eq_true (by kernel_rfl)⟩
  · exact ⟨by kernel_rfl, of_decide_eq_true (by kernel_rfl)⟩
  · exact ⟨by kernel_rfl, of_decide_eq_true (by kernel_rfl)⟩

set_option maxRecDepth 100000 in
theorem contract (H : Type) (enc : TypeId × Value → H) (W : World) (base : Nat) (args : Array Value) (ds gs : List (DataW H)) (before : List MemPlace)
    (hval : ∀ (j : Nat) t v, Try.f3.params[j]? = some t → args[j]? = some v → Value.okWide Try.prog W .any base t v)
    (hW : DataW.Whole enc Try.prog Try.f3.params.toList Rows.roamNextsSpec.vars false W args.toList ds gs before)
    (hz : (DataW.weightsEach Try.prog (Try.f3.params.toList ++ []) (ds ++ gs)).all (· ≤ reachBytes) = true) (hk : Rows.uptoSmall H (ds ++ gs) = true) (hL : laidMet Try.prog Rows.roamNextsUptoRow.laid W) :
    Calls Try.prog 3 args W fun e W' => ∃ v, e = .returned v ∧ Rows.roamNextsSpec.post enc Try.prog Try.f3 false true false false W args v W' := by
  have hW' := hW
  obtain ⟨p, q, hA0, hV, rfl, hfz, hnd⟩ := hW
  have hA : DataW.TrodAll enc Try.prog W 0 (fun _ => true) true Try.f3.params.toList args.toList ds p := hA0
  rw [Try.params3] at hA hval hz
  obtain ⟨v0, vs0, d0, ds0, p0, q0, hargs, rfl, rfl, h0, r0⟩ := trodAll_cons hA
  obtain ⟨v1, vs1, d1, ds1, p1, q1, rfl, rfl, rfl, h1, r1⟩ := trodAll_cons r0
  obtain ⟨v2, vs2, d2, ds2, p2, q2, rfl, rfl, rfl, h2, r2⟩ := trodAll_cons r1
  obtain ⟨rfl, rfl, rfl⟩ := trodAll_nil r2
  obtain rfl : args = #[v0, v1, v2] := by cases args; simp_all
  obtain ⟨rfl, rfl⟩ := trodVars_none hV
  obtain ⟨x0, rfl, rfl, rfl, w0⟩ := open_int Try.underlying3 (hval 0 3 v0 rfl rfl) h0
  obtain ⟨x1, rfl, rfl, rfl, w1⟩ := open_int Try.underlying3 (hval 1 3 v1 rfl rfl) h1
  obtain ⟨l2, hd2, m2⟩ := open_ints (hval 2 22 v2 rfl rfl) h2 (I := fun b => b < W.heap.size) (fun _ h => h)
  have hB := upto_bound hk
  simp only [List.append_nil, Rows.uptoBulkAll, Rows.uptoBulk] at hB
  have s0 : -9223372036854775808 ≤ x0 ∧ x0 ≤ 9223372036854775807 := by
    have := w0; simp [Lit.wf, IntKind.min, IntKind.max, IntKind.signed, IntKind.bits] at this; omega
  have s1 : -9223372036854775808 ≤ x1 ∧ x1 ≤ 9223372036854775807 := by
    have := w1; simp [Lit.wf, IntKind.min, IntKind.max, IntKind.signed, IntKind.bits] at this; omega
  refine (eng.roamNexts_walk x0 x1 v2 l2 1048576 W (by omega) (by omega) (by omega) (by omega) hd2 (zs_ints m2 (by omega)) (tab_of_laid hL)).mono fun e W' ⟨he, hb⟩ => ?_
  subst he
  exact ⟨_, rfl, law_post laidOut (fun t ht => reads_ok t ht) 4 Try.underlying4 rfl rfl hW' rfl rfl rfl hb⟩

theorem laid_met (os : Os) : laidMet Try.prog Rows.roamNextsUptoRow.laid ((laidWorld os).forCall (fun _ _ => 0) ⟨#[], #[.int .i64 0, .int .i64 0, .slice none 0 0], []⟩).memory :=
  laidMet_of_run' 8 (by kernel_rfl) (by kernel_rfl)
theorem reads (os : Os) {H : Type} (enc : TypeId × Value → H) : ∃ places, DataW.whole enc Try.prog ((laidWorld os).forCall (fun _ _ => 0) ⟨#[], #[.int .i64 0, .int .i64 0, .slice none 0 0], []⟩).memory Try.f3.params.toList Rows.roamNextsSpec.vars false #[Value.int .i64 0, Value.int .i64 0, Value.slice none 0 0].toList 8 = some ([.lit (.int .i64 0), .lit (.int .i64 0), .nil], [], places) :=
  ⟨[], by kernel_rfl⟩

set_option maxRecDepth 100000 in
theorem lifted (os : Os) (started : os.Started) (H : Type) (enc : TypeId × Value → H) (F : Stop.Interp) :
    ReturnsInHanded {} Try.checked os 3 .any ((Rows.OpenSpec.upto Rows.roamNextsSpec).preRow enc Try.prog Try.f3 Rows.roamNextsUptoRow.domain false Rows.roamNextsUptoRow.laid) (((Rows.OpenSpec.upto Rows.roamNextsSpec).at F).post enc Try.prog Try.f3 false true false false) := by
  obtain ⟨places, hx⟩ := reads os enc
  refine returnsInHanded_of_row (C := Try.checked) (s := Rows.OpenSpec.upto Rows.roamNextsSpec) own started (by kernel_rfl) Try.func3
    (witness_row_at (enc := enc) (C := Try.checked) false (laidWorld os) #[.int .i64 0, .int .i64 0, .slice none 0 0] rfl (by kernel_rfl) (by kernel_rfl) (by kernel_rfl)
      (OpenSpec.preRow_of_cond 8 hx (by kernel_rfl) (fun k hk => by cases hk; kernel_rfl) (by kernel_rfl) (laid_met os))) ?_
  intro W base args ds gs before hval hW _ hcond hz hL _ _
  exact contract H enc W base args ds gs before hval hW hz (hcond _ rfl) hL

theorem j0 : OpenClaim.wf (OpenSpec.ofChange (Rows.OpenSpec.upto Rows.roamNextsSpec).bare) Rows.roamNextsUptoRow = true := by kernel_rfl
theorem j1 : laidOutB Try.pinned.checked.prog = true := by kernel_rfl
theorem j2 : mapsRowed Try.pinned.checked.prog = true := by kernel_rfl
theorem j3 : namedTie Try.pinned.checked.prog Rows.roamNextsUptoRow.named (Rows.OpenSpec.upto Rows.roamNextsSpec).bare.vars = true := by kernel_rfl
theorem j4 : (Rows.roamNextsUptoRow.inPlace == Try.pinned.checked.prog.inPlace 3) = true := by kernel_rfl
theorem j5 : (Rows.roamNextsUptoRow.unfollowed == Try.pinned.checked.prog.unfollowed 3) = true := by kernel_rfl
theorem j6 : (Rows.roamNextsUptoRow.recurses == Try.pinned.checked.prog.recurses 3) = true := by kernel_rfl
theorem j7 : (Rows.roamNextsUptoRow.named == Try.pinned.checked.prog.varsNamed 3) = true := by kernel_rfl
theorem j8 : (Rows.roamNextsUptoRow.plainKeys == Try.pinned.checked.prog.plainKeys) = true := by kernel_rfl
theorem j9 : Try.pinned.checked.prog.stopsHeard = true := by kernel_rfl
theorem j10 : Try.pinned.checked.prog.mayEnter = true := by kernel_rfl
theorem j11 : (Rows.roamNextsUptoRow.lifted == Try.pinned.checked.prog.liftsFinal) = true := by kernel_rfl
theorem j12 : (Try.pinned.checked.prog.make == some Rows.roamNextsUptoRow.make) = true := by kernel_rfl
theorem and_t {a b : Bool} (ha : a = true) (hb : b = true) : (a && b) = true := by rw [ha, hb]; rfl
set_option maxHeartbeats 8000000 in
set_option maxRecDepth 100000 in
theorem joined : joinedFacts Try.pinned.checked.prog 3 Try.f3 (Rows.OpenSpec.upto Rows.roamNextsSpec).bare Rows.roamNextsUptoRow = true := by
  unfold joinedFacts
  repeat' (with_reducible refine and_t ?_ ?_)
  all_goals first | with_reducible exact j0 | with_reducible exact j1 | with_reducible exact j2 | with_reducible exact j3 | with_reducible exact j4 | with_reducible exact j5 | with_reducible exact j6 | with_reducible exact j7 | with_reducible exact j8 | with_reducible exact j9 | with_reducible exact j10 | with_reducible exact j11 | with_reducible exact j12 | (as_aux_lemma => kernel_rfl)
set_option maxHeartbeats 8000000 in
set_option maxRecDepth 100000 in
theorem said : Rows.RoamNextsUptoSaid :=
  OpenClaim.holds_of_cond 3 Try.f3 rfl rfl rfl rfl rfl rfl rfl ⟨rfl, rfl, rfl, rfl, rfl⟩ rfl rfl rfl rfl rfl (by kernel_rfl) Try.func3 joined
    (of_decide_eq_true (by kernel_rfl)) (by unfold Func.isWrapper; rw [if_neg (of_decide_eq_false (by kernel_rfl))]; exact ⟨rfl, rfl⟩)
    (fun os started H enc _ F => by rw [OpenClaim.pre_eq_preRow]; exact lifted os started H enc F)

theorem proved : Rows.RoamNextsUptoSaid := said
#print axioms proved
end Go.Proofs.Ytobeklcimmjodaa.roamNexts
