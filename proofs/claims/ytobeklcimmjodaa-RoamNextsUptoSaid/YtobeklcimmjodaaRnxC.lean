/- slices.Clone at a list of numbers that is empty (nil, or none of them): it hands over a row of its own, which is empty. -/
import Derived.Test.YtobeklcimmjodaaRnxB
import Derived.WalkKit
import Derived.Deep.LoopGhost
import Derived.Lib.Walk
import Derived.Lib.SliceRun
import Derived.OwnWalk
namespace Go.Proofs.Ytobeklcimmjodaa.eng
open Go.RowKit Go.Lib mem
set_option maxHeartbeats 2000000 in
set_option maxRecDepth 100000 in
theorem cloneE_some (d : Addr) (c : Nat) (w : World) :
    Calls Try.prog 13 #[.slice (some d) 0 c] w fun e w' => ∃ v', e = .returned v' ∧ w'.ownsRow w.heap.size 3 1 v' 0 [] ∧ Below w.heap.size w w' := by
  have t22 : Try.prog.underlying 22 = some (.slice 3) := Try.underlying22
  have hi0 : (Try.prog.info? 3).map (fun i => (i.zero, i.size, i.bytes)) = some (some (Value.int IntKind.i64 0), 1, 8) := by kernel_rfl
  obtain ⟨i0, hi, hz0, hz1, hz2⟩ := info_parts hi0
  have q22 : ∀ (w : World) (a : Option Addr) (n c n' c' : Nat), (binOp .eql 22 (.slice a n c) (.slice none n' c')).run Try.prog w = .ok (.bool a.isNone) w := fun w a n c n' c' => Lib.run_eql_slice_nil w _ _ a n c n' c' t22
  have u22 : ∀ w, Sem.run Try.prog (underlying 22) w = .ok (TypeDesc.slice 3) w := run_underlying t22
  go_enter Try.func13, Try.ntmps13
  go_wp2_with (at_builtin; refine wpList_append_own _ rfl _ _ 22 rfl w.heap.size 3 i0 (.int .i64 0) 1 8 t22 hi hz0 hz1 hz2 rfl (by decide) _ _ _ rfl (World.ownsRow_made w #[] 0 (Nat.le_refl _) (Nat.zero_le _) rfl) d 0 c [] rfl ?qc1 ?qc2 ?qc3 ?qc4 ?qc5 ?qc6 ?_)
  case qc1 => rfl
  case qc2 => intro j u hj; simp at hj
  case qc3 => intro u hu; simp at hu
  case qc4 => decide
  case qc5 => decide
  case qc6 => simp
  intro v' w1 hown hgrow hnil
  go_wp2
  go_ret
  refine ⟨v', rfl, by simpa using hown, ?_⟩
  exact ((Below.refl _ w).alloc (Nat.le_refl _) _).grown hgrow (by simp) (by intro k hk; simp [Value.ownBlock] at hk; omega)
set_option maxHeartbeats 2000000 in
theorem cloneE_none (c : Nat) (w : World) :
    Calls Try.prog 13 #[.slice none 0 c] w fun e w' => ∃ v', e = .returned v' ∧ w'.ownsRow w.heap.size 3 1 v' 0 [] ∧ Below w.heap.size w w' := by
  have t22 : Try.prog.underlying 22 = some (.slice 3) := Try.underlying22
  have q22 : ∀ (w : World) (a : Option Addr) (n c n' c' : Nat), (binOp .eql 22 (.slice a n c) (.slice none n' c')).run Try.prog w = .ok (.bool a.isNone) w := fun w a n c n' c' => Lib.run_eql_slice_nil w _ _ a n c n' c' t22
  go_enter Try.func13, Try.ntmps13
  go_wp2
  go_ret
  exact ⟨_, rfl, World.ownsRow_nil _ _ _ _, Below.refl _ w⟩
theorem cloneE_spec : SpecR Try.prog Tab 13 [.val (.one (.d (.list [])))] 3 1 [] := by
  refine ⟨enters_of Try.func13 rfl rfl, fun w I vs hG hI hrel => ?_⟩
  obtain ⟨x, rfl, hx⟩ : ∃ x, vs = [x] ∧ Den w I x (.list []) := by
    obtain ⟨hl, h⟩ := hrel
    match vs, hl with
    | [x], _ => exact ⟨x, rfl, h 0 _ x rfl rfl⟩
  have hc : ∃ ad c, x = .slice ad 0 c := by
    generalize hd : (D.list []) = d at hx
    cases hx with
    | v x hx => simp at hd
    | iface _ _ _ _ _ => simp at hd
    | fn _ _ _ _ _ _ _ _ => simp at hd
    | nil ad cap => exact ⟨ad, cap, rfl⟩
    | list b off cap n zs c hI hp hl hc hdd hcap =>
      simp only [D.list.injEq] at hd
      subst hd
      exact ⟨_, cap, rfl⟩
  obtain ⟨ad, c, rfl⟩ := hc
  have hC : Calls Try.prog 13 #[.slice ad 0 c] w fun e w' => ∃ v', e = .returned v' ∧ w'.ownsRow w.heap.size 3 1 v' 0 [] ∧ Below w.heap.size w w' := by
    cases ad with
    | none => exact cloneE_none c w
    | some d => exact cloneE_some d c w
  refine hC.mono fun e w' h => ?_
  obtain ⟨v', rfl, h1, h2⟩ := h
  exact ⟨v', rfl, ⟨[], h1, by decide, rfl, fun r hr => by simp at hr, fun i j r d hr => by simp at hr⟩, h2⟩
theorem cloneA_spec (l : List Int) (hn : l.length ≤ 1048576) : SpecR Try.prog Tab 13 [.val (.one (.d (.list (List.map intD l))))] 3 1 (List.map intD l) := by
  by_cases h : 0 < l.length
  · exact cloneN_spec l h hn
  · obtain rfl : l = [] := List.eq_nil_of_length_eq_zero (by omega)
    exact cloneE_spec
theorem k_cloneA {K : AV → Prop} {l : List Int} (hn : l.length ≤ 1048576) (k : K (.new 3 1 (List.map intD l))) : Ask 13 [.val (.one (.d (.list (List.map intD l))))] K := useN (cloneA_spec l hn) k
end Go.Proofs.Ytobeklcimmjodaa.eng
