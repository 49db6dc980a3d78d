/- Memory, no program: variables of the call's own, wherever they were laid; all else is as it was. -/
import Derived.Test.YtjhoddlhdoiifaaGreatDoorHeld
namespace Go.Proofs.YtjhoddlhdoiifaaGreatDoor.vars
open Go.RowKit num mem seg held

/-- blocks that the call laid hold these cells; all that lay in w0 is as it was -/
def Vars (w0 : World) (ls : List (Nat × Nat × List Value)) (w : World) : Prop :=
  Below w0.heap.size w0 w ∧ (∀ (i b T : Nat) (l : List Value), ls[i]? = some (b, T, l) → w0.heap.size ≤ b ∧ Row w b T l) ∧
    ∀ (i j : Nat) (x y : Nat × Nat × List Value), ls[i]? = some x → ls[j]? = some y → x.1 = y.1 → i = j
section
variable {w0 w w' : World} {ls : List (Nat × Nat × List Value)} {b T : Nat} {l : List Value}
theorem Vars.nil (w : World) : Vars w [] w := ⟨Below.refl _ _, fun i b T l h => by simp at h, fun i j x y h => by simp at h⟩
theorem Vars.size (h : Vars w0 ls w) : w0.heap.size ≤ w.heap.size := h.1.size
theorem Vars.row (h : Vars w0 ls w) (i : Nat) (hi : ls[i]? = some (b, T, l)) : Row w b T l := (h.2.1 i b T l hi).2
theorem Vars.push (h : Vars w0 ls w) (T : Nat) (l : List Value) : Vars w0 (ls ++ [(w.heap.size, T, l)]) (w.alloc (.cells l.toArray T)) := by
  have old : ∀ (i : Nat) (x : Nat × Nat × List Value), ls[i]? = some x → x.1 < w.heap.size := fun i x hx => (h.2.1 i x.1 x.2.1 x.2.2 hx).2.lt
  refine ⟨h.1.alloc h.1.size _, ?_, ?_⟩
  · intro i b' T' l' hi
    by_cases hlt : i < ls.length
    · rw [List.getElem?_append_left hlt] at hi
      exact ⟨(h.2.1 i b' T' l' hi).1, (h.2.1 i b' T' l' hi).2.alloc _⟩
    · have hi' : i = ls.length := by
        have := (List.getElem?_eq_some_iff.1 hi).1
        simp at this; omega
      subst hi'
      simp at hi
      obtain ⟨rfl, rfl, rfl⟩ := hi
      exact ⟨h.1.size, Row.alloc_new w T l⟩
  · intro i j x y hi hj he
    by_cases h1 : i < ls.length <;> by_cases h2 : j < ls.length
    · rw [List.getElem?_append_left h1] at hi
      rw [List.getElem?_append_left h2] at hj
      exact h.2.2 i j x y hi hj he
    · have hj' : j = ls.length := by have := (List.getElem?_eq_some_iff.1 hj).1; simp at this; omega
      subst hj'
      rw [List.getElem?_append_left h1] at hi
      simp at hj
      have := old i x hi
      rw [he, ← hj] at this
      exact absurd this (Nat.lt_irrefl _)
    · have hi' : i = ls.length := by have := (List.getElem?_eq_some_iff.1 hi).1; simp at this; omega
      subst hi'
      rw [List.getElem?_append_left h2] at hj
      simp at hi
      have := old j y hj
      rw [← he, ← hi] at this
      exact absurd this (Nat.lt_irrefl _)
    · have h3 := (List.getElem?_eq_some_iff.1 hi).1
      have h4 := (List.getElem?_eq_some_iff.1 hj).1
      simp at h3 h4
      omega
theorem Vars.call (h : Vars w0 ls w) (hb : Below w.heap.size w w') : Vars w0 ls w' :=
  ⟨h.1.trans (hb.mono h.1.size), fun i b T l hi => ⟨(h.2.1 i b T l hi).1, (h.2.1 i b T l hi).2.below hb (h.2.1 i b T l hi).2.lt⟩, h.2.2⟩
theorem Vars.drew (h : Vars w0 ls w) : Vars w0 ls w.drew := ⟨h.1.drew, h.2.1, h.2.2⟩
theorem Vars.tab (h : Vars w0 ls w) (hT : Tab w0) : Tab w := hT.below h.1 (Nat.le_refl _)
theorem Vars.lead {ms : List (Nat × Nat × List Value)} (h : Vars w0 (ls ++ ms) w) : Vars w0 ls w := by
  have key : ∀ (i : Nat) (x : Nat × Nat × List Value), ls[i]? = some x → (ls ++ ms)[i]? = some x := fun i x hi => by
    rw [List.getElem?_append_left (List.getElem?_eq_some_iff.1 hi).1]; exact hi
  exact ⟨h.1, fun i b T l hi => h.2.1 i b T l (key _ _ hi), fun i j x y hi hj => h.2.2 i j x y (key _ _ hi) (key _ _ hj)⟩
theorem Vars.set (h : Vars w0 ls w) (i j : Nat) (hi : ls[i]? = some (b, T, l)) (v : Value) : Vars w0 (ls.set i (b, T, l.set j v)) (w.setCell ⟨b, j, none⟩ v) := by
  have hlt := (List.getElem?_eq_some_iff.1 hi).1
  have key : ∀ (k : Nat) (x : Nat × Nat × List Value), (ls.set i (b, T, l.set j v))[k]? = some x → ∃ y, ls[k]? = some y ∧ y.1 = x.1 := by
    intro k x hk
    by_cases e : i = k
    · subst e
      rw [List.getElem?_set_self hlt] at hk
      exact ⟨_, hi, by rw [← Option.some.inj hk]⟩
    · rw [List.getElem?_set_ne e] at hk
      exact ⟨x, hk, rfl⟩
  refine ⟨h.1.setCell (h.2.1 i b T l hi).1 v, ?_, ?_⟩
  · intro k b' T' l' hk
    by_cases e : i = k
    · subst e
      rw [List.getElem?_set_self hlt] at hk
      have := Option.some.inj hk
      obtain ⟨rfl, h2⟩ := Prod.mk.inj this
      obtain ⟨rfl, rfl⟩ := Prod.mk.inj h2
      exact ⟨(h.2.1 i b T l hi).1, (h.2.1 i b T l hi).2.set j v⟩
    · rw [List.getElem?_set_ne e] at hk
      refine ⟨(h.2.1 k b' T' l' hk).1, (h.2.1 k b' T' l' hk).2.set_ne ?_ v⟩
      show b ≠ b'
      intro hbb
      exact e (h.2.2 i k _ _ hi hk hbb)
  · intro k m x y hk hm he
    obtain ⟨x', h1, e1⟩ := key k x hk
    obtain ⟨y', h2, e2⟩ := key m y hm
    exact h.2.2 k m x' y' h1 h2 (by rw [e1, e2, he])
theorem Vars.put3 (h : Vars w0 ls w) (i : Nat) {x y z : Value} (hi : ls[i]? = some (b, T, [x, y, z])) (x' y' z' : Value) :
    Vars w0 (ls.set i (b, T, [x', y', z'])) (((w.setCell ⟨b, 0, none⟩ x').setCell ⟨b, 1, none⟩ y').setCell ⟨b, 2, none⟩ z') := by
  have hlt := (List.getElem?_eq_some_iff.1 hi).1
  have h1 := h.set i 0 hi x'
  have h2 := h1.set i 1 (List.getElem?_set_self hlt) y'
  have h3 := h2.set i 2 (List.getElem?_set_self (by simpa using hlt)) z'
  rw [List.set_set, List.set_set] at h3
  exact h3
end
section
variable {w : World} {b T : Nat} {x y z t u v : Value}
end
theorem vars1 (w : World) (T : Nat) (l : List Value) : Vars w [(w.heap.size, T, l)] (w.alloc (.cells l.toArray T)) := (Vars.nil w).push T l
theorem vars2 (w : World) (T T' : Nat) (l l' : List Value) : Vars w [(w.heap.size, T, l), (w.heap.size + 1, T', l')] ((w.alloc (.cells l.toArray T)).alloc (.cells l'.toArray T')) := by
  have := (vars1 w T l).push T' l'
  simpa using this
theorem vars3 (w : World) (T T' T'' : Nat) (l l' l'' : List Value) : Vars w [(w.heap.size, T, l), (w.heap.size + 1, T', l'), (w.heap.size + 1 + 1, T'', l'')] (((w.alloc (.cells l.toArray T)).alloc (.cells l'.toArray T')).alloc (.cells l''.toArray T'')) := by
  have := (vars2 w T T' l l').push T'' l''
  simpa using this

end Go.Proofs.YtjhoddlhdoiifaaGreatDoor.vars
