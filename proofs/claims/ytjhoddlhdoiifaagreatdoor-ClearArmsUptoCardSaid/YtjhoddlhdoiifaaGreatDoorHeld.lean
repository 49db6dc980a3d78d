/- Memory, no program: variables of the call's own that hold known cells; all else is as it was. -/
import Derived.Test.YtjhoddlhdoiifaaGreatDoorSeg
namespace Go.Proofs.YtjhoddlhdoiifaaGreatDoor.held
open Go.RowKit num mem seg

section
variable {w w' : World} {b T : Nat} {x y z x' y' z' : Value}
/-- the cells of a number in a variable -/
theorem row3 (h : Row w b T [x, y, z]) : w.cell? ⟨b, 0, none⟩ = some x ∧ w.cell? ⟨b, 1, none⟩ = some y ∧ w.cell? ⟨b, 2, none⟩ = some z ∧ w.frozen? ⟨b, 0, none⟩ = false ∧ w.frozen? ⟨b, 1, none⟩ = false ∧ w.frozen? ⟨b, 2, none⟩ = false :=
  ⟨h.cell? 0, h.cell? 1, h.cell? 2, h.frozen 0, h.frozen 1, h.frozen 2⟩
end
/-- from the first free block of w0 on lie variables that hold ls; all that lay in w0 is as it was -/
def Held (w0 : World) (ls : List (Nat × List Value)) (w : World) : Prop := Below w0.heap.size w0 w ∧ ∀ (i T : Nat) (l : List Value), ls[i]? = some (T, l) → Row w (w0.heap.size + i) T l
section
variable {w0 w w' : World} {ls : List (Nat × List Value)} {T : Nat} {l : List Value}
theorem Held.nil (w : World) : Held w [] w := ⟨Below.refl _ _, fun i T l h => by simp at h⟩
theorem Held.push (h : Held w0 ls w) (hs : w.heap.size = w0.heap.size + ls.length) (T : Nat) (l : List Value) : Held w0 (ls ++ [(T, l)]) (w.alloc (.cells l.toArray T)) := by
  refine ⟨h.1.alloc h.1.size _, ?_⟩
  intro i T' l' hi
  by_cases hlt : i < ls.length
  · rw [List.getElem?_append_left hlt] at hi
    exact (h.2 i T' l' hi).alloc _
  · have hi' : i = ls.length := by
      have := (List.getElem?_eq_some_iff.1 hi).1
      simp at this; omega
    subst hi'
    simp at hi
    obtain ⟨rfl, rfl⟩ := hi
    rw [← hs]
    exact Row.alloc_new w T l
theorem Held.start1 (w : World) (T : Nat) (l : List Value) : Held w [(T, l)] (w.alloc (.cells l.toArray T)) := (Held.nil w).push (by simp) T l
theorem Held.start2 (w : World) (T T' : Nat) (l l' : List Value) : Held w [(T, l), (T', l')] ((w.alloc (.cells l.toArray T)).alloc (.cells l'.toArray T')) := (Held.start1 w T l).push (by simp) T' l'
theorem Held.start3 (w : World) (T T' T'' : Nat) (l l' l'' : List Value) : Held w [(T, l), (T', l'), (T'', l'')] (((w.alloc (.cells l.toArray T)).alloc (.cells l'.toArray T')).alloc (.cells l''.toArray T'')) := (Held.start2 w T T' l l').push (by simp) T'' l''
theorem Held.call (h : Held w0 ls w) (hb : Below w.heap.size w w') : Held w0 ls w' :=
  ⟨h.1.trans (hb.mono h.1.size), fun i T l hi => (h.2 i T l hi).below hb (h.2 i T l hi).lt⟩
theorem Held.drew (h : Held w0 ls w) : Held w0 ls w.drew := ⟨h.1.drew, h.2⟩
theorem Held.row (h : Held w0 ls w) (i : Nat) (hi : ls[i]? = some (T, l)) : Row w (w0.heap.size + i) T l := h.2 i T l hi
theorem Held.row0 (h : Held w0 ls w) (hi : ls[0]? = some (T, l)) : Row w w0.heap.size T l := h.2 0 T l hi
theorem Held.set (h : Held w0 ls w) (i j : Nat) (hi : ls[i]? = some (T, l)) (v : Value) : Held w0 (ls.set i (T, l.set j v)) (w.setCell ⟨w0.heap.size + i, j, none⟩ v) := by
  refine ⟨h.1.setCell (Nat.le_add_right _ _) v, ?_⟩
  intro k T' l' hk
  by_cases e : i = k
  · subst e
    have hlt := (List.getElem?_eq_some_iff.1 hi).1
    rw [List.getElem?_set_self hlt] at hk
    have := Option.some.inj hk
    obtain ⟨rfl, rfl⟩ := Prod.mk.inj this
    exact (h.2 i T l hi).set j v
  · rw [List.getElem?_set_ne e] at hk
    exact (h.2 k T' l' hk).set_ne (by show w0.heap.size + i ≠ w0.heap.size + k; omega) v
theorem Held.put3 (h : Held w0 ls w) (i : Nat) {x y z : Value} (hi : ls[i]? = some (T, [x, y, z])) (x' y' z' : Value) :
    Held w0 (ls.set i (T, [x', y', z'])) (((w.setCell ⟨w0.heap.size + i, 0, none⟩ x').setCell ⟨w0.heap.size + i, 1, none⟩ y').setCell ⟨w0.heap.size + i, 2, none⟩ z') := by
  have hlt := (List.getElem?_eq_some_iff.1 hi).1
  have h1 := h.set i 0 hi x'
  have h2 := h1.set i 1 (List.getElem?_set_self hlt) y'
  have h3 := h2.set i 2 (List.getElem?_set_self (by simpa using hlt)) z'
  rw [List.set_set, List.set_set] at h3
  exact h3
theorem Held.put3_0 (h : Held w0 ls w) {x y z : Value} (hi : ls[0]? = some (T, [x, y, z])) (x' y' z' : Value) :
    Held w0 (ls.set 0 (T, [x', y', z'])) (((w.setCell ⟨w0.heap.size, 0, none⟩ x').setCell ⟨w0.heap.size, 1, none⟩ y').setCell ⟨w0.heap.size, 2, none⟩ z') := h.put3 0 hi x' y' z'
theorem Held.past (h : Held w0 ls w) {b : Nat} (hb : w0.heap.size + ls.length ≤ b) (j : Nat) (v : Value) : Held w0 ls (w.setCell ⟨b, j, none⟩ v) := by
  refine ⟨h.1.setCell (by show w0.heap.size ≤ b; omega) v, ?_⟩
  intro k T' l' hk
  have hlt := (List.getElem?_eq_some_iff.1 hk).1
  exact (h.2 k T' l' hk).set_ne (by show b ≠ w0.heap.size + k; omega) v
theorem Held.past3 (h : Held w0 ls w) {b : Nat} (hb : w0.heap.size + ls.length ≤ b) (x y z : Value) : Held w0 ls (((w.setCell ⟨b, 0, none⟩ x).setCell ⟨b, 1, none⟩ y).setCell ⟨b, 2, none⟩ z) := ((h.past hb 0 x).past hb 1 y).past hb 2 z
theorem Held.two {x y z : Nat × List Value} (h : Held w0 [x, y, z] w) : Held w0 [x, y] w := by
  refine ⟨h.1, fun i T l hi => h.2 i T l ?_⟩
  match i, hi with
  | 0, hi => exact hi
  | 1, hi => exact hi
theorem Held.tab (h : Held w0 ls w) (hT : Tab w0) : Tab w := hT.below h.1 (Nat.le_refl _)
end

end Go.Proofs.YtjhoddlhdoiifaaGreatDoor.held
