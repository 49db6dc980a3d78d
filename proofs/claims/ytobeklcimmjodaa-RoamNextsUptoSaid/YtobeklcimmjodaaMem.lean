/- Memory, no program: a block whose cells are all known; the laws of make and of conversions in that form. -/
import Derived.WalkKit
import Derived.Lib.Hide
import Derived.Laws.BytesArg
import Derived.Test.YtobeklcimmjodaaBits
namespace Go.Proofs.Ytobeklcimmjodaa.mem
open Go.RowKit

/-- block b holds the cells l, of element type T, and no string shares them -/
def Row (w : World) (b : Nat) (T : TypeId) (l : List Value) : Prop := w.heap[b]? = some (.cells l.toArray T (0, 0))
/-- the values of numbers of a kind -/
def nums (k : IntKind) (l : List Nat) : List Value := l.map fun (n : Nat) => Value.int k (n : Int)

theorem nums_length (k : IntKind) (l : List Nat) : (nums k l).length = l.length := by simp [nums]
theorem nums_set (k : IntKind) (l : List Nat) (i n : Nat) : (nums k l).set i (.int k (n : Int)) = nums k (l.set i n) := by simp [nums, List.map_set]
theorem nums_get {k : IntKind} {l : List Nat} {i : Nat} (h : i < l.length) : (nums k l)[i]? = some (.int k ((l.getD i 0 : Nat) : Int)) := by
  simp [nums, List.getElem?_eq_getElem h, List.getD]

section
variable {w w' : World} {b T : Nat} {l : List Value}
theorem Row.lt (h : Row w b T l) : b < w.heap.size := (Array.getElem?_eq_some_iff.1 h).1
theorem Row.cell? (h : Row w b T l) (i : Nat) : w.cell? ⟨b, i, none⟩ = l[i]? := by
  unfold Row at h
  simp [World.cell?, h]
theorem Row.frozen (h : Row w b T l) (i : Nat) : w.frozen? ⟨b, i, none⟩ = false := by
  unfold Row at h
  simp [World.frozen?, h]
theorem Row.set (h : Row w b T l) (i : Nat) (v : Value) : Row (w.setCell ⟨b, i, none⟩ v) b T (l.set i v) := by
  unfold Row at h ⊢
  simp [World.setCell, Array.getElem?_modify, h]
theorem Row.set_ne (h : Row w b T l) {a : Addr} (ha : a.block ≠ b) (v : Value) : Row (w.setCell a v) b T l := by
  unfold Row at h ⊢
  rw [Below.heap_setCell _ _ _ _ (fun e => ha e.symm)]; exact h
theorem Row.drew (h : Row w b T l) : Row w.drew b T l := h
theorem Row.alloc (h : Row w b T l) (o : Obj) : Row (w.alloc o) b T l := by
  unfold Row at h ⊢
  rw [Below.heap_alloc _ _ _ (Row.lt h)]; exact h
theorem Row.alloc_new (w : World) (T : TypeId) (l : List Value) : Row (w.alloc (.cells l.toArray T)) w.heap.size T l := by
  unfold Row
  show (w.heap.push _)[w.heap.size]? = _
  simp
theorem Row.below {B : Nat} (h : Row w b T l) (hb : Below B w w') (hB : b < B) : Row w' b T l := by
  unfold Row at h ⊢
  rw [hb.block b hB]; exact h
theorem Row.grown {r : Option Nat} (h : Row w b T l) (hg : w.grownBy w' r) (hr : some b ≠ r) : Row w' b T l := by
  unfold Row at h ⊢
  rw [hg.block b (Row.lt h) hr]; exact h
theorem Row.int {k : IntKind} {l : List Nat} (h : Row w b T (nums k l)) {i : Nat} (hi : i < l.length) : w.cell? ⟨b, i, none⟩ = some (.int k ((l.getD i 0 : Nat) : Int)) := by
  rw [h.cell?, nums_get hi]
theorem Row.int_set {k : IntKind} {l : List Nat} (h : Row w b T (nums k l)) (i n : Nat) : Row (w.setCell ⟨b, i, none⟩ (.int k (n : Int))) b T (nums k (l.set i n)) := by
  rw [← nums_set]; exact h.set _ _
end

/-- 'make([]T, n)', n a variable: a new block of n zero elements of one cell. -/
theorem wpList_make_row {P : Program} (w : World) {ops : Array Oper} {rest : List Oper} {o : Oper} {a : Act} {Q : Exit → Act → World → Prop}
    (hg : o.guard = none) (l c : Operand) (t : TypeId) (hop : o.op = Op.makeSlice t l c)
    (e : TypeId) (z : Value) (bytes : Nat) (h1 : P.underlying t = some (.slice e)) (h2 : (P.info? e).map (fun i => (i.zero, i.size, i.bytes)) = some (some z, 1, bytes)) (hz : z.cells = #[z])
    (kl kc : IntKind) (L C : Int) (n : Nat) (hl : a.eval l = .int kl L) (hc : a.eval c = .int kc C) (hL : L = (n : Int)) (hC : C = (n : Int)) (b2 : bytes * n ≤ 281474976710656) (b3 : n ≤ 9223372036854775807)
    (hK : ∀ w', Row w' w.heap.size e (List.replicate n z) → w.grownBy w' none → w'.heap.size = w.heap.size + 1 → wpList P ops Q rest (a.put o.dst (.slice (some ⟨w.heap.size, 0, none⟩) n n)) w') :
    wpList P ops Q (o :: rest) a w := by
  obtain ⟨i, h2', h3, h4, h5⟩ := info_parts h2
  subst h5
  refine wpList_plain hg fun K hK' => ?_
  have hb' : (i.bytes : Int) * (n : Int) ≤ 281474976710656 := by
    have h : ((i.bytes * n : Nat) : Int) ≤ 281474976710656 := by omega
    rwa [Int.natCast_mul] at h
  have hrun := run_make (P := P) w t e i z h1 h2' h3 kl kc n n (by omega) (Int.le_refl _) hb' (by omega)
  simp only [Int.toNat_natCast, h4, Nat.mul_one, hz] at hrun
  subst hL
  subst hC
  unfold Oper.wp
  simp [execOp, hop, hl, hc, hrun, Result.andThen]
  refine hK' _ _ (hK _ ?_ (World.grownBy_alloc w _ none) (by simp))
  rw [← toList_madeCells_one]
  exact Row.alloc_new _ _ _

/-! ### a row of which the first cells are known (a slice that was appended to) -/
/-- block b holds cap cells of type T, the first of them l; no string shares them -/
def Pre (w : World) (b T cap : Nat) (l : List Value) : Prop := ∃ cur : Array Value, w.heap[b]? = some (.cells cur T (0, 0)) ∧ cur.size = cap ∧ l.length ≤ cap ∧ cur.toList.take l.length = l
section
variable {w w' : World} {b T cap : Nat} {l : List Value}
theorem Row.pre (h : Row w b T l) : Pre w b T l.length l := ⟨l.toArray, h, by simp, Nat.le_refl _, by simp⟩
theorem Pre.lt (h : Pre w b T cap l) : b < w.heap.size := by obtain ⟨cur, hc, _⟩ := h; exact (Array.getElem?_eq_some_iff.1 hc).1
theorem Pre.le (h : Pre w b T cap l) : l.length ≤ cap := by obtain ⟨cur, _, _, h, _⟩ := h; exact h
theorem Pre.cell? (h : Pre w b T cap l) {i : Nat} (hi : i < l.length) : w.cell? ⟨b, i, none⟩ = l[i]? := by
  obtain ⟨cur, hc, _, hl, ht⟩ := h
  have e : w.cell? ⟨b, i, none⟩ = cur[i]? := by simp [World.cell?, hc]
  rw [e, ← Array.getElem?_toList, ← List.getElem?_take_of_lt hi, ht]
theorem Pre.frozen (h : Pre w b T cap l) (i : Nat) : w.frozen? ⟨b, i, none⟩ = false := by
  obtain ⟨cur, hc, _⟩ := h
  simp [World.frozen?, hc]
theorem Pre.set (h : Pre w b T cap l) (i : Nat) (v : Value) : Pre (w.setCell ⟨b, i, none⟩ v) b T cap (l.set i v) := by
  obtain ⟨cur, hc, hs, hl, ht⟩ := h
  refine ⟨cur.setIfInBounds i v, ?_, by simpa using hs, by simpa using hl, ?_⟩
  · simp [World.setCell, Array.getElem?_modify, hc]
  · rw [List.length_set, Array.toList_setIfInBounds, List.take_set, ht]
theorem Pre.set_ne (h : Pre w b T cap l) {a : Addr} (ha : a.block ≠ b) (v : Value) : Pre (w.setCell a v) b T cap l := by
  obtain ⟨cur, hc, r⟩ := h
  exact ⟨cur, by rw [Below.heap_setCell _ _ _ _ (fun e => ha e.symm)]; exact hc, r⟩
theorem Pre.drew (h : Pre w b T cap l) : Pre w.drew b T cap l := h
theorem Pre.alloc (h : Pre w b T cap l) (o : Obj) : Pre (w.alloc o) b T cap l := by
  have hlt := h.lt
  obtain ⟨cur, hc, r⟩ := h
  exact ⟨cur, by rw [Below.heap_alloc _ _ _ hlt]; exact hc, r⟩
theorem Pre.below {B : Nat} (h : Pre w b T cap l) (hb : Below B w w') (hB : b < B) : Pre w' b T cap l := by
  obtain ⟨cur, hc, r⟩ := h
  exact ⟨cur, by rw [hb.block b hB]; exact hc, r⟩
theorem Pre.grown {r : Option Nat} (h : Pre w b T cap l) (hg : w.grownBy w' r) (hr : some b ≠ r) : Pre w' b T cap l := by
  have hlt := h.lt
  obtain ⟨cur, hc, r'⟩ := h
  exact ⟨cur, by rw [hg.block b hlt hr]; exact hc, r'⟩
theorem Pre.int {k : IntKind} {l : List Nat} (h : Pre w b T cap (nums k l)) {i : Nat} (hi : i < l.length) : w.cell? ⟨b, i, none⟩ = some (.int k ((l.getD i 0 : Nat) : Int)) := by
  rw [h.cell? (by rw [nums_length]; exact hi), nums_get hi]
theorem Pre.int_set {k : IntKind} {l : List Nat} (h : Pre w b T cap (nums k l)) (i n : Nat) : Pre (w.setCell ⟨b, i, none⟩ (.int k (n : Int))) b T cap (nums k (l.set i n)) := by
  rw [← nums_set]; exact h.set _ _
end
theorem Pre.take {w : World} {b T cap : Nat} {l : List Value} (h : Pre w b T cap l) (n : Nat) : Pre w b T cap (l.take n) := by
  obtain ⟨cur, hc, hs, hl, ht⟩ := h
  refine ⟨cur, hc, hs, by rw [List.length_take]; omega, ?_⟩
  rw [List.length_take, ← List.take_take, ht]
theorem nums_take (k : IntKind) (l : List Nat) (n : Nat) : (nums k l).take n = nums k (l.take n) := by simp [nums]
/-- what a slice that the call appended to owns: nothing (nil), or a row's first cells -/
theorem owns_pre {w : World} {base e : Nat} {v : Value} {xs : List Value} (h : w.ownsRow base e 1 v xs.length xs) : (v = .slice none 0 0 ∧ xs = []) ∨ ∃ g cap, v = .slice (some ⟨g, 0, none⟩) xs.length cap ∧ base ≤ g ∧ Pre w g e cap xs := by
  obtain ⟨h1, h2⟩ := h
  rcases h2 with ⟨hv, hn⟩ | ⟨g, cap, cur, hv, hb, hg, hle, _, hs, ht⟩
  · exact .inl ⟨hv, List.eq_nil_of_length_eq_zero hn⟩
  · exact .inr ⟨g, cap, hv, hb, cur, hg, by simpa using hs, hle, by simpa using ht⟩

theorem cell_new1 (w : World) (u : Value) (T : TypeId) : (w.alloc (.cells #[u] T)).cell? ⟨w.heap.size, 0, none⟩ = some u := by
  simp
/-- 'out = append(out, x)', out nil or the call's own, x one cell that was just laid in a block of its own -/
theorem wpList_push {P : Program} {w : World} {ops : Array Oper} {rest : List Oper} {o : Oper} {a : Act} {Q : Exit → Act → World → Prop} (hgd : o.guard = none) (s x : Operand) (t : TypeId)
    (hop : o.op = .call { callee := .builtin .append, args := #[s, x], argTypes := #[t, t] }) (base e : Nat) (z : Value) (bytes : Nat) (ht : P.underlying t = some (.slice e))
    (hinfo : (P.info? e).map (fun i => (i.zero, i.size, i.bytes)) = some (some z, 1, bytes)) (hz : z.cells = #[z])
    (v : Value) (xs : List Value) (hs : a.eval s = v) (hown : w.ownsRow base e 1 v xs.length xs) (g : Nat) (u : Value) (hx : a.eval x = .slice (some ⟨g, 0, none⟩) 1 1)
    (hc : w.cell? ⟨g, 0, none⟩ = some u) (h1 : u.oneCell' = true) (hn : xs.length + 1 ≤ 70368744177664) (hb : (xs.length + 1) * bytes ≤ 140737488355328) (hbase : base ≤ w.heap.size)
    (hK : ∀ v' w', w'.ownsRow base e 1 v' (xs ++ [u]).length (xs ++ [u]) → w.grownBy w' v.ownBlock → wpList P ops Q rest (a.put o.dst v') w') : wpList P ops Q (o :: rest) a w := by
  obtain ⟨i, hi, h3, h4, h5⟩ := info_parts hinfo
  refine wpList_append_own w hgd s x t hop base e i z 1 bytes ht hi h3 h4 h5 (by rw [hz]; rfl) (by omega) v xs.length xs hs hown ⟨g, 0, none⟩ 1 1 [u] hx (by simp) ?_ ?_ (by unfold maxLen; omega) hb hbase ?_
  · intro j y hj
    match j, hj with
    | 0, hj => simp at hj; subst hj; rw [Addr.add_lit]; exact hc
  · intro y hy; rw [List.mem_singleton] at hy; rw [hy]; exact h1
  · intro v' w' ho hg _
    exact hK v' w' (by simpa using ho) hg
theorem nums_snoc (k : IntKind) (l : List Nat) (n : Nat) : nums k l ++ [.int k (n : Int)] = nums k (l ++ [n]) := by simp [nums]
theorem owned_block {w : World} {base e size n : Nat} {v : Value} {xs : List Value} (h : w.ownsRow base e size v n xs) : ∀ k, v.ownBlock = some k → base ≤ k := by
  intro k hk
  rcases h.2 with ⟨rfl, _⟩ | ⟨g, cap, cur, rfl, hb, _⟩
  · simp [Value.ownBlock] at hk
  · simp [Value.ownBlock] at hk; omega

end Go.Proofs.Ytobeklcimmjodaa.mem
