/- What the printed walks (wip/wg.py) lean on. -/
import Derived.Test.YtpejadencgfnnaaGreatDoorGrpS
namespace Go.Proofs.YtpejadencgfnnaaGreatDoor.eng
open Go.RowKit num mem seg q held ratA ratB ratC ratD ratE vars ratF
section
variable {K : AV → Prop}
theorem beq_t {a b : Int} (h : (a == b) = true) : a = b := eq_of_beq h
theorem beq_f {a b : Int} (h : (a == b) = false) : ¬ a = b := fun e => by rw [e] at h; simp at h
theorem bne_t {a b : Int} (h : (a != b) = true) : ¬ a = b := fun e => by rw [e] at h; simp at h
theorem bne_f {a b : Int} (h : (a != b) = false) : a = b := by simpa using h
theorem not_t {b : Bool} (h : (!b) = true) : b = false := by simpa using h
theorem not_f {b : Bool} (h : (!b) = false) : b = true := by simpa using h
theorem cq_lt {n : Int} {p q : Rat} (h : n = cmpQ p q) : n < 0 ↔ p < q := by rw [h]; exact cmp_neg p q
theorem cq_gt {n : Int} {p q : Rat} (h : n = cmpQ p q) : n > 0 ↔ q < p := by rw [h]; exact cmp_pos p q
theorem cq_ge {n : Int} {p q : Rat} (h : n = cmpQ p q) : n ≥ 0 ↔ q ≤ p := by rw [h]; exact cmp_ge p q
theorem sg0_gt {n : Int} {p : Rat} (h : n = sgnQ p) : n > 0 ↔ 0 < p := by rw [h]; exact sgn_pos3 p
theorem sg0_eq {n : Int} {p : Rat} (h : n = sgnQ p) : n = 0 ↔ p = 0 := by
  rw [h, ← sgn_zero]; unfold sgnQ
  by_cases h1 : p.num = 0
  · simp [h1]
  · rw [if_neg h1]; constructor
    · intro e; split at e <;> omega
    · intro e; exact absurd e h1
theorem sg0_lt {n : Int} {p : Rat} (h : n = sgnQ p) : n < 0 ↔ p < 0 := by
  rw [h, ← sgn_neg]; unfold sgnQ
  by_cases h1 : p.num = 0
  · simp [h1]
  · rw [if_neg h1]; constructor
    · intro e; split at e <;> omega
    · intro e; rw [if_pos e]; omega
theorem sg0_le {n : Int} {p : Rat} (h : n = sgnQ p) : n ≤ 0 ↔ p ≤ 0 := by
  have := sg0_gt h
  rw [← Rat.not_lt, ← this]; omega
theorem sg0_ge {n : Int} {p : Rat} (h : n = sgnQ p) : n ≥ 0 ↔ 0 ≤ p := by
  have := sg0_lt h
  rw [← Rat.not_lt, ← this]; omega
theorem k_ix {xs : List (List D)} {m : Int} {n : Nat} (i : Nat) (cs : List D) (hm : m = (i : Int)) (h : xs[i]? = some cs) (hl : cs.length = n) (k : K (.val (.one (.ref cs)))) :
    ∃ r, (∃ cs, 0 ≤ m ∧ xs[m.toNat]? = some cs ∧ cs.length = n ∧ r = .val (.one (.ref cs))) ∧ K r := ⟨_, ⟨cs, by omega, by rw [hm, Int.toNat_natCast]; exact h, hl, rfl⟩, k⟩
theorem k_drop {xs : List (List D)} {m : Int} {n : Nat} (i : Nat) (ys : List (List D)) (hi : i ≤ xs.length) (hm : m = (i : Int)) (hr : ∀ row, row ∈ xs → row.length = n) (hy : xs.drop i = ys) (k : K (.val (.one (.d (.list ys))))) :
    ∃ r, (0 ≤ m ∧ m ≤ (xs.length : Int) ∧ (∀ row, row ∈ xs → row.length = n) ∧ r = .val (.one (.d (.list (xs.drop m.toNat))))) ∧ K r := ⟨_, ⟨by omega, by omega, hr, rfl⟩, by rw [hm, Int.toNat_natCast, hy]; exact k⟩
theorem map_at {α : Type} {f : α → List D} {l : List α} {i : Nat} {x : α} (h : l[i]? = some x) : (List.map f l)[i]? = some (f x) := by rw [List.getElem?_map, h]; rfl
theorem map_rows {α : Type} {f : α → List D} {l : List α} {n : Nat} (h : ∀ x, (f x).length = n) : ∀ row, row ∈ List.map f l → row.length = n := fun row hr => by
  obtain ⟨x, _, rfl⟩ := List.mem_map.1 hr; exact h x
theorem map_snoc {α : Type} {f : α → List D} {l : List α} {i : Nat} {x : α} (h : l[i]? = some x) : List.map f (l.take (i + 1)) = List.map f (l.take i) ++ [f x] := by
  rw [List.take_add_one, h]; simp
/-- a number by its value -/
def rdc (q : Rat) : List D := rd (cn q)
theorem row1 {r : List D} {n : Nat} (h : r.length = n) : ∀ row, row ∈ [r] → row.length = n := fun row hr => by rw [List.mem_singleton.1 hr]; exact h
variable {T : TypeId} {ox oy : Operand}
theorem run_remW (T : TypeId) (ox oy : Operand) (n d : Nat) (hd : 0 < d) (w : World) : (do eqGuard .rem T ox oy (.int .i64 (n : Int)) (.int .i64 (d : Int)); binOp .rem T (.int .i64 (n : Int)) (.int .i64 (d : Int)) : Sem Value).run Tryz.prog w = .ok (.int .i64 ((n % d : Nat) : Int)) w := by
  have h0 : ¬ (d : Int) = 0 := by omega
  have e1 : (n : Int).tmod (d : Int) = ((n % d : Nat) : Int) := rfl
  have hg : eqGuard .rem T ox oy (.int .i64 (n : Int)) (.int .i64 (d : Int)) = pure () := rfl
  rw [hg, binOp_rem]
  unfold Op.intDiv
  rw [if_neg h0]
  simp only [e1]
  rfl
theorem k_remW {x y : Int} (n d : Nat) (hx : x = n) (hy : y = d) (hd : 0 < d) (k : K (int ((n % d : Nat) : Int))) : AskB .rem T ox oy (.int .i64 x) (.int .i64 y) K := by
  subst hx hy
  exact ⟨_, ⟨_, rfl, rfl, run_remW T ox oy n d hd⟩, k⟩
end
end Go.Proofs.YtpejadencgfnnaaGreatDoor.eng
