/- Joined by wip/bundle.py: XAbs XTck0 XWay0. -/
import Derived.Test.YtpejadencgfnnaaGreatDoorGrpA
import Derived.Test.YtpejadencgfnnaaGreatDoorGrpO
import Derived.Test.YtpejadencgfnnaaGreatDoorFore0
import Derived.Test.YtpejadencgfnnaaGreatDoorWg
/- Contracts: absolute values: rat.Abs, gantref3's Abs. -/
namespace Go.Proofs.YtpejadencgfnnaaGreatDoor.eng
open Go.RowKit num mem seg q held ratA ratB ratC ratD ratE vars ratF natC natD natI
section
variable {K : AV → Prop} {x : RV} {q : Rat}
def absV (p : Rat) : Rat := if p.num < 0 then -p else p
theorem cn_absV (p : Rat) : cn (absV p) = ⟨false, (cn p).a, (cn p).d⟩ := by
  unfold absV cn
  split
  · rename_i h
    rw [Rat.neg_num, Rat.neg_den, Int.natAbs_neg, decide_eq_false (by omega)]
  · rename_i h
    rw [decide_eq_false h]
theorem qs_absV (p : Rat) : qs (absV p) = qs p := by
  unfold absV
  split
  · exact qs_neg p
  · rfl
theorem k_absV (hx : x.z ≤ 4398046511104) (k : ∀ q, q = absV x.q → (cn q).z ≤ x.z + 1 → K (rat (cn q))) : Ask 122 [rat x] K := by
  refine use (r := rat (cn (absV x.q))) ?_ rfl (k _ rfl (by have := x.z1; rw [cn_z, qs_absV]; omega))
  refine fn_spec Tryz.func122 rfl rfl Tryz.ntmps122 rfl (by kernel_rfl) rfl rfl ?_
  refine k_fit (by omega) fun q h z => ?_
  refine Eq.trans (b := rat ⟨false, (cn q).a, (cn q).d⟩) ?_ rfl
  rw [cn_absV, h]
theorem q3_absV (p : Rat) : q3 (absV p) = .val (.agg [.d (.v (.bool false)), .d (.list (W (w32 p.num.natAbs))), .d (.list (W (w32 p.den)))]) := by
  unfold q3 absV
  split
  · rename_i h
    rw [Rat.neg_num, Rat.neg_den, Int.natAbs_neg, decide_eq_false (by omega)]
  · rename_i h
    rw [decide_eq_false h]
theorem k_absV3 (k : ∀ r, r = absV q → qs r ≤ qs q → K (q3 r)) : Ask 126 [q3 q] K := by
  refine use (r := q3 (absV q)) ?_ rfl (k _ rfl (Nat.le_of_eq (qs_absV q)))
  refine fn_spec Tryz.func126 rfl rfl Tryz.ntmps126 rfl (by kernel_rfl) rfl rfl ?_
  refine Eq.trans (b := .val (.agg [.d (.v (.bool false)), .d (.list (W (w32 q.num.natAbs))), .d (.list (W (w32 q.den)))])) ?_ rfl
  rw [q3_absV]
end
end Go.Proofs.YtpejadencgfnnaaGreatDoor.eng

/- Plain law: what makes a track valid. No program. -/
namespace Go.Proofs.YtpejadencgfnnaaGreatDoor.eng
open Go.RowKit num mem seg q held ratA ratB ratC ratD ratE vars ratF
/-- the first number that is not 0 -/
def firstE (f : Nat → Int) : Nat → Int
  | 0 => 0
  | n + 1 => if firstE f n = 0 then f n else firstE f n
theorem firstE_0 {f : Nat → Int} : ∀ {n : Nat}, (∀ j, j < n → f j = 0) → firstE f n = 0
  | 0, _ => rfl
  | n + 1, h => by
    unfold firstE
    rw [if_pos (firstE_0 fun j hj => h j (by omega)), h n (by omega)]
theorem firstE_at {f : Nat → Int} {i : Nat} (h : ∀ j, j < i → f j = 0) (hi : f i ≠ 0) : ∀ {n : Nat}, i < n → firstE f n = f i
  | 0, hn => absurd hn (by omega)
  | n + 1, hn => by
    unfold firstE
    by_cases e : i = n
    · subst e; rw [if_pos (firstE_0 h)]
    · rw [firstE_at h hi (n := n) (by omega), if_neg hi]
theorem fits_len {A : ArmV} {q : List RV} (h : fitsE A q = 0) : q.length = A.links.length ∧ armE A = 0 := by
  unfold fitsE at h
  by_cases g : hasE A (q.length : Int) = 0
  · obtain ⟨h1, h2⟩ := hasE_ok.1 g
    exact ⟨by omega, h1⟩
  · rw [if_neg g] at h; exact absurd h g
/-- a joint value beyond the limits among the first -/
def farU (a : ArmV) (q : List RV) (n : Nat) : Prop := ∃ (i : Nat) (l : LinkV) (x : RV), i < n ∧ a.links[i]? = some l ∧ q[i]? = some x ∧ (x.q < l.low.q ∨ l.high.q < x.q)
open Classical in
noncomputable def ffE (a : ArmV) (q : List RV) (n : Nat) : Int := if hasE a (q.length : Int) = 0 then (if farU a q n then 17 else 0) else hasE a (q.length : Int)
theorem ffE_0 (a : ArmV) (q : List RV) : ffE a q 0 = hasE a (q.length : Int) := by
  unfold ffE
  by_cases h : hasE a (q.length : Int) = 0
  · rw [if_pos h, if_neg (by rintro ⟨i, _, _, hi, _⟩; omega), h]
  · rw [if_neg h]
theorem ffE_all {a : ArmV} {q : List RV} {n : Nat} (hn : q.length ≤ n) : ffE a q n = fitsE a q := by
  have : farU a q n ↔ farQ a q := ⟨fun ⟨i, l, x, _, h⟩ => ⟨i, l, x, h⟩, fun ⟨i, l, x, h1, h2, h3⟩ => ⟨i, l, x, by have := (List.getElem?_eq_some_iff.1 h2).1; omega, h1, h2, h3⟩⟩
  unfold ffE fitsE
  by_cases h : hasE a (q.length : Int) = 0
  · rw [if_pos h, if_pos h]
    by_cases g : farQ a q
    · rw [if_pos (this.2 g), if_pos g]
    · rw [if_neg (fun e => g (this.1 e)), if_neg g]
  · rw [if_neg h, if_neg h]
theorem ffE_ok {a : ArmV} {q : List RV} {n : Nat} (h : ffE a q n = 0) : hasE a (q.length : Int) = 0 ∧ ¬ farU a q n := by
  unfold ffE at h
  by_cases g : hasE a (q.length : Int) = 0
  · rw [if_pos g] at h
    refine ⟨g, fun f => ?_⟩
    rw [if_pos f] at h; exact absurd h (by decide)
  · rw [if_neg g] at h; exact absurd h g
theorem ffE_no {a : ArmV} {q : List RV} {n : Nat} (h : ¬ ffE a q n = 0) : ffE a q (n + 1) = ffE a q n := by
  unfold ffE at h ⊢
  by_cases g : hasE a (q.length : Int) = 0
  · rw [if_pos g] at h ⊢
    rw [if_pos g]
    by_cases f : farU a q n
    · obtain ⟨i, l, x, hi, hh⟩ := f
      rw [if_pos ⟨i, l, x, by omega, hh⟩, if_pos ⟨i, l, x, hi, hh⟩]
    · rw [if_neg f] at h; exact absurd rfl h
  · rw [if_neg g, if_neg g]
theorem ffE_far {a : ArmV} {q : List RV} {n : Nat} {l : LinkV} {x : RV} (h : ffE a q n = 0) (hl : a.links[n]? = some l) (hx : q[n]? = some x) (hf : x.q < l.low.q ∨ l.high.q < x.q) : ffE a q (n + 1) = 17 := by
  have g := (ffE_ok h).1
  unfold ffE
  rw [if_pos g, if_pos ⟨n, l, x, by omega, hl, hx, hf⟩]
theorem ffE_near {a : ArmV} {q : List RV} {n : Nat} {l : LinkV} {x : RV} (h : ffE a q n = 0) (hl : a.links[n]? = some l) (hx : q[n]? = some x) (hf : ¬ (x.q < l.low.q ∨ l.high.q < x.q)) : ffE a q (n + 1) = 0 := by
  obtain ⟨g, f⟩ := ffE_ok h
  unfold ffE
  rw [if_pos g, if_neg]
  rintro ⟨i, l', x', hi, h1, h2, h3⟩
  by_cases e : i = n
  · subst e
    obtain rfl := Option.some.inj (hl.symm.trans h1)
    obtain rfl := Option.some.inj (hx.symm.trans h2)
    exact hf h3
  · exact f ⟨i, l', x', by omega, h1, h2, h3⟩
end Go.Proofs.YtpejadencgfnnaaGreatDoor.eng

/- Plain law: the points of a way. No program. -/
namespace Go.Proofs.YtpejadencgfnnaaGreatDoor.eng
open Go.RowKit num mem seg q held ratA ratB ratC ratD ratE vars ratF
/-- lists of lists, as they lie in memory -/
def rdrs (q : List RV) : List D := [D.list (List.map rd q)]
/-- the numbers of a list -/
def gdL (l : List RV) : List Rat := l.map RV.q
theorem gdL_len (l : List RV) : (gdL l).length = l.length := List.length_map ..
theorem gdL_snoc {α : Type} (g : Rat → α) {l : List RV} {i : Nat} {x : RV} (h : l[i]? = some x) : List.map g (gdL (l.take (i + 1))) = List.map g (gdL (l.take i)) ++ [g x.q] := by
  rw [List.take_add_one, h]; simp [gdL]
def wAt (L : List (List RV)) (i : Nat) : List RV := (L[i]?).getD []
theorem wAt_is {L : List (List RV)} {i : Nat} {q : List RV} (h : L[i]? = some q) : wAt L i = q := by simp [wAt, h]
theorem wAt_mem {L : List (List RV)} {i : Nat} (h : i < L.length) : wAt L i ∈ L := by
  rw [wAt_is (List.getElem?_eq_getElem h)]
  exact List.getElem_mem h
end Go.Proofs.YtpejadencgfnnaaGreatDoor.eng

