/- Joined by wip/bundle.py: XAbs XTck0 XWay0. -/
import Derived.Test.YtpejadencgfnnaaGreatDoorGrpA
import Derived.Test.YtpejadencgfnnaaGreatDoorGrpO
import Derived.Test.YtpejadencgfnnaaGreatDoorFore0
import Derived.Test.YtpejadencgfnnaaGreatDoorWg
/- Contracts: absolute values: rat.Abs, gantref3's Abs. -/
namespace Go.Proofs.YtpejadencgfnnaaGreatDoor.eng
open Go.RowKit num mem seg q held ratA ratB ratC ratD ratE vars ratF natC natD natI
section
variable {K : AV → Prop} {x : RV} {q : Rat}
def absV (p : Rat) : Rat := if p.num < 0 then -p else p
theorem cn_absV (p : Rat) : cn (absV p) = ⟨false, (cn p).a, (cn p).d⟩ := by
  unfold absV cn
  split
  · rename_i h
    rw [Rat.neg_num, Rat.neg_den, Int.natAbs_neg, decide_eq_false (by omega)]
  · rename_i h
    rw [decide_eq_false h]
theorem qs_absV (p : Rat) : qs (absV p) = qs p := by
  unfold absV
  split
  · exact qs_neg p
  · rfl
theorem k_absV (hx : x.z ≤ 4398046511104) (k : ∀ q, q = absV x.q → (cn q).z ≤ x.z + 1 → K (rat (cn q))) : Ask 122 [rat x] K := by
  refine use (r := rat (cn (absV x.q))) ?_ rfl (k _ rfl (by have := x.z1; rw [cn_z, qs_absV]; omega))
  refine fn_spec Tryz.func122 rfl rfl Tryz.ntmps122 rfl (by kernel_rfl) rfl rfl ?_
  refine k_fit (by omega) fun q h z => ?_
  refine Eq.trans (b := rat ⟨false, (cn q).a, (cn q).d⟩) ?_ rfl
  rw [cn_absV, h]
theorem q3_absV (p : Rat) : q3 (absV p) = .val (.agg [.d (.v (.bool false)), .d (.list (W (w32 p.num.natAbs))), .d (.list (W (w32 p.den)))]) := by
  unfold q3 absV
  split
  · rename_i h
    rw [Rat.neg_num, Rat.neg_den, Int.natAbs_neg, decide_eq_false (by omega)]
  · rename_i h
    rw [decide_eq_false h]
theorem k_absV3 (k : ∀ r, r = absV q → qs r ≤ qs q → K (q3 r)) : Ask 126 [q3 q] K := by
  refine use (r := q3 (absV q)) ?_ rfl (k _ rfl (Nat.le_of_eq (qs_absV q)))
  refine fn_spec Tryz.func126 rfl rfl Tryz.ntmps126 rfl (by kernel_rfl) rfl rfl ?_
  refine Eq.trans (b := .val (.agg [.d (.v (.bool false)), .d (.list (W (w32 q.num.natAbs))), .d (.list (W (w32 q.den)))])) ?_ rfl
  rw [q3_absV]
end
end Go.Proofs.YtpejadencgfnnaaGreatDoor.eng

/- Plain law: what makes a track valid. No program. -/
namespace Go.Proofs.YtpejadencgfnnaaGreatDoor.eng
open Go.RowKit num mem seg q held ratA ratB ratC ratD ratE vars ratF
/-- the first number that is not 0 -/
def firstE (f : Nat → Int) : Nat → Int
  | 0 => 0
  | n + 1 => if firstE f n = 0 then f n else firstE f n
theorem firstE_0 {f : Nat → Int} : ∀ {n : Nat}, (∀ j, j < n → f j = 0) → firstE f n = 0
  | 0, _ => rfl
  | n + 1, h => by
    unfold firstE
    rw [if_pos (firstE_0 fun j hj => h j (by omega)), h n (by omega)]
theorem firstE_at {f : Nat → Int} {i : Nat} (h : ∀ j, j < i → f j = 0) (hi : f i ≠ 0) : ∀ {n : Nat}, i < n → firstE f n = f i
  | 0, hn => absurd hn (by omega)
  | n + 1, hn => by
    unfold firstE
    by_cases e : i = n
    · subst e; rw [if_pos (firstE_0 h)]
    · rw [firstE_at h hi (n := n) (by omega), if_neg hi]
/-- a change beyond a link's speed -/
def fastP (A : ArmV) (p k : Int × List RV) : Prop := ∃ (i : Nat) (l : LinkV) (x y : RV), A.links[i]? = some l ∧ p.2[i]? = some x ∧ k.2[i]? = some y ∧ l.speed.q * (((k.1 - p.1 : Int)) : Rat) < absV (y.q - x.q)
noncomputable def key1 (A : ArmV) (k : Int × List RV) : Int := if k.1 < 0 ∨ 2000 < k.1 then 1 else fitsE A k.2
open Classical in
noncomputable def key2 (A : ArmV) (p k : Int × List RV) : Int := if key1 A k = 0 then (if k.1 ≤ p.1 then 9 else if fastP A p k then 19 else 0) else key1 A k
def tAt (t : List (Int × List RV)) (i : Nat) : Int × List RV := (t[i]?).getD (0, [])
noncomputable def keyE (A : ArmV) (t : List (Int × List RV)) (i : Nat) : Int := if i = 0 then key1 A (tAt t i) else key2 A (tAt t (i - 1)) (tAt t i)
noncomputable def trackE (A : ArmV) (t : List (Int × List RV)) : Int := if armE A = 0 then (if t.length = 0 then 14 else if 60 < t.length then 2 else firstE (keyE A t) t.length) else armE A
theorem tAt_is {t : List (Int × List RV)} {i : Nat} {k : Int × List RV} (h : t[i]? = some k) : tAt t i = k := by simp [tAt, h]
theorem fits_len {A : ArmV} {q : List RV} (h : fitsE A q = 0) : q.length = A.links.length ∧ armE A = 0 := by
  unfold fitsE at h
  by_cases g : hasE A (q.length : Int) = 0
  · obtain ⟨h1, h2⟩ := hasE_ok.1 g
    exact ⟨by omega, h1⟩
  · rw [if_neg g] at h; exact absurd h g
theorem key1_ok {A : ArmV} {k : Int × List RV} : key1 A k = 0 ↔ (0 ≤ k.1 ∧ k.1 ≤ 2000) ∧ fitsE A k.2 = 0 := by
  unfold key1
  by_cases h : k.1 < 0 ∨ 2000 < k.1
  · rw [if_pos h]; constructor
    · intro e; exact absurd e (by decide)
    · rintro ⟨⟨a, b⟩, _⟩; omega
  · rw [if_neg h]
    exact ⟨fun e => ⟨by omega, e⟩, fun e => e.2⟩
theorem keyE_0 {A : ArmV} {t : List (Int × List RV)} {k : Int × List RV} (h : t[0]? = some k) : keyE A t 0 = key1 A k := by
  unfold keyE; rw [if_pos rfl, tAt_is h]
theorem keyE_s {A : ArmV} {t : List (Int × List RV)} {i : Nat} {p k : Int × List RV} (h0 : 0 < i) (hp : t[i - 1]? = some p) (h : t[i]? = some k) : keyE A t i = key2 A p k := by
  unfold keyE; rw [if_neg (by omega), tAt_is hp, tAt_is h]
theorem key2_1 {A : ArmV} {p k : Int × List RV} (h : key1 A k ≠ 0) : key2 A p k = key1 A k := if_neg h
theorem key2_9 {A : ArmV} {p k : Int × List RV} (h : key1 A k = 0) (g : k.1 ≤ p.1) : key2 A p k = 9 := by unfold key2; rw [if_pos h, if_pos g]
theorem key2_19 {A : ArmV} {p k : Int × List RV} (h : key1 A k = 0) (g : ¬ k.1 ≤ p.1) (f : fastP A p k) : key2 A p k = 19 := by unfold key2; rw [if_pos h, if_neg g, if_pos f]
theorem key2_0 {A : ArmV} {p k : Int × List RV} (h : key1 A k = 0) (g : ¬ k.1 ≤ p.1) (f : ¬ fastP A p k) : key2 A p k = 0 := by unfold key2; rw [if_pos h, if_neg g, if_neg f]
theorem keyE_fits {A : ArmV} {t : List (Int × List RV)} {i : Nat} {k : Int × List RV} (h : t[i]? = some k) (e : keyE A t i = 0) : key1 A k = 0 := by
  unfold keyE at e
  rw [tAt_is h] at e
  by_cases g : i = 0
  · rwa [if_pos g] at e
  · rw [if_neg g] at e
    by_cases c : key1 A k = 0
    · exact c
    · rw [key2_1 c] at e; exact absurd e c
theorem trackE_arm {A : ArmV} {t : List (Int × List RV)} (h : ¬ armE A = 0) : trackE A t = armE A := if_neg h
theorem trackE_nil {A : ArmV} {t : List (Int × List RV)} (h : armE A = 0) (g : t.length = 0) : trackE A t = 14 := by unfold trackE; rw [if_pos h, if_pos g]
theorem trackE_big {A : ArmV} {t : List (Int × List RV)} (h : armE A = 0) (g : ¬ t.length = 0) (f : 60 < t.length) : trackE A t = 2 := by unfold trackE; rw [if_pos h, if_neg g, if_pos f]
theorem trackE_at {A : ArmV} {t : List (Int × List RV)} {i : Nat} (h : armE A = 0) (f : ¬ 60 < t.length) (hi : i < t.length) (hb : ∀ j, j < i → keyE A t j = 0) (he : keyE A t i ≠ 0) : trackE A t = keyE A t i := by
  unfold trackE; rw [if_pos h, if_neg (by omega), if_neg f, firstE_at hb he hi]
theorem trackE_ok {A : ArmV} {t : List (Int × List RV)} (h : armE A = 0) (g : ¬ t.length = 0) (f : ¬ 60 < t.length) (hb : ∀ j, j < t.length → keyE A t j = 0) : trackE A t = 0 := by
  unfold trackE; rw [if_pos h, if_neg g, if_neg f, firstE_0 hb]
theorem key1_bad {A : ArmV} {k : Int × List RV} (h : k.1 < 0 ∨ 2000 < k.1) : key1 A k = 1 := if_pos h
theorem key1_in {A : ArmV} {k : Int × List RV} (h : ¬ k.1 < 0) (g : ¬ 2000 < k.1) : key1 A k = fitsE A k.2 := if_neg (fun e => e.elim h g)
theorem keyE_1 {A : ArmV} {t : List (Int × List RV)} {i : Nat} {k : Int × List RV} (h : t[i]? = some k) (e : key1 A k ≠ 0) : keyE A t i = key1 A k := by
  unfold keyE
  rw [tAt_is h]
  split
  · rfl
  · exact key2_1 e
open Classical in
/-- a motion between two keys is not too fast -/
noncomputable def slB (A : ArmV) (p k : Int × List RV) : Bool := decide (¬ fastP A p k)
open Classical in
theorem slB_t {A : ArmV} {p k : Int × List RV} (h : ¬ fastP A p k) : slB A p k = true := decide_eq_true h
open Classical in
theorem slB_f {A : ArmV} {p k : Int × List RV} (h : fastP A p k) : slB A p k = false := decide_eq_false (fun g => g h)
open Classical in
theorem slB_iff {A : ArmV} {p k : Int × List RV} : slB A p k = true ↔ ¬ fastP A p k := decide_eq_true_iff
/-- a joint value beyond the limits among the first -/
def farU (a : ArmV) (q : List RV) (n : Nat) : Prop := ∃ (i : Nat) (l : LinkV) (x : RV), i < n ∧ a.links[i]? = some l ∧ q[i]? = some x ∧ (x.q < l.low.q ∨ l.high.q < x.q)
open Classical in
noncomputable def ffE (a : ArmV) (q : List RV) (n : Nat) : Int := if hasE a (q.length : Int) = 0 then (if farU a q n then 17 else 0) else hasE a (q.length : Int)
theorem ffE_0 (a : ArmV) (q : List RV) : ffE a q 0 = hasE a (q.length : Int) := by
  unfold ffE
  by_cases h : hasE a (q.length : Int) = 0
  · rw [if_pos h, if_neg (by rintro ⟨i, _, _, hi, _⟩; omega), h]
  · rw [if_neg h]
theorem ffE_all {a : ArmV} {q : List RV} {n : Nat} (hn : q.length ≤ n) : ffE a q n = fitsE a q := by
  have : farU a q n ↔ farQ a q := ⟨fun ⟨i, l, x, _, h⟩ => ⟨i, l, x, h⟩, fun ⟨i, l, x, h1, h2, h3⟩ => ⟨i, l, x, by have := (List.getElem?_eq_some_iff.1 h2).1; omega, h1, h2, h3⟩⟩
  unfold ffE fitsE
  by_cases h : hasE a (q.length : Int) = 0
  · rw [if_pos h, if_pos h]
    by_cases g : farQ a q
    · rw [if_pos (this.2 g), if_pos g]
    · rw [if_neg (fun e => g (this.1 e)), if_neg g]
  · rw [if_neg h, if_neg h]
theorem ffE_ok {a : ArmV} {q : List RV} {n : Nat} (h : ffE a q n = 0) : hasE a (q.length : Int) = 0 ∧ ¬ farU a q n := by
  unfold ffE at h
  by_cases g : hasE a (q.length : Int) = 0
  · rw [if_pos g] at h
    refine ⟨g, fun f => ?_⟩
    rw [if_pos f] at h; exact absurd h (by decide)
  · rw [if_neg g] at h; exact absurd h g
theorem ffE_no {a : ArmV} {q : List RV} {n : Nat} (h : ¬ ffE a q n = 0) : ffE a q (n + 1) = ffE a q n := by
  unfold ffE at h ⊢
  by_cases g : hasE a (q.length : Int) = 0
  · rw [if_pos g] at h ⊢
    rw [if_pos g]
    by_cases f : farU a q n
    · obtain ⟨i, l, x, hi, hh⟩ := f
      rw [if_pos ⟨i, l, x, by omega, hh⟩, if_pos ⟨i, l, x, hi, hh⟩]
    · rw [if_neg f] at h; exact absurd rfl h
  · rw [if_neg g, if_neg g]
theorem ffE_far {a : ArmV} {q : List RV} {n : Nat} {l : LinkV} {x : RV} (h : ffE a q n = 0) (hl : a.links[n]? = some l) (hx : q[n]? = some x) (hf : x.q < l.low.q ∨ l.high.q < x.q) : ffE a q (n + 1) = 17 := by
  have g := (ffE_ok h).1
  unfold ffE
  rw [if_pos g, if_pos ⟨n, l, x, by omega, hl, hx, hf⟩]
theorem ffE_near {a : ArmV} {q : List RV} {n : Nat} {l : LinkV} {x : RV} (h : ffE a q n = 0) (hl : a.links[n]? = some l) (hx : q[n]? = some x) (hf : ¬ (x.q < l.low.q ∨ l.high.q < x.q)) : ffE a q (n + 1) = 0 := by
  obtain ⟨g, f⟩ := ffE_ok h
  unfold ffE
  rw [if_pos g, if_neg]
  rintro ⟨i, l', x', hi, h1, h2, h3⟩
  by_cases e : i = n
  · subst e
    obtain rfl := Option.some.inj (hl.symm.trans h1)
    obtain rfl := Option.some.inj (hx.symm.trans h2)
    exact hf h3
  · exact f ⟨i, l', x', by omega, h1, h2, h3⟩
end Go.Proofs.YtpejadencgfnnaaGreatDoor.eng

/- Plain law: the points of a way. No program. -/
namespace Go.Proofs.YtpejadencgfnnaaGreatDoor.eng
open Go.RowKit num mem seg q held ratA ratB ratC ratD ratE vars ratF
theorem firstE_zero {f : Nat → Int} : ∀ {n : Nat}, firstE f n = 0 → ∀ j, j < n → f j = 0
  | 0, _, j, hj => by omega
  | n + 1, h, j, hj => by
    unfold firstE at h
    by_cases z : firstE f n = 0
    · rw [if_pos z] at h
      by_cases e : j = n
      · rw [e]; exact h
      · exact firstE_zero z j (by omega)
    · rw [if_neg z] at h; exact absurd h z
end Go.Proofs.YtpejadencgfnnaaGreatDoor.eng

