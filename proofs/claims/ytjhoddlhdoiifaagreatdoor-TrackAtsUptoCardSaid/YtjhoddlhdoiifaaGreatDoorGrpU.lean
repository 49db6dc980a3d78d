/- Joined by wip/bundle.py: XAbs XTck0 XTrackA XTckA XTckR. -/
import Derived.Test.YtjhoddlhdoiifaaGreatDoorGrpA
import Derived.Test.YtjhoddlhdoiifaaGreatDoorGrpO
import Derived.Test.YtjhoddlhdoiifaaGreatDoorFore0
import Derived.Test.YtjhoddlhdoiifaaGreatDoorGrpY
import Derived.Test.YtjhoddlhdoiifaaGreatDoorOpenA
import Derived.Test.YtjhoddlhdoiifaaGreatDoorGrpR
import Derived.Test.YtjhoddlhdoiifaaGreatDoorGrpZ
/- Contracts: absolute values: rat.Abs, gantref3's Abs. -/
namespace Go.Proofs.YtjhoddlhdoiifaaGreatDoor.eng
open Go.RowKit num mem seg q held ratA ratB ratC ratD ratE vars ratF natC natD natI
section
variable {K : AV → Prop} {x : RV} {q : Rat}
def absV (p : Rat) : Rat := if p.num < 0 then -p else p
theorem cn_absV (p : Rat) : cn (absV p) = ⟨false, (cn p).a, (cn p).d⟩ := by
  unfold absV cn
  split
  · rename_i h
    rw [Rat.neg_num, Rat.neg_den, Int.natAbs_neg, decide_eq_false (by omega)]
  · rename_i h
    rw [decide_eq_false h]
theorem qs_absV (p : Rat) : qs (absV p) = qs p := by
  unfold absV
  split
  · exact qs_neg p
  · rfl
theorem k_absV (hx : x.z ≤ 4398046511104) (k : ∀ q, q = absV x.q → (cn q).z ≤ x.z + 1 → K (rat (cn q))) : Ask 176 [rat x] K := by
  refine use (r := rat (cn (absV x.q))) ?_ rfl (k _ rfl (by have := x.z1; rw [cn_z, qs_absV]; omega))
  refine fn_spec Tryz.func176 rfl rfl Tryz.ntmps176 rfl (by kernel_rfl) rfl rfl ?_
  refine k_fit (by omega) fun q h z => ?_
  refine Eq.trans (b := rat ⟨false, (cn q).a, (cn q).d⟩) ?_ rfl
  rw [cn_absV, h]
theorem q3_absV (p : Rat) : q3 (absV p) = .val (.agg [.d (.v (.bool false)), .d (.list (W (w32 p.num.natAbs))), .d (.list (W (w32 p.den)))]) := by
  unfold q3 absV
  split
  · rename_i h
    rw [Rat.neg_num, Rat.neg_den, Int.natAbs_neg, decide_eq_false (by omega)]
  · rename_i h
    rw [decide_eq_false h]
theorem k_absV3 (k : ∀ r, r = absV q → qs r ≤ qs q → K (q3 r)) : Ask 137 [q3 q] K := by
  refine use (r := q3 (absV q)) ?_ rfl (k _ rfl (Nat.le_of_eq (qs_absV q)))
  refine fn_spec Tryz.func137 rfl rfl Tryz.ntmps137 rfl (by kernel_rfl) rfl rfl ?_
  refine Eq.trans (b := .val (.agg [.d (.v (.bool false)), .d (.list (W (w32 q.num.natAbs))), .d (.list (W (w32 q.den)))])) ?_ rfl
  rw [q3_absV]
end
end Go.Proofs.YtjhoddlhdoiifaaGreatDoor.eng

/- Plain law: what makes a track valid. No program. -/
namespace Go.Proofs.YtjhoddlhdoiifaaGreatDoor.eng
open Go.RowKit num mem seg q held ratA ratB ratC ratD ratE vars ratF
/-- the first number that is not 0 -/
def firstE (f : Nat → Int) : Nat → Int
  | 0 => 0
  | n + 1 => if firstE f n = 0 then f n else firstE f n
theorem firstE_0 {f : Nat → Int} : ∀ {n : Nat}, (∀ j, j < n → f j = 0) → firstE f n = 0
  | 0, _ => rfl
  | n + 1, h => by
    unfold firstE
    rw [if_pos (firstE_0 fun j hj => h j (by omega)), h n (by omega)]
theorem firstE_at {f : Nat → Int} {i : Nat} (h : ∀ j, j < i → f j = 0) (hi : f i ≠ 0) : ∀ {n : Nat}, i < n → firstE f n = f i
  | 0, hn => absurd hn (by omega)
  | n + 1, hn => by
    unfold firstE
    by_cases e : i = n
    · subst e; rw [if_pos (firstE_0 h)]
    · rw [firstE_at h hi (n := n) (by omega), if_neg hi]
/-- a change beyond a link's speed -/
def fastP (A : ArmV) (p k : Int × List RV) : Prop := ∃ (i : Nat) (l : LinkV) (x y : RV), A.links[i]? = some l ∧ p.2[i]? = some x ∧ k.2[i]? = some y ∧ l.speed.q * (((k.1 - p.1 : Int)) : Rat) < absV (y.q - x.q)
noncomputable def key1 (A : ArmV) (k : Int × List RV) : Int := if k.1 < 0 ∨ 2000 < k.1 then 1 else fitsE A k.2
open Classical in
noncomputable def key2 (A : ArmV) (p k : Int × List RV) : Int := if key1 A k = 0 then (if k.1 ≤ p.1 then 9 else if fastP A p k then 19 else 0) else key1 A k
def tAt (t : List (Int × List RV)) (i : Nat) : Int × List RV := (t[i]?).getD (0, [])
noncomputable def keyE (A : ArmV) (t : List (Int × List RV)) (i : Nat) : Int := if i = 0 then key1 A (tAt t i) else key2 A (tAt t (i - 1)) (tAt t i)
noncomputable def trackE (A : ArmV) (t : List (Int × List RV)) : Int := if armE A = 0 then (if t.length = 0 then 14 else if 60 < t.length then 2 else firstE (keyE A t) t.length) else armE A
theorem tAt_is {t : List (Int × List RV)} {i : Nat} {k : Int × List RV} (h : t[i]? = some k) : tAt t i = k := by simp [tAt, h]
theorem fits_len {A : ArmV} {q : List RV} (h : fitsE A q = 0) : q.length = A.links.length ∧ armE A = 0 := by
  unfold fitsE at h
  by_cases g : hasE A (q.length : Int) = 0
  · obtain ⟨h1, h2⟩ := hasE_ok.1 g
    exact ⟨by omega, h1⟩
  · rw [if_neg g] at h; exact absurd h g
theorem key1_ok {A : ArmV} {k : Int × List RV} : key1 A k = 0 ↔ (0 ≤ k.1 ∧ k.1 ≤ 2000) ∧ fitsE A k.2 = 0 := by
  unfold key1
  by_cases h : k.1 < 0 ∨ 2000 < k.1
  · rw [if_pos h]; constructor
    · intro e; exact absurd e (by decide)
    · rintro ⟨⟨a, b⟩, _⟩; omega
  · rw [if_neg h]
    exact ⟨fun e => ⟨by omega, e⟩, fun e => e.2⟩
theorem keyE_0 {A : ArmV} {t : List (Int × List RV)} {k : Int × List RV} (h : t[0]? = some k) : keyE A t 0 = key1 A k := by
  unfold keyE; rw [if_pos rfl, tAt_is h]
theorem keyE_s {A : ArmV} {t : List (Int × List RV)} {i : Nat} {p k : Int × List RV} (h0 : 0 < i) (hp : t[i - 1]? = some p) (h : t[i]? = some k) : keyE A t i = key2 A p k := by
  unfold keyE; rw [if_neg (by omega), tAt_is hp, tAt_is h]
theorem key2_1 {A : ArmV} {p k : Int × List RV} (h : key1 A k ≠ 0) : key2 A p k = key1 A k := if_neg h
theorem key2_9 {A : ArmV} {p k : Int × List RV} (h : key1 A k = 0) (g : k.1 ≤ p.1) : key2 A p k = 9 := by unfold key2; rw [if_pos h, if_pos g]
theorem key2_19 {A : ArmV} {p k : Int × List RV} (h : key1 A k = 0) (g : ¬ k.1 ≤ p.1) (f : fastP A p k) : key2 A p k = 19 := by unfold key2; rw [if_pos h, if_neg g, if_pos f]
theorem key2_0 {A : ArmV} {p k : Int × List RV} (h : key1 A k = 0) (g : ¬ k.1 ≤ p.1) (f : ¬ fastP A p k) : key2 A p k = 0 := by unfold key2; rw [if_pos h, if_neg g, if_neg f]
theorem keyE_fits {A : ArmV} {t : List (Int × List RV)} {i : Nat} {k : Int × List RV} (h : t[i]? = some k) (e : keyE A t i = 0) : key1 A k = 0 := by
  unfold keyE at e
  rw [tAt_is h] at e
  by_cases g : i = 0
  · rwa [if_pos g] at e
  · rw [if_neg g] at e
    by_cases c : key1 A k = 0
    · exact c
    · rw [key2_1 c] at e; exact absurd e c
theorem trackE_arm {A : ArmV} {t : List (Int × List RV)} (h : ¬ armE A = 0) : trackE A t = armE A := if_neg h
theorem trackE_nil {A : ArmV} {t : List (Int × List RV)} (h : armE A = 0) (g : t.length = 0) : trackE A t = 14 := by unfold trackE; rw [if_pos h, if_pos g]
theorem trackE_big {A : ArmV} {t : List (Int × List RV)} (h : armE A = 0) (g : ¬ t.length = 0) (f : 60 < t.length) : trackE A t = 2 := by unfold trackE; rw [if_pos h, if_neg g, if_pos f]
theorem trackE_at {A : ArmV} {t : List (Int × List RV)} {i : Nat} (h : armE A = 0) (f : ¬ 60 < t.length) (hi : i < t.length) (hb : ∀ j, j < i → keyE A t j = 0) (he : keyE A t i ≠ 0) : trackE A t = keyE A t i := by
  unfold trackE; rw [if_pos h, if_neg (by omega), if_neg f, firstE_at hb he hi]
theorem trackE_ok {A : ArmV} {t : List (Int × List RV)} (h : armE A = 0) (g : ¬ t.length = 0) (f : ¬ 60 < t.length) (hb : ∀ j, j < t.length → keyE A t j = 0) : trackE A t = 0 := by
  unfold trackE; rw [if_pos h, if_neg g, if_neg f, firstE_0 hb]
theorem key1_bad {A : ArmV} {k : Int × List RV} (h : k.1 < 0 ∨ 2000 < k.1) : key1 A k = 1 := if_pos h
theorem key1_in {A : ArmV} {k : Int × List RV} (h : ¬ k.1 < 0) (g : ¬ 2000 < k.1) : key1 A k = fitsE A k.2 := if_neg (fun e => e.elim h g)
theorem keyE_1 {A : ArmV} {t : List (Int × List RV)} {i : Nat} {k : Int × List RV} (h : t[i]? = some k) (e : key1 A k ≠ 0) : keyE A t i = key1 A k := by
  unfold keyE
  rw [tAt_is h]
  split
  · rfl
  · exact key2_1 e
open Classical in
/-- a motion between two keys is not too fast -/
noncomputable def slB (A : ArmV) (p k : Int × List RV) : Bool := decide (¬ fastP A p k)
open Classical in
theorem slB_t {A : ArmV} {p k : Int × List RV} (h : ¬ fastP A p k) : slB A p k = true := decide_eq_true h
open Classical in
theorem slB_f {A : ArmV} {p k : Int × List RV} (h : fastP A p k) : slB A p k = false := decide_eq_false (fun g => g h)
open Classical in
theorem slB_iff {A : ArmV} {p k : Int × List RV} : slB A p k = true ↔ ¬ fastP A p k := decide_eq_true_iff
/-- a joint value beyond the limits among the first -/
def farU (a : ArmV) (q : List RV) (n : Nat) : Prop := ∃ (i : Nat) (l : LinkV) (x : RV), i < n ∧ a.links[i]? = some l ∧ q[i]? = some x ∧ (x.q < l.low.q ∨ l.high.q < x.q)
open Classical in
noncomputable def ffE (a : ArmV) (q : List RV) (n : Nat) : Int := if hasE a (q.length : Int) = 0 then (if farU a q n then 17 else 0) else hasE a (q.length : Int)
theorem ffE_0 (a : ArmV) (q : List RV) : ffE a q 0 = hasE a (q.length : Int) := by
  unfold ffE
  by_cases h : hasE a (q.length : Int) = 0
  · rw [if_pos h, if_neg (by rintro ⟨i, _, _, hi, _⟩; omega), h]
  · rw [if_neg h]
theorem ffE_all {a : ArmV} {q : List RV} {n : Nat} (hn : q.length ≤ n) : ffE a q n = fitsE a q := by
  have : farU a q n ↔ farQ a q := ⟨fun ⟨i, l, x, _, h⟩ => ⟨i, l, x, h⟩, fun ⟨i, l, x, h1, h2, h3⟩ => ⟨i, l, x, by have := (List.getElem?_eq_some_iff.1 h2).1; omega, h1, h2, h3⟩⟩
  unfold ffE fitsE
  by_cases h : hasE a (q.length : Int) = 0
  · rw [if_pos h, if_pos h]
    by_cases g : farQ a q
    · rw [if_pos (this.2 g), if_pos g]
    · rw [if_neg (fun e => g (this.1 e)), if_neg g]
  · rw [if_neg h, if_neg h]
theorem ffE_ok {a : ArmV} {q : List RV} {n : Nat} (h : ffE a q n = 0) : hasE a (q.length : Int) = 0 ∧ ¬ farU a q n := by
  unfold ffE at h
  by_cases g : hasE a (q.length : Int) = 0
  · rw [if_pos g] at h
    refine ⟨g, fun f => ?_⟩
    rw [if_pos f] at h; exact absurd h (by decide)
  · rw [if_neg g] at h; exact absurd h g
theorem ffE_no {a : ArmV} {q : List RV} {n : Nat} (h : ¬ ffE a q n = 0) : ffE a q (n + 1) = ffE a q n := by
  unfold ffE at h ⊢
  by_cases g : hasE a (q.length : Int) = 0
  · rw [if_pos g] at h ⊢
    rw [if_pos g]
    by_cases f : farU a q n
    · obtain ⟨i, l, x, hi, hh⟩ := f
      rw [if_pos ⟨i, l, x, by omega, hh⟩, if_pos ⟨i, l, x, hi, hh⟩]
    · rw [if_neg f] at h; exact absurd rfl h
  · rw [if_neg g, if_neg g]
theorem ffE_far {a : ArmV} {q : List RV} {n : Nat} {l : LinkV} {x : RV} (h : ffE a q n = 0) (hl : a.links[n]? = some l) (hx : q[n]? = some x) (hf : x.q < l.low.q ∨ l.high.q < x.q) : ffE a q (n + 1) = 17 := by
  have g := (ffE_ok h).1
  unfold ffE
  rw [if_pos g, if_pos ⟨n, l, x, by omega, hl, hx, hf⟩]
theorem ffE_near {a : ArmV} {q : List RV} {n : Nat} {l : LinkV} {x : RV} (h : ffE a q n = 0) (hl : a.links[n]? = some l) (hx : q[n]? = some x) (hf : ¬ (x.q < l.low.q ∨ l.high.q < x.q)) : ffE a q (n + 1) = 0 := by
  obtain ⟨g, f⟩ := ffE_ok h
  unfold ffE
  rw [if_pos g, if_neg]
  rintro ⟨i, l', x', hi, h1, h2, h3⟩
  by_cases e : i = n
  · subst e
    obtain rfl := Option.some.inj (hl.symm.trans h1)
    obtain rfl := Option.some.inj (hx.symm.trans h2)
    exact hf h3
  · exact f ⟨i, l', x', by omega, h1, h2, h3⟩
end Go.Proofs.YtjhoddlhdoiifaaGreatDoor.eng

/- Contracts: tracks at a tick: package track, gantref3. Printed by wip/gp_track.py. -/
namespace Go.Proofs.YtjhoddlhdoiifaaGreatDoor.eng
open Go.RowKit num mem seg q held ratA ratB ratC ratD ratE vars ratF argopen
section
variable {K : AV → Prop}
/-- numbers between those of two lists -/
def itF (s : Rat) (a b : List RV) (i : Nat) : Rat := qAt a i + s * (qAt b i - qAt a i)
def itL (s : Rat) (a b : List RV) (n : Nat) : List Rat := (List.range n).map (itF s a b)
def qsL (l : List RV) : List Rat := l.map RV.q
def atR (x : Int × List RV) : List (Int × List RV) → Int → List Rat
  | [], _ => qsL x.2
  | y :: r, n => if n < y.1 then itL (((n : Rat) - (x.1 : Rat)) / ((y.1 : Rat) - (x.1 : Rat))) x.2 y.2 (min x.2.length y.2.length) else atR y r n
/-- the joint values of a track at a tick -/
def atL : List (Int × List RV) → Int → List Rat
  | [], _ => []
  | x :: r, n => if n ≤ x.1 then qsL x.2 else atR x r n
theorem itL_len (s : Rat) (a b : List RV) (n : Nat) : (itL s a b n).length = n := by simp [itL]
theorem itL_snoc {α : Type} (g : Rat → α) (s : Rat) (a b : List RV) (i : Nat) : List.map g (itL s a b (i + 1)) = List.map g (itL s a b i) ++ [g (itF s a b i)] := by simp [itL, List.range_succ]
theorem qsL_snoc {α : Type} (g : Rat → α) {l : List RV} {i : Nat} {x : RV} (h : l[i]? = some x) : List.map g (qsL (l.take (i + 1))) = List.map g (qsL (l.take i)) ++ [g x.q] := by
  rw [List.take_add_one, h]; simp [qsL]
theorem qsL_len (l : List RV) : (qsL l).length = l.length := List.length_map ..
theorem drop_at {α : Type} {l : List α} {i : Nat} {y : α} (h : l[i]? = some y) : l.drop i = y :: l.drop (i + 1) := by
  obtain ⟨hi, rfl⟩ := List.getElem?_eq_some_iff.1 h
  exact List.drop_eq_getElem_cons hi
theorem drop_end {α : Type} {l : List α} {i : Nat} (h : l.length ≤ i) : l.drop i = [] := List.drop_eq_nil_of_le h
theorem cast_ne {a b : Int} (h : a < b) : (b : Rat) - (a : Rat) ≠ 0 := by
  intro e
  have : (b : Rat) = (a : Rat) := by grind
  have := Rat.intCast_inj.1 this
  omega
theorem atL_0 {t : List (Int × List RV)} {x : Int × List RV} {n : Int} (h : t[0]? = some x) (g : n ≤ x.1) : atL t n = qsL x.2 := by
  cases t with
  | nil => simp at h
  | cons a r => obtain rfl := Option.some.inj (show some a = some x from h); exact if_pos g
theorem atL_1 {t : List (Int × List RV)} {x : Int × List RV} {n : Int} (h : t[0]? = some x) (g : ¬ n ≤ x.1) : atL t n = atR x (t.drop 1) n := by
  cases t with
  | nil => simp at h
  | cons a r => obtain rfl := Option.some.inj (show some a = some x from h); exact if_neg g
/-- where a walk along a track stands: before key i, the last one is x -/
def atI (t : List (Int × List RV)) (n : Int) (i : Nat) (x : Int × List RV) : Prop := t[i]? = some x ∧ x.1 ≤ n ∧ atL t n = atR x (t.drop (i + 1)) n
theorem atI_0 {t : List (Int × List RV)} {x : Int × List RV} {n : Int} (h : t[0]? = some x) (g : ¬ n ≤ x.1) : atI t n 0 x := ⟨h, by omega, atL_1 h g⟩
theorem atI_s {t : List (Int × List RV)} {x y : Int × List RV} {n : Int} {i : Nat} (h : atI t n i x) (hy : t[i + 1]? = some y) (g : ¬ n < y.1) : atI t n (i + 1) y := by
  refine ⟨hy, by omega, ?_⟩
  rw [h.2.2, drop_at hy]
  exact if_neg g
theorem atI_it {t : List (Int × List RV)} {x y : Int × List RV} {n : Int} {i : Nat} (h : atI t n i x) (hy : t[i + 1]? = some y) (g : n < y.1) : atL t n = itL (((n : Rat) - (x.1 : Rat)) / ((y.1 : Rat) - (x.1 : Rat))) x.2 y.2 (min x.2.length y.2.length) := by
  rw [h.2.2, drop_at hy]
  exact if_pos g
theorem atI_end {t : List (Int × List RV)} {x : Int × List RV} {n : Int} {i : Nat} (h : atI t n i x) (hi : t.length ≤ i + 1) : atL t n = qsL x.2 := by
  rw [h.2.2, drop_end hi]; rfl
def tz (t : List (Int × List RV)) : Prop := t.length ≤ 1048576 ∧ ∀ k, k ∈ t → (-9223372036854775808 ≤ k.1 ∧ k.1 ≤ 9223372036854775807) ∧ k.2.length ≤ 1048576 ∧ ∀ x, x ∈ k.2 → x.z ≤ 1048576
set_option maxRecDepth 100000 in
theorem copied_spec (l : List RV) (hl : ∀ x, x ∈ l → x.z ≤ 1048576) (hn : l.length ≤ 1048576) : Spec Tryz.prog Tab 130 [.val (.one (.d (.list (List.map rd l))))] (.val (.one (.d (.list (List.map rdc (qsL l)))))) := by
  have hL : (List.map rd l).length = l.length := List.length_map ..
  refine fn_spec Tryz.func130 rfl rfl Tryz.ntmps130 rfl (by kernel_rfl) rfl rfl ?_
  refine ⟨Nat, fun i => [(3, .val (.one (.row 17 0))), (6, .val (.one (.d (.list (List.map rd l))))), (7, int ((List.map rd l).length : Int)), (8, int (i : Int))],
    fun i => [(17, .row 23 3 0 (List.map rdc (qsL (l.take i))) true)], fun i => i ≤ l.length, fun i => l.length - i, 0, ?_, Nat.zero_le _, fun i hs => ?_⟩
  · constructor <;> (repeat' (first | exact rfl | exact True.intro | exact ⟨_, _, rfl⟩ | exact (by decide) | apply And.intro))
    all_goals first | exact congrArg (fun n : Int => D.v (.int .i64 n)) (by omega) | exact congrArg (fun n : Int => D.v (.int .i64 n)) (by rw [wrap64 _ (by omega) (by omega)]; omega) | (simp; done)
  have hT : (List.map rdc (qsL (l.take i))).length ≤ 1048576 := by rw [List.length_map, qsL_len, List.length_take]; omega
  refine ⟨fun e1 => ?_, fun e1 => ?_⟩
  · have f9 : (i : Int) < ((List.map rd l).length : Int) := of_decide_eq_true e1
    refine get_ex (l := l) (i := i) (by first | omega | exact Nat.mod_lt _ (by omega)) fun x10 hx10 => ?_
    have hzx10 := hl x10 (List.mem_of_getElem? hx10)
    refine k_ix i [D.v (.bool x10.s), D.v (.string x10.a), D.v (.string x10.d)] (by first | rfl | omega | (rw [wrap64 _ (by omega) (by omega)]; omega)) (map_at hx10) rfl ?_
    refine k_of (0) (by omega) (by omega) fun q14 h14 z14 => ?_
    simp only [cn_z] at z14
    refine k_add (x := x10) (y := cn q14) (by omega) (by simp only [cn_z]; omega) fun q15 h15 z15 => ?_
    simp only [cn_z] at z15
    simp only [cn_q] at h15
    refine ⟨⟨row1 rfl, (by show ((List.map rdc (qsL (l.take i))).length + 1) * 40 ≤ _; omega), (by show ((List.map rdc (qsL (l.take i))).length + 1) ≤ _; omega)⟩, ?_⟩
    refine ⟨by kernel_rfl, ?_⟩
    have e15 : q15 = x10.q := by rw [h15, h14, Rat.intCast_zero, Rat.add_zero]
    clear h15
    subst e15
    refine ⟨i + 1, by omega, by simp only; omega, ?_⟩
    constructor <;> (repeat' (first | exact rfl | exact True.intro | apply And.intro))
    all_goals first
      | (rw [qsL_snoc _ hx10]; rfl)
      | exact congrArg (fun n : Int => D.v (.int .i64 n)) (by rw [wrap64 _ (by omega) (by omega)]; omega)
      | exact congrArg (fun n : Int => D.v (.int .i64 n)) (by omega)
  · have f9 : ¬ ((i : Int) < ((List.map rd l).length : Int)) := of_decide_eq_false e1
    refine Eq.trans (b := .val (.one (.d (.list (List.map rdc (qsL (l.take i))))))) ?_ rfl
    rw [List.take_of_length_le (by omega)]
theorem k_copied {l : List RV} (hl : ∀ x, x ∈ l → x.z ≤ 1048576) (hn : l.length ≤ 1048576) (k : K (.val (.one (.d (.list (List.map rdc (qsL l))))))) : Ask 130 [.val (.one (.d (.list (List.map rd l))))] K := use (copied_spec l hl hn) rfl k
set_option maxRecDepth 100000 in
theorem RList_spec (l : List RV) (hl : ∀ x, x ∈ l → x.z ≤ 1048576) (hn : l.length ≤ 1048576) : Spec Tryz.prog Tab 132 [.val (.one (.d (.list (List.map rd l))))] (.val (.one (.d (.list (List.map q3d (qsL l)))))) := by
  have hL : (List.map rd l).length = l.length := List.length_map ..
  refine fn_spec Tryz.func132 rfl rfl Tryz.ntmps132 rfl (by kernel_rfl) rfl rfl ?_
  refine ⟨Nat, fun i => [(3, .val (.one (.row 16 0))), (6, .val (.one (.d (.list (List.map rd l))))), (7, int ((List.map rd l).length : Int)), (8, int (i : Int))],
    fun i => [(16, .row 42 3 0 (List.map q3d (qsL (l.take i))) true)], fun i => i ≤ l.length, fun i => l.length - i, 0, ?_, Nat.zero_le _, fun i hs => ?_⟩
  · constructor <;> (repeat' (first | exact rfl | exact True.intro | exact ⟨_, _, rfl⟩ | exact (by decide) | apply And.intro))
    all_goals first | exact congrArg (fun n : Int => D.v (.int .i64 n)) (by omega) | exact congrArg (fun n : Int => D.v (.int .i64 n)) (by rw [wrap64 _ (by omega) (by omega)]; omega) | (simp; done)
  have hT : (List.map q3d (qsL (l.take i))).length ≤ 1048576 := by rw [List.length_map, qsL_len, List.length_take]; omega
  refine ⟨fun e1 => ?_, fun e1 => ?_⟩
  · have f9 : (i : Int) < ((List.map rd l).length : Int) := of_decide_eq_true e1
    refine get_ex (l := l) (i := i) (by first | omega | exact Nat.mod_lt _ (by omega)) fun x10 hx10 => ?_
    have hzx10 := hl x10 (List.mem_of_getElem? hx10)
    refine k_ix i [D.v (.bool x10.s), D.v (.string x10.a), D.v (.string x10.d)] (by first | rfl | omega | (rw [wrap64 _ (by omega) (by omega)]; omega)) (map_at hx10) rfl ?_
    refine k_From3 (x := x10) (by omega) fun q14 h14 z14 => ?_
    refine ⟨⟨row1 rfl, (by show ((List.map q3d (qsL (l.take i))).length + 1) * 56 ≤ _; omega), (by show ((List.map q3d (qsL (l.take i))).length + 1) ≤ _; omega)⟩, ?_⟩
    subst h14
    refine ⟨i + 1, by omega, by simp only; omega, ?_⟩
    constructor <;> (repeat' (first | exact rfl | exact True.intro | apply And.intro))
    all_goals first
      | (rw [qsL_snoc _ hx10]; rfl)
      | exact congrArg (fun n : Int => D.v (.int .i64 n)) (by rw [wrap64 _ (by omega) (by omega)]; omega)
      | exact congrArg (fun n : Int => D.v (.int .i64 n)) (by omega)
  · have f9 : ¬ ((i : Int) < ((List.map rd l).length : Int)) := of_decide_eq_false e1
    refine Eq.trans (b := .val (.one (.d (.list (List.map q3d (qsL (l.take i))))))) ?_ rfl
    rw [List.take_of_length_le (by omega)]
theorem k_RList {l : List RV} (hl : ∀ x, x ∈ l → x.z ≤ 1048576) (hn : l.length ≤ 1048576) (k : K (.val (.one (.d (.list (List.map q3d (qsL l))))))) : Ask 132 [.val (.one (.d (.list (List.map rd l))))] K := use (RList_spec l hl hn) rfl k
set_option maxHeartbeats 2000000 in
set_option maxRecDepth 100000 in
theorem TAt_spec (t : List (Int × List RV)) (n : Int) (ht : tz t) (hn : -9223372036854775808 ≤ n ∧ n ≤ 9223372036854775807) : Spec Tryz.prog Tab 58 [.val (.one (.d (.list (List.map keyD t)))), int n] (.val (.one (.d (.list (List.map rdc (atL t n)))))) := by
  have hL : (List.map keyD t).length = t.length := List.length_map ..
  have ht1 := ht.1
  refine fn_spec Tryz.func58 rfl rfl Tryz.ntmps58 rfl (by kernel_rfl) rfl rfl ?_
  refine ⟨fun e1 => ?_, fun e1 => ?_⟩
  · have f15 : ((List.map keyD t).length : Int) = 0 := beq_t e1
    refine Eq.trans (b := .val (.one (.d (.list ([]))))) ?_ rfl
    have : t = [] := List.eq_nil_of_length_eq_zero (by omega)
    subst this
    rfl
  · have f15 : ¬ (((List.map keyD t).length : Int) = 0) := beq_f e1
    refine get_ex (l := t) (i := 0) (by first | omega | exact Nat.mod_lt _ (by omega)) fun x18 hx18 => ?_
    have hzx18 := ht.2 x18 (List.mem_of_getElem? hx18)
    have hLax18 : (List.map rd x18.2).length = x18.2.length := List.length_map ..
    refine k_ix 0 [D.v (.int .i64 (x18.1)), D.list (List.map rd x18.2)] (by first | rfl | omega | (rw [wrap64 _ (by omega) (by omega)]; omega)) (map_at hx18) rfl ?_
    refine ⟨fun e2 => ?_, fun e2 => ?_⟩
    · have f21 : n ≤ x18.1 := of_decide_eq_true e2
      refine k_ix 0 [D.v (.int .i64 (x18.1)), D.list (List.map rd x18.2)] (by first | rfl | omega | (rw [wrap64 _ (by omega) (by omega)]; omega)) (map_at hx18) rfl ?_
      refine k_copied (l := x18.2) hzx18.2.2 hzx18.2.1 ?_
      refine Eq.trans (b := .val (.one (.d (.list (List.map rdc (qsL x18.2)))))) ?_ rfl
      rw [atL_0 hx18 f21]
    · have f21 : ¬ (n ≤ x18.1) := of_decide_eq_false e2
      refine ⟨Nat × (Int × List RV), fun (i, x) => [(0, .val (.one (.d (.list (List.map keyD t))))), (1, int n), (5, int (i : Int))],
        fun (i, x) => [], fun (i, x) => 1 ≤ i ∧ i ≤ t.length ∧ atI t n (i - 1) x, fun (i, x) => t.length - i, (1, x18), ?_, ⟨Nat.le_refl _, by omega, atI_0 hx18 f21⟩, fun s hs => ?_⟩
      · constructor <;> (repeat' (first | exact rfl | exact True.intro | exact ⟨_, _, rfl⟩ | exact (by decide) | apply And.intro))
        all_goals first | exact congrArg (fun n : Int => D.v (.int .i64 n)) (by omega) | exact congrArg (fun n : Int => D.v (.int .i64 n)) (by rw [wrap64 _ (by omega) (by omega)]; omega) | (simp; done)
      obtain ⟨i, x⟩ := s
      obtain ⟨h1, h2, h3⟩ := hs
      refine ⟨fun e3 => ?_, fun e3 => ?_⟩
      · have f30 : (i : Int) < ((List.map keyD t).length : Int) := of_decide_eq_true e3
        refine get_ex (l := t) (i := i) (by first | omega | exact Nat.mod_lt _ (by omega)) fun x35 hx35 => ?_
        have hzx35 := ht.2 x35 (List.mem_of_getElem? hx35)
        have hLax35 : (List.map rd x35.2).length = x35.2.length := List.length_map ..
        refine k_ix i [D.v (.int .i64 (x35.1)), D.list (List.map rd x35.2)] (by first | rfl | omega | (rw [wrap64 _ (by omega) (by omega)]; omega)) (map_at hx35) rfl ?_
        refine ⟨fun e4 => ?_, fun e4 => ?_⟩
        · have f39 : x35.1 ≤ n := of_decide_eq_true e4
          refine ⟨(i + 1, x35), ⟨by omega, by omega, by have hh := atI_s h3 (by rw [show i - 1 + 1 = i by omega]; exact hx35) (by omega); rwa [show i - 1 + 1 = i + 1 - 1 by omega] at hh⟩, by simp only; omega, ?_⟩
          constructor <;> (repeat' (first | exact rfl | exact True.intro | apply And.intro))
          all_goals first
            | exact congrArg (fun n : Int => D.v (.int .i64 n)) (by rw [wrap64 _ (by omega) (by omega)]; omega)
            | exact congrArg (fun n : Int => D.v (.int .i64 n)) (by omega)
        · have f39 : ¬ (x35.1 ≤ n) := of_decide_eq_false e4
          refine get_ex (l := t) (i := (i - 1)) (by first | omega | exact Nat.mod_lt _ (by omega)) fun x43 hx43 => ?_
          have hzx43 := ht.2 x43 (List.mem_of_getElem? hx43)
          have hLax43 : (List.map rd x43.2).length = x43.2.length := List.length_map ..
          have he43 : x43 = x := Option.some.inj (hx43.symm.trans h3.1)
          have hle43 : x43.1 ≤ n := by rw [he43]; exact h3.2.1
          refine k_ix (i - 1) [D.v (.int .i64 (x43.1)), D.list (List.map rd x43.2)] (by first | rfl | omega | (rw [wrap64 _ (by omega) (by omega)]; omega)) (map_at hx43) rfl ?_
          refine k_ix i [D.v (.int .i64 (x35.1)), D.list (List.map rd x35.2)] (by first | rfl | omega | (rw [wrap64 _ (by omega) (by omega)]; omega)) (map_at hx35) rfl ?_
          refine ⟨by kernel_rfl, ?_⟩
          refine k_of (x43.1) (by omega) (by omega) fun q51 h51 z51 => ?_
          simp only [cn_z] at z51
          refine k_of (n) (by omega) (by omega) fun q54 h54 z54 => ?_
          simp only [cn_z] at z54
          refine k_sub (x := cn q54) (y := cn q51) (by simp only [cn_z]; omega) (by simp only [cn_z]; omega) fun q56 h56 z56 => ?_
          simp only [cn_z] at z56
          simp only [cn_q] at h56
          refine k_of (x35.1) (by omega) (by omega) fun q59 h59 z59 => ?_
          simp only [cn_z] at z59
          refine k_sub (x := cn q59) (y := cn q51) (by simp only [cn_z]; omega) (by simp only [cn_z]; omega) fun q61 h61 z61 => ?_
          simp only [cn_z] at z61
          simp only [cn_q] at h61
          refine k_div (x := cn q56) (y := cn q61) (by simp only [cn_z]; omega) (by simp only [cn_z]; omega) (by rw [cn_q, h61, h59, h51]; exact cast_ne (by omega)) fun q62 h62 z62 => ?_
          simp only [cn_z] at z62
          simp only [cn_q] at h62
          refine ⟨by kernel_rfl, ?_⟩
          have hs62 : q62 = (((n : Rat) - (x43.1 : Rat)) / ((x35.1 : Rat) - (x43.1 : Rat))) := by rw [h62, h56, h61, h59, h54, h51]
          have hmn : (if ((List.map rd x35.2).length : Int) < ((List.map rd x43.2).length : Int) then ((List.map rd x35.2).length : Int) else ((List.map rd x43.2).length : Int)) = ((min x43.2.length x35.2.length : Nat) : Int) := by rw [hLax35, hLax43]; split <;> omega
          refine ⟨Nat, fun k => [(6, .val (.one (.ptr 6 0))), (7, .val (.one (.ptr 7 0))), (9, .val (.one (.ptr 9 0))), (11, .val (.one (.row 96 0))), (71, int ((min x43.2.length x35.2.length : Nat) : Int)), (72, int (k : Int))],
            fun k => [(6, .var 191 [.d (.v (.int .i64 (x43.1))), .d (.list (List.map rd x43.2))]), (7, .var 191 [.d (.v (.int .i64 (x35.1))), .d (.list (List.map rd x35.2))]), (9, .var 23 [.d (.v (.bool (cn q62).s)), .d (.v (.string (cn q62).a)), .d (.v (.string (cn q62).d))]), (96, .row 23 3 0 (List.map rdc (itL (((n : Rat) - (x43.1 : Rat)) / ((x35.1 : Rat) - (x43.1 : Rat))) x43.2 x35.2 k)) true)], fun k => k ≤ min x43.2.length x35.2.length, fun k => min x43.2.length x35.2.length - k, 0, ?_, Nat.zero_le _, fun k hs => ?_⟩
          · constructor <;> (repeat' (first | exact rfl | exact True.intro | exact ⟨_, _, rfl⟩ | exact (by decide) | apply And.intro))
            all_goals first
              | exact congrArg (fun n : Int => D.v (.int .i64 n)) hmn
              | exact congrArg (fun n : Int => D.v (.int .i64 n)) hmn.symm
              | exact congrArg (fun n : Int => D.v (.int .i64 n)) (by omega)
              | (simp; done)
          have hT : (List.map rdc (itL (((n : Rat) - (x43.1 : Rat)) / ((x35.1 : Rat) - (x43.1 : Rat))) x43.2 x35.2 k)).length ≤ 1048576 := by rw [List.length_map, itL_len]; omega
          refine ⟨fun e5 => ?_, fun e5 => ?_⟩
          · have f73 : (k : Int) < ((min x43.2.length x35.2.length : Nat) : Int) := of_decide_eq_true e5
            refine get_ex (l := x43.2) (i := k) (by first | omega | exact Nat.mod_lt _ (by omega)) fun x79 hx79 => ?_
            have hzx79 := hzx43.2.2 x79 (List.mem_of_getElem? hx79)
            refine k_ix k [D.v (.bool x79.s), D.v (.string x79.a), D.v (.string x79.d)] (by first | rfl | omega | (rw [wrap64 _ (by omega) (by omega)]; omega)) (map_at hx79) rfl ?_
            refine get_ex (l := x35.2) (i := k) (by first | omega | exact Nat.mod_lt _ (by omega)) fun x85 hx85 => ?_
            have hzx85 := hzx35.2.2 x85 (List.mem_of_getElem? hx85)
            refine k_ix k [D.v (.bool x85.s), D.v (.string x85.a), D.v (.string x85.d)] (by first | rfl | omega | (rw [wrap64 _ (by omega) (by omega)]; omega)) (map_at hx85) rfl ?_
            refine k_ix k [D.v (.bool x79.s), D.v (.string x79.a), D.v (.string x79.d)] (by first | rfl | omega | (rw [wrap64 _ (by omega) (by omega)]; omega)) (map_at hx79) rfl ?_
            refine k_sub (x := x85) (y := x79) (by omega) (by omega) fun q92 h92 z92 => ?_
            simp only [cn_z] at z92
            refine k_mul (x := cn q62) (y := cn q92) (by simp only [cn_z]; omega) (by simp only [cn_z]; omega) fun q93 h93 z93 => ?_
            simp only [cn_z] at z93
            simp only [cn_q] at h93
            refine k_add (x := x79) (y := cn q93) (by omega) (by simp only [cn_z]; omega) fun q94 h94 z94 => ?_
            simp only [cn_z] at z94
            simp only [cn_q] at h94
            refine ⟨⟨row1 rfl, (by show ((List.map rdc (itL (((n : Rat) - (x43.1 : Rat)) / ((x35.1 : Rat) - (x43.1 : Rat))) x43.2 x35.2 k)).length + 1) * 40 ≤ _; omega), (by show ((List.map rdc (itL (((n : Rat) - (x43.1 : Rat)) / ((x35.1 : Rat) - (x43.1 : Rat))) x43.2 x35.2 k)).length + 1) ≤ _; omega)⟩, ?_⟩
            refine ⟨by kernel_rfl, ?_⟩
            have e94 : q94 = itF (((n : Rat) - (x43.1 : Rat)) / ((x35.1 : Rat) - (x43.1 : Rat))) x43.2 x35.2 k := by rw [h94, h93, h92, hs62]; unfold itF; rw [qAt_is hx79, qAt_is hx85]
            clear h94
            subst e94
            refine ⟨k + 1, by omega, by simp only; omega, ?_⟩
            constructor <;> (repeat' (first | exact rfl | exact True.intro | apply And.intro))
            all_goals first
              | (rw [itL_snoc]; rfl)
              | exact congrArg (fun n : Int => D.v (.int .i64 n)) (by rw [wrap64 _ (by omega) (by omega)]; omega)
              | exact congrArg (fun n : Int => D.v (.int .i64 n)) (by omega)
          · have f73 : ¬ ((k : Int) < ((min x43.2.length x35.2.length : Nat) : Int)) := of_decide_eq_false e5
            refine Eq.trans (b := .val (.one (.d (.list (List.map rdc (itL (((n : Rat) - (x43.1 : Rat)) / ((x35.1 : Rat) - (x43.1 : Rat))) x43.2 x35.2 k)))))) ?_ rfl
            have hkk : k = min x43.2.length x35.2.length := by omega
            rw [atI_it h3 (by rw [show i - 1 + 1 = i by omega]; exact hx35) (by omega), ← he43, hkk]
      · have f30 : ¬ ((i : Int) < ((List.map keyD t).length : Int)) := of_decide_eq_false e3
        refine get_ex (l := t) (i := (t.length - 1)) (by first | omega | exact Nat.mod_lt _ (by omega)) fun x103 hx103 => ?_
        have hzx103 := ht.2 x103 (List.mem_of_getElem? hx103)
        have hLax103 : (List.map rd x103.2).length = x103.2.length := List.length_map ..
        refine k_ix (t.length - 1) [D.v (.int .i64 (x103.1)), D.list (List.map rd x103.2)] (by first | rfl | omega | (rw [wrap64 _ (by omega) (by omega)]; omega)) (map_at hx103) rfl ?_
        refine k_copied (l := x103.2) hzx103.2.2 hzx103.2.1 ?_
        refine Eq.trans (b := .val (.one (.d (.list (List.map rdc (qsL x103.2)))))) ?_ rfl
        have hx : x = x103 := Option.some.inj (h3.1.symm.trans (by rw [show i - 1 = t.length - 1 by omega]; exact hx103))
        rw [atI_end h3 (by omega), hx]
theorem k_TAt {t : List (Int × List RV)} {u : Int} (n : Int) (hu : u = n) (ht : tz t) (hn : -9223372036854775808 ≤ n ∧ n ≤ 9223372036854775807) (k : K (.val (.one (.d (.list (List.map rdc (atL t n))))))) : Ask 58 [.val (.one (.d (.list (List.map keyD t)))), int u] K := by
  subst hu; exact use (TAt_spec t u ht hn) rfl k
set_option maxHeartbeats 2000000 in
set_option maxRecDepth 100000 in
theorem RAt_spec (t : List (Int × List RV)) (n : Int) (ht : tz t) (hn : -9223372036854775808 ≤ n ∧ n ≤ 9223372036854775807) : Spec Tryz.prog Tab 59 [.val (.one (.d (.list (List.map keyD t)))), int n] (.val (.one (.d (.list (List.map q3d (atL t n)))))) := by
  have hL : (List.map keyD t).length = t.length := List.length_map ..
  have ht1 := ht.1
  refine fn_spec Tryz.func59 rfl rfl Tryz.ntmps59 rfl (by kernel_rfl) rfl rfl ?_
  refine ⟨fun e1 => ?_, fun e1 => ?_⟩
  · have f15 : ((List.map keyD t).length : Int) = 0 := beq_t e1
    refine Eq.trans (b := .val (.one (.d (.list ([]))))) ?_ rfl
    have : t = [] := List.eq_nil_of_length_eq_zero (by omega)
    subst this
    rfl
  · have f15 : ¬ (((List.map keyD t).length : Int) = 0) := beq_f e1
    refine get_ex (l := t) (i := 0) (by first | omega | exact Nat.mod_lt _ (by omega)) fun x17 hx17 => ?_
    have hzx17 := ht.2 x17 (List.mem_of_getElem? hx17)
    have hLax17 : (List.map rd x17.2).length = x17.2.length := List.length_map ..
    refine k_ix 0 [D.v (.int .i64 (x17.1)), D.list (List.map rd x17.2)] (by first | rfl | omega | (rw [wrap64 _ (by omega) (by omega)]; omega)) (map_at hx17) rfl ?_
    refine ⟨fun e2 => ?_, fun e2 => ?_⟩
    · have f22 : n ≤ x17.1 := of_decide_eq_true e2
      refine k_RList (l := x17.2) hzx17.2.2 hzx17.2.1 ?_
      refine Eq.trans (b := .val (.one (.d (.list (List.map q3d (qsL x17.2)))))) ?_ rfl
      rw [atL_0 hx17 f22]
    · have f22 : ¬ (n ≤ x17.1) := of_decide_eq_false e2
      refine k_drop 1 (List.map keyD (t.drop 1)) (by first | omega | (simp; omega) | simp) (by first | rfl | omega | (rw [wrap64 _ (by omega) (by omega)]; omega)) (map_rows fun _ => rfl) (List.map_drop.symm) ?_
      have hLd : (List.map keyD (t.drop 1)).length = t.length - 1 := by rw [List.length_map, List.length_drop]
      have hLd2 : (t.drop 1).length = t.length - 1 := List.length_drop ..
      refine ⟨Nat × (Int × List RV), fun (i, x) => [(1, int n), (5, .val (.one (.ptr 5 0))), (27, .val (.one (.d (.list (List.map keyD (t.drop 1)))))), (28, int ((List.map keyD (t.drop 1)).length : Int)), (29, int (i : Int))],
        fun (i, x) => [(5, .var 191 [.d (.v (.int .i64 (x.1))), .d (.list (List.map rd x.2))])], fun (i, x) => i + 1 ≤ t.length ∧ atI t n i x, fun (i, x) => t.length - i, (0, x17), ?_, ⟨by omega, atI_0 hx17 f22⟩, fun s hs => ?_⟩
      · constructor <;> (repeat' (first | exact rfl | exact True.intro | exact ⟨_, _, rfl⟩ | exact (by decide) | apply And.intro))
        all_goals first | exact congrArg (fun n : Int => D.v (.int .i64 n)) (by omega) | exact congrArg (fun n : Int => D.v (.int .i64 n)) (by rw [wrap64 _ (by omega) (by omega)]; omega) | (simp; done)
      obtain ⟨i, x⟩ := s
      obtain ⟨h2, h3⟩ := hs
      have hzx := ht.2 x (List.mem_of_getElem? h3.1)
      have hLax : (List.map rd x.2).length = x.2.length := List.length_map ..
      have hle := h3.2.1
      refine ⟨fun e3 => ?_, fun e3 => ?_⟩
      · have f30 : (i : Int) < ((List.map keyD (t.drop 1)).length : Int) := of_decide_eq_true e3
        refine get_ex (l := (t.drop 1)) (i := i) (by first | omega | exact Nat.mod_lt _ (by omega)) fun x31 hx31 => ?_
        have hy31 : t[i + 1]? = some x31 := by
          have := hx31
          rw [List.getElem?_drop] at this
          rwa [Nat.add_comm] at this
        have hzx31 := ht.2 x31 (List.mem_of_getElem? hy31)
        have hLax31 : (List.map rd x31.2).length = x31.2.length := List.length_map ..
        refine k_ix i [D.v (.int .i64 (x31.1)), D.list (List.map rd x31.2)] (by first | rfl | omega | (rw [wrap64 _ (by omega) (by omega)]; omega)) (map_at hx31) rfl ?_
        refine ⟨fun e4 => ?_, fun e4 => ?_⟩
        · have f36 : x31.1 > n := of_decide_eq_true e4
          refine k_N3 (n) (by omega) (by omega) fun q38 h38 z38 => ?_
          refine k_N3 (x.1) (by omega) (by omega) fun q41 h41 z41 => ?_
          refine k_Sub3 (p := q38) (q := q41) (by omega) (by omega) fun q42 h42 z42 => ?_
          refine k_N3 (x31.1) (by omega) (by omega) fun q45 h45 z45 => ?_
          refine k_N3 (x.1) (by omega) (by omega) fun q48 h48 z48 => ?_
          refine k_Sub3 (p := q45) (q := q48) (by omega) (by omega) fun q49 h49 z49 => ?_
          refine k_Div3 (p := q42) (q := q49) (by omega) (by omega) (by rw [h49, h45, h48]; exact cast_ne (by omega)) fun q50 h50 z50 => ?_
          refine ⟨by kernel_rfl, ?_⟩
          have hs50 : q50 = (((n : Rat) - (x.1 : Rat)) / ((x31.1 : Rat) - (x.1 : Rat))) := by rw [h50, h42, h49, h38, h41, h45, h48]
          have hmn : (if ((List.map rd x31.2).length : Int) < ((List.map rd x.2).length : Int) then ((List.map rd x31.2).length : Int) else ((List.map rd x.2).length : Int)) = ((min x.2.length x31.2.length : Nat) : Int) := by rw [hLax31, hLax]; split <;> omega
          refine ⟨Nat, fun k => [(5, .val (.one (.ptr 5 0))), (7, .val (.one (.ptr 7 0))), (8, .val (.one (.ptr 8 0))), (9, .val (.one (.row 84 0))), (57, int ((min x.2.length x31.2.length : Nat) : Int)), (58, int (k : Int))],
            fun k => [(5, .var 191 [.d (.v (.int .i64 (x.1))), .d (.list (List.map rd x.2))]), (7, .var 191 [.d (.v (.int .i64 (x31.1))), .d (.list (List.map rd x31.2))]), (8, .var 42 [.d (.v (.bool (decide (q50.num < 0)))), .d (.list (W (w32 q50.num.natAbs))), .d (.list (W (w32 q50.den)))]), (84, .row 42 3 0 (List.map q3d (itL (((n : Rat) - (x.1 : Rat)) / ((x31.1 : Rat) - (x.1 : Rat))) x.2 x31.2 k)) true)], fun k => k ≤ min x.2.length x31.2.length, fun k => min x.2.length x31.2.length - k, 0, ?_, Nat.zero_le _, fun k hs => ?_⟩
          · constructor <;> (repeat' (first | exact rfl | exact True.intro | exact ⟨_, _, rfl⟩ | exact (by decide) | apply And.intro))
            all_goals first
              | exact congrArg (fun n : Int => D.v (.int .i64 n)) hmn
              | exact congrArg (fun n : Int => D.v (.int .i64 n)) hmn.symm
              | exact congrArg (fun n : Int => D.v (.int .i64 n)) (by omega)
              | (simp; done)
          have hT : (List.map q3d (itL (((n : Rat) - (x.1 : Rat)) / ((x31.1 : Rat) - (x.1 : Rat))) x.2 x31.2 k)).length ≤ 1048576 := by rw [List.length_map, itL_len]; omega
          refine ⟨fun e5 => ?_, fun e5 => ?_⟩
          · have f59 : (k : Int) < ((min x.2.length x31.2.length : Nat) : Int) := of_decide_eq_true e5
            refine get_ex (l := x.2) (i := k) (by first | omega | exact Nat.mod_lt _ (by omega)) fun x64 hx64 => ?_
            have hzx64 := hzx.2.2 x64 (List.mem_of_getElem? hx64)
            refine k_ix k [D.v (.bool x64.s), D.v (.string x64.a), D.v (.string x64.d)] (by first | rfl | omega | (rw [wrap64 _ (by omega) (by omega)]; omega)) (map_at hx64) rfl ?_
            refine k_From3 (x := x64) (by omega) fun q66 h66 z66 => ?_
            refine get_ex (l := x31.2) (i := k) (by first | omega | exact Nat.mod_lt _ (by omega)) fun x70 hx70 => ?_
            have hzx70 := hzx31.2.2 x70 (List.mem_of_getElem? hx70)
            refine k_ix k [D.v (.bool x70.s), D.v (.string x70.a), D.v (.string x70.d)] (by first | rfl | omega | (rw [wrap64 _ (by omega) (by omega)]; omega)) (map_at hx70) rfl ?_
            refine k_From3 (x := x70) (by omega) fun q72 h72 z72 => ?_
            refine ⟨by kernel_rfl, ?_⟩
            refine k_N3 (1) (by omega) (by omega) fun q75 h75 z75 => ?_
            refine k_Sub3 (p := q75) (q := q50) (by omega) (by omega) fun q77 h77 z77 => ?_
            refine k_Mul3 (p := q66) (q := q77) (by omega) (by omega) fun q78 h78 z78 => ?_
            refine k_Mul3 (p := q72) (q := q50) (by omega) (by omega) fun q81 h81 z81 => ?_
            refine k_Add3 (p := q78) (q := q81) (by omega) (by omega) fun q82 h82 z82 => ?_
            refine ⟨⟨row1 rfl, (by show ((List.map q3d (itL (((n : Rat) - (x.1 : Rat)) / ((x31.1 : Rat) - (x.1 : Rat))) x.2 x31.2 k)).length + 1) * 56 ≤ _; omega), (by show ((List.map q3d (itL (((n : Rat) - (x.1 : Rat)) / ((x31.1 : Rat) - (x.1 : Rat))) x.2 x31.2 k)).length + 1) ≤ _; omega)⟩, ?_⟩
            refine ⟨by kernel_rfl, ?_⟩
            have e82 : q82 = itF (((n : Rat) - (x.1 : Rat)) / ((x31.1 : Rat) - (x.1 : Rat))) x.2 x31.2 k := by
              rw [h82, h78, h81, h77, h75, h66, h72, hs50]
              unfold itF
              rw [qAt_is hx64, qAt_is hx70, show ((1 : Int) : Rat) = 1 from rfl]
              generalize (((n : Rat) - (x.1 : Rat)) / ((x31.1 : Rat) - (x.1 : Rat))) = s
              grind
            clear h82
            subst e82
            refine ⟨k + 1, by omega, by simp only; omega, ?_⟩
            constructor <;> (repeat' (first | exact rfl | exact True.intro | apply And.intro))
            all_goals first
              | (rw [itL_snoc]; rfl)
              | exact congrArg (fun n : Int => D.v (.int .i64 n)) (by rw [wrap64 _ (by omega) (by omega)]; omega)
              | exact congrArg (fun n : Int => D.v (.int .i64 n)) (by omega)
          · have f59 : ¬ ((k : Int) < ((min x.2.length x31.2.length : Nat) : Int)) := of_decide_eq_false e5
            refine Eq.trans (b := .val (.one (.d (.list (List.map q3d (itL (((n : Rat) - (x.1 : Rat)) / ((x31.1 : Rat) - (x.1 : Rat))) x.2 x31.2 k)))))) ?_ rfl
            have hkk : k = min x.2.length x31.2.length := by omega
            rw [atI_it h3 hy31 (by omega), hkk]
        · have f36 : ¬ (x31.1 > n) := of_decide_eq_false e4
          refine ⟨(i + 1, x31), ⟨by omega, atI_s h3 hy31 (by omega)⟩, by simp only; omega, ?_⟩
          constructor <;> (repeat' (first | exact rfl | exact True.intro | apply And.intro))
          all_goals first
            | exact congrArg (fun n : Int => D.v (.int .i64 n)) (by rw [wrap64 _ (by omega) (by omega)]; omega)
            | exact congrArg (fun n : Int => D.v (.int .i64 n)) (by omega)
      · have f30 : ¬ ((i : Int) < ((List.map keyD (t.drop 1)).length : Int)) := of_decide_eq_false e3
        refine k_RList (l := x.2) hzx.2.2 hzx.2.1 ?_
        refine Eq.trans (b := .val (.one (.d (.list (List.map q3d (qsL x.2)))))) ?_ rfl
        rw [atI_end h3 (by omega)]
theorem k_RAt {t : List (Int × List RV)} {u : Int} (n : Int) (hu : u = n) (ht : tz t) (hn : -9223372036854775808 ≤ n ∧ n ≤ 9223372036854775807) (k : K (.val (.one (.d (.list (List.map q3d (atL t n))))))) : Ask 59 [.val (.one (.d (.list (List.map keyD t)))), int u] K := by
  subst hu; exact use (RAt_spec t u ht hn) rfl k
end
end Go.Proofs.YtjhoddlhdoiifaaGreatDoor.eng

/- Contracts: what makes a track valid: package track, gantref3. Printed by wip/gp_tck.py. -/
namespace Go.Proofs.YtjhoddlhdoiifaaGreatDoor.eng
open Go.RowKit num mem seg q held ratA ratB ratC ratD ratE vars ratF argopen
section
variable {K : AV → Prop}
set_option maxHeartbeats 4000000 in
set_option maxRecDepth 100000 in
theorem slow_spec (A : ArmV) (p k : Int × List RV) (hA : A.ok) (hp : ∀ x, x ∈ p.2 → x.z ≤ 1048576) (hk : ∀ x, x ∈ k.2 → x.z ≤ 1048576) (hpl : p.2.length = A.links.length) (hkl : k.2.length = A.links.length) (hpt : 0 ≤ p.1 ∧ p.1 ≤ 2000) (hkt : 0 ≤ k.1 ∧ k.1 ≤ 2000) : Spec Tryz.prog Tab 135 [.val (.agg [.d (.v (.string A.name)), .d (.v (.bool A.bx.s)), .d (.v (.string A.bx.a)), .d (.v (.string A.bx.d)), .d (.v (.bool A.by'.s)), .d (.v (.string A.by'.a)), .d (.v (.string A.by'.d)), .d (.v (.bool (A.bh))), .d (.v (.bool A.bt.s)), .d (.v (.string A.bt.a)), .d (.v (.string A.bt.d)), .d (.list (List.map lk A.links))]), .val (.agg [.d (.v (.int .i64 (p.1))), .d (.list (List.map rd p.2))]), .val (.agg [.d (.v (.int .i64 (k.1))), .d (.list (List.map rd k.2))])] (bool (slB A p k)) := by
  have hA2 := hA
  obtain ⟨z1, z2, z3, z4, z5, z6⟩ := hA
  have hL : (List.map lk A.links).length = A.links.length := List.length_map ..
  have hw : IntKind.i64.wrap (k.1 - p.1) = k.1 - p.1 := wrap64 _ (by omega) (by omega)
  have hLp : (List.map rd p.2).length = p.2.length := List.length_map ..
  have hLk : (List.map rd k.2).length = k.2.length := List.length_map ..
  refine fn_spec Tryz.func135 rfl rfl Tryz.ntmps135 rfl (by kernel_rfl) rfl rfl ?_
  refine k_of (IntKind.i64.wrap (k.1 - p.1)) (by omega) (by omega) fun q15 h15 z15 => ?_
  simp only [cn_z] at z15
  refine ⟨Nat, fun i => [(4, .val (.one (.ptr 4 0))), (5, .val (.one (.ptr 5 0))), (7, .val (.one (.ptr 7 0))), (17, .val (.one (.d (.list (List.map lk A.links))))), (18, int ((List.map lk A.links).length : Int)), (19, int (i : Int))],
    fun i => [(4, .var 191 [.d (.v (.int .i64 (p.1))), .d (.list (List.map rd p.2))]), (5, .var 191 [.d (.v (.int .i64 (k.1))), .d (.list (List.map rd k.2))]), (7, .var 23 [.d (.v (.bool (cn q15).s)), .d (.v (.string (cn q15).a)), .d (.v (.string (cn q15).d))])], fun i => i ≤ A.links.length ∧ ∀ (j : Nat) (l : LinkV) (x y : RV), j < i → A.links[j]? = some l → p.2[j]? = some x → k.2[j]? = some y → ¬ (l.speed.q * (((k.1 - p.1 : Int)) : Rat) < absV (y.q - x.q)), fun i => A.links.length - i, 0, ?_, ⟨Nat.zero_le _, fun j l x y h => by omega⟩, fun i hs => ?_⟩
  · constructor <;> (repeat' (first | exact rfl | exact True.intro | exact ⟨_, _, rfl⟩ | exact (by decide) | apply And.intro))
    all_goals first | exact congrArg (fun n : Int => D.v (.int .i64 n)) (by omega) | exact congrArg (fun n : Int => D.v (.int .i64 n)) (by rw [wrap64 _ (by omega) (by omega)]; omega) | (simp; done)
  obtain ⟨g1, g2⟩ := hs
  refine ⟨fun e1 => ?_, fun e1 => ?_⟩
  · have f20 : (i : Int) < ((List.map lk A.links).length : Int) := of_decide_eq_true e1
    refine get_ex (l := A.links) (i := i) (by first | omega | exact Nat.mod_lt _ (by omega)) fun x22 hx22 => ?_
    obtain ⟨hs1x22, hs2x22, hs3x22, hs4x22, hs5, hs6, hs7⟩ := z6 x22 (List.mem_of_getElem? hx22)
    refine k_ix i [D.v (.bool x22.len.s), D.v (.string x22.len.a), D.v (.string x22.len.d), D.v (.bool x22.low.s), D.v (.string x22.low.a), D.v (.string x22.low.d), D.v (.bool x22.high.s), D.v (.string x22.high.a), D.v (.string x22.high.d), D.v (.bool x22.speed.s), D.v (.string x22.speed.a), D.v (.string x22.speed.d), D.v (.bool x22.brake.s), D.v (.string x22.brake.a), D.v (.string x22.brake.d), D.list (List.map rdv x22.shape)] (by first | rfl | omega | (rw [wrap64 _ (by omega) (by omega)]; omega)) (map_at hx22) rfl ?_
    refine get_ex (l := k.2) (i := i) (by first | omega | exact Nat.mod_lt _ (by omega)) fun x27 hx27 => ?_
    have hzx27 := hk x27 (List.mem_of_getElem? hx27)
    refine k_ix i [D.v (.bool x27.s), D.v (.string x27.a), D.v (.string x27.d)] (by first | rfl | omega | (rw [wrap64 _ (by omega) (by omega)]; omega)) (map_at hx27) rfl ?_
    refine get_ex (l := p.2) (i := i) (by first | omega | exact Nat.mod_lt _ (by omega)) fun x32 hx32 => ?_
    have hzx32 := hp x32 (List.mem_of_getElem? hx32)
    refine k_ix i [D.v (.bool x32.s), D.v (.string x32.a), D.v (.string x32.d)] (by first | rfl | omega | (rw [wrap64 _ (by omega) (by omega)]; omega)) (map_at hx32) rfl ?_
    refine k_sub (x := x27) (y := x32) (by omega) (by omega) fun q34 h34 z34 => ?_
    simp only [cn_z] at z34
    refine k_absV (x := cn q34) (by simp only [cn_z]; omega) (fun q35 hk_35_1 hk_35_2 => ?_)
    try simp only [cn_q] at hk_35_1
    simp only [cn_z] at hk_35_2
    refine k_mul (x := x22.speed) (y := cn q15) (by omega) (by simp only [cn_z]; omega) fun q39 h39 z39 => ?_
    simp only [cn_z] at z39
    simp only [cn_q] at h39
    refine k_cmp (x := cn q35) (y := cn q39) (by simp only [cn_z]; omega) (by simp only [cn_z]; omega) fun n40 h40 => ?_
    simp only [cn_q] at h40
    refine ⟨by kernel_rfl, ?_⟩
    refine ⟨fun e2 => ?_, fun e2 => ?_⟩
    · have f41 : q39 < q35 := (cq_gt h40).1 (of_decide_eq_true e2)
      refine Eq.trans (b := bool false) ?_ rfl
      rw [slB_f ⟨i, x22, x32, x27, hx22, hx32, hx27, by rw [h39, h15, hw, hk_35_1, h34] at f41; exact f41⟩]
    · have f41 : ¬ (q39 < q35) := fun hh => of_decide_eq_false e2 ((cq_gt h40).2 hh)
      refine ⟨i + 1, ⟨by omega, fun j l x y hj hl hx hy => by
        by_cases e : j = i
        · subst e
          obtain rfl := Option.some.inj (hx22.symm.trans hl)
          obtain rfl := Option.some.inj (hx32.symm.trans hx)
          obtain rfl := Option.some.inj (hx27.symm.trans hy)
          rw [h39, h15, hw, hk_35_1, h34] at f41; exact f41
        · exact g2 j l x y (by omega) hl hx hy⟩, by simp only; omega, ?_⟩
      constructor <;> (repeat' (first | exact rfl | exact True.intro | apply And.intro))
      all_goals first
        | exact congrArg (fun n : Int => D.v (.int .i64 n)) (by rw [wrap64 _ (by omega) (by omega)]; omega)
        | exact congrArg (fun n : Int => D.v (.int .i64 n)) (by omega)
  · have f20 : ¬ ((i : Int) < ((List.map lk A.links).length : Int)) := of_decide_eq_false e1
    refine Eq.trans (b := bool true) ?_ rfl
    rw [slB_t (by
      rintro ⟨j, l, x, y, hl, hx, hy, hh⟩
      exact g2 j l x y (by have := (List.getElem?_eq_some_iff.1 hl).1; omega) hl hx hy hh)]
theorem k_slow {A : ArmV} {p k : Int × List RV} (hA : A.ok) (hp : ∀ x, x ∈ p.2 → x.z ≤ 1048576) (hk : ∀ x, x ∈ k.2 → x.z ≤ 1048576) (hpl : p.2.length = A.links.length) (hkl : k.2.length = A.links.length) (hpt : 0 ≤ p.1 ∧ p.1 ≤ 2000) (hkt : 0 ≤ k.1 ∧ k.1 ≤ 2000) (kk : ∀ b, b = slB A p k → K (bool b)) : Ask 135 [.val (.agg [.d (.v (.string A.name)), .d (.v (.bool A.bx.s)), .d (.v (.string A.bx.a)), .d (.v (.string A.bx.d)), .d (.v (.bool A.by'.s)), .d (.v (.string A.by'.a)), .d (.v (.string A.by'.d)), .d (.v (.bool (A.bh))), .d (.v (.bool A.bt.s)), .d (.v (.string A.bt.a)), .d (.v (.string A.bt.d)), .d (.list (List.map lk A.links))]), .val (.agg [.d (.v (.int .i64 (p.1))), .d (.list (List.map rd p.2))]), .val (.agg [.d (.v (.int .i64 (k.1))), .d (.list (List.map rd k.2))])] K := use (slow_spec A p k hA hp hk hpl hkl hpt hkt) rfl (kk _ rfl)
set_option maxHeartbeats 4000000 in
set_option maxRecDepth 100000 in
theorem TCheck_spec (A : ArmV) (t : List (Int × List RV)) (hA : A.ok) (ht : tz t) : Spec Tryz.prog Tab 61 [.val (.agg [.d (.v (.string A.name)), .d (.v (.bool A.bx.s)), .d (.v (.string A.bx.a)), .d (.v (.string A.bx.d)), .d (.v (.bool A.by'.s)), .d (.v (.string A.by'.a)), .d (.v (.string A.by'.d)), .d (.v (.bool (A.bh))), .d (.v (.bool A.bt.s)), .d (.v (.string A.bt.a)), .d (.v (.string A.bt.d)), .d (.list (List.map lk A.links))]), .val (.one (.d (.list (List.map keyD t))))] (int (trackE A t)) := by
  have hA2 := hA
  obtain ⟨z1, z2, z3, z4, z5, z6⟩ := hA
  have hL : (List.map lk A.links).length = A.links.length := List.length_map ..
  have hLt : (List.map keyD t).length = t.length := List.length_map ..
  have ht1 := ht.1
  refine fn_spec Tryz.func61 rfl rfl Tryz.ntmps61 rfl (by kernel_rfl) rfl rfl ?_
  refine k_ACheck (A := A) (by assumption) fun n10 hk_10_1 => ?_
  refine ⟨fun e1 => ?_, fun e1 => ?_⟩
  · have f12 : n10 ≠ 0 := bne_t e1
    refine Eq.trans (b := int n10) ?_ rfl
    rw [trackE_arm (by rw [← hk_10_1]; exact f12), ← hk_10_1]
  · have f12 : ¬ (n10 ≠ 0) := fun hh => hh (bne_f e1)
    have hA0 : armE A = 0 := by rw [← hk_10_1]; exact Classical.not_not.1 f12
    refine ⟨fun e2 => ?_, fun e2 => ?_⟩
    · have f16 : ((List.map keyD t).length : Int) = 0 := beq_t e2
      refine Eq.trans (b := int 14) ?_ rfl
      rw [trackE_nil hA0 (by omega)]
    · have f16 : ¬ (((List.map keyD t).length : Int) = 0) := beq_f e2
      refine ⟨fun e3 => ?_, fun e3 => ?_⟩
      · have f19 : ((List.map keyD t).length : Int) > 60 := of_decide_eq_true e3
        refine Eq.trans (b := int 2) ?_ rfl
        rw [trackE_big hA0 (by omega) (by omega)]
      · have f19 : ¬ (((List.map keyD t).length : Int) > 60) := of_decide_eq_false e3
        refine ⟨Nat, fun i => [(1, .val (.one (.d (.list (List.map keyD t))))), (2, .val (.one (.ptr 2 0))), (20, .val (.one (.d (.list (List.map keyD t))))), (21, int ((List.map keyD t).length : Int)), (22, int (i : Int))],
          fun i => [(2, .var 32 [.d (.v (.string A.name)), .d (.v (.bool A.bx.s)), .d (.v (.string A.bx.a)), .d (.v (.string A.bx.d)), .d (.v (.bool A.by'.s)), .d (.v (.string A.by'.a)), .d (.v (.string A.by'.d)), .d (.v (.bool (A.bh))), .d (.v (.bool A.bt.s)), .d (.v (.string A.bt.a)), .d (.v (.string A.bt.d)), .d (.list (List.map lk A.links))])], fun i => i ≤ t.length ∧ ∀ j, j < i → keyE A t j = 0, fun i => t.length - i, 0, ?_, ⟨Nat.zero_le _, fun j h => by omega⟩, fun i hs => ?_⟩
        · constructor <;> (repeat' (first | exact rfl | exact True.intro | exact ⟨_, _, rfl⟩ | exact (by decide) | apply And.intro))
          all_goals first | exact congrArg (fun n : Int => D.v (.int .i64 n)) (by omega) | exact congrArg (fun n : Int => D.v (.int .i64 n)) (by rw [wrap64 _ (by omega) (by omega)]; omega) | (simp; done)
        obtain ⟨g1, h1⟩ := hs
        refine ⟨fun e4 => ?_, fun e4 => ?_⟩
        · have f23 : (i : Int) < ((List.map keyD t).length : Int) := of_decide_eq_true e4
          refine get_ex (l := t) (i := i) (by first | omega | exact Nat.mod_lt _ (by omega)) fun x25 hx25 => ?_
          have hzx25 := ht.2 x25 (List.mem_of_getElem? hx25)
          refine k_ix i [D.v (.int .i64 (x25.1)), D.list (List.map rd x25.2)] (by first | rfl | omega | (rw [wrap64 _ (by omega) (by omega)]; omega)) (map_at hx25) rfl ?_
          refine fork (fun e5 => ?_) (fun e5 => ?_)
          · have f30 : x25.1 < 0 := of_decide_eq_true e5
            refine ⟨fun _ => ?_, fun e => absurd e (by decide)⟩
            refine Eq.trans (b := int 1) ?_ rfl
            have hke : keyE A t i = 1 := (keyE_1 hx25 (by rw [key1_bad (.inl f30)]; decide)).trans (key1_bad (.inl f30))
            rw [trackE_at hA0 (by omega) (by omega) h1 (by rw [hke]; decide), hke]
          · have f30 : ¬ (x25.1 < 0) := of_decide_eq_false e5
            refine ⟨fun e6 => ?_, fun e6 => ?_⟩
            · have f34 : x25.1 > 2000 := of_decide_eq_true e6
              refine Eq.trans (b := int 1) ?_ rfl
              have hke : keyE A t i = 1 := (keyE_1 hx25 (by rw [key1_bad (.inr f34)]; decide)).trans (key1_bad (.inr f34))
              rw [trackE_at hA0 (by omega) (by omega) h1 (by rw [hke]; decide), hke]
            · have f34 : ¬ (x25.1 > 2000) := of_decide_eq_false e6
              refine k_AFits (A := A) (Q := x25.2) (by assumption) (fun x hx => Nat.le_trans (hzx25.2.2 x hx) (by decide)) fun n38 hk_38_1 => ?_
              refine ⟨fun e7 => ?_, fun e7 => ?_⟩
              · have f40 : n38 ≠ 0 := bne_t e7
                refine Eq.trans (b := int n38) ?_ rfl
                have hke : keyE A t i = n38 := by rw [keyE_1 hx25 (by rw [key1_in f30 f34, ← hk_38_1]; exact f40), key1_in f30 f34, ← hk_38_1]
                rw [trackE_at hA0 (by omega) (by omega) h1 (by rw [hke]; exact f40), hke]
              · have f40 : ¬ (n38 ≠ 0) := fun hh => hh (bne_f e7)
                have hk1 : key1 A x25 = 0 := by rw [key1_in f30 f34, ← hk_38_1]; exact Classical.not_not.1 f40
                have hkl := (fits_len (key1_ok.1 hk1).2).1
                have hkt := (key1_ok.1 hk1).1
                refine ⟨fun e8 => ?_, fun e8 => ?_⟩
                · have f43 : (i : Int) = 0 := beq_t e8
                  have hke : keyE A t i = 0 := by
                    obtain rfl : i = 0 := by omega
                    rw [keyE_0 hx25, hk1]
                  refine ⟨i + 1, ⟨by omega, fun j hj => by
                    by_cases e : j = i
                    · rw [e]; exact hke
                    · exact h1 j (by omega)⟩, by simp only; omega, ?_⟩
                  constructor <;> (repeat' (first | exact rfl | exact True.intro | apply And.intro))
                  all_goals first
                    | exact congrArg (fun n : Int => D.v (.int .i64 n)) (by rw [wrap64 _ (by omega) (by omega)]; omega)
                    | exact congrArg (fun n : Int => D.v (.int .i64 n)) (by omega)
                · have f43 : ¬ ((i : Int) = 0) := beq_f e8
                  have hi1 : 0 < i := by omega
                  refine get_ex (l := t) (i := (i - 1)) (by first | omega | exact Nat.mod_lt _ (by omega)) fun x49 hx49 => ?_
                  have hzx49 := ht.2 x49 (List.mem_of_getElem? hx49)
                  refine k_ix (i - 1) [D.v (.int .i64 (x49.1)), D.list (List.map rd x49.2)] (by first | rfl | omega | (rw [wrap64 _ (by omega) (by omega)]; omega)) (map_at hx49) rfl ?_
                  refine ⟨by kernel_rfl, ?_⟩
                  refine ⟨fun e9 => ?_, fun e9 => ?_⟩
                  · have f52 : x25.1 ≤ x49.1 := of_decide_eq_true e9
                    refine Eq.trans (b := int 9) ?_ rfl
                    have hke : keyE A t i = 9 := (keyE_s (by omega) hx49 hx25).trans (key2_9 hk1 f52)
                    rw [trackE_at hA0 (by omega) (by omega) h1 (by rw [hke]; decide), hke]
                  · have f52 : ¬ (x25.1 ≤ x49.1) := of_decide_eq_false e9
                    have hk0 := keyE_fits hx49 (h1 (i - 1) (by omega))
                    have hpl := (fits_len (key1_ok.1 hk0).2).1
                    have hpt := (key1_ok.1 hk0).1
                    refine k_ix (i - 1) [D.v (.int .i64 (x49.1)), D.list (List.map rd x49.2)] (by first | rfl | omega | (rw [wrap64 _ (by omega) (by omega)]; omega)) (map_at hx49) rfl ?_
                    refine k_slow (A := A) (p := x49) (k := x25) (by assumption) hzx49.2.2 hzx25.2.2 hpl hkl hpt hkt fun b60 hb60 => ?_
                    refine ⟨by kernel_rfl, ?_⟩
                    refine ⟨fun e10 => ?_, fun e10 => ?_⟩
                    · have f61 : ¬ (slB A x49 x25 = true) := fun hh => absurd (hh.symm.trans (hb60.symm.trans (not_t e10))) (by decide)
                      refine Eq.trans (b := int 19) ?_ rfl
                      have hke : keyE A t i = 19 := (keyE_s (by omega) hx49 hx25).trans (key2_19 hk1 f52 (Classical.not_not.1 fun g => f61 (slB_t g)))
                      rw [trackE_at hA0 (by omega) (by omega) h1 (by rw [hke]; decide), hke]
                    · have f61 : ¬ (¬ (slB A x49 x25 = true)) := fun hh => hh (hb60.symm.trans (not_f e10))
                      have hke : keyE A t i = 0 := (keyE_s (by omega) hx49 hx25).trans (key2_0 hk1 f52 (slB_iff.1 (by have := f61; simpa using this)))
                      refine ⟨i + 1, ⟨by omega, fun j hj => by
                        by_cases e : j = i
                        · rw [e]; exact hke
                        · exact h1 j (by omega)⟩, by simp only; omega, ?_⟩
                      constructor <;> (repeat' (first | exact rfl | exact True.intro | apply And.intro))
                      all_goals first
                        | exact congrArg (fun n : Int => D.v (.int .i64 n)) (by rw [wrap64 _ (by omega) (by omega)]; omega)
                        | exact congrArg (fun n : Int => D.v (.int .i64 n)) (by omega)
        · have f23 : ¬ ((i : Int) < ((List.map keyD t).length : Int)) := of_decide_eq_false e4
          refine Eq.trans (b := int 0) ?_ rfl
          rw [trackE_ok hA0 (by omega) (by omega) fun j hj => h1 j (by omega)]
theorem k_TCheck {A : ArmV} {t : List (Int × List RV)} (hA : A.ok) (ht : tz t) (k : ∀ n, n = trackE A t → K (int n)) : Ask 61 [.val (.agg [.d (.v (.string A.name)), .d (.v (.bool A.bx.s)), .d (.v (.string A.bx.a)), .d (.v (.string A.bx.d)), .d (.v (.bool A.by'.s)), .d (.v (.string A.by'.a)), .d (.v (.string A.by'.d)), .d (.v (.bool (A.bh))), .d (.v (.bool A.bt.s)), .d (.v (.string A.bt.a)), .d (.v (.string A.bt.d)), .d (.list (List.map lk A.links))]), .val (.one (.d (.list (List.map keyD t))))] K := use (TCheck_spec A t hA ht) rfl (k _ rfl)
end
end Go.Proofs.YtjhoddlhdoiifaaGreatDoor.eng

/- Contracts: what makes a track valid: gantref3. Printed by wip/gp_tck.py. -/
namespace Go.Proofs.YtjhoddlhdoiifaaGreatDoor.eng
open Go.RowKit num mem seg q held ratA ratB ratC ratD ratE vars ratF argopen
section
variable {K : AV → Prop}
set_option maxHeartbeats 4000000 in
set_option maxRecDepth 100000 in
theorem RFits_spec (A : ArmV) (Q : List RV) (hA : A.ok) (hQ : ∀ x, x ∈ Q → x.z ≤ 67108864) (hQn : Q.length ≤ 1073741824) : Spec Tryz.prog Tab 136 [.val (.agg [.d (.v (.string A.name)), .d (.v (.bool A.bx.s)), .d (.v (.string A.bx.a)), .d (.v (.string A.bx.d)), .d (.v (.bool A.by'.s)), .d (.v (.string A.by'.a)), .d (.v (.string A.by'.d)), .d (.v (.bool (A.bh))), .d (.v (.bool A.bt.s)), .d (.v (.string A.bt.a)), .d (.v (.string A.bt.d)), .d (.list (List.map lk A.links))]), .val (.one (.d (.list (List.map rd Q))))] (int (fitsE A Q)) := by
  have hA2 := hA
  obtain ⟨z1, z2, z3, z4, z5, z6⟩ := hA
  have hL : (List.map lk A.links).length = A.links.length := List.length_map ..
  have hLq : (List.map rd Q).length = Q.length := List.length_map ..
  refine fn_spec Tryz.func136 rfl rfl Tryz.ntmps136 rfl (by kernel_rfl) rfl rfl ?_
  refine k_HasFault (A := A) (n := ((List.map rd Q).length : Int)) (by assumption) fun n11 hk_11_1 => ?_
  rw [List.length_map] at hk_11_1
  have hz0 : n11 = ffE A Q 0 := by rw [ffE_0, hk_11_1]
  refine ⟨Nat, fun i => [(2, .val (.one (.ptr 2 0))), (5, int (ffE A Q i)), (12, .val (.one (.d (.list (List.map rd Q))))), (13, int ((List.map rd Q).length : Int)), (14, int (i : Int))],
    fun i => [(2, .var 32 [.d (.v (.string A.name)), .d (.v (.bool A.bx.s)), .d (.v (.string A.bx.a)), .d (.v (.string A.bx.d)), .d (.v (.bool A.by'.s)), .d (.v (.string A.by'.a)), .d (.v (.string A.by'.d)), .d (.v (.bool (A.bh))), .d (.v (.bool A.bt.s)), .d (.v (.string A.bt.a)), .d (.v (.string A.bt.d)), .d (.list (List.map lk A.links))])], fun i => i ≤ Q.length, fun i => Q.length - i, 0, ?_, Nat.zero_le _, fun i hs => ?_⟩
  · constructor <;> (repeat' (first | exact rfl | exact True.intro | exact ⟨_, _, rfl⟩ | exact (by decide) | apply And.intro))
    all_goals first
      | exact congrArg (fun n : Int => D.v (.int .i64 n)) hz0
      | exact congrArg (fun n : Int => D.v (.int .i64 n)) hz0.symm
      | exact congrArg (fun n : Int => D.v (.int .i64 n)) (by omega)
      | (simp; done)
  refine ⟨fun e1 => ?_, fun e1 => ?_⟩
  · have f15 : (i : Int) < ((List.map rd Q).length : Int) := of_decide_eq_true e1
    refine get_ex (l := Q) (i := i) (by first | omega | exact Nat.mod_lt _ (by omega)) fun x17 hx17 => ?_
    have hzx17 := hQ x17 (List.mem_of_getElem? hx17)
    refine k_ix i [D.v (.bool x17.s), D.v (.string x17.a), D.v (.string x17.d)] (by first | rfl | omega | (rw [wrap64 _ (by omega) (by omega)]; omega)) (map_at hx17) rfl ?_
    refine fork (fun e2 => ?_) (fun e2 => ?_)
    · have f21 : ffE A Q i = 0 := beq_t e2
      refine get_ex (l := A.links) (i := i) (by have := (hasE_ok.1 (ffE_ok f21).1).2; omega) fun x25 hx25 => ?_
      obtain ⟨hs1x25, hs2x25, hs3x25, hs4x25, hs5, hs6, hs7⟩ := z6 x25 (List.mem_of_getElem? hx25)
      refine k_ix i [D.v (.bool x25.len.s), D.v (.string x25.len.a), D.v (.string x25.len.d), D.v (.bool x25.low.s), D.v (.string x25.low.a), D.v (.string x25.low.d), D.v (.bool x25.high.s), D.v (.string x25.high.a), D.v (.string x25.high.d), D.v (.bool x25.speed.s), D.v (.string x25.speed.a), D.v (.string x25.speed.d), D.v (.bool x25.brake.s), D.v (.string x25.brake.a), D.v (.string x25.brake.d), D.list (List.map rdv x25.shape)] (by first | rfl | omega | (rw [wrap64 _ (by omega) (by omega)]; omega)) (map_at hx25) rfl ?_
      refine k_From3 (x := x25.low) (by omega) fun q28 h28 z28 => ?_
      refine k_ix i [D.v (.bool x25.len.s), D.v (.string x25.len.a), D.v (.string x25.len.d), D.v (.bool x25.low.s), D.v (.string x25.low.a), D.v (.string x25.low.d), D.v (.bool x25.high.s), D.v (.string x25.high.a), D.v (.string x25.high.d), D.v (.bool x25.speed.s), D.v (.string x25.speed.a), D.v (.string x25.speed.d), D.v (.bool x25.brake.s), D.v (.string x25.brake.a), D.v (.string x25.brake.d), D.list (List.map rdv x25.shape)] (by first | rfl | omega | (rw [wrap64 _ (by omega) (by omega)]; omega)) (map_at hx25) rfl ?_
      refine k_From3 (x := x25.high) (by omega) fun q35 h35 z35 => ?_
      refine k_From3 (x := x17) (by omega) fun q38 h38 z38 => ?_
      refine k_SHas3 (p := q28) (q := q35) (a := q38) (by omega) (by omega) (by omega) (fun b39 hk_39_1 => ?_)
      refine ⟨by kernel_rfl, ?_⟩
      refine ⟨fun e3 => ?_, fun e3 => ?_⟩
      · have f41 : ¬ (hasQ q28 q35 q38 = true) := fun hh => absurd (hh.symm.trans (hk_39_1.symm.trans (not_t e3))) (by decide)
        have hf : x17.q < x25.low.q ∨ x25.high.q < x17.q := Classical.byContradiction fun hh => f41 (hasQ_iff.2 ⟨by rw [h28, h38]; exact Rat.not_lt.1 fun h => hh (.inl h), by rw [h35, h38]; exact Rat.not_lt.1 fun h => hh (.inr h)⟩)
        have he : (17 : Int) = ffE A Q (i + 1) := (ffE_far f21 hx25 hx17 hf).symm
        refine ⟨i + 1, by omega, by simp only; omega, ?_⟩
        constructor <;> (repeat' (first | exact rfl | exact True.intro | apply And.intro))
        all_goals first
          | exact congrArg (fun n : Int => D.v (.int .i64 n)) he
          | exact congrArg (fun n : Int => D.v (.int .i64 n)) he.symm
          | exact congrArg (fun n : Int => D.v (.int .i64 n)) (by rw [wrap64 _ (by omega) (by omega)]; omega)
          | exact congrArg (fun n : Int => D.v (.int .i64 n)) (by omega)
      · have f41 : ¬ (¬ (hasQ q28 q35 q38 = true)) := fun hh => hh (hk_39_1.symm.trans (not_f e3))
        have hf : ¬ (x17.q < x25.low.q ∨ x25.high.q < x17.q) := by
          have hb := hasQ_iff.1 (Classical.not_not.1 f41)
          rw [h28, h35, h38] at hb
          rintro (h | h)
          · exact absurd hb.1 (Rat.not_le.2 h)
          · exact absurd hb.2 (Rat.not_le.2 h)
        have he : ffE A Q i = ffE A Q (i + 1) := by rw [ffE_near f21 hx25 hx17 hf, f21]
        refine ⟨i + 1, by omega, by simp only; omega, ?_⟩
        constructor <;> (repeat' (first | exact rfl | exact True.intro | apply And.intro))
        all_goals first
          | exact congrArg (fun n : Int => D.v (.int .i64 n)) he
          | exact congrArg (fun n : Int => D.v (.int .i64 n)) he.symm
          | exact congrArg (fun n : Int => D.v (.int .i64 n)) (by rw [wrap64 _ (by omega) (by omega)]; omega)
          | exact congrArg (fun n : Int => D.v (.int .i64 n)) (by omega)
    · have f21 : ¬ (ffE A Q i = 0) := beq_f e2
      refine ⟨by kernel_rfl, ?_⟩
      refine ⟨fun e => absurd e (by decide), fun _ => ?_⟩
      have he : ffE A Q i = ffE A Q (i + 1) := (ffE_no f21).symm
      refine ⟨i + 1, by omega, by simp only; omega, ?_⟩
      constructor <;> (repeat' (first | exact rfl | exact True.intro | apply And.intro))
      all_goals first
        | exact congrArg (fun n : Int => D.v (.int .i64 n)) he
        | exact congrArg (fun n : Int => D.v (.int .i64 n)) he.symm
        | exact congrArg (fun n : Int => D.v (.int .i64 n)) (by rw [wrap64 _ (by omega) (by omega)]; omega)
        | exact congrArg (fun n : Int => D.v (.int .i64 n)) (by omega)
  · have f15 : ¬ ((i : Int) < ((List.map rd Q).length : Int)) := of_decide_eq_false e1
    refine Eq.trans (b := int (ffE A Q i)) ?_ rfl
    rw [← ffE_all (n := i) (by omega)]
theorem k_RFits {A : ArmV} {Q : List RV} (hA : A.ok) (hQ : ∀ x, x ∈ Q → x.z ≤ 67108864) (hQn : Q.length ≤ 1073741824) (k : ∀ n, n = fitsE A Q → K (int n)) : Ask 136 [.val (.agg [.d (.v (.string A.name)), .d (.v (.bool A.bx.s)), .d (.v (.string A.bx.a)), .d (.v (.string A.bx.d)), .d (.v (.bool A.by'.s)), .d (.v (.string A.by'.a)), .d (.v (.string A.by'.d)), .d (.v (.bool (A.bh))), .d (.v (.bool A.bt.s)), .d (.v (.string A.bt.a)), .d (.v (.string A.bt.d)), .d (.list (List.map lk A.links))]), .val (.one (.d (.list (List.map rd Q))))] K := use (RFits_spec A Q hA hQ hQn) rfl (k _ rfl)
set_option maxHeartbeats 8000000 in
set_option maxRecDepth 100000 in
theorem RTrk_spec (A : ArmV) (t : List (Int × List RV)) (hA : A.ok) (ht : tz t) : Spec Tryz.prog Tab 63 [.val (.agg [.d (.v (.string A.name)), .d (.v (.bool A.bx.s)), .d (.v (.string A.bx.a)), .d (.v (.string A.bx.d)), .d (.v (.bool A.by'.s)), .d (.v (.string A.by'.a)), .d (.v (.string A.by'.d)), .d (.v (.bool (A.bh))), .d (.v (.bool A.bt.s)), .d (.v (.string A.bt.a)), .d (.v (.string A.bt.d)), .d (.list (List.map lk A.links))]), .val (.one (.d (.list (List.map keyD t))))] (int (trackE A t)) := by
  have hA2 := hA
  obtain ⟨z1, z2, z3, z4, z5, z6⟩ := hA
  have hL : (List.map lk A.links).length = A.links.length := List.length_map ..
  have hLt : (List.map keyD t).length = t.length := List.length_map ..
  have ht1 := ht.1
  refine fn_spec Tryz.func63 rfl rfl Tryz.ntmps63 rfl (by kernel_rfl) rfl rfl ?_
  refine k_ArmFault (A := A) (by assumption) fun n12 hk_12_1 => ?_
  refine ⟨fun e1 => ?_, fun e1 => ?_⟩
  · have f14 : n12 ≠ 0 := bne_t e1
    refine Eq.trans (b := int n12) ?_ rfl
    rw [trackE_arm (by rw [← hk_12_1]; exact f14), ← hk_12_1]
  · have f14 : ¬ (n12 ≠ 0) := fun hh => hh (bne_f e1)
    have hA0 : armE A = 0 := by rw [← hk_12_1]; exact Classical.not_not.1 f14
    refine ⟨fun e2 => ?_, fun e2 => ?_⟩
    · have f18 : ((List.map keyD t).length : Int) = 0 := beq_t e2
      refine Eq.trans (b := int 14) ?_ rfl
      rw [trackE_nil hA0 (by omega)]
    · have f18 : ¬ (((List.map keyD t).length : Int) = 0) := beq_f e2
      refine ⟨fun e3 => ?_, fun e3 => ?_⟩
      · have f21 : ((List.map keyD t).length : Int) > 60 := of_decide_eq_true e3
        refine Eq.trans (b := int 2) ?_ rfl
        rw [trackE_big hA0 (by omega) (by omega)]
      · have f21 : ¬ (((List.map keyD t).length : Int) > 60) := of_decide_eq_false e3
        refine ⟨Nat, fun i => [(1, .val (.one (.d (.list (List.map keyD t))))), (2, .val (.one (.ptr 2 0))), (22, .val (.one (.d (.list (List.map keyD t))))), (23, int ((List.map keyD t).length : Int)), (24, int (i : Int))],
          fun i => [(2, .var 32 [.d (.v (.string A.name)), .d (.v (.bool A.bx.s)), .d (.v (.string A.bx.a)), .d (.v (.string A.bx.d)), .d (.v (.bool A.by'.s)), .d (.v (.string A.by'.a)), .d (.v (.string A.by'.d)), .d (.v (.bool (A.bh))), .d (.v (.bool A.bt.s)), .d (.v (.string A.bt.a)), .d (.v (.string A.bt.d)), .d (.list (List.map lk A.links))])], fun i => i ≤ t.length ∧ ∀ j, j < i → keyE A t j = 0, fun i => t.length - i, 0, ?_, ⟨Nat.zero_le _, fun j h => by omega⟩, fun i hs => ?_⟩
        · constructor <;> (repeat' (first | exact rfl | exact True.intro | exact ⟨_, _, rfl⟩ | exact (by decide) | apply And.intro))
          all_goals first | exact congrArg (fun n : Int => D.v (.int .i64 n)) (by omega) | exact congrArg (fun n : Int => D.v (.int .i64 n)) (by rw [wrap64 _ (by omega) (by omega)]; omega) | (simp; done)
        obtain ⟨g1, h1⟩ := hs
        refine ⟨fun e4 => ?_, fun e4 => ?_⟩
        · have f25 : (i : Int) < ((List.map keyD t).length : Int) := of_decide_eq_true e4
          refine get_ex (l := t) (i := i) (by first | omega | exact Nat.mod_lt _ (by omega)) fun x27 hx27 => ?_
          have hzx27 := ht.2 x27 (List.mem_of_getElem? hx27)
          refine k_ix i [D.v (.int .i64 (x27.1)), D.list (List.map rd x27.2)] (by first | rfl | omega | (rw [wrap64 _ (by omega) (by omega)]; omega)) (map_at hx27) rfl ?_
          refine fork (fun e5 => ?_) (fun e5 => ?_)
          · have f32 : x27.1 < 0 := of_decide_eq_true e5
            refine ⟨fun _ => ?_, fun e => absurd e (by decide)⟩
            refine Eq.trans (b := int 1) ?_ rfl
            have hke : keyE A t i = 1 := (keyE_1 hx27 (by rw [key1_bad (.inl f32)]; decide)).trans (key1_bad (.inl f32))
            rw [trackE_at hA0 (by omega) (by omega) h1 (by rw [hke]; decide), hke]
          · have f32 : ¬ (x27.1 < 0) := of_decide_eq_false e5
            refine ⟨fun e6 => ?_, fun e6 => ?_⟩
            · have f36 : x27.1 > 2000 := of_decide_eq_true e6
              refine Eq.trans (b := int 1) ?_ rfl
              have hke : keyE A t i = 1 := (keyE_1 hx27 (by rw [key1_bad (.inr f36)]; decide)).trans (key1_bad (.inr f36))
              rw [trackE_at hA0 (by omega) (by omega) h1 (by rw [hke]; decide), hke]
            · have f36 : ¬ (x27.1 > 2000) := of_decide_eq_false e6
              refine k_RFits (A := A) (Q := x27.2) (by assumption) (fun x hx => Nat.le_trans (hzx27.2.2 x hx) (by decide)) (Nat.le_trans hzx27.2.1 (by decide)) fun n40 hk_40_1 => ?_
              refine ⟨fun e7 => ?_, fun e7 => ?_⟩
              · have f42 : n40 ≠ 0 := bne_t e7
                refine Eq.trans (b := int n40) ?_ rfl
                have hke : keyE A t i = n40 := by rw [keyE_1 hx27 (by rw [key1_in f32 f36, ← hk_40_1]; exact f42), key1_in f32 f36, ← hk_40_1]
                rw [trackE_at hA0 (by omega) (by omega) h1 (by rw [hke]; exact f42), hke]
              · have f42 : ¬ (n40 ≠ 0) := fun hh => hh (bne_f e7)
                have hk1 : key1 A x27 = 0 := by rw [key1_in f32 f36, ← hk_40_1]; exact Classical.not_not.1 f42
                have hkl := (fits_len (key1_ok.1 hk1).2).1
                have hkt := (key1_ok.1 hk1).1
                refine fork (fun e8 => ?_) (fun e8 => ?_)
                · have f46 : (i : Int) > 0 := of_decide_eq_true e8
                  refine get_ex (l := t) (i := (i - 1)) (by first | omega | exact Nat.mod_lt _ (by omega)) fun x52 hx52 => ?_
                  have hzx52 := ht.2 x52 (List.mem_of_getElem? hx52)
                  refine k_ix (i - 1) [D.v (.int .i64 (x52.1)), D.list (List.map rd x52.2)] (by first | rfl | omega | (rw [wrap64 _ (by omega) (by omega)]; omega)) (map_at hx52) rfl ?_
                  refine ⟨by kernel_rfl, ?_⟩
                  refine ⟨fun e9 => ?_, fun e9 => ?_⟩
                  · have f56 : x27.1 ≤ x52.1 := of_decide_eq_true e9
                    refine Eq.trans (b := int 9) ?_ rfl
                    have hke : keyE A t i = 9 := (keyE_s (by omega) hx52 hx27).trans (key2_9 hk1 f56)
                    rw [trackE_at hA0 (by omega) (by omega) h1 (by rw [hke]; decide), hke]
                  · have f56 : ¬ (x27.1 ≤ x52.1) := of_decide_eq_false e9
                    have hk0 := keyE_fits hx52 (h1 (i - 1) (by omega))
                    have hpl := (fits_len (key1_ok.1 hk0).2).1
                    have hpt := (key1_ok.1 hk0).1
                    have hw : IntKind.i64.wrap (x27.1 - x52.1) = x27.1 - x52.1 := wrap64 _ (by omega) (by omega)
                    have hLp : (List.map rd x52.2).length = x52.2.length := List.length_map ..
                    refine ⟨Nat, fun j => [(1, .val (.one (.d (.list (List.map keyD t))))), (2, .val (.one (.ptr 2 0))), (6, int (i : Int)), (7, .val (.one (.ptr 7 0))), (22, .val (.one (.d (.list (List.map keyD t))))), (23, int ((List.map keyD t).length : Int)), (24, int (i : Int)), (33, .val (.one (.ptr 7 0))), (34, int x27.1), (35, bool (decide (x27.1 > 2000))), (47, .val (.one (.ptr 7 0))), (48, int x27.1), (49, .val (.one (.d (.list (List.map keyD t))))), (50, int (i : Int)), (51, int (IntKind.i64.wrap ((i : Int) - 1))), (52, .val (.one (.ref [D.v (.int .i64 (x52.1)), D.list (List.map rd x52.2)]))), (53, .val (.one (.ref [D.v (.int .i64 (x52.1)), D.list (List.map rd x52.2)]))), (54, int x52.1), (55, bool (decide (x27.1 ≤ x52.1))), (58, .val (.one (.d (.list (List.map lk A.links))))), (59, int ((List.map lk A.links).length : Int)), (60, int (j : Int))],
                      fun j => [(2, .var 32 [.d (.v (.string A.name)), .d (.v (.bool A.bx.s)), .d (.v (.string A.bx.a)), .d (.v (.string A.bx.d)), .d (.v (.bool A.by'.s)), .d (.v (.string A.by'.a)), .d (.v (.string A.by'.d)), .d (.v (.bool (A.bh))), .d (.v (.bool A.bt.s)), .d (.v (.string A.bt.a)), .d (.v (.string A.bt.d)), .d (.list (List.map lk A.links))]), (7, .var 191 [.d (.v (.int .i64 (x27.1))), .d (.list (List.map rd x27.2))])], fun j => j ≤ A.links.length ∧ ∀ (m : Nat) (l : LinkV) (x y : RV), m < j → A.links[m]? = some l → x52.2[m]? = some x → x27.2[m]? = some y → ¬ (l.speed.q * (((x27.1 - x52.1 : Int)) : Rat) < absV (y.q - x.q)), fun j => A.links.length - j, 0, ?_, ⟨Nat.zero_le _, fun m l x y h => by omega⟩, fun j hs => ?_⟩
                    · constructor <;> (repeat' (first | exact rfl | exact True.intro | exact ⟨_, _, rfl⟩ | exact (by decide) | apply And.intro))
                      all_goals first | exact congrArg (fun n : Int => D.v (.int .i64 n)) (by omega) | exact congrArg (fun n : Int => D.v (.int .i64 n)) (by rw [wrap64 _ (by omega) (by omega)]; omega) | (simp; done)
                    obtain ⟨g3, g4⟩ := hs
                    refine ⟨fun e10 => ?_, fun e10 => ?_⟩
                    · have f61 : (j : Int) < ((List.map lk A.links).length : Int) := of_decide_eq_true e10
                      refine get_ex (l := A.links) (i := j) (by first | omega | exact Nat.mod_lt _ (by omega)) fun x63 hx63 => ?_
                      obtain ⟨hs1x63, hs2x63, hs3x63, hs4x63, hs5, hs6, hs7⟩ := z6 x63 (List.mem_of_getElem? hx63)
                      refine k_ix j [D.v (.bool x63.len.s), D.v (.string x63.len.a), D.v (.string x63.len.d), D.v (.bool x63.low.s), D.v (.string x63.low.a), D.v (.string x63.low.d), D.v (.bool x63.high.s), D.v (.string x63.high.a), D.v (.string x63.high.d), D.v (.bool x63.speed.s), D.v (.string x63.speed.a), D.v (.string x63.speed.d), D.v (.bool x63.brake.s), D.v (.string x63.brake.a), D.v (.string x63.brake.d), D.list (List.map rdv x63.shape)] (by first | rfl | omega | (rw [wrap64 _ (by omega) (by omega)]; omega)) (map_at hx63) rfl ?_
                      refine fork (fun e11 => ?_) (fun e11 => ?_)
                      · have f67 : (i : Int) > 0 := of_decide_eq_true e11
                        refine get_ex (l := x27.2) (i := j) (by first | omega | exact Nat.mod_lt _ (by omega)) fun x71 hx71 => ?_
                        have hzx71 := hzx27.2.2 x71 (List.mem_of_getElem? hx71)
                        refine k_ix j [D.v (.bool x71.s), D.v (.string x71.a), D.v (.string x71.d)] (by first | rfl | omega | (rw [wrap64 _ (by omega) (by omega)]; omega)) (map_at hx71) rfl ?_
                        refine k_From3 (x := x71) (by omega) fun q73 h73 z73 => ?_
                        refine k_ix (i - 1) [D.v (.int .i64 (x52.1)), D.list (List.map rd x52.2)] (by first | rfl | omega | (rw [wrap64 _ (by omega) (by omega)]; omega)) (map_at hx52) rfl ?_
                        refine get_ex (l := x52.2) (i := j) (by first | omega | exact Nat.mod_lt _ (by omega)) fun x81 hx81 => ?_
                        have hzx81 := hzx52.2.2 x81 (List.mem_of_getElem? hx81)
                        refine k_ix j [D.v (.bool x81.s), D.v (.string x81.a), D.v (.string x81.d)] (by first | rfl | omega | (rw [wrap64 _ (by omega) (by omega)]; omega)) (map_at hx81) rfl ?_
                        refine k_From3 (x := x81) (by omega) fun q83 h83 z83 => ?_
                        refine k_Sub3 (p := q73) (q := q83) (by omega) (by omega) fun q84 h84 z84 => ?_
                        refine k_absV3 (q := q84)  (fun r85 hk_85_1 hk_85_2 => ?_)
                        refine k_From3 (x := x63.speed) (by omega) fun q88 h88 z88 => ?_
                        refine k_ix (i - 1) [D.v (.int .i64 (x52.1)), D.list (List.map rd x52.2)] (by first | rfl | omega | (rw [wrap64 _ (by omega) (by omega)]; omega)) (map_at hx52) rfl ?_
                        refine k_N3 (IntKind.i64.wrap (x27.1 - x52.1)) (by omega) (by omega) fun q98 h98 z98 => ?_
                        refine k_Mul3 (p := q88) (q := q98) (by omega) (by omega) fun q99 h99 z99 => ?_
                        refine k_Cmp3 (p := r85) (q := q99) (by omega) (by omega) fun n100 h100 => ?_
                        refine ⟨by kernel_rfl, ?_⟩
                        refine ⟨fun e12 => ?_, fun e12 => ?_⟩
                        · have f102 : q99 < r85 := (c3_gt h100).1 (of_decide_eq_true e12)
                          refine Eq.trans (b := int 19) ?_ rfl
                          have hke : keyE A t i = 19 := (keyE_s (by omega) hx52 hx27).trans (key2_19 hk1 f56 ⟨j, x63, x81, x71, hx63, hx81, hx71, by rw [h99, h88, h98, hw, hk_85_1, h84, h73, h83] at f102; exact f102⟩)
                          rw [trackE_at hA0 (by omega) (by omega) h1 (by rw [hke]; decide), hke]
                        · have f102 : ¬ (q99 < r85) := fun hh => of_decide_eq_false e12 ((c3_gt h100).2 hh)
                          refine ⟨j + 1, ⟨by omega, fun m l x y hj hl hx hy => by
                            by_cases e : m = j
                            · subst e
                              obtain rfl := Option.some.inj (hx63.symm.trans hl)
                              obtain rfl := Option.some.inj (hx81.symm.trans hx)
                              obtain rfl := Option.some.inj (hx71.symm.trans hy)
                              rw [h99, h88, h98, hw, hk_85_1, h84, h73, h83] at f102; exact f102
                            · exact g4 m l x y (by omega) hl hx hy⟩, by simp only; omega, ?_⟩
                          constructor <;> (repeat' (first | exact rfl | exact True.intro | apply And.intro))
                          all_goals first
                            | exact congrArg (fun n : Int => D.v (.int .i64 n)) (by rw [wrap64 _ (by omega) (by omega)]; omega)
                            | exact congrArg (fun n : Int => D.v (.int .i64 n)) (by omega)
                      · have f67 : ¬ ((i : Int) > 0) := of_decide_eq_false e11
                        exfalso
                        exact f67 f46
                    · have f61 : ¬ ((j : Int) < ((List.map lk A.links).length : Int)) := of_decide_eq_false e10
                      have hnf : ¬ fastP A x52 x27 := by
                        rintro ⟨m, l, x, y, hl, hx, hy, hh⟩
                        exact g4 m l x y (by have := (List.getElem?_eq_some_iff.1 hl).1; omega) hl hx hy hh
                      have hke : keyE A t i = 0 := (keyE_s (by omega) hx52 hx27).trans (key2_0 hk1 f56 hnf)
                      refine ⟨i + 1, ⟨by omega, fun j hj => by
                        by_cases e : j = i
                        · rw [e]; exact hke
                        · exact h1 j (by omega)⟩, by simp only; omega, ?_⟩
                      constructor <;> (repeat' (first | exact rfl | exact True.intro | apply And.intro))
                      all_goals first
                        | exact congrArg (fun n : Int => D.v (.int .i64 n)) (by rw [wrap64 _ (by omega) (by omega)]; omega)
                        | exact congrArg (fun n : Int => D.v (.int .i64 n)) (by omega)
                · have f46 : ¬ ((i : Int) > 0) := of_decide_eq_false e8
                  refine ⟨by kernel_rfl, ?_⟩
                  refine ⟨fun e => absurd e (by decide), fun _ => ?_⟩
                  refine ⟨Nat, fun j => [(1, .val (.one (.d (.list (List.map keyD t))))), (2, .val (.one (.ptr 2 0))), (6, int (i : Int)), (7, .val (.one (.ptr 7 0))), (22, .val (.one (.d (.list (List.map keyD t))))), (23, int ((List.map keyD t).length : Int)), (24, int (i : Int)), (33, .val (.one (.ptr 7 0))), (34, int x27.1), (35, bool (decide (x27.1 > 2000))), (47, .tup []), (48, .tup []), (49, .tup []), (50, .tup []), (51, .tup []), (52, .tup []), (53, .tup []), (54, .tup []), (55, .tup []), (58, .val (.one (.d (.list (List.map lk A.links))))), (59, int ((List.map lk A.links).length : Int)), (60, int (j : Int))],
                    fun j => [(2, .var 32 [.d (.v (.string A.name)), .d (.v (.bool A.bx.s)), .d (.v (.string A.bx.a)), .d (.v (.string A.bx.d)), .d (.v (.bool A.by'.s)), .d (.v (.string A.by'.a)), .d (.v (.string A.by'.d)), .d (.v (.bool (A.bh))), .d (.v (.bool A.bt.s)), .d (.v (.string A.bt.a)), .d (.v (.string A.bt.d)), .d (.list (List.map lk A.links))]), (7, .var 191 [.d (.v (.int .i64 (x27.1))), .d (.list (List.map rd x27.2))])], fun j => j ≤ A.links.length, fun j => A.links.length - j, 0, ?_, Nat.zero_le _, fun j hs => ?_⟩
                  · constructor <;> (repeat' (first | exact rfl | exact True.intro | exact ⟨_, _, rfl⟩ | exact (by decide) | apply And.intro))
                    all_goals first | exact congrArg (fun n : Int => D.v (.int .i64 n)) (by omega) | exact congrArg (fun n : Int => D.v (.int .i64 n)) (by rw [wrap64 _ (by omega) (by omega)]; omega) | (simp; done)
                  refine ⟨fun e13 => ?_, fun e13 => ?_⟩
                  · have f61 : (j : Int) < ((List.map lk A.links).length : Int) := of_decide_eq_true e13
                    refine get_ex (l := A.links) (i := j) (by first | omega | exact Nat.mod_lt _ (by omega)) fun x63 hx63 => ?_
                    obtain ⟨hs1x63, hs2x63, hs3x63, hs4x63, hs5, hs6, hs7⟩ := z6 x63 (List.mem_of_getElem? hx63)
                    refine k_ix j [D.v (.bool x63.len.s), D.v (.string x63.len.a), D.v (.string x63.len.d), D.v (.bool x63.low.s), D.v (.string x63.low.a), D.v (.string x63.low.d), D.v (.bool x63.high.s), D.v (.string x63.high.a), D.v (.string x63.high.d), D.v (.bool x63.speed.s), D.v (.string x63.speed.a), D.v (.string x63.speed.d), D.v (.bool x63.brake.s), D.v (.string x63.brake.a), D.v (.string x63.brake.d), D.list (List.map rdv x63.shape)] (by first | rfl | omega | (rw [wrap64 _ (by omega) (by omega)]; omega)) (map_at hx63) rfl ?_
                    refine fork (fun e14 => ?_) (fun e14 => ?_)
                    · have f67 : (i : Int) > 0 := of_decide_eq_true e14
                      exfalso
                      exact f46 f67
                    · have f67 : ¬ ((i : Int) > 0) := of_decide_eq_false e14
                      refine ⟨by kernel_rfl, ?_⟩
                      refine ⟨fun e => absurd e (by decide), fun _ => ?_⟩
                      refine ⟨j + 1, by omega, by simp only; omega, ?_⟩
                      constructor <;> (repeat' (first | exact rfl | exact True.intro | apply And.intro))
                      all_goals first
                        | exact congrArg (fun n : Int => D.v (.int .i64 n)) (by rw [wrap64 _ (by omega) (by omega)]; omega)
                        | exact congrArg (fun n : Int => D.v (.int .i64 n)) (by omega)
                  · have f61 : ¬ ((j : Int) < ((List.map lk A.links).length : Int)) := of_decide_eq_false e13
                    have hke : keyE A t i = 0 := by
                      obtain rfl : i = 0 := by omega
                      rw [keyE_0 hx27, hk1]
                    refine ⟨i + 1, ⟨by omega, fun j hj => by
                      by_cases e : j = i
                      · rw [e]; exact hke
                      · exact h1 j (by omega)⟩, by simp only; omega, ?_⟩
                    constructor <;> (repeat' (first | exact rfl | exact True.intro | apply And.intro))
                    all_goals first
                      | exact congrArg (fun n : Int => D.v (.int .i64 n)) (by rw [wrap64 _ (by omega) (by omega)]; omega)
                      | exact congrArg (fun n : Int => D.v (.int .i64 n)) (by omega)
        · have f25 : ¬ ((i : Int) < ((List.map keyD t).length : Int)) := of_decide_eq_false e4
          refine Eq.trans (b := int 0) ?_ rfl
          rw [trackE_ok hA0 (by omega) (by omega) fun j hj => h1 j (by omega)]
theorem k_RTrk {A : ArmV} {t : List (Int × List RV)} (hA : A.ok) (ht : tz t) (k : ∀ n, n = trackE A t → K (int n)) : Ask 63 [.val (.agg [.d (.v (.string A.name)), .d (.v (.bool A.bx.s)), .d (.v (.string A.bx.a)), .d (.v (.string A.bx.d)), .d (.v (.bool A.by'.s)), .d (.v (.string A.by'.a)), .d (.v (.string A.by'.d)), .d (.v (.bool (A.bh))), .d (.v (.bool A.bt.s)), .d (.v (.string A.bt.a)), .d (.v (.string A.bt.d)), .d (.list (List.map lk A.links))]), .val (.one (.d (.list (List.map keyD t))))] K := use (RTrk_spec A t hA ht) rfl (k _ rfl)
end
end Go.Proofs.YtjhoddlhdoiifaaGreatDoor.eng

