/- Contracts: columns of the Jacobian, ranks: package single, gantref3. Printed by wip/gp_single.py. -/
import Derived.Test.YtjhoddlhdoiifaaGreatDoorForeA
namespace Go.Proofs.YtjhoddlhdoiifaaGreatDoor.eng
open Go.RowKit num mem seg q held ratA ratB ratC ratD ratE vars ratF trq
section
variable {K : AV → Prop}
theorem turn_z2 {f : RF} {t : Rat} {a : Nat} (hc : qs f.c ≤ a) (hs : qs f.s ≤ a) (ht : qs t ≤ 1048576) : qs (turnF f t).c ≤ 2 * a + 8388677 ∧ qs (turnF f t).s ≤ 2 * a + 8388677 := by
  obtain ⟨c1, c2⟩ := qs_cs t
  have := qs_mul f.c (cosq false t)
  have := qs_mul f.s (sinq t)
  have := qs_mul f.s (cosq false t)
  have := qs_mul f.c (sinq t)
  have := qs_sub (f.c * cosq false t) (f.s * sinq t)
  have := qs_add (f.s * cosq false t) (f.c * sinq t)
  exact ⟨by show qs (f.c * cosq false t - f.s * sinq t) ≤ _; omega, by show qs (f.s * cosq false t + f.c * sinq t) ≤ _; omega⟩
theorem qAt_z2 {Q : List RV} (hQ : ∀ x, x ∈ Q → x.z ≤ 1048576) (i : Nat) : qs (qAt Q i) ≤ 1048576 := by
  unfold qAt
  cases h : Q[i]? with
  | none => show qs z0.q ≤ _; decide +kernel
  | some x =>
    have := hQ x (List.mem_of_getElem? h)
    have := x.qs_le
    show qs x.q ≤ _; omega
theorem chain_z2 {A : ArmV} {Q : List RV} (hA : armE A = 0) (hQ : ∀ x, x ∈ Q → x.z ≤ 1048576) :
    ∀ i, i ≤ 3 → (qs (endF A Q i).x ≤ 92276478 ∧ qs (endF A Q i).y ≤ 92276478) ∧ (i < 3 → qs (linkF A Q i).x ≤ 92276478 ∧ qs (linkF A Q i).y ≤ 92276478) := by
  obtain ⟨b1, b2, b3, b4⟩ := base_z hA
  have t0 := turn_z2 (t := qAt Q 0) b3 b4 (qAt_z2 hQ 0)
  have l0 := long_z (f := linkF A Q 0) (l := lenAt A 0) (b := 4) b1 b2 t0.1 t0.2 (lenAt_z hA 0)
  have t1 := turn_z2 (f := endF A Q 1) (t := qAt Q 1) t0.1 t0.2 (qAt_z2 hQ 1)
  have l1 := long_z (f := linkF A Q 1) (l := lenAt A 1) l0.1 l0.2 t1.1 t1.2 (lenAt_z hA 1)
  have t2 := turn_z2 (f := endF A Q 2) (t := qAt Q 2) t1.1 t1.2 (qAt_z2 hQ 2)
  have l2 := long_z (f := linkF A Q 2) (l := lenAt A 2) l1.1 l1.2 t2.1 t2.2 (lenAt_z hA 2)
  have up : ∀ {n a b : Nat}, n ≤ a → a ≤ b → n ≤ b := fun h g => Nat.le_trans h g
  intro i hi
  rcases (show i = 0 ∨ i = 1 ∨ i = 2 ∨ i = 3 by omega) with rfl | rfl | rfl | rfl
  · exact ⟨⟨up b1 (by omega), up b2 (by omega)⟩, fun _ => ⟨up b1 (by omega), up b2 (by omega)⟩⟩
  · exact ⟨⟨up l0.1 (by omega), up l0.2 (by omega)⟩, fun _ => ⟨up l0.1 (by omega), up l0.2 (by omega)⟩⟩
  · exact ⟨⟨up l1.1 (by omega), up l1.2 (by omega)⟩, fun _ => ⟨up l1.1 (by omega), up l1.2 (by omega)⟩⟩
  · exact ⟨⟨up l2.1 (by omega), up l2.2 (by omega)⟩, fun h => absurd h (by omega)⟩
/-- a column of the Jacobian -/
def colF (A : ArmV) (Q : List RV) (i : Nat) : Rat × Rat := (-((endF A Q A.links.length).y - (linkF A Q i).y), (endF A Q A.links.length).x - (linkF A Q i).x)
def colsF (A : ArmV) (Q : List RV) (n : Nat) : List (Rat × Rat) := (List.range n).map (colF A Q)
theorem colsF_len (A : ArmV) (Q : List RV) (n : Nat) : (colsF A Q n).length = n := by simp [colsF]
theorem colsF_snoc {α : Type} (g : Rat × Rat → α) (A : ArmV) (Q : List RV) (i : Nat) : List.map g (colsF A Q (i + 1)) = List.map g (colsF A Q i) ++ [g (colF A Q i)] := by
  simp [colsF, List.range_succ]
theorem colsF_at {A : ArmV} {Q : List RV} {n i : Nat} {p : Rat × Rat} (h : (colsF A Q n)[i]? = some p) : p = colF A Q i ∧ i < n := by
  have hi := (List.getElem?_eq_some_iff.1 h).1
  rw [colsF_len] at hi
  simp [colsF, hi] at h
  exact ⟨h.symm, hi⟩
theorem colF_z {A : ArmV} {Q : List RV} (hA : armE A = 0) (hQ : ∀ x, x ∈ Q → x.z ≤ 1048576) {i : Nat} (hi : i < A.links.length) : qs (colF A Q i).1 ≤ 184552957 ∧ qs (colF A Q i).2 ≤ 184552957 := by
  have hn := (armE_ok hA).1
  obtain ⟨⟨a1, a2⟩, _⟩ := chain_z2 hA hQ A.links.length hn
  obtain ⟨_, b⟩ := chain_z2 hA hQ i (by omega)
  obtain ⟨b1, b2⟩ := b (by omega)
  have := qs_sub (endF A Q A.links.length).y (linkF A Q i).y
  have := qs_sub (endF A Q A.links.length).x (linkF A Q i).x
  have := qs_neg ((endF A Q A.links.length).y - (linkF A Q i).y)
  exact ⟨by show qs (-((endF A Q A.links.length).y - (linkF A Q i).y)) ≤ _; omega, by show qs ((endF A Q A.links.length).x - (linkF A Q i).x) ≤ _; omega⟩
open Classical in
noncomputable def colsV (A : ArmV) (Q : List RV) : List (Rat × Rat) := if hasE A (Q.length : Int) = 0 then colsF A Q A.links.length else []
theorem colsV_ok {A : ArmV} {Q : List RV} (h : hasE A (Q.length : Int) = 0) : colsV A Q = colsF A Q A.links.length := if_pos h
/-! ### ranks -/
set_option maxHeartbeats 2000000 in
set_option maxRecDepth 100000 in
theorem RCols_spec (A : ArmV) (Q : List RV) (hA : A.ok) (hA0 : armE A = 0) (hlen : Q.length = A.links.length) (hQ : ∀ x, x ∈ Q → x.z ≤ 1048576) : Spec Tryz.prog Tab 42 [.val (.agg [.d (.v (.string A.name)), .d (.v (.bool A.bx.s)), .d (.v (.string A.bx.a)), .d (.v (.string A.bx.d)), .d (.v (.bool A.by'.s)), .d (.v (.string A.by'.a)), .d (.v (.string A.by'.d)), .d (.v (.bool (A.bh))), .d (.v (.bool A.bt.s)), .d (.v (.string A.bt.a)), .d (.v (.string A.bt.d)), .d (.list (List.map lk A.links))]), .val (.one (.d (.list (List.map rd Q))))] (.val (.one (.d (.list (List.map rqP (colsF A Q A.links.length)))))) := by
  have hA2 := hA
  have hL : (List.map lk A.links).length = A.links.length := List.length_map ..
  have hLq : (List.map rd Q).length = Q.length := List.length_map ..
  have hQ1 : ∀ x, x ∈ Q → x.z ≤ 2097151 := fun x hx => Nat.le_trans (hQ x hx) (by decide)
  have hn3 := (armE_ok hA0).1
  have hLv : (List.map rqF (framesF A Q)).length = (framesF A Q).length := List.length_map ..
  have hLf := framesF_len A Q
  have htk : (framesF A Q).take ((framesF A Q).length - 1) = linksF A Q A.links.length := by rw [hLf]; exact framesF_take A Q
  have hLl : (List.map rqF (linksF A Q A.links.length)).length = A.links.length := by rw [List.length_map, linksF_len]
  have hLl2 := linksF_len A Q A.links.length
  refine fn_spec Tryz.func42 rfl rfl Tryz.ntmps42 rfl (by kernel_rfl) rfl rfl ?_
  refine k_RFrames (A := A) (Q := Q) (by assumption) hA0 hlen (by assumption) ?_
  refine get_ex (l := (framesF A Q)) (i := ((framesF A Q).length - 1)) (by first | omega | exact Nat.mod_lt _ (by omega)) fun x17 hx17 => ?_
  have hxt : x17 = endF A Q A.links.length := framesF_last (by rw [show A.links.length = (framesF A Q).length - 1 from by omega]; exact hx17)
  have hzt := (chain_z2 hA0 hQ A.links.length hn3).1
  rw [← hxt] at hzt
  refine k_ix ((framesF A Q).length - 1) [D.v (.bool (decide (x17.x.num < 0))), D.list (W (w32 x17.x.num.natAbs)), D.list (W (w32 x17.x.den)), D.v (.bool (decide (x17.y.num < 0))), D.list (W (w32 x17.y.num.natAbs)), D.list (W (w32 x17.y.den)), D.v (.bool (decide (x17.c.num < 0))), D.list (W (w32 x17.c.num.natAbs)), D.list (W (w32 x17.c.den)), D.v (.bool (decide (x17.s.num < 0))), D.list (W (w32 x17.s.num.natAbs)), D.list (W (w32 x17.s.den))] (by first | rfl | omega | (rw [wrap64 _ (by omega) (by omega)]; omega)) (map_at hx17) rfl ?_
  refine k_take ((framesF A Q).length - 1) (List.map rqF (linksF A Q A.links.length)) (by first | omega | (simp; omega) | simp) (by first | rfl | omega | (rw [wrap64 _ (by omega) (by omega)]; omega)) (map_rows fun _ => rfl) ((by rw [← htk]; exact List.map_take.symm)) ?_
  refine ⟨Nat, fun i => [(6, .val (.one (.ptr 6 0))), (7, .val (.one (.row 42 0))), (23, .val (.one (.d (.list (List.map rqF (linksF A Q A.links.length)))))), (24, int ((List.map rqF (linksF A Q A.links.length)).length : Int)), (25, int (i : Int))],
    fun i => [(6, .var 64 [.d (.v (.bool (decide (x17.x.num < 0)))), .d (.list (W (w32 x17.x.num.natAbs))), .d (.list (W (w32 x17.x.den))), .d (.v (.bool (decide (x17.y.num < 0)))), .d (.list (W (w32 x17.y.num.natAbs))), .d (.list (W (w32 x17.y.den))), .d (.v (.bool (decide (x17.c.num < 0)))), .d (.list (W (w32 x17.c.num.natAbs))), .d (.list (W (w32 x17.c.den))), .d (.v (.bool (decide (x17.s.num < 0)))), .d (.list (W (w32 x17.s.num.natAbs))), .d (.list (W (w32 x17.s.den)))]), (42, .row 168 6 0 (List.map rqP (colsF A Q i)) true)], fun i => i ≤ A.links.length, fun i => A.links.length - i, 0, ?_, Nat.zero_le _, fun i hs => ?_⟩
  · constructor <;> (repeat' (first | exact rfl | exact True.intro | exact ⟨_, _, rfl⟩ | exact (by decide) | apply And.intro))
    all_goals first | exact congrArg (fun n : Int => D.v (.int .i64 n)) (by omega) | exact congrArg (fun n : Int => D.v (.int .i64 n)) (by rw [wrap64 _ (by omega) (by omega)]; omega) | (simp; done)
  have hT : (List.map rqP (colsF A Q i)).length ≤ 3 := by rw [List.length_map, colsF_len]; omega
  refine ⟨fun e1 => ?_, fun e1 => ?_⟩
  · have f26 : (i : Int) < ((List.map rqF (linksF A Q A.links.length)).length : Int) := of_decide_eq_true e1
    refine get_ex (l := (linksF A Q A.links.length)) (i := i) (by first | omega | exact Nat.mod_lt _ (by omega)) fun x27 hx27 => ?_
    have hxl : x27 = linkF A Q i := (linksF_at hx27).1
    have hzl := (chain_z2 hA0 hQ i (by omega)).2 (by omega)
    rw [← hxl] at hzl
    refine k_ix i [D.v (.bool (decide (x27.x.num < 0))), D.list (W (w32 x27.x.num.natAbs)), D.list (W (w32 x27.x.den)), D.v (.bool (decide (x27.y.num < 0))), D.list (W (w32 x27.y.num.natAbs)), D.list (W (w32 x27.y.den)), D.v (.bool (decide (x27.c.num < 0))), D.list (W (w32 x27.c.num.natAbs)), D.list (W (w32 x27.c.den)), D.v (.bool (decide (x27.s.num < 0))), D.list (W (w32 x27.s.num.natAbs)), D.list (W (w32 x27.s.den))] (by first | rfl | omega | (rw [wrap64 _ (by omega) (by omega)]; omega)) (map_at hx27) rfl ?_
    refine k_Sub3 (p := x27.y) (q := x17.y) (by omega) (by omega) fun q34 h34 z34 => ?_
    refine k_Sub3 (p := x17.x) (q := x27.x) (by omega) (by omega) fun q39 h39 z39 => ?_
    refine ⟨⟨row1 rfl, (by show ((List.map rqP (colsF A Q i)).length + 1) * 112 ≤ _; omega), (by show ((List.map rqP (colsF A Q i)).length + 1) ≤ _; omega)⟩, ?_⟩
    refine ⟨by kernel_rfl, ?_⟩
    have ec1 : q34 = (colF A Q i).1 := by rw [h34, hxt, hxl]; show _ = -((endF A Q A.links.length).y - (linkF A Q i).y); grind
    have ec2 : q39 = (colF A Q i).2 := by rw [h39, hxt, hxl]; rfl
    clear h34 h39
    subst ec1 ec2
    refine ⟨i + 1, by omega, by simp only; omega, ?_⟩
    constructor <;> (repeat' (first | exact rfl | exact True.intro | apply And.intro))
    all_goals first
      | (rw [colsF_snoc]; rfl)
      | exact congrArg (fun n : Int => D.v (.int .i64 n)) (by rw [wrap64 _ (by omega) (by omega)]; omega)
      | exact congrArg (fun n : Int => D.v (.int .i64 n)) (by omega)
  · have f26 : ¬ ((i : Int) < ((List.map rqF (linksF A Q A.links.length)).length : Int)) := of_decide_eq_false e1
    refine Eq.trans (b := .val (.one (.d (.list (List.map rqP (colsF A Q i)))))) ?_ rfl
    obtain rfl : i = A.links.length := by omega
    rfl
theorem k_RCols {A : ArmV} {Q : List RV} (hA : A.ok) (hA0 : armE A = 0) (hlen : Q.length = A.links.length) (hQ : ∀ x, x ∈ Q → x.z ≤ 1048576) (k : K (.val (.one (.d (.list (List.map rqP (colsF A Q A.links.length))))))) : Ask 42 [.val (.agg [.d (.v (.string A.name)), .d (.v (.bool A.bx.s)), .d (.v (.string A.bx.a)), .d (.v (.string A.bx.d)), .d (.v (.bool A.by'.s)), .d (.v (.string A.by'.a)), .d (.v (.string A.by'.d)), .d (.v (.bool (A.bh))), .d (.v (.bool A.bt.s)), .d (.v (.string A.bt.a)), .d (.v (.string A.bt.d)), .d (.list (List.map lk A.links))]), .val (.one (.d (.list (List.map rd Q))))] K := use (RCols_spec A Q hA hA0 hlen hQ) rfl k
end
end Go.Proofs.YtjhoddlhdoiifaaGreatDoor.eng
