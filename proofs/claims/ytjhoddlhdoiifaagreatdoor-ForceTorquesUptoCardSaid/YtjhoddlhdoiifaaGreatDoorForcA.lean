/- Contracts: torques: package force, gantref3. Printed by wip/gp_force.py. -/
import Derived.Test.YtjhoddlhdoiifaaGreatDoorSingA
import Derived.Test.YtjhoddlhdoiifaaGreatDoorGrpX
namespace Go.Proofs.YtjhoddlhdoiifaaGreatDoor.eng
open Go.RowKit num mem seg q held ratA ratB ratC ratD ratE vars ratF trq
section
variable {K : AV → Prop}
/-- a torque -/
def torF (A : ArmV) (Q : List RV) (fx fy : Rat) (i : Nat) : Rat := ((endF A Q A.links.length).x - (linkF A Q i).x) * fy - ((endF A Q A.links.length).y - (linkF A Q i).y) * fx
def torsF (A : ArmV) (Q : List RV) (fx fy : Rat) (n : Nat) : List Rat := (List.range n).map (torF A Q fx fy)
theorem torsF_len (A : ArmV) (Q : List RV) (fx fy : Rat) (n : Nat) : (torsF A Q fx fy n).length = n := by simp [torsF]
theorem torsF_snoc {α : Type} (g : Rat → α) (A : ArmV) (Q : List RV) (fx fy : Rat) (i : Nat) : List.map g (torsF A Q fx fy (i + 1)) = List.map g (torsF A Q fx fy i) ++ [g (torF A Q fx fy i)] := by
  simp [torsF, List.range_succ]
theorem torsF_at {A : ArmV} {Q : List RV} {fx fy : Rat} {n i : Nat} {p : Rat} (h : (torsF A Q fx fy n)[i]? = some p) : p = torF A Q fx fy i ∧ i < n := by
  have hi := (List.getElem?_eq_some_iff.1 h).1
  rw [torsF_len] at hi
  simp [torsF, hi] at h
  exact ⟨h.symm, hi⟩
theorem torF_z {A : ArmV} {Q : List RV} (hA : armE A = 0) (hQ : ∀ x, x ∈ Q → x.z ≤ 1048576) {fx fy : Rat} (hx : qs fx ≤ 1048577) (hy : qs fy ≤ 1048577) {i : Nat} (hi : i < A.links.length) : qs (torF A Q fx fy i) ≤ 371203069 := by
  have hn := (armE_ok hA).1
  obtain ⟨⟨a1, a2⟩, _⟩ := chain_z2 hA hQ A.links.length hn
  obtain ⟨_, b⟩ := chain_z2 hA hQ i (by omega)
  obtain ⟨b1, b2⟩ := b (by omega)
  have := qs_sub (endF A Q A.links.length).y (linkF A Q i).y
  have := qs_sub (endF A Q A.links.length).x (linkF A Q i).x
  have := qs_mul ((endF A Q A.links.length).x - (linkF A Q i).x) fy
  have := qs_mul ((endF A Q A.links.length).y - (linkF A Q i).y) fx
  have := qs_sub (((endF A Q A.links.length).x - (linkF A Q i).x) * fy) (((endF A Q A.links.length).y - (linkF A Q i).y) * fx)
  unfold torF; omega
open Classical in
noncomputable def torsV (A : ArmV) (Q : List RV) (fx fy : Rat) : List Rat := if hasE A (Q.length : Int) = 0 then torsF A Q fx fy A.links.length else []
theorem torsV_ok {A : ArmV} {Q : List RV} {fx fy : Rat} (h : hasE A (Q.length : Int) = 0) : torsV A Q fx fy = torsF A Q fx fy A.links.length := if_pos h
theorem torsV_no {A : ArmV} {Q : List RV} {fx fy : Rat} (h : ¬ hasE A (Q.length : Int) = 0) : torsV A Q fx fy = [] := if_neg h
/-- the power of the first joints -/
def powF (A : ArmV) (Q : List RV) (fx fy : Rat) (R : List RV) : Nat → Rat
  | 0 => ((0 : Int) : Rat)
  | i + 1 => powF A Q fx fy R i + torF A Q fx fy i * qAt R i
theorem powF_z {A : ArmV} {Q R : List RV} (hA : armE A = 0) (hQ : ∀ x, x ∈ Q → x.z ≤ 1048576) (hR : ∀ x, x ∈ R → x.z ≤ 1048576) {fx fy : Rat} (hx : qs fx ≤ 1048577) (hy : qs fy ≤ 1048577) : ∀ i, i ≤ A.links.length → qs (powF A Q fx fy R i) ≤ 1 + 372251647 * i
  | 0, _ => (by decide +kernel : qs ((0 : Int) : Rat) ≤ 1 + 372251647 * 0)
  | i + 1, h => by
    have h1 := powF_z hA hQ hR hx hy i (by omega)
    have h2 := torF_z hA hQ hx hy (i := i) (by omega)
    have h3 := qAt_z2 hR i
    have h4 := qs_mul (torF A Q fx fy i) (qAt R i)
    have h5 := qs_add (powF A Q fx fy R i) (torF A Q fx fy i * qAt R i)
    show qs (powF A Q fx fy R i + torF A Q fx fy i * qAt R i) ≤ _
    omega
open Classical in
noncomputable def powE (A : ArmV) (Q R : List RV) : Int := if hasE A (Q.length : Int) = 0 then (if R.length = Q.length then 0 else 1) else hasE A (Q.length : Int)
open Classical in
noncomputable def powN (A : ArmV) (Q : List RV) (fx fy : Rat) (R : List RV) : RV := if hasE A (Q.length : Int) = 0 ∧ R.length = Q.length then cn (powF A Q fx fy R A.links.length) else z0
set_option maxHeartbeats 2000000 in
set_option maxRecDepth 100000 in
theorem Tors_spec (A : ArmV) (Q : List RV) (x y : RV) (hA : A.ok) (hQ : ∀ x, x ∈ Q → x.z ≤ 1048576) (hx : x.z ≤ 1048576) (hy : y.z ≤ 1048576) : Spec Tryz.prog Tab 45 [.val (.agg [.d (.v (.string A.name)), .d (.v (.bool A.bx.s)), .d (.v (.string A.bx.a)), .d (.v (.string A.bx.d)), .d (.v (.bool A.by'.s)), .d (.v (.string A.by'.a)), .d (.v (.string A.by'.d)), .d (.v (.bool (A.bh))), .d (.v (.bool A.bt.s)), .d (.v (.string A.bt.a)), .d (.v (.string A.bt.d)), .d (.list (List.map lk A.links))]), .val (.one (.d (.list (List.map rd Q)))), pair x y] (.tup [.one (.d (.list (List.map rdc (torsV A Q x.q y.q)))), .one (.d (.v (.int .i64 (hasE A (Q.length : Int)))))]) := by
  have hA2 := hA
  have hL : (List.map lk A.links).length = A.links.length := List.length_map ..
  have hLq : (List.map rd Q).length = Q.length := List.length_map ..
  have hQ1 : ∀ x, x ∈ Q → x.z ≤ 2097151 := fun x hx => Nat.le_trans (hQ x hx) (by decide)
  refine fn_spec Tryz.func45 rfl rfl Tryz.ntmps45 rfl (by kernel_rfl) rfl rfl ?_
  refine k_Frames (A := A) (Q := Q) (by assumption) (by assumption) fun n17 hk_17_1 => ?_
  refine ⟨fun e1 => ?_, fun e1 => ?_⟩
  · have f21 : n17 ≠ 0 := bne_t e1
    refine Eq.trans (b := .tup [.one (.d (.list ([]))), .one (.d (.v (.int .i64 (n17))))]) ?_ rfl
    rw [torsV_no (by rw [← hk_17_1]; exact f21), ← hk_17_1]
    all_goals rfl
  · have f21 : ¬ (n17 ≠ 0) := fun hh => hh (bne_f e1)
    have h0 : hasE A (Q.length : Int) = 0 := by rw [← hk_17_1]; exact Classical.not_not.1 f21
    have hA0 := (hasE_ok.1 h0).1
    have hlen0 := (hasE_ok.1 h0).2
    have hlen : Q.length = A.links.length := by omega
    have hn3 := (armE_ok hA0).1
    have hLv : (List.map rdF (framesV A Q)).length = (framesV A Q).length := List.length_map ..
    have hLf : (framesV A Q).length = A.links.length + 1 := by rw [framesV_ok h0, framesF_len]
    have htk : (framesV A Q).take ((framesV A Q).length - 1) = linksF A Q A.links.length := by rw [hLf, framesV_ok h0]; exact framesF_take A Q
    have hLl : (List.map rdF (linksF A Q A.links.length)).length = A.links.length := by rw [List.length_map, linksF_len]
    have hLl2 := linksF_len A Q A.links.length
    refine get_ex (l := (framesV A Q)) (i := ((framesV A Q).length - 1)) (by first | omega | exact Nat.mod_lt _ (by omega)) fun x27 hx27 => ?_
    have hxt : x27 = endF A Q A.links.length := framesF_last (by rw [← framesV_ok h0, show A.links.length = (framesV A Q).length - 1 from by omega]; exact hx27)
    have hzt := (chain_z2 hA0 hQ A.links.length hn3).1
    rw [← hxt] at hzt
    refine k_ix ((framesV A Q).length - 1) [D.v (.bool (cn x27.x).s), D.v (.string (cn x27.x).a), D.v (.string (cn x27.x).d), D.v (.bool (cn x27.y).s), D.v (.string (cn x27.y).a), D.v (.string (cn x27.y).d), D.v (.bool (tofH x27.c)), D.v (.bool (cn (tofQ x27.c x27.s)).s), D.v (.string (cn (tofQ x27.c x27.s)).a), D.v (.string (cn (tofQ x27.c x27.s)).d)] (by first | rfl | omega | (rw [wrap64 _ (by omega) (by omega)]; omega)) (map_at hx27) rfl ?_
    refine k_take ((framesV A Q).length - 1) (List.map rdF (linksF A Q A.links.length)) (by first | omega | (simp; omega) | simp) (by first | rfl | omega | (rw [wrap64 _ (by omega) (by omega)]; omega)) (map_rows fun _ => rfl) ((by rw [← htk]; exact List.map_take.symm)) ?_
    refine ⟨Nat, fun i => [(5, .val (.one (.ptr 5 0))), (10, .val (.one (.ptr 10 0))), (11, .val (.one (.row 48 0))), (34, .val (.one (.d (.list (List.map rdF (linksF A Q A.links.length)))))), (35, int ((List.map rdF (linksF A Q A.links.length)).length : Int)), (36, int (i : Int))],
      fun i => [(5, .var 25 [.d (.v (.bool x.s)), .d (.v (.string x.a)), .d (.v (.string x.d)), .d (.v (.bool y.s)), .d (.v (.string y.a)), .d (.v (.string y.d))]), (10, .var 25 [.d (.v (.bool (cn x27.x).s)), .d (.v (.string (cn x27.x).a)), .d (.v (.string (cn x27.x).d)), .d (.v (.bool (cn x27.y).s)), .d (.v (.string (cn x27.y).a)), .d (.v (.string (cn x27.y).d))]), (48, .row 23 3 0 (List.map rdc (torsF A Q x.q y.q i)) true)], fun i => i ≤ A.links.length, fun i => A.links.length - i, 0, ?_, Nat.zero_le _, fun i hs => ?_⟩
    · constructor <;> (repeat' (first | exact rfl | exact True.intro | exact ⟨_, _, rfl⟩ | exact (by decide) | apply And.intro))
      all_goals first | exact congrArg (fun n : Int => D.v (.int .i64 n)) (by omega) | exact congrArg (fun n : Int => D.v (.int .i64 n)) (by rw [wrap64 _ (by omega) (by omega)]; omega) | (simp; done)
    have hT : (List.map rdc (torsF A Q x.q y.q i)).length ≤ 3 := by rw [List.length_map, torsF_len]; omega
    refine ⟨fun e2 => ?_, fun e2 => ?_⟩
    · have f37 : (i : Int) < ((List.map rdF (linksF A Q A.links.length)).length : Int) := of_decide_eq_true e2
      refine get_ex (l := (linksF A Q A.links.length)) (i := i) (by first | omega | exact Nat.mod_lt _ (by omega)) fun x38 hx38 => ?_
      have hxl : x38 = linkF A Q i := (linksF_at hx38).1
      have hzl := (chain_z2 hA0 hQ i (by omega)).2 (by omega)
      rw [← hxl] at hzl
      refine k_ix i [D.v (.bool (cn x38.x).s), D.v (.string (cn x38.x).a), D.v (.string (cn x38.x).d), D.v (.bool (cn x38.y).s), D.v (.string (cn x38.y).a), D.v (.string (cn x38.y).d), D.v (.bool (tofH x38.c)), D.v (.bool (cn (tofQ x38.c x38.s)).s), D.v (.string (cn (tofQ x38.c x38.s)).a), D.v (.string (cn (tofQ x38.c x38.s)).d)] (by first | rfl | omega | (rw [wrap64 _ (by omega) (by omega)]; omega)) (map_at hx38) rfl ?_
      refine k_vSub (x := cn x27.x) (y := cn x27.y) (z := cn x38.x) (t := cn x38.y) (by simp only [cn_z]; omega) (by simp only [cn_z]; omega) (by simp only [cn_z]; omega) (by simp only [cn_z]; omega) (fun p44 q44 hk_44_2 hk_44_3 hk_44_4 hk_44_5 => ?_)
      try simp only [cn_q] at hk_44_2
      try simp only [cn_q] at hk_44_3
      simp only [cn_z] at hk_44_4
      simp only [cn_z] at hk_44_5
      refine k_vCross (x := cn p44) (y := cn q44) (z := x) (t := y) (by simp only [cn_z]; omega) (by simp only [cn_z]; omega) (by omega) (by omega) (fun q46 hk_46_1 hk_46_2 => ?_)
      try simp only [cn_q] at hk_46_1
      simp only [cn_z] at hk_46_2
      refine ⟨⟨row1 rfl, (by show ((List.map rdc (torsF A Q x.q y.q i)).length + 1) * 40 ≤ _; omega), (by show ((List.map rdc (torsF A Q x.q y.q i)).length + 1) ≤ _; omega)⟩, ?_⟩
      refine ⟨by kernel_rfl, ?_⟩
      have ec : q46 = torF A Q x.q y.q i := by rw [hk_46_1, hk_44_2, hk_44_3, hxt, hxl]; rfl
      clear hk_46_1
      subst ec
      refine ⟨i + 1, by omega, by simp only; omega, ?_⟩
      constructor <;> (repeat' (first | exact rfl | exact True.intro | apply And.intro))
      all_goals first
        | (rw [torsF_snoc]; rfl)
        | exact congrArg (fun n : Int => D.v (.int .i64 n)) (by rw [wrap64 _ (by omega) (by omega)]; omega)
        | exact congrArg (fun n : Int => D.v (.int .i64 n)) (by omega)
    · have f37 : ¬ ((i : Int) < ((List.map rdF (linksF A Q A.links.length)).length : Int)) := of_decide_eq_false e2
      refine Eq.trans (b := .tup [.one (.d (.list (List.map rdc (torsF A Q x.q y.q i)))), .one (.d (.v (.int .i64 (0))))]) ?_ rfl
      obtain rfl : i = A.links.length := by omega
      rw [torsV_ok h0, h0]
      all_goals rfl
theorem k_Tors {A : ArmV} {Q : List RV} {x y : RV} (hA : A.ok) (hQ : ∀ x, x ∈ Q → x.z ≤ 1048576) (hx : x.z ≤ 1048576) (hy : y.z ≤ 1048576) (k : ∀ n, n = hasE A (Q.length : Int) → K (.tup [.one (.d (.list (List.map rdc (torsV A Q x.q y.q)))), .one (.d (.v (.int .i64 n)))])) : Ask 45 [.val (.agg [.d (.v (.string A.name)), .d (.v (.bool A.bx.s)), .d (.v (.string A.bx.a)), .d (.v (.string A.bx.d)), .d (.v (.bool A.by'.s)), .d (.v (.string A.by'.a)), .d (.v (.string A.by'.d)), .d (.v (.bool (A.bh))), .d (.v (.bool A.bt.s)), .d (.v (.string A.bt.a)), .d (.v (.string A.bt.d)), .d (.list (List.map lk A.links))]), .val (.one (.d (.list (List.map rd Q)))), pair x y] K := use (Tors_spec A Q x y hA hQ hx hy) rfl (k _ rfl)
theorem torsV_len {A : ArmV} {Q : List RV} {fx fy : Rat} : (torsV A Q fx fy).length ≤ 3 := by
  by_cases h : hasE A (Q.length : Int) = 0
  · rw [torsV_ok h, torsF_len]; exact (armE_ok (hasE_ok.1 h).1).1
  · rw [torsV_no h]; exact Nat.zero_le _
theorem powE_0 {A : ArmV} {Q R : List RV} (h : hasE A (Q.length : Int) = 0) (g : R.length = Q.length) : powE A Q R = 0 := by rw [powE, if_pos h, if_pos g]
theorem powE_1 {A : ArmV} {Q R : List RV} (h : hasE A (Q.length : Int) = 0) (g : ¬ R.length = Q.length) : powE A Q R = 1 := by rw [powE, if_pos h, if_neg g]
theorem powE_2 {A : ArmV} {Q R : List RV} (h : ¬ hasE A (Q.length : Int) = 0) : powE A Q R = hasE A (Q.length : Int) := by rw [powE, if_neg h]
theorem powN_ok {A : ArmV} {Q R : List RV} {fx fy : Rat} (h : hasE A (Q.length : Int) = 0) (g : R.length = Q.length) : powN A Q fx fy R = cn (powF A Q fx fy R A.links.length) := if_pos ⟨h, g⟩
theorem powN_no {A : ArmV} {Q R : List RV} {fx fy : Rat} (h : ¬ (hasE A (Q.length : Int) = 0 ∧ R.length = Q.length)) : powN A Q fx fy R = z0 := if_neg h
set_option maxHeartbeats 2000000 in
set_option maxRecDepth 100000 in
theorem Power_spec (A : ArmV) (Q R : List RV) (x y : RV) (hA : A.ok) (hQ : ∀ x, x ∈ Q → x.z ≤ 1048576) (hx : x.z ≤ 1048576) (hy : y.z ≤ 1048576) (hR : ∀ x, x ∈ R → x.z ≤ 1048576) : Spec Tryz.prog Tab 47 [.val (.agg [.d (.v (.string A.name)), .d (.v (.bool A.bx.s)), .d (.v (.string A.bx.a)), .d (.v (.string A.bx.d)), .d (.v (.bool A.by'.s)), .d (.v (.string A.by'.a)), .d (.v (.string A.by'.d)), .d (.v (.bool (A.bh))), .d (.v (.bool A.bt.s)), .d (.v (.string A.bt.a)), .d (.v (.string A.bt.d)), .d (.list (List.map lk A.links))]), .val (.one (.d (.list (List.map rd Q)))), .val (.one (.d (.list (List.map rd R)))), pair x y] (.tup [.agg [.d (.v (.bool (powN A Q x.q y.q R).s)), .d (.v (.string (powN A Q x.q y.q R).a)), .d (.v (.string (powN A Q x.q y.q R).d))], .one (.d (.v (.int .i64 (powE A Q R))))]) := by
  have hA2 := hA
  have hL : (List.map lk A.links).length = A.links.length := List.length_map ..
  have hLq : (List.map rd Q).length = Q.length := List.length_map ..
  have hQ1 : ∀ x, x ∈ Q → x.z ≤ 2097151 := fun x hx => Nat.le_trans (hQ x hx) (by decide)
  have hLr : (List.map rd R).length = R.length := List.length_map ..
  have hLm : (List.map rdc (torsV A Q x.q y.q)).length = (torsV A Q x.q y.q).length := List.length_map ..
  have hx1 := x.z1
  have hy1 := y.z1
  refine fn_spec Tryz.func47 rfl rfl Tryz.ntmps47 rfl (by kernel_rfl) rfl rfl ?_
  refine k_Tors (A := A) (Q := Q) (x := x) (y := y) (by assumption) (by assumption) (by omega) (by omega) fun n18 hk_18_1 => ?_
  refine fork (fun e1 => ?_) (fun e1 => ?_)
  · have f23 : n18 = 0 := beq_t e1
    refine ⟨fun e2 => ?_, fun e2 => ?_⟩
    · have f29 : ((List.map rd R).length : Int) ≠ ((List.map rdc (torsV A Q x.q y.q)).length : Int) := bne_t e2
      have h0 : hasE A (Q.length : Int) = 0 := by rw [← hk_18_1]; exact f23
      have hA0 := (hasE_ok.1 h0).1
      have hlen0 := (hasE_ok.1 h0).2
      have hlen : Q.length = A.links.length := by omega
      have hn3 := (armE_ok hA0).1
      have hLt : (torsV A Q x.q y.q).length = A.links.length := by rw [torsV_ok h0, torsF_len]
      have hRl : ¬ R.length = Q.length := by omega
      refine ⟨fun _ => ?_, fun e => absurd e (by decide)⟩
      refine Eq.trans (b := .tup [.agg [.d (.v (.bool z0.s)), .d (.v (.string z0.a)), .d (.v (.string z0.d))], .one (.d (.v (.int .i64 (1))))]) ?_ rfl
      rw [powN_no fun g => hRl g.2, powE_1 h0 hRl]
      all_goals rfl
    · have f29 : ¬ (((List.map rd R).length : Int) ≠ ((List.map rdc (torsV A Q x.q y.q)).length : Int)) := fun hh => hh (bne_f e2)
      have h0 : hasE A (Q.length : Int) = 0 := by rw [← hk_18_1]; exact f23
      have hA0 := (hasE_ok.1 h0).1
      have hlen0 := (hasE_ok.1 h0).2
      have hlen : Q.length = A.links.length := by omega
      have hn3 := (armE_ok hA0).1
      have hLt : (torsV A Q x.q y.q).length = A.links.length := by rw [torsV_ok h0, torsF_len]
      have hRl : R.length = Q.length := by omega
      refine ⟨fun e3 => ?_, fun e3 => ?_⟩
      · have f31 : n18 ≠ 0 := bne_t e3
        exfalso
        exact f31 f23
      · have f31 : ¬ (n18 ≠ 0) := fun hh => hh (bne_f e3)
        refine k_of (0) (by omega) (by omega) fun q34 h34 z34 => ?_
        simp only [cn_z] at z34
        have e34 : q34 = powF A Q x.q y.q R 0 := h34
        refine ⟨Nat, fun i => [(2, .val (.one (.d (.list (List.map rd R))))), (8, .val (.one (.ptr 8 0))), (10, .val (.one (.d (.list (List.map rdc (torsV A Q x.q y.q)))))), (12, .val (.one (.ptr 12 0))), (36, int ((List.map rdc (torsV A Q x.q y.q)).length : Int)), (37, int (i : Int))],
          fun i => [(8, .var 23 [.d (.v (.bool z0.s)), .d (.v (.string z0.a)), .d (.v (.string z0.d))]), (12, .var 23 [.d (.v (.bool (cn (powF A Q x.q y.q R i)).s)), .d (.v (.string (cn (powF A Q x.q y.q R i)).a)), .d (.v (.string (cn (powF A Q x.q y.q R i)).d))])], fun i => i ≤ A.links.length, fun i => A.links.length - i, 0, ?_, Nat.zero_le _, fun i hs => ?_⟩
        · constructor <;> (repeat' (first | exact rfl | exact True.intro | exact ⟨_, _, rfl⟩ | exact (by decide) | apply And.intro))
          all_goals first
            | exact congrArg (fun q : Rat => D.v (.bool (cn q).s)) e34
            | exact congrArg (fun q : Rat => D.v (.bool (cn q).s)) e34.symm
            | exact congrArg (fun q : Rat => D.v (.string (cn q).a)) e34
            | exact congrArg (fun q : Rat => D.v (.string (cn q).a)) e34.symm
            | exact congrArg (fun q : Rat => D.v (.string (cn q).d)) e34
            | exact congrArg (fun q : Rat => D.v (.string (cn q).d)) e34.symm
            | exact congrArg (fun n : Int => D.v (.int .i64 n)) (by omega)
            | (simp; done)
        have hp := powF_z hA0 hQ hR (fx := x.q) (fy := y.q) (by omega) (by omega) i (by omega)
        refine ⟨fun e4 => ?_, fun e4 => ?_⟩
        · have f38 : (i : Int) < ((List.map rdc (torsV A Q x.q y.q)).length : Int) := of_decide_eq_true e4
          refine get_ex (l := (torsV A Q x.q y.q)) (i := i) (by first | omega | exact Nat.mod_lt _ (by omega)) fun x43 hx43 => ?_
          have hxt : x43 = torF A Q x.q y.q i := (torsF_at (by rw [← torsV_ok h0]; exact hx43)).1
          have hzt := torF_z hA0 hQ (fx := x.q) (fy := y.q) (by omega) (by omega) (i := i) (by omega)
          rw [← hxt] at hzt
          refine k_ix i [D.v (.bool (cn x43).s), D.v (.string (cn x43).a), D.v (.string (cn x43).d)] (by first | rfl | omega | (rw [wrap64 _ (by omega) (by omega)]; omega)) (map_at hx43) rfl ?_
          refine get_ex (l := R) (i := i) (by first | omega | exact Nat.mod_lt _ (by omega)) fun x47 hx47 => ?_
          have hzx47 := hR x47 (List.mem_of_getElem? hx47)
          have hxr : x47.q = qAt R i := (qAt_is hx47).symm
          refine k_ix i [D.v (.bool x47.s), D.v (.string x47.a), D.v (.string x47.d)] (by first | rfl | omega | (rw [wrap64 _ (by omega) (by omega)]; omega)) (map_at hx47) rfl ?_
          refine k_mul (x := cn x43) (y := x47) (by simp only [cn_z]; omega) (by omega) fun q49 h49 z49 => ?_
          simp only [cn_z] at z49
          simp only [cn_q] at h49
          refine k_add (x := cn (powF A Q x.q y.q R i)) (y := cn q49) (by simp only [cn_z]; omega) (by simp only [cn_z]; omega) fun q50 h50 z50 => ?_
          simp only [cn_z] at z50
          simp only [cn_q] at h50
          refine ⟨by kernel_rfl, ?_⟩
          have e50 : q50 = powF A Q x.q y.q R (i + 1) := by rw [h50, h49, hxt, hxr]; rfl
          refine ⟨i + 1, by omega, by simp only; omega, ?_⟩
          constructor <;> (repeat' (first | exact rfl | exact True.intro | apply And.intro))
          all_goals first
            | exact congrArg (fun q : Rat => D.v (.bool (cn q).s)) e50
            | exact congrArg (fun q : Rat => D.v (.bool (cn q).s)) e50.symm
            | exact congrArg (fun q : Rat => D.v (.string (cn q).a)) e50
            | exact congrArg (fun q : Rat => D.v (.string (cn q).a)) e50.symm
            | exact congrArg (fun q : Rat => D.v (.string (cn q).d)) e50
            | exact congrArg (fun q : Rat => D.v (.string (cn q).d)) e50.symm
            | exact congrArg (fun n : Int => D.v (.int .i64 n)) (by rw [wrap64 _ (by omega) (by omega)]; omega)
            | exact congrArg (fun n : Int => D.v (.int .i64 n)) (by omega)
        · have f38 : ¬ ((i : Int) < ((List.map rdc (torsV A Q x.q y.q)).length : Int)) := of_decide_eq_false e4
          refine Eq.trans (b := .tup [.agg [.d (.v (.bool (cn (powF A Q x.q y.q R i)).s)), .d (.v (.string (cn (powF A Q x.q y.q R i)).a)), .d (.v (.string (cn (powF A Q x.q y.q R i)).d))], .one (.d (.v (.int .i64 (0))))]) ?_ rfl
          obtain rfl : i = A.links.length := by omega
          rw [powN_ok h0 hRl, powE_0 h0 hRl]
          all_goals rfl
  · have f23 : ¬ (n18 = 0) := beq_f e1
    refine ⟨fun e => absurd e (by decide), fun _ => ?_⟩
    refine ⟨fun e5 => ?_, fun e5 => ?_⟩
    · have f31 : n18 ≠ 0 := bne_t e5
      refine Eq.trans (b := .tup [.agg [.d (.v (.bool z0.s)), .d (.v (.string z0.a)), .d (.v (.string z0.d))], .one (.d (.v (.int .i64 (n18))))]) ?_ rfl
      have hno : ¬ hasE A (Q.length : Int) = 0 := by rw [← hk_18_1]; exact f23
      rw [powN_no fun g => hno g.1, powE_2 hno, ← hk_18_1]
      all_goals rfl
    · have f31 : ¬ (n18 ≠ 0) := fun hh => hh (bne_f e5)
      exfalso
      exact f23 (Classical.not_not.1 f31)
set_option maxHeartbeats 2000000 in
set_option maxRecDepth 100000 in
theorem RTors_spec (A : ArmV) (Q : List RV) (x y : RV) (hA : A.ok) (hA0 : armE A = 0) (hlen : Q.length = A.links.length) (hQ : ∀ x, x ∈ Q → x.z ≤ 1048576) (hx : x.z ≤ 1048576) (hy : y.z ≤ 1048576) : Spec Tryz.prog Tab 48 [.val (.agg [.d (.v (.string A.name)), .d (.v (.bool A.bx.s)), .d (.v (.string A.bx.a)), .d (.v (.string A.bx.d)), .d (.v (.bool A.by'.s)), .d (.v (.string A.by'.a)), .d (.v (.string A.by'.d)), .d (.v (.bool (A.bh))), .d (.v (.bool A.bt.s)), .d (.v (.string A.bt.a)), .d (.v (.string A.bt.d)), .d (.list (List.map lk A.links))]), .val (.one (.d (.list (List.map rd Q)))), pair x y] (.val (.one (.d (.list (List.map q3d (torsF A Q x.q y.q A.links.length)))))) := by
  have hA2 := hA
  have hL : (List.map lk A.links).length = A.links.length := List.length_map ..
  have hLq : (List.map rd Q).length = Q.length := List.length_map ..
  have hQ1 : ∀ x, x ∈ Q → x.z ≤ 2097151 := fun x hx => Nat.le_trans (hQ x hx) (by decide)
  have hn3 := (armE_ok hA0).1
  have hLc : (List.map rqP (colsF A Q A.links.length)).length = A.links.length := by rw [List.length_map, colsF_len]
  have hLd := colsF_len A Q A.links.length
  refine fn_spec Tryz.func48 rfl rfl Tryz.ntmps48 rfl (by kernel_rfl) rfl rfl ?_
  refine k_RCols (A := A) (Q := Q) (by assumption) hA0 hlen (by assumption) ?_
  refine ⟨Nat, fun i => [(5, .val (.one (.ptr 5 0))), (7, .val (.one (.row 24 0))), (12, .val (.one (.d (.list (List.map rqP (colsF A Q A.links.length)))))), (13, int ((List.map rqP (colsF A Q A.links.length)).length : Int)), (14, int (i : Int))],
    fun i => [(5, .var 25 [.d (.v (.bool x.s)), .d (.v (.string x.a)), .d (.v (.string x.d)), .d (.v (.bool y.s)), .d (.v (.string y.a)), .d (.v (.string y.d))]), (24, .row 42 3 0 (List.map q3d (torsF A Q x.q y.q i)) true)], fun i => i ≤ A.links.length, fun i => A.links.length - i, 0, ?_, Nat.zero_le _, fun i hs => ?_⟩
  · constructor <;> (repeat' (first | exact rfl | exact True.intro | exact ⟨_, _, rfl⟩ | exact (by decide) | apply And.intro))
    all_goals first | exact congrArg (fun n : Int => D.v (.int .i64 n)) (by omega) | exact congrArg (fun n : Int => D.v (.int .i64 n)) (by rw [wrap64 _ (by omega) (by omega)]; omega) | (simp; done)
  have hT : (List.map q3d (torsF A Q x.q y.q i)).length ≤ 3 := by rw [List.length_map, torsF_len]; omega
  refine ⟨fun e1 => ?_, fun e1 => ?_⟩
  · have f15 : (i : Int) < ((List.map rqP (colsF A Q A.links.length)).length : Int) := of_decide_eq_true e1
    refine get_ex (l := (colsF A Q A.links.length)) (i := i) (by first | omega | exact Nat.mod_lt _ (by omega)) fun x16 hx16 => ?_
    have hxc : x16 = colF A Q i := (colsF_at hx16).1
    have hzc := colF_z hA0 hQ (i := i) (by omega)
    rw [← hxc] at hzc
    refine k_ix i [D.v (.bool (decide (x16.1.num < 0))), D.list (W (w32 x16.1.num.natAbs)), D.list (W (w32 x16.1.den)), D.v (.bool (decide (x16.2.num < 0))), D.list (W (w32 x16.2.num.natAbs)), D.list (W (w32 x16.2.den))] (by first | rfl | omega | (rw [wrap64 _ (by omega) (by omega)]; omega)) (map_at hx16) rfl ?_
    refine k_Pt (x := x) (y := y) (by omega) (by omega) (fun p21 q21 hk_21_2 hk_21_3 hk_21_4 hk_21_5 => ?_)
    refine k_Pdot (p := x16.1) (q := x16.2) (r := p21) (u := q21) (by omega) (by omega) (by omega) (by omega) (fun ya22 hk_22_1 hk_22_2 => ?_)
    refine ⟨⟨row1 rfl, (by show ((List.map q3d (torsF A Q x.q y.q i)).length + 1) * 56 ≤ _; omega), (by show ((List.map q3d (torsF A Q x.q y.q i)).length + 1) ≤ _; omega)⟩, ?_⟩
    refine ⟨by kernel_rfl, ?_⟩
    have ec : ya22 = torF A Q x.q y.q i := by
      rw [hk_22_1, hk_21_2, hk_21_3, hxc]
      show -((endF A Q A.links.length).y - (linkF A Q i).y) * x.q + ((endF A Q A.links.length).x - (linkF A Q i).x) * y.q = ((endF A Q A.links.length).x - (linkF A Q i).x) * y.q - ((endF A Q A.links.length).y - (linkF A Q i).y) * x.q
      grind
    clear hk_22_1
    subst ec
    refine ⟨i + 1, by omega, by simp only; omega, ?_⟩
    constructor <;> (repeat' (first | exact rfl | exact True.intro | apply And.intro))
    all_goals first
      | (rw [torsF_snoc]; rfl)
      | exact congrArg (fun n : Int => D.v (.int .i64 n)) (by rw [wrap64 _ (by omega) (by omega)]; omega)
      | exact congrArg (fun n : Int => D.v (.int .i64 n)) (by omega)
  · have f15 : ¬ ((i : Int) < ((List.map rqP (colsF A Q A.links.length)).length : Int)) := of_decide_eq_false e1
    refine Eq.trans (b := .val (.one (.d (.list (List.map q3d (torsF A Q x.q y.q i)))))) ?_ rfl
    obtain rfl : i = A.links.length := by omega
    rfl
theorem k_RTors {A : ArmV} {Q : List RV} {x y : RV} (hA : A.ok) (hA0 : armE A = 0) (hlen : Q.length = A.links.length) (hQ : ∀ x, x ∈ Q → x.z ≤ 1048576) (hx : x.z ≤ 1048576) (hy : y.z ≤ 1048576) (k : K (.val (.one (.d (.list (List.map q3d (torsF A Q x.q y.q A.links.length))))))) : Ask 48 [.val (.agg [.d (.v (.string A.name)), .d (.v (.bool A.bx.s)), .d (.v (.string A.bx.a)), .d (.v (.string A.bx.d)), .d (.v (.bool A.by'.s)), .d (.v (.string A.by'.a)), .d (.v (.string A.by'.d)), .d (.v (.bool (A.bh))), .d (.v (.bool A.bt.s)), .d (.v (.string A.bt.a)), .d (.v (.string A.bt.d)), .d (.list (List.map lk A.links))]), .val (.one (.d (.list (List.map rd Q)))), pair x y] K := use (RTors_spec A Q x y hA hA0 hlen hQ hx hy) rfl k
theorem k_Power {A : ArmV} {Q R : List RV} {x y : RV} (hA : A.ok) (hQ : ∀ x, x ∈ Q → x.z ≤ 1048576) (hx : x.z ≤ 1048576) (hy : y.z ≤ 1048576) (hR : ∀ x, x ∈ R → x.z ≤ 1048576) (k : ∀ n, n = powE A Q R → K (.tup [.agg [.d (.v (.bool (powN A Q x.q y.q R).s)), .d (.v (.string (powN A Q x.q y.q R).a)), .d (.v (.string (powN A Q x.q y.q R).d))], .one (.d (.v (.int .i64 (n))))])) : Ask 47 [.val (.agg [.d (.v (.string A.name)), .d (.v (.bool A.bx.s)), .d (.v (.string A.bx.a)), .d (.v (.string A.bx.d)), .d (.v (.bool A.by'.s)), .d (.v (.string A.by'.a)), .d (.v (.string A.by'.d)), .d (.v (.bool (A.bh))), .d (.v (.bool A.bt.s)), .d (.v (.string A.bt.a)), .d (.v (.string A.bt.d)), .d (.list (List.map lk A.links))]), .val (.one (.d (.list (List.map rd Q)))), .val (.one (.d (.list (List.map rd R)))), pair x y] K := use (Power_spec A Q R x y hA hQ hx hy hR) rfl (k _ rfl)
theorem k_equalT {l m : List Rat} {u v : List (List D)} (e : l = m) (hu : u = RL l) (hv : v = RL m) (hn : l.length ≤ 1099511627776) (k : K (bool true)) : Ask 46 [.val (.one (.d (.list u))), .val (.one (.d (.list v)))] K := by
  subst e
  exact k_equal3 l l hu hv hn hn fun b hb => by rw [hb, decide_eq_true rfl]; exact k
theorem RL_natRV (l : List Nat) : List.map rd (natRV l) = RL (natL l) := by simp [RL, natL, natRV, List.map_map, Function.comp]
end
end Go.Proofs.YtjhoddlhdoiifaaGreatDoor.eng
