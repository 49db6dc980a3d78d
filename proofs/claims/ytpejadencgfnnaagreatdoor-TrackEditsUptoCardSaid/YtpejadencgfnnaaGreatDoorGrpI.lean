/- Joined by wip/bundle.py: XEdtA XLawTck XLawTat XEdtR. -/
import Derived.Test.YtpejadencgfnnaaGreatDoorPlnA
import Derived.Test.YtpejadencgfnnaaGreatDoorEdt0
import Derived.Test.YtpejadencgfnnaaGreatDoorGrpU
import Derived.Test.YtpejadencgfnnaaGreatDoorGrpL
import Derived.Test.YtpejadencgfnnaaGreatDoorGrpX
import Derived.Test.YtpejadencgfnnaaGreatDoorOpenA
/- Contracts: tracks joined, cut and delayed: package track. Printed by wip/gp_edit.py. -/
namespace Go.Proofs.YtpejadencgfnnaaGreatDoor.eng
open Go.RowKit num mem seg q held ratA ratB ratC ratD ratE vars ratF argopen trq
section
variable {K : AV → Prop}
/-- keys of a statement's arguments -/
def tz1 (t : List (Int × List RV)) : Prop := t.length ≤ 1048576 ∧ ∀ k, k ∈ t → (-9223372036854775808 ≤ k.1 ∧ k.1 ≤ 9223372036854775807) ∧ k.2.length ≤ 1048576 ∧ ∀ x, x ∈ k.2 → x.z ≤ 1048576
theorem tz1_tz {t : List (Int × List RV)} (h : tz1 t) : tz t := ⟨h.1, fun k hk => ⟨(h.2 k hk).1, (h.2 k hk).2.1, fun x hx => Nat.le_trans ((h.2 k hk).2.2 x hx) (by decide)⟩⟩
theorem tz1_app {t u : List (Int × List RV)} (h : tz1 t) (g : tz1 u) (hl : t.length ≤ 60) (gl : u.length ≤ 60) : tz1 (t ++ u) := by
  refine ⟨by rw [List.length_append]; omega, fun k hk => ?_⟩
  rcases List.mem_append.1 hk with a | a
  · exact h.2 k a
  · exact g.2 k a
theorem tz1_gc {t : List (Int × List RV)} (h : tz1 t) : tz (t.map gcK) := by
  refine ⟨by rw [List.length_map]; exact h.1, fun k hk => ?_⟩
  obtain ⟨y, hy, rfl⟩ := List.mem_map.1 hk
  refine ⟨(h.2 y hy).1, by show (((qsL y.2).map cn)).length ≤ _; rw [gd_len]; exact (h.2 y hy).2.1, fun x hx => ?_⟩
  obtain ⟨q, hq, rfl⟩ := List.mem_map.1 (show x ∈ (qsL y.2).map cn from hx)
  obtain ⟨z, hz, rfl⟩ := List.mem_map.1 (show q ∈ List.map RV.q y.2 from hq)
  have := z.z1
  have := (h.2 y hy).2.2 z hz
  rw [cn_z]; omega
theorem gdT_snoc {t : List (Int × List RV)} {i : Nat} {x : Int × List RV} (h : t[i]? = some x) : List.map keyC (List.map gdK (t.take (i + 1))) = List.map keyC (List.map gdK (t.take i)) ++ [keyC (gdK x)] := by
  rw [List.take_add_one, h, List.map_append, List.map_append]; rfl
theorem keysG (l : List (Int × List RV)) : List.map keyC (List.map gdK l) = List.map keyD (l.map gcK) := by
  rw [keysC_cn, show List.map cnK (List.map gdK l) = l.map gcK from by rw [List.map_map]; rfl]
theorem len60 {A : ArmV} {t : List (Int × List RV)} (h : trackE A t = 0) : t.length ≤ 60 := by have := (track_ok h).2.2.1; omega
/-- a list that is written out at first, a row of its own from then on -/
def fuAV {α : Type} (d : Nat) (f : List D) : List α → AV
  | [] => .val (.one (.full [f]))
  | _ :: _ => .val (.one (.row d 0))
def fuOb {α : Type} (T n : Nat) (g : α → List D) (d : Nat) (f : List D) : List α → List (Nat × Ob)
  | [] => []
  | m :: M => [(d, .row T n 0 ([f] ++ List.map g (m :: M)) true)]
def iD (n : Int) : List D := [.v (.int .i64 n)]
theorem k_TCheckJ {A : ArmV} {t u : List (Int × List RV)} {v : List (List D)} (hv : v = List.map keyC (List.map gdK t) ++ List.map keyC (List.map gdK u)) (hA : A.ok) (ht : tz1 t) (hu : tz1 u) (hl : t.length ≤ 60) (gl : u.length ≤ 60) (k : ∀ n, n = trackE A (t ++ u) → K (int n)) : Ask 133 [.val (.agg [.d (.v (.string A.name)), .d (.v (.bool A.bx.s)), .d (.v (.string A.bx.a)), .d (.v (.string A.bx.d)), .d (.v (.bool A.by'.s)), .d (.v (.string A.by'.a)), .d (.v (.string A.by'.d)), .d (.v (.bool (A.bh))), .d (.v (.bool A.bt.s)), .d (.v (.string A.bt.a)), .d (.v (.string A.bt.d)), .d (.list (List.map lk A.links))]), .val (.one (.d (.list v)))] K := by
  subst hv
  rw [show List.map keyC (List.map gdK t) ++ List.map keyC (List.map gdK u) = List.map keyD ((t ++ u).map gcK) from by rw [keysG, keysG, List.map_append, List.map_append]]
  exact use (TCheck_spec A _ hA (tz1_gc (tz1_app ht hu hl gl))) rfl (k _ (track_gd A _))
set_option maxRecDepth 100000 in
theorem tclone_spec (t : List (Int × List RV)) (ht : tz1 t) : Spec Tryz.prog Tab 134 [.val (.one (.d (.list (List.map keyD t))))] (.val (.one (.d (.list (List.map keyC (List.map gdK t)))))) := by
  have hLt : (List.map keyD t).length = t.length := List.length_map ..
  have ht1 := ht.1
  refine fn_spec Tryz.func134 rfl rfl Tryz.ntmps134 rfl (by kernel_rfl) rfl rfl ?_
  refine ⟨Nat, fun i => [(3, .val (.one (.row 20 0))), (6, .val (.one (.d (.list (List.map keyD t))))), (7, int ((List.map keyD t).length : Int)), (8, int (i : Int))],
    fun i => [(20, .row 86 2 0 (List.map keyC (List.map gdK (t.take i))) true)], fun i => i ≤ t.length, fun i => t.length - i, 0, ?_, Nat.zero_le _, fun i hs => ?_⟩
  · constructor <;> (repeat' (first | exact rfl | exact True.intro | exact ⟨_, _, rfl⟩ | exact (by decide) | apply And.intro))
    all_goals first | exact congrArg (fun n : Int => D.v (.int .i64 n)) (by omega) | exact congrArg (fun n : Int => D.v (.int .i64 n)) (by rw [wrap64 _ (by omega) (by omega)]; omega) | (simp; done)
  have hT : (List.map keyC (List.map gdK (t.take i))).length ≤ 1048576 := by rw [List.length_map, List.length_map, List.length_take]; omega
  refine ⟨fun e1 => ?_, fun e1 => ?_⟩
  · have f9 : (i : Int) < ((List.map keyD t).length : Int) := of_decide_eq_true e1
    refine get_ex (l := t) (i := i) (by first | omega | exact Nat.mod_lt _ (by omega)) fun x10 hx10 => ?_
    have hzx10 := ht.2 x10 (List.mem_of_getElem? hx10)
    refine k_ix i [D.v (.int .i64 (x10.1)), D.list (List.map rd x10.2)] (by first | rfl | omega | (rw [wrap64 _ (by omega) (by omega)]; omega) | (rw [wrap64 _ (by omega) (by omega)]; split <;> omega)) (map_at hx10) rfl ?_
    refine k_copied (l := x10.2) (fun x hx => Nat.le_trans (hzx10.2.2 x hx) (by decide)) hzx10.2.1 ?_
    refine ⟨⟨row1 rfl, (by show ((List.map keyC (List.map gdK (t.take i))).length + 1) * 32 ≤ _; omega), (by show ((List.map keyC (List.map gdK (t.take i))).length + 1) ≤ _; omega)⟩, ?_⟩
    refine ⟨by kernel_rfl, ?_⟩
    refine ⟨i + 1, by omega, by simp only; omega, ?_⟩
    constructor <;> (repeat' (first | exact rfl | exact True.intro | apply And.intro))
    all_goals first
      | (rw [gdT_snoc hx10]; rfl)
      | exact congrArg (fun n : Int => D.v (.int .i64 n)) (by rw [wrap64 _ (by omega) (by omega)]; omega)
      | exact congrArg (fun n : Int => D.v (.int .i64 n)) (by omega)
  · have f9 : ¬ ((i : Int) < ((List.map keyD t).length : Int)) := of_decide_eq_false e1
    refine Eq.trans (b := .val (.one (.d (.list (List.map keyC (List.map gdK (t.take i))))))) ?_ rfl
    rw [List.take_of_length_le (by omega)]
set_option maxRecDepth 100000 in
theorem tcloneN_spec (t : List (Int × List RV)) (ht : tz1 t) : SpecR Tryz.prog Tab 134 [.val (.one (.d (.list (List.map keyD t))))] 86 2 (List.map keyC (List.map gdK t)) := by
  have hLt : (List.map keyD t).length = t.length := List.length_map ..
  have ht1 := ht.1
  refine fn_new Tryz.func134 rfl rfl Tryz.ntmps134 rfl (by kernel_rfl) rfl rfl ?_
  refine ⟨Nat, fun i => [(3, .val (.one (.row 20 0))), (6, .val (.one (.d (.list (List.map keyD t))))), (7, int ((List.map keyD t).length : Int)), (8, int (i : Int))],
    fun i => [(20, .row 86 2 0 (List.map keyC (List.map gdK (t.take i))) true)], fun i => i ≤ t.length, fun i => t.length - i, 0, ?_, Nat.zero_le _, fun i hs => ?_⟩
  · constructor <;> (repeat' (first | exact rfl | exact True.intro | exact ⟨_, _, rfl⟩ | exact (by decide) | apply And.intro))
    all_goals first | exact congrArg (fun n : Int => D.v (.int .i64 n)) (by omega) | exact congrArg (fun n : Int => D.v (.int .i64 n)) (by rw [wrap64 _ (by omega) (by omega)]; omega) | (simp; done)
  have hT : (List.map keyC (List.map gdK (t.take i))).length ≤ 1048576 := by rw [List.length_map, List.length_map, List.length_take]; omega
  refine ⟨fun e1 => ?_, fun e1 => ?_⟩
  · have f9 : (i : Int) < ((List.map keyD t).length : Int) := of_decide_eq_true e1
    refine get_ex (l := t) (i := i) (by first | omega | exact Nat.mod_lt _ (by omega)) fun x10 hx10 => ?_
    have hzx10 := ht.2 x10 (List.mem_of_getElem? hx10)
    refine k_ix i [D.v (.int .i64 (x10.1)), D.list (List.map rd x10.2)] (by first | rfl | omega | (rw [wrap64 _ (by omega) (by omega)]; omega) | (rw [wrap64 _ (by omega) (by omega)]; split <;> omega)) (map_at hx10) rfl ?_
    refine k_copied (l := x10.2) (fun x hx => Nat.le_trans (hzx10.2.2 x hx) (by decide)) hzx10.2.1 ?_
    refine ⟨⟨row1 rfl, (by show ((List.map keyC (List.map gdK (t.take i))).length + 1) * 32 ≤ _; omega), (by show ((List.map keyC (List.map gdK (t.take i))).length + 1) ≤ _; omega)⟩, ?_⟩
    refine ⟨by kernel_rfl, ?_⟩
    refine ⟨i + 1, by omega, by simp only; omega, ?_⟩
    constructor <;> (repeat' (first | exact rfl | exact True.intro | apply And.intro))
    all_goals first
      | (rw [gdT_snoc hx10]; rfl)
      | exact congrArg (fun n : Int => D.v (.int .i64 n)) (by rw [wrap64 _ (by omega) (by omega)]; omega)
      | exact congrArg (fun n : Int => D.v (.int .i64 n)) (by omega)
  · have f9 : ¬ ((i : Int) < ((List.map keyD t).length : Int)) := of_decide_eq_false e1
    have hfin : Ob.row 86 2 0 (List.map keyC (List.map gdK (t.take i))) true = Ob.row 86 2 0 (List.map keyC (List.map gdK t)) true := by rw [List.take_of_length_le (by omega)]
    exact hfin
theorem k_tclone {t : List (Int × List RV)} (ht : tz1 t) (k : K (.val (.one (.d (.list (List.map keyC (List.map gdK t))))))) : Ask 134 [.val (.one (.d (.list (List.map keyD t))))] K := use (tclone_spec t ht) rfl k
theorem k_tcloneN {t : List (Int × List RV)} (ht : tz1 t) (k : K (.new 86 2 (List.map keyC (List.map gdK t)))) : Ask 134 [.val (.one (.d (.list (List.map keyD t))))] K := useN (tcloneN_spec t ht) k
set_option maxHeartbeats 4000000 in
set_option maxRecDepth 100000 in
theorem TJoin_spec (A : ArmV) (t u : List (Int × List RV)) (hA : A.ok) (ht : tz1 t) (hu : tz1 u) : Spec Tryz.prog Tab 42 [.val (.agg [.d (.v (.string A.name)), .d (.v (.bool A.bx.s)), .d (.v (.string A.bx.a)), .d (.v (.string A.bx.d)), .d (.v (.bool A.by'.s)), .d (.v (.string A.by'.a)), .d (.v (.string A.by'.d)), .d (.v (.bool (A.bh))), .d (.v (.bool A.bt.s)), .d (.v (.string A.bt.a)), .d (.v (.string A.bt.d)), .d (.list (List.map lk A.links))]), .val (.one (.d (.list (List.map keyD t)))), .val (.one (.d (.list (List.map keyD u))))] (.tup [.one (.d (.list (List.map keyC (joinV A t u)))), .one (.d (.v (.int .i64 (joinE A t u))))]) := by
  have hA2 := hA
  refine fn_spec Tryz.func42 rfl rfl Tryz.ntmps42 rfl (by kernel_rfl) rfl rfl ?_
  refine ⟨Nat, fun i => [(1, .val (.one (.d (.list (List.map keyD t))))), (2, .val (.one (.d (.list (List.map keyD u))))), (3, .val (.one (.ptr 3 0))), (15, .val (.one (.full ([[D.list (List.map keyD t)], [D.list (List.map keyD u)]])))), (16, int 2), (17, int (i : Int))],
    fun i => [(3, .var 32 [.d (.v (.string A.name)), .d (.v (.bool A.bx.s)), .d (.v (.string A.bx.a)), .d (.v (.string A.bx.d)), .d (.v (.bool A.by'.s)), .d (.v (.string A.by'.a)), .d (.v (.string A.by'.d)), .d (.v (.bool (A.bh))), .d (.v (.bool A.bt.s)), .d (.v (.string A.bt.a)), .d (.v (.string A.bt.d)), .d (.list (List.map lk A.links))])], fun i => i ≤ 2 ∧ (0 < i → trackE A t = 0) ∧ (1 < i → trackE A u = 0), fun i => 2 - i, 0, ?_, ⟨Nat.zero_le _, fun h => absurd h (by decide), fun h => absurd h (by decide)⟩, fun i hs => ?_⟩
  · constructor <;> (repeat' (first | exact rfl | exact True.intro | exact ⟨_, _, rfl⟩ | exact (by decide) | apply And.intro))
    all_goals first | exact congrArg (fun n : Int => D.v (.int .i64 n)) (by omega) | exact congrArg (fun n : Int => D.v (.int .i64 n)) (by rw [wrap64 _ (by omega) (by omega)]; omega) | (simp; done)
  obtain ⟨g1, h1, h2⟩ := hs
  refine ⟨fun e1 => ?_, fun e1 => ?_⟩
  · have f18 : (i : Int) < 2 := of_decide_eq_true e1
    rcases (show i = 0 ∨ i = 1 by omega) with rfl | rfl
    · refine k_ix 0 [D.list (List.map keyD t)] (by first | rfl | omega | (rw [wrap64 _ (by omega) (by omega)]; omega) | (rw [wrap64 _ (by omega) (by omega)]; split <;> omega)) rfl rfl ?_
      refine k_TCheck (A := A) (t := t) (by assumption) (tz1_tz ht) fun n23 hk_23_1 => ?_
      refine ⟨fun e2 => ?_, fun e2 => ?_⟩
      · have f25 : n23 ≠ 0 := bne_t e2
        refine Eq.trans (b := .tup [.one (.d (.list ([]))), .one (.d (.v (.int .i64 (n23))))]) ?_ rfl
        have hno : ¬ trackE A t = 0 := by rw [← hk_23_1]; exact f25
        have hE := joinE_1 (u := u) hno
        rw [joinV_no (by rw [hE]; exact hno), hE, ← hk_23_1]
        all_goals rfl
      · have f25 : ¬ (n23 ≠ 0) := fun hh => hh (bne_f e2)
        refine ⟨0 + 1, ⟨by omega, fun _ => by rw [← hk_23_1]; exact Classical.not_not.1 f25, fun h => absurd h (by decide)⟩, by simp only; omega, ?_⟩
        constructor <;> (repeat' (first | exact rfl | exact True.intro | apply And.intro))
        all_goals first
          | exact congrArg (fun n : Int => D.v (.int .i64 n)) (by rw [wrap64 _ (by omega) (by omega)]; omega)
          | exact congrArg (fun n : Int => D.v (.int .i64 n)) (by omega)
    · have ht0 := h1 (by decide)
      refine k_ix 1 [D.list (List.map keyD u)] (by first | rfl | omega | (rw [wrap64 _ (by omega) (by omega)]; omega) | (rw [wrap64 _ (by omega) (by omega)]; split <;> omega)) rfl rfl ?_
      refine k_TCheck (A := A) (t := u) (by assumption) (tz1_tz hu) fun n23 hk_23_1 => ?_
      refine ⟨fun e3 => ?_, fun e3 => ?_⟩
      · have f25 : n23 ≠ 0 := bne_t e3
        refine Eq.trans (b := .tup [.one (.d (.list ([]))), .one (.d (.v (.int .i64 (n23))))]) ?_ rfl
        have hno : ¬ trackE A u = 0 := by rw [← hk_23_1]; exact f25
        have hE := joinE_2 ht0 hno
        rw [joinV_no (by rw [hE]; exact hno), hE, ← hk_23_1]
        all_goals rfl
      · have f25 : ¬ (n23 ≠ 0) := fun hh => hh (bne_f e3)
        refine ⟨1 + 1, ⟨by omega, fun _ => ht0, fun _ => by rw [← hk_23_1]; exact Classical.not_not.1 f25⟩, by simp only; omega, ?_⟩
        constructor <;> (repeat' (first | exact rfl | exact True.intro | apply And.intro))
        all_goals first
          | exact congrArg (fun n : Int => D.v (.int .i64 n)) (by rw [wrap64 _ (by omega) (by omega)]; omega)
          | exact congrArg (fun n : Int => D.v (.int .i64 n)) (by omega)
  · have f18 : ¬ ((i : Int) < 2) := of_decide_eq_false e1
    have ht0 := h1 (by omega)
    have hu0 := h2 (by omega)
    refine k_tcloneN (t := t) ht ?_
    refine k_tclone (t := u) hu ?_
    refine ⟨⟨(map_rows fun _ => rfl), (by show ((List.map keyC (List.map gdK t)).length + (List.map keyC (List.map gdK u)).length) * 32 ≤ _; (simp only [List.length_map]; have := len60 ht0; have := len60 hu0; omega)), (by show ((List.map keyC (List.map gdK t)).length + (List.map keyC (List.map gdK u)).length) ≤ _; (simp only [List.length_map]; have := len60 ht0; have := len60 hu0; omega))⟩, ?_⟩
    refine k_TCheckJ (A := A) (t := t) (u := u) rfl (by assumption) ht hu (len60 ht0) (len60 hu0) fun n35 hk_35_1 => ?_
    refine ⟨fun e4 => ?_, fun e4 => ?_⟩
    · have f37 : n35 ≠ 0 := bne_t e4
      refine Eq.trans (b := .tup [.one (.d (.list ([]))), .one (.d (.v (.int .i64 (n35))))]) ?_ rfl
      have hE := joinE_3 ht0 hu0
      have hno : ¬ trackE A (t ++ u) = 0 := by rw [← hk_35_1]; exact f37
      rw [joinV_no (by rw [hE]; exact hno), hE, ← hk_35_1]
      all_goals rfl
    · have f37 : ¬ (n35 ≠ 0) := fun hh => hh (bne_f e4)
      refine Eq.trans (b := .tup [.one (.d (.list (List.map keyC (List.map gdK t) ++ List.map keyC (List.map gdK u)))), .one (.d (.v (.int .i64 (0))))]) ?_ rfl
      have hE := joinE_3 ht0 hu0
      have hE0 : joinE A t u = 0 := by rw [hE, ← hk_35_1]; exact Classical.not_not.1 f37
      rw [joinV_ok hE0, hE0, List.map_append, List.map_append]
      all_goals rfl
theorem k_TJoin {A : ArmV} {t u : List (Int × List RV)} (hA : A.ok) (ht : tz1 t) (hu : tz1 u) (k : ∀ n, n = joinE A t u → K (.tup [.one (.d (.list (List.map keyC (joinV A t u)))), .one (.d (.v (.int .i64 n)))])) : Ask 42 [.val (.agg [.d (.v (.string A.name)), .d (.v (.bool A.bx.s)), .d (.v (.string A.bx.a)), .d (.v (.string A.bx.d)), .d (.v (.bool A.by'.s)), .d (.v (.string A.by'.a)), .d (.v (.string A.by'.d)), .d (.v (.bool (A.bh))), .d (.v (.bool A.bt.s)), .d (.v (.string A.bt.a)), .d (.v (.string A.bt.d)), .d (.list (List.map lk A.links))]), .val (.one (.d (.list (List.map keyD t)))), .val (.one (.d (.list (List.map keyD u))))] K := use (TJoin_spec A t u hA ht hu) rfl (k _ rfl)
set_option maxHeartbeats 8000000 in
set_option maxRecDepth 100000 in
theorem TCut_spec (A : ArmV) (t : List (Int × List RV)) (s e : Int) (hA : A.ok) (ht : tz1 t) (hs : -9223372036854775808 ≤ s ∧ s ≤ 9223372036854775807) (he : -9223372036854775808 ≤ e ∧ e ≤ 9223372036854775807) : Spec Tryz.prog Tab 43 [.val (.agg [.d (.v (.string A.name)), .d (.v (.bool A.bx.s)), .d (.v (.string A.bx.a)), .d (.v (.string A.bx.d)), .d (.v (.bool A.by'.s)), .d (.v (.string A.by'.a)), .d (.v (.string A.by'.d)), .d (.v (.bool (A.bh))), .d (.v (.bool A.bt.s)), .d (.v (.string A.bt.a)), .d (.v (.string A.bt.d)), .d (.list (List.map lk A.links))]), .val (.one (.d (.list (List.map keyD t)))), int s, int e] (.tup [.one (.d (.list (List.map keyC (tcV A t s e)))), .one (.d (.v (.int .i64 (tcE A t s e))))]) := by
  have hA2 := hA
  have hLt : (List.map keyD t).length = t.length := List.length_map ..
  refine fn_spec Tryz.func43 rfl rfl Tryz.ntmps43 rfl (by kernel_rfl) rfl rfl ?_
  refine k_TCheck (A := A) (t := t) (by assumption) (tz1_tz ht) fun n16 hk_16_1 => ?_
  refine ⟨fun e1 => ?_, fun e1 => ?_⟩
  · have f18 : n16 ≠ 0 := bne_t e1
    refine Eq.trans (b := .tup [.one (.d (.list ([]))), .one (.d (.v (.int .i64 (n16))))]) ?_ rfl
    have hno : ¬ trackE A t = 0 := by rw [← hk_16_1]; exact f18
    obtain ⟨e1, e2⟩ := tcE_no (s := s) (e := e) hno
    rw [e1, e2, ← hk_16_1]
    all_goals rfl
  · have f18 : ¬ (n16 ≠ 0) := fun hh => hh (bne_f e1)
    have ht0 : trackE A t = 0 := by rw [← hk_16_1]; exact Classical.not_not.1 f18
    refine fork (fun e2 => ?_) (fun e2 => ?_)
    · have f22 : s < 0 := of_decide_eq_true e2
      refine ⟨fun _ => ?_, fun e => absurd e (by decide)⟩
      refine Eq.trans (b := .tup [.one (.d (.list ([]))), .one (.d (.v (.int .i64 (1))))]) ?_ rfl
      obtain ⟨e1, e2⟩ := tcE_ok (s := s) (e := e) ht0
      have hE := ctE_1 (t := t) (show cutBad s e by unfold cutBad; omega)
      rw [e1, e2, ctV_no (by rw [hE]; decide), hE]
      all_goals rfl
    · have f22 : ¬ (s < 0) := of_decide_eq_false e2
      refine fork (fun e3 => ?_) (fun e3 => ?_)
      · have f27 : e ≤ s := of_decide_eq_true e3
        refine ⟨fun _ => ?_, fun e => absurd e (by decide)⟩
        refine Eq.trans (b := .tup [.one (.d (.list ([]))), .one (.d (.v (.int .i64 (1))))]) ?_ rfl
        obtain ⟨e1, e2⟩ := tcE_ok (s := s) (e := e) ht0
        have hE := ctE_1 (t := t) (show cutBad s e by unfold cutBad; omega)
        rw [e1, e2, ctV_no (by rw [hE]; decide), hE]
        all_goals rfl
      · have f27 : ¬ (e ≤ s) := of_decide_eq_false e3
        refine ⟨fun e4 => ?_, fun e4 => ?_⟩
        · have f30 : e > 2000 := of_decide_eq_true e4
          refine Eq.trans (b := .tup [.one (.d (.list ([]))), .one (.d (.v (.int .i64 (1))))]) ?_ rfl
          obtain ⟨e1, e2⟩ := tcE_ok (s := s) (e := e) ht0
          have hE := ctE_1 (t := t) (show cutBad s e by unfold cutBad; omega)
          rw [e1, e2, ctV_no (by rw [hE]; decide), hE]
          all_goals rfl
        · have f30 : ¬ (e > 2000) := of_decide_eq_false e4
          have hb : ¬ cutBad s e := by unfold cutBad; omega
          have ht1 := len60 ht0
          refine k_TAt (t := t) (s) rfl (tz1_tz ht) hs ?_
          refine ⟨Nat × List (Int × List Rat), fun (i, M) => [(1, .val (.one (.d (.list (List.map keyD t))))), (2, int s), (3, int e), (11, fuAV 61 [D.v (.int .i64 s), D.list (List.map rdc (atL t s))] M), (37, .val (.one (.d (.list (List.map keyD t))))), (38, int ((List.map keyD t).length : Int)), (39, int (i : Int))],
            fun (i, M) => [] ++ fuOb 86 2 keyC 61 [D.v (.int .i64 s), D.list (List.map rdc (atL t s))] M, fun (i, M) => i ≤ t.length ∧ M = List.map gdK (cutK (t.take i) s e), fun (i, M) => t.length - i, (0, []), ?_, ⟨Nat.zero_le _, rfl⟩, fun s hs => ?_⟩
          · constructor <;> (repeat' (first | exact rfl | exact True.intro | exact ⟨_, _, rfl⟩ | exact (by decide) | apply And.intro))
            all_goals first | exact congrArg (fun n : Int => D.v (.int .i64 n)) (by omega) | exact congrArg (fun n : Int => D.v (.int .i64 n)) (by rw [wrap64 _ (by omega) (by omega)]; omega) | (simp; done)
          obtain ⟨i, M⟩ := s
          obtain ⟨g1, hM⟩ := hs
          try simp only at g1 hM
          have hMl : M.length ≤ i := by rw [hM, List.length_map]; exact Nat.le_trans (cutK_len _ s e) (by rw [List.length_take]; omega)
          have hMe : M.length = (cutK (t.take i) s e).length := by rw [hM, List.length_map]
          refine ⟨fun e5 => ?_, fun e5 => ?_⟩
          · have f40 : (i : Int) < ((List.map keyD t).length : Int) := of_decide_eq_true e5
            rcases M with _ | ⟨m, M⟩
            · simp only [List.length_nil, List.length_cons] at hMe
              refine get_ex (l := t) (i := i) (by first | omega | exact Nat.mod_lt _ (by omega)) fun x41 hx41 => ?_
              have hzx41 := ht.2 x41 (List.mem_of_getElem? hx41)
              have hxx41 := hx41
              refine k_ix i [D.v (.int .i64 (x41.1)), D.list (List.map rd x41.2)] (by first | rfl | omega | (rw [wrap64 _ (by omega) (by omega)]; omega) | (rw [wrap64 _ (by omega) (by omega)]; split <;> omega)) (map_at hx41) rfl ?_
              refine fork (fun e6 => ?_) (fun e6 => ?_)
              · have f47 : x41.1 > s := of_decide_eq_true e6
                refine ⟨fun e7 => ?_, fun e7 => ?_⟩
                · have f52 : x41.1 < e := of_decide_eq_true e7
                  refine k_copied (l := x41.2) (fun x hx => Nat.le_trans (hzx41.2.2 x hx) (by decide)) hzx41.2.1 ?_
                  refine ⟨⟨Nat.zero_lt_succ _, row1 rfl, row1 rfl, (by show (1 + 1) * 32 ≤ _; omega), (by show 1 + 1 ≤ _; omega)⟩, ?_⟩
                  refine ⟨by kernel_rfl, ?_⟩
                  refine ⟨(i + 1, [gdK x41]), ⟨by omega, by rw [cutK_in hx41 (by omega), List.map_append, ← hM]; rfl⟩, by simp only; omega, ?_⟩
                  constructor <;> (repeat' (first | exact rfl | exact True.intro | apply And.intro))
                  all_goals first
                    | (simp [keyC, gdK]; done)
                    | exact congrArg (fun n : Int => D.v (.int .i64 n)) (by rw [wrap64 _ (by omega) (by omega)]; omega)
                    | exact congrArg (fun n : Int => D.v (.int .i64 n)) (by omega)
                · have f52 : ¬ (x41.1 < e) := of_decide_eq_false e7
                  refine ⟨(i + 1, []), ⟨by omega, by rw [cutK_out hx41 (by omega)]; exact hM⟩, by simp only; omega, ?_⟩
                  constructor <;> (repeat' (first | exact rfl | exact True.intro | apply And.intro))
                  all_goals first
                    | (simp [keyC, gdK]; done)
                    | exact congrArg (fun n : Int => D.v (.int .i64 n)) (by rw [wrap64 _ (by omega) (by omega)]; omega)
                    | exact congrArg (fun n : Int => D.v (.int .i64 n)) (by omega)
              · have f47 : ¬ (x41.1 > s) := of_decide_eq_false e6
                refine ⟨fun e => absurd e (by decide), fun _ => ?_⟩
                refine ⟨(i + 1, []), ⟨by omega, by rw [cutK_out hx41 (by omega)]; exact hM⟩, by simp only; omega, ?_⟩
                constructor <;> (repeat' (first | exact rfl | exact True.intro | apply And.intro))
                all_goals first
                  | (simp [keyC, gdK]; done)
                  | exact congrArg (fun n : Int => D.v (.int .i64 n)) (by rw [wrap64 _ (by omega) (by omega)]; omega)
                  | exact congrArg (fun n : Int => D.v (.int .i64 n)) (by omega)
            · simp only [List.length_nil, List.length_cons] at hMe
              have hT : ([[D.v (.int .i64 (s)), D.list (List.map rdc (atL t s))]] ++ List.map keyC (m :: M)).length ≤ 1048580 := by simp only [List.length_append, List.length_cons, List.length_nil, List.length_map] at hMl ⊢; omega
              refine get_ex (l := t) (i := i) (by first | omega | exact Nat.mod_lt _ (by omega)) fun x41 hx41 => ?_
              have hzx41 := ht.2 x41 (List.mem_of_getElem? hx41)
              have hxx41 := hx41
              refine k_ix i [D.v (.int .i64 (x41.1)), D.list (List.map rd x41.2)] (by first | rfl | omega | (rw [wrap64 _ (by omega) (by omega)]; omega) | (rw [wrap64 _ (by omega) (by omega)]; split <;> omega)) (map_at hx41) rfl ?_
              refine fork (fun e8 => ?_) (fun e8 => ?_)
              · have f47 : x41.1 > s := of_decide_eq_true e8
                refine ⟨fun e9 => ?_, fun e9 => ?_⟩
                · have f52 : x41.1 < e := of_decide_eq_true e9
                  refine k_copied (l := x41.2) (fun x hx => Nat.le_trans (hzx41.2.2 x hx) (by decide)) hzx41.2.1 ?_
                  refine ⟨⟨row1 rfl, (by show (([[D.v (.int .i64 (s)), D.list (List.map rdc (atL t s))]] ++ List.map keyC (m :: M)).length + 1) * 32 ≤ _; omega), (by show (([[D.v (.int .i64 (s)), D.list (List.map rdc (atL t s))]] ++ List.map keyC (m :: M)).length + 1) ≤ _; omega)⟩, ?_⟩
                  refine ⟨by kernel_rfl, ?_⟩
                  refine ⟨(i + 1, (m :: M) ++ [gdK x41]), ⟨by omega, by rw [cutK_in hx41 (by omega), List.map_append, ← hM]; rfl⟩, by simp only; omega, ?_⟩
                  constructor <;> (repeat' (first | exact rfl | exact True.intro | apply And.intro))
                  all_goals first
                    | (simp [keyC, gdK]; done)
                    | exact congrArg (fun n : Int => D.v (.int .i64 n)) (by rw [wrap64 _ (by omega) (by omega)]; omega)
                    | exact congrArg (fun n : Int => D.v (.int .i64 n)) (by omega)
                · have f52 : ¬ (x41.1 < e) := of_decide_eq_false e9
                  refine ⟨(i + 1, (m :: M)), ⟨by omega, by rw [cutK_out hx41 (by omega)]; exact hM⟩, by simp only; omega, ?_⟩
                  constructor <;> (repeat' (first | exact rfl | exact True.intro | apply And.intro))
                  all_goals first
                    | (simp [keyC, gdK]; done)
                    | exact congrArg (fun n : Int => D.v (.int .i64 n)) (by rw [wrap64 _ (by omega) (by omega)]; omega)
                    | exact congrArg (fun n : Int => D.v (.int .i64 n)) (by omega)
              · have f47 : ¬ (x41.1 > s) := of_decide_eq_false e8
                refine ⟨fun e => absurd e (by decide), fun _ => ?_⟩
                refine ⟨(i + 1, (m :: M)), ⟨by omega, by rw [cutK_out hx41 (by omega)]; exact hM⟩, by simp only; omega, ?_⟩
                constructor <;> (repeat' (first | exact rfl | exact True.intro | apply And.intro))
                all_goals first
                  | (simp [keyC, gdK]; done)
                  | exact congrArg (fun n : Int => D.v (.int .i64 n)) (by rw [wrap64 _ (by omega) (by omega)]; omega)
                  | exact congrArg (fun n : Int => D.v (.int .i64 n)) (by omega)
          · have f40 : ¬ ((i : Int) < ((List.map keyD t).length : Int)) := of_decide_eq_false e5
            have hi : i = t.length := by omega
            rw [List.take_of_length_le (by omega)] at hM hMe
            rcases M with _ | ⟨m, M⟩
            · simp only [List.length_nil, List.length_cons] at hMe
              refine k_TAt (t := t) (e) rfl (tz1_tz ht) he ?_
              refine ⟨⟨Nat.zero_lt_succ _, row1 rfl, row1 rfl, (by show (1 + 1) * 32 ≤ _; omega), (by show 1 + 1 ≤ _; omega)⟩, ?_⟩
              refine ⟨fun e10 => ?_, fun e10 => ?_⟩
              · have f73 : (([[D.v (.int .i64 (s)), D.list (List.map rdc (atL t s))]] ++ [[D.v (.int .i64 (e)), D.list (List.map rdc (atL t e))]]).length : Int) > 60 := of_decide_eq_true e10
                refine Eq.trans (b := .tup [.one (.d (.list ([]))), .one (.d (.v (.int .i64 (2))))]) ?_ rfl
                obtain ⟨e1, e2⟩ := tcE_ok (s := s) (e := e) ht0
                simp only [List.length_append, List.length_cons, List.length_nil, List.length_map] at f73
                have hE := ctE_2 hb (show 60 < (cutK t s e).length + 2 by omega)
                rw [e1, e2, ctV_no (by rw [hE]; decide), hE]
                all_goals rfl
              · have f73 : ¬ ((([[D.v (.int .i64 (s)), D.list (List.map rdc (atL t s))]] ++ [[D.v (.int .i64 (e)), D.list (List.map rdc (atL t e))]]).length : Int) > 60) := of_decide_eq_false e10
                refine Eq.trans (b := .tup [.one (.d (.list ([[D.v (.int .i64 (s)), D.list (List.map rdc (atL t s))]] ++ [[D.v (.int .i64 (e)), D.list (List.map rdc (atL t e))]]))), .one (.d (.v (.int .i64 (0))))]) ?_ rfl
                obtain ⟨e1, e2⟩ := tcE_ok (s := s) (e := e) ht0
                simp only [List.length_append, List.length_cons, List.length_nil, List.length_map] at f73
                have hE := ctE_0 hb (show ¬ 60 < (cutK t s e).length + 2 by omega)
                rw [e1, e2, ctV_ok hE, hE, cutT, ← hM]
                rfl
                all_goals rfl
            · simp only [List.length_nil, List.length_cons] at hMe
              have hT : ([[D.v (.int .i64 (s)), D.list (List.map rdc (atL t s))]] ++ List.map keyC (m :: M)).length ≤ 1048580 := by simp only [List.length_append, List.length_cons, List.length_nil, List.length_map] at hMl ⊢; omega
              refine k_TAt (t := t) (e) rfl (tz1_tz ht) he ?_
              refine ⟨⟨row1 rfl, (by show (([[D.v (.int .i64 (s)), D.list (List.map rdc (atL t s))]] ++ List.map keyC (m :: M)).length + 1) * 32 ≤ _; omega), (by show (([[D.v (.int .i64 (s)), D.list (List.map rdc (atL t s))]] ++ List.map keyC (m :: M)).length + 1) ≤ _; omega)⟩, ?_⟩
              refine ⟨fun e11 => ?_, fun e11 => ?_⟩
              · have f73 : (([[D.v (.int .i64 (s)), D.list (List.map rdc (atL t s))]] ++ List.map keyC (m :: M) ++ [[D.v (.int .i64 (e)), D.list (List.map rdc (atL t e))]]).length : Int) > 60 := of_decide_eq_true e11
                refine Eq.trans (b := .tup [.one (.d (.list ([]))), .one (.d (.v (.int .i64 (2))))]) ?_ rfl
                obtain ⟨e1, e2⟩ := tcE_ok (s := s) (e := e) ht0
                simp only [List.length_append, List.length_cons, List.length_nil, List.length_map] at f73
                have hE := ctE_2 hb (show 60 < (cutK t s e).length + 2 by omega)
                rw [e1, e2, ctV_no (by rw [hE]; decide), hE]
                all_goals rfl
              · have f73 : ¬ ((([[D.v (.int .i64 (s)), D.list (List.map rdc (atL t s))]] ++ List.map keyC (m :: M) ++ [[D.v (.int .i64 (e)), D.list (List.map rdc (atL t e))]]).length : Int) > 60) := of_decide_eq_false e11
                refine Eq.trans (b := .tup [.one (.d (.list ([[D.v (.int .i64 (s)), D.list (List.map rdc (atL t s))]] ++ List.map keyC (m :: M) ++ [[D.v (.int .i64 (e)), D.list (List.map rdc (atL t e))]]))), .one (.d (.v (.int .i64 (0))))]) ?_ rfl
                obtain ⟨e1, e2⟩ := tcE_ok (s := s) (e := e) ht0
                simp only [List.length_append, List.length_cons, List.length_nil, List.length_map] at f73
                have hE := ctE_0 hb (show ¬ 60 < (cutK t s e).length + 2 by omega)
                rw [e1, e2, ctV_ok hE, hE, cutT, ← hM]
                rw [List.map_cons, List.map_append]
                all_goals rfl
theorem k_TCut {A : ArmV} {t : List (Int × List RV)} {s e : Int} (hA : A.ok) (ht : tz1 t) (hs : -9223372036854775808 ≤ s ∧ s ≤ 9223372036854775807) (he : -9223372036854775808 ≤ e ∧ e ≤ 9223372036854775807) (k : ∀ n, n = tcE A t s e → K (.tup [.one (.d (.list (List.map keyC (tcV A t s e)))), .one (.d (.v (.int .i64 n)))])) : Ask 43 [.val (.agg [.d (.v (.string A.name)), .d (.v (.bool A.bx.s)), .d (.v (.string A.bx.a)), .d (.v (.string A.bx.d)), .d (.v (.bool A.by'.s)), .d (.v (.string A.by'.a)), .d (.v (.string A.by'.d)), .d (.v (.bool (A.bh))), .d (.v (.bool A.bt.s)), .d (.v (.string A.bt.a)), .d (.v (.string A.bt.d)), .d (.list (List.map lk A.links))]), .val (.one (.d (.list (List.map keyD t)))), int s, int e] K := use (TCut_spec A t s e hA ht hs he) rfl (k _ rfl)
set_option maxHeartbeats 8000000 in
set_option maxRecDepth 100000 in
theorem TDelay_spec (A : ArmV) (t : List (Int × List RV)) (d : Int) (hA : A.ok) (ht : tz1 t) (hd : -9223372036854775808 ≤ d ∧ d ≤ 9223372036854775807) : Spec Tryz.prog Tab 44 [.val (.agg [.d (.v (.string A.name)), .d (.v (.bool A.bx.s)), .d (.v (.string A.bx.a)), .d (.v (.string A.bx.d)), .d (.v (.bool A.by'.s)), .d (.v (.string A.by'.a)), .d (.v (.string A.by'.d)), .d (.v (.bool (A.bh))), .d (.v (.bool A.bt.s)), .d (.v (.string A.bt.a)), .d (.v (.string A.bt.d)), .d (.list (List.map lk A.links))]), .val (.one (.d (.list (List.map keyD t)))), int d] (.tup [.one (.d (.list (List.map keyC (dlV A t d)))), .one (.d (.v (.int .i64 (dlE A t d))))]) := by
  have hA2 := hA
  have hLt : (List.map keyD t).length = t.length := List.length_map ..
  refine fn_spec Tryz.func44 rfl rfl Tryz.ntmps44 rfl (by kernel_rfl) rfl rfl ?_
  refine k_TCheck (A := A) (t := t) (by assumption) (tz1_tz ht) fun n13 hk_13_1 => ?_
  refine ⟨fun e1 => ?_, fun e1 => ?_⟩
  · have f15 : n13 ≠ 0 := bne_t e1
    refine Eq.trans (b := .tup [.one (.d (.list ([]))), .one (.d (.v (.int .i64 (n13))))]) ?_ rfl
    have hno : ¬ trackE A t = 0 := by rw [← hk_13_1]; exact f15
    obtain ⟨e1, e2⟩ := dlE_no (d := d) hno
    rw [e1, e2, ← hk_13_1]
    all_goals rfl
  · have f15 : ¬ (n13 ≠ 0) := fun hh => hh (bne_f e1)
    have ht0 : trackE A t = 0 := by rw [← hk_13_1]; exact Classical.not_not.1 f15
    have htl := (track_ok ht0).2.1
    have ht6 := len60 ht0
    refine fork (fun e2 => ?_) (fun e2 => ?_)
    · have f19 : d < -2000 := of_decide_eq_true e2
      refine ⟨fun _ => ?_, fun e => absurd e (by decide)⟩
      refine Eq.trans (b := .tup [.one (.d (.list ([]))), .one (.d (.v (.int .i64 (1))))]) ?_ rfl
      obtain ⟨e1, e2⟩ := dlE_ok (d := d) ht0
      have hbad : dlBad t d := by
        unfold dlBad
        first | omega | (rw [htx25]; omega)
      have hE := dyE_1 hbad
      rw [e1, e2, dyV_no (by rw [hE]; decide), hE]
      all_goals rfl
    · have f19 : ¬ (d < -2000) := of_decide_eq_false e2
      refine fork (fun e3 => ?_) (fun e3 => ?_)
      · have f23 : d > 2000 := of_decide_eq_true e3
        refine ⟨fun _ => ?_, fun e => absurd e (by decide)⟩
        refine Eq.trans (b := .tup [.one (.d (.list ([]))), .one (.d (.v (.int .i64 (1))))]) ?_ rfl
        obtain ⟨e1, e2⟩ := dlE_ok (d := d) ht0
        have hbad : dlBad t d := by
          unfold dlBad
          first | omega | (rw [htx25]; omega)
        have hE := dyE_1 hbad
        rw [e1, e2, dyV_no (by rw [hE]; decide), hE]
        all_goals rfl
      · have f23 : ¬ (d > 2000) := of_decide_eq_false e3
        refine get_ex (l := t) (i := 0) (by first | omega | exact Nat.mod_lt _ (by omega)) fun x25 hx25 => ?_
        have hkx25 := (track_key ht0 hx25).1
        have htx25 := tAt_is hx25
        refine k_ix 0 [D.v (.int .i64 (x25.1)), D.list (List.map rd x25.2)] (by first | rfl | omega | (rw [wrap64 _ (by omega) (by omega)]; omega) | (rw [wrap64 _ (by omega) (by omega)]; split <;> omega)) (map_at hx25) rfl ?_
        refine ⟨fun e4 => ?_, fun e4 => ?_⟩
        · have f31 : IntKind.i64.wrap (x25.1 + d) < 0 := of_decide_eq_true e4
          have hwf31 : IntKind.i64.wrap (x25.1 + d) = x25.1 + d := wrap64 _ (by omega) (by omega)
          rw [hwf31] at f31
          refine Eq.trans (b := .tup [.one (.d (.list ([]))), .one (.d (.v (.int .i64 (1))))]) ?_ rfl
          obtain ⟨e1, e2⟩ := dlE_ok (d := d) ht0
          have hbad : dlBad t d := by
            unfold dlBad
            first | omega | (rw [htx25]; omega)
          have hE := dyE_1 hbad
          rw [e1, e2, dyV_no (by rw [hE]; decide), hE]
          all_goals rfl
        · have f31 : ¬ (IntKind.i64.wrap (x25.1 + d) < 0) := of_decide_eq_false e4
          have hwf31 : IntKind.i64.wrap (x25.1 + d) = x25.1 + d := wrap64 _ (by omega) (by omega)
          rw [hwf31] at f31
          have hb : ¬ dlBad t d := by unfold dlBad; rw [htx25]; omega
          refine get_ex (l := t) (i := (t.length - 1)) (by first | omega | exact Nat.mod_lt _ (by omega)) fun x36 hx36 => ?_
          have hkx36 := (track_key ht0 hx36).1
          have htx36 := tAt_is hx36
          refine k_ix (t.length - 1) [D.v (.int .i64 (x36.1)), D.list (List.map rd x36.2)] (by first | rfl | omega | (rw [wrap64 _ (by omega) (by omega)]; omega) | (rw [wrap64 _ (by omega) (by omega)]; split <;> omega)) (map_at hx36) rfl ?_
          refine ⟨fun e5 => ?_, fun e5 => ?_⟩
          · have f41 : IntKind.i64.wrap (x36.1 + d) > 2000 := of_decide_eq_true e5
            have hwf41 : IntKind.i64.wrap (x36.1 + d) = x36.1 + d := wrap64 _ (by omega) (by omega)
            rw [hwf41] at f41
            rw [← htx36] at f41
            refine Eq.trans (b := .tup [.one (.d (.list ([]))), .one (.d (.v (.int .i64 (19))))]) ?_ rfl
            obtain ⟨e1, e2⟩ := dlE_ok (d := d) ht0
            have hE := dyE_2 hb (by omega)
            rw [e1, e2, dyV_no (by rw [hE]; decide), hE]
            all_goals rfl
          · have f41 : ¬ (IntKind.i64.wrap (x36.1 + d) > 2000) := of_decide_eq_false e5
            have hwf41 : IntKind.i64.wrap (x36.1 + d) = x36.1 + d := wrap64 _ (by omega) (by omega)
            rw [hwf41] at f41
            have hlate : ¬ 2000 < (tAt t (t.length - 1)).1 + d := by rw [htx36]; omega
            refine k_tcloneN (t := t) ht ?_
            have hLg : (List.map keyC (List.map gdK t)).length = t.length := by rw [List.length_map, List.length_map]
            refine ⟨Nat, fun n => [(2, int d), (9, .val (.one (.row 43 0))), (45, int ((List.map keyC (List.map gdK t)).length : Int)), (46, int (n : Int))],
              fun n => [(43, .row 86 2 0 (List.map keyC (dlT t d n)) true)], fun n => n ≤ t.length, fun n => t.length - n, 0, ?_, Nat.zero_le _, fun n hs => ?_⟩
            · constructor <;> (repeat' (first | exact rfl | exact True.intro | exact ⟨_, _, rfl⟩ | exact (by decide) | apply And.intro))
              all_goals first
                | (rw [dlT_0]; done)
                | exact congrArg (fun n : Int => D.v (.int .i64 n)) (by simp)
            have hT : (List.map keyC (dlT t d n)).length = t.length := by rw [List.length_map, dlT_len]
            refine ⟨fun e6 => ?_, fun e6 => ?_⟩
            · have f47 : (n : Int) < ((List.map keyC (List.map gdK t)).length : Int) := of_decide_eq_true e6
              refine k_at_own' n (by first | rfl | omega | (rw [wrap64 _ (by omega) (by omega)]; omega) | (rw [wrap64 _ (by omega) (by omega)]; split <;> omega)) (by first | omega | (simp; omega)) ?_
              refine get_ex (l := t) (i := n) (by omega) fun xk hxk => ?_
              have hkk := track_key ht0 hxk
              refine k_ldo [D.v (.int .i64 (xk.1)), D.list (List.map rdc (qsL xk.2))] _ (by rw [List.getElem?_map, dlT_at hxk]; rfl) rfl rfl ?_
              refine k_at_own' n (by first | rfl | omega | (rw [wrap64 _ (by omega) (by omega)]; omega) | (rw [wrap64 _ (by omega) (by omega)]; split <;> omega)) (by first | omega | (simp; omega)) ?_
              refine ⟨by first | omega | (simp; omega), ?_⟩
              have hwr : IntKind.i64.wrap (xk.1 + d) = xk.1 + d := wrap64 _ (by omega) (by omega)
              refine ⟨n + 1, by omega, by simp only; omega, ?_⟩
              constructor <;> (repeat' (first | exact rfl | exact True.intro | apply And.intro))
              all_goals first
                | (rw [hwr]; exact (dlT_s hxk).symm)
                | exact congrArg (fun n : Int => D.v (.int .i64 n)) (by rw [wrap64 _ (by omega) (by omega)]; omega)
                | exact congrArg (fun n : Int => D.v (.int .i64 n)) (by omega)
            · have f47 : ¬ ((n : Int) < ((List.map keyC (List.map gdK t)).length : Int)) := of_decide_eq_false e6
              refine Eq.trans (b := .tup [.one (.d (.list (List.map keyC (dlT t d n)))), .one (.d (.v (.int .i64 (0))))]) ?_ rfl
              obtain ⟨e1, e2⟩ := dlE_ok (d := d) ht0
              have hn : n = t.length := by omega
              have hE := dyE_0 hb hlate
              rw [e1, e2, dyV_ok hE, hE, ← hn]
              all_goals rfl
theorem k_TDelay {A : ArmV} {t : List (Int × List RV)} {d : Int} (hA : A.ok) (ht : tz1 t) (hd : -9223372036854775808 ≤ d ∧ d ≤ 9223372036854775807) (k : ∀ n, n = dlE A t d → K (.tup [.one (.d (.list (List.map keyC (dlV A t d)))), .one (.d (.v (.int .i64 n)))])) : Ask 44 [.val (.agg [.d (.v (.string A.name)), .d (.v (.bool A.bx.s)), .d (.v (.string A.bx.a)), .d (.v (.string A.bx.d)), .d (.v (.bool A.by'.s)), .d (.v (.string A.by'.a)), .d (.v (.string A.by'.d)), .d (.v (.bool (A.bh))), .d (.v (.bool A.bt.s)), .d (.v (.string A.bt.a)), .d (.v (.string A.bt.d)), .d (.list (List.map lk A.links))]), .val (.one (.d (.list (List.map keyD t)))), int d] K := use (TDelay_spec A t d hA ht hd) rfl (k _ rfl)
end
end Go.Proofs.YtpejadencgfnnaaGreatDoor.eng

/- Contract of gantlaw3.TrackChecks: it returns true. Printed by wip/gp_tck.py. -/
namespace Go.Proofs.YtpejadencgfnnaaGreatDoor.eng
open Go.RowKit num mem seg q held ratA ratB ratC ratD ratE vars ratF argopen
section
variable {K : AV → Prop}
def q2Q : Rat := ((1 : Int) : Rat) / ((2 : Int) : Rat)
theorem cn_q2 : cn q2Q = ⟨false, enc 1, enc 2⟩ := by
  unfold cn
  rw [show q2Q.num = 1 by decide +kernel, show q2Q.den = 2 by decide +kernel]
  rfl
theorem num_h : Spec Tryz.prog Tab 16 [int 1, int 2] (rat (cn q2Q)) := num_of (mOf1_spec 2 q2Q (by decide) (by decide) cn_q2)
def keyedL : List (Int × List RV) := [(10, natRV [0]), (20, natRV [1])]
theorem keyedL_z : tz keyedL := by
  refine ⟨by decide, fun k hk => ?_⟩
  have h : k = (10, natRV [0]) ∨ k = (20, natRV [1]) := by simpa [keyedL] using hk
  rcases h with rfl | rfl
  · exact ⟨by decide, by decide, fun x hx => Nat.le_trans (natRV_z (by decide) x hx) (by decide)⟩
  · exact ⟨by decide, by decide, fun x hx => Nat.le_trans (natRV_z (by decide) x hx) (by decide)⟩
theorem tz_nil : tz [] := ⟨by decide, fun k hk => by simp at hk⟩
set_option maxRecDepth 100000 in
theorem keyed_spec  : Spec Tryz.prog Tab 132 [] (.val (.one (.d (.list (List.map keyD keyedL))))) := by
  refine fn_spec Tryz.func132 rfl rfl Tryz.ntmps132 rfl (by kernel_rfl) rfl rfl ?_
  refine k_numsR [0] rfl (by decide) (by decide) ?_
  refine k_numsR [1] rfl (by decide) (by decide) ?_
  refine Eq.trans (b := .val (.one (.d (.list ([[D.v (.int .i64 (10)), D.list (List.map rd (natRV [0]))], [D.v (.int .i64 (20)), D.list (List.map rd (natRV [1]))]]))))) ?_ rfl
  rfl
theorem k_keyed (k : K (.val (.one (.d (.list (List.map keyD keyedL)))))) : Ask 132 [] K := use keyed_spec rfl k
theorem at15 : atL keyedL 15 = [q2Q] := by
  show itL _ _ _ _ = _
  show [itF _ (natRV [0]) (natRV [1]) 0] = _
  unfold itF
  rw [show qAt (natRV [0]) 0 = ((0 : Nat) : Rat) from (qAt_is rfl).trans (cn_q _), show qAt (natRV [1]) 0 = ((1 : Nat) : Rat) from (qAt_is rfl).trans (cn_q _)]
  decide +kernel
set_option maxHeartbeats 4000000 in
set_option maxRecDepth 100000 in
theorem tracks_spec  : Spec Tryz.prog Tab 40 [] (bool true) := by
  have o3 : (sampA [3]).ok := ok_of_zs (sampA_zs (by decide) (by decide)) (by decide)
  have a3 : armE (sampA [3]) = 0 := sampA_ok (by decide) (by decide) (by decide)
  refine fn_spec Tryz.func40 rfl rfl Tryz.ntmps40 rfl (by kernel_rfl) rfl rfl ?_
  refine k_keyed ?_
  refine k_TAt (t := keyedL) 15 rfl keyedL_z (by decide) ?_
  refine use (num_h) rfl ?_
  refine k_equalT (l := atL keyedL 15) (m := [q2Q]) at15 rfl rfl (by rw [at15]; decide) ?_
  refine k_sample [3] rfl (by decide) (by decide) ?_
  refine k_TCheck (A := (sampA [3])) (t := []) (by assumption) tz_nil fun n9 hk_9_1 => ?_
  refine Eq.trans (b := bool (n9 == 14)) ?_ rfl
  rw [show n9 = 14 from by rw [hk_9_1]; exact trackE_nil a3 rfl]; rfl
theorem k_tracks (k : K (bool true)) : Ask 40 [] K := use tracks_spec rfl k
end
end Go.Proofs.YtpejadencgfnnaaGreatDoor.eng

/- Contract of track.Speed; gantlaw3.TrackAts: it returns true. Printed by wip/gp_trackb.py. -/
namespace Go.Proofs.YtpejadencgfnnaaGreatDoor.eng
open Go.RowKit num mem seg q held ratA ratB ratC ratD ratE vars ratF argopen
section
variable {K : AV → Prop}
theorem itF_z {s : Rat} {a b : List RV} {B C : Nat} (hs : qs s ≤ C) (ha : ∀ x, x ∈ a → x.z ≤ B) (hb : ∀ x, x ∈ b → x.z ≤ B) (i : Nat) : qs (itF s a b i) ≤ 3 * B + C + 5 := by
  have q : ∀ l : List RV, (∀ x, x ∈ l → x.z ≤ B) → qs (qAt l i) ≤ B + 1 := fun l hl => by
    unfold qAt
    cases h : l[i]? with
    | none => exact Nat.le_trans (by decide +kernel : qs z0.q ≤ 1) (by omega)
    | some x => have := x.z1; have := hl x (List.mem_of_getElem? h); show qs x.q ≤ _; omega
  have := q a ha
  have := q b hb
  have := qs_sub (qAt b i) (qAt a i)
  have := qs_mul s (qAt b i - qAt a i)
  have := qs_add (qAt a i) (s * (qAt b i - qAt a i))
  unfold itF; omega
theorem s_z {n x y : Int} (hn : -9223372036854775808 ≤ n ∧ n ≤ 9223372036854775807) (hx : -9223372036854775808 ≤ x ∧ x ≤ 9223372036854775807) (hy : -9223372036854775808 ≤ y ∧ y ≤ 9223372036854775807) : qs (((n : Rat) - (x : Rat)) / ((y : Rat) - (x : Rat))) ≤ 40 := by
  have := qs_i64 hn.1 hn.2
  have := qs_i64 hx.1 hx.2
  have := qs_i64 hy.1 hy.2
  have := qs_sub (n : Rat) (x : Rat)
  have := qs_sub (y : Rat) (x : Rat)
  have := qs_div ((n : Rat) - (x : Rat)) ((y : Rat) - (x : Rat))
  omega
theorem atR_z {n : Int} (hn : -9223372036854775808 ≤ n ∧ n ≤ 9223372036854775807) : ∀ (r : List (Int × List RV)) (x : Int × List RV), tz (x :: r) → (∀ q, q ∈ atR x r n → qs q ≤ 4194304) ∧ (atR x r n).length ≤ 1048576
  | [], x, h => by
    obtain ⟨_, h2, h3⟩ := h.2 x (by simp)
    refine ⟨fun q hq => ?_, by show (qsL x.2).length ≤ _; rw [qsL_len]; exact h2⟩
    obtain ⟨y, hy, rfl⟩ := List.mem_map.1 (show q ∈ List.map RV.q x.2 from hq)
    have := y.z1; have := h3 y hy; omega
  | y :: r, x, h => by
    obtain ⟨h1, h2, h3⟩ := h.2 x (by simp)
    obtain ⟨g1, g2, g3⟩ := h.2 y (by simp)
    unfold atR
    split
    · refine ⟨fun q hq => ?_, by rw [itL_len]; omega⟩
      obtain ⟨i, _, rfl⟩ := List.mem_map.1 (show q ∈ List.map _ _ from hq)
      have := itF_z (s_z hn h1 g1) h3 g3 i; omega
    · exact atR_z hn r y ⟨by have := h.1; simp only [List.length_cons] at this ⊢; omega, fun k hk => h.2 k (List.mem_cons_of_mem _ hk)⟩
theorem atL_z {t : List (Int × List RV)} {n : Int} (ht : tz t) (hn : -9223372036854775808 ≤ n ∧ n ≤ 9223372036854775807) : (∀ q, q ∈ atL t n → qs q ≤ 4194304) ∧ (atL t n).length ≤ 1048576 := by
  cases t with
  | nil => exact ⟨fun q hq => by simp [atL] at hq, by simp [atL]⟩
  | cons x r =>
    show (∀ q, q ∈ (if n ≤ x.1 then qsL x.2 else atR x r n) → qs q ≤ 4194304) ∧ (if n ≤ x.1 then qsL x.2 else atR x r n).length ≤ 1048576
    split
    · obtain ⟨_, h2, h3⟩ := ht.2 x (by simp)
      refine ⟨fun q hq => ?_, by rw [qsL_len]; exact h2⟩
      obtain ⟨y, hy, rfl⟩ := List.mem_map.1 (show q ∈ List.map RV.q x.2 from hq)
      have := y.z1; have := h3 y hy; omega
    · exact atR_z hn r x ht
end
end Go.Proofs.YtpejadencgfnnaaGreatDoor.eng

/- Contracts: gantlaw3.good, cutOf, delayed; slices.Clone. Printed by wip/gp_edit.py. -/
namespace Go.Proofs.YtpejadencgfnnaaGreatDoor.eng
open Go.RowKit num mem seg q held ratA ratB ratC ratD ratE vars ratF argopen trq
section
variable {K : AV → Prop}
theorem k_RTrkJ {A : ArmV} {t u : List (Int × List RV)} {v : List (List D)} (hv : v = List.map keyD t ++ List.map keyD u) (hA : A.ok) (ht : tz1 t) (hu : tz1 u) (hl : t.length ≤ 60) (gl : u.length ≤ 60) (k : ∀ n, n = trackE A (t ++ u) → K (int n)) : Ask 41 [.val (.agg [.d (.v (.string A.name)), .d (.v (.bool A.bx.s)), .d (.v (.string A.bx.a)), .d (.v (.string A.bx.d)), .d (.v (.bool A.by'.s)), .d (.v (.string A.by'.a)), .d (.v (.string A.by'.d)), .d (.v (.bool (A.bh))), .d (.v (.bool A.bt.s)), .d (.v (.string A.bt.a)), .d (.v (.string A.bt.d)), .d (.list (List.map lk A.links))]), .val (.one (.d (.list v)))] K := by
  subst hv
  rw [show List.map keyD t ++ List.map keyD u = List.map keyD (t ++ u) from by rw [List.map_append]]
  exact use (RTrk_spec A _ hA (tz1_tz (tz1_app ht hu hl gl))) rfl (k _ rfl)
theorem qsL_z {l : List RV} (h : ∀ x, x ∈ l → x.z ≤ 1048577) (q : Rat) (hq : q ∈ qsL l) : qs q ≤ 8589934592 := by
  obtain ⟨x, hx, rfl⟩ := List.mem_map.1 hq
  have := x.z1; have := h x hx; omega
set_option maxRecDepth 100000 in
theorem gdd_spec (t : List (Int × List RV)) (ht : tz1 t) : Spec Tryz.prog Tab 46 [.val (.one (.d (.list (List.map keyD t))))] (.val (.one (.d (.list (List.map keyC (List.map gdK t)))))) := by
  have hLt : (List.map keyD t).length = t.length := List.length_map ..
  have ht1 := ht.1
  refine fn_spec Tryz.func46 rfl rfl Tryz.ntmps46 rfl (by kernel_rfl) rfl rfl ?_
  refine ⟨Nat, fun i => [(3, .val (.one (.row 21 0))), (6, .val (.one (.d (.list (List.map keyD t))))), (7, int ((List.map keyD t).length : Int)), (8, int (i : Int))],
    fun i => [(21, .row 86 2 0 (List.map keyC (List.map gdK (t.take i))) true)], fun i => i ≤ t.length, fun i => t.length - i, 0, ?_, Nat.zero_le _, fun i hs => ?_⟩
  · constructor <;> (repeat' (first | exact rfl | exact True.intro | exact ⟨_, _, rfl⟩ | exact (by decide) | apply And.intro))
    all_goals first | exact congrArg (fun n : Int => D.v (.int .i64 n)) (by omega) | exact congrArg (fun n : Int => D.v (.int .i64 n)) (by rw [wrap64 _ (by omega) (by omega)]; omega) | (simp; done)
  have hT : (List.map keyC (List.map gdK (t.take i))).length ≤ 1048576 := by rw [List.length_map, List.length_map, List.length_take]; omega
  refine ⟨fun e1 => ?_, fun e1 => ?_⟩
  · have f9 : (i : Int) < ((List.map keyD t).length : Int) := of_decide_eq_true e1
    refine get_ex (l := t) (i := i) (by first | omega | exact Nat.mod_lt _ (by omega)) fun x10 hx10 => ?_
    have hzx10 := ht.2 x10 (List.mem_of_getElem? hx10)
    refine k_ix i [D.v (.int .i64 (x10.1)), D.list (List.map rd x10.2)] (by first | rfl | omega | (rw [wrap64 _ (by omega) (by omega)]; omega) | (rw [wrap64 _ (by omega) (by omega)]; split <;> omega)) (map_at hx10) rfl ?_
    refine k_RList (l := x10.2) (fun x hx => Nat.le_trans (hzx10.2.2 x hx) (by decide)) hzx10.2.1 ?_
    refine k_Back (qsL x10.2) rfl (fun q hq => qsL_z (fun y hy => Nat.le_trans (hzx10.2.2 y hy) (by decide)) q hq) (by rw [qsL_len]; have := hzx10.2.1; omega) ?_
    refine ⟨⟨row1 rfl, (by show ((List.map keyC (List.map gdK (t.take i))).length + 1) * 32 ≤ _; omega), (by show ((List.map keyC (List.map gdK (t.take i))).length + 1) ≤ _; omega)⟩, ?_⟩
    refine ⟨by kernel_rfl, ?_⟩
    refine ⟨i + 1, by omega, by simp only; omega, ?_⟩
    constructor <;> (repeat' (first | exact rfl | exact True.intro | apply And.intro))
    all_goals first
      | (rw [gdT_snoc hx10]; rfl)
      | exact congrArg (fun n : Int => D.v (.int .i64 n)) (by rw [wrap64 _ (by omega) (by omega)]; omega)
      | exact congrArg (fun n : Int => D.v (.int .i64 n)) (by omega)
  · have f9 : ¬ ((i : Int) < ((List.map keyD t).length : Int)) := of_decide_eq_false e1
    refine Eq.trans (b := .val (.one (.d (.list (List.map keyC (List.map gdK (t.take i))))))) ?_ rfl
    rw [List.take_of_length_le (by omega)]
set_option maxRecDepth 100000 in
theorem gddN_spec (t : List (Int × List RV)) (ht : tz1 t) : SpecR Tryz.prog Tab 46 [.val (.one (.d (.list (List.map keyD t))))] 86 2 (List.map keyC (List.map gdK t)) := by
  have hLt : (List.map keyD t).length = t.length := List.length_map ..
  have ht1 := ht.1
  refine fn_new Tryz.func46 rfl rfl Tryz.ntmps46 rfl (by kernel_rfl) rfl rfl ?_
  refine ⟨Nat, fun i => [(3, .val (.one (.row 21 0))), (6, .val (.one (.d (.list (List.map keyD t))))), (7, int ((List.map keyD t).length : Int)), (8, int (i : Int))],
    fun i => [(21, .row 86 2 0 (List.map keyC (List.map gdK (t.take i))) true)], fun i => i ≤ t.length, fun i => t.length - i, 0, ?_, Nat.zero_le _, fun i hs => ?_⟩
  · constructor <;> (repeat' (first | exact rfl | exact True.intro | exact ⟨_, _, rfl⟩ | exact (by decide) | apply And.intro))
    all_goals first | exact congrArg (fun n : Int => D.v (.int .i64 n)) (by omega) | exact congrArg (fun n : Int => D.v (.int .i64 n)) (by rw [wrap64 _ (by omega) (by omega)]; omega) | (simp; done)
  have hT : (List.map keyC (List.map gdK (t.take i))).length ≤ 1048576 := by rw [List.length_map, List.length_map, List.length_take]; omega
  refine ⟨fun e1 => ?_, fun e1 => ?_⟩
  · have f9 : (i : Int) < ((List.map keyD t).length : Int) := of_decide_eq_true e1
    refine get_ex (l := t) (i := i) (by first | omega | exact Nat.mod_lt _ (by omega)) fun x10 hx10 => ?_
    have hzx10 := ht.2 x10 (List.mem_of_getElem? hx10)
    refine k_ix i [D.v (.int .i64 (x10.1)), D.list (List.map rd x10.2)] (by first | rfl | omega | (rw [wrap64 _ (by omega) (by omega)]; omega) | (rw [wrap64 _ (by omega) (by omega)]; split <;> omega)) (map_at hx10) rfl ?_
    refine k_RList (l := x10.2) (fun x hx => Nat.le_trans (hzx10.2.2 x hx) (by decide)) hzx10.2.1 ?_
    refine k_Back (qsL x10.2) rfl (fun q hq => qsL_z (fun y hy => Nat.le_trans (hzx10.2.2 y hy) (by decide)) q hq) (by rw [qsL_len]; have := hzx10.2.1; omega) ?_
    refine ⟨⟨row1 rfl, (by show ((List.map keyC (List.map gdK (t.take i))).length + 1) * 32 ≤ _; omega), (by show ((List.map keyC (List.map gdK (t.take i))).length + 1) ≤ _; omega)⟩, ?_⟩
    refine ⟨by kernel_rfl, ?_⟩
    refine ⟨i + 1, by omega, by simp only; omega, ?_⟩
    constructor <;> (repeat' (first | exact rfl | exact True.intro | apply And.intro))
    all_goals first
      | (rw [gdT_snoc hx10]; rfl)
      | exact congrArg (fun n : Int => D.v (.int .i64 n)) (by rw [wrap64 _ (by omega) (by omega)]; omega)
      | exact congrArg (fun n : Int => D.v (.int .i64 n)) (by omega)
  · have f9 : ¬ ((i : Int) < ((List.map keyD t).length : Int)) := of_decide_eq_false e1
    have hfin : Ob.row 86 2 0 (List.map keyC (List.map gdK (t.take i))) true = Ob.row 86 2 0 (List.map keyC (List.map gdK t)) true := by rw [List.take_of_length_le (by omega)]
    exact hfin
theorem k_gddN {t : List (Int × List RV)} (ht : tz1 t) (k : K (.new 86 2 (List.map keyC (List.map gdK t)))) : Ask 46 [.val (.one (.d (.list (List.map keyD t))))] K := useN (gddN_spec t ht) k
theorem k_gddJ {t u : List (Int × List RV)} {v : List (List D)} (hv : v = List.map keyD t ++ List.map keyD u) (ht : tz1 t) (hu : tz1 u) (hl : t.length ≤ 60) (gl : u.length ≤ 60) (k : K (.val (.one (.d (.list (List.map keyC (List.map gdK (t ++ u)))))))) : Ask 46 [.val (.one (.d (.list v)))] K := by
  subst hv
  rw [show List.map keyD t ++ List.map keyD u = List.map keyD (t ++ u) from by rw [List.map_append]]
  exact use (gdd_spec _ (tz1_app ht hu hl gl)) rfl k
set_option maxRecDepth 100000 in
theorem cloneN_spec (t : List (Int × List RV)) (ht : tz1 t) (hp : 0 < t.length) : SpecR Tryz.prog Tab 45 [.val (.one (.d (.list (List.map keyD t))))] 86 2 (List.map keyD t) := by
  have hLt : (List.map keyD t).length = t.length := List.length_map ..
  have ht1 := ht.1
  have hne : List.map keyD t ≠ [] := fun h => by rw [h] at hLt; simp at hLt; omega
  refine fn_new Tryz.func45 rfl rfl Tryz.ntmps45 rfl (by kernel_rfl) rfl rfl ?_
  refine ⟨_, ⟨⟨_, Tryz.underlying82⟩, hne, rfl⟩, ?_⟩
  refine ⟨fun e => absurd e (by decide), fun _ => ?_⟩
  refine ⟨⟨(by rw [hLt]; exact hp), (by intro r hr; simp at hr), (map_rows fun _ => rfl), (by show (0 + (List.map keyD t).length) * 32 ≤ _; (simp only [List.length_map]; omega)), (by show 0 + (List.map keyD t).length ≤ _; (simp only [List.length_map]; omega))⟩, ?_⟩
  exact rfl
theorem k_cloneN {t : List (Int × List RV)} (ht : tz1 t) (hp : 0 < t.length) (k : K (.new 86 2 (List.map keyD t))) : Ask 45 [.val (.one (.d (.list (List.map keyD t))))] K := useN (cloneN_spec t ht hp) k
theorem atL_zz {t : List (Int × List RV)} {n : Int} (ht : tz1 t) (hn : -9223372036854775808 ≤ n ∧ n ≤ 9223372036854775807) : (∀ q, q ∈ atL t n → qs q ≤ 8589934592) ∧ (atL t n).length ≤ 1099511627776 := by
  have := atL_z (tz1_tz ht) hn
  exact ⟨fun q hq => Nat.le_trans (this.1 q hq) (by decide), Nat.le_trans this.2 (by decide)⟩
theorem cutI2_z {t : List (Int × List RV)} {s e n : Int} (ht : tz1 t) (hs : -9223372036854775808 ≤ s ∧ s ≤ 9223372036854775807) (he : -9223372036854775808 ≤ e ∧ e ≤ 9223372036854775807) (h : n ∈ cutI2 t s e) : -9223372036854775808 ≤ n ∧ n ≤ 9223372036854775807 := by
  unfold cutI2 at h
  rcases List.mem_cons.1 h with rfl | h
  · exact hs
  · rcases List.mem_append.1 h with h | h
    · obtain ⟨k, hk, rfl⟩ := List.mem_map.1 h
      exact (ht.2 k (List.mem_filter.1 hk).1).1
    · rw [List.mem_singleton] at h; rw [h]; exact he
set_option maxHeartbeats 8000000 in
set_option maxRecDepth 100000 in
theorem cutOf_spec {A : ArmV} (t : List (Int × List RV)) (s e : Int) (ht0 : trackE A t = 0) (ht : tz1 t) (hs : -9223372036854775808 ≤ s ∧ s ≤ 9223372036854775807) (he : -9223372036854775808 ≤ e ∧ e ≤ 9223372036854775807) : Spec Tryz.prog Tab 47 [.val (.one (.d (.list (List.map keyD t)))), int s, int e] (.tup [.one (.d (.list (List.map keyC (ctV t s e)))), .one (.d (.v (.int .i64 (ctE t s e))))]) := by
  have hLt : (List.map keyD t).length = t.length := List.length_map ..
  have ht6 := len60 ht0
  have hs0 := hs
  have he0 := he
  refine fn_spec Tryz.func47 rfl rfl Tryz.ntmps47 rfl (by kernel_rfl) rfl rfl ?_
  refine fork (fun e1 => ?_) (fun e1 => ?_)
  · have f16 : s < 0 := of_decide_eq_true e1
    refine ⟨fun _ => ?_, fun e => absurd e (by decide)⟩
    refine Eq.trans (b := .tup [.one (.d (.list ([]))), .one (.d (.v (.int .i64 (1))))]) ?_ rfl
    have hE := ctE_1 (t := t) (show cutBad s e by unfold cutBad; omega)
    rw [ctV_no (by rw [hE]; decide), hE]
    all_goals rfl
  · have f16 : ¬ (s < 0) := of_decide_eq_false e1
    refine fork (fun e2 => ?_) (fun e2 => ?_)
    · have f21 : e ≤ s := of_decide_eq_true e2
      refine ⟨fun _ => ?_, fun e => absurd e (by decide)⟩
      refine Eq.trans (b := .tup [.one (.d (.list ([]))), .one (.d (.v (.int .i64 (1))))]) ?_ rfl
      have hE := ctE_1 (t := t) (show cutBad s e by unfold cutBad; omega)
      rw [ctV_no (by rw [hE]; decide), hE]
      all_goals rfl
    · have f21 : ¬ (e ≤ s) := of_decide_eq_false e2
      refine ⟨fun e3 => ?_, fun e3 => ?_⟩
      · have f24 : e > 2000 := of_decide_eq_true e3
        refine Eq.trans (b := .tup [.one (.d (.list ([]))), .one (.d (.v (.int .i64 (1))))]) ?_ rfl
        have hE := ctE_1 (t := t) (show cutBad s e by unfold cutBad; omega)
        rw [ctV_no (by rw [hE]; decide), hE]
        all_goals rfl
      · have f24 : ¬ (e > 2000) := of_decide_eq_false e3
        have hb : ¬ cutBad s e := by unfold cutBad; omega
        refine ⟨Nat × List (Int), fun (i, M) => [(0, .val (.one (.d (.list (List.map keyD t))))), (1, int s), (2, int e), (8, fuAV 47 [D.v (.int .i64 s)] M), (27, .val (.one (.d (.list (List.map keyD t))))), (28, int ((List.map keyD t).length : Int)), (29, int (i : Int))],
          fun (i, M) => [] ++ fuOb 3 1 iD 47 [D.v (.int .i64 s)] M, fun (i, M) => i ≤ t.length ∧ M = List.map Prod.fst (cutK (t.take i) s e), fun (i, M) => t.length - i, (0, []), ?_, ⟨Nat.zero_le _, rfl⟩, fun s hs => ?_⟩
        · constructor <;> (repeat' (first | exact rfl | exact True.intro | exact ⟨_, _, rfl⟩ | exact (by decide) | apply And.intro))
          all_goals first | exact congrArg (fun n : Int => D.v (.int .i64 n)) (by omega) | exact congrArg (fun n : Int => D.v (.int .i64 n)) (by rw [wrap64 _ (by omega) (by omega)]; omega) | (simp; done)
        obtain ⟨i, M⟩ := s
        obtain ⟨g1, hM⟩ := hs
        try simp only at g1 hM
        have hMl : M.length ≤ i := by rw [hM, List.length_map]; exact Nat.le_trans (cutK_len _ s e) (by rw [List.length_take]; omega)
        have hMe : M.length = (cutK (t.take i) s e).length := by rw [hM, List.length_map]
        refine ⟨fun e4 => ?_, fun e4 => ?_⟩
        · have f30 : (i : Int) < ((List.map keyD t).length : Int) := of_decide_eq_true e4
          rcases M with _ | ⟨m, M⟩
          · simp only [List.length_nil, List.length_cons] at hMe
            refine get_ex (l := t) (i := i) (by first | omega | exact Nat.mod_lt _ (by omega)) fun x31 hx31 => ?_
            have hzx31 := ht.2 x31 (List.mem_of_getElem? hx31)
            have hxx31 := hx31
            refine k_ix i [D.v (.int .i64 (x31.1)), D.list (List.map rd x31.2)] (by first | rfl | omega | (rw [wrap64 _ (by omega) (by omega)]; omega) | (rw [wrap64 _ (by omega) (by omega)]; split <;> omega)) (map_at hx31) rfl ?_
            refine fork (fun e5 => ?_) (fun e5 => ?_)
            · have f37 : s < x31.1 := of_decide_eq_true e5
              refine ⟨fun e6 => ?_, fun e6 => ?_⟩
              · have f42 : x31.1 < e := of_decide_eq_true e6
                refine ⟨⟨Nat.zero_lt_succ _, row1 rfl, row1 rfl, (by show (1 + 1) * 8 ≤ _; omega), (by show 1 + 1 ≤ _; omega)⟩, ?_⟩
                refine ⟨(i + 1, [x31.1]), ⟨by omega, by rw [cutK_in hx31 (by omega), List.map_append, ← hM]; rfl⟩, by simp only; omega, ?_⟩
                constructor <;> (repeat' (first | exact rfl | exact True.intro | apply And.intro))
                all_goals first
                  | (simp [iD]; done)
                  | exact congrArg (fun n : Int => D.v (.int .i64 n)) (by rw [wrap64 _ (by omega) (by omega)]; omega)
                  | exact congrArg (fun n : Int => D.v (.int .i64 n)) (by omega)
              · have f42 : ¬ (x31.1 < e) := of_decide_eq_false e6
                refine ⟨(i + 1, []), ⟨by omega, by rw [cutK_out hx31 (by omega)]; exact hM⟩, by simp only; omega, ?_⟩
                constructor <;> (repeat' (first | exact rfl | exact True.intro | apply And.intro))
                all_goals first
                  | (simp [iD]; done)
                  | exact congrArg (fun n : Int => D.v (.int .i64 n)) (by rw [wrap64 _ (by omega) (by omega)]; omega)
                  | exact congrArg (fun n : Int => D.v (.int .i64 n)) (by omega)
            · have f37 : ¬ (s < x31.1) := of_decide_eq_false e5
              refine ⟨fun e => absurd e (by decide), fun _ => ?_⟩
              refine ⟨(i + 1, []), ⟨by omega, by rw [cutK_out hx31 (by omega)]; exact hM⟩, by simp only; omega, ?_⟩
              constructor <;> (repeat' (first | exact rfl | exact True.intro | apply And.intro))
              all_goals first
                | (simp [iD]; done)
                | exact congrArg (fun n : Int => D.v (.int .i64 n)) (by rw [wrap64 _ (by omega) (by omega)]; omega)
                | exact congrArg (fun n : Int => D.v (.int .i64 n)) (by omega)
          · simp only [List.length_nil, List.length_cons] at hMe
            have hT : ([[D.v (.int .i64 (s))]] ++ List.map iD (m :: M)).length ≤ 1048580 := by simp only [List.length_append, List.length_cons, List.length_nil, List.length_map] at hMl ⊢; omega
            refine get_ex (l := t) (i := i) (by first | omega | exact Nat.mod_lt _ (by omega)) fun x31 hx31 => ?_
            have hzx31 := ht.2 x31 (List.mem_of_getElem? hx31)
            have hxx31 := hx31
            refine k_ix i [D.v (.int .i64 (x31.1)), D.list (List.map rd x31.2)] (by first | rfl | omega | (rw [wrap64 _ (by omega) (by omega)]; omega) | (rw [wrap64 _ (by omega) (by omega)]; split <;> omega)) (map_at hx31) rfl ?_
            refine fork (fun e7 => ?_) (fun e7 => ?_)
            · have f37 : s < x31.1 := of_decide_eq_true e7
              refine ⟨fun e8 => ?_, fun e8 => ?_⟩
              · have f42 : x31.1 < e := of_decide_eq_true e8
                refine ⟨⟨row1 rfl, (by show (([[D.v (.int .i64 (s))]] ++ List.map iD (m :: M)).length + 1) * 8 ≤ _; omega), (by show (([[D.v (.int .i64 (s))]] ++ List.map iD (m :: M)).length + 1) ≤ _; omega)⟩, ?_⟩
                refine ⟨(i + 1, (m :: M) ++ [x31.1]), ⟨by omega, by rw [cutK_in hx31 (by omega), List.map_append, ← hM]; rfl⟩, by simp only; omega, ?_⟩
                constructor <;> (repeat' (first | exact rfl | exact True.intro | apply And.intro))
                all_goals first
                  | (simp [iD]; done)
                  | exact congrArg (fun n : Int => D.v (.int .i64 n)) (by rw [wrap64 _ (by omega) (by omega)]; omega)
                  | exact congrArg (fun n : Int => D.v (.int .i64 n)) (by omega)
              · have f42 : ¬ (x31.1 < e) := of_decide_eq_false e8
                refine ⟨(i + 1, (m :: M)), ⟨by omega, by rw [cutK_out hx31 (by omega)]; exact hM⟩, by simp only; omega, ?_⟩
                constructor <;> (repeat' (first | exact rfl | exact True.intro | apply And.intro))
                all_goals first
                  | (simp [iD]; done)
                  | exact congrArg (fun n : Int => D.v (.int .i64 n)) (by rw [wrap64 _ (by omega) (by omega)]; omega)
                  | exact congrArg (fun n : Int => D.v (.int .i64 n)) (by omega)
            · have f37 : ¬ (s < x31.1) := of_decide_eq_false e7
              refine ⟨fun e => absurd e (by decide), fun _ => ?_⟩
              refine ⟨(i + 1, (m :: M)), ⟨by omega, by rw [cutK_out hx31 (by omega)]; exact hM⟩, by simp only; omega, ?_⟩
              constructor <;> (repeat' (first | exact rfl | exact True.intro | apply And.intro))
              all_goals first
                | (simp [iD]; done)
                | exact congrArg (fun n : Int => D.v (.int .i64 n)) (by rw [wrap64 _ (by omega) (by omega)]; omega)
                | exact congrArg (fun n : Int => D.v (.int .i64 n)) (by omega)
        · have f30 : ¬ ((i : Int) < ((List.map keyD t).length : Int)) := of_decide_eq_false e4
          have hi : i = t.length := by omega
          rw [List.take_of_length_le (by omega)] at hM hMe
          rcases M with _ | ⟨m, M⟩
          · simp only [List.length_nil, List.length_cons] at hMe
            refine ⟨⟨Nat.zero_lt_succ _, row1 rfl, row1 rfl, (by show (1 + 1) * 8 ≤ _; omega), (by show 1 + 1 ≤ _; omega)⟩, ?_⟩
            refine ⟨fun e9 => ?_, fun e9 => ?_⟩
            · have f55 : (([[D.v (.int .i64 (s))]] ++ [[D.v (.int .i64 (e))]]).length : Int) > 60 := of_decide_eq_true e9
              refine Eq.trans (b := .tup [.one (.d (.list ([]))), .one (.d (.v (.int .i64 (2))))]) ?_ rfl
              simp only [List.length_append, List.length_cons, List.length_nil, List.length_map] at f55
              have hE := ctE_2 hb (show 60 < (cutK t s e).length + 2 by omega)
              rw [ctV_no (by rw [hE]; decide), hE]
              all_goals rfl
            · have f55 : ¬ ((([[D.v (.int .i64 (s))]] ++ [[D.v (.int .i64 (e))]]).length : Int) > 60) := of_decide_eq_false e9
              have h55 : ¬ 60 < (cutK t s e).length + 2 := by simp only [List.length_append, List.length_cons, List.length_nil, List.length_map] at f55; omega
              have hlst : [[D.v (.int .i64 (s))]] ++ [[D.v (.int .i64 (e))]] = List.map iD (cutI2 t s e) := by
                unfold cutI2
                rw [← hM]; rfl
              have hl5 : (cutI2 t s e).length ≤ 60 := by
                have := congrArg List.length hlst
                rw [List.length_map] at this
                omega
              have hLi : (List.map iD (cutI2 t s e)).length = (cutI2 t s e).length := List.length_map ..
              have hl6 := congrArg List.length hlst
              rw [hLi] at hl6
              refine ⟨Nat, fun j => [(0, .val (.one (.d (.list (List.map keyD t))))), (11, .val (.one (.row 70 0))), (56, .val (.one (.row 52 0))), (57, int (([[D.v (.int .i64 (s))]] ++ [[D.v (.int .i64 (e))]]).length : Int)), (58, int (j : Int))],
                fun j => [(52, .row 3 1 0 (List.map iD (cutI2 t s e)) true), (70, .row 86 2 0 (List.map keyC (((cutI2 t s e).take j).map fun n => (n, atL t n))) true)], fun j => j ≤ (cutI2 t s e).length, fun j => (cutI2 t s e).length - j, 0, ?_, Nat.zero_le _, fun j hs => ?_⟩
              · constructor <;> (repeat' (first | exact rfl | exact True.intro | exact ⟨_, _, rfl⟩ | exact (by decide) | apply And.intro))
                all_goals first
                  | exact hlst
                  | exact hlst.symm
                  | exact congrArg (fun l : List (List D) => D.v (.int .i64 (l.length : Int))) hlst
                  | (rw [hlst]; done)
              have hT : (List.map keyC (((cutI2 t s e).take j).map fun n => (n, atL t n))).length ≤ 1048576 := by rw [List.length_map, List.length_map, List.length_take]; omega
              refine ⟨fun e10 => ?_, fun e10 => ?_⟩
              · have f59 : (j : Int) < (([[D.v (.int .i64 (s))]] ++ [[D.v (.int .i64 (e))]]).length : Int) := of_decide_eq_true e10
                refine k_at_own' j (by first | rfl | omega | (rw [wrap64 _ (by omega) (by omega)]; omega) | (rw [wrap64 _ (by omega) (by omega)]; split <;> omega)) (by first | omega | (simp; omega)) ?_
                refine get_ex (l := (cutI2 t s e)) (i := j) (by first | omega | exact Nat.mod_lt _ (by omega)) fun x61 hx61 => ?_
                have hjr : -9223372036854775808 ≤ x61 ∧ x61 ≤ 9223372036854775807 := cutI2_z ht hs0 he0 (List.mem_of_getElem? hx61)
                refine k_ldo [D.v (.int .i64 (x61))] _ (map_at hx61) rfl rfl ?_
                refine k_RAt (t := t) (x61) rfl (tz1_tz ht) hjr ?_
                refine k_Back (atL t x61) rfl (fun q hq => Nat.le_trans ((atL_zz ht hjr).1 q hq) (by decide)) (Nat.le_trans (atL_zz ht hjr).2 (by decide)) ?_
                refine ⟨⟨row1 rfl, (by show ((List.map keyC (((cutI2 t s e).take j).map fun n => (n, atL t n))).length + 1) * 32 ≤ _; omega), (by show ((List.map keyC (((cutI2 t s e).take j).map fun n => (n, atL t n))).length + 1) ≤ _; omega)⟩, ?_⟩
                refine ⟨j + 1, by omega, by simp only; omega, ?_⟩
                constructor <;> (repeat' (first | exact rfl | exact True.intro | apply And.intro))
                all_goals first
                  | (rw [List.take_add_one, hx61, List.map_append, List.map_append]; rfl)
                  | exact congrArg (fun n : Int => D.v (.int .i64 n)) (by rw [wrap64 _ (by omega) (by omega)]; omega)
                  | exact congrArg (fun n : Int => D.v (.int .i64 n)) (by omega)
              · have f59 : ¬ ((j : Int) < (([[D.v (.int .i64 (s))]] ++ [[D.v (.int .i64 (e))]]).length : Int)) := of_decide_eq_false e10
                refine Eq.trans (b := .tup [.one (.d (.list (List.map keyC (((cutI2 t s e).take j).map fun n => (n, atL t n))))), .one (.d (.v (.int .i64 (0))))]) ?_ rfl
                have hE := ctE_0 hb h55
                rw [ctV_ok hE, hE, ← cutT_at ht0 s e, List.take_of_length_le (by omega)]
                all_goals rfl
          · simp only [List.length_nil, List.length_cons] at hMe
            have hT : ([[D.v (.int .i64 (s))]] ++ List.map iD (m :: M)).length ≤ 1048580 := by simp only [List.length_append, List.length_cons, List.length_nil, List.length_map] at hMl ⊢; omega
            refine ⟨⟨row1 rfl, (by show (([[D.v (.int .i64 (s))]] ++ List.map iD (m :: M)).length + 1) * 8 ≤ _; omega), (by show (([[D.v (.int .i64 (s))]] ++ List.map iD (m :: M)).length + 1) ≤ _; omega)⟩, ?_⟩
            refine ⟨fun e11 => ?_, fun e11 => ?_⟩
            · have f55 : (([[D.v (.int .i64 (s))]] ++ List.map iD (m :: M) ++ [[D.v (.int .i64 (e))]]).length : Int) > 60 := of_decide_eq_true e11
              refine Eq.trans (b := .tup [.one (.d (.list ([]))), .one (.d (.v (.int .i64 (2))))]) ?_ rfl
              simp only [List.length_append, List.length_cons, List.length_nil, List.length_map] at f55
              have hE := ctE_2 hb (show 60 < (cutK t s e).length + 2 by omega)
              rw [ctV_no (by rw [hE]; decide), hE]
              all_goals rfl
            · have f55 : ¬ ((([[D.v (.int .i64 (s))]] ++ List.map iD (m :: M) ++ [[D.v (.int .i64 (e))]]).length : Int) > 60) := of_decide_eq_false e11
              have h55 : ¬ 60 < (cutK t s e).length + 2 := by simp only [List.length_append, List.length_cons, List.length_nil, List.length_map] at f55; omega
              have hlst : [[D.v (.int .i64 (s))]] ++ List.map iD (m :: M) ++ [[D.v (.int .i64 (e))]] = List.map iD (cutI2 t s e) := by
                unfold cutI2
                rw [← hM]; simp [iD]
              have hl5 : (cutI2 t s e).length ≤ 60 := by
                have := congrArg List.length hlst
                rw [List.length_map] at this
                omega
              have hLi : (List.map iD (cutI2 t s e)).length = (cutI2 t s e).length := List.length_map ..
              have hl6 := congrArg List.length hlst
              rw [hLi] at hl6
              refine ⟨Nat, fun j => [(0, .val (.one (.d (.list (List.map keyD t))))), (11, .val (.one (.row 70 0))), (56, .val (.one (.row 47 0))), (57, int (([[D.v (.int .i64 (s))]] ++ List.map iD (m :: M) ++ [[D.v (.int .i64 (e))]]).length : Int)), (58, int (j : Int))],
                fun j => [(47, .row 3 1 0 (List.map iD (cutI2 t s e)) true), (70, .row 86 2 0 (List.map keyC (((cutI2 t s e).take j).map fun n => (n, atL t n))) true)], fun j => j ≤ (cutI2 t s e).length, fun j => (cutI2 t s e).length - j, 0, ?_, Nat.zero_le _, fun j hs => ?_⟩
              · constructor <;> (repeat' (first | exact rfl | exact True.intro | exact ⟨_, _, rfl⟩ | exact (by decide) | apply And.intro))
                all_goals first
                  | exact hlst
                  | exact hlst.symm
                  | exact congrArg (fun l : List (List D) => D.v (.int .i64 (l.length : Int))) hlst
                  | (rw [hlst]; done)
              have hT : (List.map keyC (((cutI2 t s e).take j).map fun n => (n, atL t n))).length ≤ 1048576 := by rw [List.length_map, List.length_map, List.length_take]; omega
              refine ⟨fun e12 => ?_, fun e12 => ?_⟩
              · have f59 : (j : Int) < (([[D.v (.int .i64 (s))]] ++ List.map iD (m :: M) ++ [[D.v (.int .i64 (e))]]).length : Int) := of_decide_eq_true e12
                refine k_at_own' j (by first | rfl | omega | (rw [wrap64 _ (by omega) (by omega)]; omega) | (rw [wrap64 _ (by omega) (by omega)]; split <;> omega)) (by first | omega | (simp; omega)) ?_
                refine get_ex (l := (cutI2 t s e)) (i := j) (by first | omega | exact Nat.mod_lt _ (by omega)) fun x61 hx61 => ?_
                have hjr : -9223372036854775808 ≤ x61 ∧ x61 ≤ 9223372036854775807 := cutI2_z ht hs0 he0 (List.mem_of_getElem? hx61)
                refine k_ldo [D.v (.int .i64 (x61))] _ (map_at hx61) rfl rfl ?_
                refine k_RAt (t := t) (x61) rfl (tz1_tz ht) hjr ?_
                refine k_Back (atL t x61) rfl (fun q hq => Nat.le_trans ((atL_zz ht hjr).1 q hq) (by decide)) (Nat.le_trans (atL_zz ht hjr).2 (by decide)) ?_
                refine ⟨⟨row1 rfl, (by show ((List.map keyC (((cutI2 t s e).take j).map fun n => (n, atL t n))).length + 1) * 32 ≤ _; omega), (by show ((List.map keyC (((cutI2 t s e).take j).map fun n => (n, atL t n))).length + 1) ≤ _; omega)⟩, ?_⟩
                refine ⟨j + 1, by omega, by simp only; omega, ?_⟩
                constructor <;> (repeat' (first | exact rfl | exact True.intro | apply And.intro))
                all_goals first
                  | (rw [List.take_add_one, hx61, List.map_append, List.map_append]; rfl)
                  | exact congrArg (fun n : Int => D.v (.int .i64 n)) (by rw [wrap64 _ (by omega) (by omega)]; omega)
                  | exact congrArg (fun n : Int => D.v (.int .i64 n)) (by omega)
              · have f59 : ¬ ((j : Int) < (([[D.v (.int .i64 (s))]] ++ List.map iD (m :: M) ++ [[D.v (.int .i64 (e))]]).length : Int)) := of_decide_eq_false e12
                refine Eq.trans (b := .tup [.one (.d (.list (List.map keyC (((cutI2 t s e).take j).map fun n => (n, atL t n))))), .one (.d (.v (.int .i64 (0))))]) ?_ rfl
                have hE := ctE_0 hb h55
                rw [ctV_ok hE, hE, ← cutT_at ht0 s e, List.take_of_length_le (by omega)]
                all_goals rfl
theorem k_cutOf {A : ArmV} {t : List (Int × List RV)} {s e : Int} (ht0 : trackE A t = 0) (ht : tz1 t) (hs : -9223372036854775808 ≤ s ∧ s ≤ 9223372036854775807) (he : -9223372036854775808 ≤ e ∧ e ≤ 9223372036854775807) (k : ∀ n, n = ctE t s e → K (.tup [.one (.d (.list (List.map keyC (ctV t s e)))), .one (.d (.v (.int .i64 n)))])) : Ask 47 [.val (.one (.d (.list (List.map keyD t)))), int s, int e] K := use (cutOf_spec t s e ht0 ht hs he) rfl (k _ rfl)
set_option maxHeartbeats 8000000 in
set_option maxRecDepth 100000 in
theorem delayed_spec {A : ArmV} (t : List (Int × List RV)) (d : Int) (ht0 : trackE A t = 0) (ht : tz1 t) (hd : -9223372036854775808 ≤ d ∧ d ≤ 9223372036854775807) : Spec Tryz.prog Tab 48 [.val (.one (.d (.list (List.map keyD t)))), int d] (.tup [.one (.d (.list (List.map keyC (dyV t d)))), .one (.d (.v (.int .i64 (dyE t d))))]) := by
  have htl := (track_ok ht0).2.1
  have ht6 := len60 ht0
  have hLt : (List.map keyD t).length = t.length := List.length_map ..
  refine fn_spec Tryz.func48 rfl rfl Tryz.ntmps48 rfl (by kernel_rfl) rfl rfl ?_
  refine fork (fun e1 => ?_) (fun e1 => ?_)
  · have f10 : d < -2000 := of_decide_eq_true e1
    refine ⟨fun _ => ?_, fun e => absurd e (by decide)⟩
    refine Eq.trans (b := .tup [.one (.d (.list ([]))), .one (.d (.v (.int .i64 (1))))]) ?_ rfl
    have hbad : dlBad t d := by
      unfold dlBad
      first | omega | (rw [htx16]; omega)
    have hE := dyE_1 hbad
    rw [dyV_no (by rw [hE]; decide), hE]
    all_goals rfl
  · have f10 : ¬ (d < -2000) := of_decide_eq_false e1
    refine fork (fun e2 => ?_) (fun e2 => ?_)
    · have f14 : d > 2000 := of_decide_eq_true e2
      refine ⟨fun _ => ?_, fun e => absurd e (by decide)⟩
      refine Eq.trans (b := .tup [.one (.d (.list ([]))), .one (.d (.v (.int .i64 (1))))]) ?_ rfl
      have hbad : dlBad t d := by
        unfold dlBad
        first | omega | (rw [htx16]; omega)
      have hE := dyE_1 hbad
      rw [dyV_no (by rw [hE]; decide), hE]
      all_goals rfl
    · have f14 : ¬ (d > 2000) := of_decide_eq_false e2
      refine get_ex (l := t) (i := 0) (by first | omega | exact Nat.mod_lt _ (by omega)) fun x16 hx16 => ?_
      have hkx16 := (track_key ht0 hx16).1
      have htx16 := tAt_is hx16
      refine k_ix 0 [D.v (.int .i64 (x16.1)), D.list (List.map rd x16.2)] (by first | rfl | omega | (rw [wrap64 _ (by omega) (by omega)]; omega) | (rw [wrap64 _ (by omega) (by omega)]; split <;> omega)) (map_at hx16) rfl ?_
      refine ⟨fun e3 => ?_, fun e3 => ?_⟩
      · have f22 : IntKind.i64.wrap (x16.1 + d) < 0 := of_decide_eq_true e3
        have hwf22 : IntKind.i64.wrap (x16.1 + d) = x16.1 + d := wrap64 _ (by omega) (by omega)
        rw [hwf22] at f22
        refine Eq.trans (b := .tup [.one (.d (.list ([]))), .one (.d (.v (.int .i64 (1))))]) ?_ rfl
        have hbad : dlBad t d := by
          unfold dlBad
          first | omega | (rw [htx16]; omega)
        have hE := dyE_1 hbad
        rw [dyV_no (by rw [hE]; decide), hE]
        all_goals rfl
      · have f22 : ¬ (IntKind.i64.wrap (x16.1 + d) < 0) := of_decide_eq_false e3
        have hwf22 : IntKind.i64.wrap (x16.1 + d) = x16.1 + d := wrap64 _ (by omega) (by omega)
        rw [hwf22] at f22
        have hb : ¬ dlBad t d := by unfold dlBad; rw [htx16]; omega
        refine get_ex (l := t) (i := (t.length - 1)) (by first | omega | exact Nat.mod_lt _ (by omega)) fun x27 hx27 => ?_
        have hkx27 := (track_key ht0 hx27).1
        have htx27 := tAt_is hx27
        refine k_ix (t.length - 1) [D.v (.int .i64 (x27.1)), D.list (List.map rd x27.2)] (by first | rfl | omega | (rw [wrap64 _ (by omega) (by omega)]; omega) | (rw [wrap64 _ (by omega) (by omega)]; split <;> omega)) (map_at hx27) rfl ?_
        refine ⟨fun e4 => ?_, fun e4 => ?_⟩
        · have f32 : IntKind.i64.wrap (x27.1 + d) > 2000 := of_decide_eq_true e4
          have hwf32 : IntKind.i64.wrap (x27.1 + d) = x27.1 + d := wrap64 _ (by omega) (by omega)
          rw [hwf32] at f32
          rw [← htx27] at f32
          refine Eq.trans (b := .tup [.one (.d (.list ([]))), .one (.d (.v (.int .i64 (19))))]) ?_ rfl
          have hE := dyE_2 hb (by omega)
          rw [dyV_no (by rw [hE]; decide), hE]
          all_goals rfl
        · have f32 : ¬ (IntKind.i64.wrap (x27.1 + d) > 2000) := of_decide_eq_false e4
          have hwf32 : IntKind.i64.wrap (x27.1 + d) = x27.1 + d := wrap64 _ (by omega) (by omega)
          rw [hwf32] at f32
          have hlate : ¬ 2000 < (tAt t (t.length - 1)).1 + d := by rw [htx27]; omega
          refine k_gddN (t := t) ht ?_
          have hLg : (List.map keyC (List.map gdK t)).length = t.length := by rw [List.length_map, List.length_map]
          refine ⟨Nat, fun n => [(1, int d), (6, .val (.one (.row 34 0))), (36, int ((List.map keyC (List.map gdK t)).length : Int)), (37, int (n : Int))],
            fun n => [(34, .row 86 2 0 (List.map keyC (dlT t d n)) true)], fun n => n ≤ t.length, fun n => t.length - n, 0, ?_, Nat.zero_le _, fun n hs => ?_⟩
          · constructor <;> (repeat' (first | exact rfl | exact True.intro | exact ⟨_, _, rfl⟩ | exact (by decide) | apply And.intro))
            all_goals first
              | (rw [dlT_0]; done)
              | exact congrArg (fun n : Int => D.v (.int .i64 n)) (by simp)
          have hT : (List.map keyC (dlT t d n)).length = t.length := by rw [List.length_map, dlT_len]
          refine ⟨fun e5 => ?_, fun e5 => ?_⟩
          · have f38 : (n : Int) < ((List.map keyC (List.map gdK t)).length : Int) := of_decide_eq_true e5
            refine k_at_own' n (by first | rfl | omega | (rw [wrap64 _ (by omega) (by omega)]; omega) | (rw [wrap64 _ (by omega) (by omega)]; split <;> omega)) (by first | omega | (simp; omega)) ?_
            refine get_ex (l := t) (i := n) (by omega) fun xk hxk => ?_
            have hkk := track_key ht0 hxk
            refine k_ldo [D.v (.int .i64 (xk.1)), D.list (List.map rdc (qsL xk.2))] _ (by rw [List.getElem?_map, dlT_at hxk]; rfl) rfl rfl ?_
            refine k_at_own' n (by first | rfl | omega | (rw [wrap64 _ (by omega) (by omega)]; omega) | (rw [wrap64 _ (by omega) (by omega)]; split <;> omega)) (by first | omega | (simp; omega)) ?_
            refine ⟨by first | omega | (simp; omega), ?_⟩
            have hwr : IntKind.i64.wrap (xk.1 + d) = xk.1 + d := wrap64 _ (by omega) (by omega)
            refine ⟨n + 1, by omega, by simp only; omega, ?_⟩
            constructor <;> (repeat' (first | exact rfl | exact True.intro | apply And.intro))
            all_goals first
              | (rw [hwr]; exact (dlT_s hxk).symm)
              | exact congrArg (fun n : Int => D.v (.int .i64 n)) (by rw [wrap64 _ (by omega) (by omega)]; omega)
              | exact congrArg (fun n : Int => D.v (.int .i64 n)) (by omega)
          · have f38 : ¬ ((n : Int) < ((List.map keyC (List.map gdK t)).length : Int)) := of_decide_eq_false e5
            refine Eq.trans (b := .tup [.one (.d (.list (List.map keyC (dlT t d n)))), .one (.d (.v (.int .i64 (0))))]) ?_ rfl
            have hn : n = t.length := by omega
            have hE := dyE_0 hb hlate
            rw [dyV_ok hE, hE, ← hn]
            all_goals rfl
theorem k_delayed {A : ArmV} {t : List (Int × List RV)} {d : Int} (ht0 : trackE A t = 0) (ht : tz1 t) (hd : -9223372036854775808 ≤ d ∧ d ≤ 9223372036854775807) (k : ∀ n, n = dyE t d → K (.tup [.one (.d (.list (List.map keyC (dyV t d)))), .one (.d (.v (.int .i64 n)))])) : Ask 48 [.val (.one (.d (.list (List.map keyD t)))), int d] K := use (delayed_spec t d ht0 ht hd) rfl (k _ rfl)
end
end Go.Proofs.YtpejadencgfnnaaGreatDoor.eng

