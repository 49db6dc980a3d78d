/- Contracts of packages poly and apart for numbers of up to 260,000,000 bytes. Printed by wip/gen_wide.py. -/
import Derived.Test.YtjhoddlhdoiifaaGreatDoorGrpU
import Derived.Test.YtjhoddlhdoiifaaGreatDoorGrpG
namespace Go.Proofs.YtjhoddlhdoiifaaGreatDoor.eng
open Go.RowKit num mem seg q held ratA ratB ratC ratD ratE vars ratF trq
section
variable {x y z t u v : RV} {K : AV → Prop}
set_option maxRecDepth 100000 in
theorem left_specW (x y z t u v : RV)  (hx : x.z ≤ 260000000) (hy : y.z ≤ 260000000) (hz : z.z ≤ 260000000) (ht : t.z ≤ 260000000) (hu : u.z ≤ 260000000) (hv : v.z ≤ 260000000) : Spec Tryz.prog Tab 226 [pair x y, pair z t, pair u v] (int (sgnQ ((z.q - x.q) * (v.q - y.q) - (t.q - y.q) * (u.q - x.q)))) := by
  refine fn_spec Tryz.func226 rfl rfl Tryz.ntmps226 rfl (by kernel_rfl) rfl rfl ?_
  refine k_vSub (x := z) (y := t) (z := x) (t := y) (by omega) (by omega) (by omega) (by omega) (fun p9 q9 hk_9_2 hk_9_3 hk_9_4 hk_9_5 => ?_)
  simp only [cn_z] at hk_9_4
  simp only [cn_z] at hk_9_5
  refine k_vSub (x := u) (y := v) (z := x) (t := y) (by omega) (by omega) (by omega) (by omega) (fun p12 q12 hk_12_2 hk_12_3 hk_12_4 hk_12_5 => ?_)
  simp only [cn_z] at hk_12_4
  simp only [cn_z] at hk_12_5
  refine k_vCross (x := cn p9) (y := cn q9) (z := cn p12) (t := cn q12) (by simp only [cn_z]; omega) (by simp only [cn_z]; omega) (by simp only [cn_z]; omega) (by simp only [cn_z]; omega) (fun q13 hk_13_1 hk_13_2 => ?_)
  try simp only [cn_q] at hk_13_1
  simp only [cn_z] at hk_13_2
  refine k_sign (x := cn q13) (by simp only [cn_z]; omega) fun n14 h14 => ?_
  simp only [cn_q] at h14
  refine ⟨by kernel_rfl, ?_⟩
  refine Eq.trans (b := int n14) ?_ rfl
  subst_vars; rfl
theorem k_leftW (hx : x.z ≤ 260000000) (hy : y.z ≤ 260000000) (hz : z.z ≤ 260000000) (ht : t.z ≤ 260000000) (hu : u.z ≤ 260000000) (hv : v.z ≤ 260000000) (k : ∀ n, n = sgnQ ((z.q - x.q) * (v.q - y.q) - (t.q - y.q) * (u.q - x.q)) → K (int n)) : Ask 226 [pair x y, pair z t, pair u v] K :=
  use (left_specW x y z t u v  hx hy hz ht hu hv ) rfl (k _ rfl)
set_option maxHeartbeats 400000 in
set_option maxRecDepth 100000 in
theorem check_specW (l : List (RV × RV)) (m : Int) (hl : ∀ p, p ∈ l → p.1.z ≤ 260000000 ∧ p.2.z ≤ 260000000) (hn : l.length ≤ 1073741824) : Spec Tryz.prog Tab 211 [.val (.one (.d (.list (List.map rdv l)))), int m] (int (convE m l)) := by
  have hL : (List.map rdv l).length = l.length := List.length_map ..
  refine fn_spec Tryz.func211 rfl rfl Tryz.ntmps211 rfl (by kernel_rfl) rfl rfl ?_
  refine ⟨fun e1 => ?_, fun e1 => ?_⟩
  · have f11 : ((List.map rdv l).length : Int) > m := of_decide_eq_true e1
    refine Eq.trans (b := int 2) ?_ rfl
    rw [convE_2 (by omega)]
  · have f11 : ¬ (((List.map rdv l).length : Int) > m) := of_decide_eq_false e1
    refine ⟨fun e2 => ?_, fun e2 => ?_⟩
    · have f15 : ((List.map rdv l).length : Int) < 3 := of_decide_eq_true e2
      refine Eq.trans (b := int 3) ?_ rfl
      rw [convE_3 (by omega) (by omega)]
    · have f15 : ¬ (((List.map rdv l).length : Int) < 3) := of_decide_eq_false e2
      refine ⟨Nat, fun i => [(0, .val (.one (.d (.list (List.map rdv l))))), (5, int ((List.map rdv l).length : Int)), (18, .val (.one (.d (.list (List.map rdv l))))), (19, int ((List.map rdv l).length : Int)), (20, int (i : Int))],
        fun i => [], fun i => i ≤ l.length ∧ ∀ i' k, i' < i → 2 ≤ k → k < l.length → 0 < poly.ori (pts l i') (pts l ((i' + 1) % l.length)) (pts l ((i' + k) % l.length)), fun i => l.length - i, 0, ?_, ⟨Nat.zero_le _, fun i' k h => absurd h (Nat.not_lt_zero _)⟩, fun i hs => ?_⟩
      · constructor <;> (repeat' (first | exact rfl | exact True.intro | exact ⟨_, _, rfl⟩ | exact (by decide) | apply And.intro))
        all_goals first | exact congrArg (fun n : Int => D.v (.int .i64 n)) (by omega) | exact congrArg (fun n : Int => D.v (.int .i64 n)) (by rw [wrap64 _ (by omega) (by omega)]; omega) | (simp; done)
      obtain ⟨hi, hall⟩ := hs
      refine ⟨fun e3 => ?_, fun e3 => ?_⟩
      · have f21 : (i : Int) < ((List.map rdv l).length : Int) := of_decide_eq_true e3
        obtain ⟨x23, hx23⟩ : ∃ vv, l[i]? = some vv := ⟨_, List.getElem?_eq_getElem (by first | omega | exact Nat.mod_lt _ (by omega))⟩
        have hzx23 := hl x23 (List.mem_of_getElem? hx23)
        have hpx23 := pts_at hx23
        refine k_ix i [D.v (.bool x23.1.s), D.v (.string x23.1.a), D.v (.string x23.1.d), D.v (.bool x23.2.s), D.v (.string x23.2.a), D.v (.string x23.2.d)] (by first | rfl | omega | (rw [wrap64 _ (by omega) (by omega)]; omega)) (map_at hx23) rfl ?_
        refine ⟨Nat, fun k => [(0, .val (.one (.d (.list (List.map rdv l))))), (5, int ((List.map rdv l).length : Int)), (6, int (i : Int)), (7, .val (.one (.ptr 7 0))), (8, int (k : Int)), (18, .val (.one (.d (.list (List.map rdv l))))), (19, int ((List.map rdv l).length : Int)), (20, int (i : Int))],
          fun k => [(7, .var 25 [.d (.v (.bool x23.1.s)), .d (.v (.string x23.1.a)), .d (.v (.string x23.1.d)), .d (.v (.bool x23.2.s)), .d (.v (.string x23.2.a)), .d (.v (.string x23.2.d))])], fun k => 2 ≤ k ∧ ∀ k', 2 ≤ k' → k' < k → k' < l.length → 0 < poly.ori (pts l i) (pts l ((i + 1) % l.length)) (pts l ((i + k') % l.length)), fun k => l.length - k, 2, ?_, ⟨Nat.le_refl _, fun k' h1 h2 => by omega⟩, fun k hs => ?_⟩
        · constructor <;> (repeat' (first | exact rfl | exact True.intro | exact ⟨_, _, rfl⟩ | exact (by decide) | apply And.intro))
          all_goals first | exact congrArg (fun n : Int => D.v (.int .i64 n)) (by omega) | exact congrArg (fun n : Int => D.v (.int .i64 n)) (by rw [wrap64 _ (by omega) (by omega)]; omega) | (simp; done)
        obtain ⟨hk, hin0⟩ := hs
        refine ⟨fun e4 => ?_, fun e4 => ?_⟩
        · have f27 : (k : Int) < ((List.map rdv l).length : Int) := of_decide_eq_true e4
          refine k_remW (i + 1) l.length (by first | rfl | omega | (rw [wrap64 _ (by omega) (by omega)]; omega)) (by first | rfl | omega | (rw [wrap64 _ (by omega) (by omega)]; omega)) (by omega) ?_
          obtain ⟨x36, hx36⟩ : ∃ vv, l[((i + 1) % l.length)]? = some vv := ⟨_, List.getElem?_eq_getElem (by first | omega | exact Nat.mod_lt _ (by omega))⟩
          have hzx36 := hl x36 (List.mem_of_getElem? hx36)
          have hpx36 := pts_at hx36
          refine k_ix ((i + 1) % l.length) [D.v (.bool x36.1.s), D.v (.string x36.1.a), D.v (.string x36.1.d), D.v (.bool x36.2.s), D.v (.string x36.2.a), D.v (.string x36.2.d)] (by first | rfl | omega | (rw [wrap64 _ (by omega) (by omega)]; omega)) (map_at hx36) rfl ?_
          refine k_remW (i + k) l.length (by first | rfl | omega | (rw [wrap64 _ (by omega) (by omega)]; omega)) (by first | rfl | omega | (rw [wrap64 _ (by omega) (by omega)]; omega)) (by omega) ?_
          obtain ⟨x44, hx44⟩ : ∃ vv, l[((i + k) % l.length)]? = some vv := ⟨_, List.getElem?_eq_getElem (by first | omega | exact Nat.mod_lt _ (by omega))⟩
          have hzx44 := hl x44 (List.mem_of_getElem? hx44)
          have hpx44 := pts_at hx44
          refine k_ix ((i + k) % l.length) [D.v (.bool x44.1.s), D.v (.string x44.1.a), D.v (.string x44.1.d), D.v (.bool x44.2.s), D.v (.string x44.2.a), D.v (.string x44.2.d)] (by first | rfl | omega | (rw [wrap64 _ (by omega) (by omega)]; omega)) (map_at hx44) rfl ?_
          refine k_leftW (x := x23.1) (y := x23.2) (z := x36.1) (t := x36.2) (u := x44.1) (v := x44.2) (by omega) (by omega) (by omega) (by omega) (by omega) (by omega) (fun n46 hk_46_1 => ?_)
          refine ⟨by kernel_rfl, ?_⟩
          refine ⟨fun e5 => ?_, fun e5 => ?_⟩
          · have f47 : (x36.1.q - x23.1.q) * (x44.2.q - x23.2.q) - (x36.2.q - x23.2.q) * (x44.1.q - x23.1.q) ≤ 0 := (sg0_le hk_46_1).1 (of_decide_eq_true e5)
            refine Eq.trans (b := int 3) ?_ rfl
            rw [convE_4 (by omega) (by omega) (fun hE => by have := hE i k (by omega) hk (by omega); rw [hpx23, hpx36, hpx44] at this; exact absurd f47 (Rat.not_le.2 this))]
          · have f47 : ¬ ((x36.1.q - x23.1.q) * (x44.2.q - x23.2.q) - (x36.2.q - x23.2.q) * (x44.1.q - x23.1.q) ≤ 0) := fun hh => of_decide_eq_false e5 ((sg0_le hk_46_1).2 hh)
            have hpos : 0 < poly.ori (pts l i) (pts l ((i + 1) % l.length)) (pts l ((i + k) % l.length)) := by rw [hpx23, hpx36, hpx44]; exact Rat.not_le.1 f47
            refine ⟨k + 1, ⟨by omega, fun k' h1 h2 h3 => by
                      by_cases e : k' = k
                      · subst e; exact hpos
                      · exact hin0 k' h1 (by omega) h3⟩, by simp only; omega, ?_⟩
            constructor <;> (repeat' (first | exact rfl | exact True.intro | apply And.intro))
            all_goals first
              | exact congrArg (fun n : Int => D.v (.int .i64 n)) (by rw [wrap64 _ (by omega) (by omega)]; omega)
              | exact congrArg (fun n : Int => D.v (.int .i64 n)) (by omega)
        · have f27 : ¬ ((k : Int) < ((List.map rdv l).length : Int)) := of_decide_eq_false e4
          have hin : ∀ k', 2 ≤ k' → k' < l.length → 0 < poly.ori (pts l i) (pts l ((i + 1) % l.length)) (pts l ((i + k') % l.length)) := fun k' h1 h2 => hin0 k' h1 (by omega) h2
          refine ⟨i + 1, ⟨by omega, fun i' k h1 h2 h3 => by
                by_cases e : i' = i
                · subst e; exact hin k h2 h3
                · exact hall i' k (by omega) h2 h3⟩, by simp only; omega, ?_⟩
          constructor <;> (repeat' (first | exact rfl | exact True.intro | apply And.intro))
          all_goals first
            | exact congrArg (fun n : Int => D.v (.int .i64 n)) (by rw [wrap64 _ (by omega) (by omega)]; omega)
            | exact congrArg (fun n : Int => D.v (.int .i64 n)) (by omega)
      · have f21 : ¬ ((i : Int) < ((List.map rdv l).length : Int)) := of_decide_eq_false e3
        refine Eq.trans (b := int 0) ?_ rfl
        rw [convE_0 (by omega) (by omega) (fun i' k h1 h2 h3 => hall i' k (by omega) h2 h3)]
set_option maxRecDepth 100000 in
theorem Convex_specW (l : List (RV × RV)) (hl : ∀ p, p ∈ l → p.1.z ≤ 260000000 ∧ p.2.z ≤ 260000000) (hn : l.length ≤ 1073741824) : Spec Tryz.prog Tab 227 [.val (.one (.d (.list (List.map rdv l))))] (int (convE 64 l)) := by
  refine fn_spec Tryz.func227 rfl rfl Tryz.ntmps227 rfl (by kernel_rfl) rfl rfl ?_
  refine use (check_specW l (64) hl hn) rfl ?_
  refine Eq.trans (b := int (convE 64 l)) ?_ rfl
  subst_vars; rfl
theorem k_ConvexW {l : List (RV × RV)} (hl : ∀ p, p ∈ l → p.1.z ≤ 260000000 ∧ p.2.z ≤ 260000000) (hn : l.length ≤ 1073741824) (k : ∀ n, n = convE 64 l → K (int n)) : Ask 227 [vecs l] K := use (Convex_specW l hl hn) rfl (k _ rfl)
theorem pts_zW {l : List (RV × RV)} (hl : ∀ p, p ∈ l → p.1.z ≤ 260000000 ∧ p.2.z ≤ 260000000) (i : Nat) : qs (pts l i).1 ≤ 260000001 ∧ qs (pts l i).2 ≤ 260000001 := by
  unfold pts
  cases h : l[i]? with
  | none => simp only [Option.getD_none, z0q]; exact ⟨by decide +kernel, by decide +kernel⟩
  | some p =>
    simp only [Option.getD_some]
    have := hl p (List.mem_of_getElem? h)
    have a := p.1.z1; have b := p.2.z1
    omega
set_option maxHeartbeats 1000000 in
set_option maxRecDepth 100000 in
theorem pBox_specW (p0 : RV × RV) (l : List (RV × RV)) (hl : ∀ p, p ∈ p0 :: l → p.1.z ≤ 260000000 ∧ p.2.z ≤ 260000000) (hn : (p0 :: l).length ≤ 1073741824) : Spec Tryz.prog Tab 180 [.val (.one (.d (.list (List.map rdv (p0 :: l)))))] (box (cn (lowL p0.1.q (xsQ l))) (cn (lowL p0.2.q (ysQ l))) (cn (highL p0.1.q (xsQ l))) (cn (highL p0.2.q (ysQ l)))) := by
  have hL : (List.map rdv l).length = l.length := List.length_map ..
  have hL0 : (List.map rdv (p0 :: l)).length = l.length + 1 := by simp
  have hn0 : (p0 :: l).length = l.length + 1 := rfl
  have hp00 := hl p0 (by simp)
  refine fn_spec Tryz.func180 rfl rfl Tryz.ntmps180 rfl (by kernel_rfl) rfl rfl ?_
  refine k_vAdd (x := z0) (y := z0) (z := z0) (t := z0) (by simp only [z0z]; omega) (by simp only [z0z]; omega) (by simp only [z0z]; omega) (by simp only [z0z]; omega) (fun p10 q10 hk_10_2 hk_10_3 hk_10_4 hk_10_5 => ?_)
  simp only [cn_z, z0z] at hk_10_4
  simp only [cn_z, z0z] at hk_10_5
  refine ⟨fun e1 => ?_, fun e1 => ?_⟩
  · have f13 : ((List.map rdv (p0 :: l)).length : Int) = 0 := beq_t e1
    exfalso
    omega
  · have f13 : ¬ (((List.map rdv (p0 :: l)).length : Int) = 0) := beq_f e1
    refine k_ix 0 [D.v (.bool p0.1.s), D.v (.string p0.1.a), D.v (.string p0.1.d), D.v (.bool p0.2.s), D.v (.string p0.2.a), D.v (.string p0.2.d)] (by first | rfl | omega | (rw [wrap64 _ (by omega) (by omega)]; omega)) (map_at rfl) rfl ?_
    refine k_vAdd (x := p0.1) (y := p0.2) (z := cn p10) (t := cn q10) (by omega) (by omega) (by simp only [cn_z]; omega) (by simp only [cn_z]; omega) (fun p21 q21 hk_21_2 hk_21_3 hk_21_4 hk_21_5 => ?_)
    try simp only [cn_q] at hk_21_2
    try simp only [cn_q] at hk_21_3
    simp only [cn_z] at hk_21_4
    simp only [cn_z] at hk_21_5
    refine ⟨by kernel_rfl, ?_⟩
    refine k_drop 1 (List.map rdv l) (by first | omega | (simp; omega) | simp) (by first | rfl | omega | (rw [wrap64 _ (by omega) (by omega)]; omega)) (map_rows fun _ => rfl) (rfl) ?_
    have hz0 : p10 = 0 ∧ q10 = 0 := by rw [hk_10_2, hk_10_3, z0q, Rat.add_zero]; exact ⟨rfl, rfl⟩
    obtain rfl : p21 = p0.1.q := by rw [hk_21_2, hz0.1, Rat.add_zero]
    obtain rfl : q21 = p0.2.q := by rw [hk_21_3, hz0.2, Rat.add_zero]
    refine ⟨Nat, fun i => [(2, .val (.one (.ptr 2 0))), (5, .val (.one (.ptr 5 0))), (26, .val (.one (.d (.list (List.map rdv l))))), (27, int ((List.map rdv l).length : Int)), (28, int (i : Int))],
      fun i => [(2, .var 76 [.d (.v (.bool z0.s)), .d (.v (.string z0.a)), .d (.v (.string z0.d)), .d (.v (.bool z0.s)), .d (.v (.string z0.a)), .d (.v (.string z0.d)), .d (.v (.bool z0.s)), .d (.v (.string z0.a)), .d (.v (.string z0.d)), .d (.v (.bool z0.s)), .d (.v (.string z0.a)), .d (.v (.string z0.d))]), (5, .var 76 [.d (.v (.bool (cn (lowL p0.1.q (xsQ (l.take i)))).s)), .d (.v (.string (cn (lowL p0.1.q (xsQ (l.take i)))).a)), .d (.v (.string (cn (lowL p0.1.q (xsQ (l.take i)))).d)), .d (.v (.bool (cn (lowL p0.2.q (ysQ (l.take i)))).s)), .d (.v (.string (cn (lowL p0.2.q (ysQ (l.take i)))).a)), .d (.v (.string (cn (lowL p0.2.q (ysQ (l.take i)))).d)), .d (.v (.bool (cn (highL p0.1.q (xsQ (l.take i)))).s)), .d (.v (.string (cn (highL p0.1.q (xsQ (l.take i)))).a)), .d (.v (.string (cn (highL p0.1.q (xsQ (l.take i)))).d)), .d (.v (.bool (cn (highL p0.2.q (ysQ (l.take i)))).s)), .d (.v (.string (cn (highL p0.2.q (ysQ (l.take i)))).a)), .d (.v (.string (cn (highL p0.2.q (ysQ (l.take i)))).d))])], fun i => i ≤ l.length, fun i => l.length - i, 0, ?_, Nat.zero_le _, fun i hs => ?_⟩
    · constructor <;> (repeat' (first | exact rfl | exact True.intro | exact ⟨_, _, rfl⟩ | exact (by decide) | apply And.intro))
      all_goals first | exact congrArg (fun n : Int => D.v (.int .i64 n)) (by omega) | exact congrArg (fun n : Int => D.v (.int .i64 n)) (by rw [wrap64 _ (by omega) (by omega)]; omega) | (simp; done)
    have hz2 := xs_z (B := 260000000) (l := l) (fun p hp => hl p (by simp [hp])) i
    have hp0 := hl p0 (by simp)
    have z1 := p0.1.z1
    have z2 := p0.2.z1
    have b1 := qs_lowL (B := 260000001) (q := p0.1.q) (by omega) hz2.1
    have b2 := qs_lowL (B := 260000001) (q := p0.2.q) (by omega) hz2.2
    have b3 := qs_highL (B := 260000001) (q := p0.1.q) (by omega) hz2.1
    have b4 := qs_highL (B := 260000001) (q := p0.2.q) (by omega) hz2.2
    refine ⟨fun e2 => ?_, fun e2 => ?_⟩
    · have f29 : (i : Int) < ((List.map rdv l).length : Int) := of_decide_eq_true e2
      obtain ⟨x30, hx30⟩ : ∃ vv, l[i]? = some vv := ⟨_, List.getElem?_eq_getElem (by first | omega | exact Nat.mod_lt _ (by omega))⟩
      have hzx30 := hl x30 (List.mem_cons_of_mem _ (List.mem_of_getElem? hx30))
      refine k_ix i [D.v (.bool x30.1.s), D.v (.string x30.1.a), D.v (.string x30.1.d), D.v (.bool x30.2.s), D.v (.string x30.2.a), D.v (.string x30.2.d)] (by first | rfl | omega | (rw [wrap64 _ (by omega) (by omega)]; omega)) (map_at hx30) rfl ?_
      refine k_min (x := cn (lowL p0.1.q (xsQ (l.take i)))) (y := x30.1) (by simp only [cn_z]; omega) (by omega) fun q37 h37 z37 => ?_
      simp only [cn_z] at z37
      simp only [cn_q] at h37
      refine k_min (x := cn (lowL p0.2.q (ysQ (l.take i)))) (y := x30.2) (by simp only [cn_z]; omega) (by omega) fun q43 h43 z43 => ?_
      simp only [cn_z] at z43
      simp only [cn_q] at h43
      refine ⟨by kernel_rfl, ?_⟩
      refine k_max (x := cn (highL p0.1.q (xsQ (l.take i)))) (y := x30.1) (by simp only [cn_z]; omega) (by omega) fun q51 h51 z51 => ?_
      simp only [cn_z] at z51
      simp only [cn_q] at h51
      refine k_max (x := cn (highL p0.2.q (ysQ (l.take i)))) (y := x30.2) (by simp only [cn_z]; omega) (by omega) fun q57 h57 z57 => ?_
      simp only [cn_z] at z57
      simp only [cn_q] at h57
      refine ⟨by kernel_rfl, ?_⟩
      have hxs := xs_snoc hx30
      obtain rfl : q37 = lowL p0.1.q (xsQ (l.take (i + 1))) := by rw [h37, hxs.1, lowL_snoc]
      obtain rfl : q43 = lowL p0.2.q (ysQ (l.take (i + 1))) := by rw [h43, hxs.2, lowL_snoc]
      obtain rfl : q51 = highL p0.1.q (xsQ (l.take (i + 1))) := by rw [h51, hxs.1, highL_snoc]
      obtain rfl : q57 = highL p0.2.q (ysQ (l.take (i + 1))) := by rw [h57, hxs.2, highL_snoc]
      refine ⟨i + 1, by omega, by simp only; omega, ?_⟩
      constructor <;> (repeat' (first | exact rfl | exact True.intro | apply And.intro))
      all_goals first
        | exact congrArg (fun n : Int => D.v (.int .i64 n)) (by rw [wrap64 _ (by omega) (by omega)]; omega)
        | exact congrArg (fun n : Int => D.v (.int .i64 n)) (by omega)
    · have f29 : ¬ ((i : Int) < ((List.map rdv l).length : Int)) := of_decide_eq_false e2
      refine Eq.trans (b := box (cn (lowL p0.1.q (xsQ (l.take i)))) (cn (lowL p0.2.q (ysQ (l.take i)))) (cn (highL p0.1.q (xsQ (l.take i)))) (cn (highL p0.2.q (ysQ (l.take i))))) ?_ rfl
      rw [List.take_of_length_le (show l.length ≤ i by omega)]
theorem k_pBoxW {p0 : RV × RV} {l : List (RV × RV)} (hl : ∀ p, p ∈ p0 :: l → p.1.z ≤ 260000000 ∧ p.2.z ≤ 260000000) (hn : (p0 :: l).length ≤ 1073741824) (k : ∀ p q r u, p = lowL p0.1.q (xsQ l) → q = lowL p0.2.q (ysQ l) → r = highL p0.1.q (xsQ l) → u = highL p0.2.q (ysQ l) → K (box (cn p) (cn q) (cn r) (cn u))) : Ask 180 [vecs (p0 :: l)] K := use (pBox_specW p0 l hl hn) rfl (k _ _ _ _ rfl rfl rfl rfl)
theorem k_pBoxAW {l : List (RV × RV)} (hl : ∀ p, p ∈ l → p.1.z ≤ 260000000 ∧ p.2.z ≤ 260000000) (hn : l.length ≤ 1073741824) (k : ∀ p q r u, p = bx1 l → q = bx2 l → r = bx3 l → u = bx4 l → K (box (cn p) (cn q) (cn r) (cn u))) : Ask 180 [vecs l] K := by
  cases l with
  | nil => exact k_pBox0 rfl (k _ _ _ _ rfl rfl rfl rfl)
  | cons p l => exact k_pBoxW hl hn k
theorem bey_zW {a b : List (RV × RV)} (ha : ∀ p, p ∈ a → p.1.z ≤ 260000000 ∧ p.2.z ≤ 260000000) : (beyV a b).1.z ≤ 520000010 ∧ (beyV a b).2.z ≤ 520000010 := by
  unfold beyV
  split
  · rename_i i _
    have h1 := pts_zW ha i; have h2 := pts_zW ha ((i + 1) % a.length)
    have := qs_sub (pts a ((i + 1) % a.length)).2 (pts a i).2; have := qs_sub (pts a ((i + 1) % a.length)).1 (pts a i).1; have := qs_neg ((pts a ((i + 1) % a.length)).1 - (pts a i).1)
    simp only [cn_z, outN]; omega
  · exact ⟨Nat.zero_le _, Nat.zero_le _⟩
set_option maxRecDepth 100000 in
theorem both_specW (a b : List (RV × RV)) (ha : ∀ p, p ∈ a → p.1.z ≤ 260000000 ∧ p.2.z ≤ 260000000) (hb : ∀ p, p ∈ b → p.1.z ≤ 260000000 ∧ p.2.z ≤ 260000000) (hna : a.length ≤ 1073741824) (hnb : b.length ≤ 1073741824) : Spec Tryz.prog Tab 213 [.val (.one (.d (.list (List.map rdv a)))), .val (.one (.d (.list (List.map rdv b))))] (int (bothE a b)) := by
  refine fn_spec Tryz.func213 rfl rfl Tryz.ntmps213 rfl (by kernel_rfl) rfl rfl ?_
  refine k_ConvexW (l := a) (by assumption) (by omega) (fun n7 hk_7_1 => ?_)
  refine ⟨fun e1 => ?_, fun e1 => ?_⟩
  · have f9 : n7 ≠ 0 := bne_t e1
    refine Eq.trans (b := int n7) ?_ rfl
    rw [bothE, if_neg (by omega)]; exact congrArg int (by omega)
  · have f9 : ¬ (n7 ≠ 0) := fun hh => hh (bne_f e1)
    refine k_ConvexW (l := b) (by assumption) (by omega) (fun n12 hk_12_1 => ?_)
    refine Eq.trans (b := int n12) ?_ rfl
    rw [bothE, if_pos (by omega)]; exact congrArg int (by omega)
theorem k_bothW {a b : List (RV × RV)} (ha : ∀ p, p ∈ a → p.1.z ≤ 260000000 ∧ p.2.z ≤ 260000000) (hb : ∀ p, p ∈ b → p.1.z ≤ 260000000 ∧ p.2.z ≤ 260000000) (hna : a.length ≤ 1073741824) (hnb : b.length ≤ 1073741824) (k : ∀ n, n = bothE a b → K (int n)) : Ask 213 [vecs a, vecs b] K := use (both_specW a b ha hb hna hnb) rfl (k _ rfl)
set_option maxHeartbeats 2000000 in
set_option maxRecDepth 100000 in
theorem beyond_specW (a b : List (RV × RV)) (ha : ∀ p, p ∈ a → p.1.z ≤ 260000000 ∧ p.2.z ≤ 260000000) (hb : ∀ p, p ∈ b → p.1.z ≤ 260000000 ∧ p.2.z ≤ 260000000) (hna : a.length ≤ 1073741824) (hnb : b.length ≤ 1073741824) : Spec Tryz.prog Tab 214 [.val (.one (.d (.list (List.map rdv a)))), .val (.one (.d (.list (List.map rdv b))))] (.tup [.agg [.d (.v (.bool ((beyV a b).1).s)), .d (.v (.string ((beyV a b).1).a)), .d (.v (.string ((beyV a b).1).d)), .d (.v (.bool ((beyV a b).2).s)), .d (.v (.string ((beyV a b).2).a)), .d (.v (.string ((beyV a b).2).d))], .one (.d (.v (.bool ((bey a b).isSome))))]) := by
  have hLa : (List.map rdv a).length = a.length := List.length_map ..
  have hLb : (List.map rdv b).length = b.length := List.length_map ..
  refine fn_spec Tryz.func214 rfl rfl Tryz.ntmps214 rfl (by kernel_rfl) rfl rfl ?_
  refine ⟨Nat, fun i => [(0, .val (.one (.d (.list (List.map rdv a))))), (1, .val (.one (.d (.list (List.map rdv b))))), (4, .val (.one (.ptr 4 0))), (13, .val (.one (.d (.list (List.map rdv a))))), (14, int ((List.map rdv a).length : Int)), (15, int (i : Int))],
    fun i => [(4, .var 25 [.d (.v (.bool z0.s)), .d (.v (.string z0.a)), .d (.v (.string z0.d)), .d (.v (.bool z0.s)), .d (.v (.string z0.a)), .d (.v (.string z0.d))])], fun i => i ≤ a.length ∧ ∀ i', i' < i → farTo (pts a) a.length (pts b) i' b.length = false, fun i => a.length - i, 0, ?_, ⟨Nat.zero_le _, fun i' h => absurd h (Nat.not_lt_zero _)⟩, fun i hs => ?_⟩
  · constructor <;> (repeat' (first | exact rfl | exact True.intro | exact ⟨_, _, rfl⟩ | exact (by decide) | apply And.intro))
    all_goals first | exact congrArg (fun n : Int => D.v (.int .i64 n)) (by omega) | exact congrArg (fun n : Int => D.v (.int .i64 n)) (by rw [wrap64 _ (by omega) (by omega)]; omega) | (simp; done)
  obtain ⟨hi, h1⟩ := hs
  refine ⟨fun e1 => ?_, fun e1 => ?_⟩
  · have f16 : (i : Int) < ((List.map rdv a).length : Int) := of_decide_eq_true e1
    obtain ⟨x18, hx18⟩ : ∃ vv, a[i]? = some vv := ⟨_, List.getElem?_eq_getElem (by first | omega | exact Nat.mod_lt _ (by omega))⟩
    have hzx18 := ha x18 (List.mem_of_getElem? hx18)
    have hpx18 := pts_at hx18
    refine k_ix i [D.v (.bool x18.1.s), D.v (.string x18.1.a), D.v (.string x18.1.d), D.v (.bool x18.2.s), D.v (.string x18.2.a), D.v (.string x18.2.d)] (by first | rfl | omega | (rw [wrap64 _ (by omega) (by omega)]; omega)) (map_at hx18) rfl ?_
    refine k_remW (i + 1) a.length (by first | rfl | omega | (rw [wrap64 _ (by omega) (by omega)]; omega)) (by first | rfl | omega | (rw [wrap64 _ (by omega) (by omega)]; omega)) (by omega) ?_
    obtain ⟨x26, hx26⟩ : ∃ vv, a[((i + 1) % a.length)]? = some vv := ⟨_, List.getElem?_eq_getElem (by first | omega | exact Nat.mod_lt _ (by omega))⟩
    have hzx26 := ha x26 (List.mem_of_getElem? hx26)
    have hpx26 := pts_at hx26
    refine k_ix ((i + 1) % a.length) [D.v (.bool x26.1.s), D.v (.string x26.1.a), D.v (.string x26.1.d), D.v (.bool x26.2.s), D.v (.string x26.2.a), D.v (.string x26.2.d)] (by first | rfl | omega | (rw [wrap64 _ (by omega) (by omega)]; omega)) (map_at hx26) rfl ?_
    refine k_vSub (x := x26.1) (y := x26.2) (z := x18.1) (t := x18.2) (by omega) (by omega) (by omega) (by omega) (fun p29 q29 hk_29_2 hk_29_3 hk_29_4 hk_29_5 => ?_)
    simp only [cn_z] at hk_29_4
    simp only [cn_z] at hk_29_5
    refine ⟨by kernel_rfl, ?_⟩
    refine k_neg (x := cn p29) (by simp only [cn_z]; omega) fun q34 h34 z34 => ?_
    simp only [cn_z] at z34
    simp only [cn_q] at h34
    refine ⟨by kernel_rfl, ?_⟩
    refine ⟨Nat, fun k => [(0, .val (.one (.d (.list (List.map rdv a))))), (1, .val (.one (.d (.list (List.map rdv b))))), (4, .val (.one (.ptr 4 0))), (7, .val (.one (.ptr 7 0))), (9, .val (.one (.ptr 9 0))), (10, bool (farTo (pts a) a.length (pts b) i k)), (13, .val (.one (.d (.list (List.map rdv a))))), (14, int ((List.map rdv a).length : Int)), (15, int (i : Int)), (36, .val (.one (.d (.list (List.map rdv b))))), (37, int ((List.map rdv b).length : Int)), (38, int (k : Int))],
      fun k => [(4, .var 25 [.d (.v (.bool z0.s)), .d (.v (.string z0.a)), .d (.v (.string z0.d)), .d (.v (.bool z0.s)), .d (.v (.string z0.a)), .d (.v (.string z0.d))]), (7, .var 25 [.d (.v (.bool x18.1.s)), .d (.v (.string x18.1.a)), .d (.v (.string x18.1.d)), .d (.v (.bool x18.2.s)), .d (.v (.string x18.2.a)), .d (.v (.string x18.2.d))]), (9, .var 25 [.d (.v (.bool (cn q29).s)), .d (.v (.string (cn q29).a)), .d (.v (.string (cn q29).d)), .d (.v (.bool (cn q34).s)), .d (.v (.string (cn q34).a)), .d (.v (.string (cn q34).d))])], fun k => k ≤ b.length, fun k => b.length - k, 0, ?_, Nat.zero_le _, fun k hs => ?_⟩
    · constructor <;> (repeat' (first | exact rfl | exact True.intro | exact ⟨_, _, rfl⟩ | exact (by decide) | apply And.intro))
      all_goals first | exact congrArg (fun n : Int => D.v (.int .i64 n)) (by omega) | exact congrArg (fun n : Int => D.v (.int .i64 n)) (by rw [wrap64 _ (by omega) (by omega)]; omega) | (simp; done)
    refine ⟨fun e2 => ?_, fun e2 => ?_⟩
    · have f39 : (k : Int) < ((List.map rdv b).length : Int) := of_decide_eq_true e2
      obtain ⟨x40, hx40⟩ : ∃ vv, b[k]? = some vv := ⟨_, List.getElem?_eq_getElem (by first | omega | exact Nat.mod_lt _ (by omega))⟩
      have hzx40 := hb x40 (List.mem_of_getElem? hx40)
      have hpx40 := pts_at hx40
      refine k_ix k [D.v (.bool x40.1.s), D.v (.string x40.1.a), D.v (.string x40.1.d), D.v (.bool x40.2.s), D.v (.string x40.2.a), D.v (.string x40.2.d)] (by first | rfl | omega | (rw [wrap64 _ (by omega) (by omega)]; omega)) (map_at hx40) rfl ?_
      refine fork (fun e3 => ?_) (fun e3 => ?_)
      · have f43 : farTo (pts a) a.length (pts b) i k = true := e3
        refine k_vSub (x := x40.1) (y := x40.2) (z := x18.1) (t := x18.2) (by omega) (by omega) (by omega) (by omega) (fun p47 q47 hk_47_2 hk_47_3 hk_47_4 hk_47_5 => ?_)
        simp only [cn_z] at hk_47_4
        simp only [cn_z] at hk_47_5
        refine k_vDot (x := cn q29) (y := cn q34) (z := cn p47) (t := cn q47) (by simp only [cn_z]; omega) (by simp only [cn_z]; omega) (by simp only [cn_z]; omega) (by simp only [cn_z]; omega) (fun q48 hk_48_1 hk_48_2 => ?_)
        try simp only [cn_q] at hk_48_1
        simp only [cn_z] at hk_48_2
        refine k_sign (x := cn q48) (by simp only [cn_z]; omega) fun n49 h49 => ?_
        simp only [cn_q] at h49
        refine ⟨by kernel_rfl, ?_⟩
        have hfar : farTo (pts a) a.length (pts b) i (k + 1) = (decide (n49 > 0)) := by
          rw [farTo_succ, f43]
          rw [Bool.true_and]; refine decide_eq_decide.2 ((sg0_gt h49).trans ?_).symm; rw [hk_48_1, hk_47_2, hk_47_3, h34]; unfold outN; rw [hpx18, hpx26, hpx40, hk_29_2, hk_29_3]
        refine ⟨k + 1, by omega, by simp only; omega, ?_⟩
        constructor <;> (repeat' (first | exact rfl | exact True.intro | apply And.intro))
        all_goals first
          | exact congrArg (fun b => D.v (.bool b)) hfar
          | exact congrArg (fun n : Int => D.v (.int .i64 n)) (by rw [wrap64 _ (by omega) (by omega)]; omega)
          | exact congrArg (fun n : Int => D.v (.int .i64 n)) (by omega)
      · have f43 : ¬ (farTo (pts a) a.length (pts b) i k = true) := fun hh => by rw [hh] at e3; exact Bool.noConfusion e3
        refine ⟨by kernel_rfl, ?_⟩
        have hfar : farTo (pts a) a.length (pts b) i (k + 1) = false := by rw [farTo_succ, Bool.eq_false_iff.2 f43]; rfl
        refine ⟨k + 1, by omega, by simp only; omega, ?_⟩
        constructor <;> (repeat' (first | exact rfl | exact True.intro | apply And.intro))
        all_goals first
          | exact congrArg (fun b => D.v (.bool b)) hfar
          | exact congrArg (fun n : Int => D.v (.int .i64 n)) (by rw [wrap64 _ (by omega) (by omega)]; omega)
          | exact congrArg (fun n : Int => D.v (.int .i64 n)) (by omega)
    · have f39 : ¬ ((k : Int) < ((List.map rdv b).length : Int)) := of_decide_eq_false e2
      have hk2 : b.length = k := by omega
      refine ⟨fun e4 => ?_, fun e4 => ?_⟩
      · have f53 : farTo (pts a) a.length (pts b) i k = true := e4
        refine Eq.trans (b := .tup [.agg [.d (.v (.bool (cn q29).s)), .d (.v (.string (cn q29).a)), .d (.v (.string (cn q29).d)), .d (.v (.bool (cn q34).s)), .d (.v (.string (cn q34).a)), .d (.v (.string (cn q34).d))], .one (.d (.v (.bool (true))))]) ?_ rfl
        have he : bey a b = some i := find_first (by omega) h1 (by rw [hk2]; exact f53)
        have hv : beyV a b = (cn q29, cn q34) := by
          simp only [beyV, he]; unfold outN; rw [hpx18, hpx26, h34]; subst_vars; rfl
        rw [he, hv]; rfl
      · have f53 : ¬ (farTo (pts a) a.length (pts b) i k = true) := fun hh => by rw [hh] at e4; exact Bool.noConfusion e4
        have hno : farTo (pts a) a.length (pts b) i b.length = false := by rw [hk2]; exact Bool.eq_false_iff.2 f53
        refine ⟨i + 1, ⟨by omega, fun i' g => by
          by_cases e : i' = i
          · subst e; exact hno
          · exact h1 i' (by omega)⟩, by simp only; omega, ?_⟩
        constructor <;> (repeat' (first | exact rfl | exact True.intro | apply And.intro))
        all_goals first
          | exact congrArg (fun n : Int => D.v (.int .i64 n)) (by rw [wrap64 _ (by omega) (by omega)]; omega)
          | exact congrArg (fun n : Int => D.v (.int .i64 n)) (by omega)
  · have f16 : ¬ ((i : Int) < ((List.map rdv a).length : Int)) := of_decide_eq_false e1
    refine Eq.trans (b := .tup [.agg [.d (.v (.bool z0.s)), .d (.v (.string z0.a)), .d (.v (.string z0.d)), .d (.v (.bool z0.s)), .d (.v (.string z0.a)), .d (.v (.string z0.d))], .one (.d (.v (.bool (false))))]) ?_ rfl
    have he : bey a b = none := find_none fun j hj => h1 j (by omega)
    have hv : beyV a b = (z0, z0) := by simp only [beyV, he]
    rw [he, hv]; rfl
theorem k_beyW {a b : List (RV × RV)} (ha : ∀ p, p ∈ a → p.1.z ≤ 260000000 ∧ p.2.z ≤ 260000000) (hb : ∀ p, p ∈ b → p.1.z ≤ 260000000 ∧ p.2.z ≤ 260000000) (hna : a.length ≤ 1073741824) (hnb : b.length ≤ 1073741824) (k : (beyV a b).1.z ≤ 520000010 → (beyV a b).2.z ≤ 520000010 → K (two (pair (beyV a b).1 (beyV a b).2) (bool (bey a b).isSome))) : Ask 214 [vecs a, vecs b] K := use (beyond_specW a b ha hb hna hnb) rfl (k (bey_zW ha).1 (bey_zW ha).2)
set_option maxRecDepth 100000 in
theorem meet_specW (a b : List (RV × RV)) (ha : ∀ p, p ∈ a → p.1.z ≤ 260000000 ∧ p.2.z ≤ 260000000) (hb : ∀ p, p ∈ b → p.1.z ≤ 260000000 ∧ p.2.z ≤ 260000000) (hna : a.length ≤ 1073741824) (hnb : b.length ≤ 1073741824) : Spec Tryz.prog Tab 181 [.val (.one (.d (.list (List.map rdv a)))), .val (.one (.d (.list (List.map rdv b))))] (.tup [.one (.d (.v (.bool (meetB a b)))), .one (.d (.v (.int .i64 (bothE a b))))]) := by
  have hLa : (List.map rdv a).length = a.length := List.length_map ..
  have hLb : (List.map rdv b).length = b.length := List.length_map ..
  refine fn_spec Tryz.func181 rfl rfl Tryz.ntmps181 rfl (by kernel_rfl) rfl rfl ?_
  refine k_bothW (a := a) (b := b) (by assumption) (by assumption) (by omega) (by omega) (fun n13 hk_13_1 => ?_)
  refine ⟨fun e1 => ?_, fun e1 => ?_⟩
  · have f15 : n13 ≠ 0 := bne_t e1
    refine Eq.trans (b := .tup [.one (.d (.v (.bool (false)))), .one (.d (.v (.int .i64 (n13))))]) ?_ rfl
    subst hk_13_1
    rw [show meetB a b = false from by unfold meetB; rw [beq_false_of_ne f15]; rfl]
  · have f15 : ¬ (n13 ≠ 0) := fun hh => hh (bne_f e1)
    refine k_beyW (a := a) (b := b) (by assumption) (by assumption) (by omega) (by omega) (fun hk_20_0 hk_20_1 => ?_)
    refine k_beyW (a := b) (b := a) (by assumption) (by assumption) (by omega) (by omega) (fun hk_26_0 hk_26_1 => ?_)
    refine fork (fun e2 => ?_) (fun e2 => ?_)
    · refine Eq.trans (b := .tup [.one (.d (.v (.bool (!((bey b a).isSome))))), .one (.d (.v (.int .i64 (0))))]) ?_ rfl
      have hb0 : bothE a b = 0 := by omega
      have hm : meetB a b = (!((bey b a).isSome)) := by
        unfold meetB; rw [hb0]; revert e2; cases bey a b <;> cases bey b a <;> intro e2 <;> first | rfl | (simp at e2)
      rw [hm, hb0]
    · refine Eq.trans (b := .tup [.one (.d (.v (.bool (false)))), .one (.d (.v (.int .i64 (0))))]) ?_ rfl
      have hb0 : bothE a b = 0 := by omega
      have hm : meetB a b = (false) := by
        unfold meetB; rw [hb0]; revert e2; cases bey a b <;> cases bey b a <;> intro e2 <;> first | rfl | (simp at e2)
      rw [hm, hb0]
theorem k_meetW {a b : List (RV × RV)} (ha : ∀ p, p ∈ a → p.1.z ≤ 260000000 ∧ p.2.z ≤ 260000000) (hb : ∀ p, p ∈ b → p.1.z ≤ 260000000 ∧ p.2.z ≤ 260000000) (hna : a.length ≤ 1073741824) (hnb : b.length ≤ 1073741824) (k : ∀ n, n = bothE a b → K (two (bool (meetB a b)) (int n))) : Ask 181 [vecs a, vecs b] K := use (meet_specW a b ha hb hna hnb) rfl (k _ rfl)
set_option maxRecDepth 100000 in
theorem valid_specW (x y z t : RV) (hx : x.z ≤ 260000000) (hy : y.z ≤ 260000000) (hz : z.z ≤ 260000000) (ht : t.z ≤ 260000000) (b : Bool) (hb : b = true ↔ bxOk x y z t) : Spec Tryz.prog Tab 212 [box x y z t] (bool b) := by
  refine fn_spec Tryz.func212 rfl rfl Tryz.ntmps212 rfl (by kernel_rfl) rfl rfl ?_
  refine k_cmp (x := x) (y := z) (by omega) (by omega) fun n9 h9 => ?_
  refine fork (fun e1 => ?_) (fun e1 => ?_)
  · have f11 : x.q ≤ z.q := (cq_le h9).1 (of_decide_eq_true e1)
    refine k_cmp (x := y) (y := t) (by omega) (by omega) fun n18 h18 => ?_
    refine Eq.trans (b := bool (decide (n18 ≤ 0))) ?_ rfl
    have e : b = (decide (n18 ≤ 0)) := by
      cases b with
      | true => exact (decide_eq_true ((cq_le h18).2 (hb.1 rfl).2)).symm
      | false => exact (decide_eq_false fun hh => Bool.noConfusion (hb.2 ⟨f11, (cq_le h18).1 hh⟩)).symm
    rw [e]
  · have f11 : ¬ (x.q ≤ z.q) := fun hh => of_decide_eq_false e1 ((cq_le h9).2 hh)
    refine Eq.trans (b := bool false) ?_ rfl
    have e : b = false := by
      cases b with
      | true => exact absurd (hb.1 rfl).1 f11
      | false => rfl
    rw [e]
theorem k_valid_cW {x y z t : RV} (hx : x.z ≤ 260000000) (hy : y.z ≤ 260000000) (hz : z.z ≤ 260000000) (ht : t.z ≤ 260000000) (k1 : bxOk x y z t → K (bool true)) (k0 : ¬ bxOk x y z t → K (bool false)) : Ask 212 [box x y z t] K := by
  by_cases h : bxOk x y z t
  · exact use (valid_specW x y z t hx hy hz ht true ⟨fun _ => h, fun _ => rfl⟩) rfl (k1 h)
  · exact use (valid_specW x y z t hx hy hz ht false ⟨fun e => Bool.noConfusion e, fun e => absurd e h⟩) rfl (k0 h)
set_option maxHeartbeats 1000000 in
set_option maxRecDepth 100000 in
theorem boxes_specW (x y z t x2 y2 z2 t2 : RV) (hx : x.z ≤ 260000000) (hy : y.z ≤ 260000000) (hz : z.z ≤ 260000000) (ht : t.z ≤ 260000000) (hx2 : x2.z ≤ 260000000) (hy2 : y2.z ≤ 260000000) (hz2 : z2.z ≤ 260000000) (ht2 : t2.z ≤ 260000000) : Spec Tryz.prog Tab 179 [box x y z t, box x2 y2 z2 t2] (bool (decide (bxMeet x y z t x2 y2 z2 t2))) := by
  refine fn_spec Tryz.func179 rfl rfl Tryz.ntmps179 rfl (by kernel_rfl) rfl rfl ?_
  refine k_valid_cW (by omega) (by omega) (by omega) (by omega) (fun f6 => ?_) (fun f6 => ?_)
  · refine k_valid_cW (by omega) (by omega) (by omega) (by omega) (fun f9 => ?_) (fun f9 => ?_)
    · refine k_cmp (x := x) (y := z2) (by omega) (by omega) fun n18 h18 => ?_
      refine fork (fun e1 => ?_) (fun e1 => ?_)
      · have f21 : x.q ≤ z2.q := (cq_le h18).1 (of_decide_eq_true e1)
        refine k_cmp (x := x2) (y := z) (by omega) (by omega) fun n28 h28 => ?_
        refine fork (fun e2 => ?_) (fun e2 => ?_)
        · have f31 : x2.q ≤ z.q := (cq_le h28).1 (of_decide_eq_true e2)
          refine k_cmp (x := y) (y := t2) (by omega) (by omega) fun n38 h38 => ?_
          refine fork (fun e3 => ?_) (fun e3 => ?_)
          · have f41 : y.q ≤ t2.q := (cq_le h38).1 (of_decide_eq_true e3)
            refine k_cmp (x := y2) (y := t) (by omega) (by omega) fun n48 h48 => ?_
            refine Eq.trans (b := bool (decide (n48 ≤ 0))) ?_ rfl
            rw [show decide (bxMeet x y z t x2 y2 z2 t2) = (decide (n48 ≤ 0)) from decide_eq_decide.2 ⟨fun ⟨_, _, _, _, _, m6⟩ => (cq_le h48).2 m6, fun hh => ⟨f6, f9, f21, f31, f41, (cq_le h48).1 hh⟩⟩]
          · have f41 : ¬ (y.q ≤ t2.q) := fun hh => of_decide_eq_false e3 ((cq_le h38).2 hh)
            refine Eq.trans (b := bool false) ?_ rfl
            rw [show decide (bxMeet x y z t x2 y2 z2 t2) = false from decide_eq_false fun ⟨m1, m2, m3, m4, m5, m6⟩ => by first | exact f41 m1 | exact f41 m2 | exact f41 m3 | exact f41 m4 | exact f41 m5 | exact f41 m6]
        · have f31 : ¬ (x2.q ≤ z.q) := fun hh => of_decide_eq_false e2 ((cq_le h28).2 hh)
          refine Eq.trans (b := bool false) ?_ rfl
          rw [show decide (bxMeet x y z t x2 y2 z2 t2) = false from decide_eq_false fun ⟨m1, m2, m3, m4, m5, m6⟩ => by first | exact f31 m1 | exact f31 m2 | exact f31 m3 | exact f31 m4 | exact f31 m5 | exact f31 m6]
      · have f21 : ¬ (x.q ≤ z2.q) := fun hh => of_decide_eq_false e1 ((cq_le h18).2 hh)
        refine Eq.trans (b := bool false) ?_ rfl
        rw [show decide (bxMeet x y z t x2 y2 z2 t2) = false from decide_eq_false fun ⟨m1, m2, m3, m4, m5, m6⟩ => by first | exact f21 m1 | exact f21 m2 | exact f21 m3 | exact f21 m4 | exact f21 m5 | exact f21 m6]
    · refine Eq.trans (b := bool false) ?_ rfl
      rw [show decide (bxMeet x y z t x2 y2 z2 t2) = false from decide_eq_false fun ⟨m1, m2, m3, m4, m5, m6⟩ => by first | exact f9 m1 | exact f9 m2 | exact f9 m3 | exact f9 m4 | exact f9 m5 | exact f9 m6]
  · refine Eq.trans (b := bool false) ?_ rfl
    rw [show decide (bxMeet x y z t x2 y2 z2 t2) = false from decide_eq_false fun ⟨m1, m2, m3, m4, m5, m6⟩ => by first | exact f6 m1 | exact f6 m2 | exact f6 m3 | exact f6 m4 | exact f6 m5 | exact f6 m6]
theorem k_boxesW {x y z t x2 y2 z2 t2 : RV} (hx : x.z ≤ 260000000) (hy : y.z ≤ 260000000) (hz : z.z ≤ 260000000) (ht : t.z ≤ 260000000) (hx2 : x2.z ≤ 260000000) (hy2 : y2.z ≤ 260000000) (hz2 : z2.z ≤ 260000000) (ht2 : t2.z ≤ 260000000) (k : ∀ b, b = decide (bxMeet x y z t x2 y2 z2 t2) → K (bool b)) : Ask 179 [box x y z t, box x2 y2 z2 t2] K := use (boxes_specW x y z t x2 y2 z2 t2 hx hy hz ht hx2 hy2 hz2 ht2) rfl (k _ rfl)
theorem farTo_iffW {P Q : Nat → poly.Pt} {n i m : Nat} : farTo P n Q i m = true ↔ ∀ j, j < m → poly.ori (P i) (P ((i + 1) % n)) (Q j) < 0 := by
  unfold farTo
  rw [List.all_eq_true]
  have e : ∀ j, (outN P n i).1 * ((Q j).1 - (P i).1) + (outN P n i).2 * ((Q j).2 - (P i).2) = - poly.ori (P i) (P ((i + 1) % n)) (Q j) := fun j => by unfold outN poly.ori; grind
  constructor
  · intro h j hj
    have := of_decide_eq_true (h j (List.mem_range.2 hj))
    rw [e] at this; grind
  · intro h j hj
    have := h j (List.mem_range.1 hj)
    exact decide_eq_true (by rw [e]; grind)
theorem bey_iffW {a b : List (RV × RV)} : (bey a b).isSome = true ↔ poly.Beyond (pts a) a.length (pts b) b.length := by
  unfold bey poly.Beyond
  rw [List.find?_isSome]
  constructor
  · rintro ⟨i, h1, h2⟩; exact ⟨i, List.mem_range.1 h1, farTo_iffW.1 h2⟩
  · rintro ⟨i, h1, h2⟩; exact ⟨i, List.mem_range.2 h1, farTo_iffW.2 h2⟩
end
end Go.Proofs.YtjhoddlhdoiifaaGreatDoor.eng
