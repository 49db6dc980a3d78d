/- Contract of gantlaw3.TrackEdits: it returns true. Printed by wip/gp_edit.py. -/
import Derived.Test.YtpejadencgfnnaaGreatDoorGrpI
namespace Go.Proofs.YtpejadencgfnnaaGreatDoor.eng
open Go.RowKit num mem seg q held ratA ratB ratC ratD ratE vars ratF argopen trq
section
variable {K : AV → Prop}
theorem tz1_of {t : List (Int × List RV)} {N : Nat} (h : trackZ t N) (hN : N ≤ 1048576) : tz1 t := zs_track h hN
theorem gdl_z {t : List (Int × List RV)} (h : tz1 t) : ∀ x, x ∈ t.map gdK → x.2.length ≤ 1048576 := by
  intro x hx
  obtain ⟨k, hk, rfl⟩ := List.mem_map.1 hx
  show (qsL k.2).length ≤ _
  rw [qsL_len]; exact (h.2 k hk).2.1
theorem joinV_z {A : ArmV} {t u : List (Int × List RV)} (ht : tz1 t) (hu : tz1 u) (h0 : trackE A t = 0) (g0 : trackE A u = 0) (hj : joinE A t u = 0) : (joinV A t u).length ≤ 1048576 ∧ ∀ x, x ∈ joinV A t u → x.2.length ≤ 1048576 := by
  have h := tz1_app ht hu (len60 h0) (len60 g0)
  rw [joinV_ok hj]
  exact ⟨by rw [List.length_map]; exact h.1, gdl_z h⟩
theorem tcV_z {A : ArmV} {t : List (Int × List RV)} {s e : Int} (ht : tz1 t) (hs : -9223372036854775808 ≤ s ∧ s ≤ 9223372036854775807) (he : -9223372036854775808 ≤ e ∧ e ≤ 9223372036854775807) (h0 : trackE A t = 0) : (tcV A t s e).length ≤ 1048576 ∧ ∀ x, x ∈ tcV A t s e → x.2.length ≤ 1048576 := by
  rw [(tcE_ok h0).2]
  by_cases h : ctE t s e = 0
  · rw [ctV_ok h, ← cutT_at h0 s e]
    refine ⟨?_, fun x hx => ?_⟩
    · have := cutK_len t s e
      have := len60 h0
      simp only [cutI2, List.length_map, List.length_cons, List.length_append, List.length_nil]; omega
    · obtain ⟨n, hn, rfl⟩ := List.mem_map.1 hx
      exact (atL_z (tz1_tz ht) (cutI2_z ht hs he hn)).2
  · rw [ctV_no h]; exact ⟨Nat.zero_le _, fun x hx => by simp at hx⟩
theorem dlV_z {A : ArmV} {t : List (Int × List RV)} {d : Int} (ht : tz1 t) (h0 : trackE A t = 0) : (dlV A t d).length ≤ 1048576 ∧ ∀ x, x ∈ dlV A t d → x.2.length ≤ 1048576 := by
  rw [(dlE_ok h0).2]
  by_cases h : dyE t d = 0
  · rw [dyV_ok h]
    refine ⟨by rw [dlT_len]; exact ht.1, fun x hx => ?_⟩
    unfold dlT at hx
    rw [List.take_of_length_le (Nat.le_refl _), List.drop_length, List.map_nil, List.append_nil] at hx
    obtain ⟨k, hk, rfl⟩ := List.mem_map.1 hx
    show (qsL k.2).length ≤ _
    rw [qsL_len]; exact (ht.2 k hk).2.1
  · rw [dyV_no h]; exact ⟨Nat.zero_le _, fun x hx => by simp at hx⟩
set_option maxHeartbeats 8000000 in
set_option maxRecDepth 100000 in
theorem trackEdits_spec (A : ArmV) (t u : List (Int × List RV)) (s e d : Int) (hA : A.ok) (ht : tz1 t) (hu : tz1 u) (hs : -9223372036854775808 ≤ s ∧ s ≤ 9223372036854775807) (he : -9223372036854775808 ≤ e ∧ e ≤ 9223372036854775807) (hd : -9223372036854775808 ≤ d ∧ d ≤ 9223372036854775807) : Spec Tryz.prog Tab 9 [.val (.agg [.d (.v (.string A.name)), .d (.v (.bool A.bx.s)), .d (.v (.string A.bx.a)), .d (.v (.string A.bx.d)), .d (.v (.bool A.by'.s)), .d (.v (.string A.by'.a)), .d (.v (.string A.by'.d)), .d (.v (.bool (A.bh))), .d (.v (.bool A.bt.s)), .d (.v (.string A.bt.a)), .d (.v (.string A.bt.d)), .d (.list (List.map lk A.links))]), .val (.one (.d (.list (List.map keyD t)))), .val (.one (.d (.list (List.map keyD u)))), int s, int e, int d] (bool true) := by
  have hA2 := hA
  have hLt : (List.map keyD t).length = t.length := List.length_map ..
  have hLu : (List.map keyD u).length = u.length := List.length_map ..
  refine fn_spec Tryz.func9 rfl rfl Tryz.ntmps9 rfl (by kernel_rfl) rfl rfl ?_
  refine k_tracks ?_
  refine ⟨fun e => absurd e (by decide), fun _ => ?_⟩
  refine k_RTrk (A := A) (t := t) (by assumption) (tz1_tz ht) fun n29 hk_29_1 => ?_
  refine k_TJoin (A := A) (t := t) (u := u) hA2 ht hu fun n34 hk_34_1 => ?_
  refine k_TCut (A := A) (t := t) (s := s) (e := e) hA2 ht hs he fun n42 hk_42_1 => ?_
  refine k_TDelay (A := A) (t := t) (d := d) hA2 ht hd fun n49 hk_49_1 => ?_
  refine ⟨fun e1 => ?_, fun e1 => ?_⟩
  · have f53 : n29 ≠ 0 := bne_t e1
    refine fork (fun e2 => ?_) (fun e2 => ?_)
    · have f57 : n34 = n29 := beq_t e2
      refine fork (fun e3 => ?_) (fun e3 => ?_)
      · have f62 : n42 = n29 := beq_t e3
        refine fork (fun e4 => ?_) (fun e4 => ?_)
        · have f67 : n49 = n29 := beq_t e4
          refine Eq.trans (b := bool (IntKind.i64.wrap ((IntKind.i64.wrap (((List.map keyC (joinV A t u)).length : Int) + ((List.map keyC (tcV A t s e)).length : Int))) + ((List.map keyC (dlV A t d)).length : Int)) == 0)) ?_ rfl
          rw [joinV_no (by rw [joinE_1 (show ¬ trackE A t = 0 by rw [← hk_29_1]; exact f53)]; exact (show ¬ trackE A t = 0 by rw [← hk_29_1]; exact f53)), (tcE_no (show ¬ trackE A t = 0 by rw [← hk_29_1]; exact f53)).2, (dlE_no (show ¬ trackE A t = 0 by rw [← hk_29_1]; exact f53)).2]; rfl
        · have f67 : ¬ (n49 = n29) := beq_f e4
          exfalso
          exact f67 (by rw [hk_49_1, (dlE_no (show ¬ trackE A t = 0 by rw [← hk_29_1]; exact f53)).1, hk_29_1])
      · have f62 : ¬ (n42 = n29) := beq_f e3
        exfalso
        exact f62 (by rw [hk_42_1, (tcE_no (show ¬ trackE A t = 0 by rw [← hk_29_1]; exact f53)).1, hk_29_1])
    · have f57 : ¬ (n34 = n29) := beq_f e2
      exfalso
      exact f57 (by rw [hk_34_1, joinE_1 (show ¬ trackE A t = 0 by rw [← hk_29_1]; exact f53), hk_29_1])
  · have f53 : ¬ (n29 ≠ 0) := fun hh => hh (bne_f e1)
    have ht0 : trackE A t = 0 := by rw [← hk_29_1]; exact Classical.not_not.1 f53
    refine k_cloneN (t := t) ht (by have := (track_ok ht0).2.1; omega) ?_
    refine ⟨⟨(map_rows fun _ => rfl), (by show ((List.map keyD t).length + (List.map keyD u).length) * 32 ≤ _; (simp only [List.length_map]; have := len60 ht0; have := hu.1; omega)), (by show ((List.map keyD t).length + (List.map keyD u).length) ≤ _; (simp only [List.length_map]; have := len60 ht0; have := hu.1; omega))⟩, ?_⟩
    refine k_RTrk (A := A) (t := u) (by assumption) (tz1_tz hu) fun n84 hk_84_1 => ?_
    refine ⟨fun e5 => ?_, fun e5 => ?_⟩
    · have f86 : n84 = 0 := beq_t e5
      have hu0 : trackE A u = 0 := by rw [← hk_84_1]; exact f86
      refine k_RTrkJ (A := A) (t := t) (u := u) rfl (by assumption) ht hu (len60 ht0) (len60 hu0) fun n89 hk_89_1 => ?_
      refine fork (fun e6 => ?_) (fun e6 => ?_)
      · have f93 : n34 ≠ n89 := bne_t e6
        exfalso
        exact f93 (by rw [hk_34_1, joinE_3 ht0 hu0, hk_89_1])
      · have f93 : ¬ (n34 ≠ n89) := fun hh => hh (bne_f e6)
        refine fork (fun e7 => ?_) (fun e7 => ?_)
        · have f96 : n89 = 0 := beq_t e7
          refine k_gddJ (t := t) (u := u) rfl ht hu (len60 ht0) (len60 hu0) ?_
          have hj0 : joinE A t u = 0 := by rw [joinE_3 ht0 hu0, ← hk_89_1]; exact f96
          refine k_Same (joinV A t u) rfl (by rw [joinV_ok hj0]) (joinV_z ht hu ht0 hu0 hj0).1 (joinV_z ht hu ht0 hu0 hj0).2 ?_
          refine fork (fun e8 => ?_) (fun e8 => ?_)
          · have f107 : n89 ≠ 0 := bne_t e8
            exfalso
            exact f107 f96
          · have f107 : ¬ (n89 ≠ 0) := fun hh => hh (bne_f e8)
            refine ⟨fun e => absurd e (by decide), fun _ => ?_⟩
            refine k_cutOf (A := A) (t := t) (s := s) (e := e) ht0 ht hs he fun n117 hk_117_1 => ?_
            refine fork (fun e9 => ?_) (fun e9 => ?_)
            · have f123 : n42 ≠ n117 := bne_t e9
              exfalso
              exact f123 (by rw [hk_42_1, (tcE_ok ht0).1, hk_117_1])
            · have f123 : ¬ (n42 ≠ n117) := fun hh => hh (bne_f e9)
              refine k_Same (tcV A t s e) rfl (by rw [(tcE_ok ht0).2]) (tcV_z ht hs he ht0).1 (tcV_z ht hs he ht0).2 ?_
              refine ⟨fun e => absurd e (by decide), fun _ => ?_⟩
              refine k_delayed (A := A) (t := t) (d := d) ht0 ht hd fun n132 hk_132_1 => ?_
              refine fork (fun e10 => ?_) (fun e10 => ?_)
              · have f138 : n49 = n132 := beq_t e10
                refine k_Same (dlV A t d) rfl (by rw [(dlE_ok ht0).2]) (dlV_z ht ht0).1 (dlV_z ht ht0).2 ?_
                refine Eq.trans (b := bool true) ?_ rfl
                rfl
              · have f138 : ¬ (n49 = n132) := beq_f e10
                exfalso
                exact f138 (by rw [hk_49_1, (dlE_ok ht0).1, hk_132_1])
        · have f96 : ¬ (n89 = 0) := beq_f e7
          refine fork (fun e11 => ?_) (fun e11 => ?_)
          · have f107 : n89 ≠ 0 := bne_t e11
            refine ⟨fun e12 => ?_, fun e12 => ?_⟩
            · have f112 : ((List.map keyC (joinV A t u)).length : Int) > 0 := of_decide_eq_true e12
              exfalso
              rw [joinV_no (by rw [joinE_3 ht0 hu0, ← hk_89_1]; exact f96)] at f112; exact absurd f112 (by simp)
            · have f112 : ¬ (((List.map keyC (joinV A t u)).length : Int) > 0) := of_decide_eq_false e12
              refine k_cutOf (A := A) (t := t) (s := s) (e := e) ht0 ht hs he fun n117 hk_117_1 => ?_
              refine fork (fun e13 => ?_) (fun e13 => ?_)
              · have f123 : n42 ≠ n117 := bne_t e13
                exfalso
                exact f123 (by rw [hk_42_1, (tcE_ok ht0).1, hk_117_1])
              · have f123 : ¬ (n42 ≠ n117) := fun hh => hh (bne_f e13)
                refine k_Same (tcV A t s e) rfl (by rw [(tcE_ok ht0).2]) (tcV_z ht hs he ht0).1 (tcV_z ht hs he ht0).2 ?_
                refine ⟨fun e => absurd e (by decide), fun _ => ?_⟩
                refine k_delayed (A := A) (t := t) (d := d) ht0 ht hd fun n132 hk_132_1 => ?_
                refine fork (fun e14 => ?_) (fun e14 => ?_)
                · have f138 : n49 = n132 := beq_t e14
                  refine k_Same (dlV A t d) rfl (by rw [(dlE_ok ht0).2]) (dlV_z ht ht0).1 (dlV_z ht ht0).2 ?_
                  refine Eq.trans (b := bool true) ?_ rfl
                  rfl
                · have f138 : ¬ (n49 = n132) := beq_f e14
                  exfalso
                  exact f138 (by rw [hk_49_1, (dlE_ok ht0).1, hk_132_1])
          · have f107 : ¬ (n89 ≠ 0) := fun hh => hh (bne_f e11)
            exfalso
            exact f96 (Classical.not_not.1 f107)
    · have f86 : ¬ (n84 = 0) := beq_f e5
      have hu0 : ¬ trackE A u = 0 := by rw [← hk_84_1]; exact f86
      refine fork (fun e15 => ?_) (fun e15 => ?_)
      · have f93 : n34 ≠ n84 := bne_t e15
        exfalso
        exact f93 (by rw [hk_34_1, joinE_2 ht0 hu0, hk_84_1])
      · have f93 : ¬ (n34 ≠ n84) := fun hh => hh (bne_f e15)
        refine fork (fun e16 => ?_) (fun e16 => ?_)
        · have f96 : n84 = 0 := beq_t e16
          exfalso
          exact f86 f96
        · have f96 : ¬ (n84 = 0) := beq_f e16
          refine fork (fun e17 => ?_) (fun e17 => ?_)
          · have f107 : n84 ≠ 0 := bne_t e17
            refine ⟨fun e18 => ?_, fun e18 => ?_⟩
            · have f112 : ((List.map keyC (joinV A t u)).length : Int) > 0 := of_decide_eq_true e18
              exfalso
              rw [joinV_no (by rw [joinE_2 ht0 hu0]; exact hu0)] at f112; exact absurd f112 (by simp)
            · have f112 : ¬ (((List.map keyC (joinV A t u)).length : Int) > 0) := of_decide_eq_false e18
              refine k_cutOf (A := A) (t := t) (s := s) (e := e) ht0 ht hs he fun n117 hk_117_1 => ?_
              refine fork (fun e19 => ?_) (fun e19 => ?_)
              · have f123 : n42 ≠ n117 := bne_t e19
                exfalso
                exact f123 (by rw [hk_42_1, (tcE_ok ht0).1, hk_117_1])
              · have f123 : ¬ (n42 ≠ n117) := fun hh => hh (bne_f e19)
                refine k_Same (tcV A t s e) rfl (by rw [(tcE_ok ht0).2]) (tcV_z ht hs he ht0).1 (tcV_z ht hs he ht0).2 ?_
                refine ⟨fun e => absurd e (by decide), fun _ => ?_⟩
                refine k_delayed (A := A) (t := t) (d := d) ht0 ht hd fun n132 hk_132_1 => ?_
                refine fork (fun e20 => ?_) (fun e20 => ?_)
                · have f138 : n49 = n132 := beq_t e20
                  refine k_Same (dlV A t d) rfl (by rw [(dlE_ok ht0).2]) (dlV_z ht ht0).1 (dlV_z ht ht0).2 ?_
                  refine Eq.trans (b := bool true) ?_ rfl
                  rfl
                · have f138 : ¬ (n49 = n132) := beq_f e20
                  exfalso
                  exact f138 (by rw [hk_49_1, (dlE_ok ht0).1, hk_132_1])
          · have f107 : ¬ (n84 ≠ 0) := fun hh => hh (bne_f e17)
            exfalso
            exact f96 (Classical.not_not.1 f107)
theorem trackEdits_walk (v0 : Value) (A0 : ArmV) (v1 : Value) (l1 : List (Int × List RV)) (v2 : Value) (l2 : List (Int × List RV)) (x3 : Int) (x4 : Int) (x5 : Int) (N : Nat) (w : World) (_ : 1 ≤ N) (hN : N ≤ 1048576) (h0 : DenAV w (fun b => b < w.heap.size) noBs noMem v0 (arm A0)) (u0 : A0.zs N) (h1 : Den w (fun b => b < w.heap.size) v1 (.list (l1.map keyD))) (u1 : trackZ l1 N) (h2 : Den w (fun b => b < w.heap.size) v2 (.list (l2.map keyD))) (u2 : trackZ l2 N) (u3 : -9223372036854775808 ≤ x3 ∧ x3 ≤ 9223372036854775807) (u4 : -9223372036854775808 ≤ x4 ∧ x4 ≤ 9223372036854775807) (u5 : -9223372036854775808 ≤ x5 ∧ x5 ≤ 9223372036854775807) (hT : Tab w) :
    Calls Tryz.prog 9 #[v0, v1, v2, .int .i64 x3, .int .i64 x4, .int .i64 x5] w fun e w' => e = .returned (.bool true) ∧ Below w.heap.size w w' :=
  calls_of_specI (I := fun b => b < w.heap.size) (trackEdits_spec A0 l1 l2 x3 x4 x5 (ok_of_zs u0 (by omega)) (tz1_of u1 hN) (tz1_of u2 hN) u3 u4 u5) rfl hT (fun _ h => h)
    (((((((pvl_rel (vs := []) rfl).cons ((pv_iff (v := int x5) rfl).2 rfl)).cons ((pv_iff (v := int x4) rfl).2 rfl)).cons ((pv_iff (v := int x3) rfl).2 rfl)).cons (show DenAV _ _ _ _ v2 (.val (.one (.d (.list _)))) from h2)).cons (show DenAV _ _ _ _ v1 (.val (.one (.d (.list _)))) from h1)).cons h0)
end
end Go.Proofs.YtpejadencgfnnaaGreatDoor.eng
