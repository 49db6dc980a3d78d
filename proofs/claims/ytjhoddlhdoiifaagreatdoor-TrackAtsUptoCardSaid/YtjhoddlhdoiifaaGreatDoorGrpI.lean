/- Joined by wip/bundle.py: XLawTck XLawTat. -/
import Derived.Test.YtjhoddlhdoiifaaGreatDoorGrpU
import Derived.Test.YtjhoddlhdoiifaaGreatDoorGrpX
import Derived.Test.YtjhoddlhdoiifaaGreatDoorOpenA
import Derived.Test.YtjhoddlhdoiifaaGreatDoorGrpY
/- Contract of gantlaw3.TrackChecks: it returns true. Printed by wip/gp_tck.py. -/
namespace Go.Proofs.YtjhoddlhdoiifaaGreatDoor.eng
open Go.RowKit num mem seg q held ratA ratB ratC ratD ratE vars ratF argopen
section
variable {K : AV → Prop}
def q2Q : Rat := ((1 : Int) : Rat) / ((2 : Int) : Rat)
theorem cn_q2 : cn q2Q = ⟨false, enc 1, enc 2⟩ := by
  unfold cn
  rw [show q2Q.num = 1 by decide +kernel, show q2Q.den = 2 by decide +kernel]
  rfl
theorem num_h : Spec Tryz.prog Tab 16 [int 1, int 2] (rat (cn q2Q)) := num_of (mOf1_spec 2 q2Q (by decide) (by decide) cn_q2)
theorem tz_of {t : List (Int × List RV)} {N : Nat} (h : trackZ t N) (hN : N ≤ 1048576) : tz t := zs_track h hN
def keyedL : List (Int × List RV) := [(10, natRV [0]), (20, natRV [1])]
theorem keyedL_z : tz keyedL := by
  refine ⟨by decide, fun k hk => ?_⟩
  have h : k = (10, natRV [0]) ∨ k = (20, natRV [1]) := by simpa [keyedL] using hk
  rcases h with rfl | rfl
  · exact ⟨by decide, by decide, fun x hx => Nat.le_trans (natRV_z (by decide) x hx) (by decide)⟩
  · exact ⟨by decide, by decide, fun x hx => Nat.le_trans (natRV_z (by decide) x hx) (by decide)⟩
theorem tz_nil : tz [] := ⟨by decide, fun k hk => by simp at hk⟩
set_option maxRecDepth 100000 in
theorem keyed_spec  : Spec Tryz.prog Tab 62 [] (.val (.one (.d (.list (List.map keyD keyedL))))) := by
  refine fn_spec Tryz.func62 rfl rfl Tryz.ntmps62 rfl (by kernel_rfl) rfl rfl ?_
  refine k_numsR [0] rfl (by decide) (by decide) ?_
  refine k_numsR [1] rfl (by decide) (by decide) ?_
  refine Eq.trans (b := .val (.one (.d (.list ([[D.v (.int .i64 (10)), D.list (List.map rd (natRV [0]))], [D.v (.int .i64 (20)), D.list (List.map rd (natRV [1]))]]))))) ?_ rfl
  rfl
theorem k_keyed (k : K (.val (.one (.d (.list (List.map keyD keyedL)))))) : Ask 62 [] K := use keyed_spec rfl k
theorem fits3 {n : Nat} (h : n < 2) : fitsE (sampA [3]) (natRV [n]) = 0 := by
  have c : hasE (sampA [3]) ((natRV [n]).length : Int) = 0 := sampA_has (by decide) (by decide) (by decide) rfl
  unfold fitsE
  rw [if_pos c, if_neg]
  rintro ⟨i, l, x, hl, hx, hh⟩
  have hi : i < 1 := (List.getElem?_eq_some_iff.1 hx).1
  obtain rfl : i = 0 := by omega
  obtain rfl := Option.some.inj (show some (sampL 3) = some l from hl)
  obtain rfl := Option.some.inj (show some (cn (n : Rat)) = some x from hx)
  rw [cn_q, show (sampL 3).low.q = m2Q from cn_q _, show (sampL 3).high.q = n2Q from cn_q _] at hh
  rcases (show n = 0 ∨ n = 1 by omega) with rfl | rfl <;> revert hh <;> decide +kernel
theorem keyedL_ok : trackE (sampA [3]) keyedL = 0 := by
  have a3 : armE (sampA [3]) = 0 := sampA_ok (by decide) (by decide) (by decide)
  refine trackE_ok a3 (by decide) (by decide) fun j hj => ?_
  have k0 : key1 (sampA [3]) (10, natRV [0]) = 0 := key1_ok.2 ⟨by decide, fits3 (by decide)⟩
  have k1 : key1 (sampA [3]) (20, natRV [1]) = 0 := key1_ok.2 ⟨by decide, fits3 (by decide)⟩
  have hj : j < 2 := hj
  rcases (show j = 0 ∨ j = 1 by omega) with rfl | rfl
  · rw [keyE_0 (k := (10, natRV [0])) rfl, k0]
  · refine (keyE_s (p := (10, natRV [0])) (k := (20, natRV [1])) (by decide) rfl rfl).trans (key2_0 k1 (by decide) ?_)
    rintro ⟨i, l, x, y, hl, hx, hy, hh⟩
    have hi : i < 1 := (List.getElem?_eq_some_iff.1 hx).1
    obtain rfl : i = 0 := by omega
    obtain rfl := Option.some.inj (show some (sampL 3) = some l from hl)
    obtain rfl := Option.some.inj (show some (cn ((0 : Nat) : Rat)) = some x from hx)
    obtain rfl := Option.some.inj (show some (cn ((1 : Nat) : Rat)) = some y from hy)
    rw [cn_q, cn_q, show (sampL 3).speed.q = q4Q from cn_q _] at hh
    revert hh; decide +kernel
theorem at15 : atL keyedL 15 = [q2Q] := by
  show itL _ _ _ _ = _
  show [itF _ (natRV [0]) (natRV [1]) 0] = _
  unfold itF
  rw [show qAt (natRV [0]) 0 = ((0 : Nat) : Rat) from (qAt_is rfl).trans (cn_q _), show qAt (natRV [1]) 0 = ((1 : Nat) : Rat) from (qAt_is rfl).trans (cn_q _)]
  decide +kernel
set_option maxHeartbeats 4000000 in
set_option maxRecDepth 100000 in
theorem tracks_spec  : Spec Tryz.prog Tab 57 [] (bool true) := by
  have o3 : (sampA [3]).ok := ok_of_zs (sampA_zs (by decide) (by decide)) (by decide)
  have a3 : armE (sampA [3]) = 0 := sampA_ok (by decide) (by decide) (by decide)
  refine fn_spec Tryz.func57 rfl rfl Tryz.ntmps57 rfl (by kernel_rfl) rfl rfl ?_
  refine k_keyed ?_
  refine k_TAt (t := keyedL) 15 rfl keyedL_z (by decide) ?_
  refine use (num_h) rfl ?_
  refine k_equalT (l := atL keyedL 15) (m := [q2Q]) at15 rfl rfl (by rw [at15]; decide) ?_
  refine k_sample [3] rfl (by decide) (by decide) ?_
  refine k_TCheck (A := (sampA [3])) (t := []) (by assumption) tz_nil fun n9 hk_9_1 => ?_
  refine Eq.trans (b := bool (n9 == 14)) ?_ rfl
  rw [show n9 = 14 from by rw [hk_9_1]; exact trackE_nil a3 rfl]; rfl
theorem k_tracks (k : K (bool true)) : Ask 57 [] K := use tracks_spec rfl k
set_option maxHeartbeats 4000000 in
set_option maxRecDepth 100000 in
theorem trackChecks_spec (A : ArmV) (t : List (Int × List RV)) (hA : A.ok) (ht : tz t) : Spec Tryz.prog Tab 10 [.val (.agg [.d (.v (.string A.name)), .d (.v (.bool A.bx.s)), .d (.v (.string A.bx.a)), .d (.v (.string A.bx.d)), .d (.v (.bool A.by'.s)), .d (.v (.string A.by'.a)), .d (.v (.string A.by'.d)), .d (.v (.bool (A.bh))), .d (.v (.bool A.bt.s)), .d (.v (.string A.bt.a)), .d (.v (.string A.bt.d)), .d (.list (List.map lk A.links))]), .val (.one (.d (.list (List.map keyD t))))] (bool true) := by
  have o3 : (sampA [3]).ok := ok_of_zs (sampA_zs (by decide) (by decide)) (by decide)
  have a3 : armE (sampA [3]) = 0 := sampA_ok (by decide) (by decide) (by decide)
  refine fn_spec Tryz.func10 rfl rfl Tryz.ntmps10 rfl (by kernel_rfl) rfl rfl ?_
  refine k_tracks ?_
  refine k_sample [3] rfl (by decide) (by decide) ?_
  refine k_keyed ?_
  refine k_TCheck (A := (sampA [3])) (t := keyedL) (by assumption) keyedL_z fun n10 hk_10_1 => ?_
  refine fork (fun e1 => ?_) (fun e1 => ?_)
  · have f13 : n10 = 0 := beq_t e1
    refine k_TCheck (A := A) (t := t) (by assumption) ht fun n16 hk_16_1 => ?_
    refine k_RTrk (A := A) (t := t) (by assumption) ht fun n19 hk_19_1 => ?_
    refine ⟨by kernel_rfl, ?_⟩
    refine Eq.trans (b := bool (n16 == n19)) ?_ rfl
    rw [hk_16_1, hk_19_1]; exact congrArg bool (beq_self_eq_true _).symm
  · have f13 : ¬ (n10 = 0) := beq_f e1
    exfalso
    exact f13 (by rw [hk_10_1]; exact keyedL_ok)
theorem trackChecks_walk (v0 : Value) (A0 : ArmV) (v1 : Value) (l1 : List (Int × List RV)) (N : Nat) (w : World) (_ : 1 ≤ N) (hN : N ≤ 1048576) (h0 : DenAV w (fun b => b < w.heap.size) noBs noMem v0 (arm A0)) (u0 : A0.zs N) (h1 : Den w (fun b => b < w.heap.size) v1 (.list (l1.map keyD))) (u1 : trackZ l1 N) (hT : Tab w) :
    Calls Tryz.prog 10 #[v0, v1] w fun e w' => e = .returned (.bool true) ∧ Below w.heap.size w w' :=
  calls_of_specI (I := fun b => b < w.heap.size) (trackChecks_spec A0 l1 (ok_of_zs u0 (by omega)) (tz_of u1 hN)) rfl hT (fun _ h => h)
    (((pvl_rel (vs := []) rfl).cons (show DenAV _ _ _ _ v1 (.val (.one (.d (.list _)))) from h1)).cons h0)
end
end Go.Proofs.YtjhoddlhdoiifaaGreatDoor.eng

/- Contract of track.Speed; gantlaw3.TrackAts: it returns true. Printed by wip/gp_trackb.py. -/
namespace Go.Proofs.YtjhoddlhdoiifaaGreatDoor.eng
open Go.RowKit num mem seg q held ratA ratB ratC ratD ratE vars ratF argopen
section
variable {K : AV → Prop}
/-- changes between two lists -/
def dfL (a b : List Rat) (n : Nat) : List Rat := (List.range n).map fun i => (b[i]?).getD 0 - (a[i]?).getD 0
theorem dfL_len (a b : List Rat) (n : Nat) : (dfL a b n).length = n := by simp [dfL]
theorem dfL_snoc {α : Type} (g : Rat → α) {a b : List Rat} {i : Nat} {x y : Rat} (hy : b[i]? = some y) (hx : a[i]? = some x) : List.map g (dfL a b (i + 1)) = List.map g (dfL a b i) ++ [g (y - x)] := by
  simp [dfL, List.range_succ, hx, hy]
/-- the joint values at the next tick; at the last one those of the same -/
def nxL (t : List (Int × List RV)) (n : Int) : List Rat := if n < 9223372036854775807 then atL t (n + 1) else atL t n
theorem itF_z {s : Rat} {a b : List RV} {B C : Nat} (hs : qs s ≤ C) (ha : ∀ x, x ∈ a → x.z ≤ B) (hb : ∀ x, x ∈ b → x.z ≤ B) (i : Nat) : qs (itF s a b i) ≤ 3 * B + C + 5 := by
  have q : ∀ l : List RV, (∀ x, x ∈ l → x.z ≤ B) → qs (qAt l i) ≤ B + 1 := fun l hl => by
    unfold qAt
    cases h : l[i]? with
    | none => exact Nat.le_trans (by decide +kernel : qs z0.q ≤ 1) (by omega)
    | some x => have := x.z1; have := hl x (List.mem_of_getElem? h); show qs x.q ≤ _; omega
  have := q a ha
  have := q b hb
  have := qs_sub (qAt b i) (qAt a i)
  have := qs_mul s (qAt b i - qAt a i)
  have := qs_add (qAt a i) (s * (qAt b i - qAt a i))
  unfold itF; omega
theorem s_z {n x y : Int} (hn : -9223372036854775808 ≤ n ∧ n ≤ 9223372036854775807) (hx : -9223372036854775808 ≤ x ∧ x ≤ 9223372036854775807) (hy : -9223372036854775808 ≤ y ∧ y ≤ 9223372036854775807) : qs (((n : Rat) - (x : Rat)) / ((y : Rat) - (x : Rat))) ≤ 40 := by
  have := qs_i64 hn.1 hn.2
  have := qs_i64 hx.1 hx.2
  have := qs_i64 hy.1 hy.2
  have := qs_sub (n : Rat) (x : Rat)
  have := qs_sub (y : Rat) (x : Rat)
  have := qs_div ((n : Rat) - (x : Rat)) ((y : Rat) - (x : Rat))
  omega
theorem atR_z {n : Int} (hn : -9223372036854775808 ≤ n ∧ n ≤ 9223372036854775807) : ∀ (r : List (Int × List RV)) (x : Int × List RV), tz (x :: r) → (∀ q, q ∈ atR x r n → qs q ≤ 4194304) ∧ (atR x r n).length ≤ 1048576
  | [], x, h => by
    obtain ⟨_, h2, h3⟩ := h.2 x (by simp)
    refine ⟨fun q hq => ?_, by show (qsL x.2).length ≤ _; rw [qsL_len]; exact h2⟩
    obtain ⟨y, hy, rfl⟩ := List.mem_map.1 (show q ∈ List.map RV.q x.2 from hq)
    have := y.z1; have := h3 y hy; omega
  | y :: r, x, h => by
    obtain ⟨h1, h2, h3⟩ := h.2 x (by simp)
    obtain ⟨g1, g2, g3⟩ := h.2 y (by simp)
    unfold atR
    split
    · refine ⟨fun q hq => ?_, by rw [itL_len]; omega⟩
      obtain ⟨i, _, rfl⟩ := List.mem_map.1 (show q ∈ List.map _ _ from hq)
      have := itF_z (s_z hn h1 g1) h3 g3 i; omega
    · exact atR_z hn r y ⟨by have := h.1; simp only [List.length_cons] at this ⊢; omega, fun k hk => h.2 k (List.mem_cons_of_mem _ hk)⟩
theorem atL_z {t : List (Int × List RV)} {n : Int} (ht : tz t) (hn : -9223372036854775808 ≤ n ∧ n ≤ 9223372036854775807) : (∀ q, q ∈ atL t n → qs q ≤ 4194304) ∧ (atL t n).length ≤ 1048576 := by
  cases t with
  | nil => exact ⟨fun q hq => by simp [atL] at hq, by simp [atL]⟩
  | cons x r =>
    show (∀ q, q ∈ (if n ≤ x.1 then qsL x.2 else atR x r n) → qs q ≤ 4194304) ∧ (if n ≤ x.1 then qsL x.2 else atR x r n).length ≤ 1048576
    split
    · obtain ⟨_, h2, h3⟩ := ht.2 x (by simp)
      refine ⟨fun q hq => ?_, by rw [qsL_len]; exact h2⟩
      obtain ⟨y, hy, rfl⟩ := List.mem_map.1 (show q ∈ List.map RV.q x.2 from hq)
      have := y.z1; have := h3 y hy; omega
    · exact atR_z hn r x ht
theorem nxL_z {t : List (Int × List RV)} {n : Int} (ht : tz t) (hn : -9223372036854775808 ≤ n ∧ n ≤ 9223372036854775807) : (∀ q, q ∈ nxL t n → qs q ≤ 4194304) ∧ (nxL t n).length ≤ 1048576 := by
  unfold nxL
  split
  · exact atL_z ht (by omega)
  · exact atL_z ht hn
theorem nx_1 {t : List (Int × List RV)} {n : Int} (h : n < 9223372036854775807) : atL t (n + 1) = nxL t n := (if_pos h).symm
theorem nx_0 {t : List (Int × List RV)} {n : Int} (h : ¬ n < 9223372036854775807) : atL t n = nxL t n := (if_neg h).symm
def spdL (t : List (Int × List RV)) (n : Int) : List Rat := dfL (atL t n) (nxL t n) (min (atL t n).length (nxL t n).length)
theorem spdL_z {t : List (Int × List RV)} {n : Int} (ht : tz t) (hn : -9223372036854775808 ≤ n ∧ n ≤ 9223372036854775807) : ∀ q, q ∈ spdL t n → qs q ≤ 8589934592 := by
  intro q hq
  obtain ⟨i, _, rfl⟩ := List.mem_map.1 (show q ∈ List.map _ _ from hq)
  have k : ∀ l : List Rat, (∀ q, q ∈ l → qs q ≤ 4194304) → qs ((l[i]?).getD 0) ≤ 4194304 := fun l hl => by
    cases h : l[i]? with
    | none => exact (by decide +kernel : qs 0 ≤ 4194304)
    | some x => exact hl x (List.mem_of_getElem? h)
  have := k _ (nxL_z ht hn).1
  have := k _ (atL_z ht hn).1
  have := qs_sub (((nxL t n)[i]?).getD 0) (((atL t n)[i]?).getD 0)
  show qs (_ - _) ≤ _
  omega
set_option maxHeartbeats 4000000 in
set_option maxRecDepth 100000 in
theorem TSpeed_spec (t : List (Int × List RV)) (n : Int) (ht : tz t) (hn : -9223372036854775808 ≤ n ∧ n ≤ 9223372036854775807) : Spec Tryz.prog Tab 60 [.val (.one (.d (.list (List.map keyD t)))), int n] (.val (.one (.d (.list (List.map rdc (spdL t n)))))) := by
  obtain ⟨hz1, hl1⟩ := atL_z ht hn
  obtain ⟨hz2, hl2⟩ := nxL_z ht hn
  refine fn_spec Tryz.func60 rfl rfl Tryz.ntmps60 rfl (by kernel_rfl) rfl rfl ?_
  refine k_TAt (t := t) (n) rfl ht (by omega) ?_
  refine ⟨fun e1 => ?_, fun e1 => ?_⟩
  · have f14 : n < 9223372036854775807 := of_decide_eq_true e1
    refine k_TAt (t := t) (n + 1) (wrap64 _ (by omega) (by omega)) ht (by omega) ?_
    have hN : atL t (n + 1) = nxL t n := nx_1 f14
    have hl3 : (List.map rdc (atL t (n + 1))).length = (nxL t n).length := by rw [List.length_map, hN]
    have hl4 : (List.map rdc (atL t n)).length = (atL t n).length := List.length_map ..
    have hmn : (if ((List.map rdc (atL t (n + 1))).length : Int) < ((List.map rdc (atL t n)).length : Int) then ((List.map rdc (atL t (n + 1))).length : Int) else ((List.map rdc (atL t n)).length : Int)) = ((min (atL t n).length (nxL t n).length : Nat) : Int) := by
      have a3 := hl3
      have a4 := hl4
      split <;> omega
    refine ⟨Nat, fun i => [(5, .val (.one (.d (.list (List.map rdc (atL t n)))))), (6, .val (.one (.d (.list (List.map rdc (atL t (n + 1))))))), (7, .val (.one (.row 38 0))), (23, int ((min (atL t n).length (nxL t n).length : Nat) : Int)), (24, int (i : Int))],
      fun i => [(38, .row 23 3 0 (List.map rdc (dfL (atL t n) (nxL t n) i)) true)], fun i => i ≤ min (atL t n).length (nxL t n).length, fun i => min (atL t n).length (nxL t n).length - i, 0, ?_, Nat.zero_le _, fun i hs => ?_⟩
    · constructor <;> (repeat' (first | exact rfl | exact True.intro | exact ⟨_, _, rfl⟩ | exact (by decide) | apply And.intro))
      all_goals first
        | exact congrArg (fun n : Int => D.v (.int .i64 n)) hmn
        | exact congrArg (fun n : Int => D.v (.int .i64 n)) hmn.symm
        | exact congrArg (fun n : Int => D.v (.int .i64 n)) (by omega)
        | (simp; done)
    have hT : (List.map rdc (dfL (atL t n) (nxL t n) i)).length ≤ 1048576 := by rw [List.length_map, dfL_len]; omega
    have hl5 : (atL t (n + 1)).length = (nxL t n).length := by rw [hN]
    refine ⟨fun e2 => ?_, fun e2 => ?_⟩
    · have f25 : (i : Int) < ((min (atL t n).length (nxL t n).length : Nat) : Int) := of_decide_eq_true e2
      refine get_ex (l := (atL t (n + 1))) (i := i) (by first | omega | exact Nat.mod_lt _ (by omega)) fun x30 hx30 => ?_
      have hy30 : (nxL t n)[i]? = some x30 := by rw [← hN]; exact hx30
      have hwx30 := hz2 x30 (List.mem_of_getElem? hy30)
      refine k_ix i [D.v (.bool (cn x30).s), D.v (.string (cn x30).a), D.v (.string (cn x30).d)] (by first | rfl | omega | (rw [wrap64 _ (by omega) (by omega)]; omega)) (map_at hx30) rfl ?_
      refine get_ex (l := (atL t n)) (i := i) (by first | omega | exact Nat.mod_lt _ (by omega)) fun x34 hx34 => ?_
      have hy34 : (atL t n)[i]? = some x34 := hx34
      have hwx34 := hz1 x34 (List.mem_of_getElem? hy34)
      refine k_ix i [D.v (.bool (cn x34).s), D.v (.string (cn x34).a), D.v (.string (cn x34).d)] (by first | rfl | omega | (rw [wrap64 _ (by omega) (by omega)]; omega)) (map_at hx34) rfl ?_
      refine k_sub (x := cn x30) (y := cn x34) (by simp only [cn_z]; omega) (by simp only [cn_z]; omega) fun q36 h36 z36 => ?_
      simp only [cn_z] at z36
      simp only [cn_q] at h36
      refine ⟨⟨row1 rfl, (by show ((List.map rdc (dfL (atL t n) (nxL t n) i)).length + 1) * 40 ≤ _; omega), (by show ((List.map rdc (dfL (atL t n) (nxL t n) i)).length + 1) ≤ _; omega)⟩, ?_⟩
      refine ⟨by kernel_rfl, ?_⟩
      subst h36
      refine ⟨i + 1, by omega, by simp only; omega, ?_⟩
      constructor <;> (repeat' (first | exact rfl | exact True.intro | apply And.intro))
      all_goals first
        | (rw [dfL_snoc _ hy30 hy34]; rfl)
        | exact congrArg (fun n : Int => D.v (.int .i64 n)) (by rw [wrap64 _ (by omega) (by omega)]; omega)
        | exact congrArg (fun n : Int => D.v (.int .i64 n)) (by omega)
    · have f25 : ¬ ((i : Int) < ((min (atL t n).length (nxL t n).length : Nat) : Int)) := of_decide_eq_false e2
      refine Eq.trans (b := .val (.one (.d (.list (List.map rdc (dfL (atL t n) (nxL t n) i)))))) ?_ rfl
      obtain rfl : i = min (atL t n).length (nxL t n).length := by omega
      rfl
  · have f14 : ¬ (n < 9223372036854775807) := of_decide_eq_false e1
    have hN : atL t n = nxL t n := nx_0 f14
    have hl3 : (List.map rdc (atL t n)).length = (nxL t n).length := by rw [List.length_map, hN]
    have hl4 : (List.map rdc (atL t n)).length = (atL t n).length := List.length_map ..
    have hmn : (if ((List.map rdc (atL t n)).length : Int) < ((List.map rdc (atL t n)).length : Int) then ((List.map rdc (atL t n)).length : Int) else ((List.map rdc (atL t n)).length : Int)) = ((min (atL t n).length (nxL t n).length : Nat) : Int) := by
      have a3 := hl3
      have a4 := hl4
      split <;> omega
    refine ⟨Nat, fun i => [(5, .val (.one (.d (.list (List.map rdc (atL t n)))))), (6, .val (.one (.d (.list (List.map rdc (atL t n)))))), (7, .val (.one (.row 38 0))), (23, int ((min (atL t n).length (nxL t n).length : Nat) : Int)), (24, int (i : Int))],
      fun i => [(38, .row 23 3 0 (List.map rdc (dfL (atL t n) (nxL t n) i)) true)], fun i => i ≤ min (atL t n).length (nxL t n).length, fun i => min (atL t n).length (nxL t n).length - i, 0, ?_, Nat.zero_le _, fun i hs => ?_⟩
    · constructor <;> (repeat' (first | exact rfl | exact True.intro | exact ⟨_, _, rfl⟩ | exact (by decide) | apply And.intro))
      all_goals first
        | exact congrArg (fun n : Int => D.v (.int .i64 n)) hmn
        | exact congrArg (fun n : Int => D.v (.int .i64 n)) hmn.symm
        | exact congrArg (fun n : Int => D.v (.int .i64 n)) (by omega)
        | (simp; done)
    have hT : (List.map rdc (dfL (atL t n) (nxL t n) i)).length ≤ 1048576 := by rw [List.length_map, dfL_len]; omega
    have hl5 : (atL t n).length = (nxL t n).length := by rw [hN]
    refine ⟨fun e3 => ?_, fun e3 => ?_⟩
    · have f25 : (i : Int) < ((min (atL t n).length (nxL t n).length : Nat) : Int) := of_decide_eq_true e3
      refine get_ex (l := (atL t n)) (i := i) (by first | omega | exact Nat.mod_lt _ (by omega)) fun x30 hx30 => ?_
      have hy30 : (nxL t n)[i]? = some x30 := by rw [← hN]; exact hx30
      have hwx30 := hz2 x30 (List.mem_of_getElem? hy30)
      refine k_ix i [D.v (.bool (cn x30).s), D.v (.string (cn x30).a), D.v (.string (cn x30).d)] (by first | rfl | omega | (rw [wrap64 _ (by omega) (by omega)]; omega)) (map_at hx30) rfl ?_
      refine k_ix i [D.v (.bool (cn x30).s), D.v (.string (cn x30).a), D.v (.string (cn x30).d)] (by first | rfl | omega | (rw [wrap64 _ (by omega) (by omega)]; omega)) (map_at hx30) rfl ?_
      refine k_sub (x := cn x30) (y := cn x30) (by simp only [cn_z]; omega) (by simp only [cn_z]; omega) fun q36 h36 z36 => ?_
      simp only [cn_z] at z36
      simp only [cn_q] at h36
      refine ⟨⟨row1 rfl, (by show ((List.map rdc (dfL (atL t n) (nxL t n) i)).length + 1) * 40 ≤ _; omega), (by show ((List.map rdc (dfL (atL t n) (nxL t n) i)).length + 1) ≤ _; omega)⟩, ?_⟩
      refine ⟨by kernel_rfl, ?_⟩
      subst h36
      refine ⟨i + 1, by omega, by simp only; omega, ?_⟩
      constructor <;> (repeat' (first | exact rfl | exact True.intro | apply And.intro))
      all_goals first
        | (rw [dfL_snoc _ hy30 hx30]; rfl)
        | exact congrArg (fun n : Int => D.v (.int .i64 n)) (by rw [wrap64 _ (by omega) (by omega)]; omega)
        | exact congrArg (fun n : Int => D.v (.int .i64 n)) (by omega)
    · have f25 : ¬ ((i : Int) < ((min (atL t n).length (nxL t n).length : Nat) : Int)) := of_decide_eq_false e3
      refine Eq.trans (b := .val (.one (.d (.list (List.map rdc (dfL (atL t n) (nxL t n) i)))))) ?_ rfl
      obtain rfl : i = min (atL t n).length (nxL t n).length := by omega
      rfl
theorem k_TSpeed {t : List (Int × List RV)} {n : Int} (ht : tz t) (hn : -9223372036854775808 ≤ n ∧ n ≤ 9223372036854775807) (k : K (.val (.one (.d (.list (List.map rdc (spdL t n))))))) : Ask 60 [.val (.one (.d (.list (List.map keyD t)))), int n] K := use (TSpeed_spec t n ht hn) rfl k
set_option maxHeartbeats 8000000 in
set_option maxRecDepth 100000 in
theorem trackAts_spec (t : List (Int × List RV)) (n : Int) (ht : tz t) (hn : -9223372036854775808 ≤ n ∧ n ≤ 9223372036854775807) : Spec Tryz.prog Tab 9 [.val (.one (.d (.list (List.map keyD t)))), int n] (bool true) := by
  obtain ⟨hz1, hl1⟩ := atL_z ht hn
  obtain ⟨hz2, hl2⟩ := nxL_z ht hn
  refine fn_spec Tryz.func9 rfl rfl Tryz.ntmps9 rfl (by kernel_rfl) rfl rfl ?_
  refine k_tracks ?_
  refine k_TAt (t := t) (n) rfl ht (by omega) ?_
  refine k_RAt (t := t) (n) rfl ht (by omega) ?_
  refine k_Back (atL t n) rfl (fun q hq => Nat.le_trans (hz1 q hq) (by decide)) (by omega) ?_
  refine k_equalT (l := atL t n) (m := atL t n) rfl rfl rfl (by omega) ?_
  refine ⟨fun e => absurd e (by decide), fun _ => ?_⟩
  refine k_RAt (t := t) (n) rfl ht (by omega) ?_
  refine ⟨fun e1 => ?_, fun e1 => ?_⟩
  · have f27 : n < 9223372036854775807 := of_decide_eq_true e1
    refine k_RAt (t := t) (n + 1) (wrap64 _ (by omega) (by omega)) ht (by omega) ?_
    have hN : atL t (n + 1) = nxL t n := nx_1 f27
    have hl3 : (List.map q3d (atL t (n + 1))).length = (nxL t n).length := by rw [List.length_map, hN]
    have hl4 : (List.map q3d (atL t n)).length = (atL t n).length := List.length_map ..
    have hmn : (if ((List.map q3d (atL t (n + 1))).length : Int) < ((List.map q3d (atL t n)).length : Int) then ((List.map q3d (atL t (n + 1))).length : Int) else ((List.map q3d (atL t n)).length : Int)) = ((min (atL t n).length (nxL t n).length : Nat) : Int) := by
      have a3 := hl3
      have a4 := hl4
      split <;> omega
    refine ⟨Nat, fun i => [(0, .val (.one (.d (.list (List.map keyD t))))), (1, int n), (5, .val (.one (.d (.list (List.map q3d (atL t n)))))), (6, .val (.one (.d (.list (List.map q3d (atL t (n + 1))))))), (7, .val (.one (.row 51 0))), (36, int ((min (atL t n).length (nxL t n).length : Nat) : Int)), (37, int (i : Int))],
      fun i => [(51, .row 42 3 0 (List.map q3d (dfL (atL t n) (nxL t n) i)) true)], fun i => i ≤ min (atL t n).length (nxL t n).length, fun i => min (atL t n).length (nxL t n).length - i, 0, ?_, Nat.zero_le _, fun i hs => ?_⟩
    · constructor <;> (repeat' (first | exact rfl | exact True.intro | exact ⟨_, _, rfl⟩ | exact (by decide) | apply And.intro))
      all_goals first
        | exact congrArg (fun n : Int => D.v (.int .i64 n)) hmn
        | exact congrArg (fun n : Int => D.v (.int .i64 n)) hmn.symm
        | exact congrArg (fun n : Int => D.v (.int .i64 n)) (by omega)
        | (simp; done)
    have hT : (List.map q3d (dfL (atL t n) (nxL t n) i)).length ≤ 1048576 := by rw [List.length_map, dfL_len]; omega
    have hl5 : (atL t (n + 1)).length = (nxL t n).length := by rw [hN]
    refine ⟨fun e2 => ?_, fun e2 => ?_⟩
    · have f38 : (i : Int) < ((min (atL t n).length (nxL t n).length : Nat) : Int) := of_decide_eq_true e2
      refine get_ex (l := (atL t (n + 1))) (i := i) (by first | omega | exact Nat.mod_lt _ (by omega)) fun x43 hx43 => ?_
      have hy43 : (nxL t n)[i]? = some x43 := by rw [← hN]; exact hx43
      have hwx43 := hz2 x43 (List.mem_of_getElem? hy43)
      refine k_ix i [D.v (.bool (decide (x43.num < 0))), D.list (W (w32 x43.num.natAbs)), D.list (W (w32 x43.den))] (by first | rfl | omega | (rw [wrap64 _ (by omega) (by omega)]; omega)) (map_at hx43) rfl ?_
      refine get_ex (l := (atL t n)) (i := i) (by first | omega | exact Nat.mod_lt _ (by omega)) fun x47 hx47 => ?_
      have hy47 : (atL t n)[i]? = some x47 := hx47
      have hwx47 := hz1 x47 (List.mem_of_getElem? hy47)
      refine k_ix i [D.v (.bool (decide (x47.num < 0))), D.list (W (w32 x47.num.natAbs)), D.list (W (w32 x47.den))] (by first | rfl | omega | (rw [wrap64 _ (by omega) (by omega)]; omega)) (map_at hx47) rfl ?_
      refine k_Sub3 (p := x43) (q := x47) (by omega) (by omega) fun q49 h49 z49 => ?_
      refine ⟨⟨row1 rfl, (by show ((List.map q3d (dfL (atL t n) (nxL t n) i)).length + 1) * 56 ≤ _; omega), (by show ((List.map q3d (dfL (atL t n) (nxL t n) i)).length + 1) ≤ _; omega)⟩, ?_⟩
      refine ⟨by kernel_rfl, ?_⟩
      subst h49
      refine ⟨i + 1, by omega, by simp only; omega, ?_⟩
      constructor <;> (repeat' (first | exact rfl | exact True.intro | apply And.intro))
      all_goals first
        | (rw [dfL_snoc _ hy43 hy47]; rfl)
        | exact congrArg (fun n : Int => D.v (.int .i64 n)) (by rw [wrap64 _ (by omega) (by omega)]; omega)
        | exact congrArg (fun n : Int => D.v (.int .i64 n)) (by omega)
    · have f38 : ¬ ((i : Int) < ((min (atL t n).length (nxL t n).length : Nat) : Int)) := of_decide_eq_false e2
      have hspd : dfL (atL t n) (nxL t n) i = spdL t n := by
        obtain rfl : i = min (atL t n).length (nxL t n).length := by omega
        rfl
      refine k_TSpeed (t := t) (n := n) ht hn ?_
      refine k_Back (spdL t n) (congrArg (List.map q3d) hspd) (spdL_z ht hn) (by unfold spdL; rw [dfL_len]; omega) ?_
      refine k_equalT (l := spdL t n) (m := spdL t n) rfl rfl rfl (by unfold spdL; rw [dfL_len]; omega) ?_
      refine Eq.trans (b := bool true) ?_ rfl
      rfl
  · have f27 : ¬ (n < 9223372036854775807) := of_decide_eq_false e1
    have hN : atL t n = nxL t n := nx_0 f27
    have hl3 : (List.map q3d (atL t n)).length = (nxL t n).length := by rw [List.length_map, hN]
    have hl4 : (List.map q3d (atL t n)).length = (atL t n).length := List.length_map ..
    have hmn : (if ((List.map q3d (atL t n)).length : Int) < ((List.map q3d (atL t n)).length : Int) then ((List.map q3d (atL t n)).length : Int) else ((List.map q3d (atL t n)).length : Int)) = ((min (atL t n).length (nxL t n).length : Nat) : Int) := by
      have a3 := hl3
      have a4 := hl4
      split <;> omega
    refine ⟨Nat, fun i => [(0, .val (.one (.d (.list (List.map keyD t))))), (1, int n), (5, .val (.one (.d (.list (List.map q3d (atL t n)))))), (6, .val (.one (.d (.list (List.map q3d (atL t n)))))), (7, .val (.one (.row 51 0))), (36, int ((min (atL t n).length (nxL t n).length : Nat) : Int)), (37, int (i : Int))],
      fun i => [(51, .row 42 3 0 (List.map q3d (dfL (atL t n) (nxL t n) i)) true)], fun i => i ≤ min (atL t n).length (nxL t n).length, fun i => min (atL t n).length (nxL t n).length - i, 0, ?_, Nat.zero_le _, fun i hs => ?_⟩
    · constructor <;> (repeat' (first | exact rfl | exact True.intro | exact ⟨_, _, rfl⟩ | exact (by decide) | apply And.intro))
      all_goals first
        | exact congrArg (fun n : Int => D.v (.int .i64 n)) hmn
        | exact congrArg (fun n : Int => D.v (.int .i64 n)) hmn.symm
        | exact congrArg (fun n : Int => D.v (.int .i64 n)) (by omega)
        | (simp; done)
    have hT : (List.map q3d (dfL (atL t n) (nxL t n) i)).length ≤ 1048576 := by rw [List.length_map, dfL_len]; omega
    have hl5 : (atL t n).length = (nxL t n).length := by rw [hN]
    refine ⟨fun e3 => ?_, fun e3 => ?_⟩
    · have f38 : (i : Int) < ((min (atL t n).length (nxL t n).length : Nat) : Int) := of_decide_eq_true e3
      refine get_ex (l := (atL t n)) (i := i) (by first | omega | exact Nat.mod_lt _ (by omega)) fun x43 hx43 => ?_
      have hy43 : (nxL t n)[i]? = some x43 := by rw [← hN]; exact hx43
      have hwx43 := hz2 x43 (List.mem_of_getElem? hy43)
      refine k_ix i [D.v (.bool (decide (x43.num < 0))), D.list (W (w32 x43.num.natAbs)), D.list (W (w32 x43.den))] (by first | rfl | omega | (rw [wrap64 _ (by omega) (by omega)]; omega)) (map_at hx43) rfl ?_
      refine k_ix i [D.v (.bool (decide (x43.num < 0))), D.list (W (w32 x43.num.natAbs)), D.list (W (w32 x43.den))] (by first | rfl | omega | (rw [wrap64 _ (by omega) (by omega)]; omega)) (map_at hx43) rfl ?_
      refine k_Sub3 (p := x43) (q := x43) (by omega) (by omega) fun q49 h49 z49 => ?_
      refine ⟨⟨row1 rfl, (by show ((List.map q3d (dfL (atL t n) (nxL t n) i)).length + 1) * 56 ≤ _; omega), (by show ((List.map q3d (dfL (atL t n) (nxL t n) i)).length + 1) ≤ _; omega)⟩, ?_⟩
      refine ⟨by kernel_rfl, ?_⟩
      subst h49
      refine ⟨i + 1, by omega, by simp only; omega, ?_⟩
      constructor <;> (repeat' (first | exact rfl | exact True.intro | apply And.intro))
      all_goals first
        | (rw [dfL_snoc _ hy43 hx43]; rfl)
        | exact congrArg (fun n : Int => D.v (.int .i64 n)) (by rw [wrap64 _ (by omega) (by omega)]; omega)
        | exact congrArg (fun n : Int => D.v (.int .i64 n)) (by omega)
    · have f38 : ¬ ((i : Int) < ((min (atL t n).length (nxL t n).length : Nat) : Int)) := of_decide_eq_false e3
      have hspd : dfL (atL t n) (nxL t n) i = spdL t n := by
        obtain rfl : i = min (atL t n).length (nxL t n).length := by omega
        rfl
      refine k_TSpeed (t := t) (n := n) ht hn ?_
      refine k_Back (spdL t n) (congrArg (List.map q3d) hspd) (spdL_z ht hn) (by unfold spdL; rw [dfL_len]; omega) ?_
      refine k_equalT (l := spdL t n) (m := spdL t n) rfl rfl rfl (by unfold spdL; rw [dfL_len]; omega) ?_
      refine Eq.trans (b := bool true) ?_ rfl
      rfl
theorem trackAts_walk (v0 : Value) (l0 : List (Int × List RV)) (x1 : Int) (N : Nat) (w : World) (_ : 1 ≤ N) (hN : N ≤ 1048576) (h0 : Den w (fun b => b < w.heap.size) v0 (.list (l0.map keyD))) (u0 : trackZ l0 N) (u1 : -9223372036854775808 ≤ x1 ∧ x1 ≤ 9223372036854775807) (hT : Tab w) :
    Calls Tryz.prog 9 #[v0, .int .i64 x1] w fun e w' => e = .returned (.bool true) ∧ Below w.heap.size w w' :=
  calls_of_specI (I := fun b => b < w.heap.size) (trackAts_spec l0 x1 (tz_of u0 hN) u1) rfl hT (fun _ h => h)
    (((pvl_rel (vs := []) rfl).cons ((pv_iff (v := int x1) rfl).2 rfl)).cons (show DenAV _ _ _ _ v0 (.val (.one (.d (.list _)))) from h0))
end
end Go.Proofs.YtjhoddlhdoiifaaGreatDoor.eng

