/- Contracts for RoamNexts: gantref3.Spots, slices.IndexFunc; gantlaw3.RoamNexts: it returns true. Printed by wip/gp_rnx.py. -/
import Derived.Test.YtobeklcimmjodaaRnxC
namespace Go.Proofs.Ytobeklcimmjodaa.eng
open Go.RowKit mem
section
variable {K : AV → Prop}
/-- the first spots, as numbers' digits -/
def preL (b n m : Nat) : List (List Int) := (List.range m).map (dig b n)
def allL (b n : Nat) : List (List Int) := preL b n (b ^ n)
theorem preL_len (b n m : Nat) : (preL b n m).length = m := by simp [preL]
theorem allL_len (b n : Nat) : (allL b n).length = b ^ n := preL_len ..
theorem allL_get {b n m : Nat} (h : m < b ^ n) : (allL b n)[m]? = some (dig b n m) := by simp [allL, preL, h]
theorem dig_step {b n q k : Nat} (hk : k < b) : dig b (n + 1) (b * q + k) = dig b n q ++ [(k : Int)] := by
  rw [dig]
  have e1 : (b * q + k) / b = q := by rw [Nat.mul_add_div (by omega), Nat.div_eq_of_lt hk]; omega
  have e2 : (b * q + k) % b = k := by rw [Nat.mul_add_mod, Nat.mod_eq_of_lt hk]
  rw [e1, e2]
theorem preL_stepD {b n q k : Nat} (hk : k < b) : List.map ilD (preL b (n + 1) (b * q + (k + 1))) = List.map ilD (preL b (n + 1) (b * q + k)) ++ [[D.list (List.map intD (dig b n q) ++ [[D.v (.int .i64 (k : Int))]])]] := by
  unfold preL
  rw [← Nat.add_assoc, List.range_succ, List.map_append, List.map_append, List.map_singleton, List.map_singleton, dig_step hk]
  simp [ilD, intD]
theorem allL_next (b n : Nat) : preL b (n + 1) (b * b ^ n) = allL b (n + 1) := by
  unfold allL
  rw [Nat.pow_succ, Nat.mul_comm]
theorem pow_2197 {b n : Nat} (hb : b ≤ 13) (hn : n ≤ 3) : b ^ n ≤ 2197 := by
  have h1 : b ^ n ≤ 13 ^ n := Nat.pow_le_pow_left hb n
  have h2 : 13 ^ n ≤ 13 ^ 3 := Nat.pow_le_pow_right (by decide) hn
  omega
/-- the place of a list in a list -/
def idxN (l : List Int) : List (List Int) → Nat → Int
  | [], _ => -1
  | x :: r, i => if x = l then (i : Int) else idxN l r (i + 1)
def idxI (L : List (List Int)) (l : List Int) : Int := idxN l L 0
theorem idxN_at {l : List Int} : ∀ {L : List (List Int)} {i c : Nat}, L[i]? = some l → (∀ j, j < i → L[j]? ≠ some l) → idxN l L c = ((c + i : Nat) : Int)
  | [], i, c, h, _ => by simp at h
  | x :: r, 0, c, h, _ => by
    have e : x = l := by simpa using h
    rw [idxN, if_pos e]; simp
  | x :: r, i + 1, c, h, hb => by
    have e : ¬ x = l := fun e => hb 0 (by omega) (by simp [e])
    rw [idxN, if_neg e, idxN_at (i := i) (by simpa using h) fun j hj => by simpa using hb (j + 1) (by omega)]
    congr 1; omega
theorem idxN_no {l : List Int} : ∀ {L : List (List Int)} {c : Nat}, (∀ j, j < L.length → L[j]? ≠ some l) → idxN l L c = -1
  | [], c, _ => rfl
  | x :: r, c, hb => by
    have e : ¬ x = l := fun e => hb 0 (by simp) (by simp [e])
    rw [idxN, if_neg e, idxN_no fun j hj => by simpa using hb (j + 1) (by simpa using hj)]
theorem idxI_at {L : List (List Int)} {l : List Int} {i : Nat} (h : L[i]? = some l) (hb : ∀ j, j < i → L[j]? ≠ some l) : idxI L l = (i : Int) := by
  have := idxN_at (c := 0) h hb
  simpa [idxI] using this
theorem idxI_no {L : List (List Int)} {l : List Int} (hb : ∀ j, j < L.length → L[j]? ≠ some l) : idxI L l = -1 := idxN_no hb
theorem numV_app (b : Int) (l : List Int) (k : Int) : numV b (l ++ [k]) = numV b l * b + k := by simp [numV]
theorem numV_dig {b : Nat} (hb : 0 < b) : ∀ (n m : Nat), m < b ^ n → numV (b : Int) (dig b n m) = (m : Int)
  | 0, m, h => by
    have : m = 0 := by simpa using h
    subst this; rfl
  | n + 1, m, h => by
    have h1 : m / b < b ^ n := Nat.div_lt_of_lt_mul (by rw [Nat.mul_comm, ← Nat.pow_succ]; exact h)
    rw [dig, numV_app, numV_dig hb n _ h1]
    have := Nat.div_add_mod m b
    rw [Nat.mul_comm] at this
    exact_mod_cast this
theorem dig_numV {b : Nat} (hb : 0 < b) : ∀ (n : Nat) (l : List Int), l.length = n → (∀ k, k ∈ l → 0 ≤ k ∧ k < (b : Int)) → ∃ m : Nat, numV (b : Int) l = (m : Int) ∧ m < b ^ n ∧ dig b n m = l
  | 0, l, hl, _ => by
    obtain rfl := List.eq_nil_of_length_eq_zero hl
    exact ⟨0, rfl, by simp, rfl⟩
  | n + 1, l, hl, hk => by
    have hne : l ≠ [] := fun e => by subst e; simp at hl
    obtain ⟨r, k, rfl⟩ : ∃ r k, l = r ++ [k] := ⟨l.dropLast, l.getLast hne, (List.dropLast_concat_getLast hne).symm⟩
    obtain ⟨m, h1, h2, h3⟩ := dig_numV hb n r (by simpa using hl) fun x hx => hk x (by simp [hx])
    have hk0 := hk k (by simp)
    obtain ⟨c, rfl⟩ : ∃ c : Nat, k = (c : Int) := ⟨k.toNat, by omega⟩
    have hc : c < b := by omega
    refine ⟨b * m + c, ?_, ?_, ?_⟩
    · rw [numV_app, h1, Int.mul_comm]; simp
    · have : b * m + b ≤ b * b ^ n := by rw [← Nat.mul_succ]; exact Nat.mul_le_mul_left _ h2
      rw [Nat.pow_succ, Nat.mul_comm (b ^ n)]; omega
    · rw [dig_step hc, h3]
theorem num_idx {n s : Int} {l : List Int} (h : allOk n s) (hf : spF n s l = 0) : numV (s + 1) l = idxI (allL (s + 1).toNat n.toNat) l := by
  obtain ⟨h1, h2, h3, h4⟩ := h
  have hlen : (l.length : Int) = n := by
    by_cases e : (l.length : Int) = n
    · exact e
    · rw [spF_1 e] at hf; simp at hf
  have hin : inR s l := by
    by_cases e : inR s l
    · exact e
    · unfold spF at hf; rw [if_pos hlen, if_neg e] at hf; simp at hf
  have hb : 0 < (s + 1).toNat := by omega
  have es : s + 1 = (((s + 1).toNat : Nat) : Int) := by omega
  obtain ⟨m, e1, e2, e3⟩ := dig_numV hb n.toNat l (by omega) fun k hk => by have := hin k hk; omega
  rw [← es] at e1
  rw [e1]
  refine (idxI_at (by rw [allL_get e2, e3]) fun j hj hh => ?_).symm
  rw [allL_get (by omega)] at hh
  have e4 := numV_dig hb n.toNat j (by omega)
  rw [Option.some.inj hh, ← es, e1] at e4
  omega
set_option maxHeartbeats 4000000 in
set_option maxRecDepth 100000 in
theorem spots_spec (N B : Nat) (h1 : 1 ≤ N) (h3 : N ≤ 3) (hb2 : 2 ≤ B) (hb : B ≤ 13) : Spec Try.prog Tab 9 [int (N : Int), int ((B : Int) - 1)] (.val (.one (.d (.list (List.map ilD (allL B N)))))) := by
  refine fn_own [400005] Try.func9 rfl rfl Try.ntmps9 rfl (by kernel_rfl) rfl rfl ?_
  refine ⟨Nat, fun r => [(1, int ((B : Int) - 1)), (5, .val (.one (.d (.list (List.map ilD (allL B r)))))), (11, int (N : Int)), (12, int (r : Int))],
    fun r => [], fun r => r ≤ N, fun r => N - r, 0, ?_, Nat.zero_le _, fun r hs => ?_⟩
  · constructor <;> (repeat' (first | exact rfl | exact True.intro | exact ⟨_, _, rfl⟩ | exact (by decide) | apply And.intro))
    all_goals first | exact congrArg (fun n : Int => D.v (.int .i64 n)) (by omega) | exact congrArg (fun n : Int => D.v (.int .i64 n)) (by rw [wrap64 _ (by omega) (by omega)]; omega) | (simp; done)
  have hLr : (List.map ilD (allL B r)).length = B ^ r := by rw [List.length_map, allL_len]
  have hp := pow_2197 (n := r) hb (by have : r ≤ N := hs; omega)
  refine ⟨fun e1 => ?_, fun e1 => ?_⟩
  · have f13 : (r : Int) < (N : Int) := of_decide_eq_true e1
    refine ⟨Nat, fun q => [(1, int ((B : Int) - 1)), (6, .val (.one (.row 32 0))), (11, int (N : Int)), (12, int (r : Int)), (14, .val (.one (.d (.list (List.map ilD (allL B r)))))), (15, int ((List.map ilD (allL B r)).length : Int)), (16, int (q : Int))],
      fun q => [(32, .row 22 1 0 (List.map ilD (preL B (r + 1) (B * q))) true)], fun q => q ≤ B ^ r, fun q => B ^ r - q, 0, ?_, Nat.zero_le _, fun q hs => ?_⟩
    · constructor <;> (repeat' (first | exact rfl | exact True.intro | exact ⟨_, _, rfl⟩ | exact (by decide) | apply And.intro))
      all_goals first | exact congrArg (fun n : Int => D.v (.int .i64 n)) (by omega) | exact congrArg (fun n : Int => D.v (.int .i64 n)) (by rw [wrap64 _ (by omega) (by omega)]; omega) | (simp; done)
    have hbq : B * q ≤ 13 * 2197 := Nat.mul_le_mul hb (by have : q ≤ B ^ r := hs; omega)
    have hD : (List.map intD (dig B r q)).length = r := by rw [List.length_map, dig_len]
    refine ⟨fun e2 => ?_, fun e2 => ?_⟩
    · have f17 : (q : Int) < ((List.map ilD (allL B r)).length : Int) := of_decide_eq_true e2
      refine k_ix q [D.list (List.map intD (dig B r q))] (by first | rfl | omega | (rw [wrap64 _ (by omega) (by omega)]; omega) | (rw [wrap64 _ (by omega) (by omega)]; split <;> omega)) (map_at (allL_get (by omega))) rfl ?_
      refine ⟨Nat, fun k => [(1, int ((B : Int) - 1)), (6, .val (.one (.row 32 0))), (8, .val (.one (.d (.list (List.map intD (dig B r q)))))), (11, int (N : Int)), (12, int (r : Int)), (14, .val (.one (.d (.list (List.map ilD (allL B r)))))), (15, int ((List.map ilD (allL B r)).length : Int)), (16, int (q : Int)), (21, int (B : Int)), (22, int (k : Int))],
        fun k => [(32, .row 22 1 0 (List.map ilD (preL B (r + 1) (B * q + k))) true)], fun k => k ≤ B, fun k => B - k, 0, ?_, Nat.zero_le _, fun k hs => ?_⟩
      · constructor <;> (repeat' (first | exact rfl | exact True.intro | exact ⟨_, _, rfl⟩ | exact (by decide) | apply And.intro))
        all_goals first | exact congrArg (fun n : Int => D.v (.int .i64 n)) (by omega) | exact congrArg (fun n : Int => D.v (.int .i64 n)) (by rw [wrap64 _ (by omega) (by omega)]; omega) | (simp; done)
      have hT : (List.map ilD (preL B (r + 1) (B * q + k))).length = B * q + k := by rw [List.length_map, preL_len]
      refine ⟨fun e3 => ?_, fun e3 => ?_⟩
      · have f23 : (k : Int) < (B : Int) := of_decide_eq_true e3
        refine k_cloneA (by rw [dig_len]; omega) ?_
        refine ⟨⟨row1 rfl, (by show ((List.map intD (dig B r q)).length + 1) * 8 ≤ _; omega), (by show ((List.map intD (dig B r q)).length + 1) ≤ _; omega)⟩, ?_⟩
        refine ⟨⟨row1 rfl, (by show ((List.map ilD (preL B (r + 1) (B * q + k))).length + 1) * 24 ≤ _; omega), (by show ((List.map ilD (preL B (r + 1) (B * q + k))).length + 1) ≤ _; omega)⟩, ?_⟩
        refine ⟨k + 1, by omega, by simp only; omega, ?_⟩
        constructor <;> (repeat' (first | exact rfl | exact True.intro | apply And.intro))
        all_goals first
          | exact preL_stepD (by omega)
          | exact congrArg (fun n : Int => D.v (.int .i64 n)) (by rw [wrap64 _ (by omega) (by omega)]; omega)
          | exact congrArg (fun n : Int => D.v (.int .i64 n)) (by omega)
      · have f23 : ¬ ((k : Int) < (B : Int)) := of_decide_eq_false e3
        obtain rfl : k = B := by omega
        refine ⟨q + 1, by omega, by simp only; omega, ?_⟩
        constructor <;> (repeat' (first | exact rfl | exact True.intro | apply And.intro))
        all_goals first
          | exact rfl
          | exact congrArg (fun n : Int => D.v (.int .i64 n)) (by rw [wrap64 _ (by omega) (by omega)]; omega)
          | exact congrArg (fun n : Int => D.v (.int .i64 n)) (by omega)
    · have f17 : ¬ ((q : Int) < ((List.map ilD (allL B r)).length : Int)) := of_decide_eq_false e2
      obtain rfl : q = B ^ r := by omega
      refine ⟨r + 1, by omega, by simp only; omega, ?_⟩
      constructor <;> (repeat' (first | exact rfl | exact True.intro | apply And.intro))
      all_goals first
        | exact congrArg (fun L => D.list (List.map ilD L)) (allL_next B r)
        | exact congrArg (fun L => D.list (List.map ilD L)) (allL_next B r).symm
        | exact congrArg (fun n : Int => D.v (.int .i64 n)) (by rw [wrap64 _ (by omega) (by omega)]; omega)
        | exact congrArg (fun n : Int => D.v (.int .i64 n)) (by omega)
  · have f13 : ¬ ((r : Int) < (N : Int)) := of_decide_eq_false e1
    refine Eq.trans (b := .val (.one (.d (.list (List.map ilD (allL B r)))))) ?_ rfl
    obtain rfl : r = N := by omega
    rfl
theorem spots_ok {n s : Int} (h : allOk n s) : Spec Try.prog Tab 9 [int n, int s] (.val (.one (.d (.list (List.map ilD (allL (s + 1).toNat n.toNat)))))) := by
  obtain ⟨h1, h2, h3, h4⟩ := h
  have := spots_spec n.toNat (s + 1).toNat (by omega) (by omega) (by omega) (by omega)
  rwa [show ((n.toNat : Nat) : Int) = n by omega, show (((s + 1).toNat : Nat) : Int) - 1 = s by omega] at this
theorem All1_ok {n s : Int} (h : allOk n s) : SeqSpec Try.prog Tab 15 [[D.v (.int .i64 n)], [D.v (.int .i64 s)]] (allV (s + 1).toNat n.toNat) := by
  obtain ⟨h1, h2, h3, h4⟩ := h
  have := All1_spec n.toNat (s + 1).toNat (by omega) (by omega) (by omega) (by omega)
  rwa [show ((n.toNat : Nat) : Int) = n by omega, show (((s + 1).toNat : Nat) : Int) - 1 = s by omega] at this
theorem besU_len {s : Int} {l : List Int} {m : Nat} {x : List Int} (h : x ∈ besU s l m) : x.length = l.length := by
  unfold besU at h
  obtain ⟨a, _, ha⟩ := List.mem_filterMap.1 h
  unfold bes1 at ha
  split at ha
  · split at ha
    · rw [← Option.some.inj ha, List.length_set]
    · simp at ha
  · simp at ha
theorem besE_is {s : Int} {l : List Int} {i : Nat} {ds : List D} (h : (besE s l)[i]? = some ds) : ∃ x, (besU s l (2 * l.length))[i]? = some x ∧ ds = [.list (List.map intD x)] ∧ x.length = l.length ∧ i < (besU s l (2 * l.length)).length := by
  unfold besE at h
  rw [List.getElem?_map] at h
  cases e : (besU s l (2 * l.length))[i]? with
  | none => rw [e] at h; simp at h
  | some x => rw [e] at h; exact ⟨x, rfl, (Option.some.inj h).symm, besU_len (List.mem_of_getElem? e), (List.getElem?_eq_some_iff.1 e).1⟩
theorem besE_one {s : Int} {l : List Int} {ds : List D} (h : ds ∈ besE s l) : ds.length = 1 := by
  obtain ⟨x, _, rfl⟩ := List.mem_map.1 h
  rfl
theorem allV_one {b n : Nat} {ds : List D} (h : ds ∈ allV b n) : ds.length = 1 := by
  obtain ⟨x, _, rfl⟩ := List.mem_map.1 h
  rfl
theorem allV_is {b n i : Nat} {ds : List D} (h : (allV b n)[i]? = some ds) : i < b ^ n ∧ ds = [.list (List.map intD (dig b n i))] := by
  have h1 : i < b ^ n := by have := (List.getElem?_eq_some_iff.1 h).1; rwa [allV_len] at this
  rw [allV_at h1] at h
  exact ⟨h1, (Option.some.inj h).symm⟩
set_option maxRecDepth 100000 in
theorem idx_spec (L : List (List Int)) (l : List Int) (hL : L.length ≤ 1048576) (hx : ∀ x, x ∈ L → x.length ≤ 1048576) (hn : l.length ≤ 1048576) : Spec Try.prog Tab 11 [.val (.one (.d (.list (List.map ilD L)))), .val (.one (.d (.fn 12 [[D.list (List.map intD l)]])))] (int (idxI L l)) := by
  have hLl : (List.map ilD L).length = L.length := List.length_map ..
  refine fn_spec Try.func11 rfl rfl Try.ntmps11 rfl (by kernel_rfl) rfl rfl ?_
  refine ⟨Nat, fun i => [(0, .val (.one (.d (.list (List.map ilD L))))), (1, .val (.one (.d (.fn 12 [[D.list (List.map intD l)]])))), (7, int ((List.map ilD L).length : Int)), (8, int (i : Int))],
    fun i => [], fun i => i ≤ L.length ∧ ∀ j, j < i → L[j]? ≠ some l, fun i => L.length - i, 0, ?_, ⟨Nat.zero_le _, fun j h => by omega⟩, fun i hs => ?_⟩
  · constructor <;> (repeat' (first | exact rfl | exact True.intro | exact ⟨_, _, rfl⟩ | exact (by decide) | apply And.intro))
    all_goals first | exact congrArg (fun n : Int => D.v (.int .i64 n)) (by omega) | exact congrArg (fun n : Int => D.v (.int .i64 n)) (by rw [wrap64 _ (by omega) (by omega)]; omega) | (simp; done)
  have g1 := hs.1
  have g2 := hs.2
  refine ⟨fun e1 => ?_, fun e1 => ?_⟩
  · have f9 : (i : Int) < ((List.map ilD L).length : Int) := of_decide_eq_true e1
    refine get_ex (l := L) (i := i) (by first | omega | exact Nat.mod_lt _ (by omega)) fun x14 hx14 => ?_
    refine k_ix i [D.list (List.map intD x14)] (by first | rfl | omega | (rw [wrap64 _ (by omega) (by omega)]; omega) | (rw [wrap64 _ (by omega) (by omega)]; split <;> omega)) (map_at hx14) rfl ?_
    refine use (Rn1_spec x14 l (hx x14 (List.mem_of_getElem? hx14)) hn) rfl ?_
    refine ⟨fun e2 => ?_, fun e2 => ?_⟩
    · have f16 : x14 = l := of_decide_eq_true e2
      refine Eq.trans (b := int (i : Int)) ?_ rfl
      rw [idxI_at (i := i) (by rw [hx14, f16]) g2]
    · have f16 : ¬ (x14 = l) := of_decide_eq_false e2
      refine ⟨i + 1, ⟨by omega, fun j hj => by
        by_cases e : j = i
        · subst e; intro hh; exact f16 (Option.some.inj (hx14.symm.trans hh))
        · exact g2 j (by omega)⟩, by simp only; omega, ?_⟩
      constructor <;> (repeat' (first | exact rfl | exact True.intro | apply And.intro))
      all_goals first
        | exact congrArg (fun n : Int => D.v (.int .i64 n)) (by rw [wrap64 _ (by omega) (by omega)]; omega)
        | exact congrArg (fun n : Int => D.v (.int .i64 n)) (by omega)
  · have f9 : ¬ ((i : Int) < ((List.map ilD L).length : Int)) := of_decide_eq_false e1
    refine Eq.trans (b := int (-1)) ?_ rfl
    rw [idxI_no fun j hj => g2 j (by omega)]
theorem k_num0 (k : K (.tup [.one (.d (.v (.int .i64 6))), .one (.d (.v (.int .i64 0)))])) : Ask 4 [int 2, int 3, .val (.one (.d (.list [[D.v (.int .i64 1)], [D.v (.int .i64 2)]])))] K := use (num_spec 2 3 [1, 2] (by decide)) rfl k
theorem k_eqS {l : List Int} (hn : l.length ≤ 1048576) (k : K (bool true)) : Ask 7 [.val (.one (.d (.list (List.map intD l)))), .val (.one (.d (.list (List.map intD l))))] K :=
  k_eqI (by omega) (by omega) (by rw [decide_eq_true (rfl : l = l)]; exact k)
theorem allL_mem {b n : Nat} {x : List Int} (h : x ∈ allL b n) (hn : n ≤ 3) : x.length ≤ 1048576 := by
  obtain ⟨m, _, rfl⟩ := List.mem_map.1 h
  rw [dig_len]; omega
set_option maxHeartbeats 8000000 in
set_option maxRecDepth 100000 in
theorem roamNexts_spec (n s : Int) (l : List Int) (hn : l.length ≤ 1048576) : Spec Try.prog Tab 3 [int n, int s, .val (.one (.d (.list (List.map intD l))))] (bool true) := by
  have hLw : (List.map ilD (besU s l (2 * l.length))).length = (besU s l (2 * l.length)).length := List.length_map ..
  have hbl := besU_le s l (2 * l.length)
  refine fn_R Try.func3 rfl rfl Try.ntmps3 rfl (by kernel_rfl) rfl rfl ?_
  refine k_num0 ?_
  refine ⟨fun e => absurd e (by decide), fun _ => ?_⟩
  refine use (bes_spec s l hn) rfl ?_
  refine use (Next_spec s l) rfl ?_
  refine ⟨by kernel_rfl, 14, [[D.list (List.map intD l)], [D.v (.int .i64 s)]], besE s l, [(0, int n), (1, int s), (5, .val (.one (.ptr 5 0))), (6, .val (.one (.ptr 6 0))), (9, .val (.one (.ptr 9 0))), (10, .val (.one (.ptr 10 0))), (33, .val (.one (.d (.fn 14 [[D.list (List.map intD l)], [D.v (.int .i64 (s))]]))))],
    Nat, fun i => [(5, .var 22 [.d (.list (List.map intD l))]), (6, .var 4 [.d (.v (.bool false))]), (9, .var 3 [.d (.v (.int .i64 ((i : Int))))]), (10, .var 26 [.d (.list (List.map ilD (besU s l (2 * l.length))))])], fun i k => i = k, 0, rfl, (Next1_spec s l hn), (fun ds h => besE_one h), ps_okB (by kernel_rfl), ?_, rfl, fun i k ds hds hs => ?_, fun i hs => ?_⟩
  · constructor <;> (repeat' (first | exact rfl | exact True.intro | exact ⟨_, _, rfl⟩ | exact (by decide) | apply And.intro))
    all_goals first
      | exact congrArg (fun n : Int => D.v (.int .i64 n)) (by rw [wrap64 _ (by omega) (by omega)]; omega)
      | exact congrArg (fun n : Int => D.v (.int .i64 n)) (by omega)
      | (simp; done)
  · obtain rfl := hs
    obtain ⟨x, hx, rfl, hxl, hlt⟩ := besE_is hds
    refine fork (fun e1 => ?_) (fun e1 => ?_)
    · have f39 : (i : Int) ≥ ((List.map ilD (besU s l (2 * l.length))).length : Int) := of_decide_eq_true e1
      exfalso
      omega
    · have f39 : ¬ ((i : Int) ≥ ((List.map ilD (besU s l (2 * l.length))).length : Int)) := of_decide_eq_false e1
      refine k_ix i [D.list (List.map intD x)] (by first | rfl | omega | (rw [wrap64 _ (by omega) (by omega)]; omega) | (rw [wrap64 _ (by omega) (by omega)]; split <;> omega)) (map_at hx) rfl ?_
      refine k_eqS (by omega) ?_
      refine ⟨fun e => absurd e (by decide), fun _ => ?_⟩
      refine ⟨i + 1, rfl, ?_⟩
      constructor <;> (repeat' (first | exact rfl | exact True.intro | exact ⟨_, _, rfl⟩ | exact (by decide) | apply And.intro))
      all_goals first
        | exact congrArg (fun n : Int => D.v (.int .i64 n)) (by rw [wrap64 _ (by omega) (by omega)]; omega)
        | exact congrArg (fun n : Int => D.v (.int .i64 n)) (by omega)
        | (simp; done)
  · rw [besE_len] at hs
    refine ⟨fun e2 => ?_, fun e2 => ?_⟩
    · have f53 : (i : Int) ≠ ((List.map ilD (besU s l (2 * l.length))).length : Int) := bne_t e2
      exfalso
      omega
    · have f53 : ¬ ((i : Int) ≠ ((List.map ilD (besU s l (2 * l.length))).length : Int)) := fun hh => hh (bne_f e2)
      refine use (num_spec n s l hn) rfl ?_
      refine fork (fun e3 => ?_) (fun e3 => ?_)
      · have f63 : n < 1 := of_decide_eq_true e3
        refine ⟨fun _ => ?_, fun e => absurd e (by decide)⟩
        refine use (All_spec n s) rfl ?_
        have hbad : ¬ allOk n s := fun h => by obtain ⟨h1, h2, h3, h4⟩ := h; omega
        refine ⟨by kernel_rfl, 15, [[D.v (.int .i64 n)], [D.v (.int .i64 s)]], [], [(6, .val (.one (.ptr 6 0))), (12, int (numR n s l)), (13, int (numF n s l)), (77, .val (.one (.d (.fn 15 [[D.v (.int .i64 (n))], [D.v (.int .i64 (s))]]))))],
          Nat, fun i => [(6, .var 4 [.d (.v (.bool false))])], fun i k => i = k, 0, rfl, (All1_bad n s hbad), (fun ds h => by simp at h), ps_okB (by kernel_rfl), ?_, rfl, fun i k ds hds hs => ?_, fun i hs => ?_⟩
        · constructor <;> (repeat' (first | exact rfl | exact True.intro | exact ⟨_, _, rfl⟩ | exact (by decide) | apply And.intro))
          all_goals first
            | exact congrArg (fun n : Int => D.v (.int .i64 n)) (by rw [wrap64 _ (by omega) (by omega)]; omega)
            | exact congrArg (fun n : Int => D.v (.int .i64 n)) (by omega)
            | (simp; done)
        · simp at hds
        · refine fork (fun e4 => ?_) (fun e4 => ?_)
          · have f81 : numF n s l = 1 := beq_t e4
            refine Eq.trans (b := bool (numR n s l == 0)) ?_ rfl
            rw [numR_no (numF_no hbad) (by decide)]
            rfl
          · have f81 : ¬ (numF n s l = 1) := beq_f e4
            exfalso
            exact f81 (numF_no hbad)
      · have f63 : ¬ (n < 1) := of_decide_eq_false e3
        refine fork (fun e5 => ?_) (fun e5 => ?_)
        · have f67 : n > 3 := of_decide_eq_true e5
          refine ⟨fun _ => ?_, fun e => absurd e (by decide)⟩
          refine use (All_spec n s) rfl ?_
          have hbad : ¬ allOk n s := fun h => by obtain ⟨h1, h2, h3, h4⟩ := h; omega
          refine ⟨by kernel_rfl, 15, [[D.v (.int .i64 n)], [D.v (.int .i64 s)]], [], [(6, .val (.one (.ptr 6 0))), (12, int (numR n s l)), (13, int (numF n s l)), (77, .val (.one (.d (.fn 15 [[D.v (.int .i64 (n))], [D.v (.int .i64 (s))]]))))],
            Nat, fun i => [(6, .var 4 [.d (.v (.bool false))])], fun i k => i = k, 0, rfl, (All1_bad n s hbad), (fun ds h => by simp at h), ps_okB (by kernel_rfl), ?_, rfl, fun i k ds hds hs => ?_, fun i hs => ?_⟩
          · constructor <;> (repeat' (first | exact rfl | exact True.intro | exact ⟨_, _, rfl⟩ | exact (by decide) | apply And.intro))
            all_goals first
              | exact congrArg (fun n : Int => D.v (.int .i64 n)) (by rw [wrap64 _ (by omega) (by omega)]; omega)
              | exact congrArg (fun n : Int => D.v (.int .i64 n)) (by omega)
              | (simp; done)
          · simp at hds
          · refine fork (fun e6 => ?_) (fun e6 => ?_)
            · have f81 : numF n s l = 1 := beq_t e6
              refine Eq.trans (b := bool (numR n s l == 0)) ?_ rfl
              rw [numR_no (numF_no hbad) (by decide)]
              rfl
            · have f81 : ¬ (numF n s l = 1) := beq_f e6
              exfalso
              exact f81 (numF_no hbad)
        · have f67 : ¬ (n > 3) := of_decide_eq_false e5
          refine fork (fun e7 => ?_) (fun e7 => ?_)
          · have f71 : s < 1 := of_decide_eq_true e7
            refine ⟨fun _ => ?_, fun e => absurd e (by decide)⟩
            refine use (All_spec n s) rfl ?_
            have hbad : ¬ allOk n s := fun h => by obtain ⟨h1, h2, h3, h4⟩ := h; omega
            refine ⟨by kernel_rfl, 15, [[D.v (.int .i64 n)], [D.v (.int .i64 s)]], [], [(6, .val (.one (.ptr 6 0))), (12, int (numR n s l)), (13, int (numF n s l)), (77, .val (.one (.d (.fn 15 [[D.v (.int .i64 (n))], [D.v (.int .i64 (s))]]))))],
              Nat, fun i => [(6, .var 4 [.d (.v (.bool false))])], fun i k => i = k, 0, rfl, (All1_bad n s hbad), (fun ds h => by simp at h), ps_okB (by kernel_rfl), ?_, rfl, fun i k ds hds hs => ?_, fun i hs => ?_⟩
            · constructor <;> (repeat' (first | exact rfl | exact True.intro | exact ⟨_, _, rfl⟩ | exact (by decide) | apply And.intro))
              all_goals first
                | exact congrArg (fun n : Int => D.v (.int .i64 n)) (by rw [wrap64 _ (by omega) (by omega)]; omega)
                | exact congrArg (fun n : Int => D.v (.int .i64 n)) (by omega)
                | (simp; done)
            · simp at hds
            · refine fork (fun e8 => ?_) (fun e8 => ?_)
              · have f81 : numF n s l = 1 := beq_t e8
                refine Eq.trans (b := bool (numR n s l == 0)) ?_ rfl
                rw [numR_no (numF_no hbad) (by decide)]
                rfl
              · have f81 : ¬ (numF n s l = 1) := beq_f e8
                exfalso
                exact f81 (numF_no hbad)
          · have f71 : ¬ (s < 1) := of_decide_eq_false e7
            refine ⟨fun e9 => ?_, fun e9 => ?_⟩
            · have f74 : s > 12 := of_decide_eq_true e9
              refine use (All_spec n s) rfl ?_
              have hbad : ¬ allOk n s := fun h => by obtain ⟨h1, h2, h3, h4⟩ := h; omega
              refine ⟨by kernel_rfl, 15, [[D.v (.int .i64 n)], [D.v (.int .i64 s)]], [], [(6, .val (.one (.ptr 6 0))), (12, int (numR n s l)), (13, int (numF n s l)), (77, .val (.one (.d (.fn 15 [[D.v (.int .i64 (n))], [D.v (.int .i64 (s))]]))))],
                Nat, fun i => [(6, .var 4 [.d (.v (.bool false))])], fun i k => i = k, 0, rfl, (All1_bad n s hbad), (fun ds h => by simp at h), ps_okB (by kernel_rfl), ?_, rfl, fun i k ds hds hs => ?_, fun i hs => ?_⟩
              · constructor <;> (repeat' (first | exact rfl | exact True.intro | exact ⟨_, _, rfl⟩ | exact (by decide) | apply And.intro))
                all_goals first
                  | exact congrArg (fun n : Int => D.v (.int .i64 n)) (by rw [wrap64 _ (by omega) (by omega)]; omega)
                  | exact congrArg (fun n : Int => D.v (.int .i64 n)) (by omega)
                  | (simp; done)
              · simp at hds
              · refine fork (fun e10 => ?_) (fun e10 => ?_)
                · have f81 : numF n s l = 1 := beq_t e10
                  refine Eq.trans (b := bool (numR n s l == 0)) ?_ rfl
                  rw [numR_no (numF_no hbad) (by decide)]
                  rfl
                · have f81 : ¬ (numF n s l = 1) := beq_f e10
                  exfalso
                  exact f81 (numF_no hbad)
            · have f74 : ¬ (s > 12) := of_decide_eq_false e9
              have hok : allOk n s := ⟨by omega, by omega, by omega, by omega⟩
              have hLa : (List.map ilD (allL (s + 1).toNat n.toNat)).length = (s + 1).toNat ^ n.toNat := by rw [List.length_map, allL_len]
              have hpw := pow_2197 (b := (s + 1).toNat) (n := n.toNat) (by omega) (by omega)
              refine use (spots_ok hok) rfl ?_
              refine use (All_spec n s) rfl ?_
              refine ⟨by kernel_rfl, 15, [[D.v (.int .i64 n)], [D.v (.int .i64 s)]], allV (s + 1).toNat n.toNat, [(0, int n), (1, int s), (5, .val (.one (.ptr 5 0))), (6, .val (.one (.ptr 6 0))), (9, .val (.one (.ptr 9 0))), (12, int (numR n s l)), (13, int (numF n s l)), (14, .val (.one (.ptr 14 0))), (90, .val (.one (.d (.fn 15 [[D.v (.int .i64 (n))], [D.v (.int .i64 (s))]]))))],
                Nat, fun i => [(5, .var 22 [.d (.list (List.map intD l))]), (6, .var 4 [.d (.v (.bool false))]), (9, .var 3 [.d (.v (.int .i64 ((i : Int))))]), (14, .var 26 [.d (.list (List.map ilD (allL (s + 1).toNat n.toNat)))])], fun i k => i = k, 0, rfl, (All1_ok hok), (fun ds h => allV_one h), ps_okB (by kernel_rfl), ?_, rfl, fun i k ds hds hs => ?_, fun i hs => ?_⟩
              · constructor <;> (repeat' (first | exact rfl | exact True.intro | exact ⟨_, _, rfl⟩ | exact (by decide) | apply And.intro))
                all_goals first
                  | exact congrArg (fun n : Int => D.v (.int .i64 n)) (by rw [wrap64 _ (by omega) (by omega)]; omega)
                  | exact congrArg (fun n : Int => D.v (.int .i64 n)) (by omega)
                  | (simp; done)
              · obtain rfl := hs
                obtain ⟨hlt, rfl⟩ := allV_is hds
                refine fork (fun e11 => ?_) (fun e11 => ?_)
                · have f96 : (i : Int) ≥ ((List.map ilD (allL (s + 1).toNat n.toNat)).length : Int) := of_decide_eq_true e11
                  exfalso
                  omega
                · have f96 : ¬ ((i : Int) ≥ ((List.map ilD (allL (s + 1).toNat n.toNat)).length : Int)) := of_decide_eq_false e11
                  refine k_ix i [D.list (List.map intD (dig (s + 1).toNat n.toNat i))] (by first | rfl | omega | (rw [wrap64 _ (by omega) (by omega)]; omega) | (rw [wrap64 _ (by omega) (by omega)]; split <;> omega)) (map_at (allL_get (by omega))) rfl ?_
                  refine k_eqS (by rw [dig_len]; omega) ?_
                  refine ⟨fun e => absurd e (by decide), fun _ => ?_⟩
                  refine ⟨i + 1, rfl, ?_⟩
                  constructor <;> (repeat' (first | exact rfl | exact True.intro | exact ⟨_, _, rfl⟩ | exact (by decide) | apply And.intro))
                  all_goals first
                    | exact congrArg (fun n : Int => D.v (.int .i64 n)) (by rw [wrap64 _ (by omega) (by omega)]; omega)
                    | exact congrArg (fun n : Int => D.v (.int .i64 n)) (by omega)
                    | (simp; done)
              · rw [allV_len] at hs
                refine use (spF_spec n s l hn) rfl ?_
                refine ⟨fun e12 => ?_, fun e12 => ?_⟩
                · have f112 : spF n s l ≠ 0 := bne_t e12
                  refine fork (fun e13 => ?_) (fun e13 => ?_)
                  · have f117 : (i : Int) = ((List.map ilD (allL (s + 1).toNat n.toNat)).length : Int) := beq_t e13
                    refine fork (fun e14 => ?_) (fun e14 => ?_)
                    · have f122 : numF n s l = spF n s l := beq_t e14
                      refine Eq.trans (b := bool (numR n s l == 0)) ?_ rfl
                      rw [numR_no (numF_ok hok) f112]
                      rfl
                    · have f122 : ¬ (numF n s l = spF n s l) := beq_f e14
                      exfalso
                      exact f122 (numF_ok hok)
                  · have f117 : ¬ ((i : Int) = ((List.map ilD (allL (s + 1).toNat n.toNat)).length : Int)) := beq_f e13
                    exfalso
                    exact f117 (by omega)
                · have f112 : ¬ (spF n s l ≠ 0) := fun hh => hh (bne_f e12)
                  have h0 : spF n s l = 0 := Decidable.byContradiction f112
                  refine ⟨[(5, .val (.one (.ref [D.list (List.map intD l)]))), (6, .val (.one (.ptr 6 0))), (9, .val (.one (.ptr 9 0))), (12, int (numR n s l)), (13, int (numF n s l)), (14, .val (.one (.ptr 14 0)))], [(6, .var 4 [.d (.v (.bool false))]), (9, .var 3 [.d (.v (.int .i64 ((i : Int))))]), (14, .var 26 [.d (.list (List.map ilD (allL (s + 1).toNat n.toNat)))])], ?_, ?_⟩
                  · constructor <;> (repeat' (first | exact rfl | exact True.intro | exact ⟨_, _, rfl⟩ | exact (by decide) | apply And.intro))
                  refine fork (fun e15 => ?_) (fun e15 => ?_)
                  · have f130 : (i : Int) = ((List.map ilD (allL (s + 1).toNat n.toNat)).length : Int) := beq_t e15
                    refine fork (fun e16 => ?_) (fun e16 => ?_)
                    · have f134 : numF n s l = 0 := beq_t e16
                      refine use (idx_spec (allL (s + 1).toNat n.toNat) l (by rw [allL_len]; omega) (fun x h => allL_mem h (by omega)) hn) rfl ?_
                      refine Eq.trans (b := bool (numR n s l == idxI (allL (s + 1).toNat n.toNat) l)) ?_ rfl
                      rw [numR_ok (numF_ok hok |>.trans h0), num_idx hok h0]
                      simp
                    · have f134 : ¬ (numF n s l = 0) := beq_f e16
                      exfalso
                      exact f134 (by rw [numF_ok hok, h0])
                  · have f130 : ¬ ((i : Int) = ((List.map ilD (allL (s + 1).toNat n.toNat)).length : Int)) := beq_f e15
                    exfalso
                    exact f130 (by omega)
end
end Go.Proofs.Ytobeklcimmjodaa.eng
