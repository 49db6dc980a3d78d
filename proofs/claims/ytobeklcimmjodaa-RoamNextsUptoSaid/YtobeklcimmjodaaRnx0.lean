/- The plain law for RoamNexts. -/
import Derived.Test.YtobeklcimmjodaaSlim
namespace Go.Proofs.Ytobeklcimmjodaa.eng
/-- a number as a list's element -/
def intD (n : Int) : List D := [.v (.int .i64 n)]
theorem eq_of_all {l m : List Int} (h : l.length = m.length) (ha : ∀ (j : Nat) (x y : Int), j < l.length → l[j]? = some x → m[j]? = some y → x = y) : l = m := by
  refine List.ext_getElem? fun j => ?_
  by_cases hj : j < l.length
  · have h1 := List.getElem?_eq_getElem hj
    have h2 := List.getElem?_eq_getElem (h ▸ hj : j < m.length)
    rw [h1, h2, ha j _ _ hj h1 h2]
  · rw [List.getElem?_eq_none (by omega), List.getElem?_eq_none (by omega)]
/-- a number's neighbour: the one before, the one behind -/
def nbW (k : Int) (j : Nat) : Int := if j = 0 then IntKind.i64.wrap (k - 1) else IntKind.i64.wrap (k + 1)
def nbOk (s k : Int) (j : Nat) : Prop := 0 ≤ k ∧ k ≤ s ∧ 0 ≤ nbW k j ∧ nbW k j ≤ s
instance (s k : Int) (j : Nat) : Decidable (nbOk s k j) := inferInstanceAs (Decidable (_ ∧ _))
/-- the spot beside a spot, of number m, if it is one -/
def bes1 (s : Int) (l : List Int) (m : Nat) : Option (List Int) :=
  match l[m / 2]? with
  | some k => if nbOk s k (m % 2) then some (l.set (m / 2) (nbW k (m % 2))) else none
  | none => none
def besU (s : Int) (l : List Int) (m : Nat) : List (List Int) := (List.range m).filterMap (bes1 s l)
theorem besU_succ (s : Int) (l : List Int) (m : Nat) : besU s l (m + 1) = besU s l m ++ (bes1 s l m).toList := by
  unfold besU
  rw [List.range_succ, List.filterMap_append]
  cases h : bes1 s l m <;> simp [h]
def besE (s : Int) (l : List Int) : List (List D) := (besU s l (2 * l.length)).map fun x => [.list (List.map intD x)]
theorem besE_len (s : Int) (l : List Int) : (besE s l).length = (besU s l (2 * l.length)).length := by simp [besE]
theorem besU_pre (s : Int) (l : List Int) {m n : Nat} (h : m ≤ n) : ∃ r, besU s l n = besU s l m ++ r := by
  induction n with
  | zero => obtain rfl : m = 0 := by omega
            exact ⟨[], by simp⟩
  | succ n ih =>
    by_cases e : m = n + 1
    · subst e; exact ⟨[], by simp⟩
    · obtain ⟨r, hr⟩ := ih (by omega)
      exact ⟨r ++ (bes1 s l n).toList, by rw [besU_succ, hr, List.append_assoc]⟩
theorem bes1_at {s : Int} {l : List Int} {i j : Nat} {k : Int} (hk : l[i]? = some k) (hj : j < 2) : bes1 s l (2 * i + j) = if nbOk s k j then some (l.set i (nbW k j)) else none := by
  have h1 : (2 * i + j) / 2 = i := by omega
  have h2 : (2 * i + j) % 2 = j := by omega
  unfold bes1
  rw [h1, h2, hk]
theorem besU_yes {s : Int} {l : List Int} {i j : Nat} {k : Int} (hk : l[i]? = some k) (hj : j < 2) (h : nbOk s k j) : (besU s l (2 * i + (j + 1))).length = (besU s l (2 * i + j)).length + 1 := by
  rw [← Nat.add_assoc, besU_succ, bes1_at hk hj, if_pos h]; simp
theorem besU_no {s : Int} {l : List Int} {i j : Nat} {k : Int} (hk : l[i]? = some k) (hj : j < 2) (h : ¬ nbOk s k j) : (besU s l (2 * i + (j + 1))).length = (besU s l (2 * i + j)).length := by
  rw [← Nat.add_assoc, besU_succ, bes1_at hk hj, if_neg h]; simp
theorem besE_at {s : Int} {l : List Int} {i j : Nat} {k : Int} (hk : l[i]? = some k) (hj : j < 2) (h : nbOk s k j) :
    (besE s l)[(besU s l (2 * i + j)).length]? = some [.list ((List.map intD l).set i [.v (.int .i64 (nbW k j))])] := by
  have hi : i < l.length := (List.getElem?_eq_some_iff.1 hk).1
  obtain ⟨r, hr⟩ := besU_pre s l (m := 2 * i + j + 1) (n := 2 * l.length) (by omega)
  unfold besE
  rw [List.getElem?_map, hr, besU_succ, bes1_at hk hj, if_pos h, List.append_assoc, List.getElem?_append_right (by omega)]
  simp [List.map_set, intD]
theorem two_at (a b : Int) {j : Nat} (h : j < 2) : ([[.v (.int .i64 a)], [.v (.int .i64 b)]] : List (List D))[j]? = some [.v (.int .i64 (if j = 0 then a else b))] := by
  match j, h with
  | 0, _ => rfl
  | 1, _ => rfl
theorem flat_int (l : List Int) : ∀ r, r ∈ List.map intD l → ∀ d, d ∈ r → ∃ v, d = D.v v := by
  intro r hr d hd
  obtain ⟨n, _, rfl⟩ := List.mem_map.1 hr
  exact ⟨.int .i64 n, by simpa [intD] using hd⟩
/-- the n digits of m, of base b, the last one the least -/
def dig (b : Nat) : Nat → Nat → List Int
  | 0, _ => []
  | n + 1, m => dig b n (m / b) ++ [((m % b : Nat) : Int)]
theorem dig_len (b : Nat) : ∀ n m, (dig b n m).length = n
  | 0, _ => rfl
  | n + 1, m => by rw [dig, List.length_append, dig_len b n]; rfl
/-- the last c digits are 0 -/
def zr (b n m c : Nat) : List Int := dig b (n - c) (m / b ^ c) ++ List.replicate c 0
theorem zr_0 (b n m : Nat) : zr b n m 0 = dig b n m := by simp [zr]
theorem zr_len {b n m c : Nat} (h : c ≤ n) : (zr b n m c).length = n := by simp [zr, dig_len]; omega
theorem zr_split {b n m c : Nat} (h : c < n) : zr b n m c = dig b (n - 1 - c) (m / b ^ c / b) ++ (((m / b ^ c % b : Nat) : Int) :: List.replicate c 0) := by
  have e : n - c = (n - 1 - c) + 1 := by omega
  unfold zr
  rw [e, dig, List.append_assoc]
  rfl
theorem zr_get {b n m c : Nat} (h : c < n) : (zr b n m c)[n - 1 - c]? = some ((m / b ^ c % b : Nat) : Int) := by
  rw [zr_split h, List.getElem?_append_right (by rw [dig_len]; omega), dig_len]
  simp
theorem set_mid {α : Type} (l r : List α) (x y : α) {i : Nat} (h : l.length = i) : (l ++ x :: r).set i y = l ++ y :: r := by
  rw [List.set_append_right _ _ (by omega)]
  have : i - l.length = 0 := by omega
  rw [this]; rfl
theorem zr_set0 {b n m c : Nat} (h : c < n) : (zr b n m c).set (n - 1 - c) 0 = zr b n m (c + 1) := by
  rw [zr_split h, set_mid _ _ _ _ (dig_len _ _ _)]
  unfold zr
  rw [show n - (c + 1) = n - 1 - c by omega, Nat.pow_succ, ← Nat.div_div_eq_div_mul, List.replicate_succ]
theorem dvd_div {b m c : Nat} (h : b ^ c ∣ m + 1) (hb : 0 < b) : m + 1 = b ^ c * (m / b ^ c + 1) := by
  obtain ⟨t, ht⟩ := h
  have hp : 0 < b ^ c := Nat.pow_pos hb
  have h0 : t ≠ 0 := fun e => by rw [e] at ht; simp at ht
  obtain ⟨u, rfl⟩ : ∃ u, t = u + 1 := ⟨t - 1, by omega⟩
  rw [Nat.mul_add, Nat.mul_one] at ht
  have e : m / b ^ c = u := by
    refine Nat.div_eq_of_lt_le ?_ ?_
    · rw [Nat.mul_comm]; omega
    · rw [Nat.mul_comm, Nat.mul_add, Nat.mul_one]; omega
  rw [e, Nat.mul_add, Nat.mul_one]; exact ht
theorem dig_mul {b : Nat} (hb : 0 < b) : ∀ (c n y : Nat), c ≤ n → dig b n (b ^ c * y) = dig b (n - c) y ++ List.replicate c 0
  | 0, n, y, _ => by simp
  | c + 1, n, y, h => by
    obtain ⟨k, rfl⟩ : ∃ k, n = k + 1 := ⟨n - 1, by omega⟩
    have e : b ^ (c + 1) * y = b * (b ^ c * y) := by rw [Nat.pow_succ, Nat.mul_comm (b ^ c) b, Nat.mul_assoc]
    rw [dig, e, Nat.mul_div_cancel_left _ hb, Nat.mul_mod_right, dig_mul hb c k y (by omega), show k + 1 - (c + 1) = k - c by omega, List.append_assoc]
    congr 1
    rw [show ([((0 : Nat) : Int)] : List Int) = List.replicate 1 0 from rfl, List.replicate_append_replicate]
theorem zr_inc {b n m c : Nat} (h : c < n) (hb : 0 < b) (hd : b ^ c ∣ m + 1) (hx : m / b ^ c % b + 1 ≠ b) : (zr b n m c).set (n - 1 - c) (((m / b ^ c % b : Nat) : Int) + 1) = dig b n (m + 1) := by
  have e := dvd_div hd hb
  have hlt := Nat.mod_lt (m / b ^ c) hb
  rw [zr_split h, set_mid _ _ _ _ (dig_len _ _ _), e, dig_mul hb c n _ (by omega), show n - c = (n - 1 - c) + 1 by omega, dig]
  generalize m / b ^ c = x at *
  have hx1 := Nat.div_add_mod x b
  have e1 : (x + 1) / b = x / b := by
    refine Nat.div_eq_of_lt_le ?_ ?_
    · rw [Nat.mul_comm]; omega
    · rw [Nat.mul_comm, Nat.mul_add, Nat.mul_one]; omega
  have e2 : (x + 1) % b = x % b + 1 := by
    have := Nat.div_add_mod (x + 1) b
    rw [e1] at this
    omega
  rw [e1, e2, List.append_assoc]
  rfl
theorem dvd_next {b m c : Nat} (hb : 0 < b) (hd : b ^ c ∣ m + 1) (hx : m / b ^ c % b + 1 = b) : b ^ (c + 1) ∣ m + 1 := by
  have e := dvd_div hd hb
  have h1 : b ∣ m / b ^ c + 1 := by
    have := Nat.div_add_mod (m / b ^ c) b
    refine ⟨m / b ^ c / b + 1, ?_⟩
    rw [Nat.mul_add, Nat.mul_one]; omega
  obtain ⟨u, hu⟩ := h1
  exact ⟨u, by rw [e, hu, Nat.pow_succ, Nat.mul_assoc]⟩
theorem all_next {b n m c : Nat} (hb : 0 < b) (hc : c < n) (hm : m < b ^ n) (hd : b ^ c ∣ m + 1) (hx : m / b ^ c % b + 1 ≠ b) : m + 1 < b ^ n := by
  refine Nat.lt_of_le_of_ne hm fun e => hx ?_
  have e1 := dvd_div hd hb
  obtain ⟨k, rfl⟩ : ∃ k, n = c + (k + 1) := ⟨n - c - 1, by omega⟩
  have hp : 0 < b ^ c := Nat.pow_pos hb
  have e2 : m / b ^ c + 1 = b ^ (k + 1) := by
    rw [e1, Nat.pow_add] at e
    exact Nat.eq_of_mul_eq_mul_left hp e
  rw [Nat.pow_succ, Nat.mul_comm] at e2
  have := Nat.div_add_mod (m / b ^ c) b
  have hlt := Nat.mod_lt (m / b ^ c) hb
  have h3 : (m / b ^ c + 1) % b = 0 := by rw [e2]; exact Nat.mul_mod_right _ _
  by_cases h4 : m / b ^ c % b + 1 = b
  · exact h4
  · exfalso
    rw [Nat.add_mod] at h3
    by_cases hb1 : b = 1
    · omega
    · rw [Nat.mod_eq_of_lt (show 1 < b by omega), Nat.mod_eq_of_lt (by omega)] at h3
      omega
theorem all_end {b n m : Nat} (hm : m < b ^ n) (hd : b ^ n ∣ m + 1) : m + 1 = b ^ n := by
  have := Nat.le_of_dvd (by omega) hd
  omega
theorem dig_0 (b : Nat) : ∀ n, dig b n 0 = List.replicate n 0
  | 0 => rfl
  | n + 1 => by
    rw [dig, Nat.zero_div, Nat.zero_mod, dig_0 b n]
    rw [show ([((0 : Nat) : Int)] : List Int) = List.replicate 1 0 from rfl, List.replicate_append_replicate]
/-- all spots, as yielded -/
def allV (b n : Nat) : List (List D) := (List.range (b ^ n)).map fun m => [.list (List.map intD (dig b n m))]
theorem allV_len (b n : Nat) : (allV b n).length = b ^ n := by simp [allV]
theorem allV_at {b n m : Nat} (h : m < b ^ n) : (allV b n)[m]? = some [.list (List.map intD (dig b n m))] := by simp [allV, h]
theorem rep_0 (b n : Nat) : List.replicate n [D.v (.int .i64 0)] = List.map intD (dig b n 0) := by rw [dig_0, List.map_replicate]; rfl
/-- SpotFault, Number -/
def inR (s : Int) (l : List Int) : Prop := ∀ k, k ∈ l → 0 ≤ k ∧ k ≤ s
instance (s : Int) (l : List Int) : Decidable (inR s l) := inferInstanceAs (Decidable (∀ k, k ∈ l → 0 ≤ k ∧ k ≤ s))
def spF (n s : Int) (l : List Int) : Int := if (l.length : Int) = n then (if inR s l then 0 else 17) else 1
def numV (b : Int) (l : List Int) : Int := l.foldl (fun a k => a * b + k) 0
theorem numV_snoc {b : Int} {l : List Int} {i : Nat} {k : Int} (h : l[i]? = some k) : numV b (l.take (i + 1)) = numV b (l.take i) * b + k := by
  rw [List.take_add_one, h]; simp [numV]
theorem inR_all {s : Int} {l : List Int} (h : ∀ (j : Nat) (k : Int), j < l.length → l[j]? = some k → 0 ≤ k ∧ k ≤ s) : inR s l := fun k hk => by
  obtain ⟨j, hj, e⟩ := List.getElem_of_mem hk
  exact h j k hj (by rw [List.getElem?_eq_getElem hj, e])
theorem spF_1 {n s : Int} {l : List Int} (h : (l.length : Int) ≠ n) : spF n s l = 1 := if_neg h
theorem spF_0 {n s : Int} {l : List Int} (h : (l.length : Int) = n) (h2 : inR s l) : spF n s l = 0 := by unfold spF; rw [if_pos h, if_pos h2]
theorem spF_17 {n s : Int} {l : List Int} (h : (l.length : Int) = n) {j : Nat} {k : Int} (hj : l[j]? = some k) (h2 : ¬ (0 ≤ k ∧ k ≤ s)) : spF n s l = 17 := by
  unfold spF; rw [if_pos h, if_neg fun h3 => h2 (h3 k (List.mem_of_getElem? hj))]
theorem num_step {v k s : Int} {i : Nat} (h0 : 0 ≤ v) (h1 : v < 13 ^ i) (hk : 0 ≤ k ∧ k ≤ s) (hs : s ≤ 12) : 0 ≤ v * (s + 1) + k ∧ v * (s + 1) + k < 13 ^ (i + 1) := by
  have h2 : 0 ≤ v * (s + 1) := Int.mul_nonneg h0 (by omega)
  have h3 : v * (s + 1) ≤ v * 13 := Int.mul_le_mul_of_nonneg_left (by omega) h0
  rw [Int.pow_succ]
  omega
theorem pow13 {i : Nat} (h : i ≤ 3) : (13 : Int) ^ i ≤ 2197 := by
  match i, h with
  | 0, _ => decide
  | 1, _ => decide
  | 2, _ => decide
  | 3, _ => decide
/-- a list of numbers as a list's element -/
def ilD (x : List Int) : List D := [.list (List.map intD x)]
theorem besU_yesL {s : Int} {l : List Int} {i j : Nat} {k : Int} (hk : l[i]? = some k) (hj : j < 2) (h : nbOk s k j) : besU s l (2 * i + (j + 1)) = besU s l (2 * i + j) ++ [l.set i (nbW k j)] := by
  rw [← Nat.add_assoc, besU_succ, bes1_at hk hj, if_pos h]; rfl
theorem besU_noL {s : Int} {l : List Int} {i j : Nat} {k : Int} (hk : l[i]? = some k) (hj : j < 2) (h : ¬ nbOk s k j) : besU s l (2 * i + (j + 1)) = besU s l (2 * i + j) := by
  rw [← Nat.add_assoc, besU_succ, bes1_at hk hj, if_neg h]; simp
theorem besU_le (s : Int) (l : List Int) (m : Nat) : (besU s l m).length ≤ m := by
  have := List.length_filterMap_le (bes1 s l) (List.range m)
  simpa [besU] using this
theorem nb_add (k : Int) (j : Nat) : IntKind.i64.wrap (k + (if j = 0 then -1 else 1)) = nbW k j := by
  unfold nbW
  split <;> rfl
end Go.Proofs.Ytobeklcimmjodaa.eng
