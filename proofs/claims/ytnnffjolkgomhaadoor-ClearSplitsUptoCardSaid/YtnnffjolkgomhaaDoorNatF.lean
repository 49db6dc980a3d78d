/- Walks: nat.left, nat.takeAway, nat.putBack. -/
import Derived.Test.YtnnffjolkgomhaaDoorNatE
namespace Go.Proofs.YtnnffjolkgomhaaDoor.natF
open Go.RowKit num mem natA natB natC natD natE

theorem wrap_prod {p y c : Nat} (hp : p < 4294967296) (hy : y < 4294967296) (hc : c < 4294967296) : IntKind.u64.wrap ((c : Int) + IntKind.u64.wrap ((p : Int) * (y : Int))) = ((c + p * y : Nat) : Int) ∧ c + p * y ≤ 18446744073709551615 := by
  have h1 : p * y ≤ 4294967295 * 4294967295 := Nat.mul_le_mul (by omega) (by omega)
  have h2 : ((p : Int) * (y : Int)) = ((p * y : Nat) : Int) := by simp
  rw [h2]
  generalize p * y = z at h1
  simp only [IntKind.wrap_u64]
  omega
theorem away_sub {low u b : Nat} (hl : low < 4294967296) (hu : u < 4294967296) (hb : b ≤ 1) : ∃ d b' : Nat,
    IntKind.u64.wrap (IntKind.u64.wrap ((u : Int) - (low : Int)) - (b : Int)) % 4294967296 = (d : Int) ∧ IntKind.u64.wrap (IntKind.u64.wrap ((u : Int) - (low : Int)) - (b : Int)) / 9223372036854775808 = (b' : Int) ∧
    d < 4294967296 ∧ b' ≤ 1 ∧ d + low + b = u + b' * 4294967296 := by
  simp only [IntKind.wrap_u64]
  by_cases h : low + b ≤ u
  · refine ⟨u - low - b, 0, ?_, ?_, ?_, ?_, ?_⟩ <;> omega
  · refine ⟨u + 4294967296 - low - b, 1, ?_, ?_, ?_, ?_, ?_⟩ <;> omega
theorem away_wrap {p y c u b : Nat} (hp : p < 4294967296) (hy : y < 4294967296) (hc : c < 4294967296) (hu : u < 4294967296) (hb : b ≤ 1) : ∃ low d c' b' : Nat,
    IntKind.u64.wrap ((c : Int) + IntKind.u64.wrap ((p : Int) * (y : Int))) / 4294967296 = (c' : Int) ∧
    IntKind.u64.wrap (IntKind.u64.wrap ((u : Int) - IntKind.u64.wrap ((c : Int) + IntKind.u64.wrap ((p : Int) * (y : Int))) % 4294967296) - (b : Int)) % 4294967296 = (d : Int) ∧
    IntKind.u64.wrap (IntKind.u64.wrap ((u : Int) - IntKind.u64.wrap ((c : Int) + IntKind.u64.wrap ((p : Int) * (y : Int))) % 4294967296) - (b : Int)) / 9223372036854775808 = (b' : Int) ∧
    d < 4294967296 ∧ b' ≤ 1 ∧ c' < 4294967296 ∧ d + low + b = u + b' * 4294967296 ∧ low + c' * 4294967296 = c + p * y := by
  obtain ⟨e, hle⟩ := wrap_prod hp hy hc
  rw [e]
  generalize c + p * y = z at hle
  have e2 : ((z : Int) % 4294967296) = ((z % 4294967296 : Nat) : Int) := by omega
  rw [e2]
  obtain ⟨d, b', h1, h2, h3, h4, h5⟩ := away_sub (low := z % 4294967296) (u := u) (b := b) (by omega) hu hb
  exact ⟨z % 4294967296, d, z / 4294967296, b', by omega, h1, h2, h3, h4, by omega, h5, by omega⟩

theorem takeAway_any (bu off cu bv cv pc : Nat) (U V : List Nat) (p : Nat) (w : World) (hU : Row w bu 168 (nums .u32 U)) (hV : Pre w bv 168 pc (nums .u32 V)) (hne : bu ≠ bv)
    (lU : ∀ d ∈ U, d < 4294967296) (lV : ∀ d ∈ V, d < 4294967296) (hlen : off + V.length + 1 ≤ U.length) (hmax : U.length ≤ 70368744177664) (hp : p < 4294967296) :
    Calls Tryd.prog 207 #[.slice (some ⟨bu, off, none⟩) (V.length + 1) cu, .slice (some ⟨bv, 0, none⟩) V.length cv, .int .u64 p] w fun e w' => ∃ (neg : Nat) (Z : List Nat), e = .returned (.bool (decide (neg = 1))) ∧ neg ≤ 1 ∧
      Z.length = U.length ∧ (∀ d ∈ Z, d < 4294967296) ∧ lv 4294967296 Z + 4294967296 ^ off * (p * lv 4294967296 V) = lv 4294967296 U + neg * 4294967296 ^ (off + V.length + 1) ∧ Z.take off = U.take off ∧ (∀ j, off + V.length < j → Z.getD j 0 = U.getD j 0) ∧
      Row w' bu 168 (nums .u32 Z) ∧ w.grownBy w' (some bu) ∧ w'.heap.size = w.heap.size := by
  have HU := Lib.hid lU
  have HV := Lib.hid lV
  clear lU lV
  have hbu := hU.lt
  have hbv := hV.lt
  go_enter Tryd.func207, Tryd.ntmps207
  go_wp2
  go_loopw [7, 8, 15] (fun cr br i wr => ∃ (k c b : Nat) (Z : List Nat), k ≤ V.length ∧ i = .int .i64 k ∧ cr = .int .u64 c ∧ c < 4294967296 ∧ br = .int .u64 b ∧ b ≤ 1 ∧ Hid (Z.length = U.length) ∧ Hid (∀ d ∈ Z, d < 4294967296) ∧
      Hid (lv 4294967296 Z + 4294967296 ^ off * (p * lv 4294967296 (V.take k)) = lv 4294967296 U + (c + b) * 4294967296 ^ (off + k)) ∧ Hid (Z.take off = U.take off) ∧ Hid (∀ j, off + k ≤ j → Z.getD j 0 = U.getD j 0) ∧
      Row wr bu 168 (nums .u32 Z) ∧ w.grownBy wr (some bu) ∧ Hid (wr.heap.size = w.heap.size)) (fun _ _ i _ => V.length - (intOf i).toNat)
  case atStart => exact ⟨0, 0, 0, U, Nat.zero_le _, rfl, rfl, by omega, rfl, by omega, rfl, HU.out, by simp [Hid, lv], rfl, fun _ _ => rfl, hU, World.grownBy.refl _ _, rfl⟩
  case round =>
    obtain ⟨k, c, b, Z, hk, rfl, rfl, hc, rfl, hb1, hZl, hZ, hlv, htk, habove, hRk, hgk, hsz⟩ := hrel
    by_cases hlt : k < V.length
    · obtain ⟨y, hy⟩ : ∃ y : Nat, y = V.getD k 0 := ⟨_, rfl⟩
      have hyl : y < 4294967296 := by rw [hy]; exact getD_lt (by omega) HV.out k
      have hcy := (hV.grown hgk (fun e => hne (Option.some.inj e).symm)).int (i := k) hlt
      rw [← hy] at hcy
      obtain ⟨u, hu⟩ : ∃ u : Nat, u = Z.getD (off + k) 0 := ⟨_, rfl⟩
      have hul : u < 4294967296 := by rw [hu]; exact getD_lt (by omega) hZ.out _
      have hcu := hRk.int (i := off + k) (by have := hZl.out; omega)
      rw [← hu] at hcu
      have hfu := hRk.frozen (off + k)
      obtain ⟨low, d, c', b', e1, e2, e3, hd, hb', hc', h5, h6⟩ := away_wrap hp hyl hc hul hb1
      have hst := Lib.hid (take_step (B := 4294967296) (Y := V) (P := p) (d := d) (c' := c') (b' := b') (low := low) (by have := hZl.out; omega) hlv.out (by rw [← hu]; exact h5) (by rw [← hy]; exact h6))
      have E1 := Lib.hid e1
      have E2 := Lib.hid e2
      have E3 := Lib.hid e3
      clear hy hu e1 e2 e3 h5 h6
      go_wp2
      go_roundw
      case rel =>
        rw [E1.out, E2.out, E3.out]
        have hR' := hRk.int_set (off + k) d
        refine ⟨k + 1, c', b', Z.set (off + k) d, by omega, by go_num, rfl, hc', rfl, hb', by have := hZl.out; simp [Hid, this], all_set hZ.out hd, hst.out, ?_, ?_, hR', grown_set hgk _ _, size_set hsz _ _⟩
        · show _ = _; rw [take_set_ge (by omega)]; exact htk.out
        · intro j hj; rw [set_getD_ne (by omega)]; exact habove.out j (by omega)
      case measure => simp [intOf] <;> omega
    · obtain ⟨u, hu⟩ : ∃ u : Nat, u = Z.getD (off + V.length) 0 := ⟨_, rfl⟩
      have hul : u < 4294967296 := by rw [hu]; exact getD_lt (by omega) hZ.out _
      have hcu := hRk.int (i := off + V.length) (by have := hZl.out; omega)
      rw [← hu] at hcu
      have hfu := hRk.frozen (off + V.length)
      obtain ⟨d, b', e1, e2, hd, hb', h5⟩ := away_sub (low := c) (u := u) (b := b) hc hul hb1
      have HK : k = V.length := by omega
      have hst := Lib.hid (show lv 4294967296 (Z.set (off + V.length) d) + 4294967296 ^ off * (p * lv 4294967296 V) = lv 4294967296 U + b' * 4294967296 ^ (off + V.length + 1) by
        have hs := lv_set (B := 4294967296) (l := Z) (j := off + V.length) (d := d) (by have := hZl.out; omega)
        have h1 := hlv.out
        rw [HK, lv_take_of_le _ _ (Nat.le_refl _)] at h1
        rw [← hu] at hs
        have g := congrArg (fun v => 4294967296 ^ (off + V.length) * v) h5
        simp only [Nat.mul_add] at g
        rw [Nat.add_mul, Nat.mul_comm c, Nat.mul_comm b] at h1
        rw [Nat.pow_succ, show b' * (4294967296 ^ (off + V.length) * 4294967296) = 4294967296 ^ (off + V.length) * (b' * 4294967296) by rw [Nat.mul_left_comm]]
        omega)
      have hpos : decide ((0 : Int) < (b' : Int)) = decide (b' = 1) := by
        rcases (show b' = 0 ∨ b' = 1 by omega) with h | h <;> subst h <;> rfl
      have HP := Lib.hid hpos
      have HKK := Lib.hid HK
      have E1 := Lib.hid e1
      have E2 := Lib.hid e2
      clear hu e1 e2 h5 hpos HK
      go_wp2
      rw [E1.out, E2.out]
      go_wp2
      go_ret
      have hR' := hRk.int_set (off + V.length) d
      refine ⟨b', Z.set (off + V.length) d, ret_bool HP.out, hb', by have := hZl.out; simp [this], all_set hZ.out hd, hst.out, ?_, ?_, hR', grown_set hgk _ _, size_set hsz _ _⟩
      · rw [take_set_ge (by omega)]; exact htk.out
      · intro j hj; rw [set_getD_ne (by omega)]; exact habove.out j (by have := HKK.out; omega)

theorem put_sum {c u y : Nat} (hc : c ≤ 1) (hu : u < 4294967296) (hy : y < 4294967296) : ∃ d c' : Nat,
    ((c : Int) + ((u : Int) + (y : Int))) % 4294967296 = (d : Int) ∧ ((c : Int) + ((u : Int) + (y : Int))) / 4294967296 = (c' : Int) ∧ d < 4294967296 ∧ c' ≤ 1 ∧ d + c' * 4294967296 = c + (u + y) := by
  refine ⟨(c + (u + y)) % 4294967296, (c + (u + y)) / 4294967296, ?_, ?_, ?_, ?_, ?_⟩ <;> omega

theorem putBack_any (bu off cu bv cv pc : Nat) (U V : List Nat) (w : World) (hU : Row w bu 168 (nums .u32 U)) (hV : Pre w bv 168 pc (nums .u32 V)) (hne : bu ≠ bv)
    (lU : ∀ d ∈ U, d < 4294967296) (lV : ∀ d ∈ V, d < 4294967296) (hlen : off + V.length + 1 ≤ U.length) (hmax : U.length ≤ 70368744177664) :
    Calls Tryd.prog 208 #[.slice (some ⟨bu, off, none⟩) (V.length + 1) cu, .slice (some ⟨bv, 0, none⟩) V.length cv] w fun e w' => e = .returned (.tuple #[]) ∧ ∃ (c : Nat) (Z : List Nat), 
      Z.length = U.length ∧ (∀ d ∈ Z, d < 4294967296) ∧ lv 4294967296 Z + c * 4294967296 ^ (off + V.length + 1) = lv 4294967296 U + 4294967296 ^ off * lv 4294967296 V ∧ Z.take off = U.take off ∧ (∀ j, off + V.length < j → Z.getD j 0 = U.getD j 0) ∧
      Row w' bu 168 (nums .u32 Z) ∧ w.grownBy w' (some bu) ∧ w'.heap.size = w.heap.size := by
  have HU := Lib.hid lU
  have HV := Lib.hid lV
  clear lU lV
  have hbu := hU.lt
  have hbv := hV.lt
  go_enter Tryd.func208, Tryd.ntmps208
  go_wp2
  go_loopw [4, 9] (fun cr i wr => ∃ (k c : Nat) (Z : List Nat), k ≤ V.length ∧ i = .int .i64 k ∧ cr = .int .u64 c ∧ c ≤ 1 ∧ Hid (Z.length = U.length) ∧ Hid (∀ d ∈ Z, d < 4294967296) ∧
      Hid (lv 4294967296 Z + c * 4294967296 ^ (off + k) = lv 4294967296 U + 4294967296 ^ off * lv 4294967296 (V.take k)) ∧ Hid (Z.take off = U.take off) ∧ Hid (∀ j, off + k ≤ j → Z.getD j 0 = U.getD j 0) ∧
      Row wr bu 168 (nums .u32 Z) ∧ w.grownBy wr (some bu) ∧ Hid (wr.heap.size = w.heap.size)) (fun _ i _ => V.length - (intOf i).toNat)
  case atStart => exact ⟨0, 0, U, Nat.zero_le _, rfl, rfl, by omega, rfl, HU.out, by simp [Hid, lv], rfl, fun _ _ => rfl, hU, World.grownBy.refl _ _, rfl⟩
  case round =>
    obtain ⟨k, c, Z, hk, rfl, rfl, hc, hZl, hZ, hlv, htk, habove, hRk, hgk, hsz⟩ := hrel
    by_cases hlt : k < V.length
    · obtain ⟨y, hy⟩ : ∃ y : Nat, y = V.getD k 0 := ⟨_, rfl⟩
      have hyl : y < 4294967296 := by rw [hy]; exact getD_lt (by omega) HV.out k
      have hcy := (hV.grown hgk (fun e => hne (Option.some.inj e).symm)).int (i := k) hlt
      rw [← hy] at hcy
      obtain ⟨u, hu⟩ : ∃ u : Nat, u = Z.getD (off + k) 0 := ⟨_, rfl⟩
      have hul : u < 4294967296 := by rw [hu]; exact getD_lt (by omega) hZ.out _
      have hcu := hRk.int (i := off + k) (by have := hZl.out; omega)
      rw [← hu] at hcu
      have hfu := hRk.frozen (off + k)
      obtain ⟨d, c', e1, e2, hd, hc', h5⟩ := put_sum hc hul hyl
      have hst := Lib.hid (put_step (B := 4294967296) (Y := V) (d := d) (c' := c') (by have := hZl.out; omega) hlv.out (by rw [← hu, ← hy]; exact h5))
      have E1 := Lib.hid e1
      have E2 := Lib.hid e2
      clear hy hu e1 e2 h5
      go_wp2
      go_roundw
      case rel =>
        rw [E1.out, E2.out]
        have hR' := hRk.int_set (off + k) d
        refine ⟨k + 1, c', Z.set (off + k) d, by omega, by go_num, rfl, hc', by have := hZl.out; simp [Hid, this], all_set hZ.out hd, hst.out, ?_, ?_, hR', grown_set hgk _ _, size_set hsz _ _⟩
        · show _ = _; rw [take_set_ge (by omega)]; exact htk.out
        · intro j hj; rw [set_getD_ne (by omega)]; exact habove.out j (by omega)
      case measure => simp [intOf] <;> omega
    · obtain ⟨u, hu⟩ : ∃ u : Nat, u = Z.getD (off + V.length) 0 := ⟨_, rfl⟩
      have hul : u < 4294967296 := by rw [hu]; exact getD_lt (by omega) hZ.out _
      have hcu := hRk.int (i := off + V.length) (by have := hZl.out; omega)
      rw [← hu] at hcu
      have hfu := hRk.frozen (off + V.length)
      obtain ⟨d, hd⟩ : ∃ d, d = (u + c) % 4294967296 := ⟨_, rfl⟩
      have hdl : d < 4294967296 := by omega
      have HK : k = V.length := by omega
      have hst := Lib.hid (show lv 4294967296 (Z.set (off + V.length) d) + (u + c) / 4294967296 * 4294967296 ^ (off + V.length + 1) = lv 4294967296 U + 4294967296 ^ off * lv 4294967296 V by
        have hs := lv_set (B := 4294967296) (l := Z) (j := off + V.length) (d := d) (by have := hZl.out; omega)
        have h1 := hlv.out
        rw [HK, lv_take_of_le _ _ (Nat.le_refl _)] at h1
        rw [← hu] at hs
        have h5 : d + (u + c) / 4294967296 * 4294967296 = u + c := by omega
        have g := congrArg (fun v => 4294967296 ^ (off + V.length) * v) h5
        simp only [Nat.mul_add] at g
        rw [Nat.mul_comm c] at h1
        rw [Nat.pow_succ, show (u + c) / 4294967296 * (4294967296 ^ (off + V.length) * 4294967296) = 4294967296 ^ (off + V.length) * ((u + c) / 4294967296 * 4294967296) by rw [Nat.mul_left_comm]]
        omega)
      have HKK := Lib.hid HK
      have E1 := Lib.hid (show ((u : Int) + (c : Int)) % 4294967296 = (d : Int) by omega)
      clear hu hd HK
      go_wp2
      go_end0
      have hR' := hRk.int_set (off + V.length) d
      refine ⟨rfl, (u + c) / 4294967296, Z.set (off + V.length) d, by have := hZl.out; simp [this], all_set hZ.out hdl, hst.out, ?_, ?_, ?_, ?_, ?_⟩
      · rw [take_set_ge (by omega)]; exact htk.out
      · intro j hj; rw [set_getD_ne (by omega)]; exact habove.out j (by have := HKK.out; omega)
      · rw [E1.out]; exact hR'
      · exact grown_set hgk _ _
      · exact size_set hsz _ _

end Go.Proofs.YtnnffjolkgomhaaDoor.natF
