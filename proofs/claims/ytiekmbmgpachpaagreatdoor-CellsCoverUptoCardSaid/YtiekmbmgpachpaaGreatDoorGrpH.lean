/- Joined by wip/bundle.py: XGeo XGeo2 XGeo3. -/
import Derived.Test.YtiekmbmgpachpaaGreatDoorGrpP
namespace Go.Proofs.YtiekmbmgpachpaaGreatDoor.poly
def crs (u v:Pt):Rat:=u.1*v.2 - u.2*v.1
def dt (u v:Pt):Rat:=u.1*v.1+u.2*v.2
def sb (u v:Pt):Pt:=(u.1 - v.1,u.2 - v.2)
theorem crs_anti (u v:Pt):crs u v=- crs v u:=by unfold crs;grind
theorem ZeT (u:Pt):crs u u=0:=by unfold crs;grind
theorem ZaG (a:Rat):0≤a*a:=by
 rcases Rat.le_total (a:=0) (b:=a) with h|h
 ·exact Rat.mul_nonneg h h
 ·have:=Rat.mul_nonneg (a:=-a) (b:=-a) (by grind) (by grind)
  grind
theorem Zj9 {a:Rat} (h:a≠0):0< a*a:=by
 have:=ZaG a
 have h2:a*a≠0:=fun e=>h (by rcases Rat.mul_eq_zero.1 e with h|h<;>exact h)
 grind
theorem Zis {u:Pt} (h:¬ (u.1=0∧u.2=0)):0< dt u u:=by
 unfold dt
 have h1:=ZaG u.1;have h2:=ZaG u.2
 by_cases e:u.1=0
 ·have:=Zj9 (a:=u.2) (fun e2=>h ⟨e,e2⟩);grind
 ·have:=Zj9 e;grind
theorem ZjC {a b:Rat} (h:0≤a) (g:0< b):0≤a / b:=by
 rw [Rat.div_def];exact Rat.mul_nonneg h (Rat.le_of_lt (Rat.inv_pos.2 g))
theorem div_pos {a b:Rat} (h:0< a) (g:0< b):0< a / b:=by
 rw [Rat.div_def];exact Rat.mul_pos h (Rat.inv_pos.2 g)
theorem ZeL {p:Nat→Prop} (f:Nat→Rat):∀ n,(∃ i,i< n∧p i)→∃ i,i< n∧p i∧∀ j,j< n→p j→f i≤f j:=by
 intro n
 induction n with
 |zero=>rintro⟨i,h,_⟩;omega
 |succ n ih=>
  rintro⟨i,hi,hp⟩
  by_cases h:∃ i,i< n∧p i
  ·obtain⟨k,h1,h2,h3⟩:=ih h
   by_cases hn:p n∧f n< f k
   ·refine⟨n,by omega,hn.1,fun j hj hpj=> ?_⟩
    by_cases e:j=n
    ·subst e;exact Rat.le_refl
    ·exact Rat.le_trans (Rat.le_of_lt hn.2) (h3 j (by omega) hpj)
   ·refine⟨k,by omega,h2,fun j hj hpj=> ?_⟩
    by_cases e:j=n
    ·subst e;exact Rat.not_lt.1 fun hh=>hn ⟨hpj,hh⟩
    ·exact h3 j (by omega) hpj
  ·have e:i=n:=by
    by_cases e:i=n
    ·exact e
    ·exact absurd ⟨i,by omega,hp⟩ h
   subst e
   refine⟨i,by omega,hp,fun j hj hpj=> ?_⟩
   by_cases e:j=i
   ·subst e;exact Rat.le_refl
   ·exact absurd ⟨j,by omega,hpj⟩ h
theorem Zmr {N v w:Pt} (hv:0< dt N v) (hw:0< dt N w) (h:crs N v / dt N v≤crs N w / dt N w):0≤crs v w:=by
 have hN:0< dt N N:=Zis fun ⟨h1,h2⟩=>by unfold dt at hv;rw [h1,h2] at hv;grind
 have key:dt N N*crs v w=dt N v*crs N w - crs N v*dt N w:=by unfold dt crs;grind
 have h2:0≤dt N v*crs N w - crs N v*dt N w:=by
  have e:dt N v*crs N w - crs N v*dt N w=dt N v*dt N w*(crs N w / dt N w - crs N v / dt N v):=by
   have a:=Rat.ne_of_gt hv;have b:=Rat.ne_of_gt hw;grind
  rw [e]
  exact Rat.mul_nonneg (Rat.le_of_lt (Rat.mul_pos hv hw)) (by grind)
 rw [← key] at h2
 exact ZB hN h2
def Weigh (l:List Pt):Prop:=∃ a b c,a∈l∧b∈l∧c∈l∧∃ x y z:Rat,0≤x∧0≤y∧0≤z∧0< x+y+z∧x*a.1+y*b.1+z*c.1=0∧x*a.2+y*b.2+z*c.2=0
theorem Weigh.mono {l m:List Pt} (h:Weigh l) (hs:∀ a,a∈l→a∈m):Weigh m:=by
 obtain⟨a,b,c,h1,h2,h3,r⟩:=h
 exact⟨a,b,c,hs a h1,hs b h2,hs c h3,r⟩
theorem extreme {N : Pt} : ∀ {l : List Pt}, l ≠ [] → (∀ x, x ∈ l → 0 < dt N x) → ∃ r s, r ∈ l ∧ s ∈ l ∧ ∀ x, x ∈ l → 0 ≤ crs r x ∧ 0 ≤ crs x s
  | [], h, _ => absurd rfl h
  | [a], _, _ => ⟨a, a, by simp, by simp, fun x hx => by rw [List.mem_singleton.1 hx, ZeT]; exact ⟨Rat.le_refl, Rat.le_refl⟩⟩
  | a :: b :: l, _, hN => by
    obtain ⟨r, s, hr, hs, h⟩ := extreme (N := N) (l := b :: l) (by simp) (fun x hx => hN x (by simp [hx]))
    have ha := hN a (by simp)
    have hr' := hN r (List.mem_cons_of_mem _ hr)
    have hs' := hN s (List.mem_cons_of_mem _ hs)
    have tr : ∀ u v w : Pt, 0 < dt N u → 0 < dt N v → 0 < dt N w → 0 ≤ crs u v → 0 ≤ crs v w → 0 ≤ crs u w := by
      intro u v w hu hv hw h1 h2
      have key : dt N v * crs u w = dt N u * crs v w + dt N w * crs u v := by unfold dt crs; grind
      refine ZB hv ?_
      rw [key]
      have := Rat.mul_nonneg (Rat.le_of_lt hu) h2; have := Rat.mul_nonneg (Rat.le_of_lt hw) h1; grind
    -- the right end
    have R : ∃ r', r' ∈ a :: b :: l ∧ ∀ x, x ∈ a :: b :: l → 0 ≤ crs r' x := by
      by_cases e : 0 ≤ crs a r
      · refine ⟨a, by simp, fun x hx => ?_⟩
        rcases List.mem_cons.1 hx with rfl | hx'
        · rw [ZeT]; exact Rat.le_refl
        · exact tr a r x ha hr' (hN x hx) e (h x hx').1
      · refine ⟨r, List.mem_cons_of_mem _ hr, fun x hx => ?_⟩
        rcases List.mem_cons.1 hx with rfl | hx'
        · rw [crs_anti]; have := Rat.not_le.1 e; grind
        · exact (h x hx').1
    have L : ∃ s', s' ∈ a :: b :: l ∧ ∀ x, x ∈ a :: b :: l → 0 ≤ crs x s' := by
      by_cases e : 0 ≤ crs s a
      · refine ⟨a, by simp, fun x hx => ?_⟩
        rcases List.mem_cons.1 hx with rfl | hx'
        · rw [ZeT]; exact Rat.le_refl
        · exact tr x s a (hN x hx) hs' ha (h x hx').2 e
      · refine ⟨s, List.mem_cons_of_mem _ hs, fun x hx => ?_⟩
        rcases List.mem_cons.1 hx with rfl | hx'
        · rw [crs_anti]; have := Rat.not_le.1 e; grind
        · exact (h x hx').2
    obtain ⟨r', h1, h2⟩ := R
    obtain ⟨s', h3, h4⟩ := L
    exact ⟨r', s', h1, h3, fun x hx => ⟨h2 x hx, h4 x hx⟩⟩
theorem tilt {a b:Rat} (ha:0< a) (hb:b≤0):0< a+a / (1 - b)*b:=by
 have h1:0< 1 - b:=by grind
 have e:a+a / (1 - b)*b=a / (1 - b):=by have:=Rat.ne_of_gt h1;grind
 rw [e];exact div_pos ha h1
theorem gordan : ∀ l : List Pt, (∃ N : Pt, ∀ x, x ∈ l → 0 < dt N x) ∨ Weigh l
  | [] => .inl ⟨(0, 0), fun x hx => by simp at hx⟩
  | d :: l => by
    rcases gordan l with ⟨N, hN⟩ | hw
    · by_cases hd : 0 < dt N d
      · exact .inl ⟨N, fun x hx => by rcases List.mem_cons.1 hx with rfl | h; exact hd; exact hN x h⟩
      have hd := Rat.not_lt.1 hd
      by_cases h0 : d.1 = 0 ∧ d.2 = 0
      · exact .inr ⟨d, d, d, by simp, by simp, by simp, 1, 0, 0, by decide +kernel, by decide +kernel, by decide +kernel, by decide +kernel, by rw [h0.1]; grind, by rw [h0.2]; grind⟩
      have hdd := Zis h0
      by_cases hl : l = []
      · subst hl
        exact .inl ⟨d, fun x hx => by rw [List.mem_singleton.1 hx]; exact hdd⟩
      obtain ⟨r, s, hr, hs, hx⟩ := extreme hl hN
      by_cases c1 : 0 < crs r d
      · refine .inl ⟨(-r.2 + crs r d / (1 - dt N d) * N.1, r.1 + crs r d / (1 - dt N d) * N.2), fun x hxm => ?_⟩
        have e : dt (-r.2 + crs r d / (1 - dt N d) * N.1, r.1 + crs r d / (1 - dt N d) * N.2) x = crs r x + crs r d / (1 - dt N d) * dt N x := by
          generalize crs r d / (1 - dt N d) = k; unfold dt crs; grind
        rw [e]
        rcases List.mem_cons.1 hxm with rfl | hxm
        · exact tilt c1 hd
        · have h1 := (hx x hxm).1
          have h2 := Rat.mul_pos (div_pos c1 (show 0 < 1 - dt N d by grind)) (hN x hxm)
          grind
      by_cases c2 : 0 < crs d s
      · refine .inl ⟨(s.2 + crs d s / (1 - dt N d) * N.1, -s.1 + crs d s / (1 - dt N d) * N.2), fun x hxm => ?_⟩
        have e : dt (s.2 + crs d s / (1 - dt N d) * N.1, -s.1 + crs d s / (1 - dt N d) * N.2) x = crs x s + crs d s / (1 - dt N d) * dt N x := by
          generalize crs d s / (1 - dt N d) = k; unfold dt crs; grind
        rw [e]
        rcases List.mem_cons.1 hxm with rfl | hxm
        · exact tilt c2 hd
        · have h1 := (hx x hxm).2
          have h2 := Rat.mul_pos (div_pos c2 (show 0 < 1 - dt N d by grind)) (hN x hxm)
          grind
      have c1 := Rat.not_lt.1 c1
      have c2 := Rat.not_lt.1 c2
      refine .inr ?_
      have hrs := (hx s hs).1
      rcases Rat.le_iff_lt_or_eq.1 hrs with h | h
      · -- crs r s * d + crs d s * (- r).. : the vector -d between r and s
        refine ⟨d, r, s, by simp, List.mem_cons_of_mem _ hr, List.mem_cons_of_mem _ hs, crs r s, - crs d s, - crs r d, hrs, by grind, by grind, by grind, ?_, ?_⟩
        · unfold crs; grind
        · unfold crs; grind
      · -- r and s on one line: so is d
        have hrN := hN r hr
        have hsN := hN s hs
        have k1 : dt N r * crs d s = dt N d * crs r s + dt N s * crs d r := by unfold dt crs; grind
        rw [← h, Rat.mul_zero, Rat.zero_add] at k1
        have e1 : crs d r = 0 := by
          have g1 : 0 ≤ crs d r := by rw [crs_anti]; grind
          have g2 : dt N r * crs d s ≤ 0 := by have := Rat.mul_nonneg (Rat.le_of_lt hrN) (show 0 ≤ - crs d s by grind); grind
          have g3 : dt N s * crs d r ≤ 0 := by rw [← k1]; exact g2
          have g4 : crs d r ≤ 0 := Rat.not_lt.1 fun hh => by have := Rat.mul_pos hsN hh; grind
          exact Rat.le_antisymm g4 g1
        refine ⟨d, r, r, by simp, List.mem_cons_of_mem _ hr, List.mem_cons_of_mem _ hr, dt N r, - dt N d, 0, Rat.le_of_lt hrN, by grind, Rat.le_refl, by grind, ?_, ?_⟩
        · have : dt N r * d.1 - dt N d * r.1 = N.2 * crs d r := by unfold dt crs; grind
          rw [e1] at this; grind
        · have : dt N r * d.2 - dt N d * r.2 = N.1 * (- crs d r) := by unfold dt crs; grind
          rw [e1] at this; grind
    · exact .inr (hw.mono fun a h => List.mem_cons_of_mem _ h)
end Go.Proofs.YtiekmbmgpachpaaGreatDoor.poly
namespace Go.Proofs.YtiekmbmgpachpaaGreatDoor.poly
section
variable {P Q : Nat → Pt} {n m : Nat}
def Beyond (P:Nat→Pt) (n:Nat) (Q:Nat→Pt) (m:Nat):Prop:=∃ i,i< n∧∀ j,j< m→ori (P i) (P ((i+1) % n)) (Q j)< 0
def prev (n i:Nat):Nat:=(i+(n - 1)) % n
theorem Zam (hn:0< n) (i:Nat):prev n i< n:=Nat.mod_lt _ hn
theorem Zau {i:Nat} (hi:i< n):(prev n i+1) % n=i:=by
 unfold prev
 rw [Nat.mod_add_mod,show i+(n - 1)+1=i+n by omega,Nat.add_mod_right,Nat.mod_eq_of_lt hi]
theorem Zel (h:Edges P n) (hn:3≤n) {i:Nat} (hi:i< n):0< ori (P (prev n i)) (P i) (P ((i+1) % n)):=by
 have:=h (prev n i) 2 (Zam (by omega) i) (by omega) (by omega)
 rw [Zau hi] at this
 rwa [show (prev n i+2) % n=((prev n i+1) % n+1) % n by rw [Nat.mod_add_mod],Zau hi] at this
theorem Zan (h:Edges P n) {i j:Nat} (hi:i< n) (hj:j< n):0≤ori (P i) (P ((i+1) % n)) (P j):=edges_all h hi hj
theorem Zf1 {N : Pt} (hn : 0 < n) (hm : 0 < m) (hN : ∀ i j, i < n → j < m → 0 < dt N (sb (Q j) (P i))) :
    ∃ i0 j0, i0 < n ∧ j0 < m ∧ ∀ i j, i < n → j < m → 0 ≤ crs (sb (Q j0) (P i0)) (sb (Q j) (P i)) ∧ (crs (sb (Q j0) (P i0)) (sb (Q j) (P i)) = 0 → dt N (sb (Q j0) (P i0)) ≤ dt N (sb (Q j) (P i))) := by
  let w : Nat → Pt := fun k => sb (Q (k % m)) (P (k / m))
  have hk : ∀ k, k < n * m → k / m < n ∧ k % m < m := fun k hk => ⟨(Nat.div_lt_iff_lt_mul hm).2 hk, Nat.mod_lt _ hm⟩
  have hw : ∀ k, k < n * m → 0 < dt N (w k) := fun k h => hN _ _ (hk k h).1 (hk k h).2
  have hpos : 0 < n * m := Nat.mul_pos hn hm
  obtain ⟨a, a1, _, a3⟩ := ZeL (p := fun _ => True) (fun k => crs N (w k) / dt N (w k)) (n * m) ⟨0, hpos, trivial⟩
  obtain ⟨b, b1, b2, b3⟩ := ZeL (p := fun k => crs N (w k) / dt N (w k) ≤ crs N (w a) / dt N (w a)) (fun k => dt N (w k)) (n * m) ⟨a, a1, Rat.le_refl⟩
  refine ⟨b / m, b % m, (hk b b1).1, (hk b b1).2, fun i j hi hj => ?_⟩
  obtain ⟨c, hc, ec⟩ : ∃ c, c < n * m ∧ w c = sb (Q j) (P i) := by
    refine ⟨i * m + j, ?_, ?_⟩
    · calc i * m + j < i * m + m := by omega
        _ = (i + 1) * m := by rw [Nat.add_mul, Nat.one_mul]
        _ ≤ n * m := Nat.mul_le_mul_right _ hi
    · show sb (Q ((i * m + j) % m)) (P ((i * m + j) / m)) = _
      rw [Nat.mul_comm i m, Nat.mul_add_mod, Nat.mod_eq_of_lt hj, Nat.mul_add_div hm, Nat.div_eq_of_lt hj, Nat.add_zero]
  rw [← ec]
  have hle : crs N (w b) / dt N (w b) ≤ crs N (w c) / dt N (w c) := Rat.le_trans b2 (a3 c hc trivial)
  have h1 := Zmr (hw b b1) (hw c hc) hle
  refine ⟨h1, fun h0 => b3 c hc ?_⟩
  -- on one ray: the same slope
  have key : dt N N * crs (w b) (w c) = dt N (w b) * crs N (w c) - crs N (w b) * dt N (w c) := by unfold dt crs; grind
  have h0' : crs (w b) (w c) = 0 := h0
  rw [h0', Rat.mul_zero] at key
  have e : crs N (w c) / dt N (w c) = crs N (w b) / dt N (w b) := by
    have p1 := Rat.ne_of_gt (hw b b1); have p2 := Rat.ne_of_gt (hw c hc); grind
  rw [e]; exact b2
theorem beyond_of_line {N : Pt} (hP : Edges P n) (hQ : Edges Q m) (hn : 3 ≤ n) (hm : 3 ≤ m) (hN : ∀ i j, i < n → j < m → 0 < dt N (sb (Q j) (P i))) : Beyond P n Q m ∨ Beyond Q m P n := by
  obtain ⟨i0, j0, hi0, hj0, hx⟩ := Zf1 (by omega) (by omega) hN
  -- the two directions
  have tP := Zel hP hn hi0
  have tQ := Zel hQ hm hj0
  have eP : ∀ i, i < n → 0 ≤ ori (P (prev n i0)) (P i0) (P i) := fun i hi => by have := Zan hP (Zam (by omega) i0) hi; rwa [Zau hi0] at this
  have eQ : ∀ j, j < m → 0 ≤ ori (Q (prev m j0)) (Q j0) (Q j) := fun j hj => by have := Zan hQ (Zam (by omega) j0) hj; rwa [Zau hj0] at this
  have hvN := hN i0 j0 hi0 hj0
  have xB := hx i0 (prev m j0) hi0 (Zam (by omega) j0)
  have xA := hx (prev n i0) j0 (Zam (by omega) i0) hj0
  have xP : ∀ i, i < n → 0 ≤ crs (sb (Q j0) (P i0)) (sb (P i0) (P i)) := fun i hi => by
    have := (hx i j0 hi hj0).1
    have e : crs (sb (Q j0) (P i0)) (sb (Q j0) (P i)) = crs (sb (Q j0) (P i0)) (sb (P i0) (P i)) := by unfold crs sb; grind
    rwa [e] at this
  have xQ : ∀ j, j < m → 0 ≤ crs (sb (Q j0) (P i0)) (sb (Q j) (Q j0)) := fun j hj => by
    have := (hx i0 j hi0 hj).1
    have e : crs (sb (Q j0) (P i0)) (sb (Q j) (P i0)) = crs (sb (Q j0) (P i0)) (sb (Q j) (Q j0)) := by unfold crs sb; grind
    rwa [e] at this
  -- in words of v, dB, dA
  have step : ∀ (v d e : Pt), 0 < dt N v → 0 ≤ crs d v → (crs d v = 0 → dt N d ≤ 0) → 0 ≤ crs e v → (crs e v = 0 → dt N e ≤ 0) → ¬ (e.1 = 0 ∧ e.2 = 0) → ¬ (d.1 = 0 ∧ d.2 = 0) → 0 ≤ crs e d →
      (∃ u, 0 ≤ crs v u ∧ 0 ≤ crs e u ∧ ¬ crs v u = 0) → 0 < crs d v ∧ ∀ u, 0 ≤ crs v u → 0 ≤ crs e u → 0 ≤ crs d u := by
    intro v d e hv h1 h2 h3 h4 he hd h5 hu
    rcases Rat.le_iff_lt_or_eq.1 h3 with h3 | h3
    · have hpos : 0 < crs d v := by
        rcases Rat.le_iff_lt_or_eq.1 h1 with h1 | h1
        · exact h1
        · exfalso
          have k := h2 h1.symm
          -- d is a multiple of v
          have e1 : crs e v * d.1 = crs e d * v.1 + crs d v * e.1 := by unfold crs; grind
          have e2 : crs e v * d.2 = crs e d * v.2 + crs d v * e.2 := by unfold crs; grind
          rw [← h1] at e1 e2
          have e3 : crs e v * dt N d = crs e d * dt N v := by unfold dt; grind
          have e4 : crs e d * dt N v ≤ 0 := by rw [← e3]; have := Rat.mul_nonneg (Rat.le_of_lt h3) (show 0 ≤ - dt N d by grind); grind
          have e5 : crs e d = 0 := by
            rcases Rat.le_iff_lt_or_eq.1 h5 with h5 | h5
            · have := Rat.mul_pos h5 hv; grind
            · exact h5.symm
          rw [e5] at e1 e2
          refine hd ⟨?_, ?_⟩
          · have : crs e v * d.1 = 0 := by rw [e1]; grind
            rcases Rat.mul_eq_zero.1 this with h | h
            · exact absurd h (Rat.ne_of_gt h3)
            · exact h
          · have : crs e v * d.2 = 0 := by rw [e2]; grind
            rcases Rat.mul_eq_zero.1 this with h | h
            · exact absurd h (Rat.ne_of_gt h3)
            · exact h
      refine ⟨hpos, fun u g1 g2 => ?_⟩
      have key : crs e v * crs d u = crs d v * crs e u + crs e d * crs v u := by unfold crs; grind
      refine ZB h3 ?_
      rw [key]
      have := Rat.mul_nonneg h1 g2; have := Rat.mul_nonneg h5 g1; grind
    · exfalso
      -- e points away from v
      have k := h4 h3.symm
      obtain ⟨u, g1, g2, g3⟩ := hu
      have key : dt N v * crs e u = dt N e * crs v u + dt N u * crs e v := by unfold dt crs; grind
      rw [← h3, Rat.mul_zero, Rat.add_zero] at key
      have hvu : 0 < crs v u := by rcases Rat.le_iff_lt_or_eq.1 g1 with h | h; exact h; exact absurd h.symm g3
      have hle : dt N e * crs v u ≤ 0 := by have := Rat.mul_nonneg (show 0 ≤ - dt N e by grind) g1; grind
      have h0 : dt N v * crs e u = 0 := by have := Rat.mul_nonneg (Rat.le_of_lt hv) g2; grind
      have h6 : dt N e * crs v u = 0 := by rw [← key]; exact h0
      have h7 : dt N e = 0 := by
        rcases Rat.mul_eq_zero.1 h6 with h | h
        · exact h
        · exact absurd h g3
      -- e on the line of v, and at right angles to N: it is 0
      have a1 : dt N v * e.1 = dt N e * v.1 + N.2 * crs e v := by unfold dt crs; grind
      have a2 : dt N v * e.2 = dt N e * v.2 - N.1 * crs e v := by unfold dt crs; grind
      rw [h7, ← h3] at a1 a2
      refine he ⟨?_, ?_⟩
      · have : dt N v * e.1 = 0 := by rw [a1]; grind
        rcases Rat.mul_eq_zero.1 this with h | h
        · exact absurd h (Rat.ne_of_gt hv)
        · exact h
      · have : dt N v * e.2 = 0 := by rw [a2]; grind
        rcases Rat.mul_eq_zero.1 this with h | h
        · exact absurd h (Rat.ne_of_gt hv)
        · exact h
  -- what is known of both
  have b1 : 0 ≤ crs (sb (Q j0) (Q (prev m j0))) (sb (Q j0) (P i0)) := by
    have := xB.1
    have e : crs (sb (Q j0) (P i0)) (sb (Q (prev m j0)) (P i0)) = crs (sb (Q j0) (Q (prev m j0))) (sb (Q j0) (P i0)) := by unfold crs sb; grind
    rwa [e] at this
  have b2 : crs (sb (Q j0) (Q (prev m j0))) (sb (Q j0) (P i0)) = 0 → dt N (sb (Q j0) (Q (prev m j0))) ≤ 0 := fun h => by
    have e : crs (sb (Q j0) (P i0)) (sb (Q (prev m j0)) (P i0)) = crs (sb (Q j0) (Q (prev m j0))) (sb (Q j0) (P i0)) := by unfold crs sb; grind
    have := xB.2 (by rw [e]; exact h)
    unfold dt sb at this ⊢; grind
  have a1 : 0 ≤ crs (sb (P (prev n i0)) (P i0)) (sb (Q j0) (P i0)) := by
    have := xA.1
    have e : crs (sb (Q j0) (P i0)) (sb (Q j0) (P (prev n i0))) = crs (sb (P (prev n i0)) (P i0)) (sb (Q j0) (P i0)) := by unfold crs sb; grind
    rwa [e] at this
  have a2 : crs (sb (P (prev n i0)) (P i0)) (sb (Q j0) (P i0)) = 0 → dt N (sb (P (prev n i0)) (P i0)) ≤ 0 := fun h => by
    have e : crs (sb (Q j0) (P i0)) (sb (Q j0) (P (prev n i0))) = crs (sb (P (prev n i0)) (P i0)) (sb (Q j0) (P i0)) := by unfold crs sb; grind
    have := xA.2 (by rw [e]; exact h)
    unfold dt sb at this ⊢; grind
  have neB : ¬ ((sb (Q j0) (Q (prev m j0))).1 = 0 ∧ (sb (Q j0) (Q (prev m j0))).2 = 0) := fun ⟨g1, g2⟩ => by
    have : ori (Q (prev m j0)) (Q j0) (Q ((j0 + 1) % m)) = 0 := by unfold ori; unfold sb at g1 g2; simp only at g1 g2; rw [g1, g2]; grind
    rw [this] at tQ; exact Rat.lt_irrefl tQ
  have neA : ¬ ((sb (P (prev n i0)) (P i0)).1 = 0 ∧ (sb (P (prev n i0)) (P i0)).2 = 0) := fun ⟨g1, g2⟩ => by
    have : ori (P (prev n i0)) (P i0) (P ((i0 + 1) % n)) = 0 := by
      have h1 : (P i0).1 - (P (prev n i0)).1 = 0 := by unfold sb at g1; simp only at g1; grind
      have h2 : (P i0).2 - (P (prev n i0)).2 = 0 := by unfold sb at g2; simp only at g2; grind
      unfold ori; rw [h1, h2]; grind
    rw [this] at tP; exact Rat.lt_irrefl tP
  -- left of the edges
  have lQ : ∀ j, j < m → 0 ≤ crs (sb (Q j0) (Q (prev m j0))) (sb (Q j) (Q j0)) := fun j hj => by
    have := eQ j hj
    have e : ori (Q (prev m j0)) (Q j0) (Q j) = crs (sb (Q j0) (Q (prev m j0))) (sb (Q j) (Q j0)) := by unfold ori crs sb; grind
    rwa [e] at this
  have lP : ∀ i, i < n → 0 ≤ crs (sb (P (prev n i0)) (P i0)) (sb (P i0) (P i)) := fun i hi => by
    have := eP i hi
    have e : ori (P (prev n i0)) (P i0) (P i) = crs (sb (P (prev n i0)) (P i0)) (sb (P i0) (P i)) := by unfold ori crs sb; grind
    rwa [e] at this
  rcases Rat.le_total (a := 0) (b := crs (sb (P (prev n i0)) (P i0)) (sb (Q j0) (Q (prev m j0)))) with hc | hc
  · -- the edge of Q
    refine .inr ⟨prev m j0, Zam (by omega) j0, ?_⟩
    rw [Zau hj0]
    obtain ⟨s1, s2⟩ := step (sb (Q j0) (P i0)) (sb (Q j0) (Q (prev m j0))) (sb (P (prev n i0)) (P i0)) hvN b1 b2 a1 a2 neA neB hc (by
      by_cases h1 : crs (sb (Q j0) (P i0)) (sb (P i0) (P (prev n i0))) = 0
      · refine ⟨sb (P i0) (P ((i0 + 1) % n)), xP _ (Nat.mod_lt _ (by omega)), lP _ (Nat.mod_lt _ (by omega)), fun h2 => ?_⟩
        -- both neighbours on the line of v: not a corner
        have key : dt N (sb (Q j0) (P i0)) * crs (sb (P i0) (P (prev n i0))) (sb (P i0) (P ((i0 + 1) % n))) = dt N (sb (P i0) (P (prev n i0))) * crs (sb (Q j0) (P i0)) (sb (P i0) (P ((i0 + 1) % n))) - dt N (sb (P i0) (P ((i0 + 1) % n))) * crs (sb (Q j0) (P i0)) (sb (P i0) (P (prev n i0))) := by
          generalize sb (Q j0) (P i0) = v; generalize sb (P i0) (P (prev n i0)) = a; generalize sb (P i0) (P ((i0 + 1) % n)) = b
          unfold dt crs; grind
        rw [h1, h2] at key
        have e : ori (P (prev n i0)) (P i0) (P ((i0 + 1) % n)) = - crs (sb (P i0) (P (prev n i0))) (sb (P i0) (P ((i0 + 1) % n))) := by unfold ori crs sb; grind
        rw [e] at tP
        have h3 : dt N (sb (Q j0) (P i0)) * crs (sb (P i0) (P (prev n i0))) (sb (P i0) (P ((i0 + 1) % n))) = 0 := by rw [key]; grind
        rcases Rat.mul_eq_zero.1 h3 with h | h
        · exact absurd h (Rat.ne_of_gt hvN)
        · rw [h] at tP; exact absurd tP (by decide +kernel)
      · exact ⟨sb (P i0) (P (prev n i0)), xP _ (Zam (by omega) i0), lP _ (Zam (by omega) i0), h1⟩)
    intro i hi
    have h1 := s2 _ (xP i hi) (lP i hi)
    have e : ori (Q (prev m j0)) (Q j0) (P i) = - crs (sb (Q j0) (Q (prev m j0))) (sb (Q j0) (P i0)) - crs (sb (Q j0) (Q (prev m j0))) (sb (P i0) (P i)) := by unfold ori crs sb; grind
    rw [e]; grind
  · -- the edge of P
    refine .inl ⟨prev n i0, Zam (by omega) i0, ?_⟩
    rw [Zau hi0]
    obtain ⟨s1, s2⟩ := step (sb (Q j0) (P i0)) (sb (P (prev n i0)) (P i0)) (sb (Q j0) (Q (prev m j0))) hvN a1 a2 b1 b2 neB neA (by rw [crs_anti]; grind) (by
      by_cases h1 : crs (sb (Q j0) (P i0)) (sb (Q (prev m j0)) (Q j0)) = 0
      · refine ⟨sb (Q ((j0 + 1) % m)) (Q j0), xQ _ (Nat.mod_lt _ (by omega)), lQ _ (Nat.mod_lt _ (by omega)), fun h2 => ?_⟩
        have key : dt N (sb (Q j0) (P i0)) * crs (sb (Q (prev m j0)) (Q j0)) (sb (Q ((j0 + 1) % m)) (Q j0)) = dt N (sb (Q (prev m j0)) (Q j0)) * crs (sb (Q j0) (P i0)) (sb (Q ((j0 + 1) % m)) (Q j0)) - dt N (sb (Q ((j0 + 1) % m)) (Q j0)) * crs (sb (Q j0) (P i0)) (sb (Q (prev m j0)) (Q j0)) := by
          generalize sb (Q j0) (P i0) = v; generalize sb (Q (prev m j0)) (Q j0) = a; generalize sb (Q ((j0 + 1) % m)) (Q j0) = b
          unfold dt crs; grind
        rw [h1, h2] at key
        have e : ori (Q (prev m j0)) (Q j0) (Q ((j0 + 1) % m)) = - crs (sb (Q (prev m j0)) (Q j0)) (sb (Q ((j0 + 1) % m)) (Q j0)) := by unfold ori crs sb; grind
        rw [e] at tQ
        have h3 : dt N (sb (Q j0) (P i0)) * crs (sb (Q (prev m j0)) (Q j0)) (sb (Q ((j0 + 1) % m)) (Q j0)) = 0 := by rw [key]; grind
        rcases Rat.mul_eq_zero.1 h3 with h | h
        · exact absurd h (Rat.ne_of_gt hvN)
        · rw [h] at tQ; exact absurd tQ (by decide +kernel)
      · exact ⟨sb (Q (prev m j0)) (Q j0), xQ _ (Zam (by omega) j0), lQ _ (Zam (by omega) j0), h1⟩)
    intro j hj
    have h1 := s2 _ (xQ j hj) (lQ j hj)
    have e : ori (P (prev n i0)) (P i0) (Q j) = - crs (sb (P (prev n i0)) (P i0)) (sb (Q j0) (P i0)) - crs (sb (P (prev n i0)) (P i0)) (sb (Q j) (Q j0)) := by unfold ori crs sb; grind
    rw [e]; grind
end
end Go.Proofs.YtiekmbmgpachpaaGreatDoor.poly
namespace Go.Proofs.YtiekmbmgpachpaaGreatDoor.poly
section
variable {P Q : Nat → Pt} {n m : Nat}
def at_ (u v:Pt) (t:Rat):Pt:=(u.1+t*(v.1 - u.1),u.2+t*(v.2 - u.2))
theorem Za5 (a b u v:Pt) (t:Rat):ori a b (at_ u v t)=(1 - t)*ori a b u+t*ori a b v:=by unfold ori at_;grind
def On (a b z:Pt):Prop:=∃ s:Rat,0≤s∧s≤1∧z=at_ a b s
theorem ZkX {a b c:Pt} (h:ori a b c≠0):¬ (b.1 - a.1=0∧b.2 - a.2=0):=fun ⟨h1,h2⟩=>h (by unfold ori;rw [h1,h2];grind)
theorem ZeD {a b z:Pt} (hab:¬ (b.1 - a.1=0∧b.2 - a.2=0)) (h:ori a b z=0):∃ s:Rat,z=at_ a b s:=by
 unfold ori at h
 by_cases h1:b.1 - a.1=0
 ·have h2:b.2 - a.2≠0:=fun h2=>hab ⟨h1,h2⟩
  refine⟨(z.2 - a.2) / (b.2 - a.2),?_⟩
  rw [h1] at h
  have h3:(b.2 - a.2)*(z.1 - a.1)=0:=by grind
  have h4:z.1 - a.1=0:=by
   rcases Rat.mul_eq_zero.1 h3 with h|h
   ·exact absurd h h2
   ·exact h
  unfold at_
  rw [h1]
  ext
  ·show z.1=a.1+_*0;grind
  ·show z.2=a.2+(z.2 - a.2) / (b.2 - a.2)*(b.2 - a.2);grind
 ·refine⟨(z.1 - a.1) / (b.1 - a.1),?_⟩
  unfold at_
  ext
  ·show z.1=a.1+(z.1 - a.1) / (b.1 - a.1)*(b.1 - a.1);grind
  ·show z.2=a.2+(z.1 - a.1) / (b.1 - a.1)*(b.2 - a.2);grind
theorem ZbL (h:Edges P n) (hn:3≤n) {i:Nat} (hi:i< n):¬ ((P ((i+1) % n)).1 - (P i).1=0∧(P ((i+1) % n)).2 - (P i).2=0):=
 ZkX (c:=P ((i+2) % n)) (Rat.ne_of_gt (h i 2 hi (by omega) (by omega)))
theorem ZoP (h:Edges P n) (hn:3≤n) {i:Nat} (hi:i< n) {z:Pt} (hz:Inside P n z) (h0:ori (P i) (P ((i+1) % n)) z=0):On (P i) (P ((i+1) % n)) z:=by
 obtain⟨s,rfl⟩:=ZeD (ZbL h hn hi) h0
 refine⟨s,?_,?_,rfl⟩
 ·have h1:=hz (prev n i) (Zam (by omega) i)
  rw [Zau hi] at h1
  have h2:=Zel h hn hi
  have e:ori (P (prev n i)) (P i) (at_ (P i) (P ((i+1) % n)) s)=ori (P (prev n i)) (P i) (P ((i+1) % n))*s:=by
   rw [Za5,Zfz];grind
  rw [e] at h1
  exact ZB h2 h1
 ·have h1:=hz ((i+1) % n) (Nat.mod_lt _ (by omega))
  have h2:0< ori (P ((i+1) % n)) (P (((i+1) % n+1) % n)) (P i):=by
   have:=Zel h hn (Nat.mod_lt (i+1) (show 0< n by omega))
   have e:prev n ((i+1) % n)=i:=by
    unfold prev
    rw [Nat.mod_add_mod,show i+1+(n - 1)=i+n by omega,Nat.add_mod_right,Nat.mod_eq_of_lt hi]
   rw [e] at this
   rwa [ZkO] at this
  have e:ori (P ((i+1) % n)) (P (((i+1) % n+1) % n)) (at_ (P i) (P ((i+1) % n)) s)=ori (P ((i+1) % n)) (P (((i+1) % n+1) % n)) (P i)*(1 - s):=by
   rw [Za5,ZfA];grind
  rw [e] at h1
  have:=ZB h2 h1
  grind
theorem leave (h:Edges P n) (hn:3≤n) {u v:Pt} (hu:Inside P n u) (hv:¬ Inside P n v):∃ i z,i< n∧On (P i) (P ((i+1) % n)) z∧On u v z∧Inside P n z:=by
 have hex:∃ k,k< n∧ori (P k) (P ((k+1) % n)) v< 0:=by
  refine Classical.byContradiction fun hc=>hv fun k hk=>Rat.not_lt.1 fun hh=>hc ⟨k,hk,hh⟩
 obtain⟨i,hi,hiv,hmin⟩:=ZeL (p:=fun k=>ori (P k) (P ((k+1) % n)) v< 0) (fun k=>ori (P k) (P ((k+1) % n)) u / (ori (P k) (P ((k+1) % n)) u - ori (P k) (P ((k+1) % n)) v)) n hex
 let t:Rat:=ori (P i) (P ((i+1) % n)) u / (ori (P i) (P ((i+1) % n)) u - ori (P i) (P ((i+1) % n)) v)
 have hiu:=hu i hi
 have hd:0< ori (P i) (P ((i+1) % n)) u - ori (P i) (P ((i+1) % n)) v:=by grind
 have t0:0≤t:=ZjC hiu hd
 have et:t*(ori (P i) (P ((i+1) % n)) u - ori (P i) (P ((i+1) % n)) v)=ori (P i) (P ((i+1) % n)) u:=by
  have:=Rat.ne_of_gt hd;show _ / _*_=_;grind
 have t1:t≤1:=by
  refine Rat.not_lt.1 fun hh=> ?_
  have:=Rat.mul_pos (show 0< t - 1 by grind) hd
  grind
 have hz:Inside P n (at_ u v t):=by
  intro k hk
  rw [Za5]
  have hku:=hu k hk
  by_cases hkv:ori (P k) (P ((k+1) % n)) v< 0
  ·have hle:=hmin k hk hkv
   have hdk:0< ori (P k) (P ((k+1) % n)) u - ori (P k) (P ((k+1) % n)) v:=by grind
   have ek:ori (P k) (P ((k+1) % n)) u / (ori (P k) (P ((k+1) % n)) u - ori (P k) (P ((k+1) % n)) v)*(ori (P k) (P ((k+1) % n)) u - ori (P k) (P ((k+1) % n)) v)=ori (P k) (P ((k+1) % n)) u:=by
    have:=Rat.ne_of_gt hdk;grind
   have:=Rat.mul_nonneg (show 0≤ori (P k) (P ((k+1) % n)) u / (ori (P k) (P ((k+1) % n)) u - ori (P k) (P ((k+1) % n)) v) - t by show 0≤_ - (_ / _);grind) (Rat.le_of_lt hdk)
   grind
  ·have hkv:=Rat.not_lt.1 hkv
   have:=Rat.mul_nonneg (show 0≤1 - t by grind) hku
   have:=Rat.mul_nonneg t0 hkv
   grind
 refine⟨i,at_ u v t,hi,ZoP h hn hi hz ?_,⟨t,t0,t1,rfl⟩,hz⟩
 rw [Za5];grind
def onB (a b p:Pt) (side:Rat):Prop:=side=0∧dt (sb a p) (sb b p)≤0
def Cross (a b c d:Pt):Prop:=
 (ori a b c*ori a b d< 0∧ori c d a*ori c d b< 0)∨onB a b c (ori a b c)∨onB a b d (ori a b d)∨onB c d a (ori c d a)∨onB c d b (ori c d b)
theorem ZdY {a b z:Pt} (h:On a b z):onB a b z (ori a b z):=by
 obtain⟨s,h1,h2,rfl⟩:=h
 refine⟨by rw [Za5,ZfA,Zfz];grind,?_⟩
 have e:dt (sb a (at_ a b s)) (sb b (at_ a b s))=- (s*(1 - s)*dt (sb b a) (sb b a)):=by unfold dt sb at_;grind
 rw [e]
 have h3:=Rat.mul_nonneg (Rat.mul_nonneg h1 (show 0≤1 - s by grind)) (show 0≤dt (sb b a) (sb b a) by unfold dt;have:=ZaG (sb b a).1;have:=ZaG (sb b a).2;grind)
 grind
theorem ZhO {a b p:Pt} (hab:¬ (b.1 - a.1=0∧b.2 - a.2=0)) (h:onB a b p (ori a b p)):On a b p:=by
 obtain⟨s,rfl⟩:=ZeD hab h.1
 have e:dt (sb a (at_ a b s)) (sb b (at_ a b s))=- (dt (sb b a) (sb b a)*(s*(1 - s))):=by unfold dt sb at_;grind
 have h2:=h.2
 rw [e] at h2
 have hp:0< dt (sb b a) (sb b a):=Zis (by unfold sb;exact hab)
 have h3:0≤s*(1 - s):=ZB hp (by grind)
 refine⟨s,Rat.not_lt.1 fun hh=> ?_,Rat.not_lt.1 fun hh=> ?_,rfl⟩
 ·have:=Rat.mul_pos (show 0< -s by grind) (show 0< 1 - s by grind);grind
 ·have:=Rat.mul_pos (show 0< s by grind) (show 0< s - 1 by grind);grind
theorem lin0 {x y t:Rat} (h:(1 - t)*x+t*y=0) (hx:x≠0) (hy:y≠0) (h0:0≤t) (h1:t≤1):x*y< 0:=by
 have t0:t≠0:=fun e=>hx (by rw [e] at h;grind)
 have t1:t≠1:=fun e=>hy (by rw [e] at h;grind)
 have p0:0< t:=by rcases Rat.le_iff_lt_or_eq.1 h0 with h|h;exact h;exact absurd h.symm t0
 have p1:0< 1 - t:=by rcases Rat.le_iff_lt_or_eq.1 h1 with h|h;grind;exact absurd h t1
 have e:t*(x*y)=- ((1 - t)*(x*x)):=by grind
 have:=Rat.mul_pos p1 (Zj9 hx)
 refine Rat.not_le.1 fun hh=> ?_
 have:=Rat.mul_nonneg (Rat.le_of_lt p0) hh
 grind
theorem Ziy {a b c d z : Pt} (hab : ¬ (b.1 - a.1 = 0 ∧ b.2 - a.2 = 0)) (_hcd : ¬ (d.1 - c.1 = 0 ∧ d.2 - c.2 = 0)) (h1 : On a b z) (h2 : On c d z) : Cross a b c d := by
  obtain ⟨s, s0, s1, hs⟩ := h1
  obtain ⟨t, t0, t1, ht⟩ := h2
  have e1 : (1 - t) * ori a b c + t * ori a b d = 0 := by rw [← Za5, ← ht, hs, Za5, ZfA, Zfz]; grind
  have e2 : (1 - s) * ori c d a + s * ori c d b = 0 := by rw [← Za5, ← hs, ht, Za5, ZfA, Zfz]; grind
  have e3 : ori a b c - ori a b d = - (ori c d a - ori c d b) := by unfold ori; grind
  have za : s = 0 → On c d a := fun e => ⟨t, t0, t1, by rw [← ht, hs, e]; unfold at_; ext <;> grind⟩
  have zb : s = 1 → On c d b := fun e => ⟨t, t0, t1, by rw [← ht, hs, e]; unfold at_; ext <;> grind⟩
  have zc : t = 0 → On a b c := fun e => ⟨s, s0, s1, by rw [← hs, ht, e]; unfold at_; ext <;> grind⟩
  have zd : t = 1 → On a b d := fun e => ⟨s, s0, s1, by rw [← hs, ht, e]; unfold at_; ext <;> grind⟩
  by_cases hp : ori a b c = 0
  · by_cases hq : ori a b d = 0
    · -- all on one line
      obtain ⟨g, hg⟩ := ZeD hab hp
      obtain ⟨k, hk⟩ := ZeD hab hq
      have hE : 0 < dt (sb b a) (sb b a) := Zis (by unfold sb; exact hab)
      have hst : s = g + t * (k - g) := by
        have h3 : at_ a b s = at_ a b (g + t * (k - g)) := by
          rw [← hs, ht, hg, hk]; unfold at_; ext <;> simp only <;> grind
        have h4 : (s - (g + t * (k - g))) * dt (sb b a) (sb b a) = 0 := by
          have x1 := congrArg Prod.fst h3; have x2 := congrArg Prod.snd h3
          unfold at_ at x1 x2; simp only at x1 x2
          unfold dt sb; simp only; grind
        rcases Rat.mul_eq_zero.1 h4 with h | h
        · grind
        · exact absurd h (Rat.ne_of_gt hE)
      by_cases c1 : onB a b c (ori a b c)
      · exact .inr (.inl c1)
      by_cases c2 : onB a b d (ori a b d)
      · exact .inr (.inr (.inl c2))
      by_cases c3 : onB c d a (ori c d a)
      · exact .inr (.inr (.inr (.inl c3)))
      by_cases c4 : onB c d b (ori c d b)
      · exact .inr (.inr (.inr (.inr c4)))
      exfalso
      have r0 : ori c d a = 0 := by rw [hg, hk]; unfold ori at_; grind
      have q0 : ori c d b = 0 := by rw [hg, hk]; unfold ori at_; grind
      have d1 : 0 < dt (sb b a) (sb b a) * (g * (g - 1)) := by
        have : ¬ dt (sb a c) (sb b c) ≤ 0 := fun hh => c1 ⟨hp, hh⟩
        have e : dt (sb a c) (sb b c) = dt (sb b a) (sb b a) * (g * (g - 1)) := by rw [hg]; unfold dt sb at_; grind
        rw [← e]; exact Rat.not_le.1 this
      have d2 : 0 < dt (sb b a) (sb b a) * (k * (k - 1)) := by
        have : ¬ dt (sb a d) (sb b d) ≤ 0 := fun hh => c2 ⟨hq, hh⟩
        have e : dt (sb a d) (sb b d) = dt (sb b a) (sb b a) * (k * (k - 1)) := by rw [hk]; unfold dt sb at_; grind
        rw [← e]; exact Rat.not_le.1 this
      have d3 : 0 < dt (sb b a) (sb b a) * (g * k) := by
        have : ¬ dt (sb c a) (sb d a) ≤ 0 := fun hh => c3 ⟨r0, hh⟩
        have e : dt (sb c a) (sb d a) = dt (sb b a) (sb b a) * (g * k) := by rw [hg, hk]; unfold dt sb at_; grind
        rw [← e]; exact Rat.not_le.1 this
      have d4 : 0 < dt (sb b a) (sb b a) * ((g - 1) * (k - 1)) := by
        have : ¬ dt (sb c b) (sb d b) ≤ 0 := fun hh => c4 ⟨q0, hh⟩
        have e : dt (sb c b) (sb d b) = dt (sb b a) (sb b a) * ((g - 1) * (k - 1)) := by rw [hg, hk]; unfold dt sb at_; grind
        rw [← e]; exact Rat.not_le.1 this
      have f1 := ZK hE d1; have f2 := ZK hE d2; have f3 := ZK hE d3; have f4 := ZK hE d4
      by_cases hg0 : 0 < g
      · have hg1 : 0 < g - 1 := ZK hg0 f1
        have hk1 : 0 < k - 1 := ZK hg1 f4
        have := Rat.mul_nonneg (show 0 ≤ 1 - t by grind) (Rat.le_of_lt hg1)
        have := Rat.mul_nonneg t0 (Rat.le_of_lt hk1)
        have hs1 : s = 1 := by
          refine Rat.le_antisymm s1 ?_
          rw [hst]; grind
        exact c4 (ZdY (zb hs1))
      · have hgn : g ≠ 0 := fun e => by rw [e] at f3; grind
        have hg0 : 0 < - g := by
          rcases Rat.le_iff_lt_or_eq.1 (Rat.not_lt.1 hg0) with h | h
          · grind
          · exact absurd h hgn
        have hk0 : 0 < - k := ZK hg0 (by grind)
        have := Rat.mul_nonneg (show 0 ≤ 1 - t by grind) (Rat.le_of_lt hg0)
        have := Rat.mul_nonneg t0 (Rat.le_of_lt hk0)
        have hs1 : s = 0 := by
          refine Rat.le_antisymm ?_ s0
          rw [hst]; grind
        exact c3 (ZdY (za hs1))
    · have ht0 : t = 0 := by
        rw [hp] at e1
        have : t * ori a b d = 0 := by grind
        rcases Rat.mul_eq_zero.1 this with h | h
        · exact h
        · exact absurd h hq
      exact .inr (.inl (ZdY (zc ht0)))
  · by_cases hq : ori a b d = 0
    · have ht1 : t = 1 := by
        rw [hq] at e1
        have : (1 - t) * ori a b c = 0 := by grind
        rcases Rat.mul_eq_zero.1 this with h | h
        · grind
        · exact absurd h hp
      exact .inr (.inr (.inl (ZdY (zd ht1))))
    · have hpq := lin0 e1 hp hq t0 t1
      by_cases hr : ori c d a = 0
      · have hsd : ori c d b ≠ 0 := fun e => by rw [hr, e] at e3; have : ori a b c = ori a b d := by grind
                                                rw [this] at hpq; have := ZaG (ori a b d); grind
        have hs0 : s = 0 := by
          rw [hr] at e2
          have : s * ori c d b = 0 := by grind
          rcases Rat.mul_eq_zero.1 this with h | h
          · exact h
          · exact absurd h hsd
        exact .inr (.inr (.inr (.inl (ZdY (za hs0)))))
      · by_cases hsd : ori c d b = 0
        · have hs1 : s = 1 := by
            rw [hsd] at e2
            have : (1 - s) * ori c d a = 0 := by grind
            rcases Rat.mul_eq_zero.1 this with h | h
            · grind
            · exact absurd h hr
          exact .inr (.inr (.inr (.inr (ZdY (zb hs1)))))
        · exact .inl ⟨hpq, lin0 e2 hr hsd s0 s1⟩
theorem ZlT {x y a b c d:Pt} (hab:¬ (b.1 - a.1=0∧b.2 - a.2=0)) (hcd:¬ (d.1 - c.1=0∧d.2 - c.2=0)) (ha:0≤ori x y a) (hb:0≤ori x y b) (hc:ori x y c< 0) (hd:ori x y d< 0):¬ Cross a b c d:=by
 have seg1:∀ z,On a b z→0≤ori x y z:=fun z ⟨s,h1,h2,e⟩=>by
  rw [e,Za5]
  have:=Rat.mul_nonneg (show 0≤1 - s by grind) ha;have:=Rat.mul_nonneg h1 hb;grind
 have seg2:∀ z,On c d z→ori x y z< 0:=fun z ⟨s,h1,h2,e⟩=>by
  rw [e,Za5]
  have h3:=Rat.mul_nonneg (show 0≤1 - s by grind) (show 0≤- ori x y c by grind)
  have h4:=Rat.mul_nonneg h1 (show 0≤- ori x y d by grind)
  by_cases hs:s=0
  ·rw [hs];grind
  ·have:=Rat.mul_pos (show 0< s by rcases Rat.le_iff_lt_or_eq.1 h1 with h|h;exact h;exact absurd h.symm hs) (show 0< - ori x y d by grind)
   grind
 rintro(⟨h1,h2⟩|h|h|h|h)
 ·have key:ori a b c*ori x y d - ori a b d*ori x y c=ori c d b*ori x y a - ori c d a*ori x y b:=by unfold ori;grind
  have e3:ori a b c - ori a b d=ori c d b - ori c d a:=by unfold ori;grind
  rcases Rat.le_total (a:=0) (b:=ori a b c) with hp|hp
  ·have hp':0< ori a b c:=by rcases Rat.le_iff_lt_or_eq.1 hp with h|h;exact h;rw [← h] at h1;grind
   have hq:0< - ori a b d:=ZK hp' (by grind)
   have hr:0≤ori c d b:=by
    refine Rat.not_lt.1 fun hh=> ?_
    have:0< ori c d a:=by
     refine Rat.not_le.1 fun h5=> ?_
     have:=Rat.mul_nonneg (show 0≤- ori c d a by grind) (show 0≤- ori c d b by grind);grind
    grind
   have hs:0≤- ori c d a:=by
    refine Rat.not_lt.1 fun hh=> ?_
    have:=Rat.mul_nonneg (show 0≤ori c d a by grind) hr;grind
   have:=Rat.mul_pos hp' (show 0< - ori x y d by grind);have:=Rat.mul_pos hq (show 0< - ori x y c by grind)
   have:=Rat.mul_nonneg hr ha;have:=Rat.mul_nonneg hs hb
   grind
  ·have hp':0< - ori a b c:=by rcases Rat.le_iff_lt_or_eq.1 hp with h|h;grind;rw [h] at h1;grind
   have hq:0< ori a b d:=ZK hp' (by grind)
   have hr:0≤- ori c d b:=by
    refine Rat.not_lt.1 fun hh=> ?_
    have:0< - ori c d a:=by
     refine Rat.not_le.1 fun h5=> ?_
     have:=Rat.mul_nonneg (show 0≤ori c d a by grind) (show 0≤ori c d b by grind);grind
    grind
   have hs:0≤ori c d a:=by
    refine Rat.not_lt.1 fun hh=> ?_
    have:=Rat.mul_nonneg (show 0≤- ori c d a by grind) hr;grind
   have:=Rat.mul_pos hp' (show 0< - ori x y d by grind);have:=Rat.mul_pos hq (show 0< - ori x y c by grind)
   have:=Rat.mul_nonneg hr ha;have:=Rat.mul_nonneg hs hb
   grind
 ·have:=seg1 _ (ZhO hab h);grind
 ·have:=seg1 _ (ZhO hab h);grind
 ·have:=seg2 _ (ZhO hcd h);grind
 ·have:=seg2 _ (ZhO hcd h);grind
def Touch (P:Nat→Pt) (n:Nat) (Q:Nat→Pt) (m:Nat):Prop:=Inside P n (Q 0)∨Inside Q m (P 0)∨∃ i k,i< n∧k< m∧Cross (P i) (P ((i+1) % n)) (Q k) (Q ((k+1) % m))
theorem Zjm (h : Edges Q m) (hm : 3 ≤ m) {x y p : Pt} (hp : Inside Q m p) (hn : ∀ j, j < m → ori x y (Q j) < 0) : ori x y p < 0 := by
  obtain ⟨i, i2, hi, t1, t2, t3⟩ := (Zjn h hm p).1 hp
  have hT := ZbX h 0 (i - 1) i (by omega) (by omega) hi
  have key := ZeB (Q 0) (Q (i - 1)) (Q i) x y p
  have s := ZeB (Q 0) (Q (i - 1)) (Q i) (Q 0) (Q (i - 1)) p
  have sum : ori (Q (i - 1)) (Q i) p + ori (Q i) (Q 0) p + ori (Q 0) (Q (i - 1)) p = ori (Q 0) (Q (i - 1)) (Q i) := by unfold ori; grind
  have n0 := hn 0 (by omega); have n1 := hn (i - 1) (by omega); have n2 := hn i hi
  refine Rat.not_le.1 fun hh => ?_
  have a0 := Rat.mul_nonneg (Rat.le_of_lt hT) hh
  have m0 := Rat.mul_nonneg t2 (show 0 ≤ - ori x y (Q 0) by grind)
  have m1 := Rat.mul_nonneg t3 (show 0 ≤ - ori x y (Q (i - 1)) by grind)
  have m2 := Rat.mul_nonneg t1 (show 0 ≤ - ori x y (Q i) by grind)
  -- all three weights are 0
  have z0 : ori (Q (i - 1)) (Q i) p * (- ori x y (Q 0)) = 0 := by grind
  have z1 : ori (Q i) (Q 0) p * (- ori x y (Q (i - 1))) = 0 := by grind
  have z2 : ori (Q 0) (Q (i - 1)) p * (- ori x y (Q i)) = 0 := by grind
  have w0 : ori (Q (i - 1)) (Q i) p = 0 := by rcases Rat.mul_eq_zero.1 z0 with h | h; exact h; grind
  have w1 : ori (Q i) (Q 0) p = 0 := by rcases Rat.mul_eq_zero.1 z1 with h | h; exact h; grind
  have w2 : ori (Q 0) (Q (i - 1)) p = 0 := by rcases Rat.mul_eq_zero.1 z2 with h | h; exact h; grind
  rw [w0, w1, w2] at sum; grind
theorem Ze7 (hP:Edges P n) (hQ:Edges Q m) (hn:3≤n) (hm:3≤m) (h:Touch P n Q m):¬ Beyond P n Q m:=by
 rintro⟨i,hi,hj⟩
 rcases h with h|h|⟨a,k,ha,hk,hc⟩
 ·have:=h i hi;have:=hj 0 (by omega);grind
 ·have:=Zjm hQ hm h hj;have:=Zan hP hi (show 0< n by omega);grind
 ·exact ZlT (ZbL hP hn ha) (ZbL hQ hm hk) (Zan hP hi ha) (Zan hP hi (Nat.mod_lt _ (by omega))) (hj k hk) (hj _ (Nat.mod_lt _ (by omega))) hc
theorem ZlS {a b c d:Pt} (h:Cross a b c d):Cross c d a b:=by
 rcases h with ⟨h1,h2⟩|h|h|h|h
 ·exact .inl ⟨h2,h1⟩
 ·exact .inr (.inr (.inr (.inl h)))
 ·exact .inr (.inr (.inr (.inr h)))
 ·exact .inr (.inl h)
 ·exact .inr (.inr (.inl h))
theorem ZjZ (h:Touch P n Q m):Touch Q m P n:=by
 rcases h with h|h|⟨a,k,ha,hk,hc⟩
 ·exact .inr (.inl h)
 ·exact .inl h
 ·exact .inr (.inr ⟨k,a,hk,ha,ZlS hc⟩)
theorem ZoO {a b z u w:Pt} (h:On a b z) (g:On z u w) (e:u=a):On a b w:=by
 obtain⟨s,s0,s1,rfl⟩:=h
 obtain⟨t,t0,t1,rfl⟩:=g
 subst e
 refine⟨s*(1 - t),Rat.mul_nonneg s0 (by grind),?_,by unfold at_;ext<;>simp only<;>grind⟩
 have:=Rat.mul_nonneg s0 t0
 grind
theorem Zlp {u v:Pt} {t:Rat} (hu:Inside P n u) (hv:Inside P n v) (t0:0≤t) (t1:t≤1):Inside P n (at_ u v t):=by
 intro k hk
 rw [Za5]
 have:=Rat.mul_nonneg (show 0≤1 - t by grind) (hu k hk);have:=Rat.mul_nonneg t0 (hv k hk);grind
theorem ZlU (h:Edges P n) {j:Nat} (hj:j< n):Inside P n (P j):=fun _ hi=>Zan h hi hj
theorem Zmk (hP : Edges P n) (hQ : Edges Q m) (hn : 3 ≤ n) (hm : 3 ≤ m) {x : Pt} (h1 : Inside P n x) (h2 : Inside Q m x) : Touch P n Q m := by
  by_cases c1 : Inside P n (Q 0)
  · exact .inl c1
  by_cases c2 : Inside Q m (P 0)
  · exact .inr (.inl c2)
  refine .inr (.inr ?_)
  obtain ⟨i, z, hi, hz1, hz2, _⟩ := leave hP hn h1 c1
  have hzQ : Inside Q m z := by
    obtain ⟨t, t0, t1, rfl⟩ := hz2
    exact Zlp h2 (ZlU hQ (by omega)) t0 t1
  by_cases c3 : Inside Q m (P i)
  · -- on from corner i to corner 0: somewhere out of Q
    have walk : ∀ d j, j + d = n → j < n → Inside Q m (P j) → ∃ j, j < n ∧ Inside Q m (P j) ∧ ¬ Inside Q m (P ((j + 1) % n)) := by
      intro d
      induction d with
      | zero => intro j h hj; omega
      | succ d ih =>
        intro j h hj hin
        by_cases c : Inside Q m (P ((j + 1) % n))
        · by_cases hj1 : j + 1 < n
          · rw [Nat.mod_eq_of_lt hj1] at c
            exact ih (j + 1) (by omega) hj1 c
          · rw [show j + 1 = n by omega, Nat.mod_self] at c
            exact absurd c c2
        · exact ⟨j, hj, hin, c⟩
    obtain ⟨j, hj, hin, hout⟩ := walk (n - i) i (by omega) hi c3
    obtain ⟨k, z', hk, g1, g2, _⟩ := leave hQ hm hin hout
    exact ⟨j, k, hj, hk, Ziy (ZbL hP hn hj) (ZbL hQ hm hk) g2 g1⟩
  · obtain ⟨k, z', hk, g1, g2, _⟩ := leave hQ hm hzQ c3
    exact ⟨i, k, hi, hk, Ziy (ZbL hP hn hi) (ZbL hQ hm hk) (ZoO hz1 g2 rfl) g1⟩
theorem ZlV (hP : Edges P n) (hQ : Edges Q m) (hn : 3 ≤ n) (hm : 3 ≤ m) (h1 : ¬ Beyond P n Q m) (h2 : ¬ Beyond Q m P n) : ∃ x, Inside P n x ∧ Inside Q m x := by
  let w : Nat → Pt := fun k => sb (Q (k % m)) (P (k / m))
  have hk : ∀ k, k < n * m → k / m < n ∧ k % m < m := fun k hk => ⟨(Nat.div_lt_iff_lt_mul (by omega)).2 hk, Nat.mod_lt _ (by omega)⟩
  rcases gordan ((List.range (n * m)).map w) with ⟨N, hN⟩ | ⟨a, b, c, ha, hb, hc, x, y, z, x0, y0, z0, hs, e1, e2⟩
  · exfalso
    rcases beyond_of_line hP hQ hn hm (N := N) (fun i j hi hj => by
      refine hN _ (List.mem_map.2 ⟨i * m + j, List.mem_range.2 ?_, ?_⟩)
      · calc i * m + j < i * m + m := by omega
          _ = (i + 1) * m := by rw [Nat.add_mul, Nat.one_mul]
          _ ≤ n * m := Nat.mul_le_mul_right _ hi
      · show sb (Q ((i * m + j) % m)) (P ((i * m + j) / m)) = _
        rw [Nat.mul_comm i m, Nat.mul_add_mod, Nat.mod_eq_of_lt hj, Nat.mul_add_div (by omega), Nat.div_eq_of_lt hj, Nat.add_zero]) with h | h
    · exact h1 h
    · exact h2 h
  · obtain ⟨ka, hka, rfl⟩ := List.mem_map.1 ha
    obtain ⟨kb, hkb, rfl⟩ := List.mem_map.1 hb
    obtain ⟨kc, hkc, rfl⟩ := List.mem_map.1 hc
    obtain ⟨a1, a2⟩ := hk ka (List.mem_range.1 hka)
    obtain ⟨b1, b2⟩ := hk kb (List.mem_range.1 hkb)
    obtain ⟨c1, c2⟩ := hk kc (List.mem_range.1 hkc)
    have hne := Rat.ne_of_gt hs
    -- the weighted mean
    have mean : ∀ {R : Nat → Pt} {r : Nat} (u v t : Pt), (∀ k, k < r → 0 ≤ ori (R k) (R ((k + 1) % r)) u ∧ 0 ≤ ori (R k) (R ((k + 1) % r)) v ∧ 0 ≤ ori (R k) (R ((k + 1) % r)) t) → Inside R r ((x * u.1 + y * v.1 + z * t.1) / (x + y + z), (x * u.2 + y * v.2 + z * t.2) / (x + y + z)) := by
      intro R r u v t hh k hk
      obtain ⟨g1, g2, g3⟩ := hh k hk
      have e : (x + y + z) * ori (R k) (R ((k + 1) % r)) ((x * u.1 + y * v.1 + z * t.1) / (x + y + z), (x * u.2 + y * v.2 + z * t.2) / (x + y + z)) = x * ori (R k) (R ((k + 1) % r)) u + y * ori (R k) (R ((k + 1) % r)) v + z * ori (R k) (R ((k + 1) % r)) t := by
        unfold ori; simp only; grind
      refine ZB hs ?_
      rw [e]
      have := Rat.mul_nonneg x0 g1; have := Rat.mul_nonneg y0 g2; have := Rat.mul_nonneg z0 g3; grind
    refine ⟨((x * (P (ka / m)).1 + y * (P (kb / m)).1 + z * (P (kc / m)).1) / (x + y + z), (x * (P (ka / m)).2 + y * (P (kb / m)).2 + z * (P (kc / m)).2) / (x + y + z)), mean _ _ _ fun k hk => ⟨Zan hP hk a1, Zan hP hk b1, Zan hP hk c1⟩, ?_⟩
    have g1 : x * (Q (ka % m)).1 + y * (Q (kb % m)).1 + z * (Q (kc % m)).1 = x * (P (ka / m)).1 + y * (P (kb / m)).1 + z * (P (kc / m)).1 := by
      have : x * ((Q (ka % m)).1 - (P (ka / m)).1) + y * ((Q (kb % m)).1 - (P (kb / m)).1) + z * ((Q (kc % m)).1 - (P (kc / m)).1) = 0 := e1
      grind
    have g2 : x * (Q (ka % m)).2 + y * (Q (kb % m)).2 + z * (Q (kc % m)).2 = x * (P (ka / m)).2 + y * (P (kb / m)).2 + z * (P (kc / m)).2 := by
      have : x * ((Q (ka % m)).2 - (P (ka / m)).2) + y * ((Q (kb % m)).2 - (P (kb / m)).2) + z * ((Q (kc % m)).2 - (P (kc / m)).2) = 0 := e2
      grind
    rw [← g1, ← g2]
    exact mean _ _ _ fun k hk => ⟨Zan hQ hk a2, Zan hQ hk b2, Zan hQ hk c2⟩
theorem touch_iff (hP:Edges P n) (hQ:Edges Q m) (hn:3≤n) (hm:3≤m):Touch P n Q m↔¬ Beyond P n Q m∧¬ Beyond Q m P n:=by
 constructor
 ·exact fun h=>⟨Ze7 hP hQ hn hm h,Ze7 hQ hP hm hn (ZjZ h)⟩
 ·rintro⟨h1,h2⟩
  obtain⟨x,g1,g2⟩:=ZlV hP hQ hn hm h1 h2
  exact Zmk hP hQ hn hm g1 g2
end
end Go.Proofs.YtiekmbmgpachpaaGreatDoor.poly
