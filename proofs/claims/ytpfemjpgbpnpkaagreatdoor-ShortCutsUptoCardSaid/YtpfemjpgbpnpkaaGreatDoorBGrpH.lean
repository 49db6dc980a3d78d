/- Joined by wip/bundle.py: XGeo XGeo2 XGeo3 XWide. -/
import Derived.Test.YtpfemjpgbpnpkaaGreatDoorBGrpP
import Derived.Test.YtpfemjpgbpnpkaaGreatDoorBGrpY
set_option maxRecDepth 100000
namespace Go.Proofs.YtpfemjpgbpnpkaaGreatDoor.poly
def crs (u v:Pt):Rat:=u.1*v.2 - u.2*v.1
def dt (u v:Pt):Rat:=u.1*v.1+u.2*v.2
def sb (u v:Pt):Pt:=(u.1 - v.1,u.2 - v.2)
theorem Zgf (u v:Pt):crs u v=- crs v u:=by unfold crs;grind
theorem Zge (u:Pt):crs u u=0:=by unfold crs;grind
theorem ZdV (a:Rat):0≤a*a:=by
 rcases Rat.le_total (a:=0) (b:=a) with h|h
 ·exact Rat.mul_nonneg h h
 ·have:=Rat.mul_nonneg (a:=-a) (b:=-a) (by grind) (by grind)
  grind
theorem ZqA {a:Rat} (h:a≠0):0< a*a:=by
 have:=ZdV a
 have h2:a*a≠0:=fun e=>h (by rcases Rat.mul_eq_zero.1 e with h|h<;>exact h)
 grind
theorem Ztz {u:Pt} (h:¬ (u.1=0∧u.2=0)):0< dt u u:=by
 unfold dt
 have h1:=ZdV u.1;have h2:=ZdV u.2
 by_cases e:u.1=0
 ·have:=ZqA (a:=u.2) (fun e2=>h ⟨e,e2⟩);grind
 ·have:=ZqA e;grind
theorem div_pos {a b:Rat} (h:0< a) (g:0< b):0< a / b:=by
 rw [Rat.div_def];exact Rat.mul_pos h (Rat.inv_pos.2 g)
theorem ZjB {p:Nat→Prop} (f:Nat→Rat):∀ n,(∃ i,i< n∧p i)→∃ i,i< n∧p i∧∀ j,j< n→p j→f i≤f j:=by
 intro n
 induction n with
 |zero=>rintro⟨i,h,_⟩;omega
 |succ n ih=>
  rintro⟨i,hi,hp⟩
  by_cases h:∃ i,i< n∧p i
  ·obtain⟨k,h1,h2,h3⟩:=ih h
   by_cases hn:p n∧f n< f k
   ·refine⟨n,by omega,hn.1,fun j hj hpj=> ?_⟩
    by_cases e:j=n
    ·subst e;exact Rat.le_refl
    ·exact Rat.le_trans (Rat.le_of_lt hn.2) (h3 j (by omega) hpj)
   ·refine⟨k,by omega,h2,fun j hj hpj=> ?_⟩
    by_cases e:j=n
    ·subst e;exact Rat.not_lt.1 fun hh=>hn ⟨hpj,hh⟩
    ·exact h3 j (by omega) hpj
  ·have e:i=n:=by
    by_cases e:i=n
    ·exact e
    ·exact absurd ⟨i,by omega,hp⟩ h
   subst e
   refine⟨i,by omega,hp,fun j hj hpj=> ?_⟩
   by_cases e:j=i
   ·subst e;exact Rat.le_refl
   ·exact absurd ⟨j,by omega,hpj⟩ h
theorem Zo2 {N v w:Pt} (hv:0< dt N v) (hw:0< dt N w) (h:crs N v / dt N v≤crs N w / dt N w):0≤crs v w:=by
 have hN:0< dt N N:=Ztz fun ⟨h1,h2⟩=>by unfold dt at hv;rw [h1,h2] at hv;grind
 have key:dt N N*crs v w=dt N v*crs N w - crs N v*dt N w:=by unfold dt crs;grind
 have h2:0≤dt N v*crs N w - crs N v*dt N w:=by
  have e:dt N v*crs N w - crs N v*dt N w=dt N v*dt N w*(crs N w / dt N w - crs N v / dt N v):=by
   have a:=Rat.ne_of_gt hv;have b:=Rat.ne_of_gt hw;grind
  rw [e]
  exact Rat.mul_nonneg (Rat.le_of_lt (Rat.mul_pos hv hw)) (by grind)
 rw [← key] at h2
 exact Zbq hN h2
def Weigh (l:List Pt):Prop:=∃ a b c,a∈l∧b∈l∧c∈l∧∃ x y z:Rat,0≤x∧0≤y∧0≤z∧0< x+y+z∧x*a.1+y*b.1+z*c.1=0∧x*a.2+y*b.2+z*c.2=0
theorem Weigh.mono {l m:List Pt} (h:Weigh l) (hs:∀ a,a∈l→a∈m):Weigh m:=by
 obtain⟨a,b,c,h1,h2,h3,r⟩:=h
 exact⟨a,b,c,hs a h1,hs b h2,hs c h3,r⟩
theorem extreme {N : Pt} : ∀ {l : List Pt}, l ≠ [] → (∀ x, x ∈ l → 0 < dt N x) → ∃ r s, r ∈ l ∧ s ∈ l ∧ ∀ x, x ∈ l → 0 ≤ crs r x ∧ 0 ≤ crs x s
  | [], h, _ => absurd rfl h
  | [a], _, _ => ⟨a, a, by simp, by simp, fun x hx => by rw [List.mem_singleton.1 hx, Zge]; exact ⟨Rat.le_refl, Rat.le_refl⟩⟩
  | a :: b :: l, _, hN => by
    obtain ⟨r, s, hr, hs, h⟩ := extreme (N := N) (l := b :: l) (by simp) (fun x hx => hN x (by simp [hx]))
    have ha := hN a (by simp)
    have hr' := hN r (List.mem_cons_of_mem _ hr)
    have hs' := hN s (List.mem_cons_of_mem _ hs)
    have tr : ∀ u v w : Pt, 0 < dt N u → 0 < dt N v → 0 < dt N w → 0 ≤ crs u v → 0 ≤ crs v w → 0 ≤ crs u w := by
      intro u v w hu hv hw h1 h2
      have key : dt N v * crs u w = dt N u * crs v w + dt N w * crs u v := by unfold dt crs; grind
      refine Zbq hv ?_
      rw [key]
      have := Rat.mul_nonneg (Rat.le_of_lt hu) h2; have := Rat.mul_nonneg (Rat.le_of_lt hw) h1; grind
    -- the right end
    have R : ∃ r', r' ∈ a :: b :: l ∧ ∀ x, x ∈ a :: b :: l → 0 ≤ crs r' x := by
      by_cases e : 0 ≤ crs a r
      · refine ⟨a, by simp, fun x hx => ?_⟩
        rcases List.mem_cons.1 hx with rfl | hx'
        · rw [Zge]; exact Rat.le_refl
        · exact tr a r x ha hr' (hN x hx) e (h x hx').1
      · refine ⟨r, List.mem_cons_of_mem _ hr, fun x hx => ?_⟩
        rcases List.mem_cons.1 hx with rfl | hx'
        · rw [Zgf]; have := Rat.not_le.1 e; grind
        · exact (h x hx').1
    have L : ∃ s', s' ∈ a :: b :: l ∧ ∀ x, x ∈ a :: b :: l → 0 ≤ crs x s' := by
      by_cases e : 0 ≤ crs s a
      · refine ⟨a, by simp, fun x hx => ?_⟩
        rcases List.mem_cons.1 hx with rfl | hx'
        · rw [Zge]; exact Rat.le_refl
        · exact tr x s a (hN x hx) hs' ha (h x hx').2 e
      · refine ⟨s, List.mem_cons_of_mem _ hs, fun x hx => ?_⟩
        rcases List.mem_cons.1 hx with rfl | hx'
        · rw [Zgf]; have := Rat.not_le.1 e; grind
        · exact (h x hx').2
    obtain ⟨r', h1, h2⟩ := R
    obtain ⟨s', h3, h4⟩ := L
    exact ⟨r', s', h1, h3, fun x hx => ⟨h2 x hx, h4 x hx⟩⟩
end Go.Proofs.YtpfemjpgbpnpkaaGreatDoor.poly
namespace Go.Proofs.YtpfemjpgbpnpkaaGreatDoor.poly
section
variable {P Q : Nat → Pt} {n m : Nat}
def Beyond (P:Nat→Pt) (n:Nat) (Q:Nat→Pt) (m:Nat):Prop:=∃ i,i< n∧∀ j,j< m→ori (P i) (P ((i+1) % n)) (Q j)< 0
def prev (n i:Nat):Nat:=(i+(n - 1)) % n
theorem ZaR (hn:0< n) (i:Nat):prev n i< n:=Nat.mod_lt _ hn
theorem Zbh {i:Nat} (hi:i< n):(prev n i+1) % n=i:=by
 unfold prev
 rw [Nat.mod_add_mod,show i+(n - 1)+1=i+n by omega,Nat.add_mod_right,Nat.mod_eq_of_lt hi]
theorem ZlJ (h:Edges P n) (hn:3≤n) {i:Nat} (hi:i< n):0< ori (P (prev n i)) (P i) (P ((i+1) % n)):=by
 have:=h (prev n i) 2 (ZaR (by omega) i) (by omega) (by omega)
 rw [Zbh hi] at this
 rwa [show (prev n i+2) % n=((prev n i+1) % n+1) % n by rw [Nat.mod_add_mod],Zbh hi] at this
theorem Znj (h:Edges P n) {i j:Nat} (hi:i< n) (hj:j< n):0≤ori (P i) (P ((i+1) % n)) (P j):=Zn1 h hi hj
theorem Zhj {N : Pt} (hn : 0 < n) (hm : 0 < m) (hN : ∀ i j, i < n → j < m → 0 < dt N (sb (Q j) (P i))) :
    ∃ i0 j0, i0 < n ∧ j0 < m ∧ ∀ i j, i < n → j < m → 0 ≤ crs (sb (Q j0) (P i0)) (sb (Q j) (P i)) ∧ (crs (sb (Q j0) (P i0)) (sb (Q j) (P i)) = 0 → dt N (sb (Q j0) (P i0)) ≤ dt N (sb (Q j) (P i))) := by
  let w : Nat → Pt := fun k => sb (Q (k % m)) (P (k / m))
  have hk : ∀ k, k < n * m → k / m < n ∧ k % m < m := fun k hk => ⟨(Nat.div_lt_iff_lt_mul hm).2 hk, Nat.mod_lt _ hm⟩
  have hw : ∀ k, k < n * m → 0 < dt N (w k) := fun k h => hN _ _ (hk k h).1 (hk k h).2
  have hpos : 0 < n * m := Nat.mul_pos hn hm
  obtain ⟨a, a1, _, a3⟩ := ZjB (p := fun _ => True) (fun k => crs N (w k) / dt N (w k)) (n * m) ⟨0, hpos, trivial⟩
  obtain ⟨b, b1, b2, b3⟩ := ZjB (p := fun k => crs N (w k) / dt N (w k) ≤ crs N (w a) / dt N (w a)) (fun k => dt N (w k)) (n * m) ⟨a, a1, Rat.le_refl⟩
  refine ⟨b / m, b % m, (hk b b1).1, (hk b b1).2, fun i j hi hj => ?_⟩
  obtain ⟨c, hc, ec⟩ : ∃ c, c < n * m ∧ w c = sb (Q j) (P i) := by
    refine ⟨i * m + j, ?_, ?_⟩
    · calc i * m + j < i * m + m := by omega
        _ = (i + 1) * m := by rw [Nat.add_mul, Nat.one_mul]
        _ ≤ n * m := Nat.mul_le_mul_right _ hi
    · show sb (Q ((i * m + j) % m)) (P ((i * m + j) / m)) = _
      rw [Nat.mul_comm i m, Nat.mul_add_mod, Nat.mod_eq_of_lt hj, Nat.mul_add_div hm, Nat.div_eq_of_lt hj, Nat.add_zero]
  rw [← ec]
  have hle : crs N (w b) / dt N (w b) ≤ crs N (w c) / dt N (w c) := Rat.le_trans b2 (a3 c hc trivial)
  have h1 := Zo2 (hw b b1) (hw c hc) hle
  refine ⟨h1, fun h0 => b3 c hc ?_⟩
  -- on one ray: the same slope
  have key : dt N N * crs (w b) (w c) = dt N (w b) * crs N (w c) - crs N (w b) * dt N (w c) := by unfold dt crs; grind
  have h0' : crs (w b) (w c) = 0 := h0
  rw [h0', Rat.mul_zero] at key
  have e : crs N (w c) / dt N (w c) = crs N (w b) / dt N (w b) := by
    have p1 := Rat.ne_of_gt (hw b b1); have p2 := Rat.ne_of_gt (hw c hc); grind
  rw [e]; exact b2
theorem beyond_of_line {N : Pt} (hP : Edges P n) (hQ : Edges Q m) (hn : 3 ≤ n) (hm : 3 ≤ m) (hN : ∀ i j, i < n → j < m → 0 < dt N (sb (Q j) (P i))) : Beyond P n Q m ∨ Beyond Q m P n := by
  obtain ⟨i0, j0, hi0, hj0, hx⟩ := Zhj (by omega) (by omega) hN
  -- the two directions
  have tP := ZlJ hP hn hi0
  have tQ := ZlJ hQ hm hj0
  have eP : ∀ i, i < n → 0 ≤ ori (P (prev n i0)) (P i0) (P i) := fun i hi => by have := Znj hP (ZaR (by omega) i0) hi; rwa [Zbh hi0] at this
  have eQ : ∀ j, j < m → 0 ≤ ori (Q (prev m j0)) (Q j0) (Q j) := fun j hj => by have := Znj hQ (ZaR (by omega) j0) hj; rwa [Zbh hj0] at this
  have hvN := hN i0 j0 hi0 hj0
  have xB := hx i0 (prev m j0) hi0 (ZaR (by omega) j0)
  have xA := hx (prev n i0) j0 (ZaR (by omega) i0) hj0
  have xP : ∀ i, i < n → 0 ≤ crs (sb (Q j0) (P i0)) (sb (P i0) (P i)) := fun i hi => by
    have := (hx i j0 hi hj0).1
    have e : crs (sb (Q j0) (P i0)) (sb (Q j0) (P i)) = crs (sb (Q j0) (P i0)) (sb (P i0) (P i)) := by unfold crs sb; grind
    rwa [e] at this
  have xQ : ∀ j, j < m → 0 ≤ crs (sb (Q j0) (P i0)) (sb (Q j) (Q j0)) := fun j hj => by
    have := (hx i0 j hi0 hj).1
    have e : crs (sb (Q j0) (P i0)) (sb (Q j) (P i0)) = crs (sb (Q j0) (P i0)) (sb (Q j) (Q j0)) := by unfold crs sb; grind
    rwa [e] at this
  -- in words of v, dB, dA
  have step : ∀ (v d e : Pt), 0 < dt N v → 0 ≤ crs d v → (crs d v = 0 → dt N d ≤ 0) → 0 ≤ crs e v → (crs e v = 0 → dt N e ≤ 0) → ¬ (e.1 = 0 ∧ e.2 = 0) → ¬ (d.1 = 0 ∧ d.2 = 0) → 0 ≤ crs e d →
      (∃ u, 0 ≤ crs v u ∧ 0 ≤ crs e u ∧ ¬ crs v u = 0) → 0 < crs d v ∧ ∀ u, 0 ≤ crs v u → 0 ≤ crs e u → 0 ≤ crs d u := by
    intro v d e hv h1 h2 h3 h4 he hd h5 hu
    rcases Rat.le_iff_lt_or_eq.1 h3 with h3 | h3
    · have hpos : 0 < crs d v := by
        rcases Rat.le_iff_lt_or_eq.1 h1 with h1 | h1
        · exact h1
        · exfalso
          have k := h2 h1.symm
          -- d is a multiple of v
          have e1 : crs e v * d.1 = crs e d * v.1 + crs d v * e.1 := by unfold crs; grind
          have e2 : crs e v * d.2 = crs e d * v.2 + crs d v * e.2 := by unfold crs; grind
          rw [← h1] at e1 e2
          have e3 : crs e v * dt N d = crs e d * dt N v := by unfold dt; grind
          have e4 : crs e d * dt N v ≤ 0 := by rw [← e3]; have := Rat.mul_nonneg (Rat.le_of_lt h3) (show 0 ≤ - dt N d by grind); grind
          have e5 : crs e d = 0 := by
            rcases Rat.le_iff_lt_or_eq.1 h5 with h5 | h5
            · have := Rat.mul_pos h5 hv; grind
            · exact h5.symm
          rw [e5] at e1 e2
          refine hd ⟨?_, ?_⟩
          · have : crs e v * d.1 = 0 := by rw [e1]; grind
            rcases Rat.mul_eq_zero.1 this with h | h
            · exact absurd h (Rat.ne_of_gt h3)
            · exact h
          · have : crs e v * d.2 = 0 := by rw [e2]; grind
            rcases Rat.mul_eq_zero.1 this with h | h
            · exact absurd h (Rat.ne_of_gt h3)
            · exact h
      refine ⟨hpos, fun u g1 g2 => ?_⟩
      have key : crs e v * crs d u = crs d v * crs e u + crs e d * crs v u := by unfold crs; grind
      refine Zbq h3 ?_
      rw [key]
      have := Rat.mul_nonneg h1 g2; have := Rat.mul_nonneg h5 g1; grind
    · exfalso
      -- e points away from v
      have k := h4 h3.symm
      obtain ⟨u, g1, g2, g3⟩ := hu
      have key : dt N v * crs e u = dt N e * crs v u + dt N u * crs e v := by unfold dt crs; grind
      rw [← h3, Rat.mul_zero, Rat.add_zero] at key
      have hvu : 0 < crs v u := by rcases Rat.le_iff_lt_or_eq.1 g1 with h | h; exact h; exact absurd h.symm g3
      have hle : dt N e * crs v u ≤ 0 := by have := Rat.mul_nonneg (show 0 ≤ - dt N e by grind) g1; grind
      have h0 : dt N v * crs e u = 0 := by have := Rat.mul_nonneg (Rat.le_of_lt hv) g2; grind
      have h6 : dt N e * crs v u = 0 := by rw [← key]; exact h0
      have h7 : dt N e = 0 := by
        rcases Rat.mul_eq_zero.1 h6 with h | h
        · exact h
        · exact absurd h g3
      -- e on the line of v, and at right angles to N: it is 0
      have a1 : dt N v * e.1 = dt N e * v.1 + N.2 * crs e v := by unfold dt crs; grind
      have a2 : dt N v * e.2 = dt N e * v.2 - N.1 * crs e v := by unfold dt crs; grind
      rw [h7, ← h3] at a1 a2
      refine he ⟨?_, ?_⟩
      · have : dt N v * e.1 = 0 := by rw [a1]; grind
        rcases Rat.mul_eq_zero.1 this with h | h
        · exact absurd h (Rat.ne_of_gt hv)
        · exact h
      · have : dt N v * e.2 = 0 := by rw [a2]; grind
        rcases Rat.mul_eq_zero.1 this with h | h
        · exact absurd h (Rat.ne_of_gt hv)
        · exact h
  -- what is known of both
  have b1 : 0 ≤ crs (sb (Q j0) (Q (prev m j0))) (sb (Q j0) (P i0)) := by
    have := xB.1
    have e : crs (sb (Q j0) (P i0)) (sb (Q (prev m j0)) (P i0)) = crs (sb (Q j0) (Q (prev m j0))) (sb (Q j0) (P i0)) := by unfold crs sb; grind
    rwa [e] at this
  have b2 : crs (sb (Q j0) (Q (prev m j0))) (sb (Q j0) (P i0)) = 0 → dt N (sb (Q j0) (Q (prev m j0))) ≤ 0 := fun h => by
    have e : crs (sb (Q j0) (P i0)) (sb (Q (prev m j0)) (P i0)) = crs (sb (Q j0) (Q (prev m j0))) (sb (Q j0) (P i0)) := by unfold crs sb; grind
    have := xB.2 (by rw [e]; exact h)
    unfold dt sb at this ⊢; grind
  have a1 : 0 ≤ crs (sb (P (prev n i0)) (P i0)) (sb (Q j0) (P i0)) := by
    have := xA.1
    have e : crs (sb (Q j0) (P i0)) (sb (Q j0) (P (prev n i0))) = crs (sb (P (prev n i0)) (P i0)) (sb (Q j0) (P i0)) := by unfold crs sb; grind
    rwa [e] at this
  have a2 : crs (sb (P (prev n i0)) (P i0)) (sb (Q j0) (P i0)) = 0 → dt N (sb (P (prev n i0)) (P i0)) ≤ 0 := fun h => by
    have e : crs (sb (Q j0) (P i0)) (sb (Q j0) (P (prev n i0))) = crs (sb (P (prev n i0)) (P i0)) (sb (Q j0) (P i0)) := by unfold crs sb; grind
    have := xA.2 (by rw [e]; exact h)
    unfold dt sb at this ⊢; grind
  have neB : ¬ ((sb (Q j0) (Q (prev m j0))).1 = 0 ∧ (sb (Q j0) (Q (prev m j0))).2 = 0) := fun ⟨g1, g2⟩ => by
    have : ori (Q (prev m j0)) (Q j0) (Q ((j0 + 1) % m)) = 0 := by unfold ori; unfold sb at g1 g2; simp only at g1 g2; rw [g1, g2]; grind
    rw [this] at tQ; exact Rat.lt_irrefl tQ
  have neA : ¬ ((sb (P (prev n i0)) (P i0)).1 = 0 ∧ (sb (P (prev n i0)) (P i0)).2 = 0) := fun ⟨g1, g2⟩ => by
    have : ori (P (prev n i0)) (P i0) (P ((i0 + 1) % n)) = 0 := by
      have h1 : (P i0).1 - (P (prev n i0)).1 = 0 := by unfold sb at g1; simp only at g1; grind
      have h2 : (P i0).2 - (P (prev n i0)).2 = 0 := by unfold sb at g2; simp only at g2; grind
      unfold ori; rw [h1, h2]; grind
    rw [this] at tP; exact Rat.lt_irrefl tP
  -- left of the edges
  have lQ : ∀ j, j < m → 0 ≤ crs (sb (Q j0) (Q (prev m j0))) (sb (Q j) (Q j0)) := fun j hj => by
    have := eQ j hj
    have e : ori (Q (prev m j0)) (Q j0) (Q j) = crs (sb (Q j0) (Q (prev m j0))) (sb (Q j) (Q j0)) := by unfold ori crs sb; grind
    rwa [e] at this
  have lP : ∀ i, i < n → 0 ≤ crs (sb (P (prev n i0)) (P i0)) (sb (P i0) (P i)) := fun i hi => by
    have := eP i hi
    have e : ori (P (prev n i0)) (P i0) (P i) = crs (sb (P (prev n i0)) (P i0)) (sb (P i0) (P i)) := by unfold ori crs sb; grind
    rwa [e] at this
  rcases Rat.le_total (a := 0) (b := crs (sb (P (prev n i0)) (P i0)) (sb (Q j0) (Q (prev m j0)))) with hc | hc
  · -- the edge of Q
    refine .inr ⟨prev m j0, ZaR (by omega) j0, ?_⟩
    rw [Zbh hj0]
    obtain ⟨s1, s2⟩ := step (sb (Q j0) (P i0)) (sb (Q j0) (Q (prev m j0))) (sb (P (prev n i0)) (P i0)) hvN b1 b2 a1 a2 neA neB hc (by
      by_cases h1 : crs (sb (Q j0) (P i0)) (sb (P i0) (P (prev n i0))) = 0
      · refine ⟨sb (P i0) (P ((i0 + 1) % n)), xP _ (Nat.mod_lt _ (by omega)), lP _ (Nat.mod_lt _ (by omega)), fun h2 => ?_⟩
        -- both neighbours on the line of v: not a corner
        have key : dt N (sb (Q j0) (P i0)) * crs (sb (P i0) (P (prev n i0))) (sb (P i0) (P ((i0 + 1) % n))) = dt N (sb (P i0) (P (prev n i0))) * crs (sb (Q j0) (P i0)) (sb (P i0) (P ((i0 + 1) % n))) - dt N (sb (P i0) (P ((i0 + 1) % n))) * crs (sb (Q j0) (P i0)) (sb (P i0) (P (prev n i0))) := by
          generalize sb (Q j0) (P i0) = v; generalize sb (P i0) (P (prev n i0)) = a; generalize sb (P i0) (P ((i0 + 1) % n)) = b
          unfold dt crs; grind
        rw [h1, h2] at key
        have e : ori (P (prev n i0)) (P i0) (P ((i0 + 1) % n)) = - crs (sb (P i0) (P (prev n i0))) (sb (P i0) (P ((i0 + 1) % n))) := by unfold ori crs sb; grind
        rw [e] at tP
        have h3 : dt N (sb (Q j0) (P i0)) * crs (sb (P i0) (P (prev n i0))) (sb (P i0) (P ((i0 + 1) % n))) = 0 := by rw [key]; grind
        rcases Rat.mul_eq_zero.1 h3 with h | h
        · exact absurd h (Rat.ne_of_gt hvN)
        · rw [h] at tP; exact absurd tP (by decide +kernel)
      · exact ⟨sb (P i0) (P (prev n i0)), xP _ (ZaR (by omega) i0), lP _ (ZaR (by omega) i0), h1⟩)
    intro i hi
    have h1 := s2 _ (xP i hi) (lP i hi)
    have e : ori (Q (prev m j0)) (Q j0) (P i) = - crs (sb (Q j0) (Q (prev m j0))) (sb (Q j0) (P i0)) - crs (sb (Q j0) (Q (prev m j0))) (sb (P i0) (P i)) := by unfold ori crs sb; grind
    rw [e]; grind
  · -- the edge of P
    refine .inl ⟨prev n i0, ZaR (by omega) i0, ?_⟩
    rw [Zbh hi0]
    obtain ⟨s1, s2⟩ := step (sb (Q j0) (P i0)) (sb (P (prev n i0)) (P i0)) (sb (Q j0) (Q (prev m j0))) hvN a1 a2 b1 b2 neB neA (by rw [Zgf]; grind) (by
      by_cases h1 : crs (sb (Q j0) (P i0)) (sb (Q (prev m j0)) (Q j0)) = 0
      · refine ⟨sb (Q ((j0 + 1) % m)) (Q j0), xQ _ (Nat.mod_lt _ (by omega)), lQ _ (Nat.mod_lt _ (by omega)), fun h2 => ?_⟩
        have key : dt N (sb (Q j0) (P i0)) * crs (sb (Q (prev m j0)) (Q j0)) (sb (Q ((j0 + 1) % m)) (Q j0)) = dt N (sb (Q (prev m j0)) (Q j0)) * crs (sb (Q j0) (P i0)) (sb (Q ((j0 + 1) % m)) (Q j0)) - dt N (sb (Q ((j0 + 1) % m)) (Q j0)) * crs (sb (Q j0) (P i0)) (sb (Q (prev m j0)) (Q j0)) := by
          generalize sb (Q j0) (P i0) = v; generalize sb (Q (prev m j0)) (Q j0) = a; generalize sb (Q ((j0 + 1) % m)) (Q j0) = b
          unfold dt crs; grind
        rw [h1, h2] at key
        have e : ori (Q (prev m j0)) (Q j0) (Q ((j0 + 1) % m)) = - crs (sb (Q (prev m j0)) (Q j0)) (sb (Q ((j0 + 1) % m)) (Q j0)) := by unfold ori crs sb; grind
        rw [e] at tQ
        have h3 : dt N (sb (Q j0) (P i0)) * crs (sb (Q (prev m j0)) (Q j0)) (sb (Q ((j0 + 1) % m)) (Q j0)) = 0 := by rw [key]; grind
        rcases Rat.mul_eq_zero.1 h3 with h | h
        · exact absurd h (Rat.ne_of_gt hvN)
        · rw [h] at tQ; exact absurd tQ (by decide +kernel)
      · exact ⟨sb (Q (prev m j0)) (Q j0), xQ _ (ZaR (by omega) j0), lQ _ (ZaR (by omega) j0), h1⟩)
    intro j hj
    have h1 := s2 _ (xQ j hj) (lQ j hj)
    have e : ori (P (prev n i0)) (P i0) (Q j) = - crs (sb (P (prev n i0)) (P i0)) (sb (Q j0) (P i0)) - crs (sb (P (prev n i0)) (P i0)) (sb (Q j) (Q j0)) := by unfold ori crs sb; grind
    rw [e]; grind
end
end Go.Proofs.YtpfemjpgbpnpkaaGreatDoor.poly
namespace Go.Proofs.YtpfemjpgbpnpkaaGreatDoor.poly
section
variable {P Q : Nat → Pt} {n m : Nat}
end
end Go.Proofs.YtpfemjpgbpnpkaaGreatDoor.poly
namespace Go.Proofs.YtpfemjpgbpnpkaaGreatDoor.eng
open Go.RowKit num mem seg q held ratA ratB ratC ratD ratE vars ratF trq
section
variable {x y z t u v : RV} {K : AV → Prop}
theorem ZkR (x y z t u v:RV)  (hx:x.z≤260000000) (hy:y.z≤260000000) (hz:z.z≤260000000) (ht:t.z≤260000000) (hu:u.z≤260000000) (hv:v.z≤260000000):Spec Tryz.prog Tab 292 [pair x y,pair z t,pair u v] (int (sgnQ ((z.q - x.q)*(v.q - y.q) - (t.q - y.q)*(u.q - x.q)))):=by
 refine Za Tryz.func292 rfl rfl Tryz.ntmps292 rfl (by kernel_rfl) rfl rfl ?_
 refine Zfa (x:=z) (y:=t) (z:=x) (t:=y) (by omega) (by omega) (by omega) (by omega) (fun p9 q9 hk_9_2 hk_9_3 hk_9_4 hk_9_5=> ?_)
 simp only [cn_z] at hk_9_4
 simp only [cn_z] at hk_9_5
 refine Zfa (x:=u) (y:=v) (z:=x) (t:=y) (by omega) (by omega) (by omega) (by omega) (fun p12 q12 hk_12_2 hk_12_3 hk_12_4 hk_12_5=> ?_)
 simp only [cn_z] at hk_12_4
 simp only [cn_z] at hk_12_5
 refine ZjC (x:=cn p9) (y:=cn q9) (z:=cn p12) (t:=cn q12) (by simp only [cn_z];omega) (by simp only [cn_z];omega) (by simp only [cn_z];omega) (by simp only [cn_z];omega) (fun q13 hk_13_1 hk_13_2=> ?_)
 try simp only [cn_q] at hk_13_1
 simp only [cn_z] at hk_13_2
 refine Zef (x:=cn q13) (by simp only [cn_z];omega) fun n14 h14=> ?_
 simp only [cn_q] at h14
 refine⟨by kernel_rfl,?_⟩
 refine Eq.trans (b:=int n14) ?_ rfl
 subst_vars;rfl
theorem ZrX (hx:x.z≤260000000) (hy:y.z≤260000000) (hz:z.z≤260000000) (ht:t.z≤260000000) (hu:u.z≤260000000) (hv:v.z≤260000000) (k:∀ n,n=sgnQ ((z.q - x.q)*(v.q - y.q) - (t.q - y.q)*(u.q - x.q))→K (int n)):Ask 292 [pair x y,pair z t,pair u v] K:=
 use (ZkR x y z t u v  hx hy hz ht hu hv) rfl (k _ rfl)
set_option maxHeartbeats 400000 in
theorem ZiA (l : List (RV × RV)) (m : Int) (hl : ∀ p, p ∈ l → p.1.z ≤ 260000000 ∧ p.2.z ≤ 260000000) (hn : l.length ≤ 1073741824) : Spec Tryz.prog Tab 253 [.val (.one (.d (.list (List.map rdv l)))), int m] (int (convE m l)) := by
  have hL : (List.map rdv l).length = l.length := List.length_map ..
  refine Za Tryz.func253 rfl rfl Tryz.ntmps253 rfl (by kernel_rfl) rfl rfl ?_
  refine ⟨fun e1 => ?_, fun e1 => ?_⟩
  · have f11 : ((List.map rdv l).length : Int) > m := of_decide_eq_true e1
    refine Eq.trans (b := int 2) ?_ rfl
    rw [Ziw (by omega)]
  · have f11 : ¬ (((List.map rdv l).length : Int) > m) := of_decide_eq_false e1
    refine ⟨fun e2 => ?_, fun e2 => ?_⟩
    · have f15 : ((List.map rdv l).length : Int) < 3 := of_decide_eq_true e2
      refine Eq.trans (b := int 3) ?_ rfl
      rw [Ziv (by omega) (by omega)]
    · have f15 : ¬ (((List.map rdv l).length : Int) < 3) := of_decide_eq_false e2
      refine ⟨Nat, fun i => [(0, .val (.one (.d (.list (List.map rdv l))))), (5, int ((List.map rdv l).length : Int)), (18, .val (.one (.d (.list (List.map rdv l))))), (19, int ((List.map rdv l).length : Int)), (20, int (i : Int))],
        fun i => [], fun i => i ≤ l.length ∧ ∀ i' k, i' < i → 2 ≤ k → k < l.length → 0 < poly.ori (pts l i') (pts l ((i' + 1) % l.length)) (pts l ((i' + k) % l.length)), fun i => l.length - i, 0, ?_, ⟨Nat.zero_le _, fun i' k h => absurd h (Nat.not_lt_zero _)⟩, fun i hs => ?_⟩
      · constructor <;> (repeat' (first | exact rfl | exact True.intro | exact ⟨_, _, rfl⟩ | exact (by decide) | apply And.intro))
        all_goals first | exact congrArg (fun n : Int => D.v (.int .i64 n)) (by omega) | exact congrArg (fun n : Int => D.v (.int .i64 n)) (by rw [wrap64 _ (by omega) (by omega)]; omega) | (simp; done)
      obtain ⟨hi, hall⟩ := hs
      refine ⟨fun e3 => ?_, fun e3 => ?_⟩
      · have f21 : (i : Int) < ((List.map rdv l).length : Int) := of_decide_eq_true e3
        obtain ⟨x23, hx23⟩ : ∃ vv, l[i]? = some vv := ⟨_, List.getElem?_eq_getElem (by first | omega | exact Nat.mod_lt _ (by omega))⟩
        have hzx23 := hl x23 (List.mem_of_getElem? hx23)
        have hpx23 := Z2 hx23
        refine k_ix i [D.v (.bool x23.1.s), D.v (.string x23.1.a), D.v (.string x23.1.d), D.v (.bool x23.2.s), D.v (.string x23.2.a), D.v (.string x23.2.d)] (by first | rfl | omega | (rw [wrap64 _ (by omega) (by omega)]; omega)) (Zf hx23) rfl ?_
        refine ⟨Nat, fun k => [(0, .val (.one (.d (.list (List.map rdv l))))), (5, int ((List.map rdv l).length : Int)), (6, int (i : Int)), (7, .val (.one (.ptr 7 0))), (8, int (k : Int)), (18, .val (.one (.d (.list (List.map rdv l))))), (19, int ((List.map rdv l).length : Int)), (20, int (i : Int))],
          fun k => [(7, .var 25 [.d (.v (.bool x23.1.s)), .d (.v (.string x23.1.a)), .d (.v (.string x23.1.d)), .d (.v (.bool x23.2.s)), .d (.v (.string x23.2.a)), .d (.v (.string x23.2.d))])], fun k => 2 ≤ k ∧ ∀ k', 2 ≤ k' → k' < k → k' < l.length → 0 < poly.ori (pts l i) (pts l ((i + 1) % l.length)) (pts l ((i + k') % l.length)), fun k => l.length - k, 2, ?_, ⟨Nat.le_refl _, fun k' h1 h2 => by omega⟩, fun k hs => ?_⟩
        · constructor <;> (repeat' (first | exact rfl | exact True.intro | exact ⟨_, _, rfl⟩ | exact (by decide) | apply And.intro))
          all_goals first | exact congrArg (fun n : Int => D.v (.int .i64 n)) (by omega) | exact congrArg (fun n : Int => D.v (.int .i64 n)) (by rw [wrap64 _ (by omega) (by omega)]; omega) | (simp; done)
        obtain ⟨hk, hin0⟩ := hs
        refine ⟨fun e4 => ?_, fun e4 => ?_⟩
        · have f27 : (k : Int) < ((List.map rdv l).length : Int) := of_decide_eq_true e4
          refine Zdt (i + 1) l.length (by first | rfl | omega | (rw [wrap64 _ (by omega) (by omega)]; omega)) (by first | rfl | omega | (rw [wrap64 _ (by omega) (by omega)]; omega)) (by omega) ?_
          obtain ⟨x36, hx36⟩ : ∃ vv, l[((i + 1) % l.length)]? = some vv := ⟨_, List.getElem?_eq_getElem (by first | omega | exact Nat.mod_lt _ (by omega))⟩
          have hzx36 := hl x36 (List.mem_of_getElem? hx36)
          have hpx36 := Z2 hx36
          refine k_ix ((i + 1) % l.length) [D.v (.bool x36.1.s), D.v (.string x36.1.a), D.v (.string x36.1.d), D.v (.bool x36.2.s), D.v (.string x36.2.a), D.v (.string x36.2.d)] (by first | rfl | omega | (rw [wrap64 _ (by omega) (by omega)]; omega)) (Zf hx36) rfl ?_
          refine Zdt (i + k) l.length (by first | rfl | omega | (rw [wrap64 _ (by omega) (by omega)]; omega)) (by first | rfl | omega | (rw [wrap64 _ (by omega) (by omega)]; omega)) (by omega) ?_
          obtain ⟨x44, hx44⟩ : ∃ vv, l[((i + k) % l.length)]? = some vv := ⟨_, List.getElem?_eq_getElem (by first | omega | exact Nat.mod_lt _ (by omega))⟩
          have hzx44 := hl x44 (List.mem_of_getElem? hx44)
          have hpx44 := Z2 hx44
          refine k_ix ((i + k) % l.length) [D.v (.bool x44.1.s), D.v (.string x44.1.a), D.v (.string x44.1.d), D.v (.bool x44.2.s), D.v (.string x44.2.a), D.v (.string x44.2.d)] (by first | rfl | omega | (rw [wrap64 _ (by omega) (by omega)]; omega)) (Zf hx44) rfl ?_
          refine ZrX (x := x23.1) (y := x23.2) (z := x36.1) (t := x36.2) (u := x44.1) (v := x44.2) (by omega) (by omega) (by omega) (by omega) (by omega) (by omega) (fun n46 hk_46_1 => ?_)
          refine ⟨by kernel_rfl, ?_⟩
          refine ⟨fun e5 => ?_, fun e5 => ?_⟩
          · have f47 : (x36.1.q - x23.1.q) * (x44.2.q - x23.2.q) - (x36.2.q - x23.2.q) * (x44.1.q - x23.1.q) ≤ 0 := (ZP hk_46_1).1 (of_decide_eq_true e5)
            refine Eq.trans (b := int 3) ?_ rfl
            rw [Ziu (by omega) (by omega) (fun hE => by have := hE i k (by omega) hk (by omega); rw [hpx23, hpx36, hpx44] at this; exact absurd f47 (Rat.not_le.2 this))]
          · have f47 : ¬ ((x36.1.q - x23.1.q) * (x44.2.q - x23.2.q) - (x36.2.q - x23.2.q) * (x44.1.q - x23.1.q) ≤ 0) := fun hh => of_decide_eq_false e5 ((ZP hk_46_1).2 hh)
            have hpos : 0 < poly.ori (pts l i) (pts l ((i + 1) % l.length)) (pts l ((i + k) % l.length)) := by rw [hpx23, hpx36, hpx44]; exact Rat.not_le.1 f47
            refine ⟨k + 1, ⟨by omega, fun k' h1 h2 h3 => by
                      by_cases e : k' = k
                      · subst e; exact hpos
                      · exact hin0 k' h1 (by omega) h3⟩, by simp only; omega, ?_⟩
            constructor <;> (repeat' (first | exact rfl | exact True.intro | apply And.intro))
            all_goals first
              | exact congrArg (fun n : Int => D.v (.int .i64 n)) (by rw [wrap64 _ (by omega) (by omega)]; omega)
              | exact congrArg (fun n : Int => D.v (.int .i64 n)) (by omega)
        · have f27 : ¬ ((k : Int) < ((List.map rdv l).length : Int)) := of_decide_eq_false e4
          have hin : ∀ k', 2 ≤ k' → k' < l.length → 0 < poly.ori (pts l i) (pts l ((i + 1) % l.length)) (pts l ((i + k') % l.length)) := fun k' h1 h2 => hin0 k' h1 (by omega) h2
          refine ⟨i + 1, ⟨by omega, fun i' k h1 h2 h3 => by
                by_cases e : i' = i
                · subst e; exact hin k h2 h3
                · exact hall i' k (by omega) h2 h3⟩, by simp only; omega, ?_⟩
          constructor <;> (repeat' (first | exact rfl | exact True.intro | apply And.intro))
          all_goals first
            | exact congrArg (fun n : Int => D.v (.int .i64 n)) (by rw [wrap64 _ (by omega) (by omega)]; omega)
            | exact congrArg (fun n : Int => D.v (.int .i64 n)) (by omega)
      · have f21 : ¬ ((i : Int) < ((List.map rdv l).length : Int)) := of_decide_eq_false e3
        refine Eq.trans (b := int 0) ?_ rfl
        rw [Zix (by omega) (by omega) (fun i' k h1 h2 h3 => hall i' k (by omega) h2 h3)]
theorem ZhF (l:List (RV×RV)) (hl:∀ p,p∈l→p.1.z≤260000000∧p.2.z≤260000000) (hn:l.length≤1073741824):Spec Tryz.prog Tab 334 [.val (.one (.d (.list (List.map rdv l))))] (int (convE 64 l)):=by
 refine Za Tryz.func334 rfl rfl Tryz.ntmps334 rfl (by kernel_rfl) rfl rfl ?_
 refine use (ZiA l (64) hl hn) rfl ?_
 refine Eq.trans (b:=int (convE 64 l)) ?_ rfl
 subst_vars;rfl
theorem Zhh {l:List (RV×RV)} (hl:∀ p,p∈l→p.1.z≤260000000∧p.2.z≤260000000) (hn:l.length≤1073741824) (k:∀ n,n=convE 64 l→K (int n)):Ask 334 [vecs l] K:=use (ZhF l hl hn) rfl (k _ rfl)
theorem ZqI {l:List (RV×RV)} (hl:∀ p,p∈l→p.1.z≤260000000∧p.2.z≤260000000) (i:Nat):qs (pts l i).1≤260000001∧qs (pts l i).2≤260000001:=by
 unfold pts
 cases h:l[i]? with
 |none=>simp only [Option.getD_none,z0q];exact⟨by decide+kernel,by decide+kernel⟩
 |some p=>
  simp only [Option.getD_some]
  have:=hl p (List.mem_of_getElem? h)
  have a:=p.1.z1;have b:=p.2.z1
  omega
set_option maxHeartbeats 1000000 in
theorem ZkG (p0:RV×RV) (l:List (RV×RV)) (hl:∀ p,p∈p0 :: l→p.1.z≤260000000∧p.2.z≤260000000) (hn:(p0 :: l).length≤1073741824):Spec Tryz.prog Tab 274 [.val (.one (.d (.list (List.map rdv (p0 :: l)))))] (box (cn (lowL p0.1.q (xsQ l))) (cn (lowL p0.2.q (ysQ l))) (cn (highL p0.1.q (xsQ l))) (cn (highL p0.2.q (ysQ l)))):=by
 have hL:(List.map rdv l).length=l.length:=List.length_map ..
 have hL0:(List.map rdv (p0 :: l)).length=l.length+1:=by simp
 have hn0:(p0 :: l).length=l.length+1:=rfl
 have hp00:=hl p0 (by simp)
 refine Za Tryz.func274 rfl rfl Tryz.ntmps274 rfl (by kernel_rfl) rfl rfl ?_
 refine Zno (x:=z0) (y:=z0) (z:=z0) (t:=z0) (by simp only [z0z];omega) (by simp only [z0z];omega) (by simp only [z0z];omega) (by simp only [z0z];omega) (fun p10 q10 hk_10_2 hk_10_3 hk_10_4 hk_10_5=> ?_)
 simp only [cn_z,z0z] at hk_10_4
 simp only [cn_z,z0z] at hk_10_5
 refine⟨fun e1=> ?_,fun e1=> ?_⟩
 ·have f13:((List.map rdv (p0 :: l)).length:Int)=0:=ZbS e1
  exfalso
  omega
 ·have f13:¬ (((List.map rdv (p0 :: l)).length:Int)=0):=ZbT e1
  refine k_ix 0 [D.v (.bool p0.1.s),D.v (.string p0.1.a),D.v (.string p0.1.d),D.v (.bool p0.2.s),D.v (.string p0.2.a),D.v (.string p0.2.d)] (by first|rfl|omega|(rw [wrap64 _ (by omega) (by omega)];omega)) (Zf rfl) rfl ?_
  refine Zno (x:=p0.1) (y:=p0.2) (z:=cn p10) (t:=cn q10) (by omega) (by omega) (by simp only [cn_z];omega) (by simp only [cn_z];omega) (fun p21 q21 hk_21_2 hk_21_3 hk_21_4 hk_21_5=> ?_)
  try simp only [cn_q] at hk_21_2
  try simp only [cn_q] at hk_21_3
  simp only [cn_z] at hk_21_4
  simp only [cn_z] at hk_21_5
  refine⟨by kernel_rfl,?_⟩
  refine ZqW 1 (List.map rdv l) (by first|omega|(simp;omega)|simp) (by first|rfl|omega|(rw [wrap64 _ (by omega) (by omega)];omega)) (Zf1 fun _=>rfl) (rfl) ?_
  have hz0:p10=0∧q10=0:=by rw [hk_10_2,hk_10_3,z0q,Rat.add_zero];exact⟨rfl,rfl⟩
  obtain rfl:p21=p0.1.q:=by rw [hk_21_2,hz0.1,Rat.add_zero]
  obtain rfl:q21=p0.2.q:=by rw [hk_21_3,hz0.2,Rat.add_zero]
  refine⟨Nat,fun i=> [(2,.val (.one (.ptr 2 0))),(5,.val (.one (.ptr 5 0))),(26,.val (.one (.d (.list (List.map rdv l))))),(27,int ((List.map rdv l).length:Int)),(28,int (i:Int))],
   fun i=> [(2,.var 129 [.d (.v (.bool z0.s)),.d (.v (.string z0.a)),.d (.v (.string z0.d)),.d (.v (.bool z0.s)),.d (.v (.string z0.a)),.d (.v (.string z0.d)),.d (.v (.bool z0.s)),.d (.v (.string z0.a)),.d (.v (.string z0.d)),.d (.v (.bool z0.s)),.d (.v (.string z0.a)),.d (.v (.string z0.d))]),(5,.var 129 [.d (.v (.bool (cn (lowL p0.1.q (xsQ (l.take i)))).s)),.d (.v (.string (cn (lowL p0.1.q (xsQ (l.take i)))).a)),.d (.v (.string (cn (lowL p0.1.q (xsQ (l.take i)))).d)),.d (.v (.bool (cn (lowL p0.2.q (ysQ (l.take i)))).s)),.d (.v (.string (cn (lowL p0.2.q (ysQ (l.take i)))).a)),.d (.v (.string (cn (lowL p0.2.q (ysQ (l.take i)))).d)),.d (.v (.bool (cn (highL p0.1.q (xsQ (l.take i)))).s)),.d (.v (.string (cn (highL p0.1.q (xsQ (l.take i)))).a)),.d (.v (.string (cn (highL p0.1.q (xsQ (l.take i)))).d)),.d (.v (.bool (cn (highL p0.2.q (ysQ (l.take i)))).s)),.d (.v (.string (cn (highL p0.2.q (ysQ (l.take i)))).a)),.d (.v (.string (cn (highL p0.2.q (ysQ (l.take i)))).d))])],fun i=>i≤l.length,fun i=>l.length - i,0,?_,Nat.zero_le _,fun i hs=> ?_⟩
  ·constructor<;>(repeat' (first|exact rfl|exact True.intro|exact⟨_,_,rfl⟩|exact(by decide)|apply And.intro))
   all_goals first|exact congrArg (fun n:Int=>D.v (.int .i64 n)) (by omega)|exact congrArg (fun n:Int=>D.v (.int .i64 n)) (by rw [wrap64 _ (by omega) (by omega)];omega)|(simp;done)
  have hz2:=xs_z (B:=260000000) (l:=l) (fun p hp=>hl p (by simp [hp])) i
  have hp0:=hl p0 (by simp)
  have z1:=p0.1.z1
  have z2:=p0.2.z1
  have b1:=ZmH (B:=260000001) (q:=p0.1.q) (by omega) hz2.1
  have b2:=ZmH (B:=260000001) (q:=p0.2.q) (by omega) hz2.2
  have b3:=Zjm (B:=260000001) (q:=p0.1.q) (by omega) hz2.1
  have b4:=Zjm (B:=260000001) (q:=p0.2.q) (by omega) hz2.2
  refine⟨fun e2=> ?_,fun e2=> ?_⟩
  ·have f29:(i:Int)< ((List.map rdv l).length:Int):=of_decide_eq_true e2
   obtain⟨x30,hx30⟩:∃ vv,l[i]? =some vv:=⟨_,List.getElem?_eq_getElem (by first|omega|exact Nat.mod_lt _ (by omega))⟩
   have hzx30:=hl x30 (List.mem_cons_of_mem _ (List.mem_of_getElem? hx30))
   refine k_ix i [D.v (.bool x30.1.s),D.v (.string x30.1.a),D.v (.string x30.1.d),D.v (.bool x30.2.s),D.v (.string x30.2.a),D.v (.string x30.2.d)] (by first|rfl|omega|(rw [wrap64 _ (by omega) (by omega)];omega)) (Zf hx30) rfl ?_
   refine ZkX (x:=cn (lowL p0.1.q (xsQ (l.take i)))) (y:=x30.1) (by simp only [cn_z];omega) (by omega) fun q37 h37 z37=> ?_
   simp only [cn_z] at z37
   simp only [cn_q] at h37
   refine ZkX (x:=cn (lowL p0.2.q (ysQ (l.take i)))) (y:=x30.2) (by simp only [cn_z];omega) (by omega) fun q43 h43 z43=> ?_
   simp only [cn_z] at z43
   simp only [cn_q] at h43
   refine⟨by kernel_rfl,?_⟩
   refine ZkY (x:=cn (highL p0.1.q (xsQ (l.take i)))) (y:=x30.1) (by simp only [cn_z];omega) (by omega) fun q51 h51 z51=> ?_
   simp only [cn_z] at z51
   simp only [cn_q] at h51
   refine ZkY (x:=cn (highL p0.2.q (ysQ (l.take i)))) (y:=x30.2) (by simp only [cn_z];omega) (by omega) fun q57 h57 z57=> ?_
   simp only [cn_z] at z57
   simp only [cn_q] at h57
   refine⟨by kernel_rfl,?_⟩
   have hxs:=Zq9 hx30
   obtain rfl:q37=lowL p0.1.q (xsQ (l.take (i+1))):=by rw [h37,hxs.1,Zg5]
   obtain rfl:q43=lowL p0.2.q (ysQ (l.take (i+1))):=by rw [h43,hxs.2,Zg5]
   obtain rfl:q51=highL p0.1.q (xsQ (l.take (i+1))):=by rw [h51,hxs.1,Zfh]
   obtain rfl:q57=highL p0.2.q (ysQ (l.take (i+1))):=by rw [h57,hxs.2,Zfh]
   refine⟨i+1,by omega,by simp only;omega,?_⟩
   constructor<;>(repeat' (first|exact rfl|exact True.intro|apply And.intro))
   all_goals first
    |exact congrArg (fun n:Int=>D.v (.int .i64 n)) (by rw [wrap64 _ (by omega) (by omega)];omega)
    |exact congrArg (fun n:Int=>D.v (.int .i64 n)) (by omega)
  ·have f29:¬ ((i:Int)< ((List.map rdv l).length:Int)):=of_decide_eq_false e2
   refine Eq.trans (b:=box (cn (lowL p0.1.q (xsQ (l.take i)))) (cn (lowL p0.2.q (ysQ (l.take i)))) (cn (highL p0.1.q (xsQ (l.take i)))) (cn (highL p0.2.q (ysQ (l.take i))))) ?_ rfl
   rw [List.take_of_length_le (show l.length≤i by omega)]
theorem ZrS {p0:RV×RV} {l:List (RV×RV)} (hl:∀ p,p∈p0 :: l→p.1.z≤260000000∧p.2.z≤260000000) (hn:(p0 :: l).length≤1073741824) (k:∀ p q r u,p=lowL p0.1.q (xsQ l)→q=lowL p0.2.q (ysQ l)→r=highL p0.1.q (xsQ l)→u=highL p0.2.q (ysQ l)→K (box (cn p) (cn q) (cn r) (cn u))):Ask 274 [vecs (p0 :: l)] K:=use (ZkG p0 l hl hn) rfl (k _ _ _ _ rfl rfl rfl rfl)
theorem ZpT {l:List (RV×RV)} (hl:∀ p,p∈l→p.1.z≤260000000∧p.2.z≤260000000) (hn:l.length≤1073741824) (k:∀ p q r u,p=bx1 l→q=bx2 l→r=bx3 l→u=bx4 l→K (box (cn p) (cn q) (cn r) (cn u))):Ask 274 [vecs l] K:=by
 cases l with
 |nil=>exact ZrT rfl (k _ _ _ _ rfl rfl rfl rfl)
 |cons p l=>exact ZrS hl hn k
theorem Zq5 {a b:List (RV×RV)} (ha:∀ p,p∈a→p.1.z≤260000000∧p.2.z≤260000000):(beyV a b).1.z≤520000010∧(beyV a b).2.z≤520000010:=by
 unfold beyV
 split
 ·rename_i i _
  have h1:=ZqI ha i;have h2:=ZqI ha ((i+1) % a.length)
  have:=Zaf (pts a ((i+1) % a.length)).2 (pts a i).2;have:=Zaf (pts a ((i+1) % a.length)).1 (pts a i).1;have:=ZbJ ((pts a ((i+1) % a.length)).1 - (pts a i).1)
  simp only [cn_z,outN];omega
 ·exact⟨Nat.zero_le _,Nat.zero_le _⟩
theorem Zld (a b:List (RV×RV)) (ha:∀ p,p∈a→p.1.z≤260000000∧p.2.z≤260000000) (hb:∀ p,p∈b→p.1.z≤260000000∧p.2.z≤260000000) (hna:a.length≤1073741824) (hnb:b.length≤1073741824):Spec Tryz.prog Tab 315 [.val (.one (.d (.list (List.map rdv a)))),.val (.one (.d (.list (List.map rdv b))))] (int (bothE a b)):=by
 refine Za Tryz.func315 rfl rfl Tryz.ntmps315 rfl (by kernel_rfl) rfl rfl ?_
 refine Zhh (l:=a) (by assumption) (by omega) (fun n7 hk_7_1=> ?_)
 refine⟨fun e1=> ?_,fun e1=> ?_⟩
 ·have f9:n7≠0:=Z8 e1
  refine Eq.trans (b:=int n7) ?_ rfl
  rw [bothE,if_neg (by omega)];exact congrArg int (by omega)
 ·have f9:¬ (n7≠0):=fun hh=>hh (Z9 e1)
  refine Zhh (l:=b) (by assumption) (by omega) (fun n12 hk_12_1=> ?_)
  refine Eq.trans (b:=int n12) ?_ rfl
  rw [bothE,if_pos (by omega)];exact congrArg int (by omega)
theorem Zr1 {a b:List (RV×RV)} (ha:∀ p,p∈a→p.1.z≤260000000∧p.2.z≤260000000) (hb:∀ p,p∈b→p.1.z≤260000000∧p.2.z≤260000000) (hna:a.length≤1073741824) (hnb:b.length≤1073741824) (k:∀ n,n=bothE a b→K (int n)):Ask 315 [vecs a,vecs b] K:=use (Zld a b ha hb hna hnb) rfl (k _ rfl)
set_option maxHeartbeats 2000000 in
theorem Zhy (a b:List (RV×RV)) (ha:∀ p,p∈a→p.1.z≤260000000∧p.2.z≤260000000) (hb:∀ p,p∈b→p.1.z≤260000000∧p.2.z≤260000000) (hna:a.length≤1073741824) (hnb:b.length≤1073741824):Spec Tryz.prog Tab 316 [.val (.one (.d (.list (List.map rdv a)))),.val (.one (.d (.list (List.map rdv b))))] (.tup [.agg [.d (.v (.bool ((beyV a b).1).s)),.d (.v (.string ((beyV a b).1).a)),.d (.v (.string ((beyV a b).1).d)),.d (.v (.bool ((beyV a b).2).s)),.d (.v (.string ((beyV a b).2).a)),.d (.v (.string ((beyV a b).2).d))],.one (.d (.v (.bool ((bey a b).isSome))))]):=by
 have hLa:(List.map rdv a).length=a.length:=List.length_map ..
 have hLb:(List.map rdv b).length=b.length:=List.length_map ..
 refine Za Tryz.func316 rfl rfl Tryz.ntmps316 rfl (by kernel_rfl) rfl rfl ?_
 refine⟨Nat,fun i=> [(0,.val (.one (.d (.list (List.map rdv a))))),(1,.val (.one (.d (.list (List.map rdv b))))),(4,.val (.one (.ptr 4 0))),(13,.val (.one (.d (.list (List.map rdv a))))),(14,int ((List.map rdv a).length:Int)),(15,int (i:Int))],
  fun i=> [(4,.var 25 [.d (.v (.bool z0.s)),.d (.v (.string z0.a)),.d (.v (.string z0.d)),.d (.v (.bool z0.s)),.d (.v (.string z0.a)),.d (.v (.string z0.d))])],fun i=>i≤a.length∧∀ i',i'< i→farTo (pts a) a.length (pts b) i' b.length=false,fun i=>a.length - i,0,?_,⟨Nat.zero_le _,fun i' h=>absurd h (Nat.not_lt_zero _)⟩,fun i hs=> ?_⟩
 ·constructor<;>(repeat' (first|exact rfl|exact True.intro|exact⟨_,_,rfl⟩|exact(by decide)|apply And.intro))
  all_goals first|exact congrArg (fun n:Int=>D.v (.int .i64 n)) (by omega)|exact congrArg (fun n:Int=>D.v (.int .i64 n)) (by rw [wrap64 _ (by omega) (by omega)];omega)|(simp;done)
 obtain⟨hi,h1⟩:=hs
 refine⟨fun e1=> ?_,fun e1=> ?_⟩
 ·have f16:(i:Int)< ((List.map rdv a).length:Int):=of_decide_eq_true e1
  obtain⟨x18,hx18⟩:∃ vv,a[i]? =some vv:=⟨_,List.getElem?_eq_getElem (by first|omega|exact Nat.mod_lt _ (by omega))⟩
  have hzx18:=ha x18 (List.mem_of_getElem? hx18)
  have hpx18:=Z2 hx18
  refine k_ix i [D.v (.bool x18.1.s),D.v (.string x18.1.a),D.v (.string x18.1.d),D.v (.bool x18.2.s),D.v (.string x18.2.a),D.v (.string x18.2.d)] (by first|rfl|omega|(rw [wrap64 _ (by omega) (by omega)];omega)) (Zf hx18) rfl ?_
  refine Zdt (i+1) a.length (by first|rfl|omega|(rw [wrap64 _ (by omega) (by omega)];omega)) (by first|rfl|omega|(rw [wrap64 _ (by omega) (by omega)];omega)) (by omega) ?_
  obtain⟨x26,hx26⟩:∃ vv,a[((i+1) % a.length)]? =some vv:=⟨_,List.getElem?_eq_getElem (by first|omega|exact Nat.mod_lt _ (by omega))⟩
  have hzx26:=ha x26 (List.mem_of_getElem? hx26)
  have hpx26:=Z2 hx26
  refine k_ix ((i+1) % a.length) [D.v (.bool x26.1.s),D.v (.string x26.1.a),D.v (.string x26.1.d),D.v (.bool x26.2.s),D.v (.string x26.2.a),D.v (.string x26.2.d)] (by first|rfl|omega|(rw [wrap64 _ (by omega) (by omega)];omega)) (Zf hx26) rfl ?_
  refine Zfa (x:=x26.1) (y:=x26.2) (z:=x18.1) (t:=x18.2) (by omega) (by omega) (by omega) (by omega) (fun p29 q29 hk_29_2 hk_29_3 hk_29_4 hk_29_5=> ?_)
  simp only [cn_z] at hk_29_4
  simp only [cn_z] at hk_29_5
  refine⟨by kernel_rfl,?_⟩
  refine ZrU (x:=cn p29) (by simp only [cn_z];omega) fun q34 h34 z34=> ?_
  simp only [cn_z] at z34
  simp only [cn_q] at h34
  refine⟨by kernel_rfl,?_⟩
  refine⟨Nat,fun k=> [(0,.val (.one (.d (.list (List.map rdv a))))),(1,.val (.one (.d (.list (List.map rdv b))))),(4,.val (.one (.ptr 4 0))),(7,.val (.one (.ptr 7 0))),(9,.val (.one (.ptr 9 0))),(10,bool (farTo (pts a) a.length (pts b) i k)),(13,.val (.one (.d (.list (List.map rdv a))))),(14,int ((List.map rdv a).length:Int)),(15,int (i:Int)),(36,.val (.one (.d (.list (List.map rdv b))))),(37,int ((List.map rdv b).length:Int)),(38,int (k:Int))],
   fun k=> [(4,.var 25 [.d (.v (.bool z0.s)),.d (.v (.string z0.a)),.d (.v (.string z0.d)),.d (.v (.bool z0.s)),.d (.v (.string z0.a)),.d (.v (.string z0.d))]),(7,.var 25 [.d (.v (.bool x18.1.s)),.d (.v (.string x18.1.a)),.d (.v (.string x18.1.d)),.d (.v (.bool x18.2.s)),.d (.v (.string x18.2.a)),.d (.v (.string x18.2.d))]),(9,.var 25 [.d (.v (.bool (cn q29).s)),.d (.v (.string (cn q29).a)),.d (.v (.string (cn q29).d)),.d (.v (.bool (cn q34).s)),.d (.v (.string (cn q34).a)),.d (.v (.string (cn q34).d))])],fun k=>k≤b.length,fun k=>b.length - k,0,?_,Nat.zero_le _,fun k hs=> ?_⟩
  ·constructor<;>(repeat' (first|exact rfl|exact True.intro|exact⟨_,_,rfl⟩|exact(by decide)|apply And.intro))
   all_goals first|exact congrArg (fun n:Int=>D.v (.int .i64 n)) (by omega)|exact congrArg (fun n:Int=>D.v (.int .i64 n)) (by rw [wrap64 _ (by omega) (by omega)];omega)|(simp;done)
  refine⟨fun e2=> ?_,fun e2=> ?_⟩
  ·have f39:(k:Int)< ((List.map rdv b).length:Int):=of_decide_eq_true e2
   obtain⟨x40,hx40⟩:∃ vv,b[k]? =some vv:=⟨_,List.getElem?_eq_getElem (by first|omega|exact Nat.mod_lt _ (by omega))⟩
   have hzx40:=hb x40 (List.mem_of_getElem? hx40)
   have hpx40:=Z2 hx40
   refine k_ix k [D.v (.bool x40.1.s),D.v (.string x40.1.a),D.v (.string x40.1.d),D.v (.bool x40.2.s),D.v (.string x40.2.a),D.v (.string x40.2.d)] (by first|rfl|omega|(rw [wrap64 _ (by omega) (by omega)];omega)) (Zf hx40) rfl ?_
   refine fork (fun e3=> ?_) (fun e3=> ?_)
   ·have f43:farTo (pts a) a.length (pts b) i k=true:=e3
    refine Zfa (x:=x40.1) (y:=x40.2) (z:=x18.1) (t:=x18.2) (by omega) (by omega) (by omega) (by omega) (fun p47 q47 hk_47_2 hk_47_3 hk_47_4 hk_47_5=> ?_)
    simp only [cn_z] at hk_47_4
    simp only [cn_z] at hk_47_5
    refine Zs9 (x:=cn q29) (y:=cn q34) (z:=cn p47) (t:=cn q47) (by simp only [cn_z];omega) (by simp only [cn_z];omega) (by simp only [cn_z];omega) (by simp only [cn_z];omega) (fun q48 hk_48_1 hk_48_2=> ?_)
    try simp only [cn_q] at hk_48_1
    simp only [cn_z] at hk_48_2
    refine Zef (x:=cn q48) (by simp only [cn_z];omega) fun n49 h49=> ?_
    simp only [cn_q] at h49
    refine⟨by kernel_rfl,?_⟩
    have hfar:farTo (pts a) a.length (pts b) i (k+1)=(decide (n49 >0)):=by
     rw [Zfm,f43]
     rw [Bool.true_and];refine decide_eq_decide.2 ((Zmf h49).trans ?_).symm;rw [hk_48_1,hk_47_2,hk_47_3,h34];unfold outN;rw [hpx18,hpx26,hpx40,hk_29_2,hk_29_3]
    refine⟨k+1,by omega,by simp only;omega,?_⟩
    constructor<;>(repeat' (first|exact rfl|exact True.intro|apply And.intro))
    all_goals first
     |exact congrArg (fun b=>D.v (.bool b)) hfar
     |exact congrArg (fun n:Int=>D.v (.int .i64 n)) (by rw [wrap64 _ (by omega) (by omega)];omega)
     |exact congrArg (fun n:Int=>D.v (.int .i64 n)) (by omega)
   ·have f43:¬ (farTo (pts a) a.length (pts b) i k=true):=fun hh=>by rw [hh] at e3;exact Bool.noConfusion e3
    refine⟨by kernel_rfl,?_⟩
    have hfar:farTo (pts a) a.length (pts b) i (k+1)=false:=by rw [Zfm,Bool.eq_false_iff.2 f43];rfl
    refine⟨k+1,by omega,by simp only;omega,?_⟩
    constructor<;>(repeat' (first|exact rfl|exact True.intro|apply And.intro))
    all_goals first
     |exact congrArg (fun b=>D.v (.bool b)) hfar
     |exact congrArg (fun n:Int=>D.v (.int .i64 n)) (by rw [wrap64 _ (by omega) (by omega)];omega)
     |exact congrArg (fun n:Int=>D.v (.int .i64 n)) (by omega)
  ·have f39:¬ ((k:Int)< ((List.map rdv b).length:Int)):=of_decide_eq_false e2
   have hk2:b.length=k:=by omega
   refine⟨fun e4=> ?_,fun e4=> ?_⟩
   ·have f53:farTo (pts a) a.length (pts b) i k=true:=e4
    refine Eq.trans (b:= .tup [.agg [.d (.v (.bool (cn q29).s)),.d (.v (.string (cn q29).a)),.d (.v (.string (cn q29).d)),.d (.v (.bool (cn q34).s)),.d (.v (.string (cn q34).a)),.d (.v (.string (cn q34).d))],.one (.d (.v (.bool (true))))]) ?_ rfl
    have he:bey a b=some i:=Zk7 (by omega) h1 (by rw [hk2];exact f53)
    have hv:beyV a b=(cn q29,cn q34):=by
     simp only [beyV,he];unfold outN;rw [hpx18,hpx26,h34];subst_vars;rfl
    rw [he,hv];rfl
   ·have f53:¬ (farTo (pts a) a.length (pts b) i k=true):=fun hh=>by rw [hh] at e4;exact Bool.noConfusion e4
    have hno:farTo (pts a) a.length (pts b) i b.length=false:=by rw [hk2];exact Bool.eq_false_iff.2 f53
    refine⟨i+1,⟨by omega,fun i' g=>by
     by_cases e:i'=i
     ·subst e;exact hno
     ·exact h1 i' (by omega)⟩,by simp only;omega,?_⟩
    constructor<;>(repeat' (first|exact rfl|exact True.intro|apply And.intro))
    all_goals first
     |exact congrArg (fun n:Int=>D.v (.int .i64 n)) (by rw [wrap64 _ (by omega) (by omega)];omega)
     |exact congrArg (fun n:Int=>D.v (.int .i64 n)) (by omega)
 ·have f16:¬ ((i:Int)< ((List.map rdv a).length:Int)):=of_decide_eq_false e1
  refine Eq.trans (b:= .tup [.agg [.d (.v (.bool z0.s)),.d (.v (.string z0.a)),.d (.v (.string z0.d)),.d (.v (.bool z0.s)),.d (.v (.string z0.a)),.d (.v (.string z0.d))],.one (.d (.v (.bool (false))))]) ?_ rfl
  have he:bey a b=none:=ZnU fun j hj=>h1 j (by omega)
  have hv:beyV a b=(z0,z0):=by simp only [beyV,he]
  rw [he,hv];rfl
theorem ZqY {a b:List (RV×RV)} (ha:∀ p,p∈a→p.1.z≤260000000∧p.2.z≤260000000) (hb:∀ p,p∈b→p.1.z≤260000000∧p.2.z≤260000000) (hna:a.length≤1073741824) (hnb:b.length≤1073741824) (k:(beyV a b).1.z≤520000010→(beyV a b).2.z≤520000010→K (two (pair (beyV a b).1 (beyV a b).2) (bool (bey a b).isSome))):Ask 316 [vecs a,vecs b] K:=use (Zhy a b ha hb hna hnb) rfl (k (Zq5 ha).1 (Zq5 ha).2)
theorem ZkM (a b:List (RV×RV)) (ha:∀ p,p∈a→p.1.z≤260000000∧p.2.z≤260000000) (hb:∀ p,p∈b→p.1.z≤260000000∧p.2.z≤260000000) (hna:a.length≤1073741824) (hnb:b.length≤1073741824):Spec Tryz.prog Tab 275 [.val (.one (.d (.list (List.map rdv a)))),.val (.one (.d (.list (List.map rdv b))))] (.tup [.one (.d (.v (.bool (meetB a b)))),.one (.d (.v (.int .i64 (bothE a b))))]):=by
 have hLa:(List.map rdv a).length=a.length:=List.length_map ..
 have hLb:(List.map rdv b).length=b.length:=List.length_map ..
 refine Za Tryz.func275 rfl rfl Tryz.ntmps275 rfl (by kernel_rfl) rfl rfl ?_
 refine Zr1 (a:=a) (b:=b) (by assumption) (by assumption) (by omega) (by omega) (fun n13 hk_13_1=> ?_)
 refine⟨fun e1=> ?_,fun e1=> ?_⟩
 ·have f15:n13≠0:=Z8 e1
  refine Eq.trans (b:= .tup [.one (.d (.v (.bool (false)))),.one (.d (.v (.int .i64 (n13))))]) ?_ rfl
  subst hk_13_1
  rw [show meetB a b=false from by unfold meetB;rw [beq_false_of_ne f15];rfl]
 ·have f15:¬ (n13≠0):=fun hh=>hh (Z9 e1)
  refine ZqY (a:=a) (b:=b) (by assumption) (by assumption) (by omega) (by omega) (fun hk_20_0 hk_20_1=> ?_)
  refine ZqY (a:=b) (b:=a) (by assumption) (by assumption) (by omega) (by omega) (fun hk_26_0 hk_26_1=> ?_)
  refine fork (fun e2=> ?_) (fun e2=> ?_)
  ·refine Eq.trans (b:= .tup [.one (.d (.v (.bool (!((bey b a).isSome))))),.one (.d (.v (.int .i64 (0))))]) ?_ rfl
   have hb0:bothE a b=0:=by omega
   have hm:meetB a b=(!((bey b a).isSome)):=by
    unfold meetB;rw [hb0];revert e2;cases bey a b<;>cases bey b a<;>intro e2<;>first|rfl|(simp at e2)
   rw [hm,hb0]
  ·refine Eq.trans (b:= .tup [.one (.d (.v (.bool (false)))),.one (.d (.v (.int .i64 (0))))]) ?_ rfl
   have hb0:bothE a b=0:=by omega
   have hm:meetB a b=(false):=by
    unfold meetB;rw [hb0];revert e2;cases bey a b<;>cases bey b a<;>intro e2<;>first|rfl|(simp at e2)
   rw [hm,hb0]
theorem ZrW {a b:List (RV×RV)} (ha:∀ p,p∈a→p.1.z≤260000000∧p.2.z≤260000000) (hb:∀ p,p∈b→p.1.z≤260000000∧p.2.z≤260000000) (hna:a.length≤1073741824) (hnb:b.length≤1073741824) (k:∀ n,n=bothE a b→K (two (bool (meetB a b)) (int n))):Ask 275 [vecs a,vecs b] K:=use (ZkM a b ha hb hna hnb) rfl (k _ rfl)
theorem ZdT (x y z t:RV) (hx:x.z≤260000000) (hy:y.z≤260000000) (hz:z.z≤260000000) (ht:t.z≤260000000) (b:Bool) (hb:b=true↔bxOk x y z t):Spec Tryz.prog Tab 314 [box x y z t] (bool b):=by
 refine Za Tryz.func314 rfl rfl Tryz.ntmps314 rfl (by kernel_rfl) rfl rfl ?_
 refine Zek (x:=x) (y:=z) (by omega) (by omega) fun n9 h9=> ?_
 refine fork (fun e1=> ?_) (fun e1=> ?_)
 ·have f11:x.q≤z.q:=(ZdA h9).1 (of_decide_eq_true e1)
  refine Zek (x:=y) (y:=t) (by omega) (by omega) fun n18 h18=> ?_
  refine Eq.trans (b:=bool (decide (n18≤0))) ?_ rfl
  have e:b=(decide (n18≤0)):=by
   cases b with
   |true=>exact(decide_eq_true ((ZdA h18).2 (hb.1 rfl).2)).symm
   |false=>exact(decide_eq_false fun hh=>Bool.noConfusion (hb.2 ⟨f11,(ZdA h18).1 hh⟩)).symm
  rw [e]
 ·have f11:¬ (x.q≤z.q):=fun hh=>of_decide_eq_false e1 ((ZdA h9).2 hh)
  refine Eq.trans (b:=bool false) ?_ rfl
  have e:b=false:=by
   cases b with
   |true=>exact absurd (hb.1 rfl).1 f11
   |false=>rfl
  rw [e]
theorem Ze9 {x y z t:RV} (hx:x.z≤260000000) (hy:y.z≤260000000) (hz:z.z≤260000000) (ht:t.z≤260000000) (k1:bxOk x y z t→K (bool true)) (k0:¬ bxOk x y z t→K (bool false)):Ask 314 [box x y z t] K:=by
 by_cases h:bxOk x y z t
 ·exact use (ZdT x y z t hx hy hz ht true ⟨fun _=>h,fun _=>rfl⟩) rfl (k1 h)
 ·exact use (ZdT x y z t hx hy hz ht false ⟨fun e=>Bool.noConfusion e,fun e=>absurd e h⟩) rfl (k0 h)
set_option maxHeartbeats 1000000 in
theorem ZiC (x y z t x2 y2 z2 t2:RV) (hx:x.z≤260000000) (hy:y.z≤260000000) (hz:z.z≤260000000) (ht:t.z≤260000000) (hx2:x2.z≤260000000) (hy2:y2.z≤260000000) (hz2:z2.z≤260000000) (ht2:t2.z≤260000000):Spec Tryz.prog Tab 273 [box x y z t,box x2 y2 z2 t2] (bool (decide (bxMeet x y z t x2 y2 z2 t2))):=by
 refine Za Tryz.func273 rfl rfl Tryz.ntmps273 rfl (by kernel_rfl) rfl rfl ?_
 refine Ze9 (by omega) (by omega) (by omega) (by omega) (fun f6=> ?_) (fun f6=> ?_)
 ·refine Ze9 (by omega) (by omega) (by omega) (by omega) (fun f9=> ?_) (fun f9=> ?_)
  ·refine Zek (x:=x) (y:=z2) (by omega) (by omega) fun n18 h18=> ?_
   refine fork (fun e1=> ?_) (fun e1=> ?_)
   ·have f21:x.q≤z2.q:=(ZdA h18).1 (of_decide_eq_true e1)
    refine Zek (x:=x2) (y:=z) (by omega) (by omega) fun n28 h28=> ?_
    refine fork (fun e2=> ?_) (fun e2=> ?_)
    ·have f31:x2.q≤z.q:=(ZdA h28).1 (of_decide_eq_true e2)
     refine Zek (x:=y) (y:=t2) (by omega) (by omega) fun n38 h38=> ?_
     refine fork (fun e3=> ?_) (fun e3=> ?_)
     ·have f41:y.q≤t2.q:=(ZdA h38).1 (of_decide_eq_true e3)
      refine Zek (x:=y2) (y:=t) (by omega) (by omega) fun n48 h48=> ?_
      refine Eq.trans (b:=bool (decide (n48≤0))) ?_ rfl
      rw [show decide (bxMeet x y z t x2 y2 z2 t2)=(decide (n48≤0)) from decide_eq_decide.2 ⟨fun ⟨_,_,_,_,_,m6⟩=>(ZdA h48).2 m6,fun hh=>⟨f6,f9,f21,f31,f41,(ZdA h48).1 hh⟩⟩]
     ·have f41:¬ (y.q≤t2.q):=fun hh=>of_decide_eq_false e3 ((ZdA h38).2 hh)
      refine Eq.trans (b:=bool false) ?_ rfl
      rw [show decide (bxMeet x y z t x2 y2 z2 t2)=false from decide_eq_false fun ⟨m1,m2,m3,m4,m5,m6⟩=>by first|exact f41 m1|exact f41 m2|exact f41 m3|exact f41 m4|exact f41 m5|exact f41 m6]
    ·have f31:¬ (x2.q≤z.q):=fun hh=>of_decide_eq_false e2 ((ZdA h28).2 hh)
     refine Eq.trans (b:=bool false) ?_ rfl
     rw [show decide (bxMeet x y z t x2 y2 z2 t2)=false from decide_eq_false fun ⟨m1,m2,m3,m4,m5,m6⟩=>by first|exact f31 m1|exact f31 m2|exact f31 m3|exact f31 m4|exact f31 m5|exact f31 m6]
   ·have f21:¬ (x.q≤z2.q):=fun hh=>of_decide_eq_false e1 ((ZdA h18).2 hh)
    refine Eq.trans (b:=bool false) ?_ rfl
    rw [show decide (bxMeet x y z t x2 y2 z2 t2)=false from decide_eq_false fun ⟨m1,m2,m3,m4,m5,m6⟩=>by first|exact f21 m1|exact f21 m2|exact f21 m3|exact f21 m4|exact f21 m5|exact f21 m6]
  ·refine Eq.trans (b:=bool false) ?_ rfl
   rw [show decide (bxMeet x y z t x2 y2 z2 t2)=false from decide_eq_false fun ⟨m1,m2,m3,m4,m5,m6⟩=>by first|exact f9 m1|exact f9 m2|exact f9 m3|exact f9 m4|exact f9 m5|exact f9 m6]
 ·refine Eq.trans (b:=bool false) ?_ rfl
  rw [show decide (bxMeet x y z t x2 y2 z2 t2)=false from decide_eq_false fun ⟨m1,m2,m3,m4,m5,m6⟩=>by first|exact f6 m1|exact f6 m2|exact f6 m3|exact f6 m4|exact f6 m5|exact f6 m6]
theorem ZpV {x y z t x2 y2 z2 t2:RV} (hx:x.z≤260000000) (hy:y.z≤260000000) (hz:z.z≤260000000) (ht:t.z≤260000000) (hx2:x2.z≤260000000) (hy2:y2.z≤260000000) (hz2:z2.z≤260000000) (ht2:t2.z≤260000000) (k:∀ b,b=decide (bxMeet x y z t x2 y2 z2 t2)→K (bool b)):Ask 273 [box x y z t,box x2 y2 z2 t2] K:=use (ZiC x y z t x2 y2 z2 t2 hx hy hz ht hx2 hy2 hz2 ht2) rfl (k _ rfl)
theorem Zfn {P Q:Nat→poly.Pt} {n i m:Nat}:farTo P n Q i m=true↔∀ j,j< m→poly.ori (P i) (P ((i+1) % n)) (Q j)< 0:=by
 unfold farTo
 rw [List.all_eq_true]
 have e:∀ j,(outN P n i).1*((Q j).1 - (P i).1)+(outN P n i).2*((Q j).2 - (P i).2)=- poly.ori (P i) (P ((i+1) % n)) (Q j):=fun j=>by unfold outN poly.ori;grind
 constructor
 ·intro h j hj
  have:=of_decide_eq_true (h j (List.mem_range.2 hj))
  rw [e] at this;grind
 ·intro h j hj
  have:=h j (List.mem_range.1 hj)
  exact decide_eq_true (by rw [e];grind)
theorem Zj4 {a b:List (RV×RV)}:(bey a b).isSome=true↔poly.Beyond (pts a) a.length (pts b) b.length:=by
 unfold bey poly.Beyond
 rw [List.find?_isSome]
 constructor
 ·rintro⟨i,h1,h2⟩;exact⟨i,List.mem_range.1 h1,Zfn.1 h2⟩
 ·rintro⟨i,h1,h2⟩;exact⟨i,List.mem_range.2 h1,Zfn.2 h2⟩
end
end Go.Proofs.YtpfemjpgbpnpkaaGreatDoor.eng
