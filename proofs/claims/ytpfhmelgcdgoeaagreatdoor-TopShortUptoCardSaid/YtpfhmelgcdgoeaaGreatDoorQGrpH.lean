/- Joined by wip/bundle.py: XGeo XGeo2 XGeo3 XWide. -/
import Derived.Test.YtpfhmelgcdgoeaaGreatDoorQGrpY
set_option maxHeartbeats 2000000
set_option maxRecDepth 100000
open List (map length_map getElem?_eq_getElem mem_of_getElem?)
namespace Go.Proofs.YtpfhmelgcdgoeaaGreatDoor.poly
def crs (u v:Pt):Rat:=u.1*v.2 - u.2*v.1
def dt (u v:Pt):Rat:=u.1*v.1+u.2*v.2
def sb (u v:Pt):Pt:=(u.1 - v.1,u.2 - v.2)
theorem crs_anti (u v:Pt):crs u v=- crs v u:=by unfold crs;grind
theorem Zd0 (a:Rat):0≤a*a:=by
 rcases Rat.le_total (a:=0) (b:=a) with h|h
 ·exact Rat.mul_nonneg h h
 ·have:=Rat.mul_nonneg (a:=-a) (b:=-a) (by grind) (by grind)
  grind
theorem Zr1 {a:Rat} (h:a≠0):0< a*a:=by
 have:=Zd0 a
 have h2:a*a≠0:=fun e=>h (by rcases Rat.mul_eq_zero.1 e with h|h<;>exact h)
 grind
theorem Zwc {u:Pt} (h:¬ (u.1=0∧u.2=0)):0< dt u u:=by
 unfold dt
 have h1:=Zd0 u.1;have h2:=Zd0 u.2
 by_cases e:u.1=0
 ·have:=Zr1 (a:=u.2) (fun e2=>h ⟨e,e2⟩);grind
 ·have:=Zr1 e;grind
theorem div_pos {a b:Rat} (h:0< a) (g:0< b):0< a / b:=by
 rw [Rat.div_def];exact Rat.mul_pos h (Rat.inv_pos.2 g)
theorem Zko {p:Nat→Prop} (f:Nat→Rat):∀ n,(∃ i,i< n∧p i)→∃ i,i< n∧p i∧∀ j,j< n→p j→f i≤f j:=by
 intro n
 induction n with
 |zero=>rintro⟨i,h,_⟩;omega
 |succ n ih=>
  rintro⟨i,hi,hp⟩
  by_cases h:∃ i,i< n∧p i
  ·obtain⟨k,h1,h2,h3⟩:=ih h
   by_cases hn:p n∧f n< f k
   ·refine⟨n,ω,hn.1,fun j hj hpj=> ?_⟩
    by_cases e:j=n
    ·subst e;exact Rat.le_refl
    ·exact Rat.le_trans (Rat.le_of_lt hn.2) (h3 j ω hpj)
   ·refine⟨k,ω,h2,fun j hj hpj=> ?_⟩
    by_cases e:j=n
    ·subst e;exact Rat.not_lt.1 fun hh=>hn ⟨hpj,hh⟩
    ·exact h3 j ω hpj
  ·have e:i=n:=by
    by_cases e:i=n
    ·exact e
    ·exact absurd ⟨i,ω,hp⟩ h
   subst e
   refine⟨i,ω,hp,fun j hj hpj=> ?_⟩
   by_cases e:j=i
   ·subst e;exact Rat.le_refl
   ·exact absurd ⟨j,ω,hpj⟩ h
theorem Zqm {N v w:Pt} (hv:0< dt N v) (hw:0< dt N w) (h:crs N v / dt N v≤crs N w / dt N w):0≤crs v w:=by
 have hN:0< dt N N:=Zwc fun ⟨h1,h2⟩=>by unfold dt at hv;rw [h1,h2] at hv;grind
 have key:dt N N*crs v w=dt N v*crs N w - crs N v*dt N w:=by unfold dt crs;grind
 have h2:0≤dt N v*crs N w - crs N v*dt N w:=by
  have e:dt N v*crs N w - crs N v*dt N w=dt N v*dt N w*(crs N w / dt N w - crs N v / dt N v):=by
   have a:=Rat.ne_of_gt hv;have b:=Rat.ne_of_gt hw;grind
  rw [e]
  exact Rat.mul_nonneg (Rat.le_of_lt (Rat.mul_pos hv hw)) (by grind)
 rw [← key] at h2
 exact ZcF hN h2
def Weigh (l:List Pt):Prop:=∃ a b c,a∈l∧b∈l∧c∈l∧∃ x y z:Rat,0≤x∧0≤y∧0≤z∧0< x+y+z∧x*a.1+y*b.1+z*c.1=0∧x*a.2+y*b.2+z*c.2=0
theorem Weigh.mono {l m:List Pt} (h:Weigh l) (hs:∀ a,a∈l→a∈m):Weigh m:=by
 obtain⟨a,b,c,h1,h2,h3,r⟩:=h
 exact⟨a,b,c,hs a h1,hs b h2,hs c h3,r⟩
section
variable {P Q : Nat → Pt} {n m : Nat}
def Beyond (P:Nat→Pt) (n:Nat) (Q:Nat→Pt) (m:Nat):Prop:=∃ i,i< n∧∀ j,j< m→ori (P i) (P ((i+1) % n)) (Q j)< 0
def prev (n i:Nat):Nat:=(i+(n - 1)) % n
theorem ZaO (hn:0< n) (i:Nat):prev n i< n:=Nat.mod_lt _ hn
theorem Zbf {i:Nat} (hi:i< n):(prev n i+1) % n=i:=by
 unfold prev
 rw [Nat.mod_add_mod,show i+(n - 1)+1=i+n by omega,Nat.add_mod_right,Nat.mod_eq_of_lt hi]
theorem ZmE (h:Edges P n) (hn:3≤n) {i:Nat} (hi:i< n):0< ori (P (prev n i)) (P i) (P ((i+1) % n)):=by
 have:=h (prev n i) 2 (ZaO ω i) ω ω
 rw [Zbf hi] at this
 rwa [show (prev n i+2) % n=((prev n i+1) % n+1) % n by rw [Nat.mod_add_mod],Zbf hi] at this
theorem Zox (h:Edges P n) {i j:Nat} (hi:i< n) (hj:j< n):0≤ori (P i) (P ((i+1) % n)) (P j):=Zpi h hi hj
theorem ZhB {N:Pt} (hn:0< n) (hm:0< m) (hN:∀ i j,i< n→j< m→0< dt N (sb (Q j) (P i))):
  ∃ i0 j0,i0< n∧j0< m∧∀ i j,i< n→j< m→0≤crs (sb (Q j0) (P i0)) (sb (Q j) (P i))∧(crs (sb (Q j0) (P i0)) (sb (Q j) (P i))=0→dt N (sb (Q j0) (P i0))≤dt N (sb (Q j) (P i))):=by
 let w:Nat→Pt:=fun k=>sb (Q (k % m)) (P (k / m))
 have hk:∀ k,k< n*m→k / m< n∧k % m< m:=fun k hk=>⟨(Nat.div_lt_iff_lt_mul hm).2 hk,Nat.mod_lt _ hm⟩
 have hw:∀ k,k< n*m→0< dt N (w k):=fun k h=>hN _ _ (hk k h).1 (hk k h).2
 have hpos:0< n*m:=Nat.mul_pos hn hm
 obtain⟨a,a1,_,a3⟩:=Zko (p:=fun _=>True) (fun k=>crs N (w k) / dt N (w k)) (n*m) ⟨0,hpos,trivial⟩
 obtain⟨b,b1,b2,b3⟩:=Zko (p:=fun k=>crs N (w k) / dt N (w k)≤crs N (w a) / dt N (w a)) (fun k=>dt N (w k)) (n*m) ⟨a,a1,Rat.le_refl⟩
 refine⟨b / m,b % m,(hk b b1).1,(hk b b1).2,fun i j hi hj=> ?_⟩
 obtain⟨c,hc,ec⟩:∃ c,c< n*m∧w c=sb (Q j) (P i):=by
  refine⟨i*m+j,?_,?_⟩
  ·calc i*m+j< i*m+m:=ω
    _=(i+1)*m:=by rw [Nat.add_mul,Nat.one_mul]
    _≤n*m:=Nat.mul_le_mul_right _ hi
  ·show sb (Q ((i*m+j) % m)) (P ((i*m+j) / m))=_
   rw [Nat.mul_comm i m,Nat.mul_add_mod,Nat.mod_eq_of_lt hj,Nat.mul_add_div hm,Nat.div_eq_of_lt hj,Nat.add_zero]
 rw [← ec]
 have hle:crs N (w b) / dt N (w b)≤crs N (w c) / dt N (w c):=Rat.le_trans b2 (a3 c hc trivial)
 have h1:=Zqm (hw b b1) (hw c hc) hle
 refine⟨h1,fun h0=>b3 c hc ?_⟩
 have key:dt N N*crs (w b) (w c)=dt N (w b)*crs N (w c) - crs N (w b)*dt N (w c):=by unfold dt crs;grind
 have h0':crs (w b) (w c)=0:=h0
 rw [h0',Rat.mul_zero] at key
 have e:crs N (w c) / dt N (w c)=crs N (w b) / dt N (w b):=by
  have p1:=Rat.ne_of_gt (hw b b1);have p2:=Rat.ne_of_gt (hw c hc);grind
 rw [e];exact b2
theorem beyond_of_line {N : Pt} (hP : Edges P n) (hQ : Edges Q m) (hn : 3 ≤ n) (hm : 3 ≤ m) (hN : ∀ i j, i < n → j < m → 0 < dt N (sb (Q j) (P i))) : Beyond P n Q m ∨ Beyond Q m P n := by
  obtain ⟨i0, j0, hi0, hj0, hx⟩ := ZhB ω ω hN
  have tP := ZmE hP hn hi0
  have tQ := ZmE hQ hm hj0
  have eP : ∀ i, i < n → 0 ≤ ori (P (prev n i0)) (P i0) (P i) := fun i hi => by have := Zox hP (ZaO ω i0) hi; rwa [Zbf hi0] at this
  have eQ : ∀ j, j < m → 0 ≤ ori (Q (prev m j0)) (Q j0) (Q j) := fun j hj => by have := Zox hQ (ZaO ω j0) hj; rwa [Zbf hj0] at this
  have hvN := hN i0 j0 hi0 hj0
  have xB := hx i0 (prev m j0) hi0 (ZaO ω j0)
  have xA := hx (prev n i0) j0 (ZaO ω i0) hj0
  have xP : ∀ i, i < n → 0 ≤ crs (sb (Q j0) (P i0)) (sb (P i0) (P i)) := fun i hi => by
    have := (hx i j0 hi hj0).1
    have e : crs (sb (Q j0) (P i0)) (sb (Q j0) (P i)) = crs (sb (Q j0) (P i0)) (sb (P i0) (P i)) := by unfold crs sb; grind
    rwa [e] at this
  have xQ : ∀ j, j < m → 0 ≤ crs (sb (Q j0) (P i0)) (sb (Q j) (Q j0)) := fun j hj => by
    have := (hx i0 j hi0 hj).1
    have e : crs (sb (Q j0) (P i0)) (sb (Q j) (P i0)) = crs (sb (Q j0) (P i0)) (sb (Q j) (Q j0)) := by unfold crs sb; grind
    rwa [e] at this
  have step : ∀ (v d e : Pt), 0 < dt N v → 0 ≤ crs d v → (crs d v = 0 → dt N d ≤ 0) → 0 ≤ crs e v → (crs e v = 0 → dt N e ≤ 0) → ¬ (e.1 = 0 ∧ e.2 = 0) → ¬ (d.1 = 0 ∧ d.2 = 0) → 0 ≤ crs e d →
      (∃ u, 0 ≤ crs v u ∧ 0 ≤ crs e u ∧ ¬ crs v u = 0) → 0 < crs d v ∧ ∀ u, 0 ≤ crs v u → 0 ≤ crs e u → 0 ≤ crs d u := by
    intro v d e hv h1 h2 h3 h4 he hd h5 hu
    rcases Rat.le_iff_lt_or_eq.1 h3 with h3 | h3
    · have hpos : 0 < crs d v := by
        rcases Rat.le_iff_lt_or_eq.1 h1 with h1 | h1
        · exact h1
        · exfalso
          have k := h2 h1.symm
          have e1 : crs e v * d.1 = crs e d * v.1 + crs d v * e.1 := by unfold crs; grind
          have e2 : crs e v * d.2 = crs e d * v.2 + crs d v * e.2 := by unfold crs; grind
          rw [← h1] at e1 e2
          have e3 : crs e v * dt N d = crs e d * dt N v := by unfold dt; grind
          have e4 : crs e d * dt N v ≤ 0 := by rw [← e3]; have := Rat.mul_nonneg (Rat.le_of_lt h3) (show 0 ≤ - dt N d by grind); grind
          have e5 : crs e d = 0 := by
            rcases Rat.le_iff_lt_or_eq.1 h5 with h5 | h5
            · have := Rat.mul_pos h5 hv; grind
            · exact h5.symm
          rw [e5] at e1 e2
          refine hd ⟨?_, ?_⟩
          · have : crs e v * d.1 = 0 := by rw [e1]; grind
            rcases Rat.mul_eq_zero.1 this with h | h
            · exact absurd h (Rat.ne_of_gt h3)
            · exact h
          · have : crs e v * d.2 = 0 := by rw [e2]; grind
            rcases Rat.mul_eq_zero.1 this with h | h
            · exact absurd h (Rat.ne_of_gt h3)
            · exact h
      refine ⟨hpos, fun u g1 g2 => ?_⟩
      have key : crs e v * crs d u = crs d v * crs e u + crs e d * crs v u := by unfold crs; grind
      refine ZcF h3 ?_
      rw [key]
      have := Rat.mul_nonneg h1 g2; have := Rat.mul_nonneg h5 g1; grind
    · exfalso
      have k := h4 h3.symm
      obtain ⟨u, g1, g2, g3⟩ := hu
      have key : dt N v * crs e u = dt N e * crs v u + dt N u * crs e v := by unfold dt crs; grind
      rw [← h3, Rat.mul_zero, Rat.add_zero] at key
      have hvu : 0 < crs v u := by rcases Rat.le_iff_lt_or_eq.1 g1 with h | h; exact h; exact absurd h.symm g3
      have hle : dt N e * crs v u ≤ 0 := by have := Rat.mul_nonneg (show 0 ≤ - dt N e by grind) g1; grind
      have h0 : dt N v * crs e u = 0 := by have := Rat.mul_nonneg (Rat.le_of_lt hv) g2; grind
      have h6 : dt N e * crs v u = 0 := by rw [← key]; exact h0
      have h7 : dt N e = 0 := by
        rcases Rat.mul_eq_zero.1 h6 with h | h
        · exact h
        · exact absurd h g3
      have a1 : dt N v * e.1 = dt N e * v.1 + N.2 * crs e v := by unfold dt crs; grind
      have a2 : dt N v * e.2 = dt N e * v.2 - N.1 * crs e v := by unfold dt crs; grind
      rw [h7, ← h3] at a1 a2
      refine he ⟨?_, ?_⟩
      · have : dt N v * e.1 = 0 := by rw [a1]; grind
        rcases Rat.mul_eq_zero.1 this with h | h
        · exact absurd h (Rat.ne_of_gt hv)
        · exact h
      · have : dt N v * e.2 = 0 := by rw [a2]; grind
        rcases Rat.mul_eq_zero.1 this with h | h
        · exact absurd h (Rat.ne_of_gt hv)
        · exact h
  have b1 : 0 ≤ crs (sb (Q j0) (Q (prev m j0))) (sb (Q j0) (P i0)) := by
    have := xB.1
    have e : crs (sb (Q j0) (P i0)) (sb (Q (prev m j0)) (P i0)) = crs (sb (Q j0) (Q (prev m j0))) (sb (Q j0) (P i0)) := by unfold crs sb; grind
    rwa [e] at this
  have b2 : crs (sb (Q j0) (Q (prev m j0))) (sb (Q j0) (P i0)) = 0 → dt N (sb (Q j0) (Q (prev m j0))) ≤ 0 := fun h => by
    have e : crs (sb (Q j0) (P i0)) (sb (Q (prev m j0)) (P i0)) = crs (sb (Q j0) (Q (prev m j0))) (sb (Q j0) (P i0)) := by unfold crs sb; grind
    have := xB.2 (by rw [e]; exact h)
    unfold dt sb at this ⊢; grind
  have a1 : 0 ≤ crs (sb (P (prev n i0)) (P i0)) (sb (Q j0) (P i0)) := by
    have := xA.1
    have e : crs (sb (Q j0) (P i0)) (sb (Q j0) (P (prev n i0))) = crs (sb (P (prev n i0)) (P i0)) (sb (Q j0) (P i0)) := by unfold crs sb; grind
    rwa [e] at this
  have a2 : crs (sb (P (prev n i0)) (P i0)) (sb (Q j0) (P i0)) = 0 → dt N (sb (P (prev n i0)) (P i0)) ≤ 0 := fun h => by
    have e : crs (sb (Q j0) (P i0)) (sb (Q j0) (P (prev n i0))) = crs (sb (P (prev n i0)) (P i0)) (sb (Q j0) (P i0)) := by unfold crs sb; grind
    have := xA.2 (by rw [e]; exact h)
    unfold dt sb at this ⊢; grind
  have neB : ¬ ((sb (Q j0) (Q (prev m j0))).1 = 0 ∧ (sb (Q j0) (Q (prev m j0))).2 = 0) := fun ⟨g1, g2⟩ => by
    have : ori (Q (prev m j0)) (Q j0) (Q ((j0 + 1) % m)) = 0 := by unfold ori; unfold sb at g1 g2; simp only at g1 g2; rw [g1, g2]; grind
    rw [this] at tQ; exact Rat.lt_irrefl tQ
  have neA : ¬ ((sb (P (prev n i0)) (P i0)).1 = 0 ∧ (sb (P (prev n i0)) (P i0)).2 = 0) := fun ⟨g1, g2⟩ => by
    have : ori (P (prev n i0)) (P i0) (P ((i0 + 1) % n)) = 0 := by
      have h1 : (P i0).1 - (P (prev n i0)).1 = 0 := by unfold sb at g1; simp only at g1; grind
      have h2 : (P i0).2 - (P (prev n i0)).2 = 0 := by unfold sb at g2; simp only at g2; grind
      unfold ori; rw [h1, h2]; grind
    rw [this] at tP; exact Rat.lt_irrefl tP
  have lQ : ∀ j, j < m → 0 ≤ crs (sb (Q j0) (Q (prev m j0))) (sb (Q j) (Q j0)) := fun j hj => by
    have := eQ j hj
    have e : ori (Q (prev m j0)) (Q j0) (Q j) = crs (sb (Q j0) (Q (prev m j0))) (sb (Q j) (Q j0)) := by unfold ori crs sb; grind
    rwa [e] at this
  have lP : ∀ i, i < n → 0 ≤ crs (sb (P (prev n i0)) (P i0)) (sb (P i0) (P i)) := fun i hi => by
    have := eP i hi
    have e : ori (P (prev n i0)) (P i0) (P i) = crs (sb (P (prev n i0)) (P i0)) (sb (P i0) (P i)) := by unfold ori crs sb; grind
    rwa [e] at this
  rcases Rat.le_total (a := 0) (b := crs (sb (P (prev n i0)) (P i0)) (sb (Q j0) (Q (prev m j0)))) with hc | hc
  · -- the edge of Q
    refine .inr ⟨prev m j0, ZaO ω j0, ?_⟩
    rw [Zbf hj0]
    obtain ⟨s1, s2⟩ := step (sb (Q j0) (P i0)) (sb (Q j0) (Q (prev m j0))) (sb (P (prev n i0)) (P i0)) hvN b1 b2 a1 a2 neA neB hc (by
      by_cases h1 : crs (sb (Q j0) (P i0)) (sb (P i0) (P (prev n i0))) = 0
      · refine ⟨sb (P i0) (P ((i0 + 1) % n)), xP _ (Nat.mod_lt _ ω), lP _ (Nat.mod_lt _ ω), fun h2 => ?_⟩
        have key : dt N (sb (Q j0) (P i0)) * crs (sb (P i0) (P (prev n i0))) (sb (P i0) (P ((i0 + 1) % n))) = dt N (sb (P i0) (P (prev n i0))) * crs (sb (Q j0) (P i0)) (sb (P i0) (P ((i0 + 1) % n))) - dt N (sb (P i0) (P ((i0 + 1) % n))) * crs (sb (Q j0) (P i0)) (sb (P i0) (P (prev n i0))) := by
          generalize sb (Q j0) (P i0) = v; generalize sb (P i0) (P (prev n i0)) = a; generalize sb (P i0) (P ((i0 + 1) % n)) = b
          unfold dt crs; grind
        rw [h1, h2] at key
        have e : ori (P (prev n i0)) (P i0) (P ((i0 + 1) % n)) = - crs (sb (P i0) (P (prev n i0))) (sb (P i0) (P ((i0 + 1) % n))) := by unfold ori crs sb; grind
        rw [e] at tP
        have h3 : dt N (sb (Q j0) (P i0)) * crs (sb (P i0) (P (prev n i0))) (sb (P i0) (P ((i0 + 1) % n))) = 0 := by rw [key]; grind
        rcases Rat.mul_eq_zero.1 h3 with h | h
        · exact absurd h (Rat.ne_of_gt hvN)
        · rw [h] at tP; exact absurd tP ωk
      · exact ⟨sb (P i0) (P (prev n i0)), xP _ (ZaO ω i0), lP _ (ZaO ω i0), h1⟩)
    intro i hi
    have h1 := s2 _ (xP i hi) (lP i hi)
    have e : ori (Q (prev m j0)) (Q j0) (P i) = - crs (sb (Q j0) (Q (prev m j0))) (sb (Q j0) (P i0)) - crs (sb (Q j0) (Q (prev m j0))) (sb (P i0) (P i)) := by unfold ori crs sb; grind
    rw [e]; grind
  · -- the edge of P
    refine .inl ⟨prev n i0, ZaO ω i0, ?_⟩
    rw [Zbf hi0]
    obtain ⟨s1, s2⟩ := step (sb (Q j0) (P i0)) (sb (P (prev n i0)) (P i0)) (sb (Q j0) (Q (prev m j0))) hvN a1 a2 b1 b2 neB neA (by rw [crs_anti]; grind) (by
      by_cases h1 : crs (sb (Q j0) (P i0)) (sb (Q (prev m j0)) (Q j0)) = 0
      · refine ⟨sb (Q ((j0 + 1) % m)) (Q j0), xQ _ (Nat.mod_lt _ ω), lQ _ (Nat.mod_lt _ ω), fun h2 => ?_⟩
        have key : dt N (sb (Q j0) (P i0)) * crs (sb (Q (prev m j0)) (Q j0)) (sb (Q ((j0 + 1) % m)) (Q j0)) = dt N (sb (Q (prev m j0)) (Q j0)) * crs (sb (Q j0) (P i0)) (sb (Q ((j0 + 1) % m)) (Q j0)) - dt N (sb (Q ((j0 + 1) % m)) (Q j0)) * crs (sb (Q j0) (P i0)) (sb (Q (prev m j0)) (Q j0)) := by
          generalize sb (Q j0) (P i0) = v; generalize sb (Q (prev m j0)) (Q j0) = a; generalize sb (Q ((j0 + 1) % m)) (Q j0) = b
          unfold dt crs; grind
        rw [h1, h2] at key
        have e : ori (Q (prev m j0)) (Q j0) (Q ((j0 + 1) % m)) = - crs (sb (Q (prev m j0)) (Q j0)) (sb (Q ((j0 + 1) % m)) (Q j0)) := by unfold ori crs sb; grind
        rw [e] at tQ
        have h3 : dt N (sb (Q j0) (P i0)) * crs (sb (Q (prev m j0)) (Q j0)) (sb (Q ((j0 + 1) % m)) (Q j0)) = 0 := by rw [key]; grind
        rcases Rat.mul_eq_zero.1 h3 with h | h
        · exact absurd h (Rat.ne_of_gt hvN)
        · rw [h] at tQ; exact absurd tQ ωk
      · exact ⟨sb (Q (prev m j0)) (Q j0), xQ _ (ZaO ω j0), lQ _ (ZaO ω j0), h1⟩)
    intro j hj
    have h1 := s2 _ (xQ j hj) (lQ j hj)
    have e : ori (P (prev n i0)) (P i0) (Q j) = - crs (sb (P (prev n i0)) (P i0)) (sb (Q j0) (P i0)) - crs (sb (P (prev n i0)) (P i0)) (sb (Q j) (Q j0)) := by unfold ori crs sb; grind
    rw [e]; grind
end
section
variable {P Q : Nat → Pt} {n m : Nat}
end
end Go.Proofs.YtpfhmelgcdgoeaaGreatDoor.poly
namespace Go.Proofs.YtpfhmelgcdgoeaaGreatDoor.eng
open Go.RowKit num mem seg q held ratA ratB ratC ratD ratE vars ratF trq
section
variable {x y z t u v : RV} {K : AV → Prop}
theorem ZlO (x y z t u v:RV)  (hx:x.z≤260000000) (hy:y.z≤260000000) (hz:z.z≤260000000) (ht:t.z≤260000000) (hu:u.z≤260000000) (hv:v.z≤260000000):Spec Tryz.prog Tab 146 [pair x y,pair z t,pair u v] (int (sgnQ ((z.q - x.q)*(v.q - y.q) - (t.q - y.q)*(u.q - x.q)))):=by
 refine Za Tryz.func146 rfl rfl Tryz.ntmps146 rfl ωr rfl rfl ?_
 refine Zen (x:=z) (y:=t) (z:=x) (t:=y) ω ω ω ω (fun p9 q9 hk_9_2 hk_9_3 hk_9_4 hk_9_5=> ?_)
 simp only [cn_z] at hk_9_4
 simp only [cn_z] at hk_9_5
 refine Zen (x:=u) (y:=v) (z:=x) (t:=y) ω ω ω ω (fun p12 q12 hk_12_2 hk_12_3 hk_12_4 hk_12_5=> ?_)
 simp only [cn_z] at hk_12_4
 simp only [cn_z] at hk_12_5
 refine Zkp (x:=cn p9) (y:=cn q9) (z:=cn p12) (t:=cn q12) ωz ωz ωz ωz (fun q13 hk_13_1 hk_13_2=> ?_)
 try simp only [cn_q] at hk_13_1
 simp only [cn_z] at hk_13_2
 refine ZaF (x:=cn q13) ωz fun n14 h14=> ?_
 simp only [cn_q] at h14
 refine⟨ωr,?_⟩
 refine Eq.trans (b:=int n14) ?_ rfl
 subst_vars;rfl
theorem ZtR (hx:x.z≤260000000) (hy:y.z≤260000000) (hz:z.z≤260000000) (ht:t.z≤260000000) (hu:u.z≤260000000) (hv:v.z≤260000000) (k:∀ n,n=sgnQ ((z.q - x.q)*(v.q - y.q) - (t.q - y.q)*(u.q - x.q))→K (int n)):Ask 146 [pair x y,pair z t,pair u v] K:=
 use (ZlO x y z t u v  hx hy hz ht hu hv) rfl (k _ rfl)
theorem Zjb (l : List (RV × RV)) (m : Int) (hl : ∀ p, p ∈ l → p.1.z ≤ 260000000 ∧ p.2.z ≤ 260000000) (hn : l.length ≤ 1073741824) : Spec Tryz.prog Tab 116 [Xl rdv l, int m] (int (convE m l)) := by
  have hL : (map rdv l).length = l.length := length_map ..
  refine Za Tryz.func116 rfl rfl Tryz.ntmps116 rfl ωr rfl rfl ?_
  refine ⟨fun e1 => ?_, fun e1 => ?_⟩
  · have f11 : ((map rdv l).length : Int) > m := of_decide_eq_true e1
    refine Eq.trans (b := int 2) ?_ rfl
    rw [ZpB ω]
  · have f11 : ¬ (((map rdv l).length : Int) > m) := of_decide_eq_false e1
    refine ⟨fun e2 => ?_, fun e2 => ?_⟩
    · have f15 : ((map rdv l).length : Int) < 3 := of_decide_eq_true e2
      refine Eq.trans (b := int 3) ?_ rfl
      rw [ZpA ω ω]
    · have f15 : ¬ (((map rdv l).length : Int) < 3) := of_decide_eq_false e2
      refine ⟨Nat, fun i => [(0, (Xl rdv l)), (5, int ((map rdv l).length : Int)), (18, (Xl rdv l)), (19, int ((map rdv l).length : Int)), (20, int (i : Int))],
        fun i => [], fun i => i ≤ l.length ∧ ∀ i' k, i' < i → 2 ≤ k → k < l.length → 0 < poly.ori (pts l i') (pts l ((i' + 1) % l.length)) (pts l ((i' + k) % l.length)), fun i => l.length - i, 0, ?_, ⟨Nat.zero_le _, fun i' k h => absurd h (Nat.not_lt_zero _)⟩, fun i hs => ?_⟩
      · constructor <;> (repeat' (first | exact rfl | exact True.intro | exact ⟨_, _, rfl⟩ | exact ωd | apply And.intro))
        all_goals first | exact congrArg (fun n : Int => D.v (.int .i64 n)) ω | exact congrArg (fun n : Int => D.v (.int .i64 n)) ωw | (simp; done)
      obtain ⟨hi, hall⟩ := hs
      refine ⟨fun e3 => ?_, fun e3 => ?_⟩
      · have f21 : (i : Int) < ((map rdv l).length : Int) := of_decide_eq_true e3
        obtain ⟨x23, hx23⟩ : ∃ vv, l[i]? = some vv := ⟨_, getElem?_eq_getElem ωm⟩
        have hzx23 := hl x23 (mem_of_getElem? hx23)
        have hpx23 := Zaj hx23
        refine k_ix i [Yb x23.1,Ys x23.1,Yt x23.1,Yb x23.2,Ys x23.2,Yt x23.2] ωh (Zc hx23) rfl ?_
        refine ⟨Nat, fun k => [(0, (Xl rdv l)), (5, int ((map rdv l).length : Int)), (6, int (i : Int)), (7, .val (.one (.ptr 7 0))), (8, int (k : Int)), (18, (Xl rdv l)), (19, int ((map rdv l).length : Int)), (20, int (i : Int))],
          fun k => [(7, .var 27 [Xb x23.1,Xs x23.1,Xt x23.1,Xb x23.2,Xs x23.2,Xt x23.2])], fun k => 2 ≤ k ∧ ∀ k', 2 ≤ k' → k' < k → k' < l.length → 0 < poly.ori (pts l i) (pts l ((i + 1) % l.length)) (pts l ((i + k') % l.length)), fun k => l.length - k, 2, ?_, ⟨Nat.le_refl _, fun k' h1 h2 => ω⟩, fun k hs => ?_⟩
        · constructor <;> (repeat' (first | exact rfl | exact True.intro | exact ⟨_, _, rfl⟩ | exact ωd | apply And.intro))
          all_goals first | exact congrArg (fun n : Int => D.v (.int .i64 n)) ω | exact congrArg (fun n : Int => D.v (.int .i64 n)) ωw | (simp; done)
        obtain ⟨hk, hin0⟩ := hs
        refine ⟨fun e4 => ?_, fun e4 => ?_⟩
        · have f27 : (k : Int) < ((map rdv l).length : Int) := of_decide_eq_true e4
          refine Zfl (i + 1) l.length ωh ωh ω ?_
          obtain ⟨x36, hx36⟩ : ∃ vv, l[((i + 1) % l.length)]? = some vv := ⟨_, getElem?_eq_getElem ωm⟩
          have hzx36 := hl x36 (mem_of_getElem? hx36)
          have hpx36 := Zaj hx36
          refine k_ix ((i + 1) % l.length) [Yb x36.1,Ys x36.1,Yt x36.1,Yb x36.2,Ys x36.2,Yt x36.2] ωh (Zc hx36) rfl ?_
          refine Zfl (i + k) l.length ωh ωh ω ?_
          obtain ⟨x44, hx44⟩ : ∃ vv, l[((i + k) % l.length)]? = some vv := ⟨_, getElem?_eq_getElem ωm⟩
          have hzx44 := hl x44 (mem_of_getElem? hx44)
          have hpx44 := Zaj hx44
          refine k_ix ((i + k) % l.length) [Yb x44.1,Ys x44.1,Yt x44.1,Yb x44.2,Ys x44.2,Yt x44.2] ωh (Zc hx44) rfl ?_
          refine ZtR (x := x23.1) (y := x23.2) (z := x36.1) (t := x36.2) (u := x44.1) (v := x44.2) ω ω ω ω ω ω (fun n46 hk_46_1 => ?_)
          refine ⟨ωr, ?_⟩
          refine ⟨fun e5 => ?_, fun e5 => ?_⟩
          · have f47 : (x36.1.q - x23.1.q) * (x44.2.q - x23.2.q) - (x36.2.q - x23.2.q) * (x44.1.q - x23.1.q) ≤ 0 := (Zbx hk_46_1).1 (of_decide_eq_true e5)
            refine Eq.trans (b := int 3) ?_ rfl
            rw [Zpz ω ω (fun hE => by have := hE i k ω hk ω; rw [hpx23, hpx36, hpx44] at this; exact absurd f47 (Rat.not_le.2 this))]
          · have f47 : ¬ ((x36.1.q - x23.1.q) * (x44.2.q - x23.2.q) - (x36.2.q - x23.2.q) * (x44.1.q - x23.1.q) ≤ 0) := fun hh => of_decide_eq_false e5 ((Zbx hk_46_1).2 hh)
            have hpos : 0 < poly.ori (pts l i) (pts l ((i + 1) % l.length)) (pts l ((i + k) % l.length)) := by rw [hpx23, hpx36, hpx44]; exact Rat.not_le.1 f47
            refine ⟨k + 1, ⟨ω, fun k' h1 h2 h3 => by
                      by_cases e : k' = k
                      · subst e; exact hpos
                      · exact hin0 k' h1 ω h3⟩, by simp only; omega, ?_⟩
            constructor <;> (repeat' (first | exact rfl | exact True.intro | apply And.intro))
            all_goals first
              | exact congrArg (fun n : Int => D.v (.int .i64 n)) ωw
              | exact congrArg (fun n : Int => D.v (.int .i64 n)) ω
        · have f27 : ¬ ((k : Int) < ((map rdv l).length : Int)) := of_decide_eq_false e4
          have hin : ∀ k', 2 ≤ k' → k' < l.length → 0 < poly.ori (pts l i) (pts l ((i + 1) % l.length)) (pts l ((i + k') % l.length)) := fun k' h1 h2 => hin0 k' h1 ω h2
          refine ⟨i + 1, ⟨ω, fun i' k h1 h2 h3 => by
                by_cases e : i' = i
                · subst e; exact hin k h2 h3
                · exact hall i' k ω h2 h3⟩, by simp only; omega, ?_⟩
          constructor <;> (repeat' (first | exact rfl | exact True.intro | apply And.intro))
          all_goals first
            | exact congrArg (fun n : Int => D.v (.int .i64 n)) ωw
            | exact congrArg (fun n : Int => D.v (.int .i64 n)) ω
      · have f21 : ¬ ((i : Int) < ((map rdv l).length : Int)) := of_decide_eq_false e3
        refine Eq.trans (b := int 0) ?_ rfl
        rw [ZpC ω ω (fun i' k h1 h2 h3 => hall i' k ω h2 h3)]
theorem ZhX (l:List (RV×RV)) (hl:∀ p,p∈l→p.1.z≤260000000∧p.2.z≤260000000) (hn:l.length≤1073741824):Spec Tryz.prog Tab 154 [Xl rdv l] (int (convE 64 l)):=by
 refine Za Tryz.func154 rfl rfl Tryz.ntmps154 rfl ωr rfl rfl ?_
 refine use (Zjb l (64) hl hn) rfl ?_
 refine Eq.trans (b:=int (convE 64 l)) ?_ rfl
 subst_vars;rfl
theorem Zhw {l:List (RV×RV)} (hl:∀ p,p∈l→p.1.z≤260000000∧p.2.z≤260000000) (hn:l.length≤1073741824) (k:∀ n,n=convE 64 l→K (int n)):Ask 154 [vecs l] K:=use (ZhX l hl hn) rfl (k _ rfl)
theorem Zsa {l:List (RV×RV)} (hl:∀ p,p∈l→p.1.z≤260000000∧p.2.z≤260000000) (i:Nat):qs (pts l i).1≤260000001∧qs (pts l i).2≤260000001:=by
 unfold pts
 cases h:l[i]? with
 |none=>simp only [Option.getD_none,z0q];exact⟨by decide+kernel,by decide+kernel⟩
 |some p=>
  simp only [Option.getD_some]
  have:=hl p (mem_of_getElem? h)
  have a:=p.1.z1;have b:=p.2.z1
  omega
theorem ZlF (p0:RV×RV) (l:List (RV×RV)) (hl:∀ p,p∈p0 :: l→p.1.z≤260000000∧p.2.z≤260000000) (hn:(p0 :: l).length≤1073741824):Spec Tryz.prog Tab 95 [Xl rdv (p0 :: l)] (box (cn (lowL p0.1.q (xsQ l))) (cn (lowL p0.2.q (ysQ l))) (cn (highL p0.1.q (xsQ l))) (cn (highL p0.2.q (ysQ l)))):=by
 have hL:(map rdv l).length=l.length:=length_map ..
 have hL0:(map rdv (p0 :: l)).length=l.length+1:=by simp
 have hn0:(p0 :: l).length=l.length+1:=rfl
 have hp00:=hl p0 (by simp)
 refine Za Tryz.func95 rfl rfl Tryz.ntmps95 rfl ωr rfl rfl ?_
 refine Zkq (x:=z0) (y:=z0) (z:=z0) (t:=z0) (by simp only [z0z];omega) (by simp only [z0z];omega) (by simp only [z0z];omega) (by simp only [z0z];omega) (fun p10 q10 hk_10_2 hk_10_3 hk_10_4 hk_10_5=> ?_)
 simp only [cn_z,z0z] at hk_10_4
 simp only [cn_z,z0z] at hk_10_5
 refine⟨fun e1=> ?_,fun e1=> ?_⟩
 ·have f13:((map rdv (p0 :: l)).length:Int)=0:=ZB e1
  exfalso
  omega
 ·have f13:¬ (((map rdv (p0 :: l)).length:Int)=0):=ZC e1
  refine k_ix 0 [Yb p0.1,Ys p0.1,Yt p0.1,Yb p0.2,Ys p0.2,Yt p0.2] ωh (Zc rfl) rfl ?_
  refine Zkq (x:=p0.1) (y:=p0.2) (z:=cn p10) (t:=cn q10) ω ω ωz ωz (fun p21 q21 hk_21_2 hk_21_3 hk_21_4 hk_21_5=> ?_)
  try simp only [cn_q] at hk_21_2
  try simp only [cn_q] at hk_21_3
  simp only [cn_z] at hk_21_4
  simp only [cn_z] at hk_21_5
  refine⟨ωr,?_⟩
  refine ZoR 1 (map rdv l) (by first|omega|(simp;omega)|simp) ωh (Zgg fun _=>rfl) (rfl) ?_
  have hz0:p10=0∧q10=0:=by rw [hk_10_2,hk_10_3,z0q,Rat.add_zero];exact⟨rfl,rfl⟩
  obtain rfl:p21=p0.1.q:=by rw [hk_21_2,hz0.1,Rat.add_zero]
  obtain rfl:q21=p0.2.q:=by rw [hk_21_3,hz0.2,Rat.add_zero]
  refine⟨Nat,fun i=> [(2,.val (.one (.ptr 2 0))),(5,.val (.one (.ptr 5 0))),(26,Xl rdv l),(27,int ((map rdv l).length:Int)),(28,int (i:Int))],
   fun i=> [(2,.var 115 [Xb z0,Xs z0,Xt z0,Xb z0,Xs z0,Xt z0,Xb z0,Xs z0,Xt z0,Xb z0,Xs z0,Xt z0]),(5,.var 115 [Xb (cn (lowL p0.1.q (xsQ (l.take i)))),Xs (cn (lowL p0.1.q (xsQ (l.take i)))),Xt (cn (lowL p0.1.q (xsQ (l.take i)))),Xb (cn (lowL p0.2.q (ysQ (l.take i)))),Xs (cn (lowL p0.2.q (ysQ (l.take i)))),Xt (cn (lowL p0.2.q (ysQ (l.take i)))),Xb (cn (highL p0.1.q (xsQ (l.take i)))),Xs (cn (highL p0.1.q (xsQ (l.take i)))),Xt (cn (highL p0.1.q (xsQ (l.take i)))),Xb (cn (highL p0.2.q (ysQ (l.take i)))),Xs (cn (highL p0.2.q (ysQ (l.take i)))),Xt (cn (highL p0.2.q (ysQ (l.take i))))])],fun i=>i≤l.length,fun i=>l.length - i,0,?_,Nat.zero_le _,fun i hs=> ?_⟩
  ·exact ωe
  have hz2:=xs_z (B:=260000000) (l:=l) (fun p hp=>hl p (by simp [hp])) i
  have hp0:=hl p0 (by simp)
  have z1:=p0.1.z1
  have z2:=p0.2.z1
  have b1:=ZnJ (B:=260000001) (q:=p0.1.q) ω hz2.1
  have b2:=ZnJ (B:=260000001) (q:=p0.2.q) ω hz2.2
  have b3:=ZjW (B:=260000001) (q:=p0.1.q) ω hz2.1
  have b4:=ZjW (B:=260000001) (q:=p0.2.q) ω hz2.2
  refine⟨fun e2=> ?_,fun e2=> ?_⟩
  ·have f29:(i:Int)< ((map rdv l).length:Int):=of_decide_eq_true e2
   obtain⟨x30,hx30⟩:∃ vv,l[i]? =some vv:=⟨_,getElem?_eq_getElem ωm⟩
   have hzx30:=hl x30 (List.mem_cons_of_mem _ (mem_of_getElem? hx30))
   refine k_ix i [Yb x30.1,Ys x30.1,Yt x30.1,Yb x30.2,Ys x30.2,Yt x30.2] ωh (Zc hx30) rfl ?_
   refine Zht (x:=cn (lowL p0.1.q (xsQ (l.take i)))) (y:=x30.1) ωz ω fun q37 h37 z37=> ?_
   simp only [cn_z] at z37
   simp only [cn_q] at h37
   refine Zht (x:=cn (lowL p0.2.q (ysQ (l.take i)))) (y:=x30.2) ωz ω fun q43 h43 z43=> ?_
   simp only [cn_z] at z43
   simp only [cn_q] at h43
   refine⟨ωr,?_⟩
   refine Zhu (x:=cn (highL p0.1.q (xsQ (l.take i)))) (y:=x30.1) ωz ω fun q51 h51 z51=> ?_
   simp only [cn_z] at z51
   simp only [cn_q] at h51
   refine Zhu (x:=cn (highL p0.2.q (ysQ (l.take i)))) (y:=x30.2) ωz ω fun q57 h57 z57=> ?_
   simp only [cn_z] at z57
   simp only [cn_q] at h57
   refine⟨ωr,?_⟩
   have hxs:=ZsT hx30
   obtain rfl:q37=lowL p0.1.q (xsQ (l.take (i+1))):=by rw [h37,hxs.1,Zhm]
   obtain rfl:q43=lowL p0.2.q (ysQ (l.take (i+1))):=by rw [h43,hxs.2,Zhm]
   obtain rfl:q51=highL p0.1.q (xsQ (l.take (i+1))):=by rw [h51,hxs.1,Zfq]
   obtain rfl:q57=highL p0.2.q (ysQ (l.take (i+1))):=by rw [h57,hxs.2,Zfq]
   refine⟨i+1,ω,by simp only;omega,?_⟩
   constructor<;>(repeat' (first|exact rfl|exact True.intro|apply And.intro))
   all_goals first
    |exact ωb
    |exact ωa
  ·have f29:¬ ((i:Int)< ((map rdv l).length:Int)):=of_decide_eq_false e2
   refine Eq.trans (b:=box (cn (lowL p0.1.q (xsQ (l.take i)))) (cn (lowL p0.2.q (ysQ (l.take i)))) (cn (highL p0.1.q (xsQ (l.take i)))) (cn (highL p0.2.q (ysQ (l.take i))))) ?_ rfl
   rw [List.take_of_length_le (show l.length≤i by omega)]
theorem ZtM {p0:RV×RV} {l:List (RV×RV)} (hl:∀ p,p∈p0 :: l→p.1.z≤260000000∧p.2.z≤260000000) (hn:(p0 :: l).length≤1073741824) (k:∀ p q r u,p=lowL p0.1.q (xsQ l)→q=lowL p0.2.q (ysQ l)→r=highL p0.1.q (xsQ l)→u=highL p0.2.q (ysQ l)→K (box (cn p) (cn q) (cn r) (cn u))):Ask 95 [vecs (p0 :: l)] K:=use (ZlF p0 l hl hn) rfl (k _ _ _ _ rfl rfl rfl rfl)
theorem Zre {l:List (RV×RV)} (hl:∀ p,p∈l→p.1.z≤260000000∧p.2.z≤260000000) (hn:l.length≤1073741824) (k:∀ p q r u,p=bx1 l→q=bx2 l→r=bx3 l→u=bx4 l→K (box (cn p) (cn q) (cn r) (cn u))):Ask 95 [vecs l] K:=by
 cases l with
 |nil=>exact ZtN rfl (k _ _ _ _ rfl rfl rfl rfl)
 |cons p l=>exact ZtM hl hn k
theorem ZsR {a b:List (RV×RV)} (ha:∀ p,p∈a→p.1.z≤260000000∧p.2.z≤260000000):(beyV a b).1.z≤520000010∧(beyV a b).2.z≤520000010:=by
 unfold beyV
 split
 ·rename_i i _
  have h1:=Zsa ha i;have h2:=Zsa ha ((i+1) % a.length)
  have:=Zai (pts a ((i+1) % a.length)).2 (pts a i).2;have:=Zai (pts a ((i+1) % a.length)).1 (pts a i).1;have:=Zb6 ((pts a ((i+1) % a.length)).1 - (pts a i).1)
  simp only [cn_z,outN];omega
 ·exact⟨Nat.zero_le _,Nat.zero_le _⟩
theorem Zmg (a b:List (RV×RV)) (ha:∀ p,p∈a→p.1.z≤260000000∧p.2.z≤260000000) (hb:∀ p,p∈b→p.1.z≤260000000∧p.2.z≤260000000) (hna:a.length≤1073741824) (hnb:b.length≤1073741824):Spec Tryz.prog Tab 126 [Xl rdv a,Xl rdv b] (int (bothE a b)):=by
 refine Za Tryz.func126 rfl rfl Tryz.ntmps126 rfl ωr rfl rfl ?_
 refine Zhw (l:=a) ωs ω (fun n7 hk_7_1=> ?_)
 refine⟨fun e1=> ?_,fun e1=> ?_⟩
 ·have f9:n7≠0:=ZU e1
  refine Eq.trans (b:=int n7) ?_ rfl
  rw [bothE,if_neg ω];exact congrArg int ω
 ·have f9:¬ (n7≠0):=fun hh=>hh (ZV e1)
  refine Zhw (l:=b) ωs ω (fun n12 hk_12_1=> ?_)
  refine Eq.trans (b:=int n12) ?_ rfl
  rw [bothE,if_pos ω];exact congrArg int ω
theorem ZtZ {a b:List (RV×RV)} (ha:∀ p,p∈a→p.1.z≤260000000∧p.2.z≤260000000) (hb:∀ p,p∈b→p.1.z≤260000000∧p.2.z≤260000000) (hna:a.length≤1073741824) (hnb:b.length≤1073741824) (k:∀ n,n=bothE a b→K (int n)):Ask 126 [vecs a,vecs b] K:=use (Zmg a b ha hb hna hnb) rfl (k _ rfl)
theorem ZhQ (a b:List (RV×RV)) (ha:∀ p,p∈a→p.1.z≤260000000∧p.2.z≤260000000) (hb:∀ p,p∈b→p.1.z≤260000000∧p.2.z≤260000000) (hna:a.length≤1073741824) (hnb:b.length≤1073741824):Spec Tryz.prog Tab 127 [Xl rdv a,Xl rdv b] (.tup [.agg [Xb ((beyV a b).1),Xs ((beyV a b).1),Xt ((beyV a b).1),Xb ((beyV a b).2),Xs ((beyV a b).2),Xt ((beyV a b).2)],.one (.d (.v (.bool ((bey a b).isSome))))]):=by
 have hLa:(map rdv a).length=a.length:=length_map ..
 have hLb:(map rdv b).length=b.length:=length_map ..
 refine Za Tryz.func127 rfl rfl Tryz.ntmps127 rfl ωr rfl rfl ?_
 refine⟨Nat,fun i=> [(0,Xl rdv a),(1,Xl rdv b),(4,.val (.one (.ptr 4 0))),(13,Xl rdv a),(14,int ((map rdv a).length:Int)),(15,int (i:Int))],
  fun i=> [(4,.var 27 [Xb z0,Xs z0,Xt z0,Xb z0,Xs z0,Xt z0])],fun i=>i≤a.length∧∀ i',i'< i→farTo (pts a) a.length (pts b) i' b.length=false,fun i=>a.length - i,0,?_,⟨Nat.zero_le _,fun i' h=>absurd h (Nat.not_lt_zero _)⟩,fun i hs=> ?_⟩
 ·exact ωe
 obtain⟨hi,h1⟩:=hs
 refine⟨fun e1=> ?_,fun e1=> ?_⟩
 ·have f16:(i:Int)< ((map rdv a).length:Int):=of_decide_eq_true e1
  obtain⟨x18,hx18⟩:∃ vv,a[i]? =some vv:=⟨_,getElem?_eq_getElem ωm⟩
  have hzx18:=ha x18 (mem_of_getElem? hx18)
  have hpx18:=Zaj hx18
  refine k_ix i [Yb x18.1,Ys x18.1,Yt x18.1,Yb x18.2,Ys x18.2,Yt x18.2] ωh (Zc hx18) rfl ?_
  refine Zfl (i+1) a.length ωh ωh ω ?_
  obtain⟨x26,hx26⟩:∃ vv,a[((i+1) % a.length)]? =some vv:=⟨_,getElem?_eq_getElem ωm⟩
  have hzx26:=ha x26 (mem_of_getElem? hx26)
  have hpx26:=Zaj hx26
  refine k_ix ((i+1) % a.length) [Yb x26.1,Ys x26.1,Yt x26.1,Yb x26.2,Ys x26.2,Yt x26.2] ωh (Zc hx26) rfl ?_
  refine Zen (x:=x26.1) (y:=x26.2) (z:=x18.1) (t:=x18.2) ω ω ω ω (fun p29 q29 hk_29_2 hk_29_3 hk_29_4 hk_29_5=> ?_)
  simp only [cn_z] at hk_29_4
  simp only [cn_z] at hk_29_5
  refine⟨ωr,?_⟩
  refine Zeo (x:=cn p29) ωz fun q34 h34 z34=> ?_
  simp only [cn_z] at z34
  simp only [cn_q] at h34
  refine⟨ωr,?_⟩
  refine⟨Nat,fun k=> [(0,Xl rdv a),(1,Xl rdv b),(4,.val (.one (.ptr 4 0))),(7,.val (.one (.ptr 7 0))),(9,.val (.one (.ptr 9 0))),(10,bool (farTo (pts a) a.length (pts b) i k)),(13,Xl rdv a),(14,int ((map rdv a).length:Int)),(15,int (i:Int)),(36,Xl rdv b),(37,int ((map rdv b).length:Int)),(38,int (k:Int))],
   fun k=> [(4,.var 27 [Xb z0,Xs z0,Xt z0,Xb z0,Xs z0,Xt z0]),(7,.var 27 [Xb x18.1,Xs x18.1,Xt x18.1,Xb x18.2,Xs x18.2,Xt x18.2]),(9,.var 27 [Xb (cn q29),Xs (cn q29),Xt (cn q29),Xb (cn q34),Xs (cn q34),Xt (cn q34)])],fun k=>k≤b.length,fun k=>b.length - k,0,?_,Nat.zero_le _,fun k hs=> ?_⟩
  ·exact ωe
  refine⟨fun e2=> ?_,fun e2=> ?_⟩
  ·have f39:(k:Int)< ((map rdv b).length:Int):=of_decide_eq_true e2
   obtain⟨x40,hx40⟩:∃ vv,b[k]? =some vv:=⟨_,getElem?_eq_getElem ωm⟩
   have hzx40:=hb x40 (mem_of_getElem? hx40)
   have hpx40:=Zaj hx40
   refine k_ix k [Yb x40.1,Ys x40.1,Yt x40.1,Yb x40.2,Ys x40.2,Yt x40.2] ωh (Zc hx40) rfl ?_
   refine fork (fun e3=> ?_) (fun e3=> ?_)
   ·have f43:farTo (pts a) a.length (pts b) i k=true:=e3
    refine Zen (x:=x40.1) (y:=x40.2) (z:=x18.1) (t:=x18.2) ω ω ω ω (fun p47 q47 hk_47_2 hk_47_3 hk_47_4 hk_47_5=> ?_)
    simp only [cn_z] at hk_47_4
    simp only [cn_z] at hk_47_5
    refine Zsp (x:=cn q29) (y:=cn q34) (z:=cn p47) (t:=cn q47) ωz ωz ωz ωz (fun q48 hk_48_1 hk_48_2=> ?_)
    try simp only [cn_q] at hk_48_1
    simp only [cn_z] at hk_48_2
    refine ZaF (x:=cn q48) ωz fun n49 h49=> ?_
    simp only [cn_q] at h49
    refine⟨ωr,?_⟩
    have hfar:farTo (pts a) a.length (pts b) i (k+1)=(decide (n49 >0)):=by
     rw [Zfw,f43]
     rw [Bool.true_and];refine decide_eq_decide.2 ((Zr4 h49).trans ?_).symm;rw [hk_48_1,hk_47_2,hk_47_3,h34];unfold outN;rw [hpx18,hpx26,hpx40,hk_29_2,hk_29_3]
    refine⟨k+1,ω,by simp only;omega,?_⟩
    constructor<;>(repeat' (first|exact rfl|exact True.intro|apply And.intro))
    all_goals first
     |exact congrArg (fun b=>D.v (.bool b)) hfar
     |exact ωb
     |exact ωa
   ·have f43:¬ (farTo (pts a) a.length (pts b) i k=true):=fun hh=>by rw [hh] at e3;exact Bool.noConfusion e3
    refine⟨ωr,?_⟩
    have hfar:farTo (pts a) a.length (pts b) i (k+1)=false:=by rw [Zfw,Bool.eq_false_iff.2 f43];rfl
    refine⟨k+1,ω,by simp only;omega,?_⟩
    constructor<;>(repeat' (first|exact rfl|exact True.intro|apply And.intro))
    all_goals first
     |exact congrArg (fun b=>D.v (.bool b)) hfar
     |exact ωb
     |exact ωa
  ·have f39:¬ ((k:Int)< ((map rdv b).length:Int)):=of_decide_eq_false e2
   have hk2:b.length=k:=ω
   refine⟨fun e4=> ?_,fun e4=> ?_⟩
   ·have f53:farTo (pts a) a.length (pts b) i k=true:=e4
    refine Eq.trans (b:= .tup [.agg [Xb (cn q29),Xs (cn q29),Xt (cn q29),Xb (cn q34),Xs (cn q34),Xt (cn q34)],.one (.d (.v (.bool (true))))]) ?_ rfl
    have he:bey a b=some i:=Zl6 ω h1 (by rw [hk2];exact f53)
    have hv:beyV a b=(cn q29,cn q34):=by
     simp only [beyV,he];unfold outN;rw [hpx18,hpx26,h34];subst_vars;rfl
    rw [he,hv];rfl
   ·have f53:¬ (farTo (pts a) a.length (pts b) i k=true):=fun hh=>by rw [hh] at e4;exact Bool.noConfusion e4
    have hno:farTo (pts a) a.length (pts b) i b.length=false:=by rw [hk2];exact Bool.eq_false_iff.2 f53
    refine⟨i+1,⟨ω,fun i' g=>by
     by_cases e:i'=i
     ·subst e;exact hno
     ·exact h1 i' ω⟩,by simp only;omega,?_⟩
    constructor<;>(repeat' (first|exact rfl|exact True.intro|apply And.intro))
    all_goals first
     |exact ωb
     |exact ωa
 ·have f16:¬ ((i:Int)< ((map rdv a).length:Int)):=of_decide_eq_false e1
  refine Eq.trans (b:= .tup [.agg [Xb z0,Xs z0,Xt z0,Xb z0,Xs z0,Xt z0],.one (.d (.v (.bool (false))))]) ?_ rfl
  have he:bey a b=none:=Zpe fun j hj=>h1 j ω
  have hv:beyV a b=(z0,z0):=by simp only [beyV,he]
  rw [he,hv];rfl
theorem ZsC {a b:List (RV×RV)} (ha:∀ p,p∈a→p.1.z≤260000000∧p.2.z≤260000000) (hb:∀ p,p∈b→p.1.z≤260000000∧p.2.z≤260000000) (hna:a.length≤1073741824) (hnb:b.length≤1073741824) (k:(beyV a b).1.z≤520000010→(beyV a b).2.z≤520000010→K (two (pair (beyV a b).1 (beyV a b).2) (bool (bey a b).isSome))):Ask 127 [vecs a,vecs b] K:=use (ZhQ a b ha hb hna hnb) rfl (k (ZsR ha).1 (ZsR ha).2)
theorem ZlJ (a b:List (RV×RV)) (ha:∀ p,p∈a→p.1.z≤260000000∧p.2.z≤260000000) (hb:∀ p,p∈b→p.1.z≤260000000∧p.2.z≤260000000) (hna:a.length≤1073741824) (hnb:b.length≤1073741824):Spec Tryz.prog Tab 96 [Xl rdv a,Xl rdv b] (.tup [.one (.d (.v (.bool (meetB a b)))),.one (.d (.v (.int .i64 (bothE a b))))]):=by
 have hLa:(map rdv a).length=a.length:=length_map ..
 have hLb:(map rdv b).length=b.length:=length_map ..
 refine Za Tryz.func96 rfl rfl Tryz.ntmps96 rfl ωr rfl rfl ?_
 refine ZtZ (a:=a) (b:=b) ωs ωs ω ω (fun n13 hk_13_1=> ?_)
 refine⟨fun e1=> ?_,fun e1=> ?_⟩
 ·have f15:n13≠0:=ZU e1
  refine Eq.trans (b:= .tup [.one (.d (.v (.bool (false)))),.one (.d (.v (.int .i64 (n13))))]) ?_ rfl
  subst hk_13_1
  rw [show meetB a b=false from by unfold meetB;rw [beq_false_of_ne f15];rfl]
 ·have f15:¬ (n13≠0):=fun hh=>hh (ZV e1)
  refine ZsC (a:=a) (b:=b) ωs ωs ω ω (fun hk_20_0 hk_20_1=> ?_)
  refine ZsC (a:=b) (b:=a) ωs ωs ω ω (fun hk_26_0 hk_26_1=> ?_)
  refine fork (fun e2=> ?_) (fun e2=> ?_)
  ·refine Eq.trans (b:= .tup [.one (.d (.v (.bool (!((bey b a).isSome))))),.one (.d (.v (.int .i64 (0))))]) ?_ rfl
   have hb0:bothE a b=0:=ω
   have hm:meetB a b=(!((bey b a).isSome)):=by
    unfold meetB;rw [hb0];revert e2;cases bey a b<;>cases bey b a<;>intro e2<;>first|rfl|(simp at e2)
   rw [hm,hb0]
  ·refine Eq.trans (b:= .tup [.one (.d (.v (.bool (false)))),.one (.d (.v (.int .i64 (0))))]) ?_ rfl
   have hb0:bothE a b=0:=ω
   have hm:meetB a b=(false):=by
    unfold meetB;rw [hb0];revert e2;cases bey a b<;>cases bey b a<;>intro e2<;>first|rfl|(simp at e2)
   rw [hm,hb0]
theorem ZtQ {a b:List (RV×RV)} (ha:∀ p,p∈a→p.1.z≤260000000∧p.2.z≤260000000) (hb:∀ p,p∈b→p.1.z≤260000000∧p.2.z≤260000000) (hna:a.length≤1073741824) (hnb:b.length≤1073741824) (k:∀ n,n=bothE a b→K (two (bool (meetB a b)) (int n))):Ask 96 [vecs a,vecs b] K:=use (ZlJ a b ha hb hna hnb) rfl (k _ rfl)
theorem ZdT (x y z t:RV) (hx:x.z≤260000000) (hy:y.z≤260000000) (hz:z.z≤260000000) (ht:t.z≤260000000) (b:Bool) (hb:b=true↔bxOk x y z t):Spec Tryz.prog Tab 125 [box x y z t] (bool b):=by
 refine Za Tryz.func125 rfl rfl Tryz.ntmps125 rfl ωr rfl rfl ?_
 refine Za9 (x:=x) (y:=z) ω ω fun n9 h9=> ?_
 refine fork (fun e1=> ?_) (fun e1=> ?_)
 ·have f11:x.q≤z.q:=(Zcm h9).1 (of_decide_eq_true e1)
  refine Za9 (x:=y) (y:=t) ω ω fun n18 h18=> ?_
  refine Eq.trans (b:=bool (decide (n18≤0))) ?_ rfl
  have e:b=(decide (n18≤0)):=by
   cases b with
   |true=>exact(decide_eq_true ((Zcm h18).2 (hb.1 rfl).2)).symm
   |false=>exact(decide_eq_false fun hh=>Bool.noConfusion (hb.2 ⟨f11,(Zcm h18).1 hh⟩)).symm
  rw [e]
 ·have f11:¬ (x.q≤z.q):=fun hh=>of_decide_eq_false e1 ((Zcm h9).2 hh)
  refine Eq.trans (b:=bool false) ?_ rfl
  have e:b=false:=by
   cases b with
   |true=>exact absurd (hb.1 rfl).1 f11
   |false=>rfl
  rw [e]
theorem Zfk {x y z t:RV} (hx:x.z≤260000000) (hy:y.z≤260000000) (hz:z.z≤260000000) (ht:t.z≤260000000) (k1:bxOk x y z t→K (bool true)) (k0:¬ bxOk x y z t→K (bool false)):Ask 125 [box x y z t] K:=by
 by_cases h:bxOk x y z t
 ·exact use (ZdT x y z t hx hy hz ht true ⟨fun _=>h,fun _=>rfl⟩) rfl (k1 h)
 ·exact use (ZdT x y z t hx hy hz ht false ⟨fun e=>Bool.noConfusion e,fun e=>absurd e h⟩) rfl (k0 h)
theorem Zjd (x y z t x2 y2 z2 t2:RV) (hx:x.z≤260000000) (hy:y.z≤260000000) (hz:z.z≤260000000) (ht:t.z≤260000000) (hx2:x2.z≤260000000) (hy2:y2.z≤260000000) (hz2:z2.z≤260000000) (ht2:t2.z≤260000000):Spec Tryz.prog Tab 94 [box x y z t,box x2 y2 z2 t2] (bool (decide (bxMeet x y z t x2 y2 z2 t2))):=by
 refine Za Tryz.func94 rfl rfl Tryz.ntmps94 rfl ωr rfl rfl ?_
 refine Zfk ω ω ω ω (fun f6=> ?_) (fun f6=> ?_)
 ·refine Zfk ω ω ω ω (fun f9=> ?_) (fun f9=> ?_)
  ·refine Za9 (x:=x) (y:=z2) ω ω fun n18 h18=> ?_
   refine fork (fun e1=> ?_) (fun e1=> ?_)
   ·have f21:x.q≤z2.q:=(Zcm h18).1 (of_decide_eq_true e1)
    refine Za9 (x:=x2) (y:=z) ω ω fun n28 h28=> ?_
    refine fork (fun e2=> ?_) (fun e2=> ?_)
    ·have f31:x2.q≤z.q:=(Zcm h28).1 (of_decide_eq_true e2)
     refine Za9 (x:=y) (y:=t2) ω ω fun n38 h38=> ?_
     refine fork (fun e3=> ?_) (fun e3=> ?_)
     ·have f41:y.q≤t2.q:=(Zcm h38).1 (of_decide_eq_true e3)
      refine Za9 (x:=y2) (y:=t) ω ω fun n48 h48=> ?_
      refine Eq.trans (b:=bool (decide (n48≤0))) ?_ rfl
      rw [show decide (bxMeet x y z t x2 y2 z2 t2)=(decide (n48≤0)) from decide_eq_decide.2 ⟨fun ⟨_,_,_,_,_,m6⟩=>(Zcm h48).2 m6,fun hh=>⟨f6,f9,f21,f31,f41,(Zcm h48).1 hh⟩⟩]
     ·have f41:¬ (y.q≤t2.q):=fun hh=>of_decide_eq_false e3 ((Zcm h38).2 hh)
      refine Eq.trans (b:=bool false) ?_ rfl
      rw [show decide (bxMeet x y z t x2 y2 z2 t2)=false from decide_eq_false fun ⟨m1,m2,m3,m4,m5,m6⟩=>by first|exact f41 m1|exact f41 m2|exact f41 m3|exact f41 m4|exact f41 m5|exact f41 m6]
    ·have f31:¬ (x2.q≤z.q):=fun hh=>of_decide_eq_false e2 ((Zcm h28).2 hh)
     refine Eq.trans (b:=bool false) ?_ rfl
     rw [show decide (bxMeet x y z t x2 y2 z2 t2)=false from decide_eq_false fun ⟨m1,m2,m3,m4,m5,m6⟩=>by first|exact f31 m1|exact f31 m2|exact f31 m3|exact f31 m4|exact f31 m5|exact f31 m6]
   ·have f21:¬ (x.q≤z2.q):=fun hh=>of_decide_eq_false e1 ((Zcm h18).2 hh)
    refine Eq.trans (b:=bool false) ?_ rfl
    rw [show decide (bxMeet x y z t x2 y2 z2 t2)=false from decide_eq_false fun ⟨m1,m2,m3,m4,m5,m6⟩=>by first|exact f21 m1|exact f21 m2|exact f21 m3|exact f21 m4|exact f21 m5|exact f21 m6]
  ·refine Eq.trans (b:=bool false) ?_ rfl
   rw [show decide (bxMeet x y z t x2 y2 z2 t2)=false from decide_eq_false fun ⟨m1,m2,m3,m4,m5,m6⟩=>by first|exact f9 m1|exact f9 m2|exact f9 m3|exact f9 m4|exact f9 m5|exact f9 m6]
 ·refine Eq.trans (b:=bool false) ?_ rfl
  rw [show decide (bxMeet x y z t x2 y2 z2 t2)=false from decide_eq_false fun ⟨m1,m2,m3,m4,m5,m6⟩=>by first|exact f6 m1|exact f6 m2|exact f6 m3|exact f6 m4|exact f6 m5|exact f6 m6]
theorem Zrf {x y z t x2 y2 z2 t2:RV} (hx:x.z≤260000000) (hy:y.z≤260000000) (hz:z.z≤260000000) (ht:t.z≤260000000) (hx2:x2.z≤260000000) (hy2:y2.z≤260000000) (hz2:z2.z≤260000000) (ht2:t2.z≤260000000) (k:∀ b,b=decide (bxMeet x y z t x2 y2 z2 t2)→K (bool b)):Ask 94 [box x y z t,box x2 y2 z2 t2] K:=use (Zjd x y z t x2 y2 z2 t2 hx hy hz ht hx2 hy2 hz2 ht2) rfl (k _ rfl)
theorem Zfx {P Q:Nat→poly.Pt} {n i m:Nat}:farTo P n Q i m=true↔∀ j,j< m→poly.ori (P i) (P ((i+1) % n)) (Q j)< 0:=by
 unfold farTo
 rw [List.all_eq_true]
 have e:∀ j,(outN P n i).1*((Q j).1 - (P i).1)+(outN P n i).2*((Q j).2 - (P i).2)=- poly.ori (P i) (P ((i+1) % n)) (Q j):=fun j=>by unfold outN poly.ori;grind
 constructor
 ·intro h j hj
  have:=of_decide_eq_true (h j (List.mem_range.2 hj))
  rw [e] at this;grind
 ·intro h j hj
  have:=h j (List.mem_range.1 hj)
  exact decide_eq_true (by rw [e];grind)
theorem Zk0 {a b:List (RV×RV)}:(bey a b).isSome=true↔poly.Beyond (pts a) a.length (pts b) b.length:=by
 unfold bey poly.Beyond
 rw [List.find?_isSome]
 constructor
 ·rintro⟨i,h1,h2⟩;exact⟨i,List.mem_range.1 h1,Zfx.1 h2⟩
 ·rintro⟨i,h1,h2⟩;exact⟨i,List.mem_range.2 h1,Zfx.2 h2⟩
end
