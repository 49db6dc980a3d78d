/- Joined by wip/bundle.py: XHull XHull2. -/
import Derived.Test.YtncoimmjjfmhdaaGreatDoorGrpP
namespace Go.Proofs.YtncoimmjjfmhdaaGreatDoor.hull
open poly
def sub (a b:Pt):Pt:=(a.1 - b.1,a.2 - b.2)
def cx (u v:Pt):Rat:=u.1*v.2 - u.2*v.1
def pos (u:Pt):Prop:=0< u.1∨(u.1=0∧0< u.2)
def neg (u:Pt):Prop:=pos (-u.1,-u.2)
theorem mulp {a b:Rat} (ha:0< a) (hb:0< b):0< a*b:=Rat.mul_pos ha hb
theorem mulnn {a b:Rat} (ha:0≤a) (hb:0≤b):0≤a*b:=Rat.mul_nonneg ha hb
theorem Zc2 {a b:Rat} (ha:0< a) (h:0< a*b):0< b:=(Rat.mul_pos_iff_of_pos_left ha).1 h
theorem Zkt {a b:Rat} (ha:0< a) (h:0≤a*b):0≤b:=Zev ha h
theorem tri (a:Rat):a< 0∨a=0∨0< a:=by grind
theorem tot2 (a b:Rat):a≤b∨b≤a:=by grind
theorem Zka {a:Rat} (h:0≤a) (h0:a≠0):0< a:=by grind
structure Half (ps:Pt→Prop):Prop where
 add:∀ u v,ps u→ps v→ps (u.1+v.1,u.2+v.2)
 tw:∀ u v w,ps u→ps v→ps w→0≤cx u v→0≤cx v w→0≤cx u w
 t1:∀ u v w,ps u→ps v→ps w→0< cx u v→0≤cx v w→0< cx u w
 t2:∀ u v w,ps u→ps v→ps w→0≤cx u v→0< cx v w→0< cx u w
 tot:∀ u:Pt,ps u∨u=(0,0)∨ps (-u.1,-u.2)
 dot:∀ u v,ps u→ps v→cx u v=0→0< u.1*v.1+u.2*v.2
 irr:¬ ps (0,0)
theorem Zn6 (u v w:Pt):v.1*cx u w=u.1*cx v w+w.1*cx u v:=by unfold cx;grind
theorem half_pos : Half pos where
  add u v hu hv := by
    unfold pos at *
    simp only
    rcases hu with h | ⟨h, h'⟩ <;> rcases hv with g | ⟨g, g'⟩ <;> grind
  tw u v w hu hv hw h1 h2 := by
    have id := Zn6 u v w
    unfold pos at hu hv hw
    have hu0 : 0 ≤ u.1 := by rcases hu with h | ⟨h, _⟩ <;> grind
    have hw0 : 0 ≤ w.1 := by rcases hw with h | ⟨h, _⟩ <;> grind
    rcases hv with h | ⟨h, h'⟩
    · refine Zkt h ?_
      rw [id]
      have := mulnn hu0 h2
      have := mulnn hw0 h1
      grind
    · -- v is straight up: w is too
      have e1 : cx v w = -(v.2 * w.1) := by unfold cx; rw [h]; grind
      have hw1 : w.1 = 0 := by
        by_cases hz : w.1 = 0
        · exact hz
        · have := mulp h' (Zka hw0 hz); grind
      have hw2 : 0 < w.2 := by rcases hw with g | ⟨_, g⟩ <;> grind
      have e2 : cx u w = u.1 * w.2 := by unfold cx; rw [hw1]; grind
      rw [e2]; exact mulnn hu0 (by grind)
  t1 u v w hu hv hw h1 h2 := by
    have id := Zn6 u v w
    unfold pos at hu hv hw
    have hu0 : 0 ≤ u.1 := by rcases hu with h | ⟨h, _⟩ <;> grind
    have hw0 : 0 ≤ w.1 := by rcases hw with h | ⟨h, _⟩ <;> grind
    have hv0 : 0 ≤ v.1 := by rcases hv with h | ⟨h, _⟩ <;> grind
    -- u is not straight up
    have hu1 : 0 < u.1 := by
      rcases hu with h | ⟨h, h'⟩
      · exact h
      · have e : cx u v = -(u.2 * v.1) := by unfold cx; rw [h]; grind
        have := mulnn (Rat.le_of_lt h') hv0
        grind
    rcases hv with h | ⟨h, h'⟩
    · refine Zc2 h ?_
      rw [id]
      rcases hw with g | ⟨g, g'⟩
      · have := mulp g h1
        have := mulnn hu0 h2
        grind
      · have e : cx v w = v.1 * w.2 := by unfold cx; rw [g]; grind
        have := mulp hu1 (mulp h g')
        rw [e, g]; grind
    · have e1 : cx v w = -(v.2 * w.1) := by unfold cx; rw [h]; grind
      have hw1 : w.1 = 0 := by
        by_cases hz : w.1 = 0
        · exact hz
        · have := mulp h' (Zka hw0 hz); grind
      have hw2 : 0 < w.2 := by rcases hw with g | ⟨_, g⟩ <;> grind
      have e2 : cx u w = u.1 * w.2 := by unfold cx; rw [hw1]; grind
      rw [e2]; exact mulp hu1 hw2
  t2 u v w hu hv hw h1 h2 := by
    have id := Zn6 u v w
    unfold pos at hu hv hw
    have hu0 : 0 ≤ u.1 := by rcases hu with h | ⟨h, _⟩ <;> grind
    have hw0 : 0 ≤ w.1 := by rcases hw with h | ⟨h, _⟩ <;> grind
    rcases hv with h | ⟨h, h'⟩
    · refine Zc2 h ?_
      rw [id]
      have hu1 : 0 < u.1 := by
        rcases hu with g | ⟨g, g'⟩
        · exact g
        · have e : cx u v = -(u.2 * v.1) := by unfold cx; rw [g]; grind
          have := mulp g' h
          grind
      have := mulp hu1 h2
      have := mulnn hw0 h1
      grind
    · have e1 : cx v w = -(v.2 * w.1) := by unfold cx; rw [h]; grind
      have := mulnn (Rat.le_of_lt h') hw0
      grind
  tot u := by
    unfold pos
    obtain ⟨a, b⟩ := u
    simp only [Prod.mk.injEq]
    rcases tri a with h | h | h
    · right; right; left; grind
    · rcases tri b with g | g | g
      · right; right; right; grind
      · right; left; exact ⟨h, g⟩
      · left; right; exact ⟨h, g⟩
    · left; left; exact h
  dot u v hu hv h := by
    unfold pos at hu hv
    unfold cx at h
    rcases hu with a | ⟨a, b⟩
    · have hv1 : 0 < v.1 := by
        rcases hv with c | ⟨c, d⟩
        · exact c
        · have := mulp a d; rw [c] at h; grind
      refine Zc2 hv1 ?_
      have e : v.1 * (u.1 * v.1 + u.2 * v.2) = u.1 * (v.1 * v.1) + u.1 * (v.2 * v.2) := by grind
      rw [e]
      have h1 := mulp a (mulp hv1 hv1)
      have h2 : 0 ≤ v.2 * v.2 := by
        rcases tot2 0 v.2 with g | g
        · exact mulnn g g
        · have := mulnn (a := -v.2) (b := -v.2) (by grind) (by grind); grind
      have h3 := mulnn (Rat.le_of_lt a) h2
      grind
    · have hv1 : v.1 = 0 := by
        rcases hv with c | ⟨c, d⟩
        · have := mulp b c; rw [a] at h; grind
        · exact c
      have hv2 : 0 < v.2 := by rcases hv with c | ⟨_, d⟩ <;> grind
      have := mulp b hv2
      rw [a, hv1]; grind
  irr := by unfold pos; simp
theorem Zbd:Half neg where
 add u v hu hv:=by
  have:=half_pos.add _ _ hu hv
  unfold neg
  have e:((-u.1+ -v.1,-u.2+ -v.2):Pt)=(-(u.1+v.1),-(u.2+v.2)):=by
   apply Prod.ext<;>simp only<;>grind
  rw [← e];exact this
 tw u v w hu hv hw h1 h2:=by
  have e:∀ a b:Pt,cx (-a.1,-a.2) (-b.1,-b.2)=cx a b:=fun a b=>by unfold cx;grind
  have:=half_pos.tw _ _ _ hu hv hw (by rw [e];exact h1) (by rw [e];exact h2)
  rwa [e] at this
 t1 u v w hu hv hw h1 h2:=by
  have e:∀ a b:Pt,cx (-a.1,-a.2) (-b.1,-b.2)=cx a b:=fun a b=>by unfold cx;grind
  have:=half_pos.t1 _ _ _ hu hv hw (by rw [e];exact h1) (by rw [e];exact h2)
  rwa [e] at this
 t2 u v w hu hv hw h1 h2:=by
  have e:∀ a b:Pt,cx (-a.1,-a.2) (-b.1,-b.2)=cx a b:=fun a b=>by unfold cx;grind
  have:=half_pos.t2 _ _ _ hu hv hw (by rw [e];exact h1) (by rw [e];exact h2)
  rwa [e] at this
 tot u:=by
  have:=half_pos.tot u
  unfold neg
  simp only [Rat.neg_neg]
  rcases this with h|h|h
  ·exact .inr (.inr h)
  ·exact .inr (.inl h)
  ·exact .inl h
 dot u v hu hv h:=by
  have e:∀ a b:Pt,cx (-a.1,-a.2) (-b.1,-b.2)=cx a b:=fun a b=>by unfold cx;grind
  have:=half_pos.dot _ _ hu hv (by rw [e];exact h)
  simp only at this
  grind
 irr:=by unfold neg pos;simp
section
variable {ps : Pt → Prop}
def Btw (ps:Pt→Prop) (a q b:Pt):Prop:=(q=a∨ps (sub q a))∧(q=b∨ps (sub b q))
def Edge (ps:Pt→Prop) (done:List Pt) (b a:Pt):Prop:=∀ q,q∈done→0≤ori b a q∧(ori b a q=0→Btw ps b q a)
def push (p:Pt):List Pt→List Pt
 |a :: b :: r=>if ori b a p≤0 then push p (b :: r) else p :: a :: b :: r
 |s=>p :: s
def Good (ps:Pt→Prop) (done:List Pt):List Pt→Prop
 |a :: b :: r=>ps (sub a b)∧Edge ps done b a∧(∀ c,r.head? =some c→0< ori c b a)∧Good ps done (b :: r)
 |_=>True
theorem Zno (a b c:Pt):sub a c=((sub a b).1+(sub b c).1,(sub a b).2+(sub b c).2):=by
 unfold sub;apply Prod.ext<;>simp only<;>grind
theorem ps_trans (H:Half ps) {a b c:Pt} (h1:ps (sub a b)) (h2:ps (sub b c)):ps (sub a c):=by
 rw [Zno a b c];exact H.add _ _ h1 h2
theorem ps_cases (H:Half ps) (a b:Pt):ps (sub a b)∨a=b∨ps (sub b a):=by
 rcases H.tot (sub a b) with h|h|h
 ·exact .inl h
 ·right;left
  unfold sub at h
  simp only [Prod.mk.injEq] at h
  apply Prod.ext<;>grind
 ·right;right
  have e:((-(sub a b).1,-(sub a b).2):Pt)=sub b a:=by unfold sub;apply Prod.ext<;>simp only<;>grind
  rwa [e] at h
theorem ZbJ (H:Half ps) {a b:Pt} (h1:ps (sub a b)) (h2:ps (sub b a)):False:=by
 have:=ps_trans H h1 h2
 have e:sub a a=(0,0):=by unfold sub;apply Prod.ext<;>simp only<;>grind
 rw [e] at this;exact H.irr this
theorem oaa (a p:Pt):ori a p a=0:=Zoy a p
theorem obb (a p:Pt):ori a p p=0:=Zox a p
theorem Zd5 (H : Half ps) {done : List Pt} {p : Pt} : ∀ {r : List Pt} {a b : Pt}, Good ps done (a :: b :: r) → 0 < ori b a p → ps (sub p a) → Good ps (p :: done) (a :: b :: r)
  | [], a, b, ⟨h1, h2, _, _⟩, ho, hp => ⟨h1, fun q hq => by
      rcases List.mem_cons.1 hq with rfl | hq
      · exact ⟨Rat.le_of_lt ho, fun e => by grind⟩
      · exact h2 q hq, fun c hc => by simp at hc, trivial⟩
  | c :: r, a, b, ⟨h1, h2, h3, h4⟩, ho, hp => by
    have hc := h3 c rfl
    have hcb : ps (sub b c) := h4.1
    -- the way from c to b has p to its left
    have k1 : cx (sub b c) (sub a b) = ori c b a := by unfold cx sub ori; grind
    have k2 : cx (sub a b) (sub p a) = ori b a p := by unfold cx sub ori; grind
    have k3 := H.t1 _ _ _ hcb h1 hp (by rw [k1]; exact hc) (by rw [k2]; exact Rat.le_of_lt ho)
    have k4 : ori c b p = cx (sub b c) (sub a b) + cx (sub b c) (sub p a) := by unfold cx sub ori; grind
    have ho2 : 0 < ori c b p := by rw [k4, k1]; grind
    refine ⟨h1, fun q hq => ?_, h3, Zd5 H h4 ho2 (ps_trans H hp h1)⟩
    rcases List.mem_cons.1 hq with rfl | hq
    · exact ⟨Rat.le_of_lt ho, fun e => by grind⟩
    · exact h2 q hq
theorem Zfm (H:Half ps) {done:List Pt} {p:Pt} (hp:∀ q,q∈done→ps (sub p q)):∀ (s:List Pt),Good ps done s→(∀ q,q∈s→q∈done)→(∀ b,s.getLast? =some b→∀ q,q∈done→q=b∨ps (sub q b))→
  (∀ a,s.head? =some a→∀ q,q∈done→ps (sub q a)→0≤ori a p q)→(s= []→done= [])→Good ps (p :: done) (push p s)
 | [],_,_,_,_,_=>trivial
 | [a],_,hs,hb,ht,_=>by
  refine⟨hp a (hs a List.mem_cons_self),fun q hq=> ?_,fun c hc=>by simp at hc,trivial⟩
  rcases List.mem_cons.1 hq with rfl|hq
  ·exact⟨by rw [obb];exact Rat.le_refl,fun _=>⟨.inr (hp a (hs a List.mem_cons_self)),.inl rfl⟩⟩
  ·rcases hb a rfl q hq with rfl|hqa
   ·exact⟨by rw [oaa];exact Rat.le_refl,fun _=>⟨.inl rfl,.inr (hp _ hq)⟩⟩
   ·exact⟨ht a rfl q hq hqa,fun _=>⟨.inr hqa,.inr (hp q hq)⟩⟩
 |a :: b :: r,hg,hs,hb,ht,_=>by
  obtain⟨h1,h2,h3,h4⟩:=hg
  have hpa:=hp a (hs a List.mem_cons_self)
  rw [push]
  split
  ·rename_i hle
   refine Zfm H hp (b :: r) h4 (fun q hq=>hs q (List.mem_cons_of_mem _ hq)) (fun c hc=>hb c (by rw [List.getLast?_cons_cons];exact hc)) (fun c hc q hq hqc=> ?_) (fun e=>by simp at e)
   obtain rfl:b=c:=by simpa using hc
   have kA:cx (sub a b) (sub p a)=ori b a p:=by unfold cx sub ori;grind
   have hE:=(h2 q hq).1
   rcases ps_cases H q a with g|g|g
   ·have hx:=ht a rfl q hq g
    have k:ori b p q=ori b a q - ori b a p+ori a p q:=by unfold ori;grind
    rw [k];grind
   ·subst g
    have k:ori b p q=- ori b q p:=by unfold ori;grind
    rw [k];grind
   ·have k1:cx (sub p a) (sub a b)=- ori b a p:=by unfold cx sub ori;grind
    have k2:cx (sub a b) (sub q b)=ori b a q:=by unfold cx sub ori;grind
    have k3:=H.tw _ _ _ hpa h1 hqc (by rw [k1];grind) (by rw [k2];exact hE)
    have k:ori b p q=ori b a q+cx (sub p a) (sub q b):=by unfold cx sub ori;grind
    rw [k];grind
  ·rename_i hgt
   have hgt:0< ori b a p:=by grind
   refine⟨hpa,fun q hq=> ?_,fun c hc=> ?_,Zd5 H ⟨h1,h2,h3,h4⟩ hgt hpa⟩
   ·rcases List.mem_cons.1 hq with rfl|hq
    ·exact⟨by rw [obb];exact Rat.le_refl,fun _=>⟨.inr hpa,.inl rfl⟩⟩
    ·rcases ps_cases H q a with g|g|g
     ·exact⟨ht a rfl q hq g,fun _=>⟨.inr g,.inr (hp q hq)⟩⟩
     ·subst g
      exact⟨by rw [oaa];exact Rat.le_refl,fun _=>⟨.inl rfl,.inr (hp _ hq)⟩⟩
     ·have hE:=(h2 q hq).1
      have k1:cx (sub a q) (sub a b)=ori b a q:=by unfold cx sub ori;grind
      have k2:cx (sub a b) (sub p a)=ori b a p:=by unfold cx sub ori;grind
      have k3:=H.t2 _ _ _ g h1 hpa (by rw [k1];exact hE) (by rw [k2];exact hgt)
      have k4:cx (sub a q) (sub p a)=ori a p q:=by unfold cx sub ori;grind
      rw [k4] at k3
      exact⟨Rat.le_of_lt k3,fun e=>by grind⟩
   ·obtain rfl:b=c:=by simpa using hc
    exact hgt
theorem push_head (p:Pt):∀ s:List Pt,∃ r,push p s=p :: r
 | []=>⟨_,rfl⟩
 | [a]=>⟨_,rfl⟩
 |a :: b :: r=>by
  rw [push]
  split
  ·exact push_head p (b :: r)
  ·exact⟨_,rfl⟩
theorem Zfl (p:Pt):∀ s:List Pt,s≠ []→(push p s).getLast? =s.getLast?
 | [],h=>absurd rfl h
 | [a],_=>rfl
 |a :: b :: r,_=>by
  rw [push]
  split
  ·rw [Zfl p (b :: r) (by simp),List.getLast?_cons_cons]
  ·rw [List.getLast?_cons_cons]
theorem push_mem (p:Pt):∀ (s:List Pt) (q:Pt),q∈push p s→q=p∨q∈s
 | [],q,h=>by simpa [push] using h
 | [a],q,h=>by simpa [push] using h
 |a :: b :: r,q,h=>by
  rw [push] at h
  split at h
  ·rcases push_mem p (b :: r) q h with e|e
   ·exact .inl e
   ·exact .inr (List.mem_cons_of_mem _ e)
  ·rcases List.mem_cons.1 h with e|e
   ·exact .inl e
   ·exact .inr e
def chain (l:List Pt):List Pt:=l.foldl (fun s p=>push p s) []
structure Chain (ps:Pt→Prop) (l s:List Pt):Prop where
 good:Good ps l s
 mem:∀ q,q∈s→q∈l
 last:∀ b,s.getLast? =some b→∀ q,q∈l→q=b∨ps (sub q b)
 head:∀ a,s.head? =some a→∀ q,q∈l→q=a∨ps (sub a q)
 ne:s= []→l= []
theorem ZiY (H:Half ps) {l s:List Pt} {p:Pt} (h:Chain ps l s) (hp:∀ q,q∈l→ps (sub p q)):Chain ps (p :: l) (push p s) where
 good:=Zfm H hp s h.good h.mem h.last (fun a ha q hq hqa=>by
  rcases h.head a ha q hq with e|e
  ·subst e
   have e:sub q q=(0,0):=by unfold sub;apply Prod.ext<;>simp only<;>grind
   rw [e] at hqa;exact absurd hqa H.irr
  ·exact(ZbJ H hqa e).elim) h.ne
 mem q hq:=by
  rcases push_mem p s q hq with e|e
  ·rw [e];exact List.mem_cons_self
  ·exact List.mem_cons_of_mem _ (h.mem q e)
 last b hb q hq:=by
  by_cases hs:s= []
  ·subst hs
   have hl:=h.ne rfl
   subst hl
   obtain rfl:p=b:=by simpa [push] using hb
   exact .inl (by simpa using hq)
  ·rw [Zfl p s hs] at hb
   rcases List.mem_cons.1 hq with rfl|hq
   ·exact .inr (hp b (h.mem b (List.mem_of_getLast? hb)))
   ·exact h.last b hb q hq
 head a ha q hq:=by
  obtain⟨r,hr⟩:=push_head p s
  rw [hr] at ha
  obtain rfl:p=a:=by simpa using ha
  rcases List.mem_cons.1 hq with rfl|hq
  ·exact .inl rfl
  ·exact .inr (hp q hq)
 ne e:=by
  obtain⟨r,hr⟩:=push_head p s
  rw [hr] at e;simp at e
theorem ZfK {l l':List Pt} (h:∀ q,q∈l'→q∈l):∀ {s:List Pt},Good ps l s→Good ps l' s
 | [],_=>trivial
 | [_],_=>trivial
 |_ :: b :: r,⟨h1,h2,h3,h4⟩=>⟨h1,fun q hq=>h2 q (h q hq),h3,ZfK (s:=b :: r) h h4⟩
theorem Chain.perm {l l' s:List Pt} (h:Chain ps l s) (h1:∀ q,q∈l'↔q∈l):Chain ps l' s where
 good:=ZfK (fun q hq=>(h1 q).1 hq) h.good
 mem q hq:=(h1 q).2 (h.mem q hq)
 last b hb q hq:=h.last b hb q ((h1 q).1 hq)
 head a ha q hq:=h.head a ha q ((h1 q).1 hq)
 ne e:=by
  have:=h.ne e
  subst this
  exact List.eq_nil_iff_forall_not_mem.2 fun q hq=>by simpa using (h1 q).1 hq
theorem Zh5 (H:Half ps) {l:List Pt} (hl:l.Pairwise fun a b=>ps (sub b a)):Chain ps l (chain l):=by
 have key:∀ (l done s:List Pt),Chain ps done s→(∀ p,p∈l→∀ q,q∈done→ps (sub p q))→l.Pairwise (fun a b=>ps (sub b a))→Chain ps (l.reverse++done) (l.foldl (fun s p=>push p s) s):=by
  intro l
  induction l with
  |nil=>intro done s h _ _;simpa using h
  |cons p l ih=>
   intro done s h hd hw
   obtain⟨hw1,hw2⟩:=List.pairwise_cons.1 hw
   have h1:=ZiY H h (hd p List.mem_cons_self)
   have h2:=ih (p :: done) (push p s) h1 (fun x hx q hq=>by
    rcases List.mem_cons.1 hq with rfl|hq
    ·exact hw1 x hx
    ·exact hd x (List.mem_cons_of_mem _ hx) q hq) hw2
   simpa using h2
 have:=key l [] [] ⟨trivial,fun q hq=>by simp at hq,fun b hb=>by simp at hb,fun a ha=>by simp at ha,fun _=>rfl⟩ (fun p _ q hq=>by simp at hq) hl
 rw [List.append_nil] at this
 exact this.perm fun q=>by simp
end
end Go.Proofs.YtncoimmjjfmhdaaGreatDoor.hull
namespace Go.Proofs.YtncoimmjjfmhdaaGreatDoor.hull
open poly
def d2 (a b:Pt):Rat:=(b.1 - a.1)*(b.1 - a.1)+(b.2 - a.2)*(b.2 - a.2)
def wf (at_:Pt) (st:Pt×Bool) (p:Pt):Pt×Bool:=
 if p=at_ then st else if st.2=false∨ori at_ st.1 p< 0∨(ori at_ st.1 p=0∧d2 at_ st.1< d2 at_ p) then (p,true) else st
def wnext (l:List Pt) (at_:Pt):Pt:=(l.foldl (wf at_) (at_,false)).1
def Nx (l:List Pt) (x y:Pt):Prop:=x≠y∧∀ q,q∈l→q=x∨0< ori x y q∨(ori x y q=0∧(q=y∨d2 x q< d2 x y))
theorem Zng {at_ y:Pt} {l:List Pt} (h:Nx l at_ y) {p:Pt} (hp:p∈l):wf at_ (y,true) p=(y,true):=by
 unfold wf
 split
 ·rfl
 ·rename_i hne
  rw [if_neg]
  rintro(e|e|⟨e1,e2⟩)
  ·simp at e
  ·rcases h.2 p hp with g|g|⟨g,_⟩
   ·exact hne g
   ·simp only at e;grind
   ·simp only at e;grind
  ·rcases h.2 p hp with g|g|⟨_,g|g⟩
   ·exact hne g
   ·simp only at e1;grind
   ·simp only at e2;rw [g] at e2;exact Rat.lt_irrefl e2
   ·simp only at e2;grind
theorem Znf {at_ y:Pt} {l:List Pt} (h:Nx l at_ y) {n:Pt} {b:Bool} (hn:b=true→n∈l∧n≠at_):wf at_ (n,b) y=(y,true):=by
 unfold wf
 rw [if_neg (fun e=>h.1 e.symm)]
 by_cases hny:b=true∧n=y
 ·obtain⟨rfl,rfl⟩:=hny
  split<;>rfl
 ·rw [if_pos]
  cases b with
  |false=>exact .inl rfl
  |true=>
   obtain⟨h1,h2⟩:=hn rfl
   have hsw:ori at_ n y=- ori at_ y n:=by unfold ori;grind
   rcases h.2 n h1 with g|g|⟨g,g2|g2⟩
   ·exact absurd g h2
   ·right;left;simp only;rw [hsw];grind
   ·exact absurd ⟨rfl,g2⟩ hny
   ·right;right;simp only;exact⟨by rw [hsw,g];grind,g2⟩
theorem ZlB {l:List Pt} {at_ y:Pt} (h:Nx l at_ y) (hy:y∈l):wnext l at_=y:=by
 have key:∀ (m:List Pt) (n:Pt) (b:Bool),(∀ q,q∈m→q∈l)→(b=true→n∈l∧n≠at_)→(y∈m∨(n,b)=(y,true))→m.foldl (wf at_) (n,b)=(y,true):=by
  intro m
  induction m with
  |nil=>
   intro n b _ _ h1
   rcases h1 with h1|h1
   ·simp at h1
   ·exact h1
  |cons p m ih=>
   intro n b hm hn h1
   rw [List.foldl_cons]
   have hm':∀ q,q∈m→q∈l:=fun q hq=>hm q (List.mem_cons_of_mem _ hq)
   by_cases hpy:p=y
   ·subst hpy
    rw [Znf h hn]
    exact ih p true hm' (fun _=>⟨hy,fun e=>h.1 e.symm⟩) (.inr rfl)
   ·rcases h1 with h1|h1
    ·have hym:y∈m:=by
      rcases List.mem_cons.1 h1 with e|e
      ·exact absurd e.symm hpy
      ·exact e
     have hw:(wf at_ (n,b) p).2=true→(wf at_ (n,b) p).1∈l∧(wf at_ (n,b) p).1≠at_:=by
      unfold wf
      split
      ·exact hn
      ·rename_i hne
       split
       ·exact fun _=>⟨hm p List.mem_cons_self,hne⟩
       ·exact hn
     exact ih _ _ hm' hw (.inl hym)
    ·rw [h1,Zng h (hm p List.mem_cons_self)]
     exact ih y true hm' (fun _=>⟨hy,fun e=>h.1 e.symm⟩) (.inr rfl)
 unfold wnext
 rw [key l at_ false (fun q hq=>hq) (fun e=>by simp at e) (.inl hy)]
theorem Zic {l:List Pt} {at_:Pt} (h:∀ q,q∈l→q=at_):wnext l at_=at_:=by
 have key:∀ m:List Pt,(∀ q,q∈m→q=at_)→m.foldl (wf at_) (at_,false)=(at_,false):=by
  intro m
  induction m with
  |nil=>intro _;rfl
  |cons p m ih=>
   intro hm
   rw [List.foldl_cons]
   have e:wf at_ (at_,false) p=(at_,false):=by unfold wf;rw [if_pos (hm p List.mem_cons_self)]
   rw [e];exact ih fun q hq=>hm q (List.mem_cons_of_mem _ hq)
 unfold wnext;rw [key l h]
def firstF (a p:Pt):Pt:=if p.1< a.1∨(p.1=a.1∧p.2< a.2) then p else a
theorem pos_iff (a p:Pt):pos (sub a p)↔(p.1< a.1∨(p.1=a.1∧p.2< a.2)):=by
 unfold pos sub
 simp only
 constructor<;>(rintro(h|⟨h,g⟩))<;>grind
theorem ZhN:∀ (l:List Pt) (a:Pt),l.foldl firstF a∈a :: l∧∀ q,q∈a :: l→q=l.foldl firstF a∨pos (sub q (l.foldl firstF a))
 | [],a=>⟨by simp,fun q hq=> .inl (by simpa using hq)⟩
 |p :: l,a=>by
  obtain⟨h1,h2⟩:=ZhN l (firstF a p)
  have hf:firstF a p=p∨firstF a p=a:=by unfold firstF;split<;>simp
  have hle:∀ q,q=a∨q=p→q=firstF a p∨pos (sub q (firstF a p)):=by
   intro q hq
   unfold firstF
   split
   ·rename_i h
    rcases hq with rfl|rfl
    ·exact .inr ((pos_iff q p).2 h)
    ·exact .inl rfl
   ·rename_i h
    rcases hq with rfl|rfl
    ·exact .inl rfl
    ·rcases ps_cases half_pos q a with g|g|g
     ·exact .inr g
     ·exact .inl g
     ·exact absurd ((pos_iff a q).1 g) h
  rw [List.foldl_cons]
  refine⟨?_,fun q hq=> ?_⟩
  ·rcases List.mem_cons.1 h1 with e|e
   ·rw [e];rcases hf with g|g<;>rw [g]<;>simp
   ·exact List.mem_cons_of_mem _ (List.mem_cons_of_mem _ e)
  ·have hr:∀ x,x=firstF a p∨pos (sub x (firstF a p))→x=l.foldl firstF (firstF a p)∨pos (sub x (l.foldl firstF (firstF a p))):=by
    intro x hx
    have h3:=h2 (firstF a p) List.mem_cons_self
    rcases hx with e|e
    ·rw [e];exact h3
    ·rcases h3 with g|g
     ·rw [← g];exact .inr e
     ·exact .inr (ps_trans half_pos e g)
   rcases List.mem_cons.1 hq with e|hq
   ·exact hr q (hle q (.inl e))
   ·rcases List.mem_cons.1 hq with e|hq
    ·exact hr q (hle q (.inr e))
    ·exact h2 q (List.mem_cons_of_mem _ hq)
def firstP (l:List Pt):Pt:=l.foldl firstF ((l[0]?).getD (0,0))
theorem ZfM {l:List Pt} (h:l≠ []):firstP l∈l∧∀ q,q∈l→q=firstP l∨pos (sub q (firstP l)):=by
 cases l with
 |nil=>exact absurd rfl h
 |cons a l=>
  have e:firstP (a :: l)=l.foldl firstF a:=by
   unfold firstP
   simp only [List.getElem?_cons_zero,Option.getD_some,List.foldl_cons]
   congr 1
   unfold firstF;simp
  rw [e]
  exact ZhN l a
def wrapGo (l:List Pt) (f:Pt):Nat→Pt→List Pt
 |0,_=> []
 |n+1,at_=>at_ :: (if wnext l at_=f then [] else wrapGo l f n (wnext l at_))
def wrapL (l:List Pt):List Pt:=if l= [] then [] else wrapGo l (firstP l) l.length (firstP l)
theorem Zdz {l h:List Pt} {f:Pt} (hf:h[0]? =some f) (hn:∀ (i:Nat) (x:Pt),h[i]? =some x→∀ y,h[(i+1) % h.length]? =some y→wnext l x=y) (h0:∀ (i:Nat) (x:Pt),0< i→h[i]? =some x→x≠f):
  ∀ (n i:Nat) (x:Pt),h[i]? =some x→h.length≤i+n→wrapGo l f n x=h.drop i
 |0,i,x,hx,hl=>by have:=(List.getElem?_eq_some_iff.1 hx).1;omega
 |n+1,i,x,hx,hl=>by
  have hi:=(List.getElem?_eq_some_iff.1 hx).1
  rw [wrapGo]
  by_cases hlast:i+1=h.length
  ·have hmod:(i+1) % h.length=0:=by rw [hlast];exact Nat.mod_self _
   rw [hn i x hx f (by rw [hmod];exact hf),if_pos rfl,List.drop_eq_getElem_cons hi,hlast,List.drop_length]
   congr 1
   exact((List.getElem?_eq_some_iff.1 hx).2).symm
  ·have hmod:(i+1) % h.length=i+1:=Nat.mod_eq_of_lt (by omega)
   obtain⟨y,hy⟩:∃ y,h[i+1]? =some y:=⟨_,List.getElem?_eq_getElem (by omega)⟩
   have hny:=hn i x hx y (by rw [hmod];exact hy)
   rw [hny,if_neg (h0 (i+1) y (by omega) hy),Zdz hf hn h0 n (i+1) y hy (by omega),List.drop_eq_getElem_cons hi]
   congr 1
   exact((List.getElem?_eq_some_iff.1 hx).2).symm
theorem ZcY:∀ (h l:List Pt),h.Nodup→(∀ x,x∈h→x∈l)→h.length≤l.length
 | [],_,_,_=>Nat.zero_le _
 |x :: h,l,hn,hs=>by
  obtain⟨h1,h2⟩:=List.nodup_cons.1 hn
  have hx:=hs x List.mem_cons_self
  have:=ZcY h (l.erase x) h2 (fun y hy=>(List.mem_erase_of_ne (fun e=>h1 (by rw [← e];exact hy))).2 (hs y (List.mem_cons_of_mem _ hy)))
  rw [List.length_erase_of_mem hx] at this
  have:0< l.length:=List.length_pos_of_mem hx
  simp only [List.length_cons];omega
theorem ZgL {h:List Pt} {nx:Pt→Pt} {f:Pt} (hf:h[0]? =some f) (hn:∀ (i:Nat) (x:Pt),h[i]? =some x→∀ y,h[(i+1) % h.length]? =some y→nx x=y) (h0:∀ (i:Nat) (x:Pt),0< i→h[i]? =some x→x≠f):h.Nodup:=by
 refine List.pairwise_iff_getElem.2 fun i j hi hj hij e0=> ?_
 have e:h[i]? =h[j]? :=by rw [List.getElem?_eq_getElem hi,List.getElem?_eq_getElem hj,e0]
 have hm:0< h.length:=by omega
 have key:∀ k,h[(i+k) % h.length]? =h[(j+k) % h.length]? :=by
  intro k
  induction k with
  |zero=>rw [Nat.add_zero,Nat.add_zero,Nat.mod_eq_of_lt (by omega),Nat.mod_eq_of_lt hj];exact e
  |succ k ih=>
   have h1:(i+k) % h.length< h.length:=Nat.mod_lt _ hm
   have h2:(j+k) % h.length< h.length:=Nat.mod_lt _ hm
   have h3:((i+k) % h.length+1) % h.length=(i+(k+1)) % h.length:=by rw [Nat.add_mod,Nat.mod_mod,← Nat.add_mod];rfl
   have h4:((j+k) % h.length+1) % h.length=(j+(k+1)) % h.length:=by rw [Nat.add_mod,Nat.mod_mod,← Nat.add_mod];rfl
   have e1:=List.getElem?_eq_getElem h1
   have e2:=List.getElem?_eq_getElem (Nat.mod_lt (i+(k+1)) hm)
   have e3:=List.getElem?_eq_getElem (Nat.mod_lt (j+(k+1)) hm)
   have a1:=hn _ _ e1 _ (by rw [h3];exact e2)
   have a2:=hn _ _ (ih.symm.trans e1) _ (by rw [h4];exact e3)
   rw [e2,e3,← a1,a2]
 have hk:=key (h.length - j)
 have e1:(j+(h.length - j)) % h.length=0:=by rw [show j+(h.length - j)=h.length by omega];exact Nat.mod_self _
 have e2:(i+(h.length - j)) % h.length=i+(h.length - j):=Nat.mod_eq_of_lt (by omega)
 rw [e1,e2,hf] at hk
 exact h0 _ f (by omega) hk rfl
section
variable {ps : Pt → Prop}
theorem ZgF (H:Half ps) {done:List Pt}:∀ {s:List Pt},Good ps done s→s.Pairwise fun a b=>ps (sub a b)
 | [],_=>List.Pairwise.nil
 | [a],_=>List.pairwise_singleton _ a
 |a :: b :: r,⟨h1,_,_,h4⟩=>by
  have ih:=ZgF H h4
  refine List.pairwise_cons.2 ⟨fun x hx=> ?_,ih⟩
  rcases List.mem_cons.1 hx with rfl|hx
  ·exact h1
  ·exact ps_trans H h1 ((List.pairwise_cons.1 ih).1 x hx)
theorem Zn3 (H:Half ps) {l:List Pt} {a b:Pt} (h1:ps (sub a b)) (h2:Edge ps l b a):Nx l b a:=by
 refine⟨fun e=> ?_,fun q hq=> ?_⟩
 ·rw [e] at h1
  have e0:sub a a=(0,0):=by unfold sub;apply Prod.ext<;>simp only<;>grind
  rw [e0] at h1;exact H.irr h1
 ·obtain⟨g1,g2⟩:=h2 q hq
  by_cases h0:ori b a q=0
  ·obtain⟨k1,k2⟩:=g2 h0
   rcases k1 with k1|k1
   ·exact .inl k1
   ·right;right
    refine⟨h0,?_⟩
    rcases k2 with k2|k2
    ·exact .inl k2
    ·right
     have hc:cx (sub q b) (sub a q)=0:=by
      have:cx (sub q b) (sub a q)=- ori b a q:=by unfold cx sub ori;grind
      rw [this,h0];grind
     have hd:=H.dot _ _ k1 k2 hc
     have e:d2 b a=d2 b q+((sub q b).1*(sub a q).1+(sub q b).2*(sub a q).2)+((sub q b).1*(sub a q).1+(sub q b).2*(sub a q).2)+d2 q a:=by unfold d2 sub;grind
     have hp:∀ x y:Pt,0≤d2 x y:=fun x y=>by
      unfold d2
      have sq:∀ z:Rat,0≤z*z:=fun z=>by
       rcases tot2 0 z with g|g
       ·exact mulnn g g
       ·have:=mulnn (a:=-z) (b:=-z) (by grind) (by grind);grind
      have:=sq (y.1 - x.1)
      have:=sq (y.2 - x.2)
      grind
     have:=hp q a
     rw [e];grind
  ·right;left;exact Zka g1 h0
theorem Zc8 (H:Half ps) {l:List Pt}:∀ {s:List Pt},Good ps l s→∀ (i:Nat) (a b:Pt),s[i]? =some a→s[i+1]? =some b→Nx l b a
 | [],_,i,a,b,h,_=>by simp at h
 | [_],_,i,a,b,_,h=>by simp at h
 |a' :: b' :: r,⟨h1,h2,_,h4⟩,0,a,b,ha,hb=>by
  obtain rfl:a'=a:=by simpa using ha
  obtain rfl:b'=b:=by simpa using hb
  exact Zn3 H h1 h2
 |a' :: b' :: r,⟨_,_,_,h4⟩,i+1,a,b,ha,hb=>Zc8 H h4 i a b (by simpa using ha) (by simpa using hb)
end
theorem getRev {s:List Pt} {i:Nat} (h:i< s.length):s.reverse[i]? =s[s.length - 1 - i]? :=List.getElem?_reverse h
def hullL (l:List Pt):List Pt:=(chain l).tail.reverse++(chain l.reverse).tail.reverse
theorem Zov {l:List Pt} (hl:l.Pairwise fun a b=>pos (sub b a)):l.reverse.Pairwise fun a b=>neg (sub b a):=by
 rw [List.pairwise_reverse]
 refine hl.imp fun {a b} h=> ?_
 have e:((-(sub a b).1,-(sub a b).2):Pt)=sub b a:=by unfold sub;apply Prod.ext<;>simp only<;>grind
 unfold neg
 rw [e];exact h
theorem Zkh {a b:Pt} (h:neg (sub a b)):pos (sub b a):=by
 have e:((-(sub a b).1,-(sub a b).2):Pt)=sub b a:=by unfold sub;apply Prod.ext<;>simp only<;>grind
 unfold neg at h
 rwa [e] at h
theorem ps_irr {ps:Pt→Prop} (H:Half ps) {a b:Pt} (h:ps (sub a b)):a≠b:=fun e=>by
 rw [e] at h
 have e0:sub b b=(0,0):=by unfold sub;apply Prod.ext<;>simp only<;>grind
 rw [e0] at h;exact H.irr h
theorem long {ps:Pt→Prop} (H:Half ps) {l s:List Pt} (C:Chain ps l s) {x y:Pt} (hx:x∈l) (hy:y∈l) (hne:x≠y):2≤s.length:=by
 match s,C with
 | [],C=>have:=C.ne rfl;subst this;simp at hx
 | [a],C=>
  exfalso
  have key:∀ q,q∈l→q=a:=fun q hq=>by
   rcases C.head a rfl q hq with e|e
   ·exact e
   ·rcases C.last a rfl q hq with g|g
    ·exact g
    ·exact(ZbJ H e g).elim
  exact hne ((key x hx).trans (key y hy).symm)
 |a :: b :: r,_=>simp
theorem Zgw {s:List Pt}:s.getLast? =s[s.length - 1]? :=List.getLast?_eq_getElem? ..
theorem pw_at {R:Pt→Pt→Prop} {s:List Pt} (h:s.Pairwise R) {i j:Nat} {a b:Pt} (hij:i< j) (ha:s[i]? =some a) (hb:s[j]? =some b):R a b:=by
 obtain⟨h1,e1⟩:=List.getElem?_eq_some_iff.1 ha
 obtain⟨h2,e2⟩:=List.getElem?_eq_some_iff.1 hb
 have:=List.pairwise_iff_getElem.1 h i j h1 h2 hij
 rwa [e1,e2] at this
theorem Zg9 {s:List Pt} {i:Nat} (h:i+1< s.length):s.tail.reverse[i]? =s[s.length - 1 - i]? :=by
 rw [getRev (by rw [List.length_tail];omega),List.length_tail,List.getElem?_tail]
 congr 1;omega
structure Corners (l h:List Pt) (f:Pt):Prop where
 zero:h[0]? =some f
 fst:f∈l∧∀ q,q∈l→q=f∨pos (sub q f)
 nx:∀ (i:Nat) (a b:Pt),h[i]? =some a→h[(i+1) % h.length]? =some b→Nx l a b
 ne0:∀ (i:Nat) (a:Pt),0< i→h[i]? =some a→a≠f
 mem:∀ a,a∈h→a∈l
theorem ZfH {l:List Pt} (hl:l.Pairwise fun a b=>pos (sub b a)) {x y:Pt} (hx:x∈l) (hy:y∈l) (hne:x≠y):∃ f,Corners l (hullL l) f:=by
 have C1:=Zh5 half_pos hl
 have C2:Chain neg l (chain l.reverse):=(Zh5 Zbd (Zov hl)).perm fun q=>by simp
 have L1:=long half_pos C1 hx hy hne
 have L2:=long Zbd C2 hx hy hne
 have P1:=ZgF half_pos C1.good
 have P2:=ZgF Zbd C2.good
 have hh:hullL l=(chain l).tail.reverse++(chain l.reverse).tail.reverse:=rfl
 generalize chain l=s at*
 generalize chain l.reverse=t at*
 obtain⟨f,hf⟩:∃ f,s[s.length - 1]? =some f:=⟨_,List.getElem?_eq_getElem (by omega)⟩
 obtain⟨a,ha⟩:∃ a,s[0]? =some a:=⟨_,List.getElem?_eq_getElem (by omega)⟩
 obtain⟨f',hf'⟩:∃ f,t[0]? =some f:=⟨_,List.getElem?_eq_getElem (by omega)⟩
 obtain⟨a',ha'⟩:∃ a,t[t.length - 1]? =some a:=⟨_,List.getElem?_eq_getElem (by omega)⟩
 have mf:=C1.mem f (List.mem_of_getElem? hf)
 have ma:=C1.mem a (List.mem_of_getElem? ha)
 have mf':=C2.mem f' (List.mem_of_getElem? hf')
 have ma':=C2.mem a' (List.mem_of_getElem? ha')
 have ef:f'=f:=by
  rcases C1.last f (by rw [Zgw];exact hf) f' mf' with e|e
  ·exact e
  ·rcases C2.head f' (by rw [List.head?_eq_getElem?];exact hf') f mf with g|g
   ·exact g.symm
   ·exact(ZbJ half_pos e (Zkh g)).elim
 have ea:a'=a:=by
  rcases C1.head a (by rw [List.head?_eq_getElem?];exact ha) a' ma' with e|e
  ·exact e
  ·rcases C2.last a' (by rw [Zgw];exact ha') a ma with g|g
   ·exact g.symm
   ·exact(ZbJ half_pos e (Zkh g)).elim
 subst ef ea
 have hm:(hullL l).length=(s.length - 1)+(t.length - 1):=by rw [hh];simp
 have hg1:∀ i,i+1< s.length→(hullL l)[i]? =s[s.length - 1 - i]? :=fun i hi=>by
  rw [hh,List.getElem?_append_left (by simp;omega)];exact Zg9 hi
 have hg2:∀ i,s.length - 1≤i→i< (s.length - 1)+(t.length - 1)→(hullL l)[i]? =t[t.length - 1 - (i - (s.length - 1))]? :=fun i hi hi2=>by
  rw [hh,List.getElem?_append_right (by simp;omega)]
  simp only [List.length_reverse,List.length_tail]
  exact Zg9 (by omega)
 refine⟨f',⟨?_,⟨mf,C1.last f' (by rw [Zgw];exact hf)⟩,?_,?_,?_⟩⟩
 ·rw [hg1 0 (by omega)];exact hf
 ·intro i p q hp hq
  have hi:i< (hullL l).length:=(List.getElem?_eq_some_iff.1 hp).1
  rw [hm] at hi hq
  by_cases c1:i+1< s.length - 1
  ·rw [Nat.mod_eq_of_lt (by omega),hg1 _ (by omega)] at hq
   rw [hg1 _ (by omega)] at hp
   exact Zc8 half_pos C1.good (s.length - 1 - (i+1)) q p hq (by rw [← hp];congr 1;omega)
  ·by_cases c2:i+1=s.length - 1
   ·rw [Nat.mod_eq_of_lt (by omega),hg2 _ (by omega) (by omega)] at hq
    rw [hg1 _ (by omega)] at hp
    rw [show t.length - 1 - (i+1 - (s.length - 1))=t.length - 1 by omega,ha'] at hq
    obtain rfl:=Option.some.inj hq
    exact Zc8 half_pos C1.good 0 a' p ha (by rw [← hp];congr 1;omega)
   ·rw [hg2 _ (by omega) (by omega)] at hp
    by_cases c3:i+1=(s.length - 1)+(t.length - 1)
    ·rw [c3,Nat.mod_self,hg1 0 (by omega)] at hq
     rw [show s.length - 1 - 0=s.length - 1 by omega,hf] at hq
     obtain rfl:=Option.some.inj hq
     exact Zc8 Zbd C2.good 0 f' p hf' (by rw [← hp];congr 1;omega)
    ·rw [Nat.mod_eq_of_lt (by omega),hg2 _ (by omega) (by omega)] at hq
     exact Zc8 Zbd C2.good (t.length - 1 - (i+1 - (s.length - 1))) q p hq (by rw [← hp];congr 1;omega)
 ·intro i p hi0 hp
  have hi:i< (hullL l).length:=(List.getElem?_eq_some_iff.1 hp).1
  rw [hm] at hi
  by_cases c1:i+1< s.length
  ·rw [hg1 _ c1] at hp
   exact ps_irr half_pos (pw_at P1 (by omega) hp hf)
  ·rw [hg2 _ (by omega) (by omega)] at hp
   exact fun e=>ps_irr Zbd (pw_at P2 (by omega) hf' hp) e.symm
 ·intro p hp
  rw [hh] at hp
  rcases List.mem_append.1 hp with h|h
  ·exact C1.mem p (List.mem_of_mem_tail (List.mem_reverse.1 h))
  ·exact C2.mem p (List.mem_of_mem_tail (List.mem_reverse.1 h))
theorem Nx.of_mem {l l':List Pt} (h:∀ q,q∈l'→q∈l) {a b:Pt} (n:Nx l a b):Nx l' a b:=⟨n.1,fun q hq=>n.2 q (h q hq)⟩
theorem Znd {l l' h:List Pt} {f:Pt} (c:Corners l h f) (hs:∀ q,q∈l'↔q∈l):wrapL l'=h∧h.Nodup∧h.length≤l.length:=by
 have hne:l'≠ []:=fun e=>by have:=(hs f).2 c.fst.1;rw [e] at this;simp at this
 have hff:firstP l'=f:=by
  obtain⟨h1,h2⟩:=ZfM hne
  rcases h2 f ((hs f).2 c.fst.1) with e|e
  ·exact e.symm
  ·rcases c.fst.2 _ ((hs _).1 h1) with g|g
   ·exact g
   ·exact(ZbJ half_pos e g).elim
 have hn:∀ (i:Nat) (x:Pt),h[i]? =some x→∀ y,h[(i+1) % h.length]? =some y→wnext l' x=y:=fun i x hx y hy=>
  ZlB ((c.nx i x y hx hy).of_mem fun q hq=>(hs q).1 hq) ((hs y).2 (c.mem y (List.mem_of_getElem? hy)))
 have hnd:h.Nodup:=ZgL c.zero hn c.ne0
 refine⟨?_,hnd,ZcY h l hnd c.mem⟩
 unfold wrapL
 rw [if_neg hne,hff,Zdz c.zero hn c.ne0 l'.length 0 f c.zero (by rw [Nat.zero_add];exact ZcY h l' hnd fun q hq=>(hs q).2 (c.mem q hq))]
 rfl
theorem hull_wrap {l l':List Pt} (hl:l.Pairwise fun a b=>pos (sub b a)) (hs:∀ q,q∈l'↔q∈l):(wrapL l').length≤l.length∧(3≤l.length→wrapL l'=hullL l):=by
 match l,hl with
 | [],_=>
  have e:l'= []:=List.eq_nil_iff_forall_not_mem.2 fun q hq=>by simpa using (hs q).1 hq
  subst e
  exact⟨by simp [wrapL],fun h=>by simp at h⟩
 | [p],_=>
  refine⟨?_,fun h=>by simp at h⟩
  have hp:∀ q,q∈l'→q=p:=fun q hq=>by simpa using (hs q).1 hq
  unfold wrapL
  split
  ·simp
  ·rename_i hne
   have hff:firstP l'=p:=hp _ (ZfM hne).1
   have hw:wnext l' p=p:=Zic hp
   rw [hff]
   obtain⟨n,hn⟩:∃ n,l'.length=n+1:=⟨l'.length - 1,by have:0< l'.length:=List.length_pos_iff.2 hne;omega⟩
   rw [hn,wrapGo,hw,if_pos rfl];simp
 |p :: q :: r,hl=>
  have hpq:p≠q:=fun e=>ps_irr half_pos ((List.pairwise_cons.1 hl).1 q List.mem_cons_self) e.symm
  obtain⟨f,c⟩:=ZfH hl (x:=p) (y:=q) List.mem_cons_self (List.mem_cons_of_mem _ List.mem_cons_self) hpq
  obtain⟨h1,_,h3⟩:=Znd c hs
  exact⟨by rw [h1];exact h3,fun _=>h1⟩
end Go.Proofs.YtncoimmjjfmhdaaGreatDoor.hull
