/- Joined by wip/bundle.py: XPol XNrm XIne XIne2 XIne3. -/
namespace Go.Proofs.YtgkofgfiifgioaaGreatDoor.ine
def ev:List Rat→Rat→Rat
 | [],_=>0
 |a :: l,x=>ev l x*x+a
def cf (p:List Rat) (i:Nat):Rat:=(p[i]?).getD 0
theorem ev_zero:∀ (p:List Rat),(∀ i,cf p i=0)→∀ x,ev p x=0
 | [],_,_=>rfl
 |a :: l,h,x=>by
  have ha:a=0:=h 0
  have:=ev_zero l (fun i=>h (i+1)) x
  show ev l x*x+a=0
  rw [this,ha];grind
theorem ev_ext:∀ (p q:List Rat),(∀ i,cf p i=cf q i)→∀ x,ev p x=ev q x
 | [],q,h,x=>(ev_zero q (fun i=>(h i).symm.trans rfl) x).symm
 |a :: l, [],h,x=>ev_zero (a :: l) (fun i=>(h i).trans rfl) x
 |a :: l,b :: m,h,x=>by
  have ha:a=b:=h 0
  have:=ev_ext l m (fun i=>h (i+1)) x
  show ev l x*x+a=ev m x*x+b
  rw [this,ha]
theorem cf_ge {p:List Rat} {i:Nat} (h:p.length≤i):cf p i=0:=by unfold cf;rw [List.getElem?_eq_none h];rfl
def lin (t:Rat):List Rat→List Rat→List Rat
 | [],q=>q
 |a :: p, []=>(a :: p).map fun c=>t*c
 |a :: p,b :: q=>(t*a+b) :: lin t p q
theorem ev_scale (t:Rat):∀ (p:List Rat) (x:Rat),ev (p.map fun c=>t*c) x=t*ev p x
 | [],_=>by show (0:Rat)=t*0;grind
 |a :: p,x=>by
  have:=ev_scale t p x
  show ev (p.map _) x*x+t*a=t*(ev p x*x+a)
  rw [this];grind
theorem ev_lin (t:Rat):∀ (p q:List Rat) (x:Rat),ev (lin t p q) x=t*ev p x+ev q x
 | [],q,x=>by show ev q x=t*0+ev q x;grind
 |a :: p, [],x=>by
  show ev ((a :: p).map _) x=_+0
  rw [ev_scale];grind
 |a :: p,b :: q,x=>by
  have:=ev_lin t p q x
  show ev (lin t p q) x*x+(t*a+b)=t*(ev p x*x+a)+(ev q x*x+b)
  rw [this];grind
theorem cf_lin (t:Rat):∀ (p q:List Rat) (i:Nat),cf (lin t p q) i=t*cf p i+cf q i
 | [],q,i=>by show cf q i=t*cf [] i+_;rw [show cf [] i=0 from rfl];grind
 |a :: p, [],i=>by
  rw [show cf [] i=0 from rfl]
  unfold cf
  show (((a :: p).map fun c=>t*c)[i]?).getD 0=_
  rw [List.getElem?_map]
  cases (a :: p)[i]? with
  |none=>show (0:Rat)=t*0+0;grind
  |some c=>show t*c=t*c+0;grind
 |a :: p,b :: q,0=>rfl
 |a :: p,b :: q,i+1=>cf_lin t p q i
theorem lin_len (t:Rat):∀ (p q:List Rat),(lin t p q).length=max p.length q.length
 | [],q=>by show q.length=max 0 _;omega
 |a :: p, []=>by show ((a :: p).map _).length=_;rw [List.length_map];simp
 |a :: p,b :: q=>by
  have:=lin_len t p q
  show (lin t p q).length+1=max (p.length+1) (q.length+1)
  omega
def mulX (r:Rat) (p:List Rat):List Rat:=lin (-r) p (0 :: p)
theorem Zhv (r:Rat) (p:List Rat) (x:Rat):ev (mulX r p) x=(x - r)*ev p x:=by
 unfold mulX;rw [ev_lin];show -r*ev p x+(ev p x*x+0)=_;grind
theorem mulX_len (r:Rat) (p:List Rat):(mulX r p).length=p.length+1:=by unfold mulX;rw [lin_len,List.length_cons];omega
theorem mulX_top (r:Rat) {p:List Rat}:cf (mulX r p) p.length=cf p (p.length - 1)∨p= []:=by
 cases p with
 |nil=>exact .inr rfl
 |cons a l=>
  left
  unfold mulX
  rw [cf_lin,cf_ge (Nat.le_refl _)]
  show -r*0+cf (a :: l) l.length=cf (a :: l) l.length
  grind
def mkp:List Rat→List Rat
 | []=> [1]
 |r :: R=>mulX r (mkp R)
theorem mkp_len:∀ R:List Rat,(mkp R).length=R.length+1
 | []=>rfl
 |r :: R=>by show (mulX r _).length=_;rw [mulX_len,mkp_len R];rfl
theorem mkp_top:∀ R:List Rat,cf (mkp R) R.length=1
 | []=>rfl
 |r :: R=>by
  have ih:=mkp_top R
  have hl:=mkp_len R
  rcases mulX_top r (p:=mkp R) with h|h
  ·rw [hl,Nat.add_sub_cancel,ih] at h;exact h
  ·rw [h] at hl;simp at hl
theorem mkp_root:∀ (R:List Rat) (r:Rat),r∈R→ev (mkp R) r=0
 | [],_,h=>by simp at h
 |s :: R,r,h=>by
  show ev (mulX s _) r=0
  rw [Zhv]
  rcases List.mem_cons.1 h with rfl|h
  ·grind
  ·rw [mkp_root R r h];grind
theorem mkp_ne:∀ (R:List Rat) (x:Rat),x ∉ R→ev (mkp R) x≠0
 | [],x,_=>by show (0:Rat)*x+1≠0;grind
 |s :: R,x,h=>by
  show ev (mulX s _) x≠0
  rw [Zhv]
  intro e
  rcases Rat.mul_eq_zero.1 e with g|g
  ·exact h (List.mem_cons.2 (.inl (by grind)))
  ·exact mkp_ne R x (fun hm=>h (List.mem_cons_of_mem _ hm)) g
def syn (r:Rat):List Rat→List Rat
 | []=> []
 |_ :: l=>ev l r :: syn r l
theorem ZgB (r:Rat):∀ p:List Rat,(syn r p).length=p.length
 | []=>rfl
 |_ :: l=>by show (syn r l).length+1=_;rw [ZgB r l];rfl
theorem Zo6 (r:Rat):∀ (p:List Rat) (x:Rat),ev p x=(x - r)*ev (syn r p) x+ev p r
 | [],x=>by show (0:Rat)=(x - r)*0+0;grind
 |a :: l,x=>by
  have:=Zo6 r l x
  show ev l x*x+a=(x - r)*(ev (syn r l) x*x+ev l r)+(ev l r*r+a)
  rw [this];grind
theorem ZhX (r:Rat):∀ p:List Rat,p≠ []→cf (syn r p) (p.length - 1)=0
 | [],h=>absurd rfl h
 | [_],_=>rfl
 |_ :: b :: l,_=>by
  have:=ZhX r (b :: l) (by simp)
  exact this
theorem Zmu (r:Rat):∀ (p:List Rat) (i:Nat),cf p i=(if i=0 then 0 else cf (syn r p) (i - 1)) - r*cf (syn r p) i+if i=0 then ev p r else 0
 | [],i=>by
  have h:∀ j,cf [] j=0:=fun _=>rfl
  show cf [] i=(if i=0 then 0 else cf [] (i - 1)) - r*cf [] i+if i=0 then 0 else 0
  rw [h,h];split<;>grind
 |a :: l,0=>by show a=0 - r*ev l r+(ev l r*r+a);grind
 |a :: l,1=>by
  have:=Zmu r l 0
  show cf l 0=ev l r - r*cf (syn r l) 0+0
  rw [this];simp only [if_true];grind
 |a :: l,i+2=>by
  have:=Zmu r l (i+1)
  show cf l (i+1)=cf (syn r l) i - r*cf (syn r l) (i+1)+0
  rw [this];simp
theorem roots_zero:∀ (R:List Rat) (p:List Rat),p.length≤R.length→R.Pairwise (· ≠ ·)→(∀ r,r∈R→ev p r=0)→∀ i,cf p i=0
 | [],p,h,_,_,i=>by
  have:p= []:=List.eq_nil_of_length_eq_zero (by simpa using h)
  rw [this];rfl
 |r :: R,p,h,hd,hr,i=>by
  by_cases hp:p= []
  ·rw [hp];rfl
  ·have hl:0< p.length:=List.length_pos_iff.2 hp
   have e0:=hr r (by simp)
   have hq:∀ s,s∈R→ev (syn r p) s=0:=fun s hs=>by
    have h1:=hr s (List.mem_cons_of_mem _ hs)
    rw [Zo6 r p s,e0] at h1
    have hne:r≠s:=(List.pairwise_cons.1 hd).1 s hs
    rcases Rat.mul_eq_zero.1 (show (s - r)*ev (syn r p) s=0 by grind) with g|g
    ·exact absurd (by grind) hne
    ·exact g
   have htk:∀ j,cf ((syn r p).take (p.length - 1)) j=cf (syn r p) j:=fun j=>by
    unfold cf
    rw [List.getElem?_take]
    split
    ·rfl
    ·rename_i hj
     by_cases e:j=p.length - 1
     ·subst e;have:=ZhX r p hp;unfold cf at this;rw [this];rfl
     ·rw [List.getElem?_eq_none (by rw [ZgB];omega)]
   have hz:=roots_zero R ((syn r p).take (p.length - 1)) (by rw [List.length_take,ZgB];simp only [List.length_cons] at h;omega) (List.pairwise_cons.1 hd).2 fun s hs=>by
    rw [ev_ext _ _ htk s];exact hq s hs
   have hc:∀ j,cf (syn r p) j=0:=fun j=>(htk j).symm.trans (hz j)
   rw [Zmu r p i,hc,e0]
   split
   ·grind
   ·rw [hc];grind
def sumR (f:Rat→Rat):List Rat→Rat
 | []=>0
 |r :: R=>f r+sumR f R
theorem Zd3 {f g:Rat→Rat}:∀ R:List Rat,(∀ r,r∈R→f r=g r)→sumR f R=sumR g R
 | [],_=>rfl
 |r :: R,h=>by
  show f r+sumR f R=g r+sumR g R
  rw [h r (by simp),Zd3 R fun s hs=>h s (List.mem_cons_of_mem _ hs)]
theorem Zkc {f:Rat→Rat}:∀ R:List Rat,0≤sumR (fun r=>f r*f r) R∧((∃ r,r∈R∧f r≠0)→0< sumR (fun r=>f r*f r) R)
 | []=>⟨Rat.le_refl,fun ⟨r,h,_⟩=>by simp at h⟩
 |r :: R=>by
  have ih:=Zkc (f:=f) R
  have sq:∀ a:Rat,0≤a*a:=fun a=>by
   by_cases h:0≤a
   ·exact Rat.mul_nonneg h h
   ·have:=Rat.mul_nonneg (by grind:0≤-a) (by grind:0≤-a);grind
  have h1:=sq (f r)
  refine⟨by show 0≤f r*f r+_;grind,fun ⟨s,hs,h0⟩=> ?_⟩
  show 0< f r*f r+_
  rcases List.mem_cons.1 hs with rfl|hs
  ·have:f s*f s≠0:=fun e=>by rcases Rat.mul_eq_zero.1 e with h|h<;>exact h0 h
   grind
  ·have:=ih.2 ⟨s,hs,h0⟩;grind
def der:Nat→List Rat→List Rat
 |_, []=> []
 |k,a :: l=>((k:Nat):Rat)*a :: der (k+1) l
def dif (p:List Rat):List Rat:=(der 0 p).tail
theorem Zo7:∀ (k:Nat) (p:List Rat) (x:Rat),ev (der (k+1) p) x=ev (der k p) x+ev p x
 |_, [],_=>by show (0:Rat)=0+0;grind
 |k,a :: l,x=>by
  have:=Zo7 (k+1) l x
  show ev (der (k+2) l) x*x+((k+1:Nat):Rat)*a=(ev (der (k+1) l) x*x+(k:Rat)*a)+(ev l x*x+a)
  rw [this]
  have:((k+1:Nat):Rat)=(k:Rat)+1:=by simp
  rw [this];grind
theorem ZsE (p:List Rat) (x:Rat):ev (dif p) x*x=ev (der 0 p) x:=by
 cases p with
 |nil=>show (0:Rat)*x=0;grind
 |cons a l=>
  show ev (der 1 l) x*x=ev (der 1 l) x*x+((0:Nat):Rat)*a
  have:((0:Nat):Rat)=0:=rfl
  rw [this];grind
theorem Zc3 (a:Rat) (l:List Rat) (x:Rat):ev (dif (a :: l)) x=ev l x+x*ev (dif l) x:=by
 show ev (der 1 l) x=_
 rw [Zo7 0 l x,← ZsE l x];grind
theorem Zmd (t:Rat):∀ (p q:List Rat) (x:Rat),ev (dif (lin t p q)) x=t*ev (dif p) x+ev (dif q) x
 | [],q,x=>by show ev (dif q) x=t*ev (dif []) x+_;rw [show ev (dif []) x=0 from rfl];grind
 |a :: p, [],x=>by
  have h:∀ (k:Nat) (p:List Rat),ev (der k (p.map fun c=>t*c)) x=t*ev (der k p) x:=fun k p=>by
   induction p generalizing k with
   |nil=>show (0:Rat)=t*0;grind
   |cons a l ih=>
    show ev (der (k+1) (l.map _)) x*x+(k:Rat)*(t*a)=t*(ev (der (k+1) l) x*x+(k:Rat)*a)
    rw [ih];grind
  show ev (der 1 (p.map _)) x=t*ev (der 1 p) x+0
  rw [h];grind
 |a :: p,b :: q,x=>by
  have ih:=Zmd t p q x
  show ev (dif ((t*a+b) :: lin t p q)) x=_
  rw [Zc3,Zc3,Zc3,ih,ev_lin];grind
theorem Zn8 (r:Rat) (p:List Rat) (x:Rat):ev (dif (mulX r p)) x=ev p x+(x - r)*ev (dif p) x:=by
 unfold mulX
 rw [Zmd,Zc3];grind
theorem Ze8:∀ (R:List Rat),R.Pairwise (· ≠ ·)→∀ r,r∈R→ev (dif (mkp R)) r=ev (mkp (R.erase r)) r
 | [],_,_,h=>by simp at h
 |s :: R,hd,r,h=>by
  show ev (dif (mulX s (mkp R))) r=_
  rw [Zn8]
  by_cases e:s=r
  ·subst e;rw [List.erase_cons_head];grind
  ·rcases List.mem_cons.1 h with g|g
   ·exact absurd g.symm e
   ·rw [List.erase_cons_tail (by simpa using e)]
    show _=ev (mulX s (mkp (R.erase r))) r
    rw [Zhv,Ze8 R (List.pairwise_cons.1 hd).2 r g,mkp_root R r g];grind
theorem Zpc {R:List Rat} (hd:R.Pairwise (· ≠ ·)) {r:Rat} (h:r∈R):ev (dif (mkp R)) r≠0:=by
 rw [Ze8 R hd r h]
 refine mkp_ne _ r fun g=> ?_
 have hn:R.Nodup:=hd
 exact(List.Nodup.mem_erase_iff hn).1 g|>.1 rfl
def lag (t:Rat→Rat) (R:List Rat):List Rat→List Rat
 | []=> []
 |r :: S=>lin (t r) (mkp (R.erase r)) (lag t R S)
theorem ZoN (t:Rat→Rat) (R:List Rat) (hd:R.Pairwise (· ≠ ·)) {x:Rat} (hx:x∈R):∀ S:List Rat,S.Pairwise (· ≠ ·)→(∀ s,s∈S→s∈R)→ev (lag t R S) x=if x∈S then t x*ev (dif (mkp R)) x else 0
 | [],_,_=>by simp [lag,ev]
 |r :: S,hs,hS=>by
  have ih:=ZoN t R hd hx S (List.pairwise_cons.1 hs).2 fun s h=>hS s (List.mem_cons_of_mem _ h)
  show ev (lin (t r) (mkp (R.erase r)) (lag t R S)) x=_
  rw [ev_lin,ih]
  by_cases e:x=r
  ·subst e
   have hn:x ∉ S:=fun h=>(List.pairwise_cons.1 hs).1 x h rfl
   rw [if_neg hn,if_pos (by simp),Ze8 R hd x hx];grind
  ·have hm:x∈R.erase r:=(List.mem_erase_of_ne e).2 hx
   rw [mkp_root _ x hm]
   have:(x∈r :: S)↔x∈S:=by rw [List.mem_cons];exact⟨fun h=>h.resolve_left e,.inr⟩
   simp only [this];grind
theorem Zlq (t:Rat→Rat) (R:List Rat):∀ S:List Rat,(∀ s,s∈S→s∈R)→(lag t R S).length≤R.length
 | [],_=>Nat.zero_le _
 |r :: S,h=>by
  have ih:=Zlq t R S fun s hs=>h s (List.mem_cons_of_mem _ hs)
  have hr:=h r (by simp)
  have hp:0< R.length:=List.length_pos_of_mem hr
  show (lin _ _ _).length≤_
  rw [lin_len,mkp_len,List.length_erase_of_mem hr];omega
theorem ZoO (t:Rat→Rat) (R:List Rat):∀ S:List Rat,(∀ s,s∈S→s∈R)→cf (lag t R S) (R.length - 1)=sumR t S
 | [],_=>rfl
 |r :: S,h=>by
  have ih:=ZoO t R S fun s hs=>h s (List.mem_cons_of_mem _ hs)
  have hr:=h r (by simp)
  show cf (lin _ _ _) _=t r+sumR t S
  rw [cf_lin,ih,← List.length_erase_of_mem hr,mkp_top];grind
theorem lagrange {R:List Rat} (hd:R.Pairwise (· ≠ ·)) {f:List Rat} (hf:f.length≤R.length):sumR (fun r=>ev f r*(ev (dif (mkp R)) r)⁻¹) R=cf f (R.length - 1):=by
 have key:=roots_zero R (lin (-1) f (lag (fun r=>ev f r*(ev (dif (mkp R)) r)⁻¹) R R)) (by rw [lin_len];have:=Zlq (fun r=>ev f r*(ev (dif (mkp R)) r)⁻¹) R R fun _ h=>h;omega) hd (fun r hr=>by
  rw [ev_lin,ZoN _ R hd hr R hd fun _ h=>h,if_pos hr]
  have:=Rat.inv_mul_cancel _ (Zpc hd hr)
  grind) (R.length - 1)
 rw [cf_lin,ZoO _ R R fun _ h=>h] at key
 grind
def mulP:List Rat→List Rat→List Rat
 | [],_=> []
 |a :: p,q=>lin a q (0 :: mulP p q)
theorem Ze6:∀ (p q:List Rat) (x:Rat),ev (mulP p q) x=ev p x*ev q x
 | [],q,x=>by show (0:Rat)=0*_;grind
 |a :: p,q,x=>by
  have:=Ze6 p q x
  show ev (lin a q (0 :: mulP p q)) x=(ev p x*x+a)*ev q x
  rw [ev_lin]
  show _+(ev (mulP p q) x*x+0)=_
  rw [this];grind
theorem Zlc:∀ (p q:List Rat),(mulP p q).length≤max p.length (p.length+q.length - 1)
 | [],q=>Nat.zero_le _
 |a :: p,q=>by
  have ih:=Zlc p q
  show (lin a q (0 :: mulP p q)).length≤_
  rw [lin_len,List.length_cons,List.length_cons]
  omega
theorem ZcX (p q:List Rat) (m:Nat) (h1:p.length≤m) (h2:p.length+q.length≤m+1):(mulP p q).length≤m:=by
 have:=Zlc p q
 omega
theorem ZcW:∀ (p q:List Rat) (i j:Nat),p.length≤i+1→q.length≤j+1→cf (mulP p q) (i+j)=cf p i*cf q j
 | [],q,i,j,_,_=>by show (0:Rat)=0*_;grind
 |a :: p,q,0,j,h1,h2=>by
  have:p= []:=List.eq_nil_of_length_eq_zero (by simp only [List.length_cons] at h1;omega)
  subst this
  show cf (lin a q (0 :: [])) (0+j)=a*cf q j
  rw [cf_lin,Nat.zero_add]
  cases j with
  |zero=>show _+(0:Rat)=_;grind
  |succ j=>show _+(0:Rat)=_;grind
 |a :: p,q,i+1,j,h1,h2=>by
  have ih:=ZcW p q i j (by simp only [List.length_cons] at h1;omega) h2
  show cf (lin a q (0 :: mulP p q)) (i+1+j)=cf p i*cf q j
  rw [cf_lin,show i+1+j=(i+j)+1 by omega,cf_ge (p:=q) (by omega)]
  show a*0+cf (mulP p q) (i+j)=_
  rw [ih];grind
structure Run (R:List Rat) (k:Nat) (a b ua ub:List Rat):Prop where
 la:a.length+k=R.length+2
 lb:b.length+k=R.length+1
 ta:cf a (R.length+1 - k)≠0
 tb:cf b (R.length - k)≠0
 na:∀ r,r∈R→ev a r=ev ua r*ev (dif (mkp R)) r
 nb:∀ r,r∈R→ev b r=ev ub r*ev (dif (mkp R)) r
 lua:ua.length≤k
 lub:ub.length≤k
 sg:0< cf ub (k - 1)*cf b (R.length - k)
theorem run_step {R : List Rat} {k : Nat} {a b ua ub rest : List Rat} {b0 b1 : Rat} (hd : R.Pairwise (· ≠ ·)) (hk : 1 ≤ k) (hkn : k < R.length) (h : Run R k a b ua ub)
    (hr : rest.length + k ≤ R.length) (e : ∀ x, ev a x = (b1 * x + b0) * ev b x + ev rest x) :
    b1 * cf b (R.length - k) = cf a (R.length + 1 - k) ∧ cf rest (R.length - k - 1) * cf a (R.length + 1 - k) < 0 ∧
    ∀ t : Rat, t ≠ 0 → rest.length + k = R.length → Run R (k + 1) b (rest.map fun c => t * c) ub (lin (-1 * t) (mulP [b0, b1] ub) (ua.map fun c => t * c)) := by
  have hc : ∀ i, cf a i = cf (lin 1 (mulP [b0, b1] b) rest) i := by
    intro i
    have hz := roots_zero (List.map (fun n : Nat => (n : Rat)) (List.range (R.length + 2))) (lin (-1) a (lin 1 (mulP [b0, b1] b) rest)) (by
      rw [lin_len, lin_len, List.length_map, List.length_range]
      have := ZcX [b0, b1] b (R.length + 2) (by simp only [List.length_cons, List.length_nil]; omega) (by simp only [List.length_cons, List.length_nil]; have := h.lb; omega)
      have := h.la; omega) (List.pairwise_map.2 (List.nodup_range.imp fun hne he => hne (by exact_mod_cast he))) (fun x _ => by
      rw [ev_lin, ev_lin, Ze6, e x]
      show -1 * _ + (1 * (((0 * x + b1) * x + b0) * ev b x) + ev rest x) = 0
      grind) i
    rw [cf_lin] at hz; grind
  have hb1 : b1 * cf b (R.length - k) = cf a (R.length + 1 - k) := by
    have := hc (R.length + 1 - k)
    rw [cf_lin, cf_ge (p := rest) (by omega), show R.length + 1 - k = 1 + (R.length - k) by omega, ZcW [b0, b1] b 1 (R.length - k) (by simp) (by have := h.lb; omega)] at this
    rw [show R.length + 1 - k = 1 + (R.length - k) by omega, this]
    show _ = 1 * (b1 * _) + 0
    grind
  have hn : ∀ r, r ∈ R → ev rest r = ev (lin (-1) (mulP [b0, b1] ub) ua) r * ev (dif (mkp R)) r := fun r hr => by
    have h1 := e r
    rw [h.na r hr, h.nb r hr] at h1
    rw [ev_lin, Ze6]
    show _ = (-1 * (((0 * r + b1) * r + b0) * ev ub r) + ev ua r) * _
    grind
  generalize hu : lin (-1) (mulP [b0, b1] ub) ua = u at *
  have hul : u.length ≤ k + 1 := by
    rw [← hu, lin_len]
    have := ZcX [b0, b1] ub (k + 1) (by simp only [List.length_cons, List.length_nil]; omega) (by simp only [List.length_cons, List.length_nil]; have := h.lub; omega)
    have := h.lua; omega
  have hut : cf u k = -(b1 * cf ub (k - 1)) := by
    rw [← hu, cf_lin, cf_ge (p := ua) h.lua, show k = 1 + (k - 1) by omega, ZcW [b0, b1] ub 1 (k - 1) (by simp) (by have := h.lub; omega)]
    show -1 * (b1 * _) + 0 = _
    rw [show 1 + (k - 1) - 1 = k - 1 by omega]; grind
  have hb10 : b1 ≠ 0 := fun e0 => h.ta (by rw [← hb1, e0]; grind)
  have hsg := h.sg
  have hub0 : cf ub (k - 1) ≠ 0 := fun e0 => by rw [e0] at hsg; grind
  have hu0 : cf u k ≠ 0 := fun e0 => by
    rw [hut] at e0
    rcases Rat.mul_eq_zero.1 (show b1 * cf ub (k - 1) = 0 by grind) with g | g
    · exact hb10 g
    · exact hub0 g
  have hsum : sumR (fun r => ev u r * ev u r) R = cf u k * cf rest (R.length - k - 1) := by
    have hl := lagrange hd (f := mulP u rest) (ZcX u rest R.length (by omega) (by omega))
    rw [show R.length - 1 = k + (R.length - k - 1) by omega, ZcW u rest k (R.length - k - 1) hul (by omega)] at hl
    rw [← hl]
    refine Zd3 R fun r hr => ?_
    rw [Ze6, hn r hr]
    have := Rat.mul_inv_cancel _ (Zpc hd hr)
    grind
  have hpos : 0 < sumR (fun r => ev u r * ev u r) R := by
    refine (Zkc R).2 ?_
    refine Classical.byContradiction fun hno => hu0 ?_
    refine roots_zero R u (by omega) hd (fun r hr => ?_) k
    exact Classical.byContradiction fun h0 => hno ⟨r, hr, h0⟩
  rw [hsum, hut] at hpos
  have htb := h.tb
  refine ⟨hb1, ?_, fun t ht hlr => ?_⟩
  · -- signs
    have : cf a (R.length + 1 - k) * cf a (R.length + 1 - k) ≠ 0 := fun e0 => by rcases Rat.mul_eq_zero.1 e0 with g | g <;> exact h.ta g
    rw [← hb1]
    have h1 := Rat.mul_pos hpos hsg
    have h2 : -(b1 * cf ub (k - 1)) * cf rest (R.length - k - 1) * (cf ub (k - 1) * cf b (R.length - k)) = -(cf rest (R.length - k - 1) * (b1 * cf b (R.length - k))) * (cf ub (k - 1) * cf ub (k - 1)) := by grind
    rw [h2] at h1
    refine Rat.not_le.1 fun hle => ?_
    have h3 : 0 ≤ cf ub (k - 1) * cf ub (k - 1) := by
      by_cases g : 0 ≤ cf ub (k - 1)
      · exact Rat.mul_nonneg g g
      · have := Rat.mul_nonneg (by grind : 0 ≤ -cf ub (k - 1)) (by grind : 0 ≤ -cf ub (k - 1)); grind
    have h4 := Rat.mul_nonneg hle h3
    grind
  · have hrt : cf rest (R.length - k - 1) ≠ 0 := fun e0 => by rw [e0] at hpos; grind
    have ht2 : 0 < t * t := by
      have : t * t ≠ 0 := fun e0 => by rcases Rat.mul_eq_zero.1 e0 with g | g <;> exact ht g
      by_cases g : 0 ≤ t
      · have := Rat.mul_nonneg g g; grind
      · have := Rat.mul_nonneg (by grind : 0 ≤ -t) (by grind : 0 ≤ -t); grind
    have cfm : ∀ (p : List Rat) (i : Nat), cf (p.map fun c => t * c) i = t * cf p i := fun p i => by
      unfold cf
      rw [List.getElem?_map]
      cases p[i]? with
      | none => show (0 : Rat) = t * 0; grind
      | some c => rfl
    have hU : ∀ i, cf (lin (-1 * t) (mulP [b0, b1] ub) (ua.map fun c => t * c)) i = t * cf u i := fun i => by
      rw [← hu, cf_lin, cf_lin, cfm]; grind
    have hUe : ∀ x, ev (lin (-1 * t) (mulP [b0, b1] ub) (ua.map fun c => t * c)) x = t * ev u x := fun x => by
      rw [← hu, ev_lin, ev_lin, ev_scale]; grind
    exact {
      la := by have := h.lb; omega
      lb := by rw [List.length_map]; omega
      ta := by rw [show R.length + 1 - (k + 1) = R.length - k by omega]; exact htb
      tb := by
        rw [cfm, show R.length - (k + 1) = R.length - k - 1 by omega]
        exact fun e0 => by rcases Rat.mul_eq_zero.1 e0 with g | g; exact ht g; exact hrt g
      na := h.nb
      nb := fun r hr => by rw [ev_scale, hUe, hn r hr]; grind
      lua := by have := h.lub; omega
      lub := by
        rw [lin_len, List.length_map]
        have := ZcX [b0, b1] ub (k + 1) (by simp only [List.length_cons, List.length_nil]; omega) (by simp only [List.length_cons, List.length_nil]; have := h.lub; omega)
        have := h.lua; omega
      sg := by
        rw [hU, cfm, show k + 1 - 1 = k by omega, show R.length - (k + 1) = R.length - k - 1 by omega, hut]
        have := Rat.mul_pos ht2 hpos
        grind }
theorem dif_len (p:List Rat):(dif p).length=p.length - 1:=by
 have h:∀ (k:Nat) (p:List Rat),(der k p).length=p.length:=fun k p=>by
  induction p generalizing k with
  |nil=>rfl
  |cons a l ih=>show (der (k+1) l).length+1=_;rw [ih];rfl
 unfold dif
 rw [List.length_tail,h]
theorem Zpi:∀ (k:Nat) (p:List Rat) (i:Nat),cf (der k p) i=((k+i:Nat):Rat)*cf p i
 |_, [],_=>by show (0:Rat)=_*0;grind
 |k,a :: l,0=>rfl
 |k,a :: l,i+1=>by
  show cf (der (k+1) l) i=_*cf l i
  rw [Zpi (k+1) l i,show k+1+i=k+(i+1) by omega]
theorem cf_dif (p:List Rat) (i:Nat):cf (dif p) i=((i+1:Nat):Rat)*cf p (i+1):=by
 have:=Zpi 0 p (i+1)
 rw [Nat.zero_add] at this
 rw [← this]
 unfold dif cf
 rw [List.getElem?_tail]
theorem run_first {R:List Rat} (hR:0< R.length) {s t:Rat} (hs:s≠0) (ht:t≠0):Run R 1 ((mkp R).map fun c=>s*c) ((dif (mkp R)).map fun c=>t*c) [] [t] where
 la:=by rw [List.length_map,mkp_len]
 lb:=by rw [List.length_map,dif_len,mkp_len];omega
 ta:=by
  have cfm:∀ (p:List Rat) (i:Nat),cf (p.map fun c=>s*c) i=s*cf p i:=fun p i=>by
   unfold cf;rw [List.getElem?_map]
   cases p[i]? with
   |none=>show (0:Rat)=s*0;grind
   |some c=>rfl
  rw [cfm,show R.length+1 - 1=R.length by omega,mkp_top];grind
 tb:=by
  have cfm:∀ (p:List Rat) (i:Nat),cf (p.map fun c=>t*c) i=t*cf p i:=fun p i=>by
   unfold cf;rw [List.getElem?_map]
   cases p[i]? with
   |none=>show (0:Rat)=t*0;grind
   |some c=>rfl
  rw [cfm,cf_dif,show R.length - 1+1=R.length by omega,mkp_top]
  have hn:((R.length:Nat):Rat)≠0:=fun e=>by
   have e2:(R.length:Nat)=0:=by exact_mod_cast e
   omega
  intro e
  rcases Rat.mul_eq_zero.1 e with g|g
  ·exact ht g
  ·exact hn (by grind)
 na:=fun r hr=>by rw [ev_scale,mkp_root R r hr];show _=(0:Rat)*_;grind
 nb:=fun r _=>by rw [ev_scale];show _=(0*r+t)*_;grind
 lua:=by simp
 lub:=by simp
 sg:=by
  have cfm:∀ (p:List Rat) (i:Nat),cf (p.map fun c=>t*c) i=t*cf p i:=fun p i=>by
   unfold cf;rw [List.getElem?_map]
   cases p[i]? with
   |none=>show (0:Rat)=t*0;grind
   |some c=>rfl
  rw [cfm,cf_dif,show R.length - 1+1=R.length by omega,mkp_top]
  show 0< t*(t*(((R.length:Nat):Rat)*1))
  have ht2:0< t*t:=by
   have:t*t≠0:=fun e0=>by rcases Rat.mul_eq_zero.1 e0 with g|g<;>exact ht g
   by_cases g:0≤t
   ·have:=Rat.mul_nonneg g g;grind
   ·have:=Rat.mul_nonneg (by grind:0≤-t) (by grind:0≤-t);grind
  have hn:(0:Rat)< ((R.length:Nat):Rat):=by exact_mod_cast hR
  have:=Rat.mul_pos ht2 hn
  grind
def dotc:List Rat→List (Nat→Rat)→Nat→Rat
 |x :: c,q :: r,i=>x*q i+dotc c r i
 |_,_,_=>0
theorem Ze7:∀ (c1:List Rat) (s:List (Nat→Rat)) (c2:List Rat) (t:List (Nat→Rat)) (i:Nat),c1.length=s.length→dotc (c1++c2) (s++t) i=dotc c1 s i+dotc c2 t i
 | [], [],_,_,_,_=>by show dotc _ _ _=0+_;rw [Rat.zero_add];rfl
 | [],_ :: _,_,_,_,h=>by simp at h
 |_ :: _, [],_,_,_,h=>by simp at h
 |x :: c,q :: s,c2,t,i,h=>by
  have:=Ze7 c s c2 t i (by simpa using h)
  show x*q i+dotc (c++c2) (s++t) i=x*q i+dotc c s i+_
  rw [this,Rat.add_assoc]
theorem Zgg (p:Nat→Rat) (V:Nat) (k:Rat) (i:Nat):∀ (c:List Rat) (r:List (Nat→Rat)),dotc c (r.map fun q=>fun j=>q j - p j*(q V*k)) i=dotc c r i - p i*(dotc c r V*k)
 | [],r=>by cases r<;>(show (0:Rat)=0 - p i*(0*k);grind)
 |_ :: _, []=>by show (0:Rat)=0 - p i*(0*k);grind
 |x :: c,q :: r=>by
  have:=Zgg p V k i c r
  show x*(q i - p i*(q V*k))+dotc c (r.map _) i=x*q i+dotc c r i - p i*((x*q V+dotc c r V)*k)
  rw [this];grind
theorem Zgf {i:Nat}:∀ (c:List Rat) (r:List (Nat→Rat)),(∀ q,q∈r→q i=0)→dotc c r i=0
 | [],_,_=>by unfold dotc;rfl
 |_ :: _, [],_=>rfl
 |x :: c,q :: r,h=>by
  have:=Zgf c r fun q hq=>h q (List.mem_cons_of_mem _ hq)
  show x*q i+dotc c r i=0
  rw [this,h q (by simp)];grind
theorem ker:∀ (V:Nat) (cols:List (Nat→Rat)),V< cols.length→∃ c:List Rat,c.length=cols.length∧(∃ x,x∈c∧x≠0)∧∀ i,i< V→dotc c cols i=0
 |0,cols,h=>⟨List.replicate cols.length 1,by simp,⟨1,List.mem_replicate.2 ⟨by omega,rfl⟩,by decide⟩,fun i hi=>by omega⟩
 |V+1,cols,h=>by
  by_cases g:∀ q,q∈cols→q V=0
  ·obtain⟨c,h1,h2,h3⟩:=ker V cols (by omega)
   refine⟨c,h1,h2,fun i hi=> ?_⟩
   by_cases e:i=V
   ·subst e;exact Zgf c cols g
   ·exact h3 i (by omega)
  ·obtain⟨p,hp,hpV⟩:∃ p,p∈cols∧p V≠0:=by
    refine Classical.byContradiction fun hn=>g fun q hq=> ?_
    exact Classical.byContradiction fun hq0=>hn ⟨q,hq,hq0⟩
   obtain⟨s,t,rfl⟩:=List.append_of_mem hp
   have hl:V< ((s++t).map fun q=>fun j=>q j - p j*(q V*(p V)⁻¹)).length:=by simp at h ⊢;omega
   obtain⟨c,h1,⟨x,hx,hx0⟩,h3⟩:=ker V _ hl
   rw [List.length_map,List.length_append] at h1
   have hc:c=c.take s.length++c.drop s.length:=(List.take_append_drop _ _).symm
   have hl1:(c.take s.length).length=s.length:=by rw [List.length_take];omega
   have hs:∀ i,dotc (c.take s.length++(-(dotc c (s++t) V*(p V)⁻¹)) :: c.drop s.length) (s++p :: t) i=dotc c (s++t) i+ -(dotc c (s++t) V*(p V)⁻¹)*p i:=fun i=>by
    rw [Ze7 _ _ _ _ i hl1]
    show dotc (c.take s.length) s i+(-(dotc c (s++t) V*(p V)⁻¹)*p i+dotc (c.drop s.length) t i)=_
    have:dotc c (s++t) i=dotc (c.take s.length) s i+dotc (c.drop s.length) t i:=by
     conv=>lhs;rw [hc]
     exact Ze7 _ _ _ _ i hl1
    rw [this];grind
   refine⟨_,?_,⟨x,?_,hx0⟩,fun i hi=>(hs i).trans ?_⟩
   ·rw [List.length_append,List.length_cons,hl1,List.length_drop,List.length_append,List.length_cons];omega
   ·rw [hc,List.mem_append] at hx
    rw [List.mem_append,List.mem_cons]
    rcases hx with h|h
    ·exact .inl h
    ·exact .inr (.inr h)
   ·by_cases e:i=V
    ·subst e
     have:=Rat.inv_mul_cancel _ hpV
     grind
    ·have:=h3 i (by omega)
     rw [Zgg] at this
     grind
section
variable (P q lam al : Nat → Rat)
def muF:Nat→Rat
 |0=>1
 |k+1=>muF k*lam k
def bil (b c:Nat→Rat):Nat→Rat
 |0=>0
 |k+1=>bil b c k+muF lam k*(q k*(b (k+1)*c (k+1)) - b k*c (k+1) - b (k+1)*c k)
def gra (b c:Nat→Rat):Nat→Rat
 |0=>0
 |k+1=>gra b c k+muF lam k*(al k*(b (k+1)*c (k+1)))
end
variable {P q lam al : Nat → Rat} {n : Nat}
theorem Zld (h:∀ k,k< n→0< lam k):∀ k,k≤n→0< muF lam k
 |0,_=>by show (0:Rat)< 1;decide
 |k+1,hk=>Rat.mul_pos (Zld h k (by omega)) (h k (by omega))
theorem Zcg (b c:Nat→Rat):∀ k,bil q lam b c k=bil q lam c b k
 |0=>rfl
 |k+1=>by
  show bil q lam b c k+_=bil q lam c b k+_
  rw [Zcg b c k];grind
theorem Zfh (b c d:Nat→Rat) (t:Rat):∀ k,bil q lam b (fun i=>t*c i+d i) k=t*bil q lam b c k+bil q lam b d k
 |0=>by show (0:Rat)=t*0+0;grind
 |k+1=>by
  show bil q lam b _ k+_=t*(bil q lam b c k+_)+(bil q lam b d k+_)
  rw [Zfh b c d t k];grind
theorem Ze4 (b c:Nat→Rat):∀ k,gra lam al b c k=gra lam al c b k
 |0=>rfl
 |k+1=>by
  show gra lam al b c k+_=gra lam al c b k+_
  rw [Ze4 b c k];grind
theorem Zht (b c d:Nat→Rat) (t:Rat):∀ k,gra lam al b (fun i=>t*c i+d i) k=t*gra lam al b c k+gra lam al b d k
 |0=>by show (0:Rat)=t*0+0;grind
 |k+1=>by
  show gra lam al b _ k+_=t*(gra lam al b c k+_)+(gra lam al b d k+_)
  rw [Zht b c d t k];grind
structure Vec (q lam al:Nat→Rat) (n:Nat) (x r:Rat) (W:Nat→Rat):Prop where
 z:W 0=0
 e:W (n+1)=0
 l:W n≠0
 s:∀ k,k< n→(q k - al k*(x - r))*W (k+1)=W k+lam k*W (k+2)
theorem ZmA {x r:Rat} {W b:Nat→Rat} (h:Vec q lam al n x r W) (hb:b 0=0):∀ k,k≤n→bil q lam b W k=(x - r)*gra lam al b W k+muF lam k*(b k*W (k+1))
 |0,_=>by show (0:Rat)=(x - r)*0+1*(b 0*_);rw [hb];grind
 |k+1,hk=>by
  have ih:=ZmA h hb k (by omega)
  have hs:=h.s k (by omega)
  show bil q lam b W k+_=(x - r)*(gra lam al b W k+_)+muF lam k*lam k*_
  rw [ih];grind
theorem Zc6 {x r:Rat} {W b:Nat→Rat} (h:Vec q lam al n x r W) (hb:b 0=0):bil q lam b W n=(x - r)*gra lam al b W n:=by
 rw [ZmA h hb n (Nat.le_refl _),h.e];grind
theorem ZlJ {b:Nat→Rat} (hl:∀ k,k< n→0< lam k) (ha:∀ k,k< n→0< al k):∀ k,k≤n→0≤gra lam al b b k∧(0< k→b k≠0→0< gra lam al b b k)
 |0,_=>⟨Rat.le_refl,fun h=>by omega⟩
 |k+1,hk=>by
  have ih:=(ZlJ (b:=b) hl ha k (by omega)).1
  have hm:=Zld hl k (by omega)
  have h2:=Rat.mul_pos hm (ha k (by omega))
  have sq:∀ a:Rat,0≤a*a:=fun a=>by
   by_cases h:0≤a
   ·exact Rat.mul_nonneg h h
   ·have:=Rat.mul_nonneg (by grind:0≤-a) (by grind:0≤-a);grind
  have h3:=sq (b (k+1))
  have h4:=Rat.mul_nonneg (Rat.le_of_lt h2) h3
  refine⟨?_,fun _ hb=> ?_⟩
  ·show 0≤gra lam al b b k+_;grind
  ·have:b (k+1)*b (k+1)≠0:=fun e=>by rcases Rat.mul_eq_zero.1 e with h|h<;>exact hb h
   have h5:=Rat.mul_pos h2 (by grind:0< b (k+1)*b (k+1))
   show 0< gra lam al b b k+_;grind
theorem ZmO {x r s:Rat} {W U:Nat→Rat} (h:Vec q lam al n x r W) (g:Vec q lam al n x s U) (hrs:r≠s):gra lam al U W n=0:=by
 have e1:=Zc6 h g.z
 have e2:=Zc6 g h.z
 rw [Zcg,e2,Ze4] at e1
 have:(r - s)*gra lam al U W n=0:=by grind
 rcases Rat.mul_eq_zero.1 this with h|h
 ·exact absurd (by grind) hrs
 ·exact h
variable {P q lam al : Nat → Rat} {n : Nat}
def sgR (a:Rat):Int:=if a< 0 then -1 else if a=0 then 0 else 1
def csS (P:Nat→Rat):Nat→Int×Int
 |0=>(0,0)
 |k+1=>(if sgR (P k)*(csS P k).2< 0 then (csS P k).1+1 else (csS P k).1,if sgR (P k)≠0 then sgR (P k) else (csS P k).2)
theorem Zov {a:Rat} (h:0< a):sgR a=1:=by unfold sgR;rw [if_neg (by grind),if_neg (by grind)]
theorem sg_neg {a:Rat} (h:a< 0):sgR a=-1:=by unfold sgR;rw [if_pos h]
theorem ZeJ:sgR 0=0:=by decide+kernel
theorem ZaE (a:Rat):(a< 0∧sgR a=-1)∨(a=0∧sgR a=0)∨(0< a∧sgR a=1):=by
 by_cases h:a< 0
 ·exact .inl ⟨h,sg_neg h⟩
 ·by_cases g:a=0
  ·subst g;exact .inr (.inl ⟨rfl,ZeJ⟩)
  ·exact .inr (.inr ⟨by grind,Zov (by grind)⟩)
theorem Zcv {k:Nat} (h:P k≠0):(csS P (k+1)).2=sgR (P k):=by
 have:sgR (P k)≠0:=by rcases ZaE (P k) with ⟨_,e⟩|⟨e,_⟩|⟨_,e⟩<;>first|(rw [e];decide)|exact absurd e h
 exact if_pos this
def Lin (F:(Nat→Rat)→Rat):Prop:=∀ (b c:Nat→Rat) (t:Rat),F (fun i=>t*b i+c i)=t*F b+F c
structure Chn (P q lam al:Nat→Rat) (n:Nat):Prop where
 st:∀ k,k< n→q k*P (k+1)=P k+lam k*P (k+2)
 e:P (n+1)=0
 l:P n≠0
 lp:∀ k,k< n→0< lam k
 ap:∀ k,k< n→0< al k
def Cnd (P q lam:Nat→Rat) (k:Nat):Prop:=∃ F:List ((Nat→Rat)→Rat),(F.length:Int)=(csS P (k+1)).1∧(∀ f,f∈F→Lin f)∧
 ∀ b:Nat→Rat,b 0=0→(∀ f,f∈F→f b=0)→muF lam k*(P (k+1) / P k)*(b k*b k)≤bil q lam b b k
theorem sq_nn (a:Rat):0≤a*a:=by
 by_cases h:0≤a
 ·exact Rat.mul_nonneg h h
 ·have:=Rat.mul_nonneg (by grind:0≤-a) (by grind:0≤-a);grind
theorem ZsS (_:P 0≠0):Cnd P q lam 0:=by
 refine⟨[],?_,fun f hf=>by simp at hf,fun b hb _=> ?_⟩
 ·show ((0:Nat):Int)=if sgR (P 0)*0< 0 then (0:Int)+1 else 0
  rw [Int.mul_zero,if_neg (by decide)];rfl
 ·show _≤(0:Rat);rw [hb];grind
theorem ZtI (C:Chn P q lam al n) (hn:0< n) (h:P 0=0) (h1:P 1≠0):Cnd P q lam 1:=by
 refine⟨[],?_,fun f hf=>by simp at hf,fun b hb _=> ?_⟩
 ·have e1:csS P 1=(0,0):=by
   show ((if sgR (P 0)*0< 0 then (0:Int)+1 else 0),if sgR (P 0)≠0 then sgR (P 0) else 0)=_
   rw [Int.mul_zero,if_neg (by decide),h,ZeJ,if_neg (by decide)]
  show ((0:Nat):Int)=if sgR (P 1)*(csS P 1).2< 0 then (csS P 1).1+1 else (csS P 1).1
  rw [e1,Int.mul_zero,if_neg (by decide)];rfl
 ·have hr:=C.st 0 hn
  rw [h] at hr
  have hq:q 0=lam 0*(P 2 / P 1):=by
   have:=Rat.mul_inv_cancel (P 1) h1
   rw [Rat.div_def]
   have e:q 0=q 0*P (0+1)*(P 1)⁻¹:=by grind
   rw [e,hr];grind
  show 1*lam 0*(P 2 / P 1)*(b 1*b 1)≤0+1*(q 0*(b (0+1)*b (0+1)) - b 0*b (0+1) - b (0+1)*b 0)
  rw [hb,hq];grind
theorem ZsR (C:Chn P q lam al n) {k:Nat} (hk:k< n) (h:Cnd P q lam k) (h0:P k≠0) (h1:P (k+1)≠0):Cnd P q lam (k+1):=by
 obtain⟨F,f1,f2,f3⟩:=h
 have hm:=Zld C.lp k (by omega)
 have hr:=C.st k hk
 have i0:=Rat.mul_inv_cancel (P k) h0
 have i1:=Rat.mul_inv_cancel (P (k+1)) h1
 have hq:q k=P k / P (k+1)+lam k*(P (k+2) / P (k+1)):=by
  rw [Rat.div_def,Rat.div_def]
  have e:q k=q k*P (k+1)*(P (k+1))⁻¹:=by grind
  rw [e,hr];grind
 have key:∀ b:Nat→Rat,bil q lam b b (k+1) - muF lam (k+1)*(P (k+2) / P (k+1))*(b (k+1)*b (k+1))=
   bil q lam b b k - muF lam k*(P (k+1) / P k)*(b k*b k)+muF lam k*(P k*P (k+1)*((b k*(P k)⁻¹ - b (k+1)*(P (k+1))⁻¹)*(b k*(P k)⁻¹ - b (k+1)*(P (k+1))⁻¹))):=fun b=>by
  show bil q lam b b k+_ - muF lam k*lam k*_*_=_
  rw [hq,Rat.div_def,Rat.div_def,Rat.div_def]
  generalize (P k)⁻¹=u at*
  generalize (P (k+1))⁻¹=v at*
  grind
 have hcs:(csS P (k+2)).1=if P k*P (k+1)< 0 then (csS P (k+1)).1+1 else (csS P (k+1)).1:=by
  show (if sgR (P (k+1))*(csS P (k+1)).2< 0 then (csS P (k+1)).1+1 else (csS P (k+1)).1)=_
  rw [Zcv h0]
  rcases ZaE (P k) with ⟨a,e⟩|⟨a,_⟩|⟨a,e⟩
  ·rcases ZaE (P (k+1)) with ⟨c,g⟩|⟨c,_⟩|⟨c,g⟩
   ·have:=Rat.mul_pos (by grind:0< -P k) (by grind:0< -P (k+1))
    rw [e,g,if_neg (by decide),if_neg (by grind)]
   ·exact absurd c h1
   ·have:=Rat.mul_pos (by grind:0< -P k) c
    rw [e,g,if_pos (by decide),if_pos (by grind)]
  ·exact absurd a h0
  ·rcases ZaE (P (k+1)) with ⟨c,g⟩|⟨c,_⟩|⟨c,g⟩
   ·have:=Rat.mul_pos a (by grind:0< -P (k+1))
    rw [e,g,if_pos (by decide),if_pos (by grind)]
   ·exact absurd c h1
   ·have:=Rat.mul_pos a c
    rw [e,g,if_neg (by decide),if_neg (by grind)]
 by_cases hs:P k*P (k+1)< 0
 ·refine⟨(fun b=>b k*(P k)⁻¹ - b (k+1)*(P (k+1))⁻¹) :: F,?_,fun f hf=> ?_,fun b hb hF=> ?_⟩
  ·rw [show k+1+1=k+2 from rfl,hcs,if_pos hs,← f1];simp
  ·rcases List.mem_cons.1 hf with rfl|hf
   ·intro b c t;show (t*b k+c k)*_ - (t*b (k+1)+c (k+1))*_=_;grind
   ·exact f2 f hf
  ·have a:=f3 b hb fun f hf=>hF f (List.mem_cons_of_mem _ hf)
   have c:b k*(P k)⁻¹ - b (k+1)*(P (k+1))⁻¹=0:=hF _ List.mem_cons_self
   have:=key b
   rw [c] at this
   grind
 ·refine⟨F,?_,f2,fun b hb hF=> ?_⟩
  ·rw [show k+1+1=k+2 from rfl,hcs,if_neg hs];exact f1
  ·have a:=f3 b hb hF
   have:=key b
   have c:=Rat.mul_nonneg (Rat.le_of_lt hm) (Rat.mul_nonneg (by grind:0≤P k*P (k+1)) (sq_nn (b k*(P k)⁻¹ - b (k+1)*(P (k+1))⁻¹)))
   grind
theorem ZtG (C:Chn P q lam al n) {k:Nat} (hk:k+1< n) (h:Cnd P q lam k) (h0:P k≠0) (h1:P (k+1)=0):P (k+2)≠0∧Cnd P q lam (k+2):=by
 obtain⟨F,f1,f2,f3⟩:=h
 have hr:=C.st k (by omega)
 have hl:=C.lp k (by omega)
 rw [h1] at hr
 have h2:P (k+2)≠0:=fun e=>h0 (by rw [e] at hr;grind)
 refine⟨h2,?_⟩
 have hr2:=C.st (k+1) hk
 rw [h1] at hr2
 have i2:=Rat.mul_inv_cancel (P (k+2)) h2
 have hq:q (k+1)=lam (k+1)*(P (k+3) / P (k+2)):=by
  rw [Rat.div_def]
  have e:q (k+1)=q (k+1)*P (k+1+1)*(P (k+2))⁻¹:=by grind
  rw [e,hr2];grind
 have hcs:(csS P (k+3)).1=(csS P (k+1)).1+1:=by
  have e1:csS P (k+2)=csS P (k+1):=by
   show ((if sgR (P (k+1))*(csS P (k+1)).2< 0 then (csS P (k+1)).1+1 else (csS P (k+1)).1),if sgR (P (k+1))≠0 then sgR (P (k+1)) else (csS P (k+1)).2)=_
   rw [h1,ZeJ,Int.zero_mul,if_neg (by decide),if_neg (by decide)]
  show (if sgR (P (k+2))*(csS P (k+2)).2< 0 then (csS P (k+2)).1+1 else (csS P (k+2)).1)=_
  rw [e1,Zcv h0,if_pos]
  have e:P k=-(lam k*P (k+2)):=by grind
  rcases ZaE (P (k+2)) with ⟨c,g⟩|⟨c,_⟩|⟨c,g⟩
  ·have:=Rat.mul_pos hl (by grind:0< -P (k+2))
   rw [g,Zov (by grind)];decide
  ·exact absurd c h2
  ·have:=Rat.mul_pos hl c
   rw [g,sg_neg (by grind)];decide
 refine⟨(fun b=>b (k+1)) :: F,?_,fun f hf=> ?_,fun b hb hF=> ?_⟩
 ·rw [show k+2+1=k+3 from rfl,hcs,← f1];simp
 ·rcases List.mem_cons.1 hf with rfl|hf
  ·intro b c t;rfl
  ·exact f2 f hf
 ·have a:=f3 b hb fun f hf=>hF f (List.mem_cons_of_mem _ hf)
  have c:b (k+1)=0:=hF _ List.mem_cons_self
  have e0:P (k+1) / P k=0:=by rw [h1,Rat.div_def];grind
  rw [e0] at a
  show muF lam k*lam k*lam (k+1)*(P (k+3) / P (k+2))*(b (k+2)*b (k+2))≤bil q lam b b k+muF lam k*(q k*(b (k+1)*b (k+1)) - b k*b (k+1) - b (k+1)*b k)+muF lam k*lam k*(q (k+1)*(b (k+2)*b (k+2)) - b (k+1)*b (k+2) - b (k+2)*b (k+1))
  rw [c,hq]
  generalize P (k+3) / P (k+2)=u at*
  grind
theorem ZhP (C:Chn P q lam al n) {k:Nat} (h0:P k=0) (h1:P (k+1)=0):∀ j,k+j≤n→P (k+j)=0∧P (k+j+1)=0
 |0,_=>⟨h0,h1⟩
 |j+1,hj=>by
  have ih:=ZhP C h0 h1 j (by omega)
  have hr:=C.st (k+j) (by omega)
  have hl:=C.lp (k+j) (by omega)
  refine⟨ih.2,?_⟩
  rw [ih.1,ih.2] at hr
  have:lam (k+j)*P (k+j+2)=0:=by grind
  rcases Rat.mul_eq_zero.1 this with e|e
  ·rw [e] at hl;exact absurd hl (by decide)
  ·exact e
theorem Zp3 (C:Chn P q lam al n) {k:Nat} (hk:k≤n) (h:P k=0):P (k+1)≠0:=fun e=>C.l (by
 have:=(ZhP C h e (n - k) (by omega)).1
 rwa [show k+(n - k)=n by omega] at this)
theorem Zml (C:Chn P q lam al n):∀ k,k≤n→(P k≠0→Cnd P q lam k)∧(k+1≤n→P (k+1)≠0→Cnd P q lam (k+1))
 |0,_=>⟨fun h=>ZsS h,fun hn h1=>by
  by_cases h:P 0=0
  ·exact ZtI C (by omega) h h1
  ·exact ZsR C (by omega) (ZsS h) h h1⟩
 |k+1,hk=>by
  have ih:=Zml C k (by omega)
  refine⟨fun h=>ih.2 hk h,fun hn h2=> ?_⟩
  by_cases h1:P (k+1)=0
  ·have h0:P k≠0:=fun e=>Zp3 C (by omega) e h1
   exact(ZtG C (by omega) (ih.1 h0) h0 h1).2
  ·exact ZsR C (by omega) (ih.2 hk h1) h1 h2
theorem ZtH (C:Chn P q lam al n):∃ F:List ((Nat→Rat)→Rat),(F.length:Int)=(csS P (n+1)).1∧(∀ f,f∈F→Lin f)∧∀ b:Nat→Rat,b 0=0→(∀ f,f∈F→f b=0)→0≤bil q lam b b n:=by
 obtain⟨F,f1,f2,f3⟩:=(Zml C n (Nat.le_refl _)).1 C.l
 refine⟨F,f1,f2,fun b hb hF=> ?_⟩
 have:=f3 b hb hF
 rw [C.e,Rat.div_def] at this
 grind
def cmb:List Rat→List (Nat→Rat)→Nat→Rat
 |t :: c,w :: R,i=>t*w i+cmb c R i
 |_,_,_=>0
theorem Zmt {F:(Nat→Rat)→Rat} (hF:Lin F):∀ (c:List Rat) (R:List (Nat→Rat)),F (cmb c R)=dotc c (R.map fun w=>fun _=>F w) 0
 | [],R=>by
  have h:F (fun _=>0)=0:=by have:=hF (fun _=>0) (fun _=>0) 1;simp only [Rat.mul_zero,Rat.add_zero] at this;grind
  have e:cmb [] R=fun _=>0:=by funext i;cases R<;>rfl
  rw [e,h];cases R<;>rfl
 |t :: c, []=>by
  have h:F (fun _=>0)=0:=by have:=hF (fun _=>0) (fun _=>0) 1;simp only [Rat.mul_zero,Rat.add_zero] at this;grind
  exact h
 |t :: c,w :: R=>by
  have:=Zmt hF c R
  show F (fun i=>t*w i+cmb c R i)=t*F w+dotc c (R.map _) 0
  rw [hF w (cmb c R) t,this]
theorem ZqX:∀ (c:List Rat) (R:List (Nat→Rat)),(∀ w,w∈R→w 0=0)→cmb c R 0=0
 | [],R,_=>by cases R<;>rfl
 |_ :: _, [],_=>rfl
 |t :: c,w :: R,h=>by
  have:=ZqX c R fun v hv=>h v (List.mem_cons_of_mem _ hv)
  show t*w 0+cmb c R 0=0
  rw [this,h w (by simp)];grind
theorem ZlK {W:Nat→Rat}:∀ (c:List Rat) (R:List (Nat→Rat)),(∀ w,w∈R→gra lam al W w n=0)→gra lam al W (cmb c R) n=0
 | [],R,_=>by
  have e:cmb [] R=fun i=>0*(fun _=>(0:Rat)) i+(fun _=>(0:Rat)) i:=by funext i;cases R<;>(show (0:Rat)=0*0+0;grind)
  have z:∀ k,gra lam al W (fun _=>0) k=0:=fun k=>by
   induction k with
   |zero=>rfl
   |succ k ih=>show gra lam al W (fun _=>0) k+_=0;rw [ih];grind
  rw [e,Zht,z];grind
 |_ :: _, [],_=>by
  have z:∀ k,gra lam al W (fun _=>0) k=0:=fun k=>by
   induction k with
   |zero=>rfl
   |succ k ih=>show gra lam al W (fun _=>0) k+_=0;rw [ih];grind
  exact z n
 |t :: c,w :: R,h=>by
  have:=ZlK c R fun v hv=>h v (List.mem_cons_of_mem _ hv)
  show gra lam al W (fun i=>t*w i+cmb c R i) n=0
  rw [Zht,this,h w (by simp)];grind
theorem Zms {x:Rat} (hl:∀ k,k< n→0< lam k) (ha:∀ k,k< n→0< al k) (hn:0< n) (V:Rat→Nat→Rat):∀ (R:List Rat) (c:List Rat),(∀ r,r∈R→Vec q lam al n x r (V r)∧x< r)→R.Pairwise (· ≠ ·)→c.length=R.length→
  bil q lam (cmb c (R.map V)) (cmb c (R.map V)) n≤0∧((∃ t,t∈c∧t≠0)→bil q lam (cmb c (R.map V)) (cmb c (R.map V)) n< 0)
 | [], [],_,_,_=>by
  have z:∀ k,bil q lam (fun _=>0) (fun _=>0) k=0:=fun k=>by
   induction k with
   |zero=>rfl
   |succ k ih=>show bil q lam (fun _=>0) (fun _=>0) k+_=0;rw [ih];grind
  refine⟨?_,fun ⟨t,ht,_⟩=>by simp at ht⟩
  show bil q lam (fun _=>0) (fun _=>0) n≤0
  rw [z];exact Rat.le_refl
 | [],_ :: _,_,_,h=>by simp at h
 |_ :: _, [],_,_,h=>by simp at h
 |r :: R,t :: c,hV,hd,hlen=>by
  have ih:=Zms hl ha hn V R c (fun s hs=>hV s (List.mem_cons_of_mem _ hs)) (List.pairwise_cons.1 hd).2 (by simpa using hlen)
  obtain⟨hv,hx⟩:=hV r (by simp)
  have ho:gra lam al (cmb c (R.map V)) (V r) n=0:=by
   rw [Ze4]
   refine ZlK c _ fun w hw=> ?_
   obtain⟨s,hs,rfl⟩:=List.mem_map.1 hw
   have:=(hV s (List.mem_cons_of_mem _ hs)).1
   exact ZmO this hv fun e=>(List.pairwise_cons.1 hd).1 s hs e.symm
  have h0:cmb c (R.map V) 0=0:=ZqX c _ fun w hw=>by
   obtain⟨s,hs,rfl⟩:=List.mem_map.1 hw
   exact(hV s (List.mem_cons_of_mem _ hs)).1.z
  have e1:=Zc6 (b:=cmb c (R.map V)) hv h0
  rw [ho] at e1
  have e2:=Zc6 (b:=V r) hv hv.z
  have hp:=(ZlJ (b:=V r) hl ha n (Nat.le_refl _)).2 hn hv.l
  have e:bil q lam (cmb (t :: c) ((r :: R).map V)) (cmb (t :: c) ((r :: R).map V)) n=t*t*((x - r)*gra lam al (V r) (V r) n)+bil q lam (cmb c (R.map V)) (cmb c (R.map V)) n:=by
   show bil q lam (fun i=>t*V r i+cmb c (R.map V) i) (fun i=>t*V r i+cmb c (R.map V) i) n=_
   rw [Zfh,Zcg _ (V r),Zcg _ (cmb c (R.map V)),Zfh,Zfh,e2,e1,Zcg (V r) (cmb c (R.map V)),e1];grind
  have hng:=Rat.mul_pos (by grind:0< r - x) hp
  rw [e]
  have hsq:=Rat.mul_nonneg (sq_nn t) (Rat.le_of_lt hng)
  refine⟨by grind,fun ⟨u,hu,hu0⟩=> ?_⟩
  rcases List.mem_cons.1 hu with rfl|hu
  ·have:u*u≠0:=fun e=>by rcases Rat.mul_eq_zero.1 e with h|h<;>exact hu0 h
   have h1:=sq_nn u
   have:=Rat.mul_pos (by grind:0< u*u) hng
   grind
  ·have:=ih.2 ⟨u,hu,hu0⟩
   grind
theorem Zpf {x:Rat} (C:Chn P q lam al n) (hn:0< n) (V:Rat→Nat→Rat) (R:List Rat) (hV:∀ r,r∈R→Vec q lam al n x r (V r)∧x< r) (hd:R.Pairwise (· ≠ ·)):(R.length:Int)≤(csS P (n+1)).1:=by
 obtain⟨F,f1,f2,f3⟩:=ZtH C
 refine Int.not_lt.1 fun hlt=> ?_
 have hF:F.length< (R.map fun r=>fun i:Nat=>((F.map fun f=>f (V r))[i]?).getD (0:Rat)).length:=by rw [List.length_map];omega
 obtain⟨c,c1,c2,c3⟩:=ker F.length _ hF
 rw [List.length_map] at c1
 have hb0:cmb c (R.map V) 0=0:=ZqX c _ fun w hw=>by
  obtain⟨s,hs,rfl⟩:=List.mem_map.1 hw
  exact(hV s hs).1.z
 have hneg:=(Zms (q:=q) C.lp C.ap hn V R c hV hd c1).2 c2
 refine absurd (f3 _ hb0 fun f hf=> ?_) (Rat.not_le.2 hneg)
 obtain⟨i,hi⟩:=List.mem_iff_getElem?.1 hf
 have hil:=(List.getElem?_eq_some_iff.1 hi).1
 rw [Zmt (f2 f hf)]
 rw [← c3 i hil]
 have conv:∀ (c:List Rat) (R:List Rat),dotc c ((R.map V).map fun w=>fun _=>f w) 0=dotc c (R.map fun r=>fun i:Nat=>((F.map fun f=>f (V r))[i]?).getD (0:Rat)) i:=fun c=>by
  induction c with
  |nil=>intro R;cases R<;>rfl
  |cons t c ih=>
   intro R
   cases R with
   |nil=>rfl
   |cons r R=>
    show t*f (V r)+dotc c _ 0=t*((F.map fun f=>f (V r))[i]?).getD 0+dotc c _ i
    rw [ih R,List.getElem?_map,hi];rfl
 exact conv c R
variable {P q lam al : Nat → Rat} {n : Nat}
def altF (P:Nat→Rat) (k:Nat):Rat:=if k % 2=0 then P k else -P k
theorem Zgu {k:Nat} (h:k % 2=0):altF P k=P k:=if_pos h
theorem Zgt {k:Nat} (h:¬ k % 2=0):altF P k=-P k:=if_neg h
theorem Zag {k:Nat}:altF P k=0↔P k=0:=by
 unfold altF;split<;>grind
theorem Zq3 (k:Nat):altF P k*altF P (k+1)=-(P k*P (k+1)):=by
 by_cases h:k % 2=0
 ·rw [Zgu h,Zgt (by omega)];grind
 ·rw [Zgt h,Zgu (by omega)];grind
theorem sg_mul {a b:Rat} (ha:a≠0) (hb:b≠0):(sgR a*sgR b< 0↔a*b< 0):=by
 rcases ZaE a with ⟨h,e⟩|⟨h,_⟩|⟨h,e⟩
 ·rcases ZaE b with ⟨g,f⟩|⟨g,_⟩|⟨g,f⟩
  ·have:=Rat.mul_pos (by grind:0< -a) (by grind:0< -b)
   rw [e,f];exact⟨fun h=>absurd h (by decide),fun h=>by grind⟩
  ·exact absurd g hb
  ·have:=Rat.mul_pos (by grind:0< -a) g
   rw [e,f];exact⟨fun _=>by grind,fun _=>by decide⟩
 ·exact absurd h ha
 ·rcases ZaE b with ⟨g,f⟩|⟨g,_⟩|⟨g,f⟩
  ·have:=Rat.mul_pos h (by grind:0< -b)
   rw [e,f];exact⟨fun _=>by grind,fun _=>by decide⟩
  ·exact absurd g hb
  ·have:=Rat.mul_pos h g
   rw [e,f];exact⟨fun h=>absurd h (by decide),fun h=>by grind⟩
theorem Zfc {k:Nat} (h:P k=0):csS P (k+1)=csS P k:=by
 show ((if sgR (P k)*(csS P k).2< 0 then (csS P k).1+1 else (csS P k).1),if sgR (P k)≠0 then sgR (P k) else (csS P k).2)=_
 rw [h,ZeJ,Int.zero_mul,if_neg (by decide),if_neg (by decide)]
def zP (P:Nat→Rat):Int:=if P 0=0 then 1 else 0
theorem ZhK (P:Nat→Rat):∀ k,(csS P (k+1)=(0,0)∧csS (altF P) (k+1)=(0,0)∧∀ j,j≤k→P j=0)∨
  ∃ l,l≤k∧P l≠0∧(csS P (k+1)).2=sgR (P l)∧(csS (altF P) (k+1)).2=sgR (altF P l)∧(csS P (k+1)).1+(csS (altF P) (k+1)).1+zP P≤(l:Int)
 |0=>by
  by_cases h:P 0=0
  ·left
   refine⟨Zfc h,Zfc (Zag.2 h),fun j hj=> ?_⟩
   obtain rfl:j=0:=by omega
   exact h
  ·right
   refine⟨0,Nat.le_refl _,h,Zcv h,Zcv fun e=>h (Zag.1 e),?_⟩
   show (if sgR (P 0)*0< 0 then (0:Int)+1 else 0)+(if sgR (altF P 0)*0< 0 then (0:Int)+1 else 0)+zP P≤0
   rw [Int.mul_zero,Int.mul_zero,if_neg (by decide)]
   unfold zP;rw [if_neg h];decide
 |k+1=>by
  by_cases h:P (k+1)=0
  ·rw [Zfc h,Zfc (Zag.2 h)]
   rcases ZhK P k with ⟨a,b,c⟩|⟨l,a,b⟩
   ·left
    refine⟨a,b,fun j hj=> ?_⟩
    by_cases e:j=k+1
    ·rw [e];exact h
    ·exact c j (by omega)
   ·exact .inr ⟨l,by omega,b⟩
  ·right
   have h':altF P (k+1)≠0:=fun e=>h (Zag.1 e)
   refine⟨k+1,Nat.le_refl _,h,Zcv h,Zcv h',?_⟩
   show (if sgR (P (k+1))*(csS P (k+1)).2< 0 then (csS P (k+1)).1+1 else (csS P (k+1)).1)+(if sgR (altF P (k+1))*(csS (altF P) (k+1)).2< 0 then (csS (altF P) (k+1)).1+1 else (csS (altF P) (k+1)).1)+zP P≤((k+1:Nat):Int)
   rcases ZhK P k with ⟨a,b,c⟩|⟨l,a,b,c,d,e⟩
   ·rw [a,b]
    simp only [Int.mul_zero]
    rw [if_neg (by decide)]
    unfold zP;split<;>omega
   ·rw [c,d]
    by_cases g:l=k
    ·subst g
     have h0':altF P l≠0:=fun e=>b (Zag.1 e)
     have m1:=sg_mul h b
     have m2:=sg_mul h' h0'
     have m3:=Zq3 (P:=P) l
     by_cases t:P (l+1)*P l< 0
     ·rw [if_pos (m1.2 t),if_neg fun u=>by have:=m2.1 u;grind];omega
     ·rw [if_neg fun u=>t (m1.1 u)];split<;>omega
    ·split<;>split<;>omega
theorem Zq4 (C:Chn P q lam al n):Chn (altF P) (fun k=> -q k) lam al n where
 st:=fun k hk=>by
  have:=C.st k hk
  by_cases h:k % 2=0
  ·rw [Zgu h,Zgt (by omega),Zgu (by omega)];grind
  ·rw [Zgt h,Zgu (by omega),Zgt (by omega)];grind
 e:=Zag.2 C.e
 l:=fun e=>C.l (Zag.1 e)
 lp:=C.lp
 ap:=C.ap
theorem Zq2 {x r:Rat} {W:Nat→Rat} (h:Vec q lam al n x r W):Vec (fun k=> -q k) lam al n (-x) (-r) (altF W) where
 z:=Zag.2 h.z
 e:=Zag.2 h.e
 l:=fun e=>h.l (Zag.1 e)
 s:=fun k hk=>by
  have:=h.s k hk
  by_cases h:k % 2=0
  ·rw [Zgu h,Zgt (by omega),Zgu (by omega)];grind
  ·rw [Zgt h,Zgu (by omega),Zgt (by omega)];grind
theorem chg_eq {x:Rat} (C:Chn P q lam al n) (hn:0< n) (V:Rat→Nat→Rat) (R:List Rat) (hR:R.length=n) (hV:∀ r,r∈R→Vec q lam al n x r (V r)) (hd:R.Pairwise (· ≠ ·)) (h0:∀ r,r∈R→x=r→P 0=0):
  (csS P (n+1)).1=((R.filter fun r=>decide (x< r)).length:Int):=by
 have a:=Zpf C hn V (R.filter fun r=>decide (x< r)) (fun r hr=>by
  obtain⟨h1,h2⟩:=List.mem_filter.1 hr
  exact⟨hV r h1,of_decide_eq_true h2⟩) (hd.filter _)
 have b:=Zpf (x:=-x) (Zq4 C) hn (fun r=>altF (V (-r))) ((R.filter fun r=>decide (r< x)).map fun r=> -r) (fun r hr=>by
  obtain⟨s,hs,rfl⟩:=List.mem_map.1 hr
  obtain⟨h1,h2⟩:=List.mem_filter.1 hs
  have h3:s< x:=of_decide_eq_true h2
  refine⟨?_,by grind⟩
  show Vec _ lam al n (-x) (-s) (altF (V (- -s)))
  rw [show - -s=s by grind]
  exact Zq2 (hV s h1)) (List.pairwise_map.2 ((hd.filter _).imp fun h e=>h (by grind)))
 rw [List.length_map] at b
 have t:=ZhK P n
 have s:(csS P (n+1)).1+(csS (altF P) (n+1)).1+zP P≤(n:Int):=by
  rcases t with ⟨_,_,e⟩|⟨l,hl,_,_,_,e⟩
  ·exact absurd (e n (Nat.le_refl _)) C.l
  ·omega
 have cnt:∀ R:List Rat,R.Pairwise (· ≠ ·)→(R.filter fun r=>decide (x< r)).length+(R.filter fun r=>decide (r< x)).length+(if x∈R then 1 else 0)=R.length:=by
  intro R
  induction R with
  |nil=>intro _;simp
  |cons r R ih=>
   intro hd
   obtain⟨h1,h2⟩:=List.pairwise_cons.1 hd
   have ih:=ih h2
   by_cases e:x=r
   ·subst e
    have hn:x ∉ R:=fun h=>h1 x h rfl
    rw [if_neg hn] at ih
    rw [List.filter_cons_of_neg (by simp [Rat.lt_irrefl]),List.filter_cons_of_neg (by simp [Rat.lt_irrefl]),if_pos (by simp),List.length_cons];omega
   ·have hm:(x∈r :: R)↔x∈R:=by rw [List.mem_cons];exact⟨fun h=>h.resolve_left e,.inr⟩
    have hi:(if x∈r :: R then 1 else 0)=(if x∈R then 1 else 0):=by simp only [hm]
    rw [hi,List.length_cons]
    by_cases g:x< r
    ·rw [List.filter_cons_of_pos (by simpa using g),List.filter_cons_of_neg (by simp;grind),List.length_cons];omega
    ·rw [List.filter_cons_of_neg (by simpa using g),List.filter_cons_of_pos (by simp;grind),List.length_cons];omega
 have c:=cnt R hd
 have z:(if x∈R then 1 else 0:Nat)≤zP P:=by
  unfold zP
  by_cases h:x∈R
  ·rw [if_pos h,if_pos (h0 x h rfl)];decide
  ·rw [if_neg h];split<;>decide
 omega
