/- Joined by wip/bundle.py: XRt1 XRt2 XRt3 XRt4 XRt5 XRt6 XRt7 XRt8 XRtu0. -/
import Derived.Test.YtgkofgfiifgioaaGreatDoorQGrpRa
import Derived.Test.YtgkofgfiifgioaaGreatDoorQGrpIv
namespace Go.Proofs.YtgkofgfiifgioaaGreatDoor.eng
open Go.RowKit num mem seg q held ratA ratB ratC ratD ratE vars ratF prf trq
open ine (ev cf lin)
theorem ZiI:∀ (p:List Rat) (x:Rat),evP p x=ev p x
 | [],_=>rfl
 |a :: l,x=>by
  have:=ZiI l x
  show evQ (l.map cn) x*x+(cn a).q=ev l x*x+a
  unfold evP at this
  rw [this,cn_q]
theorem tr_n:∀ p:List Rat,∃ n,n≤p.length∧(∀ (j:Nat) (c:Rat),n≤j→p[j]? =some c→c=0)∧(n=0∨∃ c:Rat,p[n - 1]? =some c∧c≠0)
 | []=>⟨0,Nat.le_refl _,fun j c _ h=>by simp at h,.inl rfl⟩
 |a :: l=>by
  obtain⟨n,h1,h2,h3⟩:=tr_n l
  by_cases hn:n=0
  ·subst hn
   by_cases ha:a=0
   ·refine⟨0,Nat.zero_le _,fun j c _ h=> ?_,.inl rfl⟩
    cases j with
    |zero=>rw [← Option.some.inj (show some a=some c from h)];exact ha
    |succ j=>exact h2 j c (Nat.zero_le _) h
   ·refine⟨1,by simp,fun j c hj h=> ?_,.inr ⟨a,rfl,ha⟩⟩
    obtain⟨i,rfl⟩:∃ i,j=i+1:=⟨j - 1,ω⟩
    exact h2 i c (Nat.zero_le _) h
  ·obtain⟨c,hc,hc0⟩:=h3.resolve_left hn
   obtain⟨m,rfl⟩:∃ m,n=m+1:=⟨n - 1,ω⟩
   refine⟨m+2,by simp only [List.length_cons];omega,fun j d hj h=> ?_,.inr ⟨c,hc,hc0⟩⟩
   obtain⟨i,rfl⟩:∃ i,j=i+1:=⟨j - 1,ω⟩
   exact h2 i d ω h
theorem Zs7 (p:List Rat) (i:Nat):cf (trP p) i=cf p i:=by
 obtain⟨n,h1,h2,h3⟩:=tr_n p
 rw [Zfm h1 h2 h3]
 unfold cf
 rw [List.getElem?_take]
 split
 ·rfl
 ·cases e:p[i]? with
  |none=>rfl
  |some c=>rw [h2 i c ω e];rfl
theorem Zrc (p:List Rat) (x:Rat):ev (trP p) x=ev p x:=ine.ev_ext _ _ (Zs7 p) x
theorem Zgx {p:List Rat} (h:gdP p):trP p=p:=by
 by_cases hp:p.length=0
 ·have:p= []:=List.eq_nil_of_length_eq_zero hp
  subst this;rfl
 ·have hl:=List.getElem?_eq_getElem (show p.length - 1< p.length by omega)
  rw [Zfm (Nat.le_refl _) (fun j c hj hc=>by have:=(List.getElem?_eq_some_iff.1 hc).1;omega) (.inr ⟨_,hl,h _ hl⟩),List.take_length]
theorem ZnX {p:List Rat} (h:cf p (p.length - 1)≠0):gdP p:=fun d hd=>by unfold cf at h;rw [hd] at h;exact h
theorem Zr7 (p:List Rat):lsQ p=cf p (p.length - 1):=rfl
theorem ZfH (p:List Rat):scQ p=p.map fun c=>(absV (cf p (p.length - 1)))⁻¹*c:=by
 unfold scQ
 refine List.map_congr_left fun c _=> ?_
 have:p.getLastD 0=cf p (p.length - 1):=by
  unfold cf;rw [List.getLastD_eq_getLast?,List.getLast?_eq_getElem?]
 rw [this,Rat.div_def,Rat.mul_comm]
theorem ZaL (t:Rat) (p:List Rat) (i:Nat):cf (p.map fun c=>t*c) i=t*cf p i:=by
 unfold cf
 rw [List.getElem?_map]
 cases p[i]? with
 |none=>show (0:Rat)=t*0;grind
 |some c=>rfl
theorem Zhi (s t:Rat) (p:List Rat):(p.map fun c=>t*c).map (fun c=>s*c)=p.map fun c=>(s*t)*c:=by
 rw [List.map_map];refine List.map_congr_left fun c _=> ?_
 show s*(t*c)=s*t*c;grind
theorem Zk7 (p:List Rat):(p.map fun x=> -x)=p.map fun c=>(-1:Rat)*c:=List.map_congr_left fun c _=>by grind
def shf (k:Nat) (p:List Rat):List Rat:=List.replicate k 0++p
def pwR (x:Rat):Nat→Rat
 |0=>1
 |k+1=>pwR x k*x
theorem Zl0 (p:List Rat) (x:Rat):∀ k,ev (shf k p) x=pwR x k*ev p x
 |0=>by show ev p x=1*ev p x;grind
 |k+1=>by
  have:=Zl0 p x k
  show ev (0 :: shf k p) x=pwR x k*x*ev p x
  show ev (shf k p) x*x+0=_
  rw [this];grind
theorem Zph (p:List Rat) (j:Nat):∀ k,cf (shf k p) j=if j< k then 0 else cf p (j - k)
 |0=>by rw [if_neg ω];rfl
 |k+1=>by
  cases j with
  |zero=>rw [if_pos ω];rfl
  |succ i=>
   show cf (shf k p) i=_
   have:=cf_shf' p i k
   rw [this]
   by_cases h:i< k
   ·rw [if_pos h,if_pos ω]
   ·rw [if_neg h,if_neg ω,show i+1 - (k+1)=i - k by omega]
where cf_shf' (p:List Rat):∀ j k,cf (shf k p) j=if j< k then 0 else cf p (j - k)
 |j,0=>by rw [if_neg ω];rfl
 |0,k+1=>by rw [if_pos ω];rfl
 |i+1,k+1=>by
  show cf (shf k p) i=_
  rw [cf_shf' p i k]
  by_cases h:i< k
  ·rw [if_pos h,if_pos ω]
  ·rw [if_neg h,if_neg ω,show i+1 - (k+1)=i - k by omega]
theorem ZtK {r q:List Rat} {k:Nat} {c:Rat} (h:k+q.length=r.length) (j:Nat):cf (sbF r q k c q.length) j=cf (lin (-c) (shf k q) r) j:=by
 rw [ine.cf_lin,Zph]
 by_cases hj:j< r.length
 ·unfold cf
  rw [ZcD hj]
  show sbE r q k c q.length j=_
  unfold sbE
  by_cases g:k≤j∧j< k+q.length
  ·rw [if_pos g,if_neg ω];grind
  ·rw [if_neg g,if_pos ω];grind
 ·rw [ine.cf_ge (by rw [Zaq];omega),ine.cf_ge (p:=r) ω]
  split
  ·grind
  ·rw [ine.cf_ge ω];grind
theorem ZsY {l:List Rat} {k:Nat} {c:Rat} (hk:k< l.length) (h0:cf l k=0) (j:Nat):cf (l.set k c) j=cf (lin c (shf k [1]) l) j:=by
 rw [ine.cf_lin,Zph]
 by_cases e:j=k
 ·subst e
  rw [if_neg ω,h0,Nat.sub_self]
  unfold cf;rw [List.getElem?_set_self hk]
  show c=c*1+0;grind
 ·have:cf (l.set k c) j=cf l j:=by unfold cf;rw [List.getElem?_set_ne (fun h=>e h.symm)]
  rw [this]
  by_cases g:j< k
  ·rw [if_pos g];grind
  ·rw [if_neg g,ine.cf_ge (p:= [1]) (by simp;omega)];grind
theorem Zpb {p q:List Rat} (hq:0< q.length) (h0:lsQ q≠0):∀ t,(∀ x,ev p x=ev (dvS p q t).1 x*ev q x+ev (dvS p q t).2 x)∧∀ j,j+q.length≤(dvS p q t).2.length→cf (dvS p q t).1 j=0
 |0=>by
  refine⟨fun x=> ?_,fun j _=> ?_⟩
  ·show ev p x=ev (List.replicate _ 0) x*ev q x+ev (trP p) x
   rw [Zrc,ine.ev_zero (List.replicate _ 0) (fun i=>by unfold cf;rw [List.getElem?_replicate];split<;>rfl)];grind
  ·show cf (List.replicate _ 0) j=0
   unfold cf;rw [List.getElem?_replicate];split<;>rfl
 |t+1=>by
  obtain⟨h1,h2⟩:=Zpb hq h0 t
  by_cases h:(dvS p q t).2.length< q.length
  ·rw [ZaN h (t+1) ω];exact⟨h1,h2⟩
  ·have hlt:=ZjO hq h0 h
   have hby:=Zn5 p q t
   have hl:=Zl5 (p:=p) hq h0 t
   rw [ZdF h] at hlt ⊢
   generalize (dvS p q t).1=by_ at*
   generalize (dvS p q t).2=rest at*
   have hz:cf by_ (rest.length - q.length)=0:=h2 _ ω
   have hk:rest.length - q.length< by_.length:=ω
   refine⟨fun x=> ?_,fun j hj=> ?_⟩
   ·show ev p x=ev (by_.set _ _) x*ev q x+ev (trP (sbF rest q _ _ _)) x
    rw [Zrc,ine.ev_ext _ _ (ZsY hk hz) x,ine.ev_ext _ _ (ZtK ω) x,ine.ev_lin,ine.ev_lin,Zl0,Zl0,h1 x]
    show _=(_*(_*(0*x+1))+_)*_+_
    grind
   ·show cf (by_.set _ _) j=0
    have hj:j+q.length≤(trP (sbF rest q (rest.length - q.length) (lsQ rest / lsQ q) q.length)).length:=hj
    have hlt:(trP (sbF rest q (rest.length - q.length) (lsQ rest / lsQ q) q.length)).length< rest.length:=hlt
    unfold cf
    rw [List.getElem?_set_ne ω]
    exact h2 j ω
theorem Zpa {p q:List Rat} (hq:0< q.length) (h0:lsQ q≠0) (x:Rat):ev p x=ev (dvF p q).1 x*ev q x+ev (dvF p q).2 x:=(Zpb hq h0 _).1 x
theorem Zhx (p q:List Rat):(dvF p q).1.length=(trP p).length+1 - q.length:=Zn5 p q _
theorem Ztx (p q:List Rat):gdP (dvF p q).2:=ZiL p q _
open ine (ev cf lin mkp dif)
theorem Zmv {p q:List Rat} (hl:p.length=q.length) (h:∀ i,cf p i=cf q i):p=q:=by
 refine List.ext_getElem? fun i=> ?_
 by_cases hi:i< p.length
 ·have a:=List.getElem?_eq_getElem hi
  have b:=List.getElem?_eq_getElem (show i< q.length by omega)
  have:=h i
  unfold cf at this
  rw [a,b] at this
  rw [a,b];exact congrArg some this
 ·rw [List.getElem?_eq_none ω,List.getElem?_eq_none ω]
theorem ZiN (p:List Rat):drF p (p.length - 1)=dif p:=by
 refine Zmv (by unfold drF;rw [List.length_map,List.length_range,ine.dif_len]) fun i=> ?_
 rw [ine.cf_dif]
 by_cases hi:i< p.length - 1
 ·unfold cf drF
  rw [List.getElem?_map,List.getElem?_range hi]
  show drQ p i=_
  unfold drQ
  have:(((i:Int)+1:Int):Rat)=((i+1:Nat):Rat):=by
   rw [show (i:Int)+1=((i+1:Nat):Int) by omega];rfl
  rw [this]
 ·rw [ine.cf_ge (by unfold drF;rw [List.length_map,List.length_range];omega),ine.cf_ge (p:=p) ω];grind
theorem Zmc (s:Rat) (p:List Rat):dif (p.map fun c=>s*c)=(dif p).map fun c=>s*c:=
 Zmv (by rw [ine.dif_len,List.length_map,List.length_map,ine.dif_len]) fun i=>by rw [ine.cf_dif,ZaL,ZaL,ine.cf_dif];grind
theorem ZaO (q:Rat):absV q=if 0≤q then q else -q:=by
 have h:=Rat.num_nonneg (q:=q)
 unfold absV
 by_cases g:0≤q
 ·rw [if_pos g,if_neg (by have:=h.2 g;omega)]
 ·rw [if_neg g,if_pos (by
   have:¬ 0≤q.num:=fun k=>g (h.1 k)
   omega)]
theorem Zq5 {a:Rat} (h:a≠0):0< absV a:=by rw [ZaO];split<;>grind
theorem Zky {R:List Rat} {k:Nat} {a b ua ub:List Rat} {s:Rat} (hs:s≠0) (h:ine.Run R k a b ua ub):ine.Run R k a (b.map fun c=>s*c) ua (ub.map fun c=>s*c) where
 la:=h.la
 lb:=by rw [List.length_map];exact h.lb
 ta:=h.ta
 tb:=by rw [ZaL];exact fun e=>by rcases Rat.mul_eq_zero.1 e with g|g;exact hs g;exact h.tb g
 na:=h.na
 nb:=fun r hr=>by rw [ine.ev_scale,ine.ev_scale,h.nb r hr];grind
 lua:=h.lua
 lub:=by rw [List.length_map];exact h.lub
 sg:=by
  rw [ZaL,ZaL]
  have h2:0< s*s:=by
   have:=ine.sq_nn s
   have:s*s≠0:=fun e=>by rcases Rat.mul_eq_zero.1 e with g|g<;>exact hs g
   grind
  have:=Rat.mul_pos h2 h.sg
  grind
theorem ZrF {R:List Rat} {k:Nat} {a b ua ub:List Rat} {s:Rat} (hs:s≠0) (h:ine.Run R k a b ua ub):ine.Run R k (a.map fun c=>s*c) b (ua.map fun c=>s*c) ub where
 la:=by rw [List.length_map];exact h.la
 lb:=h.lb
 ta:=by rw [ZaL];exact fun e=>by rcases Rat.mul_eq_zero.1 e with g|g;exact hs g;exact h.ta g
 tb:=h.tb
 na:=fun r hr=>by rw [ine.ev_scale,ine.ev_scale,h.na r hr];grind
 nb:=h.nb
 lua:=by rw [List.length_map];exact h.lua
 lub:=h.lub
 sg:=h.sg
theorem ZrG {R:List Rat} {k:Nat} {a b ua ub:List Rat} (h:ine.Run R k a b ua ub):gdP a:=ZnX (by have:=h.la;rw [show a.length - 1=R.length+1 - k by omega];exact h.ta)
theorem ZbZ {R:List Rat} {k:Nat} {a b ua ub:List Rat} (h:ine.Run R k a b ua ub) (hk:k≤R.length):gdP b∧0< b.length∧lsQ b=cf b (R.length - k):=by
 have hb:=h.lb
 refine⟨ZnX (by rw [show b.length - 1=R.length - k by omega];exact h.tb),ω,?_⟩
 rw [Zr7,show b.length - 1=R.length - k by omega]
theorem ZjQ {a b:List Rat} {b0 b1:Rat} (ha:a.length=2) (hb:b.length=1) (h:∀ x,ev a x=(b1*x+b0)*ev b x):b1*cf b 0=cf a 1:=by
 obtain⟨c,rfl⟩:∃ c,b= [c]:=by
  match b,hb with
  | [c],_=>exact⟨c,rfl⟩
 obtain⟨a0,a1,rfl⟩:∃ a0 a1,a= [a0,a1]:=by
  match a,ha with
  | [u,v],_=>exact⟨u,v,rfl⟩
 have h0:(0*0+a1)*0+a0=(b1*0+b0)*(0*0+c):=h 0
 have h1:(0*1+a1)*1+a0=(b1*1+b0)*(0*1+c):=h 1
 show b1*c=a1
 grind
theorem ZgX {R : List Rat} {k : Nat} {a b ua ub : List Rat} (hd : R.Pairwise (· ≠ ·)) (hk : 1 ≤ k) (hkn : k ≤ R.length) (h : ine.Run R k a b ua ub) :
    ∃ b0 b1 : Rat, (∀ x, ev a x = (b1 * x + b0) * ev b x + ev (dvF a b).2 x) ∧ b1 * cf b (R.length - k) = cf a (R.length + 1 - k) ∧
      (k = R.length → (dvF a b).2 = []) ∧ (k < R.length → (dvF a b).2.length + k = R.length ∧ cf (dvF a b).2 (R.length - k - 1) * cf a (R.length + 1 - k) < 0 ∧
        ∀ t : Rat, t ≠ 0 → ∃ ub', ine.Run R (k + 1) b ((dvF a b).2.map fun c => t * c) ub ub') := by
  obtain ⟨g1, g2, g3⟩ := ZbZ h hkn
  have hl0 : lsQ b ≠ 0 := by rw [g3]; exact h.tb
  have hlt := Zeq (p := a) g2 hl0
  have hb := h.lb
  have ha := h.la
  have hby : (dvF a b).1.length = 2 := by rw [Zhx, Zgx (ZrG h)]; omega
  obtain ⟨b0, b1, e12⟩ : ∃ b0 b1, (dvF a b).1 = [b0, b1] := by
    match hm : (dvF a b).1, hby with
    | [u, v], _ => exact ⟨u, v, rfl⟩
  have hv : ∀ x, ev a x = (b1 * x + b0) * ev b x + ev (dvF a b).2 x := fun x => by
    rw [Zpa g2 hl0 x, e12]
    show ((0 * x + b1) * x + b0) * _ + _ = _
    grind
  have hg := Ztx a b
  generalize (dvF a b).2 = rest at *
  have key : k < R.length → _ := fun hlt2 => ine.run_step (rest := rest) (b0 := b0) (b1 := b1) hd hk hlt2 h ω hv
  have hb1 : b1 * cf b (R.length - k) = cf a (R.length + 1 - k) := by
    by_cases e : k < R.length
    · exact (key e).1
    · -- the last step: constants
      have e : k = R.length := ω
      have hr : rest = [] := List.eq_nil_of_length_eq_zero ω
      subst hr
      have := ZjQ (b0 := b0) (b1 := b1) (show a.length = 2 by omega) (show b.length = 1 by omega) fun x => by
        have := hv x
        have z : ev [] x = 0 := rfl
        rw [z] at this; grind
      rw [show R.length - k = 0 by omega, show R.length + 1 - k = 1 by omega]
      exact this
  refine ⟨b0, b1, hv, hb1, fun e => List.eq_nil_of_length_eq_zero ω, fun hlt2 => ?_⟩
  obtain ⟨_, k2, k3⟩ := key hlt2
  have hne : cf rest (R.length - k - 1) ≠ 0 := fun e => by rw [e] at k2; grind
  have hlen : rest.length + k = R.length := by
    have : R.length - k - 1 < rest.length := Nat.lt_of_not_le fun hle => hne (ine.cf_ge hle)
    omega
  exact ⟨hlen, k2, fun t ht => ⟨_, k3 t ht hlen⟩⟩
def atC (C:List (List Rat)) (i:Nat):List Rat:=(C[i]?).getD []
structure Cst (R:List Rat) (ep:Rat) (t:Nat) (C:List (List Rat)) (q:List Rat):Prop where
 len:C.length=t+1
 run:∃ ua ub,ine.Run R (t+1) (atC C t) q ua ub
 sa:0< ep*cf (atC C t) (R.length - t)
 sq:0< ep*cf q (R.length - t - 1)
 one:∀ i,i+2≤t→∃ v:Rat×Rat×Rat,0< v.2.1∧0< v.2.2∧∀ x,ev (atC C i) x=(v.2.1*x+v.1)*ev (atC C (i+1)) x - v.2.2*ev (atC C (i+2)) x
 two:∀ i,i+1=t→∃ v:Rat×Rat,0< v.2∧∀ x,ev (atC C i) x=(v.2*x+v.1)*ev (atC C (i+1)) x - ev q x
 fst:atC C 0=(mkp R).map fun c=>ep*c
theorem Zqd {C:List (List Rat)} {t:Nat} (h:C.length=t+1):lsC C=atC C t:=by unfold lsC atC;rw [h];rfl
theorem ZcK {C:List (List Rat)} {s:List Rat} {i:Nat} (h:i< C.length):atC (C++ [s]) i=atC C i:=by unfold atC;rw [List.getElem?_append_left h]
theorem Zi0 {C:List (List Rat)} {s:List Rat}:atC (C++ [s]) C.length=s:=by unfold atC;simp
theorem Zea {ep a s:Rat} (h:0< ep*a) (hs:0< s):0< ep*(s*a):=by have:=Rat.mul_pos h hs;grind
theorem ZfG {R:List Rat} {k:Nat} {a q ua ub:List Rat} (hk:k≤R.length) (h:ine.Run R k a q ua ub):∃ s:Rat,0< s∧scQ q=(q.map fun c=>s*c):=by
 have hb:=h.lb
 refine⟨_,Rat.inv_pos.2 (Zq5 h.tb),?_⟩
 rw [ZfH,show q.length - 1=R.length - k by omega]
theorem ZsN {R:List Rat} (hR:0< R.length) {ep:Rat} (he:ep≠0):Cst R ep 0 [(mkp R).map fun c=>ep*c] ((dif (mkp R)).map fun c=>ep*c) where
 len:=rfl
 run:=⟨[], [ep],ine.run_first hR he he⟩
 sa:=by
  show 0< ep*cf ((mkp R).map fun c=>ep*c) R.length
  rw [ZaL,ine.mkp_top]
  have:=ine.sq_nn ep
  have:ep*ep≠0:=fun e=>by rcases Rat.mul_eq_zero.1 e with g|g<;>exact he g
  grind
 sq:=by
  rw [ZaL,ine.cf_dif,show R.length - 0 - 1+1=R.length by omega,ine.mkp_top]
  have h1:=ine.sq_nn ep
  have h2:ep*ep≠0:=fun e=>by rcases Rat.mul_eq_zero.1 e with g|g<;>exact he g
  have hn:(0:Rat)< ((R.length:Nat):Rat):=by exact_mod_cast hR
  have:=Rat.mul_pos (show 0< ep*ep by grind) hn
  grind
 one:=fun i h=>ω
 two:=fun i h=>ω
 fst:=rfl
structure Cpt (R:List Rat) (ep:Rat) (t:Nat) (C:List (List Rat)):Prop where
 len:C.length=t+1
 ln:(atC C t).length+t=R.length+1
 sa:0< ep*cf (atC C t) (R.length - t)
 one:∀ i,i+2≤t→∃ v:Rat×Rat×Rat,0< v.2.1∧0< v.2.2∧∀ x,ev (atC C i) x=(v.2.1*x+v.1)*ev (atC C (i+1)) x - v.2.2*ev (atC C (i+2)) x
 fst:atC C 0=(mkp R).map fun c=>ep*c
theorem ZhA {R:List Rat} {ep:Rat} {t:Nat} {C:List (List Rat)} {q:List Rat} (ht:t< R.length) (h:Cst R ep t C q):Cpt R ep (t+1) (C++ [scQ q]):=by
 obtain⟨ua,ub,hr⟩:=h.run
 obtain⟨s,hs,es⟩:=ZfG ω hr
 have hl:=h.len
 have hnew:atC (C++ [scQ q]) (t+1)=scQ q:=by have:=Zi0 (C:=C) (s:=scQ q);rwa [hl] at this
 have hq:∀ x,ev q x=s⁻¹*ev (scQ q) x:=fun x=>by
  rw [es,ine.ev_scale]
  have:=Rat.inv_mul_cancel s (by grind)
  grind
 refine⟨by simp [hl],by rw [hnew,Zaw];have:=hr.lb;omega,?_,fun i hi=> ?_,by rw [ZcK ω];exact h.fst⟩
 ·rw [hnew,es,ZaL,show R.length - (t+1)=R.length - t - 1 by omega]
  exact Zea h.sq hs
 ·by_cases e:i+2≤t
  ·rw [ZcK ω,ZcK ω,ZcK ω]
   exact h.one i e
  ·obtain⟨v,v1,v2⟩:=h.two i ω
   refine⟨(v.1,v.2,s⁻¹),v1,Rat.inv_pos.2 hs,fun x=> ?_⟩
   rw [ZcK ω,ZcK ω,show i+2=t+1 by omega,hnew,← hq,v2 x]
theorem Zfb {R:List Rat} (hd:R.Pairwise (· ≠ ·)) {ep:Rat} {t:Nat} {C:List (List Rat)} {q:List Rat} (ht:t< R.length) (h:Cst R ep t C q):
  (t+1=R.length→(dvF (lsC C) (scQ q)).2= []∧∃ v:Rat×Rat,0< v.2∧∀ x,ev (atC C t) x=(v.2*x+v.1)*ev (scQ q) x)∧
  (t+1< R.length→Cst R ep (t+1) (C++ [scQ q]) ((dvF (lsC C) (scQ q)).2.map fun x=> -x)):=by
 obtain⟨ua,ub,hr⟩:=h.run
 obtain⟨s,hs,es⟩:=ZfG ω hr
 have hl:=h.len
 have hlay:=ZhA ht h
 have hnew:atC (C++ [scQ q]) (t+1)=scQ q:=by have:=Zi0 (C:=C) (s:=scQ q);rwa [hl] at this
 rw [Zqd hl,es] at*
 have hr2:=Zky (s:=s) (by grind) hr
 obtain⟨b0,b1,d1,d2,d3,d4⟩:=ZgX hd ω ω hr2
 have hsa:=h.sa
 have hsq:=h.sq
 have hb1:0< b1:=by
  rw [ZaL,show R.length - (t+1)=R.length - t - 1 by omega,show R.length+1 - (t+1)=R.length - t by omega] at d2
  refine Rat.not_le.1 fun hle=> ?_
  have g1:=Rat.mul_nonneg (show 0≤-b1 by grind) (Rat.le_of_lt (Zea hsq hs))
  have:ep*cf (atC C t) (R.length - t)=b1*(ep*(s*cf q (R.length - t - 1))):=by rw [← d2];grind
  grind
 refine⟨fun e=>⟨d3 e,(b0,b1),hb1,fun x=> ?_⟩,fun e=> ?_⟩
 ·have:=d1 x
  rw [d3 e] at this
  have z:ev [] x=0:=rfl
  rw [z] at this
  rw [this];grind
 ·obtain⟨e1,e2,e3⟩:=d4 e
  obtain⟨ub',e3⟩:=e3 (-1) ωd
  rw [Zk7]
  refine { len:=hlay.len,run:=⟨_,ub',by rw [hnew];exact e3⟩,sa:=hlay.sa,sq:= ?_,one:=hlay.one,two:=fun i hi=> ?_,fst:=hlay.fst }
  ·rw [ZaL,show R.length - (t+1) - 1=R.length - t - 1 - 1 by omega]
   rw [show R.length - (t+1) - 1=R.length - t - 1 - 1 by omega,show R.length+1 - (t+1)=R.length - t by omega] at e2
   refine Rat.not_le.1 fun hle=> ?_
   generalize cf (dvF (atC C t) (q.map fun c=>s*c)).2 (R.length - t - 1 - 1)=u at*
   generalize cf (atC C t) (R.length - t)=a at*
   have g1:=Rat.mul_nonneg (show 0≤ep*u by grind) (Rat.le_of_lt hsa)
   have g2:=Rat.mul_pos (show 0< -(u*a) by grind) (show 0< ep*ep by
    have:=ine.sq_nn ep
    have:ep*ep≠0:=fun e0=>by
     rcases Rat.mul_eq_zero.1 e0 with g|g<;>(rw [g] at hsa;grind)
    grind)
   grind
  ·obtain rfl:i=t:=ω
   refine⟨(b0,b1),hb1,fun x=> ?_⟩
   have e:=ine.ev_scale (-1) (dvF (atC C i) (q.map fun c=>s*c)).2 x
   have:=d1 x
   rw [ZcK ω,hnew,e,this]
   grind
theorem ZdK {R:List Rat} (hd:R.Pairwise (· ≠ ·)) {ep:Rat} (he:ep≠0):∀ t,t< R.length→Cst R ep t (cnS ((mkp R).map fun c=>ep*c) t).1 (cnS ((mkp R).map fun c=>ep*c) t).2
 |0,h=>by
  have hR:0< R.length:=h
  have e:trP (drF ((mkp R).map fun c=>ep*c) (((mkp R).map fun c=>ep*c).length - 1))=(dif (mkp R)).map fun c=>ep*c:=by
   rw [ZiN,Zmc]
   have:=ZsN hR he
   obtain⟨ua,ub,hr⟩:=this.run
   exact Zgx (ZbZ hr ω).1
  show Cst R ep 0 [_] (trP _)
  rw [e];exact ZsN hR he
 |t+1,h=>by
  have ih:=ZdK hd he t ω
  have hne:(cnS ((mkp R).map fun c=>ep*c) t).2≠ []:=fun e=>by
   have:=ih.sq
   rw [e] at this
   have z:cf [] (R.length - t - 1)=0:=rfl
   rw [z] at this;grind
  have:=(Zfb hd ω ih).2 h
  rw [Zgn (show cnS ((mkp R).map fun c=>ep*c) t=(_,_) from rfl) hne]
  exact this
theorem Zc5 {R:List Rat} (hd:R.Pairwise (· ≠ ·)) (hR:0< R.length) {ep:Rat} (he:ep≠0):Cpt R ep R.length (cnF ((mkp R).map fun c=>ep*c))∧
  ∀ i,i+1=R.length→∃ v:Rat×Rat,0< v.2∧∀ x,ev (atC (cnF ((mkp R).map fun c=>ep*c)) i) x=(v.2*x+v.1)*ev (atC (cnF ((mkp R).map fun c=>ep*c)) (i+1)) x:=by
 have h:=ZdK hd he (R.length - 1) ω
 have hlay:=ZhA ω h
 obtain⟨n1,n2⟩:=(Zfb hd ω h).1 ω
 have hne:(cnS ((mkp R).map fun c=>ep*c) (R.length - 1)).2≠ []:=fun e=>by
  have:=h.sq
  rw [e] at this
  have z:cf [] (R.length - (R.length - 1) - 1)=0:=rfl
  rw [z] at this;grind
 have hgo:=Zgn (show cnS ((mkp R).map fun c=>ep*c) (R.length - 1)=(_,_) from rfl) hne
 rw [show R.length - 1+1=R.length by omega] at hgo hlay
 have hend:(cnS ((mkp R).map fun c=>ep*c) R.length).2= []:=by rw [hgo,n1];rfl
 have hlen:((mkp R).map fun c=>ep*c).length=R.length+1:=by rw [List.length_map,ine.mkp_len]
 have hF:cnF ((mkp R).map fun c=>ep*c)=(cnS ((mkp R).map fun c=>ep*c) (R.length - 1)).1++ [scQ (cnS ((mkp R).map fun c=>ep*c) (R.length - 1)).2]:=by
  unfold cnF
  rw [hlen,ZdL hend (R.length+1) ω,hgo]
 rw [hF]
 refine⟨hlay,fun i hi=> ?_⟩
 obtain⟨v,v1,v2⟩:=n2
 have hl:=h.len
 refine⟨v,v1,fun x=> ?_⟩
 rw [ZcK ω]
 have hnew:=Zi0 (C:=(cnS ((mkp R).map fun c=>ep*c) (R.length - 1)).1) (s:=scQ (cnS ((mkp R).map fun c=>ep*c) (R.length - 1)).2)
 rw [hl,show R.length - 1+1=i+1 by omega] at hnew
 rw [hnew,show i=R.length - 1 by omega]
 exact v2 x
theorem Zrx (a:Rat):sgnQ a=ine.sgR a:=by
 by_cases g:a=0
 ·subst g;decide+kernel
 ·have h:=Rat.num_nonneg (q:=a)
  have gn:a.num≠0:=fun e=>g (Rat.num_eq_zero.1 e)
  unfold sgnQ ine.sgR
  by_cases k:a< 0
  ·have hn:a.num< 0:=by
    have:¬ 0≤a.num:=fun e=>by have:=h.1 e;grind
    omega
   simp only [g,gn,k,hn,if_true,if_false]
  ·have hn:¬ a.num< 0:=by have:=h.2 (by grind);omega
   simp only [g,gn,k,hn,if_false]
theorem Zpg (C:List (List Rat)) (x:Rat):∀ i,chS C x i=ine.csS (fun k=>ev (atC C k) x) i
 |0=>rfl
 |i+1=>by
  have ih:=Zpg C x i
  have e:sgnQ (evP ((C[i]?).getD []) x)=ine.sgR (ev (atC C i) x):=by rw [Zrx,ZiI];rfl
  show (if sgnQ (evP ((C[i]?).getD []) x)*(chS C x i).2< 0 then (chS C x i).1+1 else (chS C x i).1,if sgnQ (evP ((C[i]?).getD []) x)=0 then (chS C x i).2 else sgnQ (evP ((C[i]?).getD []) x))=_
  rw [e,ih]
  refine Prod.ext rfl ?_
  show (if ine.sgR (ev (atC C i) x)=0 then (ine.csS (fun k=>ev (atC C k) x) i).2 else ine.sgR (ev (atC C i) x))=if ine.sgR (ev (atC C i) x)≠0 then ine.sgR (ev (atC C i) x) else (ine.csS (fun k=>ev (atC C k) x) i).2
  by_cases h:ine.sgR (ev (atC C i) x)=0
  ·rw [if_pos h,if_neg fun g=>g h]
  ·rw [if_neg h,if_pos h]
theorem Zkh {R : List Rat} (hd : R.Pairwise (· ≠ ·)) (hR : 0 < R.length) {ep : Rat} (he : ep ≠ 0) (x : Rat) :
    chN (cnF ((mkp R).map fun c => ep * c)) x = ((R.filter fun r => decide (x < r)).length : Int) := by
  obtain ⟨h, hz⟩ := Zc5 hd hR he
  generalize cnF ((mkp R).map fun c => ep * c) = C at *
  have hl := h.len
  have hend : atC C (R.length + 1) = [] := by unfold atC; rw [List.getElem?_eq_none ω]; rfl
  have H : ∀ i, ∃ v : Rat × Rat × Rat, i < R.length → 0 < v.2.1 ∧ 0 < v.2.2 ∧ ∀ x, ev (atC C i) x = (v.2.1 * x + v.1) * ev (atC C (i + 1)) x - v.2.2 * ev (atC C (i + 2)) x := fun i => by
    by_cases e : i + 2 ≤ R.length
    · obtain ⟨v, hv⟩ := h.one i e
      exact ⟨v, fun _ => hv⟩
    · by_cases g : i + 1 = R.length
      · obtain ⟨v, v1, v2⟩ := hz i g
        refine ⟨(v.1, v.2, 1), fun _ => ⟨v1, by show (0 : Rat) < 1; decide, fun x => ?_⟩⟩
        rw [show i + 2 = R.length + 1 by omega, hend, v2 x]
        have z : ev [] x = 0 := rfl
        rw [z]; grind
      · exact ⟨(0, 0, 0), fun hlt => ω⟩
  obtain ⟨v, hv⟩ := Classical.skolem.1 H
  have hsa := h.sa
  rw [Nat.sub_self] at hsa
  have hcn : ∀ y, ev (atC C R.length) y ≠ 0 := by
    have hln := h.ln
    intro y
    match hm : atC C R.length, hln with
    | [c], _ =>
      rw [hm] at hsa
      have h1 : 0 < ep * c := hsa
      show 0 * y + c ≠ 0
      intro e0
      have : c = 0 := by grind
      rw [this] at h1; grind
    | [], hln => simp at hln
    | _ :: _ :: _, hln => simp only [List.length_cons] at hln; omega
  unfold chN
  rw [hl, Zpg]
  refine ine.chg_eq (q := fun k => (v k).2.1 * x + (v k).1) (lam := fun k => (v k).2.2) (al := fun k => (v k).2.1) (x := x) ?_ hR (fun r k => ev (atC C k) r) R rfl (fun r hr => ?_) hd fun r hr e => ?_
  · exact { st := fun k hk => by have := (hv k hk).2.2 x; grind
            e := by show ev (atC C (R.length + 1)) x = 0; rw [hend]; rfl
            l := hcn x
            lp := fun k hk => (hv k hk).2.1
            ap := fun k hk => (hv k hk).1 }
  · exact { z := by show ev (atC C 0) r = 0; rw [h.fst, ine.ev_scale, ine.mkp_root R r hr]; grind
            e := by show ev (atC C (R.length + 1)) r = 0; rw [hend]; rfl
            l := hcn r
            s := fun k hk => by have := (hv k hk).2.2 r; grind }
  · show ev (atC C 0) x = 0
    rw [h.fst, ine.ev_scale, e, ine.mkp_root R r hr]; grind
open ine (ev cf lin mkp dif)
theorem Ztw {p q:List Rat} (h:∀ x,ev p x=ev q x) (i:Nat):cf p i=cf q i:=by
 have hz:=ine.roots_zero (List.map (fun n:Nat=>(n:Rat)) (List.range (max p.length q.length))) (lin (-1) p q) (by rw [ine.lin_len,List.length_map,List.length_range];omega)
  (List.pairwise_map.2 (List.nodup_range.imp fun hne he=>hne (by exact_mod_cast he))) (fun x _=>by rw [ine.ev_lin,h x];grind) i
 rw [ine.cf_lin] at hz;grind
theorem Zhh (p:List Rat):(p.map fun c=>(1:Rat)*c)=p:=by
 conv=>rhs;rw [← List.map_id p]
 exact List.map_congr_left fun c _=>by show 1*c=c;grind
theorem Zqa (R:List Rat):gdP (mkp R):=ZnX (by rw [ine.mkp_len,Nat.add_sub_cancel,ine.mkp_top];decide)
theorem ZeP {R:List Rat} (hd:R.Pairwise (· ≠ ·)):∀ t,t< R.length→∃ ua ub,ine.Run R (t+1) (plS (mkp R) t).1 (plS (mkp R) t).2 ua ub
 |0,h=>by
  have h1:=ine.run_first (R:=R) h (s:=1) (t:=1) ωd ωd
  rw [Zhh,Zhh] at h1
  have e:trP (drF (mkp R) ((mkp R).length - 1))=dif (mkp R):=by rw [ZiN];exact Zgx (ZbZ h1 ω).1
  refine⟨[], [1],?_⟩
  show ine.Run R 1 (mkp R) (trP _) _ _
  rw [e];exact h1
 |t+1,h=>by
  obtain⟨ua,ub,ih⟩:=ZeP hd t ω
  obtain⟨g1,g2,_⟩:=ZbZ ih ω
  have hne:¬ (plS (mkp R) t).2= []:=List.length_pos_iff.1 g2
  obtain⟨_,_,_,_,_,d4⟩:=ZgX hd ω ω ih
  obtain⟨_,_,d5⟩:=d4 h
  obtain⟨u,d5⟩:=d5 1 ωd
  rw [Zhh] at d5
  obtain⟨s,hs,es⟩:=ZfG ω ih
  rw [ZfT hne]
  show ∃ ua ub,ine.Run R (t+2) (scQ _) _ ua ub
  rw [es]
  exact⟨_,_,ZrF (by grind) d5⟩
theorem ZoD {R:List Rat} (hd:R.Pairwise (· ≠ ·)) (hR:0< R.length):(plS (mkp R) R.length).2= []∧∃ u:Rat,(plS (mkp R) R.length).1= [u]∧plF (mkp R)=([u], [])∧(u=1∨u=-1):=by
 obtain⟨ua,ub,h⟩:=ZeP hd (R.length - 1) ω
 obtain⟨g1,g2,g3⟩:=ZbZ h ω
 have hne:¬ (plS (mkp R) (R.length - 1)).2= []:=List.length_pos_iff.1 g2
 obtain⟨_,_,_,_,d3,_⟩:=ZgX hd ω ω h
 have hgo:=ZfT hne
 rw [show R.length - 1+1=R.length by omega,d3 ω] at hgo
 have hlb:=h.lb
 have hb1:(plS (mkp R) (R.length - 1)).2.length=1:=ω
 have htb:=h.tb
 rw [show R.length - (R.length - 1+1)=0 by omega] at htb
 generalize (plS (mkp R) (R.length - 1)).2=b at*
 obtain⟨c,rfl⟩:∃ c,b= [c]:=by
  match b,hb1 with
  | [c],_=>exact⟨c,rfl⟩
 have hc:c≠0:=htb
 have hend:(plS (mkp R) R.length).2= []:=by rw [hgo]
 refine⟨hend,(absV c)⁻¹*c,by rw [hgo,ZfH];rfl,?_,?_⟩
 ·unfold plF
  rw [ine.mkp_len,Zco hend (R.length+1) ω,hgo,ZfH];rfl
 ·rw [ZaO]
  split
  ·left;exact Rat.inv_mul_cancel c hc
  ·right
   have:=Rat.inv_mul_cancel (-c) (by grind)
   grind
theorem Zma {p:List Rat} {u:Rat} (hu:u≠0) (hg:gdP p):(dvF p [u]).1=(p.map fun c=>u⁻¹*c)∧(dvF p [u]).2= []:=by
 have hl:lsQ [u]≠0:=hu
 have hlt:=Zeq (p:=p) (q:= [u]) (by simp) hl
 have hr:(dvF p [u]).2= []:=List.eq_nil_of_length_eq_zero (by simp only [List.length_cons,List.length_nil] at hlt;omega)
 refine⟨Zmv ?_ fun i=> ?_,hr⟩
 ·rw [Zhx,Zgx hg,List.length_map];simp
 ·refine Ztw (fun x=> ?_) i
  have hv:=Zpa (p:=p) (q:= [u]) (by simp) hl x
  rw [hr] at hv
  have z:ev [] x=0:=rfl
  have e1:ev [u] x=u:=by show 0*x+u=u;grind
  rw [z,e1] at hv
  rw [ine.ev_scale,hv]
  have:=Rat.inv_mul_cancel u hu
  grind
theorem ZrQ {R:List Rat} (hd:R.Pairwise (· ≠ ·)):∃ ep:Rat,(ep=1∨ep=-1)∧plQ (mkp R)=(mkp R).map fun c=>ep*c:=by
 by_cases hR:R.length=0
 ·have:R= []:=List.eq_nil_of_length_eq_zero hR
  subst this
  exact⟨1,.inl rfl,by decide+kernel⟩
 ·obtain⟨_,u,_,hF,hu⟩:=ZoD hd ω
  have hu0:u≠0:=by rcases hu with rfl|rfl<;>decide
  obtain⟨d1,_⟩:=Zma hu0 (Zqa R)
  have hui:u⁻¹=u:=by rcases hu with rfl|rfl<;>decide+kernel
  refine⟨u,hu,?_⟩
  unfold plQ
  rw [hF]
  show scQ (trP (dvF (mkp R) [u]).1)=_
  rw [d1,hui]
  have hg:gdP ((mkp R).map fun c=>u*c):=ZnX (by rw [ZaL,List.length_map,ine.mkp_len,Nat.add_sub_cancel,ine.mkp_top];grind)
  rw [Zgx hg,ZfH,ZaL,List.length_map,ine.mkp_len,Nat.add_sub_cancel,ine.mkp_top,Zhi]
  have:(absV (u*1))⁻¹*u=u:=by rcases hu with rfl|rfl<;>decide+kernel
  rw [this]
open ine (ev cf lin mkp dif)
def zb (B:Nat) (l:List Rat):Prop:=∀ c,c∈l→qs c≤B
theorem Zez {A B:Nat} (h:A≤B) {l:List Rat} (g:zb A l):zb B l:=fun c hc=>Nat.le_trans (g c hc) h
theorem Zpo {B:Nat} {l:List Rat} (h:∀ i,i< l.length→qs (cf l i)≤B):zb B l:=fun c hc=>by
 obtain⟨i,hi⟩:=List.mem_iff_getElem?.1 hc
 have:=h i (List.getElem?_eq_some_iff.1 hi).1
 unfold cf at this;rwa [hi] at this
theorem ZhC {B:Nat} {l:List Rat} (h:zb B l) (hB:1≤B) (i:Nat):qs (cf l i)≤B:=by
 unfold cf
 cases e:l[i]? with
 |none=>exact Nat.le_trans (by decide+kernel:qs (0:Rat)≤1) hB
 |some c=>exact h c (List.mem_of_getElem? e)
theorem Zpy (p:List Rat):∃ n,trP p=p.take n:=by
 obtain⟨n,h1,h2,h3⟩:=tr_n p
 exact⟨n,Zfm h1 h2 h3⟩
theorem Zja {B:Nat} {p:List Rat} (h:zb B p):zb B (trP p):=by
 obtain⟨n,e⟩:=Zpy p
 rw [e];exact fun c hc=>h c (List.mem_of_mem_take hc)
theorem Zm4 {B:Nat} {p:List Rat} (h:zb B p) (hB:1≤B):zb (2*B+1) (scQ p):=by
 rw [ZfH]
 intro c hc
 obtain⟨d,hd,rfl⟩:=List.mem_map.1 hc
 have h1:=h d hd
 have h2:=ZhC h hB (p.length - 1)
 have h3:=Zoz (absV (cf p (p.length - 1)))
 have h4:=Z2 (absV (cf p (p.length - 1)))⁻¹ d
 have h5:qs (absV (cf p (p.length - 1)))=qs (cf p (p.length - 1)):=by
  rw [ZaO];split
  ·rfl
  ·exact Zdl _
 omega
def amB (A B:Nat):Nat→Nat
 |0=>A
 |k+1=>2*amB A B k+2*B+2
theorem ZhJ (A B : Nat) {i j : Nat} (h : i ≤ j) : amB A B i ≤ amB A B j := by
  induction j with
  | zero => obtain rfl : i = 0 := ω
            exact Nat.le_refl _
  | succ j ih =>
    by_cases e : i = j + 1
    · rw [e]; exact Nat.le_refl _
    · have := ih ω
      show _ ≤ 2 * amB A B j + 2 * B + 2
      omega
theorem ZqH {p q:List Rat} {A B:Nat} (hp:zb A p) (hq:zb B q) (hA:1≤A) (hB:1≤B):∀ t,zb (amB A B t) (dvS p q t).1∧zb (amB A B t) (dvS p q t).2
 |0=>by
  refine⟨fun c hc=> ?_,Zja hp⟩
  rw [(List.mem_replicate.1 (show c∈List.replicate _ 0 from hc)).2]
  exact Nat.le_trans (by decide+kernel:qs (0:Rat)≤1) hA
 |t+1=>by
  obtain⟨h1,h2⟩:=ZqH hp hq hA hB t
  have hmo:=ZhJ A B (Nat.le_succ t)
  by_cases h:(dvS p q t).2.length< q.length
  ·rw [ZaN h (t+1) ω];exact⟨Zez hmo h1,Zez hmo h2⟩
  ·have hA1:1≤amB A B t:=Nat.le_trans hA (ZhJ A B (Nat.zero_le t))
   rw [ZdF h]
   generalize (dvS p q t).1=by_ at*
   generalize (dvS p q t).2=rest at*
   have hc:qs (lsQ rest / lsQ q)≤amB A B t+B+1:=by
    have:=Zb2 (lsQ rest) (lsQ q)
    have:=ZhC h2 hA1 (rest.length - 1)
    have:=ZhC hq hB (q.length - 1)
    rw [← Zr7] at*
    omega
   refine⟨fun c hm=> ?_,?_⟩
   ·show _≤2*amB A B t+2*B+2
    rcases List.mem_or_eq_of_mem_set hm with g|g
    ·have:=h1 c g;omega
    ·rw [g];omega
   ·refine Zja (Zpo fun i hi=> ?_)
    rw [Zaq] at hi
    unfold cf
    rw [ZcD hi]
    show qs (sbE rest q _ _ _ i)≤2*amB A B t+2*B+2
    have hr:=ZhC h2 hA1 i
    unfold cf at hr
    unfold sbE
    split
    ·have:=ZhC hq hB (i - (rest.length - q.length))
     unfold cf at this
     have:=Z2 (lsQ rest / lsQ q) ((q[i - (rest.length - q.length)]?).getD 0)
     have:=Zbv ((rest[i]?).getD 0) (lsQ rest / lsQ q*(q[i - (rest.length - q.length)]?).getD 0)
     omega
    ·omega
theorem Zl7 {p q:List Rat} {A B m:Nat} (hp:zb A p) (hq:zb B q) (hA:1≤A) (hB:1≤B) (hq0:0< q.length) (h0:lsQ q≠0) (hm:p.length< q.length+m) (hz:amB A B m≤1048576):dvZ p q∧zb (amB A B m) (dvF p q).1∧zb (amB A B m) (dvF p q).2:=by
 have key:∀ t,(dvS p q t).2.length< q.length∨t+(dvS p q t).2.length≤p.length:=by
  intro t
  induction t with
  |zero=>exact .inr (by have:=Zd1 p;show 0+(trP p).length≤_;omega)
  |succ t ih=>
   by_cases h:(dvS p q t).2.length< q.length
   ·exact .inl (by rw [ZaN h (t+1) ω];exact h)
   ·rcases ih with ih|ih
    ·exact absurd ih h
    ·have:=ZjO hq0 h0 h;exact .inr ω
 have hend:(dvS p q m).2.length< q.length:=by rcases key m with h|h<;>omega
 have all:∀ t,zb (amB A B m) (dvS p q t).1∧zb (amB A B m) (dvS p q t).2:=fun t=>by
  by_cases ht:t≤m
  ·have:=ZqH hp hq hA hB t
   have hmo:=ZhJ A B ht
   exact⟨Zez hmo this.1,Zez hmo this.2⟩
  ·rw [ZaN hend t ω];exact ZqH hp hq hA hB m
 exact⟨fun t=>⟨fun c hc=>Nat.le_trans ((all t).1 c hc) hz,fun c hc=>Nat.le_trans ((all t).2 c hc) hz⟩,(all _).1,(all _).2⟩
theorem Zl6 {p:List Rat} {A:Nat} (hp:zb A p) (hA:1≤A) (hz:A≤1048576):dvZ p []:=by
 have all:∀ t,zb A (dvS p [] t).1∧zb A (dvS p [] t).2:=fun t=>by
  induction t with
  |zero=>
   refine⟨fun c hc=> ?_,Zja hp⟩
   rw [(List.mem_replicate.1 (show c∈List.replicate _ 0 from hc)).2]
   exact Nat.le_trans (by decide+kernel:qs (0:Rat)≤1) hA
  |succ t ih=>
   have h:¬ (dvS p [] t).2.length< ([]:List Rat).length:=by simp
   rw [ZdF h]
   obtain⟨h1,h2⟩:=ih
   have e0:∀ a:Rat,a / lsQ []=0:=fun a=>by
    have:lsQ []=0:=rfl
    rw [this,Rat.div_def];have:(0:Rat)⁻¹=0:=by decide+kernel
    rw [this];grind
   refine⟨fun c hm=> ?_,?_⟩
   ·rcases List.mem_or_eq_of_mem_set hm with g|g
    ·exact h1 c g
    ·rw [g,e0];exact Nat.le_trans (by decide+kernel:qs (0:Rat)≤1) hA
   ·show zb A (trP (sbF _ [] _ _ 0))
    rw [ZrD];exact Zja h2
 exact fun t=>⟨fun c hc=>Nat.le_trans ((all t).1 c hc) hz,fun c hc=>Nat.le_trans ((all t).2 c hc) hz⟩
def nice (r:Rat):Prop:=∃ N:Int,N.natAbs≤960∧r=mkRat N 120
theorem ZcG (N:Int) (d:Nat):mkRat N d=(N:Rat) / (d:Rat):=Rat.mkRat_eq_div ..
theorem ZeW:∀ R:List Rat,(∀ r,r∈R→nice r)→∀ i,∃ M:Int,M.natAbs≤1080 ^ R.length∧cf (mkp R) i=mkRat M (120 ^ R.length)
 | [],_,i=>by
  match i with
  |0=>exact⟨1,ωd,by show (1:Rat)=_;decide+kernel⟩
  |i+1=>exact⟨0,ωd,by show (0:Rat)=_;decide+kernel⟩
 |r :: R,h,i=>by
  obtain⟨N,hN,hr⟩:=h r (by simp)
  have ih:=ZeW R fun s hs=>h s (List.mem_cons_of_mem _ hs)
  obtain⟨M,hM,eM⟩:=ih i
  have hc:cf (mkp (r :: R)) i=-r*cf (mkp R) i+cf (0 :: mkp R) i:=ine.cf_lin _ _ _ _
  have hd:(((120 ^ R.length:Nat):Nat):Rat)≠0:=fun e=>by
   have e2:(120 ^ R.length:Nat)=0:=by exact_mod_cast e
   have:=Nat.pow_pos (n:=R.length) (show 0< 120 by decide)
   omega
  have hp:(((120 ^ (R.length+1):Nat)):Rat)=((120 ^ R.length:Nat):Rat)*120:=by rw [Nat.pow_succ];simp
  have h120:((120:Nat):Rat)=120:=rfl
  obtain⟨M',hM',eM'⟩:∃ M':Int,M'.natAbs≤1080 ^ R.length∧cf (0 :: mkp R) i=mkRat M' (120 ^ R.length):=by
   match i with
   |0=>exact⟨0,Nat.zero_le _,by show (0:Rat)=_;rw [Rat.zero_mkRat]⟩
   |i+1=>exact ih i
  refine⟨-N*M+120*M',?_,?_⟩
  ·have h1:(N*M).natAbs≤960*1080 ^ R.length:=by rw [Int.natAbs_mul];exact Nat.mul_le_mul hN hM
   have h2:(120*M').natAbs≤120*1080 ^ R.length:=by rw [Int.natAbs_mul];exact Nat.mul_le_mul ωd hM'
   show _≤1080 ^ (R.length+1)
   rw [Nat.pow_succ]
   have h3:-N*M=-(N*M):=Int.neg_mul _ _
   rw [h3]
   omega
  ·rw [hc,eM,eM',hr]
   show _=mkRat _ (120 ^ (R.length+1))
   rw [ZcG,ZcG,ZcG,ZcG,hp,h120]
   generalize ((120 ^ R.length:Nat):Rat)=d at*
   have hi:=Rat.mul_inv_cancel d hd
   have e120:(120:Rat)*(120:Rat)⁻¹=1:=by decide+kernel
   have hd2:d*120≠0:=fun e=>by rcases Rat.mul_eq_zero.1 e with g|g;exact hd g;exact absurd g ωd
   have h2:=Rat.mul_inv_cancel (d*120) hd2
   have hinv:(d*120)⁻¹=d⁻¹*120⁻¹:=by grind
   rw [Rat.div_def,Rat.div_def,Rat.div_def,Rat.div_def,hinv]
   have:((-N*M+120*M':Int):Rat)=-(N:Rat)*(M:Rat)+120*(M':Rat):=by
    rw [Rat.intCast_add,Rat.intCast_mul,Rat.intCast_mul,Rat.intCast_neg];rfl
   rw [this]
   grind
open ine (ev cf lin mkp dif)
theorem Zb4 {R:List Rat} (hn:R.length≤4) (h:∀ r,r∈R→nice r):zb 6 (mkp R):=Zpo fun i _=>by
 obtain⟨M,hM,e⟩:=ZeW R h i
 rw [e]
 have h1:1080 ^ R.length≤1080 ^ 4:=Nat.pow_le_pow_right ωd hn
 have h2:120 ^ R.length≤120 ^ 4:=Nat.pow_le_pow_right ωd hn
 have h3:=Nat.pow_pos (n:=R.length) (show 0< 120 by decide)
 exact Zbn ω ω ω
theorem Zeg {B:Nat} {p:List Rat} {t:Rat} (ht:t=1∨t=-1) (h:zb B p):zb B (p.map fun c=>t*c):=fun c hc=>by
 obtain⟨d,hd,rfl⟩:=List.mem_map.1 hc
 have:=h d hd
 rcases ht with rfl|rfl
 ·rw [show (1:Rat)*d=d by grind];exact this
 ·rw [show (-1:Rat)*d=-d by grind,Zdl];exact this
theorem ZsI {B:Nat} {p:List Rat} (h:zb B p) (hB:1≤B) (hl:p.length≤5):zb (B+1) (dif p):=Zpo fun i hi=>by
 rw [ine.dif_len] at hi
 rw [ine.cf_dif]
 have h1:=ZhC h hB (i+1)
 have h2:=Z2 ((i+1:Nat):Rat) (cf p (i+1))
 have h3:qs (((i+1:Nat):Int):Rat)≤1:=ZoA (k:=1) ω ωd
 have h4:(((i+1:Nat):Int):Rat)=((i+1:Nat):Rat):=rfl
 rw [h4] at h3
 omega
theorem Zc9 {B:Nat} {p:List Rat} (h:zb B p) (hB:B≤1048576) (hl:p.length≤1048576):zO p:=⟨hl,fun c hc=>Nat.le_trans (h c hc) hB⟩
def plB:Nat→Nat×Nat
 |0=>(6,7)
 |t+1=>(2*(plB t).2+1,amB (plB t).1 (plB t).2 2)
def cnB:Nat→Nat×Nat
 |0=>(6,7)
 |t+1=>(2*(cnB t).2+1,amB (cnB t).1 (2*(cnB t).2+1) 2)
theorem Znv:∀ t,t≤4→(1≤(plB t).1∧1≤(plB t).2)∧(plB t).1≤100000∧(plB t).2≤100000:=by decide+kernel
theorem ZqU:∀ t,t≤4→(1≤(cnB t).1∧1≤(cnB t).2)∧(cnB t).1≤100000∧(cnB t).2≤300000:=by decide+kernel
theorem ZqV:∀ t,t≤3→amB (cnB t).1 (2*(cnB t).2+1) 2≤1000000:=by decide+kernel
theorem Zgj {R:List Rat} (hn:R.length≤4) (h:∀ r,r∈R→nice r):zb 7 (dif (mkp R)):=ZsI (Zb4 hn h) ωd (by rw [ine.mkp_len];omega)
theorem ZoC {R:List Rat} (hd:R.Pairwise (· ≠ ·)) (hn:R.length≤4) (h:∀ r,r∈R→nice r):∀ t,t≤R.length→zb (plB t).1 (plS (mkp R) t).1∧zb (plB t).2 (plS (mkp R) t).2
 |0,_=>by
  refine⟨Zb4 hn h,?_⟩
  show zb 7 (trP (drF (mkp R) ((mkp R).length - 1)))
  rw [ZiN];exact Zja (Zgj hn h)
 |t+1,ht=>by
  obtain⟨i1,i2⟩:=ZoC hd hn h t ω
  obtain⟨ua,ub,hr⟩:=ZeP hd t ω
  obtain⟨g1,g2,g3⟩:=ZbZ hr ω
  have hl0:lsQ (plS (mkp R) t).2≠0:=by rw [g3];exact hr.tb
  obtain⟨⟨z1,z2⟩,z3,z4⟩:=Znv t ω
  obtain⟨_,y3,y4⟩:=Znv (t+1) ω
  have hla:=hr.la;have hlb:=hr.lb
  obtain⟨_,_,d3⟩:=Zl7 (m:=2) i1 i2 z1 z2 g2 hl0 ω (by show (plB (t+1)).2≤_;omega)
  rw [ZfT (List.length_pos_iff.1 g2)]
  exact⟨Zm4 i2 z2,d3⟩
theorem ZrS {R:List Rat} (hd:R.Pairwise (· ≠ ·)) (hR:0< R.length) (hn:R.length≤4) (h:∀ r,r∈R→nice r):plZ (mkp R):=by
 obtain⟨e1,u,e2,e3,hu⟩:=ZoD hd hR
 have low:∀ t,t≤R.length→zO (plS (mkp R) t).1∧zO (plS (mkp R) t).2∧dvZ (plS (mkp R) t).1 (plS (mkp R) t).2:=fun t ht=>by
  obtain⟨i1,i2⟩:=ZoC hd hn h t ht
  obtain⟨⟨z1,z2⟩,z3,z4⟩:=Znv t ω
  by_cases e:t=R.length
  ·subst e
   rw [e1]
   refine⟨Zc9 i1 ω (by rw [e2];simp),⟨by simp,fun c hc=>by simp at hc⟩,Zl6 i1 z1 ω⟩
  ·obtain⟨ua,ub,hr⟩:=ZeP hd t ω
   obtain⟨g1,g2,g3⟩:=ZbZ hr ω
   have hl0:lsQ (plS (mkp R) t).2≠0:=by rw [g3];exact hr.tb
   have hla:=hr.la;have hlb:=hr.lb
   obtain⟨_,y3,y4⟩:=Znv (t+1) ω
   exact⟨Zc9 i1 ω ω,Zc9 i2 ω ω,(Zl7 (m:=2) i1 i2 z1 z2 g2 hl0 ω (by show (plB (t+1)).2≤_;omega)).1⟩
 have hu0:u≠0:=by rcases hu with rfl|rfl<;>decide
 have hzu:zb 1 [u]:=fun c hc=>by
  obtain rfl:=List.mem_singleton.1 hc
  rcases hu with rfl|rfl<;>decide+kernel
 have hml:=ine.mkp_len R
 obtain⟨d1,d2,_⟩:=Zl7 (m:=5) (Zb4 hn h) hzu ωd ωd (by simp) (show lsQ [u]≠0 from hu0) (by simp only [List.length_cons,List.length_nil];omega) ωk
 refine⟨fun t=> ?_,by rw [e3];exact d1,?_⟩
 ·by_cases ht:t≤R.length
  ·exact low t ht
  ·rw [Zco e1 t ω];exact low _ (Nat.le_refl _)
 ·rw [e3]
  refine Zc9 d2 ωk ?_
  show (dvF (mkp R) [u]).1.length≤_
  rw [Zhx,Zgx (Zqa R)];simp only [List.length_cons,List.length_nil];omega
theorem Zmk {R:List Rat} (hd:R.Pairwise (· ≠ ·)) (hn:R.length≤4) (h:∀ r,r∈R→nice r) {ep:Rat} (he:ep=1∨ep=-1):∀ t,t< R.length→
  zb (cnB t).1 (atC (cnS ((mkp R).map fun c=>ep*c) t).1 t)∧zb (cnB t).2 (cnS ((mkp R).map fun c=>ep*c) t).2∧∀ a,a∈(cnS ((mkp R).map fun c=>ep*c) t).1→zO a
 |0,_=>by
  have hm:=Zeg he (Zb4 hn h)
  have hml:=ine.mkp_len R
  refine⟨hm,?_,fun a ha=> ?_⟩
  ·show zb 7 (trP (drF _ (((mkp R).map fun c=>ep*c).length - 1)))
   rw [ZiN,Zmc]
   exact Zja (Zeg he (Zgj hn h))
  ·obtain rfl:=List.mem_singleton.1 (show a∈ [(mkp R).map fun c=>ep*c] from ha)
   exact Zc9 hm ωd (by rw [List.length_map];omega)
 |t+1,ht=>by
  obtain⟨i1,i2,i3⟩:=Zmk hd hn h he t ω
  have he0:ep≠0:=by rcases he with rfl|rfl<;>decide
  have hc:=ZdK hd he0 t ω
  have hlay:=ZhA ω hc
  obtain⟨ua,ub,hr⟩:=hc.run
  obtain⟨s,hs,es⟩:=ZfG ω hr
  have hr2:=Zky (s:=s) (by grind) hr
  rw [← es] at hr2
  obtain⟨g1,g2,g3⟩:=ZbZ hr2 ω
  have hl0:lsQ (scQ (cnS ((mkp R).map fun c=>ep*c) t).2)≠0:=by rw [g3];exact hr2.tb
  obtain⟨⟨z1,z2⟩,z3,z4⟩:=ZqU t ω
  have z5:=ZqV t ω
  have hsz:=Zm4 i2 z2
  have hla:=hr2.la;have hlb:=hr2.lb
  obtain⟨_,_,d3⟩:=Zl7 (m:=2) i1 hsz z1 ω g2 hl0 ω ω
  have hl:=hc.len
  rw [Zgn (show cnS ((mkp R).map fun c=>ep*c) t=(_,_) from rfl) (fun e=>by rw [e] at g2;simp [scQ] at g2),Zqd hl]
  generalize cnS ((mkp R).map fun c=>ep*c) t=S at*
  have hnew:atC (S.1++ [scQ S.2]) (t+1)=scQ S.2:=by have:=Zi0 (C:=S.1) (s:=scQ S.2);rwa [hl] at this
  refine⟨by rw [hnew];exact hsz,?_,fun a ha=> ?_⟩
  ·rw [Zk7];exact Zeg (.inr rfl) d3
  ·rcases List.mem_append.1 ha with g|g
   ·exact i3 a g
   ·obtain rfl:=List.mem_singleton.1 g
    exact Zc9 hsz ω ω
theorem ZsV {R:List Rat} (hd:R.Pairwise (· ≠ ·)) (hR:0< R.length) (hn:R.length≤4) (h:∀ r,r∈R→nice r) {ep:Rat} (he:ep=1∨ep=-1):cnZ ((mkp R).map fun c=>ep*c)∧chZ (cnF ((mkp R).map fun c=>ep*c)):=by
 have he0:ep≠0:=by rcases he with rfl|rfl<;>decide
 have hml:=ine.mkp_len R
 have hc:=ZdK hd he0 (R.length - 1) ω
 obtain⟨i1,i2,i3⟩:=Zmk hd hn h he (R.length - 1) ω
 obtain⟨n1,n2⟩:=(Zfb hd ω hc).1 ω
 obtain⟨⟨z1,z2⟩,z3,z4⟩:=ZqU (R.length - 1) ω
 have z5:=ZqV (R.length - 1) ω
 have hsz:=Zm4 i2 z2
 have hne:(cnS ((mkp R).map fun c=>ep*c) (R.length - 1)).2≠ []:=fun e=>by
  have:=hc.sq
  rw [e] at this
  have z:cf [] (R.length - (R.length - 1) - 1)=0:=rfl
  rw [z] at this;grind
 have hgo:=Zgn (show cnS ((mkp R).map fun c=>ep*c) (R.length - 1)=(_,_) from rfl) hne
 rw [show R.length - 1+1=R.length by omega,n1] at hgo
 have hq:([]:List Rat).map (fun x=> -x)= []:=rfl
 rw [hq] at hgo
 have hend:(cnS ((mkp R).map fun c=>ep*c) R.length).2= []:=by rw [hgo]
 obtain⟨ua,ub,hr⟩:=hc.run
 have hlb:=hr.lb
 have hsl:(scQ (cnS ((mkp R).map fun c=>ep*c) (R.length - 1)).2).length≤5:=by rw [Zaw];omega
 have hzs:zO (scQ (cnS ((mkp R).map fun c=>ep*c) (R.length - 1)).2):=Zc9 hsz ω ω
 have hmem:∀ a,a∈(cnS ((mkp R).map fun c=>ep*c) R.length).1→zO a:=fun a ha=>by
  rw [hgo] at ha
  rcases List.mem_append.1 ha with g|g
  ·exact i3 a g
  ·rw [List.mem_singleton.1 g];exact hzs
 have low:∀ t,t≤R.length→zO (cnS ((mkp R).map fun c=>ep*c) t).2∧(∀ a,a∈(cnS ((mkp R).map fun c=>ep*c) t).1→zO a)∧zO (scQ (cnS ((mkp R).map fun c=>ep*c) t).2)∧dvZ (lsC (cnS ((mkp R).map fun c=>ep*c) t).1) (scQ (cnS ((mkp R).map fun c=>ep*c) t).2):=fun t ht=>by
  by_cases e:t=R.length
  ·subst e
   rw [hend]
   have z0:zO []:=⟨by simp,fun c hc=>by simp at hc⟩
   refine⟨z0,hmem,z0,?_⟩
   have hls:lsC (cnS ((mkp R).map fun c=>ep*c) R.length).1=scQ (cnS ((mkp R).map fun c=>ep*c) (R.length - 1)).2:=by rw [hgo];exact Zim _ _
   rw [hls]
   exact Zl6 hsz ω ω
  ·have hct:=ZdK hd he0 t ω
   obtain⟨j1,j2,j3⟩:=Zmk hd hn h he t ω
   obtain⟨ua',ub',hrt⟩:=hct.run
   obtain⟨s,hs,es⟩:=ZfG ω hrt
   have hr2:=Zky (s:=s) (by grind) hrt
   rw [← es] at hr2
   obtain⟨g1,g2,g3⟩:=ZbZ hr2 ω
   have hl0:lsQ (scQ (cnS ((mkp R).map fun c=>ep*c) t).2)≠0:=by rw [g3];exact hr2.tb
   obtain⟨⟨y1,y2⟩,y3,y4⟩:=ZqU t ω
   have y5:=ZqV t ω
   have hst:=Zm4 j2 y2
   have hla2:=hr2.la;have hlb2:=hr2.lb;have hlbt:=hrt.lb
   rw [Zqd hct.len]
   exact⟨Zc9 j2 ω ω,j3,Zc9 hst ω ω,(Zl7 (m:=2) j1 hst y1 ω g2 hl0 ω ω).1⟩
 have hlen:((mkp R).map fun c=>ep*c).length=R.length+1:=by rw [List.length_map,hml]
 refine⟨⟨Zc9 (Zeg he (Zb4 hn h)) ωd ω,fun t=> ?_⟩,?_⟩
 ·by_cases ht:t≤R.length
  ·exact low t ht
  ·rw [ZdL hend t ω];exact low _ (Nat.le_refl _)
 ·have hl:=(Zc5 hd hR he0).1.len
  refine⟨ω,fun a ha=> ?_⟩
  unfold cnF at ha
  rw [hlen,ZdL hend (R.length+1) ω] at ha
  exact hmem a ha
theorem ZrI {R:List Rat} (hd:R.Pairwise (· ≠ ·)) (hn:R.length≤4) (h:∀ r,r∈R→nice r):∃ ep:Rat,(ep=1∨ep=-1)∧RdyOk (mkp R) (cnF ((mkp R).map fun c=>ep*c)):=by
 by_cases hR:R.length=0
 ·have:R= []:=List.eq_nil_of_length_eq_zero hR
  subst this
  exact⟨1,.inl rfl,ZpS (n:=2) (m:=3) ωk⟩
 ·obtain⟨ep,he,hp⟩:=ZrQ hd
  have he0:ep≠0:=by rcases he with rfl|rfl<;>decide
  have hml:=ine.mkp_len R
  obtain⟨c1,c2⟩:=ZsV hd ω hn h he
  have ht:=Zgx (Zqa R)
  refine⟨ep,he,?_⟩
  exact {
   z:=Zc9 (Zb4 hn h) ωd ω
   n0:=by rw [ht];exact List.length_pos_iff.1 ω
   n13:=by rw [ht];omega
   pl:=by rw [ht];exact ZrS hd ω hn h
   pn:=by rw [ht,hp];exact List.length_pos_iff.1 (by rw [List.length_map];omega)
   cz:=by rw [ht,hp];exact c1
   eq:=by rw [ht,hp]
   chz:=c2
   pos:=by have:=(Zc5 hd ω he0).1.len;omega }
def hp:Nat→Rat
 |0=>1
 |k+1=>hp k*(1 / 2)
def p2:Nat→Rat
 |0=>1
 |k+1=>p2 k*2
theorem half2:(1 / 2:Rat)*2=1:=by decide+kernel
theorem Zqw:∀ k,hp k*p2 k=1
 |0=>by decide+kernel
 |k+1=>by
  have:=Zqw k
  show hp k*(1 / 2)*(p2 k*2)=1
  have:=half2;grind
theorem Zb9:∀ k,0< hp k
 |0=>by decide+kernel
 |k+1=>Rat.mul_pos (Zb9 k) ωk
theorem ZoF:∀ k,0< p2 k
 |0=>by decide+kernel
 |k+1=>Rat.mul_pos (ZoF k) ωk
theorem ZoG:∀ k,p2 k=((2 ^ k:Nat):Rat)
 |0=>by decide+kernel
 |k+1=>by
  show p2 k*2=_
  rw [ZoG k,Nat.pow_succ];simp
theorem Zsx {i j : Nat} (h : i ≤ j) : hp j ≤ hp i := by
  induction j with
  | zero => obtain rfl : i = 0 := ω
            exact Rat.le_refl
  | succ j ih =>
    by_cases e : i = j + 1
    · rw [e]; exact Rat.le_refl
    · have a := ih ω
      have b := Zb9 j
      show hp j * (1 / 2) ≤ hp i
      have := half2; grind
theorem Ztt:hfH=1 / 2:=by decide+kernel
theorem ZnH (x y:Rat):mdQ x y=(x+y)*(1 / 2):=by unfold mdQ;rw [Ztt];grind
theorem Zod (d:Rat):∀ j,byQ d j=d*hp j
 |0=>by show d=d*1;grind
 |j+1=>by
  show byQ d j*mdQ ((0:Int):Rat) ((1:Int):Rat)=d*(hp j*(1 / 2))
  rw [Zod d j,show mdQ ((0:Int):Rat) ((1:Int):Rat)=1 / 2 from by decide+kernel];grind
def dya (M:Rat) (k:Nat) (v:Rat):Prop:=(∃ a:Int,v=M*((a:Rat)*hp k))∧-M≤v∧v≤M
theorem ZaB {M v : Rat} {k : Nat} (h : dya M k v) : ∀ {j : Nat}, k ≤ j → dya M j v := by
  intro j hj
  obtain ⟨⟨a, e⟩, b⟩ := h
  induction j with
  | zero => obtain rfl : k = 0 := ω
            exact ⟨⟨a, e⟩, b⟩
  | succ j ih =>
    by_cases g : k = j + 1
    · subst g; exact ⟨⟨a, e⟩, b⟩
    · obtain ⟨⟨c, f⟩, _⟩ := ih ω
      refine ⟨⟨c * 2, ?_⟩, b⟩
      show v = M * (((c * 2 : Int) : Rat) * (hp j * (1 / 2)))
      rw [Rat.intCast_mul]
      have h2 : ((2 : Int) : Rat) = 2 := rfl
      rw [h2, f]
      have := half2; grind
theorem two_lt (k j:Nat) (h:k< 8*j):2 ^ k< 256 ^ j:=by
 have e:(256:Nat)=2 ^ 8:=rfl
 rw [e,← Nat.pow_mul]
 exact Nat.pow_lt_pow_right (Nat.lt_succ_self 1) h
theorem ZbK {M v:Rat} {k:Nat} (hM:0< M) (hz:qs M≤100) (hk:k≤1000) (h:dya M k v):qs v≤400:=by
 obtain⟨⟨a,e⟩,b1,b2⟩:=h
 have hpp:=Zqw k
 have p0:=ZoF k
 have c1:(a:Rat)≤p2 k:=by
  refine Rat.not_lt.1 fun hlt=> ?_
  have h1:=Rat.mul_pos hM (Rat.mul_pos (show 0< (a:Rat) - p2 k by grind) (Zb9 k))
  have h2:M*(((a:Rat) - p2 k)*hp k)=M*((a:Rat)*hp k) - M*(hp k*p2 k):=by grind
  rw [h2,← e,hpp] at h1;grind
 have c2:-p2 k≤(a:Rat):=by
  refine Rat.not_lt.1 fun hlt=> ?_
  have h1:=Rat.mul_pos hM (Rat.mul_pos (show 0< -p2 k - (a:Rat) by grind) (Zb9 k))
  have h2:M*((-p2 k - (a:Rat))*hp k)=-(M*((a:Rat)*hp k)) - M*(hp k*p2 k):=by grind
  rw [h2,← e,hpp] at h1;grind
 have h2:=ZoG k
 have h2i:((2 ^ k:Nat):Rat)=(((2 ^ k:Nat):Int):Rat):=rfl
 rw [h2,h2i] at c1 c2
 have d1:=Rat.intCast_le_intCast.1 c1
 have d2:(((-(2 ^ k:Nat):Int)):Rat)≤(a:Rat):=by rw [Rat.intCast_neg];exact c2
 have d2:=Rat.intCast_le_intCast.1 d2
 have e2:(a:Rat)*hp k=mkRat a (2 ^ k):=by
  rw [ZcG,← h2,Rat.div_def]
  have:=Rat.mul_inv_cancel (p2 k) (by grind)
  grind
 rw [e,e2]
 have h3:=Z2 M (mkRat a (2 ^ k))
 have h4:2 ^ k< 256 ^ 126:=two_lt k 126 ω
 have h5:=Nat.pow_pos (n:=k) (show 0< 2 by decide)
 have h6:=Zbn (n:=a) (d:=2 ^ k) (k:=126) ω ω h4
 omega
theorem Zo8 {M x y:Rat} {k:Nat} (hx:dya M k x) (hy:dya M k y):dya M (k+1) (mdQ x y):=by
 obtain⟨⟨a,e1⟩,b1,b2⟩:=hx
 obtain⟨⟨c,e2⟩,d1,d2⟩:=hy
 rw [ZnH]
 refine⟨⟨a+c,?_⟩,by have:=half2;grind,by have:=half2;grind⟩
 show _=M*(((a+c:Int):Rat)*(hp k*(1 / 2)))
 rw [Rat.intCast_add,e1,e2];grind
theorem Zo9 {M m y:Rat} {k:Nat} (hm:dya M k m) (hy:dya M k y) (j:Nat) {v:Rat} (s:Int) (hv:v=m+(s:Rat)*((y - m)*hp j)) (b1:-M≤v) (b2:v≤M):dya M (k+j) v:=by
 obtain⟨⟨c,e2⟩,_⟩:=hy
 obtain⟨⟨a,e1⟩,_⟩:=ZaB hm (show k≤k+j by omega)
 obtain⟨⟨a0,e0⟩,_⟩:=hm
 have hpj:hp (k+j)=hp k*hp j:=by
  induction j with
  |zero=>show hp k=hp k*1;grind
  |succ j ih=>
   have:∀ i,hp (k+i)=hp k*hp i:=fun i=>by
    induction i with
    |zero=>show hp k=hp k*1;grind
    |succ i ih=>show hp (k+i)*(1 / 2)=hp k*(hp i*(1 / 2));rw [ih];grind
   exact this _
 refine⟨⟨a+s*(c - a0),?_⟩,b1,b2⟩
 rw [Rat.intCast_add,Rat.intCast_mul,Rat.intCast_sub,hpj]
 have e1':m=M*((a:Rat)*(hp k*hp j)):=by rw [← hpj];exact e1
 rw [hv]
 have:(s:Rat)*((y - m)*hp j)=M*((s:Rat)*((c:Rat) - (a0:Rat))*(hp k*hp j)):=by rw [e2];rw (occs:= .pos [1]) [e0];grind
 rw [this]
 grind
def dl:Rat:=mkRat 1 120
theorem ZsH:0< dl:=by decide+kernel
def rt (rs:List Rat) (x y:Rat):List Rat:=rs.filter fun r=>decide (x≤r∧r≤y)
theorem ZcE {rs:List Rat} {x y r:Rat}:r∈rt rs x y↔r∈rs∧x≤r∧r≤y:=by unfold rt;rw [List.mem_filter,decide_eq_true_iff]
structure Cx (C:List (List Rat)) (rs:List Rat) (M:Rat):Prop where
 srt:rs.Pairwise (· < ·)
 gap:∀ r s,r∈rs→s∈rs→r< s→r+dl≤s
 cnt:∀ x y,x≤y→ctN C x y=((rt rs x y).length:Int)
 zer:∀ x,evP (c0C C) x=0↔x∈rs
 mp:0< M
 mz:qs M≤100
def Good (rs:List Rat) (s:Rat×Rat) (r:Rat):Prop:=(s.1≤r∧r≤s.2)∧r∈rs∧∀ t,t∈rs→s.1≤t→t≤s.2→t=r
theorem ZrU:∀ {l:List Rat} {r:Rat},l.Pairwise (· < ·)→r∈l→(∀ t,t∈l→t=r)→l= [r]
 | [],_,_,h,_=>by simp at h
 | [a],r,_,_,h=>by rw [h a (by simp)]
 |a :: b :: l,r,hp,_,h=>by
  have:=(List.pairwise_cons.1 hp).1 b (by simp)
  rw [h a (by simp),h b (by simp)] at this
  exact absurd this Rat.lt_irrefl
theorem Ze5 {rs:List Rat} (hs:rs.Pairwise (· < ·)) {s:Rat×Rat} {r:Rat} (h:Good rs s r):rt rs s.1 s.2= [r]:=
 ZrU (hs.filter _) (ZcE.2 ⟨h.2.1,h.1⟩) fun t ht=>by
  obtain⟨h1,h2,h3⟩:=ZcE.1 ht
  exact h.2.2 t h1 h2 h3
theorem ZgZ {rs:List Rat} {x y r:Rat} (h:rt rs x y= [r]):Good rs (x,y) r:=by
 have hm:r∈rt rs x y:=by rw [h];simp
 obtain⟨h1,h2⟩:=ZcE.1 hm
 refine⟨h2,h1,fun t ht a b=> ?_⟩
 have:t∈rt rs x y:=ZcE.2 ⟨ht,a,b⟩
 rw [h] at this;exact List.mem_singleton.1 this
theorem ZcQ:∀ {rs:List Rat} {x m y:Rat},rs.Pairwise (· < ·)→x≤m→m≤y→rt rs x y=(rs.filter fun r=>decide (x≤r∧r< m))++rt rs m y
 | [],_,_,_,_,_,_=>rfl
 |a :: l,x,m,y,hp,h1,h2=>by
  have ih:=ZcQ (x:=x) (m:=m) (y:=y) (List.pairwise_cons.1 hp).2 h1 h2
  unfold rt at ih ⊢
  by_cases g:a< m
  ·by_cases k:x≤a
   ·rw [List.filter_cons_of_pos (by simp;grind),List.filter_cons_of_pos (by simp;grind),List.filter_cons_of_neg (by simp;grind),ih];rfl
   ·rw [List.filter_cons_of_neg (by simp;grind),List.filter_cons_of_neg (by simp;grind),List.filter_cons_of_neg (by simp;grind),ih]
  ·have e:(l.filter fun r=>decide (x≤r∧r< m))= []:=List.filter_eq_nil_iff.2 fun b hb=>by
    have:=(List.pairwise_cons.1 hp).1 b hb
    simp;grind
   rw [e,List.nil_append] at ih
   rw [List.filter_cons_of_neg (p:=fun r=>decide (x≤r∧r< m)) (by simp;grind),e,List.nil_append]
   by_cases k:a≤y
   ·rw [List.filter_cons_of_pos (by simp;grind),List.filter_cons_of_pos (by simp;grind),ih]
   ·rw [List.filter_cons_of_neg (by simp;grind),List.filter_cons_of_neg (by simp;grind),ih]
theorem ZpQ {rs:List Rat} {x m:Rat} (hm:m ∉ rs):(rs.filter fun r=>decide (x≤r∧r< m))=rt rs x m:=by
 refine List.filter_congr fun r hr=> ?_
 have:r≠m:=fun e=>hm (e ▸ hr)
 exact decide_eq_decide.2 ⟨fun h=>⟨h.1,Rat.le_of_lt h.2⟩,fun h=>⟨h.1,by have:=h.2;grind⟩⟩
def Gd (rs:List Rat) (M:Rat) (K:Nat):List (Rat×Rat)→List Rat→Prop
 | [], []=>True
 |s :: L,r :: l=>(Good rs s r∧dya M K s.1∧dya M K s.2)∧Gd rs M K L l
 |_,_=>False
theorem ZlN {rs:List Rat} {M:Rat} {K:Nat}:∀ {L1 L2:List (Rat×Rat)} {l1 l2:List Rat},Gd rs M K L1 l1→Gd rs M K L2 l2→Gd rs M K (L1++L2) (l1++l2)
 | [],_, [],_,_,h=>h
 | [],_,_ :: _,_,h,_=>h.elim
 |_ :: _,_, [],_,h,_=>h.elim
 |_ :: _,_,_ :: _,_,h,g=>⟨h.1,ZlN h.2 g⟩
theorem Zo1 {rs:List Rat} {M:Rat} {K:Nat}:∀ {L:List (Rat×Rat)} {l:List Rat},Gd rs M K L l→L.length=l.length
 | [], [],_=>rfl
 | [],_ :: _,h=>h.elim
 |_ :: _, [],h=>h.elim
 |_ :: _,_ :: _,h=>by simp [Zo1 h.2]
theorem Zsy {rs:List Rat} {M:Rat} {K:Nat}:∀ {L:List (Rat×Rat)} {l:List Rat},Gd rs M K L l→∀ {i:Nat} {s:Rat×Rat} {r:Rat},L[i]? =some s→l[i]? =some r→Good rs s r∧dya M K s.1∧dya M K s.2
 | [], [],_,i,_,_,h,_=>by simp at h
 | [],_ :: _,h,_,_,_,_,_=>h.elim
 |_ :: _, [],h,_,_,_,_,_=>h.elim
 |_ :: _,_ :: _,h,0,_,_,h1,h2=>by obtain rfl:=Option.some.inj h1;obtain rfl:=Option.some.inj h2;exact h.1
 |_ :: _,_ :: _,h,i+1,_,_,h1,h2=>Zsy h.2 (i:=i) h1 h2
theorem ZeZ {P:Nat→Prop}:∀ n,P n→∃ m,m≤n∧P m∧∀ j,j< m→¬ P j
 |0,h=>⟨0,Nat.le_refl _,h,fun j hj=>ω⟩
 |n+1,h=>by
  by_cases g:∃ j,j≤n∧P j
  ·obtain⟨j,hj,hp⟩:=g
   obtain⟨m,h1,h2,h3⟩:=ZeZ j hp
   exact⟨m,ω,h2,h3⟩
  ·exact⟨n+1,Nat.le_refl _,h,fun j hj hp=>g ⟨j,ω,hp⟩⟩
variable {C : List (List Rat)} {rs : List Rat} {M : Rat}
theorem Znz (H:Cx C rs M) {m b:Rat} (hm:m∈rs) (h0:0< b) (h1:b< dl):nrC C m b:=by
 have only:∀ t,t∈rs→m - b≤t→t≤m+b→t=m:=fun t ht a c=>by
  by_cases g:t< m
  ·have:=H.gap t m ht hm g;grind
  ·by_cases k:m< t
   ·have:=H.gap m t hm ht k;grind
   ·grind
 refine⟨?_,fun e=> ?_,fun e=> ?_⟩
 ·rw [H.cnt _ _ (by grind),Ze5 H.srt (s:=(m - b,m+b)) ⟨⟨by simp only;grind,by simp only;grind⟩,hm,only⟩];rfl
 ·have:=only _ ((H.zer _).1 e) (by grind) (by grind);grind
 ·have:=only _ ((H.zer _).1 e) (by grind) (by grind);grind
theorem Zp2 (H:Cx C rs M) {m b:Rat} (hm:m∈rs) (h0:0< b) (h:nrC C m b):Good rs (m - b,m+b) m:=by
 have:=h.1
 rw [H.cnt _ _ (by grind)] at this
 have hmm:m∈rt rs (m - b) (m+b):=ZcE.2 ⟨hm,by grind,by grind⟩
 refine⟨⟨by simp only;grind,by simp only;grind⟩,hm,fun t ht a c=> ?_⟩
 have htm:t∈rt rs (m - b) (m+b):=ZcE.2 ⟨ht,a,c⟩
 match hl:rt rs (m - b) (m+b),this with
 | [u],_=>
  rw [hl] at hmm htm
  rw [List.mem_singleton.1 hmm,List.mem_singleton.1 htm]
 | [],this=>simp at this
 |_ :: _ :: _,this=>simp at this;omega
theorem Zrr (H:Cx C rs M):∀ (d k:Nat) (x y:Rat),dya M k x→dya M k y→x< y→x ∉ rs→y ∉ rs→y - x< p2 d*dl→k+26*d≤800→d≤24→∃ L,Spl C x y L∧Gd rs M 800 L (rt rs x y):=by
 intro d
 induction d with
 |zero=>
  intro k x y hx hy hxy nx ny hw hk _
  have zx:=ZbK H.mp H.mz ω hx
  have zy:=ZbK H.mp H.mz ω hy
  have hc:=H.cnt x y (Rat.le_of_lt hxy)
  match hl:rt rs x y with
  | []=>rw [hl] at hc;exact⟨[],.none ω ω hc,trivial⟩
  | [r]=>rw [hl] at hc;exact⟨[(x,y)],.one ω ω hc,⟨ZgZ hl,ZaB hx ω,ZaB hy ω⟩,trivial⟩
  |r :: s :: l=>
   have hr:r∈rt rs x y:=by rw [hl];simp
   have hs:s∈rt rs x y:=by rw [hl];simp
   have hlt:r< s:=by
    have:=H.srt.filter (fun r=>decide (x≤r∧r≤y))
    rw [show rs.filter _=_ from hl] at this
    exact(List.pairwise_cons.1 this).1 s (by simp)
   obtain⟨r1,r2,r3⟩:=ZcE.1 hr
   obtain⟨s1,s2,s3⟩:=ZcE.1 hs
   have:=H.gap r s r1 s1 hlt
   have hw:y - x< 1*dl:=hw
   grind
 |succ e ih=>
  intro k x y hx hy hxy nx ny hw hk he
  have zx:=ZbK H.mp H.mz ω hx
  have zy:=ZbK H.mp H.mz ω hy
  have hc:=H.cnt x y (Rat.le_of_lt hxy)
  match hl:rt rs x y with
  | []=>rw [hl] at hc;exact⟨[],.none ω ω hc,trivial⟩
  | [r]=>rw [hl] at hc;exact⟨[(x,y)],.one ω ω hc,⟨ZgZ hl,ZaB hx ω,ZaB hy ω⟩,trivial⟩
  |r :: s :: l=>
   rw [hl] at hc
   have hc0:ctN C x y≠0:=by rw [hc];simp only [List.length_cons];omega
   have hc1:ctN C x y≠1:=by rw [hc];simp only [List.length_cons];omega
   rw [← hl]
   have hmd:=ZnH x y
   have h2:=half2
   have hdm:=Zo8 hx hy
   have hx1:=ZaB hx (show k≤k+1 by omega)
   have hy1:=ZaB hy (show k≤k+1 by omega)
   have hw:y - x< p2 e*2*dl:=hw
   generalize hm:mdQ x y=m at*
   have m1:x< m:=by rw [hmd];grind
   have m2:m< y:=by rw [hmd];grind
   have m3:y - m=m - x:=by rw [hmd];grind
   have m4:y - m< p2 e*dl:=by rw [hmd];grind
   by_cases hmr:m∈rs
   ·have hz:evP (c0C C) (mdQ x y)=0:=by rw [hm];exact(H.zer m).2 hmr
    have hsm:nrC C m (byQ (y - m) (e+1)):=by
     rw [Zod]
     have a:=Zb9 (e+1)
     refine Znz H hmr (Rat.mul_pos (by grind) a) ?_
     have b:=Zqw e
     have c:=Zb9 e
     show (y - m)*(hp e*(1 / 2))< dl
     have d1:=Rat.mul_pos (show 0< p2 e*dl - (y - m) by grind) c
     have d2:=ZsH
     have d3:p2 e*dl*hp e=dl:=by grind
     grind
    obtain⟨J,j1,⟨j2,j3⟩,j4⟩:=ZeZ (P:=fun j=>1≤j∧nrC C m (byQ (y - m) j)) (e+1) ⟨ω,hsm⟩
    have hb:=Zod (y - m) J
    have hbp:0< byQ (y - m) J:=by rw [hb];exact Rat.mul_pos (by grind) (Zb9 J)
    have hb2:byQ (y - m) J*2≤y - m:=by
     rw [hb]
     have:hp J≤hp 1:=Zsx j2
     have h1:hp 1=1 / 2:=by decide+kernel
     have:=Rat.mul_nonneg (show 0≤y - m by grind) (show 0≤1 / 2 - hp J by grind)
     grind
    have hg:=Zp2 H hmr hbp j3
    have b1:=hdm.2.1;have b2:=hdm.2.2;have b3:=hx.2.1;have b4:=hy.2.2
    have hd1:dya M (k+1+J) (m - byQ (y - m) J):=Zo9 hdm hy1 J (-1) (by rw [hb,show ((-1:Int):Rat)=-1 from rfl];grind) (by grind) (by grind)
    have hd2:dya M (k+1+J) (m+byQ (y - m) J):=Zo9 hdm hy1 J 1 (by rw [hb,show ((1:Int):Rat)=1 from rfl];grind) (by grind) (by grind)
    have n1:m - byQ (y - m) J ∉ rs:=fun g=>j3.2.1 ((H.zer _).2 g)
    have n2:m+byQ (y - m) J ∉ rs:=fun g=>j3.2.2 ((H.zer _).2 g)
    have hnr:NrOk C (mdQ x y) (y - mdQ x y) J:=by
     rw [hm]
     refine⟨j2,fun j hj=> ?_,fun j h1 h2 h3=>j4 j h2 ⟨h1,h3⟩,j3⟩
     have hdj:dya M (k+1+j) (byQ (y - m) j):=by
      obtain⟨⟨a,ea⟩,_⟩:=hdm
      obtain⟨⟨c,ec⟩,_⟩:=hy1
      have hpj:∀ i,hp (k+1+i)=hp (k+1)*hp i:=fun i=>by
       induction i with
       |zero=>show hp (k+1)=hp (k+1)*1;grind
       |succ i ih=>show hp (k+1+i)*(1 / 2)=hp (k+1)*(hp i*(1 / 2));rw [ih];grind
      have hpj0:=Zb9 j
      have hpj1:hp j≤1:=Zsx (Nat.zero_le j)
      rw [Zod]
      have t1:=Rat.mul_nonneg (show 0≤y - m by grind) (Rat.le_of_lt hpj0)
      have t2:=Rat.mul_nonneg (show 0≤y - m by grind) (show 0≤1 - hp j by grind)
      have hMp:=H.mp
      refine⟨⟨c - a,?_⟩,by grind,by grind⟩
      rw [Rat.intCast_sub,hpj j]
      rw (occs:= .pos [1]) [ec];rw (occs:= .pos [1]) [ea];grind
     have:=ZbK H.mp H.mz ω hdj
     omega
    obtain⟨L1,s1,g1⟩:=ih (k+1+J) x (m - byQ (y - m) J) (ZaB hx ω) hd1 (by grind) nx n1 (by grind) ω ω
    obtain⟨L2,s2,g2⟩:=ih (k+1+J) (m+byQ (y - m) J) y hd2 (ZaB hy ω) (by grind) n2 ny (by grind) ω ω
    refine⟨L1++(m,m) :: L2,?_,?_⟩
    ·have:=Spl.mid (C:=C) (x:=x) (y:=y) (L1:=L1) (L2:=L2) J ω ω hc0 hc1 hz hnr (by rw [hm];exact s1) (by rw [hm];exact s2)
     rw [hm] at this;exact this
    ·have r1:=ZcQ (m:=m - byQ (y - m) J) (x:=x) (y:=y) H.srt (by grind) (by grind)
     have r2:=ZcQ (m:=m+byQ (y - m) J) (x:=m - byQ (y - m) J) (y:=y) H.srt (by grind) (by grind)
     rw [ZpQ n1] at r1
     rw [ZpQ n2,Ze5 H.srt (s:=(m - byQ (y - m) J,m+byQ (y - m) J)) hg] at r2
     rw [r1,r2]
     refine ZlN g1 ⟨⟨⟨⟨Rat.le_refl,Rat.le_refl⟩,hmr,fun t _ a c=>by simp only at a c;grind⟩,ZaB hdm ω,ZaB hdm ω⟩,g2⟩
   ·have hz:¬ evP (c0C C) (mdQ x y)=0:=by rw [hm];exact fun g=>hmr ((H.zer m).1 g)
    obtain⟨L1,s1,g1⟩:=ih (k+1) x m hx1 hdm m1 nx hmr (by grind) ω ω
    obtain⟨L2,s2,g2⟩:=ih (k+1) m y hdm hy1 m2 hmr ny m4 ω ω
    refine⟨L1++L2,?_,?_⟩
    ·exact Spl.two ω ω hc0 hc1 hz (by rw [hm];exact s1) (by rw [hm];exact s2)
    ·rw [ZcQ (m:=m) H.srt (Rat.le_of_lt m1) (Rat.le_of_lt m2),ZpQ hmr]
     exact ZlN g1 g2
open ine (ev cf lin mkp dif)
section
variable {C : List (List Rat)} {rs : List Rat} {M : Rat}
theorem Zhs (H:Cx C rs M) {s:Rat×Rat} {r:Rat} (h:Good rs s r):Good rs (hvR C s) r:=by
 obtain⟨⟨a,b⟩,hm,u⟩:=h
 have hmd:=ZnH s.1 s.2
 have h2:=half2
 unfold hvR
 generalize mdQ s.1 s.2=m at*
 split
 ·rename_i hz
  have hmr:=(H.zer m).1 hz
  have:=u m hmr (by grind) (by grind)
  subst this
  exact⟨⟨Rat.le_refl,Rat.le_refl⟩,hm,fun t ht x y=>u t ht (by simp only at x;grind) (by simp only at y;grind)⟩
 ·rename_i hz
  split
  ·rename_i hc
   rw [H.cnt _ _ (by grind)] at hc
   match hl:rt rs s.1 m,hc with
   | [v],_=>
    have hg:=ZgZ hl
    have hv:=u v hg.2.1 hg.1.1 (by have:=hg.1.2;simp only at this;grind)
    subst hv;exact hg
   | [],hc=>simp at hc
   |_ :: _ :: _,hc=>simp at hc;omega
  ·rename_i hc
   refine⟨⟨?_,b⟩,hm,fun t ht x y=>u t ht (by simp only at x;grind) y⟩
   show m≤r
   refine Rat.not_lt.1 fun hlt=>hc ?_
   rw [H.cnt _ _ (by grind),Ze5 H.srt (s:=(s.1,m)) ⟨⟨a,Rat.le_of_lt hlt⟩,hm,fun t ht x y=>u t ht x (by simp only at y;grind)⟩];rfl
theorem hv_w {s:Rat×Rat} (h:s.1≤s.2):(hvR C s).1≤(hvR C s).2∧(hvR C s).2 - (hvR C s).1≤(s.2 - s.1)*(1 / 2):=by
 have hmd:=ZnH s.1 s.2
 have h2:=half2
 unfold hvR
 generalize mdQ s.1 s.2=m at*
 split
 ·exact⟨Rat.le_refl,by show m - m≤_;grind⟩
 ·split
  ·exact⟨by show s.1≤m;grind,by show m - s.1≤_;grind⟩
  ·exact⟨by show m≤s.2;grind,by show s.2 - m≤_;grind⟩
theorem ZlE {s:Rat×Rat} {k:Nat} (h1:dya M k s.1) (h2:dya M k s.2):dya M (k+1) (hvR C s).1∧dya M (k+1) (hvR C s).2:=by
 have hm:=Zo8 h1 h2
 have a:=ZaB h1 (show k≤k+1 by omega)
 have b:=ZaB h2 (show k≤k+1 by omega)
 unfold hvR
 split
 ·exact⟨hm,hm⟩
 ·split
  ·exact⟨a,hm⟩
  ·exact⟨hm,b⟩
theorem Zix (H:Cx C rs M) {s:Rat×Rat} {r:Rat} {k:Nat} (h:Good rs s r) (h1:dya M k s.1) (h2:dya M k s.2):∀ t,Good rs (hvN C s t) r∧(dya M (k+t) (hvN C s t).1∧dya M (k+t) (hvN C s t).2)∧(hvN C s t).2 - (hvN C s t).1≤(s.2 - s.1)*hp t
 |0=>⟨h,⟨h1,h2⟩,by show s.2 - s.1≤(s.2 - s.1)*1;grind⟩
 |t+1=>by
  obtain⟨a,⟨b,c⟩,d⟩:=Zix H h h1 h2 t
  have w:=(hv_w (C:=C) (Rat.le_trans a.1.1 a.1.2)).2
  refine⟨Zhs H a,ZlE b c,?_⟩
  show (hvR C (hvN C s t)).2 - (hvR C (hvN C s t)).1≤(s.2 - s.1)*(hp t*(1 / 2))
  have:=half2
  grind
theorem Ztu (H:Cx C rs M) {s:Rat×Rat} {r:Rat} {k n:Nat} {w:Rat} (h:Good rs s r) (h1:dya M k s.1) (h2:dya M k s.2) (hw:(s.2 - s.1)*hp n≤w) (hk:k+n≤1000):
  ∃ m,FnOk C s w m∧((hvN C s m).1≤r∧r≤(hvN C s m).2)∧qs (hvN C s m).1≤400∧qs (hvN C s m).2≤400:=by
 obtain⟨m,m1,m2,m3⟩:=ZeZ (P:=fun t=>¬ w< (hvN C s t).2 - (hvN C s t).1) n (by have:=(Zix H h h1 h2 n).2.2;grind)
 have z:∀ t,t≤n→qs (hvN C s t).1≤400∧qs (hvN C s t).2≤400:=fun t ht=>by
  obtain⟨_,⟨b,c⟩,_⟩:=Zix H h h1 h2 t
  exact⟨ZbK H.mp H.mz ω b,ZbK H.mp H.mz ω c⟩
 refine⟨m,⟨fun t ht=> ?_,fun t ht=> ?_,m2⟩,(Zix H h h1 h2 m).1.1,z m m1⟩
 ·have:=z t ω;omega
 ·exact Classical.byContradiction fun g=>m3 t ht g
structure SG (rs:List Rat) (M:Rat) (K:Nat) (R:List (Rat×Rat)):Prop where
 len:R.length=rs.length
 at_:∀ (i:Nat) (s:Rat×Rat) (r:Rat),R[i]? =some s→rs[i]? =some r→Good rs s r∧dya M K s.1∧dya M K s.2
theorem SG.up {R:List (Rat×Rat)} {K J:Nat} (h:SG rs M K R) (hk:K≤J):SG rs M J R:=⟨h.len,fun i s r a b=>by
 obtain⟨c,d,e⟩:=h.at_ i s r a b
 exact⟨c,ZaB d hk,ZaB e hk⟩⟩
theorem SG.get {R:List (Rat×Rat)} {K:Nat} (h:SG rs M K R) {i:Nat} (hi:i< R.length):∃ r,rs[i]? =some r∧R[i]? =some (stAt R i)∧Good rs (stAt R i) r∧dya M K (stAt R i).1∧dya M K (stAt R i).2:=by
 have e:R[i]? =some (stAt R i):=by unfold stAt;rw [List.getElem?_eq_getElem hi];rfl
 have hr:=List.getElem?_eq_getElem (show i< rs.length by rw [← h.len];exact hi)
 exact⟨_,hr,e,h.at_ i _ _ e hr⟩
theorem SG.step (H:Cx C rs M) {R:List (Rat×Rat)} {K i:Nat} (h:SG rs M K R) (h1:1≤i) (hi:i< R.length):SG rs M (K+1) (spStep C R i):=by
 obtain⟨r0,a1,a2,a3,a4,a5⟩:=h.get (show i - 1< R.length by omega)
 obtain⟨r1,b1,b2,b3,b4,b5⟩:=h.get hi
 refine⟨by rw [Zbm];exact h.len,fun j s r hs hr=> ?_⟩
 unfold spStep at hs
 by_cases e:j=i
 ·subst e
  rw [List.getElem?_set_self (by rw [List.length_set];exact hi)] at hs
  rw [b1] at hr
  obtain rfl:=Option.some.inj hs
  obtain rfl:=Option.some.inj hr
  exact⟨Zhs H b3,ZlE b4 b5⟩
 ·rw [List.getElem?_set_ne (fun g=>e g.symm)] at hs
  by_cases f:j=i - 1
  ·subst f
   rw [List.getElem?_set_self ω] at hs
   rw [a1] at hr
   obtain rfl:=Option.some.inj hs
   obtain rfl:=Option.some.inj hr
   exact⟨Zhs H a3,ZlE a4 a5⟩
  ·rw [List.getElem?_set_ne (fun g=>f g.symm)] at hs
   exact(h.up (Nat.le_succ K)).at_ j s r hs hr
theorem Zrn {R:List (Rat×Rat)} {i:Nat} (h1:1≤i) (hi:i< R.length):stAt (spStep C R i) i=hvR C (stAt R i)∧stAt (spStep C R i) (i - 1)=hvR C (stAt R (i - 1)):=by
 constructor
 ·refine Zap ?_
  unfold spStep
  rw [List.getElem?_set_self (by rw [List.length_set];exact hi)]
 ·refine Zap ?_
  unfold spStep
  rw [List.getElem?_set_ne ω,List.getElem?_set_self ω]
theorem ZrB (H:Cx C rs M) (hM:2*M< p2 23*dl):∀ (u K i:Nat) (R:List (Rat×Rat)),1≤i→(i+u=R.length∨(u=0∧R.length≤i))→SG rs M K R→K+25*u≤900→∃ n R',Sep C n R i R'∧SG rs M 900 R':=by
 intro u
 induction u with
 |zero=>
  intro K i R h1 hu hg hk
  exact⟨0,R,.done ω,hg.up ω⟩
 |succ u ih=>
  intro K i R h1 hu hg hk
  have key:∀ (t K:Nat) (R:List (Rat×Rat)),i+(u+1)=R.length→SG rs M K R→((stAt R (i - 1)).2 - (stAt R (i - 1)).1)*2< p2 t*dl→((stAt R i).2 - (stAt R i).1)*2< p2 t*dl→K+t+25*u≤900→∃ n R',Sep C n R i R'∧SG rs M 900 R':=by
   intro t
   induction t with
   |zero=>
    intro K R hl hg w1 w2 hk
    obtain⟨r0,a1,a2,a3,a4,a5⟩:=hg.get (show i - 1< R.length by omega)
    obtain⟨r1,b1,b2,b3,b4,b5⟩:=hg.get (show i< R.length by omega)
    have hlt:r0< r1:=by
     have:=List.pairwise_iff_getElem.1 H.srt (i - 1) i (List.getElem?_eq_some_iff.1 a1).1 (List.getElem?_eq_some_iff.1 b1).1 ω
     rwa [(List.getElem?_eq_some_iff.1 a1).2,(List.getElem?_eq_some_iff.1 b1).2] at this
    have hgap:=H.gap r0 r1 a3.2.1 b3.2.1 hlt
    have c1:=a3.1;have c2:=b3.1
    have w1:((stAt R (i - 1)).2 - (stAt R (i - 1)).1)*2< 1*dl:=w1
    have w2:((stAt R i).2 - (stAt R i).1)*2< 1*dl:=w2
    have z1:=ZbK H.mp H.mz ω a5
    have z2:=ZbK H.mp H.mz ω b4
    obtain⟨n,R',s1,s2⟩:=ih K (i+1) R ω ω hg ω
    exact⟨n+1,R',.next ω (by grind) ⟨ω,ω⟩ s1,s2⟩
   |succ t iht=>
    intro K R hl hg w1 w2 hk
    obtain⟨r0,a1,a2,a3,a4,a5⟩:=hg.get (show i - 1< R.length by omega)
    obtain⟨r1,b1,b2,b3,b4,b5⟩:=hg.get (show i< R.length by omega)
    have y1:=ZbK H.mp H.mz ω a4
    have z1:=ZbK H.mp H.mz ω a5
    have z2:=ZbK H.mp H.mz ω b4
    have y2:=ZbK H.mp H.mz ω b5
    by_cases g:(stAt R (i - 1)).2< (stAt R i).1
    ·obtain⟨n,R',s1,s2⟩:=ih K (i+1) R ω ω hg ω
     exact⟨n+1,R',.next ω g ⟨ω,ω⟩ s1,s2⟩
    ·obtain⟨e1,e2⟩:=Zrn (C:=C) (R:=R) h1 (show i< R.length by omega)
     have v1:=(hv_w (C:=C) (Rat.le_trans a3.1.1 a3.1.2)).2
     have v2:=(hv_w (C:=C) (Rat.le_trans b3.1.1 b3.1.2)).2
     have w1:((stAt R (i - 1)).2 - (stAt R (i - 1)).1)*2< p2 t*2*dl:=w1
     have w2:((stAt R i).2 - (stAt R i).1)*2< p2 t*2*dl:=w2
     have h2:=half2
     obtain⟨n,R',s1,s2⟩:=iht (K+1) (spStep C R i) (by rw [Zbm];exact hl) (hg.step H h1 ω) (by rw [e2];grind) (by rw [e1];grind) ω
     exact⟨n+1,R',.halve ω g ⟨ω,ω⟩ ⟨ω,ω⟩ s1,s2⟩
  have hl:i+(u+1)=R.length:=ω
  obtain⟨r0,a1,a2,a3,a4,a5⟩:=hg.get (show i - 1< R.length by omega)
  obtain⟨r1,b1,b2,b3,b4,b5⟩:=hg.get (show i< R.length by omega)
  have q1:=a4.2.1;have q2:=a5.2.2;have q3:=b4.2.1;have q4:=b5.2.2
  have hp24:p2 24=p2 23*2:=rfl
  exact key 24 K R hl hg (by rw [hp24];grind) (by rw [hp24];grind) ω
end
def sumA:List Rat→Rat
 | []=>0
 |a :: l=>absV a+sumA l
theorem ZgC:∀ l,0≤sumA l
 | []=>Rat.le_refl
 |a :: l=>by
  have:=ZgC l
  have h:0≤absV a:=by rw [ZaO];split<;>grind
  show 0≤absV a+sumA l;grind
theorem ZoJ (c:List Rat):msF c c.length=1+sumA c:=by
 have h:∀ (l:List Rat) (b:Rat),l.foldl (fun s x=>s+absV x) b=b+sumA l:=fun l=>by
  induction l with
  |nil=>intro b;show b=b+0;grind
  |cons a l ih=>
   intro b
   show l.foldl _ (b+absV a)=b+(absV a+sumA l)
   rw [ih];grind
 unfold msF
 rw [List.take_length,h];rfl
theorem ZkD:∀ (l:List Rat) (r:Rat),l≠ []→absV (cf l (l.length - 1))=1→(1+sumA l≤r∨r≤-(1+sumA l))→(1≤ev l r∨ev l r≤-1)
 | [],_,h,_,_=>absurd rfl h
 | [a],r,_,h,_=>by
  have h:absV a=1:=h
  show 1≤0*r+a∨0*r+a≤-1
  rw [ZaO] at h
  split at h<;>grind
 |a :: b :: l,r,_,h,hr=>by
  have h':absV (cf (b :: l) ((b :: l).length - 1))=1:=h
  have ha:0≤absV a∧(a≤absV a∧-a≤absV a):=by rw [ZaO];split<;>grind
  have hs:=ZgC (b :: l)
  have hr:1+(absV a+sumA (b :: l))≤r∨r≤-(1+(absV a+sumA (b :: l))):=hr
  have ih:=ZkD (b :: l) r (by simp) h' (by rcases hr with g|g;left;grind;right;grind)
  show 1≤ev (b :: l) r*r+a∨ev (b :: l) r*r+a≤-1
  generalize ev (b :: l) r=e at*
  generalize sumA (b :: l)=S at*
  generalize absV a=t at*
  rcases ih with h1|h1
  ·rcases hr with h2|h2
   ·have:=Rat.mul_nonneg (show 0≤e - 1 by grind) (show 0≤r by grind);left;grind
   ·have:=Rat.mul_nonneg (show 0≤e - 1 by grind) (show 0≤-r by grind);right;grind
  ·rcases hr with h2|h2
   ·have:=Rat.mul_nonneg (show 0≤-e - 1 by grind) (show 0≤r by grind);right;grind
   ·have:=Rat.mul_nonneg (show 0≤-e - 1 by grind) (show 0≤-r by grind);left;grind
theorem Zkd {B:Rat} (hB:0≤B):∀ l:List Rat,(∀ c,c∈l→absV c≤B)→sumA l≤(l.length:Rat)*B
 | [],_=>by
   show (0:Rat)≤((0:Nat):Rat)*B;have:((0:Nat):Rat)=0:=rfl
   rw [this];grind
 |a :: l,h=>by
  have ih:=Zkd hB l fun c hc=>h c (List.mem_cons_of_mem _ hc)
  have ha:=h a (by simp)
  have hl:(((a :: l).length:Nat):Rat)=(l.length:Rat)+1:=by rw [List.length_cons];simp
  show absV a+sumA l≤_
  rw [hl];grind
theorem ZnA {r s:Rat} (h:nice r) (g:nice s) (hlt:r< s):r+dl≤s:=by
 obtain⟨N,_,rfl⟩:=h
 obtain⟨K,_,rfl⟩:=g
 unfold dl
 have e:∀ N:Int,mkRat N 120=(N:Rat)*(120:Rat)⁻¹:=fun N=>by rw [ZcG,Rat.div_def];rfl
 have e1:((1:Int):Rat)=1:=rfl
 rw [e,e] at hlt
 rw [e,e,e,e1]
 have hi:(0:Rat)< (120:Rat)⁻¹:=by decide+kernel
 have hN:N< K:=by
  refine Int.not_le.1 fun hle=> ?_
  have:=Rat.mul_nonneg (show 0≤(N:Rat) - (K:Rat) by have:=Rat.intCast_le_intCast.2 hle;grind) (Rat.le_of_lt hi)
  grind
 have h1:((N+1:Int):Rat)≤(K:Rat):=Rat.intCast_le_intCast.2 hN
 rw [Rat.intCast_add,e1] at h1
 have:=Rat.mul_nonneg (show 0≤(K:Rat) - ((N:Rat)+1) by grind) (Rat.le_of_lt hi)
 grind
open ine (ev cf lin mkp dif)
theorem ZiU {x y:Rat} (hxy:x≤y):∀ R:List Rat,R.Pairwise (· ≠ ·)→(R.filter fun r=>decide (x< r)).length+(if x∈R then 1 else 0)=(R.filter fun r=>decide (y< r)).length+(rt R x y).length
 | [],_=>by simp [rt]
 |r :: R,hd=>by
  obtain⟨h1,h2⟩:=List.pairwise_cons.1 hd
  have ih:=ZiU hxy R h2
  unfold rt at ih ⊢
  by_cases e:x=r
  ·subst e
   have hn:x ∉ R:=fun h=>h1 x h rfl
   rw [if_neg hn] at ih
   rw [List.filter_cons_of_neg (by simp [Rat.lt_irrefl]),if_pos (by simp),List.filter_cons_of_neg (by simp;grind),List.filter_cons_of_pos (by simp;exact hxy),List.length_cons];omega
  ·have hm:(x∈r :: R)↔x∈R:=by rw [List.mem_cons];exact⟨fun h=>h.resolve_left e,.inr⟩
   have hi:(if x∈r :: R then 1 else 0)=(if x∈R then 1 else 0):=by simp only [hm]
   rw [hi]
   by_cases g:x< r
   ·rw [List.filter_cons_of_pos (by simpa using g),List.length_cons]
    by_cases k:y< r
    ·rw [List.filter_cons_of_pos (p:=fun r=>decide (y< r)) (by simpa using k),List.filter_cons_of_neg (by simp;grind),List.length_cons];omega
    ·rw [List.filter_cons_of_neg (p:=fun r=>decide (y< r)) (by simpa using k),List.filter_cons_of_pos (by simp;grind),List.length_cons];omega
   ·rw [List.filter_cons_of_neg (by simpa using g),List.filter_cons_of_neg (by simp;grind),List.filter_cons_of_neg (by simp;grind)];exact ih
theorem ZsZ {R:List Rat} (hd:R.Pairwise (· ≠ ·)) {ep:Rat} (he:ep=1∨ep=-1):c0C (cnF ((mkp R).map fun c=>ep*c))=(mkp R).map fun c=>ep*c:=by
 have he0:ep≠0:=by rcases he with rfl|rfl<;>decide
 by_cases hR:R.length=0
 ·have:R= []:=List.eq_nil_of_length_eq_zero hR
  subst this
  rcases he with rfl|rfl<;>decide+kernel
 ·exact(Zc5 hd ω he0).1.fst
def bdM (R:List Rat) (ep:Rat):Rat:=1+sumA ((mkp R).map fun c=>ep*c)
theorem Zpm {ep c:Rat} (he:ep=1∨ep=-1):absV (ep*c)=absV c:=by
 rw [ZaO,ZaO]
 rcases he with rfl|rfl<;>(split<;>split<;>grind)
theorem pow9:∀ n,n≤4→((1080 ^ n:Nat):Rat)≤6561*((120 ^ n:Nat):Rat):=by decide+kernel
theorem Zr4 {R:List Rat} (hn:R.length≤4) (h:∀ r,r∈R→nice r) (i:Nat):absV (cf (mkp R) i)≤6561:=by
 obtain⟨M,hM,e⟩:=ZeW R h i
 have hp:(0:Rat)< ((120 ^ R.length:Nat):Rat):=by exact_mod_cast Nat.pow_pos (n:=R.length) (show 0< 120 by decide)
 have h9:=pow9 R.length hn
 have a1:(M:Rat)≤((1080 ^ R.length:Nat):Rat):=by
  have:M≤((1080 ^ R.length:Nat):Int):=ω
  exact Rat.intCast_le_intCast.2 this
 have a2:-((1080 ^ R.length:Nat):Rat)≤(M:Rat):=by
  have:-((1080 ^ R.length:Nat):Int)≤M:=ω
  have:=Rat.intCast_le_intCast.2 this
  rw [Rat.intCast_neg] at this;exact this
 rw [e,ZcG,Rat.div_def]
 generalize ((120 ^ R.length:Nat):Rat)=d at*
 have hi:=Rat.inv_pos.2 hp
 have hc:=Rat.mul_inv_cancel d (by grind)
 have b1:=Rat.mul_nonneg (show 0≤6561*d - (M:Rat) by grind) (Rat.le_of_lt hi)
 have b2:=Rat.mul_nonneg (show 0≤6561*d+(M:Rat) by grind) (Rat.le_of_lt hi)
 rw [ZaO]
 split<;>grind
theorem Zs3 {R:List Rat} (hn:R.length≤4) (h:∀ r,r∈R→nice r) {ep:Rat} (he:ep=1∨ep=-1):0< bdM R ep∧2*bdM R ep< p2 23*dl:=by
 have h0:=ZgC ((mkp R).map fun c=>ep*c)
 have h1:=Zkd (B:=6561) ωd ((mkp R).map fun c=>ep*c) fun c hc=>by
  obtain⟨d,hd,rfl⟩:=List.mem_map.1 hc
  obtain⟨i,hi⟩:=List.mem_iff_getElem?.1 hd
  rw [Zpm he]
  have:=Zr4 hn h i
  unfold cf at this;rwa [hi] at this
 rw [List.length_map,ine.mkp_len] at h1
 have h2:(((R.length+1:Nat)):Rat)≤5:=by
  have:((R.length+1:Nat):Int)≤5:=ω
  exact Rat.intCast_le_intCast.2 this
 have h3:=Rat.mul_nonneg (show 0≤5 - (((R.length+1:Nat)):Rat) by grind) (show (0:Rat)≤6561 by decide)
 have h4:(65612:Rat)< p2 23*dl:=by decide+kernel
 unfold bdM
 generalize ((R.length+1:Nat):Rat)=t at*
 generalize sumA _=S at*
 constructor<;>grind
theorem ZpR {R:List Rat} {ep r:Rat} (he:ep=1∨ep=-1) (hr:r∈R):-bdM R ep< r∧r< bdM R ep:=by
 have hl:((mkp R).map fun c=>ep*c).length=R.length+1:=by rw [List.length_map,ine.mkp_len]
 have key:=ZkD ((mkp R).map fun c=>ep*c) r (List.length_pos_iff.1 ω) (by
  rw [hl,Nat.add_sub_cancel,ZaL,Zpm he,ine.mkp_top];decide+kernel)
 rw [ine.ev_scale,ine.mkp_root R r hr] at key
 have:¬ (1+sumA ((mkp R).map fun c=>ep*c)≤r∨r≤-(1+sumA ((mkp R).map fun c=>ep*c))):=fun g=>by
  have:=key g
  have z:ep*0=0:=by grind
  rw [z] at this
  rcases this with g|g
  ·exact absurd g ωd
  ·exact absurd g ωd
 unfold bdM
 constructor
 ·exact Rat.not_le.1 fun g=>this (.inr g)
 ·exact Rat.not_le.1 fun g=>this (.inl g)
theorem Zr0 {c:List Rat} {A:Nat} (h:zb A c) (hl:c.length≤5) (i:Nat):qs (msF c i)≤1+5*(A+1):=by
 have key:∀ i,i≤c.length→qs (msF c i)≤1+i*(A+1):=by
  intro i
  induction i with
  |zero=>intro _;show qs ((1:Int):Rat)≤_;exact Nat.le_trans (by decide+kernel:qs ((1:Int):Rat)≤1) ω
  |succ i ih=>
   intro hi
   have ih:=ih ω
   have e:=List.getElem?_eq_getElem (show i< c.length by omega)
   rw [ZeV e]
   have h1:=ZaF (msF c i) (absV c[i])
   have h2:qs (absV c[i])=qs c[i]:=by
    rw [ZaO];split
    ·rfl
    ·exact Zdl _
   have h3:=h c[i] (List.getElem_mem _)
   rw [Nat.add_mul]
   omega
 by_cases g:i≤c.length
 ·have:=key i g
  have:i*(A+1)≤5*(A+1):=Nat.mul_le_mul_right _ ω
  omega
 ·have e:msF c i=msF c c.length:=by unfold msF;rw [List.take_of_length_le ω,List.take_length]
  rw [e]
  have:=key _ (Nat.le_refl c.length)
  have:c.length*(A+1)≤5*(A+1):=Nat.mul_le_mul_right _ hl
  omega
theorem ZsM {R:List Rat} (hd:R.Pairwise (· ≠ ·)) {ep:Rat} (he:ep=1∨ep=-1) {x y:Rat} (hxy:x≤y):ctN (cnF ((mkp R).map fun c=>ep*c)) x y=((rt R x y).length:Int)∧
  (evP (c0C (cnF ((mkp R).map fun c=>ep*c))) x=0↔x∈R):=by
 have he0:ep≠0:=by rcases he with rfl|rfl<;>decide
 have hz:evP (c0C (cnF ((mkp R).map fun c=>ep*c))) x=0↔x∈R:=by
  rw [ZsZ hd he,ZiI,ine.ev_scale]
  constructor
  ·intro h
   refine Classical.byContradiction fun hn=> ?_
   rcases Rat.mul_eq_zero.1 h with g|g
   ·exact he0 g
   ·exact ine.mkp_ne R x hn g
  ·intro h;rw [ine.mkp_root R x h];grind
 refine⟨?_,hz⟩
 have hc:∀ z,chN (cnF ((mkp R).map fun c=>ep*c)) z=((R.filter fun r=>decide (z< r)).length:Int):=fun z=>by
  by_cases hR:R.length=0
  ·have:R= []:=List.eq_nil_of_length_eq_zero hR
   subst this
   have e:cnF ((mkp []).map fun c=>ep*c)= [[ep]]:=by rcases he with rfl|rfl<;>decide+kernel
   rw [e]
   unfold chN chS
   show (if _*(0:Int)< 0 then (0:Int)+1 else 0)=0
   rw [Int.mul_zero,if_neg ωd]
  ·exact Zkh hd ω he0 z
 have hl:=ZiU hxy R hd
 unfold ctN
 rw [hc,hc]
 show _ - _+(if evP (c0C (cnF ((mkp R).map fun c=>ep*c))) x=0 then (1:Int) else 0)=_
 by_cases g:x∈R
 ·rw [if_pos (hz.2 g)];rw [if_pos g] at hl;omega
 ·rw [if_neg (fun e=>g (hz.1 e))];rw [if_neg g] at hl;omega
theorem ZtA {R rs:List Rat} (hd:R.Pairwise (· ≠ ·)) (hn:R.length≤4) (h:∀ r,r∈R→nice r) (hp:rs.Perm R) (hs:rs.Pairwise (· < ·)) {ep:Rat} (he:ep=1∨ep=-1):Cx (cnF ((mkp R).map fun c=>ep*c)) rs (bdM R ep) where
 srt:=hs
 gap:=fun r s hr hs2 hlt=>ZnA (h r (hp.mem_iff.1 hr)) (h s (hp.mem_iff.1 hs2)) hlt
 cnt:=fun x y hxy=>by
  rw [(ZsM hd he hxy).1]
  have:(rt rs x y).length=(rt R x y).length:=(hp.filter _).length_eq
  rw [this]
 zer:=fun x=>((ZsM hd he (Rat.le_refl (a:=x))).2).trans hp.mem_iff.symm
 mp:=(Zs3 hn h he).1
 mz:=by
  unfold bdM
  have hl:((mkp R).map fun c=>ep*c).length=R.length+1:=by rw [List.length_map,ine.mkp_len]
  rw [← ZoJ]
  have:=Zr0 (Zeg he (Zb4 hn h)) ω ((mkp R).map fun c=>ep*c).length
  omega
theorem Zni {R rs:List Rat} (hd:R.Pairwise (· ≠ ·)) (hn:R.length≤4) (h:∀ r,r∈R→nice r) (hp:rs.Perm R) (hs:rs.Pairwise (· < ·)):
  ∃ C M Rf,RdyOk (mkp R) C∧Cx C rs M∧M≤35000∧SG rs M 900 Rf∧Spec Tryz.prog Tab 14 [.val (.one (.d (.list (List.map rdc (mkp R)))))] (.tup [.one (.d (.list (List.map spD Rf))),.one (.d (.v (.int .i64 (0))))]):=by
 obtain⟨ep,he,hr⟩:=ZrI hd hn h
 have H:=ZtA hd hn h hp hs he
 obtain⟨m1,m2⟩:=Zs3 hn h he
 have c0:=ZsZ hd he
 have hl:((mkp R).map fun c=>ep*c).length=R.length+1:=by rw [List.length_map,ine.mkp_len]
 have hM:msF (c0C (cnF ((mkp R).map fun c=>ep*c))) (c0C (cnF ((mkp R).map fun c=>ep*c))).length=bdM R ep:=by rw [c0,ZoJ];rfl
 have hMz:∀ i,qs (msF (c0C (cnF ((mkp R).map fun c=>ep*c))) i)≤100000:=fun i=>by
  rw [c0]
  have:=Zr0 (Zeg he (Zb4 hn h)) ω i
  omega
 have hrt:∀ r,r∈rs→-bdM R ep< r∧r< bdM R ep:=fun r hr=>ZpR he (hp.mem_iff.1 hr)
 have m3:bdM R ep≤35000:=by
  have:p2 23*dl< 70000:=by decide+kernel
  grind
 have hrsl:rs.length≤4:=by rw [hp.length_eq];exact hn
 generalize bdM R ep=M at*
 have hd1:dya M 0 (-M):=⟨⟨-1,by show -M=M*(((-1:Int):Rat)*1);rw [show ((-1:Int):Rat)=-1 from rfl];grind⟩,Rat.le_refl,by grind⟩
 have hd2:dya M 0 M:=⟨⟨1,by show M=M*(((1:Int):Rat)*1);rw [show ((1:Int):Rat)=1 from rfl];grind⟩,by grind,Rat.le_refl⟩
 obtain⟨L,s1,s2⟩:=Zrr H 23 0 (-M) M hd1 hd2 (by grind) (fun g=>by have:=(hrt _ g).1;grind) (fun g=>by have:=(hrt _ g).2;grind) (by grind) ωd ωd
 have hall:rt rs (-M) M=rs:=List.filter_eq_self.2 fun r hr=>by have:=hrt r hr;exact decide_eq_true ⟨by grind,by grind⟩
 rw [hall] at s2
 have hll:=Zo1 s2
 obtain⟨a1,a2,_⟩:=Zkj hr.chz hr.pos s1 ω
 have hsg:SG rs M 800 L:=⟨hll,fun i s r e1 e2=>Zsy s2 e1 e2⟩
 obtain⟨n,Rf,t1,t2⟩:=ZrB H m2 (L.length - 1) 800 1 L (Nat.le_refl _) ω hsg ω
 refine⟨_,M,Rf,hr,H,m3,t2,?_⟩
 by_cases hL:L= []
 ·have hRf:Rf= []:=List.eq_nil_of_length_eq_zero (by rw [t2.len,← hll,hL];rfl)
  rw [hRf]
  exact ZkC hr hM hMz (a1 hL)
 ·exact Znh hr hM hMz (a2 hL) ω t1
theorem ZqA {p:List Rat} {C:List (List Rat)} {rs:List Rat} {M:Rat} (h:RdyOk p C) (H:Cx C rs M) (hM:M≤35000) {s:Rat×Rat} {r w:Rat} (hg:Good rs s r) (h1:dya M 900 s.1) (h2:dya M 900 s.2) (hw:1 / 200≤w) (hwz:qs w≤1048576):
  ∃ t:Rat×Rat,(t.1≤r∧r≤t.2)∧(qs t.1≤400∧qs t.2≤400)∧Spec Tryz.prog Tab 17 [.val (.one (.d (.list (List.map rdc p)))),pair (cn s.1) (cn s.2),rat (cn w)]
   (.tup [.agg [.d (.v (.bool (cn t.1).s)),.d (.v (.string (cn t.1).a)),.d (.v (.string (cn t.1).d)),.d (.v (.bool (cn t.2).s)),.d (.v (.string (cn t.2).a)),.d (.v (.string (cn t.2).d))],.one (.d (.v (.int .i64 (0))))]):=by
 have hw0:(0:Rat)< 1 / 200:=by decide+kernel
 have hxy:=Rat.le_trans hg.1.1 hg.1.2
 have z1:=ZbK H.mp H.mz ωd h1
 have z2:=ZbK H.mp H.mz ωd h2
 have hn:(s.2 - s.1)*hp 26≤w:=by
  have a:=h1.2.1;have b:=h2.2.2
  have c:=Zb9 26
  have d:70000*hp 26≤1 / 200:=by decide+kernel
  have e:=Rat.mul_nonneg (show 0≤70000 - (s.2 - s.1) by grind) (Rat.le_of_lt c)
  grind
 obtain⟨n,f1,f2,f3⟩:=Ztu (C:=C) H hg h1 h2 hn ωd
 have hc:ctN C s.1 s.2=1:=by rw [H.cnt _ _ hxy,Ze5 H.srt hg];rfl
 exact⟨hvN C s n,f2,f3,Zqz h ω ω hxy (by grind) hwz hc f1⟩
open ine (ev cf lin mkp dif mulX)
def ixF (c:Rat):List Rat→Nat→Int
 | [],_=> -1
 |a :: l,k=>if a=c then (k:Int) else ixF c l (k+1)
theorem ZlC {c:Rat}:∀ {l:List Rat} {k:Nat},0≤ixF c l k↔c∈l
 | [],k=>by show (0:Int)≤-1↔_;simp
 |a :: l,k=>by
  have ih:=ZlC (c:=c) (l:=l) (k:=k+1)
  show 0≤(if a=c then (k:Int) else ixF c l (k+1))↔_
  by_cases h:a=c
  ·rw [if_pos h];exact⟨fun _=>by rw [h];simp,fun _=>ω⟩
  ·rw [if_neg h,ih,List.mem_cons];exact⟨.inr,fun g=>g.resolve_left fun e=>h e.symm⟩
theorem Zqs {c x:Rat} {l:List Rat} {i:Nat} (h:l[i]? =some x) (e:x=c):ixF c (l.drop i) i=(i:Int):=by
 obtain⟨hi,rfl⟩:=List.getElem?_eq_some_iff.1 h
 rw [List.drop_eq_getElem_cons hi];exact if_pos e
theorem ZnW {c x:Rat} {l:List Rat} {i:Nat} (h:l[i]? =some x) (e:¬ x=c):ixF c (l.drop i) i=ixF c (l.drop (i+1)) (i+1):=by
 obtain⟨hi,rfl⟩:=List.getElem?_eq_some_iff.1 h
 rw [List.drop_eq_getElem_cons hi];exact if_neg e
theorem Zqt {c:Rat} {l:List Rat} {i:Nat} (h:l.length≤i):ixF c (l.drop i) i=-1:=by rw [List.drop_eq_nil_of_le h];rfl
def nlI (l:List Int):List Int:=l.take (min l.length 4)
def rvT (l:List Int):Nat→List Rat
 |0=> []
 |i+1=>if ratM ((l[i]?).getD 0)∈rvT l i then rvT l i else ratM ((l[i]?).getD 0) :: rvT l i
theorem ZrE {l:List Int} {i:Nat} {x:Int} (h:l[i]? =some x) (g:ratM x∈rvT l i):rvT l (i+1)=rvT l i:=by
 show (if ratM ((l[i]?).getD 0)∈rvT l i then _ else _)=_
 rw [h];exact if_pos g
theorem ZpL {l:List Int} {i:Nat} {x:Int} (h:l[i]? =some x) (g:¬ ratM x∈rvT l i):rvT l (i+1)=ratM x :: rvT l i:=by
 show (if ratM ((l[i]?).getD 0)∈rvT l i then _ else _)=_
 rw [h];exact if_neg g
theorem ZgW (l:List Int):∀ i,(rvT l i).length≤i
 |0=>Nat.le_refl _
 |i+1=>by
  have ih:=ZgW l i
  show (if ratM ((l[i]?).getD 0)∈rvT l i then _ else _:List Rat).length≤_
  split
  ·omega
  ·simp only [List.length_cons];omega
theorem Zox (l:List Int):∀ i,(rvT l i).Pairwise (· ≠ ·)
 |0=>List.Pairwise.nil
 |i+1=>by
  have ih:=Zox l i
  show (if ratM ((l[i]?).getD 0)∈rvT l i then _ else _:List Rat).Pairwise _
  split
  ·exact ih
  ·rename_i h
   exact List.pairwise_cons.2 ⟨fun a ha e=>h (e ▸ ha),ih⟩
theorem ZqJ (x:Int):120 % denM x=0∧0< denM x:=by
 have h1:=Int.emod_nonneg x (show (6:Int)≠0 by decide)
 have h2:=Int.emod_lt_of_pos x (show (0:Int)< 6 by decide)
 have:x % 6=0∨x % 6=1∨x % 6=2∨x % 6=3∨x % 6=4∨x % 6=5:=ω
 unfold denM
 rcases this with h|h|h|h|h|h<;>rw [h]<;>decide
theorem Zh6 (x:Int):nice (ratM x):=by
 obtain⟨h1,h2⟩:=ZqJ x
 have h3:=Zk2 x
 have h4:denM x*(120 / denM x)=120:=by have:=Nat.div_add_mod 120 (denM x);omega
 refine⟨numM x*((120 / denM x:Nat):Int),?_,?_⟩
 ·rw [Int.natAbs_mul,Int.natAbs_natCast]
  have h5:(numM x).natAbs≤8*denM x:=ω
  have h6:=Nat.mul_le_mul_right (120 / denM x) h5
  rw [Nat.mul_assoc,h4] at h6
  omega
 ·unfold ratM
  rw [ZcG,Rat.intCast_mul]
  have hd:(denM x:Rat)≠0:=fun e=>by
   have:(denM x:Nat)=0:=by exact_mod_cast e
   omega
  have e120:((120:Nat):Rat)=(denM x:Rat)*((120 / denM x:Nat):Rat):=by exact_mod_cast h4.symm
  have hk:((120 / denM x:Nat):Rat)≠0:=fun e=>by
   rw [e] at e120
   have:((120:Nat):Rat)=0:=by rw [e120];grind
   exact absurd this ωk
  have hi:(((120 / denM x:Nat):Int):Rat)=((120 / denM x:Nat):Rat):=rfl
  rw [e120,hi,Rat.div_def,Rat.div_def]
  generalize ((120 / denM x:Nat):Rat)=k at*
  generalize (denM x:Rat)=d at*
  have a1:=Rat.mul_inv_cancel d hd
  have a2:=Rat.mul_inv_cancel k hk
  have hdk:d*k≠0:=fun e=>by rcases Rat.mul_eq_zero.1 e with g|g;exact hd g;exact hk g
  have a3:=Rat.mul_inv_cancel (d*k) hdk
  have a4:(d*k)⁻¹=d⁻¹*k⁻¹:=by grind
  rw [a4];grind
theorem ZcP (l:List Int):∀ i r,r∈rvT l i→nice r
 |0,r,h=>by simp [rvT] at h
 |i+1,r,h=>by
  have h:r∈(if ratM ((l[i]?).getD 0)∈rvT l i then rvT l i else ratM ((l[i]?).getD 0) :: rvT l i):=h
  split at h
  ·exact ZcP l i r h
  ·rcases List.mem_cons.1 h with rfl|h
   ·exact Zh6 _
   ·exact ZcP l i r h
theorem ZrY (l:List Int):(nlI l).length=min l.length 4:=by unfold nlI;rw [List.length_take];omega
def mlR (p:List Rat) (r:Rat) (j i:Nat):RV:=if i< j then cn (cf (mulX r p) i) else if i=j∧0< j then cn (cf p (j - 1)) else z0
def mlF (p:List Rat) (r:Rat) (j:Nat):List (List D):=(List.range (p.length+1)).map fun i=>rd (mlR p r j i)
theorem Zcq (p:List Rat) (r:Rat) (j:Nat):(mlF p r j).length=p.length+1:=by simp [mlF]
theorem ZfY {p:List Rat} {r:Rat} {j i:Nat} (h:i≤p.length):(mlF p r j)[i]? =some (rd (mlR p r j i)):=by
 unfold mlF;rw [List.getElem?_map,List.getElem?_range ω];rfl
theorem Zr2 {p:List Rat} {r:Rat} {j:Nat} (h:j< p.length):(mlF p r j)[j+1]? =some (rd z0):=by
 rw [ZfY ω]
 unfold mlR
 rw [if_neg ω,if_neg ω]
theorem Zp8 {p:List Rat} {r:Rat} {j:Nat} {v:List D} (h:j< p.length):((mlF p r j).set (j+1) v)[j]? =some (rd (mlR p r j j)):=by
 rw [List.getElem?_set_ne ω];exact ZfY ω
theorem ZnF {p:List Rat} {r:Rat} {n:Nat} (h:n=p.length+1):List.replicate n (rd z0)=mlF p r 0:=by
 subst h
 unfold mlF
 refine List.ext_getElem? fun i=> ?_
 rw [List.getElem?_replicate,List.getElem?_map]
 by_cases hi:i< p.length+1
 ·rw [if_pos hi,List.getElem?_range hi]
  show _=some (rd (mlR p r 0 i))
  unfold mlR
  rw [if_neg ω,if_neg ω]
 ·rw [if_neg hi,List.getElem?_eq_none (by simp;omega)];rfl
theorem Ztk (p:List Rat) (r:Rat) (j:Nat):(mlR p r j j).q=if 0< j then cf p (j - 1) else 0:=by
 unfold mlR
 rw [if_neg ω]
 by_cases h:0< j
 ·rw [if_pos ⟨rfl,h⟩,if_pos h,cn_q]
 ·rw [if_neg (fun g=>h g.2),if_neg h];exact z0q
theorem Ztj {p:List Rat} {r:Rat} {j B:Nat} (h:zb B p) (hB:1≤B):(mlR p r j j).z≤B:=by
 unfold mlR
 rw [if_neg ω]
 split
 ·rw [cn_z];exact ZhC h hB _
 ·rw [z0z];omega
theorem ZnE {p:List Rat} {r c:Rat} {j:Nat} (h:p[j]? =some c):((mlF p r j).set (j+1) (rdc c)).set j (rdc ((mlR p r j j).q - c*r))=mlF p r (j+1):=by
 have hj:=(List.getElem?_eq_some_iff.1 h).1
 have hc:cf p j=c:=by unfold cf;rw [h];rfl
 have hx:cf (mulX r p) j=(mlR p r j j).q - c*r:=by
  unfold mulX
  rw [ine.cf_lin,hc,Ztk]
  cases j with
  |zero=>show -r*c+0=_;rw [if_neg ω];grind
  |succ j=>show -r*c+cf p j=_;rw [if_pos ω,Nat.add_sub_cancel];grind
 refine List.ext_getElem? fun i=> ?_
 by_cases hi:i≤p.length
 ·rw [ZfY hi]
  by_cases e:i=j
  ·subst e
   have k:mlR p r (i+1) i=cn (cf (mulX r p) i):=if_pos ω
   rw [List.getElem?_set_self (by rw [List.length_set,Zcq];omega),k,hx];rfl
  ·rw [List.getElem?_set_ne (fun g=>e g.symm)]
   by_cases f:i=j+1
   ·subst f
    have k:mlR p r (j+1) (j+1)=cn (cf p j):=by
     unfold mlR
     rw [if_neg ω,if_pos ⟨rfl,ω⟩,Nat.add_sub_cancel]
    rw [List.getElem?_set_self (by rw [Zcq];omega),k,hc];rfl
   ·rw [List.getElem?_set_ne (fun g=>f g.symm),ZfY hi]
    unfold mlR
    by_cases g:i< j
    ·rw [if_pos g,if_pos ω]
    ·rw [if_neg g,if_neg ω,if_neg ω,if_neg ω]
 ·rw [List.getElem?_eq_none (by rw [List.length_set,List.length_set,Zcq];omega),List.getElem?_eq_none (by rw [Zcq];omega)]
theorem Zp9 {p:List Rat} {r:Rat} (h:p≠ []):mlF p r p.length=List.map rdc (mulX r p):=by
 have hp:=List.length_pos_iff.2 h
 refine List.ext_getElem? fun i=> ?_
 by_cases hi:i≤p.length
 ·rw [ZfY hi,List.getElem?_map]
  have hl:i< (mulX r p).length:=by rw [ine.mulX_len];omega
  rw [List.getElem?_eq_getElem hl]
  have hc:cf (mulX r p) i=(mulX r p)[i]:=by unfold cf;rw [List.getElem?_eq_getElem hl];rfl
  show _=some (rd (cn (mulX r p)[i]))
  rw [← hc]
  unfold mlR
  by_cases e:i< p.length
  ·rw [if_pos e]
  ·have e:i=p.length:=ω
   subst e
   rw [if_neg ω,if_pos ⟨rfl,hp⟩]
   rcases ine.mulX_top r (p:=p) with g|g
   ·rw [g]
   ·exact absurd g h
 ·rw [List.getElem?_eq_none (by rw [Zcq];omega),List.getElem?_eq_none (by rw [List.length_map,ine.mulX_len];omega)]
theorem Ztl (R:List Rat):mkp R≠ []:=List.length_pos_iff.1 (by rw [ine.mkp_len];omega)
theorem Zr1 (R:List Rat) (r:Rat):mlF (mkp R) r (mkp R).length=List.map rdc (mkp (r :: R)):=Zp9 (Ztl R)
theorem Zk4 {r:Rat} (h:nice r):qs r≤2:=by
 obtain⟨N,hN,rfl⟩:=h
 exact Zbn (n:=N) (d:=120) (k:=2) ωd ω ωd
theorem ZoH {r:Rat} (h:nice r):qs r≤1048576:=Nat.le_trans (Zk4 h) ωd
theorem Zjd {R rs:List Rat} (hd:R.Pairwise (· ≠ ·)) (hp:rs.Perm R) (hs:rs.Pairwise fun x y=>¬ y< x):rs.Pairwise (· < ·):=by
 have hn:rs.Pairwise (· ≠ ·):=(hp.pairwise_iff fun h e=>h e.symm).2 hd
 exact(hs.and hn).imp fun h=>by have:=h.1;have:=h.2;grind
theorem ZmN {k:Int} {q:Rat} (h0:0≤k % 200) (_:k % 200< 200) (h:q=((1:Int):Rat) / ((1+k % 200:Int):Rat)):1 / 200≤q:=by
 have h2:((1+k % 200:Int):Rat)≤((200:Int):Rat):=Rat.intCast_le_intCast.2 ω
 have h3:((0:Int):Rat)< ((1+k % 200:Int):Rat):=Rat.intCast_lt_intCast.2 ω
 have e2:((200:Int):Rat)=200:=rfl
 have e0:((0:Int):Rat)=0:=rfl
 have e1:((1:Int):Rat)=1:=rfl
 rw [e2] at h2
 rw [e0] at h3
 rw [h,e1,Rat.div_def]
 generalize ((1+k % 200:Int):Rat)=d at*
 have hi:=Rat.inv_pos.2 h3
 have hc:=Rat.mul_inv_cancel d (by grind)
 have h4:=Rat.mul_nonneg (show 0≤200 - d by grind) (Rat.le_of_lt hi)
 have h5:(1 / 200:Rat)*200=1:=by decide+kernel
 grind
