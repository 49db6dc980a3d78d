/- Joined by wip/bundle.py: XMov0 XMovA XMovR XLawSing. -/
import Derived.Test.YtpfemjpgbpnpkaaGreatDoorGrp2
import Derived.Test.YtpfemjpgbpnpkaaGreatDoorGrpX
import Derived.Test.YtpfemjpgbpnpkaaGreatDoorOpenA
set_option maxRecDepth 100000
namespace Go.Proofs.YtpfemjpgbpnpkaaGreatDoor.eng
open Go.RowKit num mem seg q held ratA ratB ratC ratD ratE vars ratF trq
def rtQ (t v:Rat):Rat:=2*v / (1+t*t)
theorem ZxC (t:Rat):0≤t*t:=by
 rcases Rat.le_total (a:=0) (b:=t) with h|h
 ·exact Rat.mul_nonneg h h
 ·have:=Rat.mul_nonneg (show 0≤-t by grind) (show 0≤-t by grind)
  grind
theorem ZkH (t:Rat):(1:Rat)+t*t≠0:=fun h=>by
 have:=ZxC t
 grind
theorem Ztq (t:Rat):rtQ t 1≠0:=fun h=>by
 have hd:=ZkH t
 have:rtQ t 1*(1+t*t)=2*1:=Rat.div_mul_cancel hd
 rw [h] at this
 grind
def stQ (t w:Rat):Rat:=w / rtQ t 1
theorem Zup (t w:Rat):rtQ t (stQ t w)=w:=by
 have hd:=ZkH t
 have h1:rtQ t 1*(1+t*t)=2*1:=Rat.div_mul_cancel hd
 have h2:stQ t w*rtQ t 1=w:=Rat.div_mul_cancel (Ztq t)
 have h3:rtQ t (stQ t w)*(1+t*t)=2*stQ t w:=Rat.div_mul_cancel hd
 have h4:rtQ t (stQ t w)*(1+t*t)=w*(1+t*t):=by grind
 have h5:(rtQ t (stQ t w) - w)*(1+t*t)=0:=by grind
 rcases Rat.mul_eq_zero.1 h5 with k|k
 ·grind
 ·exact absurd k hd
theorem ZxB {t w:Rat} (h:w≠0):stQ t w≠0:=fun e=>by
 have:=Zup t w
 rw [e] at this
 have h0:rtQ t 0=0:=by
  unfold rtQ
  rw [Rat.div_def];grind
 rw [h0] at this
 exact h this.symm
theorem Zrl (t v:Rat):qs (rtQ t v)≤qs v+qs t+qs t+30:=by
 have h1:=Zt 2 v
 have h2:=Zt t t
 have h3:=ZC 1 (t*t)
 have h4:=ZaQ (2*v) (1+t*t)
 have:qs (2:Rat)≤8:=by decide+kernel
 have:qs (1:Rat)≤8:=by decide+kernel
 show qs (2*v / (1+t*t))≤_
 omega
def pAt (l:List (Rat×Rat)) (i:Nat):Rat×Rat:=(l[i]?).getD (0,0)
theorem ZaT {l:List (Rat×Rat)} {i:Nat} {p:Rat×Rat} (h:l[i]? =some p):pAt l i=p:=by simp [pAt,h]
def wgt (l:List Rat) (i:Nat):Rat:=(l[i]?).getD 0
theorem Zky {l:List Rat} {i:Nat} {x:Rat} (h:l[i]? =some x):wgt l i=x:=by simp [wgt,h]
def zr (l:List (Rat×Rat)) (i:Nat):Prop:=(pAt l i).1=0∧(pAt l i).2=0
open Classical in
noncomputable def fz (l:List (Rat×Rat)):Nat→Option Nat
 |0=>none
 |n+1=>match fz l n with
  |some i=>some i
  |none=>if zr l n then some n else none
theorem ZjU {l:List (Rat×Rat)}:∀ {n:Nat},(∀ j,j< n→¬ zr l j)→fz l n=none
 |0,_=>rfl
 |n+1,h=>by
  unfold fz
  rw [ZjU (fun j hj=>h j (by omega)),if_neg (h n (by omega))]
theorem ZwY {l:List (Rat×Rat)} {i:Nat} (hz:zr l i) (h:∀ j,j< i→¬ zr l j):∀ {n:Nat},i< n→fz l n=some i
 |0,hn=>by omega
 |n+1,hn=>by
  unfold fz
  by_cases e:i=n
  ·subst e
   rw [ZjU h,if_pos hz]
  ·rw [ZwY hz h (show i< n by omega)]
theorem ZjT {l:List (Rat×Rat)}:∀ {n i:Nat},fz l n=some i→i< n∧zr l i
 |0,i,h=>by simp [fz] at h
 |n+1,i,h=>by
  unfold fz at h
  split at h
  ·rename_i k hk
   obtain rfl:=Option.some.inj h
   obtain⟨h1,h2⟩:=ZjT hk
   exact⟨by omega,h2⟩
  ·by_cases z:zr l n
   ·rw [if_pos z] at h
    obtain rfl:=Option.some.inj h
    exact⟨by omega,z⟩
   ·rw [if_neg z] at h;simp at h
theorem Zva {l:List (Rat×Rat)}:∀ {n:Nat},fz l n=none→∀ j,j< n→¬ zr l j
 |0,_,j,hj=>by omega
 |n+1,h,j,hj=>by
  unfold fz at h
  split at h
  ·simp at h
  ·rename_i hk
   by_cases z:zr l n
   ·rw [if_pos z] at h;simp at h
   ·by_cases e:j=n
    ·rw [e];exact z
    ·exact Zva hk j (by omega)
open Classical in
noncomputable def nrQ (l:List (Rat×Rat)):Rat:=if (pAt l 1).1=0 then (pAt l 0).2 / (pAt l 1).2 else (pAt l 0).1 / (pAt l 1).1
open Classical in
noncomputable def nullT (l:List (Rat×Rat)):Option (List Rat):=
 if 2≤l.length∧crs l 0 1=0 then some ([1,-nrQ l,0].take l.length)
 else if l.length=3 then some [crs l 1 2,crs l 2 0,crs l 0 1] else none
noncomputable def nullW (l:List (Rat×Rat)):Option (List Rat):=
 match fz l l.length with
 |some i=>some (([0,0,0].take l.length).set i 1)
 |none=>nullT l
theorem ZoF {l:List (Rat×Rat)} {i:Nat} (hi:i< l.length) (hz:zr l i) (h:∀ j,j< i→¬ zr l j):nullW l=some (([0,0,0].take l.length).set i 1):=by
 unfold nullW;rw [ZwY hz h hi]
theorem Zfc {l:List (Rat×Rat)} (h:∀ j,j< l.length→¬ zr l j):nullW l=nullT l:=by
 unfold nullW;rw [ZjU h]
theorem Zfd {l:List (Rat×Rat)} (h:2≤l.length) (g:crs l 0 1=0):nullT l=some ([1,-nrQ l,0].take l.length):=if_pos ⟨h,g⟩
theorem Zg7 {l:List (Rat×Rat)} (h:¬ (2≤l.length∧crs l 0 1=0)) (g:l.length=3):nullT l=some [crs l 1 2,crs l 2 0,crs l 0 1]:=by
 unfold nullT;rw [if_neg h,if_pos g]
theorem Zg8 {l:List (Rat×Rat)} (h:¬ (2≤l.length∧crs l 0 1=0)) (g:¬ l.length=3):nullT l=none:=by
 unfold nullT;rw [if_neg h,if_neg g]
def dotF (l:List (Rat×Rat)) (W:List Rat):Nat→Rat×Rat
 |0=>(0,0)
 |i+1=>((dotF l W i).1+(pAt l i).1*wgt W i,(dotF l W i).2+(pAt l i).2*wgt W i)
theorem Zln {l:List (Rat×Rat)} {W:List Rat}:∀ {n:Nat},(∀ j,j< n→(pAt l j).1*wgt W j=0∧(pAt l j).2*wgt W j=0)→dotF l W n=(0,0)
 |0,_=>rfl
 |n+1,h=>by
  unfold dotF
  rw [Zln (fun j hj=>h j (by omega)),(h n (by omega)).1,(h n (by omega)).2,Rat.add_zero]
theorem Zxx {l:List (Rat×Rat)} {i:Nat} (h:¬ zr l i):(pAt l i).1≠0∨(pAt l i).2≠0:=by
 by_cases e:(pAt l i).1=0
 ·exact .inr fun g=>h ⟨e,g⟩
 ·exact .inl e
theorem ZxN {l:List (Rat×Rat)} (hz:¬ zr l 1) (hc:crs l 0 1=0):(pAt l 0).1=nrQ l*(pAt l 1).1∧(pAt l 0).2=nrQ l*(pAt l 1).2:=by
 have hc':(pAt l 0).1*(pAt l 1).2 - (pAt l 0).2*(pAt l 1).1=0:=hc
 unfold nrQ
 by_cases e:(pAt l 1).1=0
 ·rw [if_pos e]
  have hy:(pAt l 1).2≠0:=fun g=>hz ⟨e,g⟩
  have h2:(pAt l 0).2 / (pAt l 1).2*(pAt l 1).2=(pAt l 0).2:=Rat.div_mul_cancel hy
  refine⟨?_,h2.symm⟩
  rw [e] at hc' ⊢
  have:(pAt l 0).1*(pAt l 1).2=0:=by grind
  rcases Rat.mul_eq_zero.1 this with k|k
  ·rw [k];grind
  ·exact absurd k hy
 ·rw [if_neg e]
  have h1:(pAt l 0).1 / (pAt l 1).1*(pAt l 1).1=(pAt l 0).1:=Rat.div_mul_cancel e
  refine⟨h1.symm,?_⟩
  generalize (pAt l 0).1 / (pAt l 1).1=r at h1 ⊢
  rw [← h1] at hc'
  have:(pAt l 1).1*(r*(pAt l 1).2 - (pAt l 0).2)=0:=by grind
  rcases Rat.mul_eq_zero.1 this with k|k
  ·exact absurd k e
  ·grind
theorem take3 {a b c:Rat} {n:Nat} (hn:n≤3):([a,b,c].take n).length=n:=by
 rw [List.length_take];simp only [List.length_cons,List.length_nil];omega
theorem ZgC {a b c:Rat} {n j:Nat} (h:j< n):wgt ([a,b,c].take n) j=wgt [a,b,c] j:=by
 unfold wgt;rw [List.getElem?_take_of_lt h]
theorem ZoD {l:List (Rat×Rat)} {W:List Rat} (hl:l.length≤3) (h:nullW l=some W):W.length=l.length∧dotF l W l.length=(0,0)∧∃ i,i< l.length∧wgt W i≠0:=by
 unfold nullW at h
 split at h
 ·rename_i i hi
  obtain rfl:=Option.some.inj h
  obtain⟨h1,h2⟩:=ZjT hi
  refine⟨by rw [List.length_set,take3 hl],Zln fun j hj=> ?_,i,h1,?_⟩
  ·by_cases e:j=i
   ·rw [e,h2.1,h2.2];exact⟨Rat.zero_mul _,Rat.zero_mul _⟩
   ·have:wgt (([0,0,0].take l.length).set i 1) j=0:=by
     unfold wgt
     rw [List.getElem?_set_ne (fun g=>e g.symm),List.getElem?_take_of_lt hj]
     rcases (show j=0∨j=1∨j=2 by omega) with rfl|rfl|rfl<;>rfl
    rw [this];exact⟨Rat.mul_zero _,Rat.mul_zero _⟩
  ·have:wgt (([0,0,0].take l.length).set i 1) i=1:=by
    unfold wgt
    rw [List.getElem?_set_self (by rw [take3 hl];exact h1)]
    rfl
   rw [this];decide+kernel
 ·rename_i hi
  have hz:=Zva hi
  by_cases c:2≤l.length∧crs l 0 1=0
  ·rw [Zfd c.1 c.2] at h
   obtain rfl:=Option.some.inj h
   obtain⟨r1,r2⟩:=ZxN (hz 1 (by omega)) c.2
   have w0:wgt ([1,-nrQ l,0].take l.length) 0=1:=ZgC (by omega)
   have w1:wgt ([1,-nrQ l,0].take l.length) 1=-nrQ l:=ZgC (by omega)
   have d2:dotF l ([1,-nrQ l,0].take l.length) 2=(0,0):=by
    show (0+(pAt l 0).1*wgt ([1,-nrQ l,0].take l.length) 0+(pAt l 1).1*wgt ([1,-nrQ l,0].take l.length) 1,0+(pAt l 0).2*wgt ([1,-nrQ l,0].take l.length) 0+(pAt l 1).2*wgt ([1,-nrQ l,0].take l.length) 1)=_
    rw [w0,w1,Prod.mk.injEq]
    constructor<;>grind
   refine⟨take3 hl,?_,0,by omega,by rw [w0];decide+kernel⟩
   rcases (show l.length=2∨l.length=3 by omega) with e|e
   ·rw [e] at d2 ⊢;exact d2
   ·have w2:wgt ([1,-nrQ l,0].take l.length) 2=0:=ZgC (by omega)
    have d3:dotF l ([1,-nrQ l,0].take l.length) 3=(0,0):=by
     unfold dotF
     rw [d2,w2,Rat.mul_zero,Rat.mul_zero,Rat.add_zero]
    rw [e] at d3 ⊢;exact d3
  ·by_cases c3:l.length=3
   ·rw [Zg7 c c3] at h
    obtain rfl:=Option.some.inj h
    refine⟨c3.symm,?_,2,by omega,fun e=>c ⟨by omega,e⟩⟩
    rw [c3]
    show (0+(pAt l 0).1*crs l 1 2+(pAt l 1).1*crs l 2 0+(pAt l 2).1*crs l 0 1,0+(pAt l 0).2*crs l 1 2+(pAt l 1).2*crs l 2 0+(pAt l 2).2*crs l 0 1)=_
    have e:∀ a b,crs l a b=(pAt l a).1*(pAt l b).2 - (pAt l a).2*(pAt l b).1:=fun a b=>rfl
    rw [e,e,e,Prod.mk.injEq]
    constructor<;>grind
   ·rw [Zg8 c c3] at h;simp at h
theorem Zw9 {l:List (Rat×Rat)} {a b i:Nat} (hz:zr l i) (h:a=i∨b=i):crs l a b=0:=by
 show (pAt l a).1*(pAt l b).2 - (pAt l a).2*(pAt l b).1=0
 rcases h with rfl|rfl
 ·rw [hz.1,hz.2];grind
 ·rw [hz.1,hz.2];grind
theorem Zn5 (p z:Prop):rk p z≤2:=by unfold rk;split<;>(try split)<;>omega
theorem Ztu {p z:Prop} (h:¬ p):rk p z≤1:=by unfold rk;rw [if_neg h];split<;>omega
theorem Zdr {l:List (Rat×Rat)} (h1:1≤l.length) (h3:l.length≤3):nullW l=none↔rkL l=(l.length:Int):=by
 unfold nullW rkL
 cases hf:fz l l.length with
 |some i=>
  obtain⟨hi,hz⟩:=ZjT hf
  refine⟨fun h=>by simp at h,fun h=> ?_⟩
  exfalso
  rcases (show l.length=1∨l.length=2∨l.length=3 by omega) with e|e|e
  ·have hp:¬ prA l l.length:=by rintro⟨a,b,g1,g2,_⟩;omega
   have hn:¬ nzA l l.length:=by
    rintro⟨a,p,g1,g2,g3⟩
    obtain rfl:a=i:=by omega
    have:=ZaT g2
    unfold zr at hz
    rw [this] at hz
    rcases g3 with g|g
    ·exact g hz.1
    ·exact g hz.2
   unfold rk at h
   rw [if_neg hp,if_neg hn] at h
   omega
  ·have hp:¬ prA l l.length:=by
    rintro⟨a,b,g1,g2,g3⟩
    exact g3 (Zw9 hz (by omega))
   have:=Ztu (z:=nzA l l.length) hp
   omega
  ·have:=Zn5 (prA l l.length) (nzA l l.length)
   omega
 |none=>
  have hz:=Zva hf
  show nullT l=none↔_
  by_cases c:2≤l.length∧crs l 0 1=0
  ·rw [Zfd c.1 c.2]
   refine⟨fun h=>by simp at h,fun h=> ?_⟩
   exfalso
   rcases (show l.length=2∨l.length=3 by omega) with e|e
   ·have hp:¬ prA l l.length:=by
     rintro⟨a,b,g1,g2,g3⟩
     obtain rfl:a=1:=by omega
     obtain rfl:b=0:=by omega
     exact g3 (by rw [crs_anti,c.2];decide+kernel)
    have:=Ztu (z:=nzA l l.length) hp
    omega
   ·have:=Zn5 (prA l l.length) (nzA l l.length)
    omega
  ·by_cases c3:l.length=3
   ·rw [Zg7 c c3]
    refine⟨fun h=>by simp at h,fun h=> ?_⟩
    exfalso
    have:=Zn5 (prA l l.length) (nzA l l.length)
    omega
   ·rw [Zg8 c c3]
    refine⟨fun _=> ?_,fun _=>rfl⟩
    rcases (show l.length=1∨l.length=2 by omega) with e|e
    ·have hp:¬ prA l l.length:=by rintro⟨a,b,g1,g2,_⟩;omega
     have hn:nzA l l.length:=by
      have h0:=Zxx (hz 0 (by omega))
      refine⟨0,l[0],by omega,List.getElem?_eq_getElem (by omega),?_⟩
      rwa [ZaT (List.getElem?_eq_getElem (show 0< l.length by omega))] at h0
     unfold rk
     rw [if_neg hp,if_pos hn,e];rfl
    ·have hp:prA l l.length:=⟨1,0,by omega,by omega,fun g=>c ⟨by omega,by rw [crs_anti,g];decide+kernel⟩⟩
     rw [rk_p hp,e];rfl
theorem Zh5 {l:List (Rat×Rat)} (hl:pz l) (i:Nat):qs (pAt l i).1≤184552957∧qs (pAt l i).2≤184552957:=by
 unfold pAt
 have:qs (0:Rat)≤8:=by decide+kernel
 cases e:l[i]? with
 |none=>exact⟨show qs (0:Rat)≤_ by omega,show qs (0:Rat)≤_ by omega⟩
 |some p=>exact hl p (List.mem_of_getElem? e)
theorem Zxa {l:List (Rat×Rat)} (hl:pz l) (a b:Nat):qs (crs l a b)≤738211831:=by
 have h1:=Zt (pAt l a).1 (pAt l b).2
 have h2:=Zt (pAt l a).2 (pAt l b).1
 have h3:=ZZ ((pAt l a).1*(pAt l b).2) ((pAt l a).2*(pAt l b).1)
 have:=Zh5 hl a
 have:=Zh5 hl b
 show qs ((pAt l a).1*(pAt l b).2 - (pAt l a).2*(pAt l b).1)≤_
 omega
theorem ZxM {l:List (Rat×Rat)} (hl:pz l):qs (nrQ l)≤369105915:=by
 have h0:=Zh5 hl 0
 have h1:=Zh5 hl 1
 unfold nrQ
 split
 ·have:=ZaQ (pAt l 0).2 (pAt l 1).2;omega
 ·have:=ZaQ (pAt l 0).1 (pAt l 1).1;omega
theorem ZjA {l:List (Rat×Rat)} {W:List Rat} (hl:pz l) (h:nullW l=some W):∀ x,x∈W→qs x≤738211831:=by
 have q0:qs (0:Rat)≤8:=by decide+kernel
 have q1:qs (1:Rat)≤8:=by decide+kernel
 unfold nullW at h
 split at h
 ·obtain rfl:=Option.some.inj h
  intro x hx
  rcases List.mem_or_eq_of_mem_set hx with g|g
  ·have:=List.mem_of_mem_take g
   have e:x=0:=by simpa using this
   rw [e];omega
  ·rw [g];omega
 ·unfold nullT at h
  split at h
  ·obtain rfl:=Option.some.inj h
   intro x hx
   have:=List.mem_of_mem_take hx
   have e:x=1∨x=-nrQ l∨x=0:=by simpa using this
   have hn:=ZxM hl
   have:=Zdn (nrQ l)
   rcases e with rfl|rfl|rfl<;>omega
  ·split at h
   ·obtain rfl:=Option.some.inj h
    intro x hx
    have e:x=crs l 1 2∨x=crs l 2 0∨x=crs l 0 1:=by simpa using hx
    rcases e with rfl|rfl|rfl<;>exact Zxa hl _ _
   ·simp at h
def velF (A:ArmV) (Q V:List RV):Nat→Rat×Rat
 |0=>(0,0)
 |i+1=>((velF A Q V i).1+(colF A Q i).1*rtQ (qAt Q i) (qAt V i),(velF A Q V i).2+(colF A Q i).2*rtQ (qAt Q i) (qAt V i))
def stL (Q:List RV) (W:List Rat) (n:Nat):List Rat:=(List.range n).map fun i=>stQ (qAt Q i) (wgt W i)
theorem ZbH (Q:List RV) (W:List Rat) (n:Nat):(stL Q W n).length=n:=by simp [stL]
theorem Zq4 {α:Type} (g:Rat→α) (Q:List RV) (W:List Rat) (i:Nat):List.map g (stL Q W (i+1))=List.map g (stL Q W i)++ [g (stQ (qAt Q i) (wgt W i))]:=by
 simp [stL,List.range_succ]
def cnL (W:List Rat):List RV:=W.map cn
theorem Zt6 (W:List Rat):List.map rd (cnL W)=List.map rdc W:=by
 unfold cnL;rw [List.map_map];rfl
theorem Ztw (Q:List RV) (W:List Rat) {n i:Nat} (h:i< n):qAt (cnL (stL Q W n)) i=stQ (qAt Q i) (wgt W i):=by
 show (((cnL (stL Q W n))[i]?).getD z0).q=_
 have e:(cnL (stL Q W n))[i]? =some (cn (stQ (qAt Q i) (wgt W i))):=by
  unfold cnL stL
  rw [List.getElem?_map,List.getElem?_map,List.getElem?_range h];rfl
 rw [e];exact cn_q _
theorem ZrG (A:ArmV) (Q:List RV) {n i:Nat} (h:i< n):pAt (colsF A Q n) i=colF A Q i:=by
 unfold pAt colsF
 simp [h]
theorem Zna (A:ArmV) (Q:List RV) (W:List Rat) (n:Nat):∀ i,i≤n→velF A Q (cnL (stL Q W n)) i=dotF (colsF A Q n) W i
 |0,_=>rfl
 |i+1,h=>by
  unfold velF dotF
  rw [Zna A Q W n i (by omega),Ztw Q W (show i< n by omega),Zup,ZrG A Q (show i< n by omega)]
end Go.Proofs.YtpfemjpgbpnpkaaGreatDoor.eng
namespace Go.Proofs.YtpfemjpgbpnpkaaGreatDoor.eng
open Go.RowKit num mem seg q held ratA ratB ratC ratD ratE vars ratF trq
section
variable {K : AV → Prop}
theorem ZiX (x y z:RV)  (hx:x.z≤1099511627776) (hy:y.z≤1099511627776) (hz:z.z≤1099511627776):Spec Tryz.prog Tab 157 [pair x y,rat z] (pair (cn (x.q*z.q)) (cn (y.q*z.q))):=by
 refine Za Tryz.func157 rfl rfl Tryz.ntmps157 rfl (by kernel_rfl) rfl rfl ?_
 refine Zbb (x:=x) (y:=z) (by omega) (by omega) fun q8 h8 z8=> ?_
 simp only [cn_z] at z8
 refine Zbb (x:=y) (y:=z) (by omega) (by omega) fun q12 h12 z12=> ?_
 simp only [cn_z] at z12
 refine⟨by kernel_rfl,?_⟩
 refine Eq.trans (b:=pair (cn q8) (cn q12)) ?_ rfl
 subst_vars;rfl
section
variable {x y z : RV} 
theorem Zr8 (hx:x.z≤1099511627776) (hy:y.z≤1099511627776) (hz:z.z≤1099511627776) (k:∀ p q,p=x.q*z.q→q=y.q*z.q→(cn p).z≤x.z+z.z+3→(cn q).z≤y.z+z.z+3→K (pair (cn p) (cn q))):Ask 157 [pair x y,rat z] K:=
 use (ZiX x y z  hx hy hz) rfl (k _ _ rfl rfl (by rw [cn_z];have:=x.z1;have:=z.z1;have:=Zt x.q z.q;omega) (by rw [cn_z];have:=y.z1;have:=z.z1;have:=Zt y.q z.q;omega))
end
theorem Zqz (x y:RV) (hx:x.z≤1073741824) (hy:y.z≤1073741824):Spec Tryz.prog Tab 57 [rat x,rat y] (rat (cn (rtQ x.q y.q))):=by
 refine Za Tryz.func57 rfl rfl Tryz.ntmps57 rfl (by kernel_rfl) rfl rfl ?_
 refine k_of (2) (by omega) (by omega) fun q8 h8 z8=> ?_
 simp only [cn_z] at z8
 refine Zbb (x:=cn q8) (y:=y) (by simp only [cn_z];omega) (by omega) fun q10 h10 z10=> ?_
 simp only [cn_z] at z10
 simp only [cn_q] at h10
 refine k_of (1) (by omega) (by omega) fun q11 h11 z11=> ?_
 simp only [cn_z] at z11
 refine Zbb (x:=x) (y:=x) (by omega) (by omega) fun q14 h14 z14=> ?_
 simp only [cn_z] at z14
 refine ZcC (x:=cn q11) (y:=cn q14) (by simp only [cn_z];omega) (by simp only [cn_z];omega) fun q15 h15 z15=> ?_
 simp only [cn_z] at z15
 simp only [cn_q] at h15
 refine Zhd (x:=cn q10) (y:=cn q15) (by simp only [cn_z];omega) (by simp only [cn_z];omega) (by rw [cn_q,h15,h14,h11];exact ZkH x.q) fun q16 h16 z16=> ?_
 simp only [cn_z] at z16
 simp only [cn_q] at h16
 refine⟨by kernel_rfl,?_⟩
 refine Eq.trans (b:=rat (cn q16)) ?_ rfl
 have e16:q16=rtQ x.q y.q:=by rw [h16,h15,h14,h11,h10,h8];rfl
 rw [e16]
theorem Zpk {x y:RV} (hx:x.z≤1073741824) (hy:y.z≤1073741824) (k:∀ q,q=rtQ x.q y.q→(cn q).z≤y.z+x.z+x.z+40→K (rat (cn q))):Ask 57 [rat x,rat y] K:=
 use (Zqz x y hx hy) rfl (k _ rfl (by rw [cn_z];have:=Zrl x.q y.q;have:=x.z1;have:=y.z1;omega))
open Classical in
noncomputable def velE (A:ArmV) (Q V:List RV):Int:=if hasE A (Q.length:Int)=0 then (if V.length=Q.length then 0 else 1) else hasE A (Q.length:Int)
open Classical in
noncomputable def velX (A:ArmV) (Q V:List RV):RV:=if hasE A (Q.length:Int)=0∧V.length=Q.length then cn (velF A Q V A.links.length).1 else z0
open Classical in
noncomputable def velY (A:ArmV) (Q V:List RV):RV:=if hasE A (Q.length:Int)=0∧V.length=Q.length then cn (velF A Q V A.links.length).2 else z0
theorem Znc {A:ArmV} {Q V:List RV} (h:hasE A (Q.length:Int)=0) (g:V.length=Q.length):velE A Q V=0:=by rw [velE,if_pos h,if_pos g]
theorem Zte {A:ArmV} {Q V:List RV} (h:hasE A (Q.length:Int)=0) (g:¬ V.length=Q.length):velE A Q V=1:=by rw [velE,if_pos h,if_neg g]
theorem Ztd {A:ArmV} {Q V:List RV} (h:¬ hasE A (Q.length:Int)=0):velE A Q V=hasE A (Q.length:Int):=by rw [velE,if_neg h]
theorem Znb {A:ArmV} {Q V:List RV} (h:hasE A (Q.length:Int)=0) (g:V.length=Q.length):velX A Q V=cn (velF A Q V A.links.length).1∧velY A Q V=cn (velF A Q V A.links.length).2:=⟨if_pos ⟨h,g⟩,if_pos ⟨h,g⟩⟩
theorem ZkA {A:ArmV} {Q V:List RV} (h:¬ (hasE A (Q.length:Int)=0∧V.length=Q.length)):velX A Q V=z0∧velY A Q V=z0:=⟨if_neg h,if_neg h⟩
def velB (A:ArmV) (Q V:List RV):Prop:=∀ i,i≤A.links.length→(qs (velF A Q V i).1≤1000000000∧qs (velF A Q V i).2≤1000000000)∧(i< A.links.length→qs (rtQ (qAt Q i) (qAt V i))≤800000000)
theorem ZgD {A:ArmV} {Q V:List RV} (hA:armE A=0) (hQ:∀ x,x∈Q→x.z≤1048576) (hV:∀ x,x∈V→x.z≤1048576):velB A Q V:=by
 have hn:=(ZE hA).1
 have q0:qs (0:Rat)≤8:=by decide+kernel
 have hr:∀ i,qs (rtQ (qAt Q i) (qAt V i))≤4000000:=fun i=>by
  have:=Zrl (qAt Q i) (qAt V i)
  have:=qAt_z2 hQ i
  have:=qAt_z2 hV i
  omega
 have hs:∀ i,i≤A.links.length→qs (velF A Q V i).1≤8+i*188552960∧qs (velF A Q V i).2≤8+i*188552960:=by
  intro i
  induction i with
  |zero=>intro _;exact⟨show qs (0:Rat)≤_ by omega,show qs (0:Rat)≤_ by omega⟩
  |succ i ih=>
   intro h
   obtain⟨h1,h2⟩:=ih (by omega)
   obtain⟨c1,c2⟩:=Zlt hA hQ (i:=i) (by omega)
   have:=hr i
   have:=Zt (colF A Q i).1 (rtQ (qAt Q i) (qAt V i))
   have:=Zt (colF A Q i).2 (rtQ (qAt Q i) (qAt V i))
   have:=ZC (velF A Q V i).1 ((colF A Q i).1*rtQ (qAt Q i) (qAt V i))
   have:=ZC (velF A Q V i).2 ((colF A Q i).2*rtQ (qAt Q i) (qAt V i))
   exact⟨show qs ((velF A Q V i).1+(colF A Q i).1*rtQ (qAt Q i) (qAt V i))≤_ by omega,show qs ((velF A Q V i).2+(colF A Q i).2*rtQ (qAt Q i) (qAt V i))≤_ by omega⟩
 intro i hi
 obtain⟨h1,h2⟩:=hs i hi
 exact⟨⟨by omega,by omega⟩,fun _=>Nat.le_trans (hr i) (by decide)⟩
set_option maxHeartbeats 4000000 in
theorem ZsZ (A:ArmV) (Q V:List RV) (hA:A.ok) (hQ:∀ x,x∈Q→x.z≤1048576) (hV:∀ x,x∈V→x.z≤1048576):Spec Tryz.prog Tab 55 [.val (.agg [.d (.v (.string A.name)),.d (.v (.bool A.bx.s)),.d (.v (.string A.bx.a)),.d (.v (.string A.bx.d)),.d (.v (.bool A.by'.s)),.d (.v (.string A.by'.a)),.d (.v (.string A.by'.d)),.d (.v (.bool (A.bh))),.d (.v (.bool A.bt.s)),.d (.v (.string A.bt.a)),.d (.v (.string A.bt.d)),.d (.list (List.map lk A.links))]),.val (.one (.d (.list (List.map rd Q)))),.val (.one (.d (.list (List.map rd V))))] (.tup [.agg [.d (.v (.bool (velX A Q V).s)),.d (.v (.string (velX A Q V).a)),.d (.v (.string (velX A Q V).d)),.d (.v (.bool (velY A Q V).s)),.d (.v (.string (velY A Q V).a)),.d (.v (.string (velY A Q V).d))],.one (.d (.v (.int .i64 (velE A Q V))))]):=by
 have hA2:=hA
 have hL:(List.map lk A.links).length=A.links.length:=List.length_map ..
 have hLq:(List.map rd Q).length=Q.length:=List.length_map ..
 have hLv:(List.map rd V).length=V.length:=List.length_map ..
 refine Za Tryz.func55 rfl rfl Tryz.ntmps55 rfl (by kernel_rfl) rfl rfl ?_
 refine Zps (A:=A) (Q:=Q) (by assumption) (by assumption) fun n15 hk_15_1=> ?_
 refine fork (fun e1=> ?_) (fun e1=> ?_)
 ·have f20:n15=0:=ZP e1
  refine⟨fun e2=> ?_,fun e2=> ?_⟩
  ·have f26:((List.map rd V).length:Int)≠((List.map rd Q).length:Int):=Zv e2
   refine⟨fun _=> ?_,fun e=>absurd e (by decide)⟩
   refine Eq.trans (b:= .tup [.agg [.d (.v (.bool z0.s)),.d (.v (.string z0.a)),.d (.v (.string z0.d)),.d (.v (.bool z0.s)),.d (.v (.string z0.a)),.d (.v (.string z0.d))],.one (.d (.v (.int .i64 (1))))]) ?_ rfl
   have h0:hasE A (Q.length:Int)=0:=by rw [← hk_15_1];exact f20
   have hV1:¬ V.length=Q.length:=by omega
   have hno:=ZkA (A:=A) (Q:=Q) (V:=V) fun g=>hV1 g.2
   rw [hno.1,hno.2,Zte h0 hV1]
   all_goals rfl
  ·have f26:¬ (((List.map rd V).length:Int)≠((List.map rd Q).length:Int)):=fun hh=>hh (Zw e2)
   refine⟨fun e3=> ?_,fun e3=> ?_⟩
   ·have f28:n15≠0:=Zv e3
    exfalso
    exact f28 f20
   ·have f28:¬ (n15≠0):=fun hh=>hh (Zw e3)
    have h0:hasE A (Q.length:Int)=0:=by rw [← hk_15_1];exact Classical.not_not.1 f28
    have hA0:=(ZI.1 h0).1
    have hlen0:=(ZI.1 h0).2
    have hlen:Q.length=A.links.length:=by omega
    have hn3:=(ZE hA0).1
    have hLc:(List.map rvP (colsV A Q)).length=A.links.length:=by rw [List.length_map,Zab h0,Zn]
    have hLc2:(colsV A Q).length=A.links.length:=by rw [Zab h0,Zn]
    have hVl:V.length=Q.length:=by omega
    refine k_of (0) (by omega) (by omega) fun q31 h31 z31=> ?_
    simp only [cn_z] at z31
    refine k_of (0) (by omega) (by omega) fun q32 h32 z32=> ?_
    simp only [cn_z] at z32
    have e31:q31=(velF A Q V 0).1:=h31
    have e32:q32=(velF A Q V 0).2:=h32
    refine⟨Nat,fun i=> [(1,.val (.one (.d (.list (List.map rd Q))))),(2,.val (.one (.d (.list (List.map rd V))))),(6,.val (.one (.ptr 6 0))),(8,.val (.one (.d (.list (List.map rvP (colsV A Q)))))),(10,.val (.one (.ptr 10 0))),(35,int ((List.map rvP (colsV A Q)).length:Int)),(36,int (i:Int))],
     fun i=> [(6,.var 25 [.d (.v (.bool z0.s)),.d (.v (.string z0.a)),.d (.v (.string z0.d)),.d (.v (.bool z0.s)),.d (.v (.string z0.a)),.d (.v (.string z0.d))]),(10,.var 25 [.d (.v (.bool (cn (velF A Q V i).1).s)),.d (.v (.string (cn (velF A Q V i).1).a)),.d (.v (.string (cn (velF A Q V i).1).d)),.d (.v (.bool (cn (velF A Q V i).2).s)),.d (.v (.string (cn (velF A Q V i).2).a)),.d (.v (.string (cn (velF A Q V i).2).d))])],fun i=>i≤A.links.length,fun i=>A.links.length - i,0,?_,Nat.zero_le _,fun i hs=> ?_⟩
    ·constructor<;>(repeat' (first|exact rfl|exact True.intro|exact⟨_,_,rfl⟩|exact(by decide)|apply And.intro))
     all_goals first
      |exact congrArg (fun q:Rat=>D.v (.bool (cn q).s)) e31
      |exact congrArg (fun q:Rat=>D.v (.bool (cn q).s)) e31.symm
      |exact congrArg (fun q:Rat=>D.v (.string (cn q).a)) e31
      |exact congrArg (fun q:Rat=>D.v (.string (cn q).a)) e31.symm
      |exact congrArg (fun q:Rat=>D.v (.string (cn q).d)) e31
      |exact congrArg (fun q:Rat=>D.v (.string (cn q).d)) e31.symm
      |exact congrArg (fun q:Rat=>D.v (.bool (cn q).s)) e32
      |exact congrArg (fun q:Rat=>D.v (.bool (cn q).s)) e32.symm
      |exact congrArg (fun q:Rat=>D.v (.string (cn q).a)) e32
      |exact congrArg (fun q:Rat=>D.v (.string (cn q).a)) e32.symm
      |exact congrArg (fun q:Rat=>D.v (.string (cn q).d)) e32
      |exact congrArg (fun q:Rat=>D.v (.string (cn q).d)) e32.symm
      |exact congrArg (fun n:Int=>D.v (.int .i64 n)) (by omega)
      |(simp;done)
    have hb:=ZgD hA0 hQ hV i hs
    refine⟨fun e4=> ?_,fun e4=> ?_⟩
    ·have f37:(i:Int)< ((List.map rvP (colsV A Q)).length:Int):=of_decide_eq_true e4
     refine Zc (l:=(colsV A Q)) (i:=i) (by first|omega|exact Nat.mod_lt _ (by omega)) fun x42 hx42=> ?_
     have hxc:x42=colF A Q i:=(Zhs (by rw [← Zab h0];exact hx42)).1
     have hzc:=Zlt hA0 hQ (i:=i) (by omega)
     rw [← hxc] at hzc
     refine k_ix i [D.v (.bool (cn x42.1).s),D.v (.string (cn x42.1).a),D.v (.string (cn x42.1).d),D.v (.bool (cn x42.2).s),D.v (.string (cn x42.2).a),D.v (.string (cn x42.2).d)] (by first|rfl|omega|(rw [wrap64 _ (by omega) (by omega)];omega)|(rw [wrap64 _ (by omega) (by omega)];split<;>omega)) (Zb hx42) rfl ?_
     refine Zc (l:=Q) (i:=i) (by first|omega|exact Nat.mod_lt _ (by omega)) fun x46 hx46=> ?_
     have hzx46:=hQ x46 (List.mem_of_getElem? hx46)
     have hxq:x46.q=qAt Q i:=(ZR hx46).symm
     refine k_ix i [D.v (.bool x46.s),D.v (.string x46.a),D.v (.string x46.d)] (by first|rfl|omega|(rw [wrap64 _ (by omega) (by omega)];omega)|(rw [wrap64 _ (by omega) (by omega)];split<;>omega)) (Zb hx46) rfl ?_
     refine Zc (l:=V) (i:=i) (by first|omega|exact Nat.mod_lt _ (by omega)) fun x50 hx50=> ?_
     have hzx50:=hV x50 (List.mem_of_getElem? hx50)
     have hxv:x50.q=qAt V i:=(ZR hx50).symm
     refine k_ix i [D.v (.bool x50.s),D.v (.string x50.a),D.v (.string x50.d)] (by first|rfl|omega|(rw [wrap64 _ (by omega) (by omega)];omega)|(rw [wrap64 _ (by omega) (by omega)];split<;>omega)) (Zb hx50) rfl ?_
     refine Zpk (x:=x46) (y:=x50) (by omega) (by omega) fun q52 h52 z52=> ?_
     simp only [cn_z] at z52
     refine Zr8 (x:=cn x42.1) (y:=cn x42.2) (z:=cn q52) (by simp only [cn_z];omega) (by simp only [cn_z];omega) (by simp only [cn_z];omega) (fun p53 q53 hk_53_2 hk_53_3 hk_53_4 hk_53_5=> ?_)
     try simp only [cn_q] at hk_53_2
     try simp only [cn_q] at hk_53_3
     simp only [cn_z] at hk_53_4
     simp only [cn_z] at hk_53_5
     refine ZtL (x:=cn (velF A Q V i).1) (y:=cn (velF A Q V i).2) (z:=cn p53) (t:=cn q53) (by simp only [cn_z];omega) (by simp only [cn_z];omega) (by simp only [cn_z];omega) (by simp only [cn_z];omega) (fun p54 q54 hk_54_2 hk_54_3 hk_54_4 hk_54_5=> ?_)
     try simp only [cn_q] at hk_54_2
     try simp only [cn_q] at hk_54_3
     simp only [cn_z] at hk_54_4
     simp only [cn_z] at hk_54_5
     refine⟨by kernel_rfl,?_⟩
     have e1:p54=(velF A Q V (i+1)).1:=by rw [hk_54_2,hk_53_2,h52,hxc,hxq,hxv];rfl
     have e2:q54=(velF A Q V (i+1)).2:=by rw [hk_54_3,hk_53_3,h52,hxc,hxq,hxv];rfl
     refine⟨i+1,by omega,by simp only;omega,?_⟩
     constructor<;>(repeat' (first|exact rfl|exact True.intro|apply And.intro))
     all_goals first
      |exact congrArg (fun q:Rat=>D.v (.bool (cn q).s)) e1
      |exact congrArg (fun q:Rat=>D.v (.bool (cn q).s)) e1.symm
      |exact congrArg (fun q:Rat=>D.v (.string (cn q).a)) e1
      |exact congrArg (fun q:Rat=>D.v (.string (cn q).a)) e1.symm
      |exact congrArg (fun q:Rat=>D.v (.string (cn q).d)) e1
      |exact congrArg (fun q:Rat=>D.v (.string (cn q).d)) e1.symm
      |exact congrArg (fun q:Rat=>D.v (.bool (cn q).s)) e2
      |exact congrArg (fun q:Rat=>D.v (.bool (cn q).s)) e2.symm
      |exact congrArg (fun q:Rat=>D.v (.string (cn q).a)) e2
      |exact congrArg (fun q:Rat=>D.v (.string (cn q).a)) e2.symm
      |exact congrArg (fun q:Rat=>D.v (.string (cn q).d)) e2
      |exact congrArg (fun q:Rat=>D.v (.string (cn q).d)) e2.symm
      |exact congrArg (fun n:Int=>D.v (.int .i64 n)) (by rw [wrap64 _ (by omega) (by omega)];omega)
      |exact congrArg (fun n:Int=>D.v (.int .i64 n)) (by omega)
    ·have f37:¬ ((i:Int)< ((List.map rvP (colsV A Q)).length:Int)):=of_decide_eq_false e4
     refine Eq.trans (b:= .tup [.agg [.d (.v (.bool (cn (velF A Q V i).1).s)),.d (.v (.string (cn (velF A Q V i).1).a)),.d (.v (.string (cn (velF A Q V i).1).d)),.d (.v (.bool (cn (velF A Q V i).2).s)),.d (.v (.string (cn (velF A Q V i).2).a)),.d (.v (.string (cn (velF A Q V i).2).d))],.one (.d (.v (.int .i64 (0))))]) ?_ rfl
     obtain rfl:i=A.links.length:=by omega
     have hok:=Znb h0 hVl
     rw [hok.1,hok.2,Znc h0 hVl]
     all_goals rfl
 ·have f20:¬ (n15=0):=ZQ e1
  refine⟨fun e=>absurd e (by decide),fun _=> ?_⟩
  refine⟨fun e5=> ?_,fun e5=> ?_⟩
  ·have f28:n15≠0:=Zv e5
   refine Eq.trans (b:= .tup [.agg [.d (.v (.bool z0.s)),.d (.v (.string z0.a)),.d (.v (.string z0.d)),.d (.v (.bool z0.s)),.d (.v (.string z0.a)),.d (.v (.string z0.d))],.one (.d (.v (.int .i64 (n15))))]) ?_ rfl
   have h0:¬ hasE A (Q.length:Int)=0:=by rw [← hk_15_1];exact f28
   have hno:=ZkA (A:=A) (Q:=Q) (V:=V) fun g=>h0 g.1
   rw [hno.1,hno.2,Ztd h0,← hk_15_1]
   all_goals rfl
  ·have f28:¬ (n15≠0):=fun hh=>hh (Zw e5)
   exfalso
   exact f20 (Classical.not_not.1 f28)
theorem ZwP {A:ArmV} {Q V:List RV} (hA:A.ok) (hQ:∀ x,x∈Q→x.z≤1048576) (hV:∀ x,x∈V→x.z≤1048576) (k:∀ n,n=velE A Q V→K (.tup [.agg [.d (.v (.bool (velX A Q V).s)),.d (.v (.string (velX A Q V).a)),.d (.v (.string (velX A Q V).d)),.d (.v (.bool (velY A Q V).s)),.d (.v (.string (velY A Q V).a)),.d (.v (.string (velY A Q V).d))],.one (.d (.v (.int .i64 (n))))])):Ask 55 [.val (.agg [.d (.v (.string A.name)),.d (.v (.bool A.bx.s)),.d (.v (.string A.bx.a)),.d (.v (.string A.bx.d)),.d (.v (.bool A.by'.s)),.d (.v (.string A.by'.a)),.d (.v (.string A.by'.d)),.d (.v (.bool (A.bh))),.d (.v (.bool A.bt.s)),.d (.v (.string A.bt.a)),.d (.v (.string A.bt.d)),.d (.list (List.map lk A.links))]),.val (.one (.d (.list (List.map rd Q)))),.val (.one (.d (.list (List.map rd V))))] K:=use (ZsZ A Q V hA hQ hV) rfl (k _ rfl)
theorem ZxO {l:List (Rat×Rat)} {p q:Rat×Rat} (h0:l[0]? =some p) (h1:l[1]? =some q) (g:q.1≠0):nrQ l=p.1 / q.1:=by
 unfold nrQ;rw [ZaT h0,ZaT h1,if_neg g]
theorem ZxP {l:List (Rat×Rat)} {p q:Rat×Rat} (h0:l[0]? =some p) (h1:l[1]? =some q) (g:q.1=0):nrQ l=p.2 / q.2:=by
 unfold nrQ;rw [ZaT h0,ZaT h1,if_pos g]
theorem ZeY {α:Type} {x:Option α} {a:α} (h:x=some a) (g:x=none):False:=by rw [h] at g;simp at g
set_option maxHeartbeats 4000000 in
theorem ZoE (l:List (Rat×Rat)) (W:List Rat) (hcz:pz l) (hn:l.length≤3) (h:nullW l=some W):Spec Tryz.prog Tab 158 [.val (.one (.d (.list (List.map rvP l))))] (.val (.one (.d (.list (List.map rdc W))))):=by
 have hL:(List.map rvP l).length=l.length:=List.length_map ..
 refine Zt0 [32,86] Tryz.func158 rfl rfl Tryz.ntmps158 rfl (by kernel_rfl) rfl rfl ?_
 refine k_of (0) (by omega) (by omega) fun q10 h10 z10=> ?_
 simp only [cn_z] at z10
 refine k_of (1) (by omega) (by omega) fun q11 h11 z11=> ?_
 simp only [cn_z] at z11
 refine⟨Nat,fun i=> [(0,.val (.one (.d (.list (List.map rvP l))))),(3,.val (.one (.ptr 3 0))),(4,.val (.one (.ptr 4 0))),(12,.val (.one (.d (.list (List.map rvP l))))),(13,int ((List.map rvP l).length:Int)),(14,int (i:Int))],
  fun i=> [(3,.var 23 [.d (.v (.bool (cn q10).s)),.d (.v (.string (cn q10).a)),.d (.v (.string (cn q10).d))]),(4,.var 23 [.d (.v (.bool (cn q11).s)),.d (.v (.string (cn q11).a)),.d (.v (.string (cn q11).d))])],fun i=>i≤l.length∧∀ j,j< i→¬ zr l j,fun i=>l.length - i,0,?_,⟨Nat.zero_le _,fun j h=>by omega⟩,fun i hs=> ?_⟩
 ·constructor<;>(repeat' (first|exact rfl|exact True.intro|exact⟨_,_,rfl⟩|exact(by decide)|apply And.intro))
  all_goals first|exact congrArg (fun n:Int=>D.v (.int .i64 n)) (by omega)|exact congrArg (fun n:Int=>D.v (.int .i64 n)) (by rw [wrap64 _ (by omega) (by omega)];omega)|(simp;done)
 have g1:=hs.1
 have g2:=hs.2
 refine⟨fun e1=> ?_,fun e1=> ?_⟩
 ·have f15:(i:Int)< ((List.map rvP l).length:Int):=of_decide_eq_true e1
  refine Zc (l:=l) (i:=i) (by first|omega|exact Nat.mod_lt _ (by omega)) fun x17 hx17=> ?_
  have hwx17:=hcz x17 (List.mem_of_getElem? hx17)
  refine k_ix i [D.v (.bool (cn x17.1).s),D.v (.string (cn x17.1).a),D.v (.string (cn x17.1).d),D.v (.bool (cn x17.2).s),D.v (.string (cn x17.2).a),D.v (.string (cn x17.2).d)] (by first|rfl|omega|(rw [wrap64 _ (by omega) (by omega)];omega)|(rw [wrap64 _ (by omega) (by omega)];split<;>omega)) (Zb hx17) rfl ?_
  refine ZbC (x:=cn x17.1) (by simp only [cn_z];omega) fun n21 h21=> ?_
  simp only [cn_q] at h21
  refine fork (fun e2=> ?_) (fun e2=> ?_)
  ·have f23:x17.1=0:=(ZN h21).1 (ZP e2)
   refine ZbC (x:=cn x17.2) (by simp only [cn_z];omega) fun n26 h26=> ?_
   simp only [cn_q] at h26
   refine⟨fun e3=> ?_,fun e3=> ?_⟩
   ·have f28:x17.2=0:=(ZN h26).1 (ZP e3)
    refine⟨trivial,?_⟩
    refine⟨⟨by first|omega|decide,by first|omega|(simp;omega)|simp⟩,?_⟩
    refine k_at_own' i (by first|rfl|omega|(rw [wrap64 _ (by omega) (by omega)];omega)|(rw [wrap64 _ (by omega) (by omega)];split<;>omega)) (by first|omega|(simp;omega)) ?_
    refine⟨by first|omega|(simp;omega),?_⟩
    refine Eq.trans (b:= .val (.one (.d (.list ((([[D.v (.bool (cn q10).s),D.v (.string (cn q10).a),D.v (.string (cn q10).d)], [D.v (.bool (cn q10).s),D.v (.string (cn q10).a),D.v (.string (cn q10).d)], [D.v (.bool (cn q10).s),D.v (.string (cn q10).a),D.v (.string (cn q10).d)]]).take ((List.map rvP l).length)).set i [D.v (.bool (cn q11).s),D.v (.string (cn q11).a),D.v (.string (cn q11).d)]))))) ?_ rfl
    have hW:W=([0,0,0].take l.length).set i 1:=Option.some.inj (h.symm.trans (ZoF (by omega) ⟨by rw [ZaT hx17];exact f23,by rw [ZaT hx17];exact f28⟩ g2))
    rw [hW,List.map_set,List.map_take,hL,h10,h11]
    all_goals rfl
   ·have f28:¬ (x17.2=0):=fun hh=>ZQ e3 ((ZN h26).2 hh)
    refine⟨i+1,⟨by omega,fun j hj=>by
     by_cases e:j=i
     ·rw [e];exact fun z=>f28 (by have:=z.2;rwa [ZaT hx17] at this)
     ·exact g2 j (by omega)⟩,by simp only;omega,?_⟩
    constructor<;>(repeat' (first|exact rfl|exact True.intro|apply And.intro))
    all_goals first
     |exact congrArg (fun n:Int=>D.v (.int .i64 n)) (by rw [wrap64 _ (by omega) (by omega)];omega)
     |exact congrArg (fun n:Int=>D.v (.int .i64 n)) (by omega)
  ·have f23:¬ (x17.1=0):=fun hh=>ZQ e2 ((ZN h21).2 hh)
   refine⟨fun e=>absurd e (by decide),fun _=> ?_⟩
   refine⟨i+1,⟨by omega,fun j hj=>by
    by_cases e:j=i
    ·rw [e];exact fun z=>f23 (by have:=z.1;rwa [ZaT hx17] at this)
    ·exact g2 j (by omega)⟩,by simp only;omega,?_⟩
   constructor<;>(repeat' (first|exact rfl|exact True.intro|apply And.intro))
   all_goals first
    |exact congrArg (fun n:Int=>D.v (.int .i64 n)) (by rw [wrap64 _ (by omega) (by omega)];omega)
    |exact congrArg (fun n:Int=>D.v (.int .i64 n)) (by omega)
 ·have f15:¬ ((i:Int)< ((List.map rvP l).length:Int)):=of_decide_eq_false e1
  refine fork (fun e4=> ?_) (fun e4=> ?_)
  ·have f45:((List.map rvP l).length:Int)≥2:=of_decide_eq_true e4
   refine Zc (l:=l) (i:=0) (by first|omega|exact Nat.mod_lt _ (by omega)) fun x47 hx47=> ?_
   have hwx47:=hcz x47 (List.mem_of_getElem? hx47)
   refine k_ix 0 [D.v (.bool (cn x47.1).s),D.v (.string (cn x47.1).a),D.v (.string (cn x47.1).d),D.v (.bool (cn x47.2).s),D.v (.string (cn x47.2).a),D.v (.string (cn x47.2).d)] (by first|rfl|omega|(rw [wrap64 _ (by omega) (by omega)];omega)|(rw [wrap64 _ (by omega) (by omega)];split<;>omega)) (Zb hx47) rfl ?_
   refine Zc (l:=l) (i:=1) (by first|omega|exact Nat.mod_lt _ (by omega)) fun x50 hx50=> ?_
   have hwx50:=hcz x50 (List.mem_of_getElem? hx50)
   refine k_ix 1 [D.v (.bool (cn x50.1).s),D.v (.string (cn x50.1).a),D.v (.string (cn x50.1).d),D.v (.bool (cn x50.2).s),D.v (.string (cn x50.2).a),D.v (.string (cn x50.2).d)] (by first|rfl|omega|(rw [wrap64 _ (by omega) (by omega)];omega)|(rw [wrap64 _ (by omega) (by omega)];split<;>omega)) (Zb hx50) rfl ?_
   refine Zct (x:=cn x47.1) (y:=cn x47.2) (z:=cn x50.1) (t:=cn x50.2) (by simp only [cn_z];omega) (by simp only [cn_z];omega) (by simp only [cn_z];omega) (by simp only [cn_z];omega) (fun q52 hk_52_1 hk_52_2=> ?_)
   try simp only [cn_q] at hk_52_1
   simp only [cn_z] at hk_52_2
   refine ZbC (x:=cn q52) (by simp only [cn_z];omega) fun n53 h53=> ?_
   simp only [cn_q] at h53
   refine⟨by kernel_rfl,?_⟩
   refine⟨fun e5=> ?_,fun e5=> ?_⟩
   ·have f55:q52=0:=(ZN h53).1 (ZP e5)
    refine k_ix 0 [D.v (.bool (cn x47.1).s),D.v (.string (cn x47.1).a),D.v (.string (cn x47.1).d),D.v (.bool (cn x47.2).s),D.v (.string (cn x47.2).a),D.v (.string (cn x47.2).d)] (by first|rfl|omega|(rw [wrap64 _ (by omega) (by omega)];omega)|(rw [wrap64 _ (by omega) (by omega)];split<;>omega)) (Zb hx47) rfl ?_
    refine k_ix 1 [D.v (.bool (cn x50.1).s),D.v (.string (cn x50.1).a),D.v (.string (cn x50.1).d),D.v (.bool (cn x50.2).s),D.v (.string (cn x50.2).a),D.v (.string (cn x50.2).d)] (by first|rfl|omega|(rw [wrap64 _ (by omega) (by omega)];omega)|(rw [wrap64 _ (by omega) (by omega)];split<;>omega)) (Zb hx50) rfl ?_
    refine Zfp (x:=cn x47.1) (y:=cn x50.1) (by simp only [cn_z];omega) (by simp only [cn_z];omega) (fun g65 q65 h65 z65=> ?_) (fun g65=> ?_)
    ·simp only [cn_z] at z65
     try simp only [cn_q] at g65 h65
     refine⟨by kernel_rfl,?_⟩
     refine⟨fun e=>absurd e (by decide),fun _=> ?_⟩
     refine ZuU (x:=cn q65) (by simp only [cn_z];omega) fun q84 h84 z84=> ?_
     simp only [cn_z] at z84
     simp only [cn_q] at h84
     refine⟨trivial,?_⟩
     refine⟨⟨by first|omega|decide,by first|omega|(simp;omega)|simp⟩,?_⟩
     refine⟨by kernel_rfl,?_⟩
     refine Eq.trans (b:= .val (.one (.d (.list (([[D.v (.bool (cn q11).s),D.v (.string (cn q11).a),D.v (.string (cn q11).d)], [D.v (.bool (cn q84).s),D.v (.string (cn q84).a),D.v (.string (cn q84).d)], [D.v (.bool (cn q10).s),D.v (.string (cn q10).a),D.v (.string (cn q10).d)]]).take ((List.map rvP l).length)))))) ?_ rfl
     have c2:2≤l.length∧crs l 0 1=0:=⟨by omega,by rw [Za9 hx47 hx50,← hk_52_1];exact f55⟩
     have hW:W= [1,-nrQ l,0].take l.length:=Option.some.inj (h.symm.trans ((Zfc (fun j hj=>g2 j (by omega))).trans (Zfd c2.1 c2.2)))
     have e84:q84=-nrQ l:=by rw [h84,h65,(ZxO hx47 hx50 g65)]
     rw [hW,List.map_take,hL,h10,h11,e84]
     all_goals rfl
    ·try simp only [cn_q] at g65
     refine⟨by kernel_rfl,?_⟩
     refine⟨fun _=> ?_,fun e=>absurd e (by decide)⟩
     refine k_ix 0 [D.v (.bool (cn x47.1).s),D.v (.string (cn x47.1).a),D.v (.string (cn x47.1).d),D.v (.bool (cn x47.2).s),D.v (.string (cn x47.2).a),D.v (.string (cn x47.2).d)] (by first|rfl|omega|(rw [wrap64 _ (by omega) (by omega)];omega)|(rw [wrap64 _ (by omega) (by omega)];split<;>omega)) (Zb hx47) rfl ?_
     refine k_ix 1 [D.v (.bool (cn x50.1).s),D.v (.string (cn x50.1).a),D.v (.string (cn x50.1).d),D.v (.bool (cn x50.2).s),D.v (.string (cn x50.2).a),D.v (.string (cn x50.2).d)] (by first|rfl|omega|(rw [wrap64 _ (by omega) (by omega)];omega)|(rw [wrap64 _ (by omega) (by omega)];split<;>omega)) (Zb hx50) rfl ?_
     refine Zhd (x:=cn x47.2) (y:=cn x50.2) (by simp only [cn_z];omega) (by simp only [cn_z];omega) (by rw [cn_q];exact fun e=>g2 1 (by omega) ⟨by rw [ZaT hx50];exact Classical.not_not.1 g65,by rw [ZaT hx50];exact e⟩) fun q79 h79 z79=> ?_
     simp only [cn_z] at z79
     simp only [cn_q] at h79
     refine⟨by kernel_rfl,?_⟩
     refine ZuU (x:=cn q79) (by simp only [cn_z];omega) fun q84 h84 z84=> ?_
     simp only [cn_z] at z84
     simp only [cn_q] at h84
     refine⟨trivial,?_⟩
     refine⟨⟨by first|omega|decide,by first|omega|(simp;omega)|simp⟩,?_⟩
     refine⟨by kernel_rfl,?_⟩
     refine Eq.trans (b:= .val (.one (.d (.list (([[D.v (.bool (cn q11).s),D.v (.string (cn q11).a),D.v (.string (cn q11).d)], [D.v (.bool (cn q84).s),D.v (.string (cn q84).a),D.v (.string (cn q84).d)], [D.v (.bool (cn q10).s),D.v (.string (cn q10).a),D.v (.string (cn q10).d)]]).take ((List.map rvP l).length)))))) ?_ rfl
     have c2:2≤l.length∧crs l 0 1=0:=⟨by omega,by rw [Za9 hx47 hx50,← hk_52_1];exact f55⟩
     have hW:W= [1,-nrQ l,0].take l.length:=Option.some.inj (h.symm.trans ((Zfc (fun j hj=>g2 j (by omega))).trans (Zfd c2.1 c2.2)))
     have e84:q84=-nrQ l:=by rw [h84,h79,(ZxP hx47 hx50 (Classical.not_not.1 g65))]
     rw [hW,List.map_take,hL,h10,h11,e84]
     all_goals rfl
   ·have f55:¬ (q52=0):=fun hh=>ZQ e5 ((ZN h53).2 hh)
    refine⟨fun e6=> ?_,fun e6=> ?_⟩
    ·have f92:((List.map rvP l).length:Int)=3:=ZP e6
     refine k_ix 1 [D.v (.bool (cn x50.1).s),D.v (.string (cn x50.1).a),D.v (.string (cn x50.1).d),D.v (.bool (cn x50.2).s),D.v (.string (cn x50.2).a),D.v (.string (cn x50.2).d)] (by first|rfl|omega|(rw [wrap64 _ (by omega) (by omega)];omega)|(rw [wrap64 _ (by omega) (by omega)];split<;>omega)) (Zb hx50) rfl ?_
     refine Zc (l:=l) (i:=2) (by first|omega|exact Nat.mod_lt _ (by omega)) fun x97 hx97=> ?_
     have hwx97:=hcz x97 (List.mem_of_getElem? hx97)
     refine k_ix 2 [D.v (.bool (cn x97.1).s),D.v (.string (cn x97.1).a),D.v (.string (cn x97.1).d),D.v (.bool (cn x97.2).s),D.v (.string (cn x97.2).a),D.v (.string (cn x97.2).d)] (by first|rfl|omega|(rw [wrap64 _ (by omega) (by omega)];omega)|(rw [wrap64 _ (by omega) (by omega)];split<;>omega)) (Zb hx97) rfl ?_
     refine Zct (x:=cn x50.1) (y:=cn x50.2) (z:=cn x97.1) (t:=cn x97.2) (by simp only [cn_z];omega) (by simp only [cn_z];omega) (by simp only [cn_z];omega) (by simp only [cn_z];omega) (fun q99 hk_99_1 hk_99_2=> ?_)
     try simp only [cn_q] at hk_99_1
     simp only [cn_z] at hk_99_2
     refine k_ix 2 [D.v (.bool (cn x97.1).s),D.v (.string (cn x97.1).a),D.v (.string (cn x97.1).d),D.v (.bool (cn x97.2).s),D.v (.string (cn x97.2).a),D.v (.string (cn x97.2).d)] (by first|rfl|omega|(rw [wrap64 _ (by omega) (by omega)];omega)|(rw [wrap64 _ (by omega) (by omega)];split<;>omega)) (Zb hx97) rfl ?_
     refine k_ix 0 [D.v (.bool (cn x47.1).s),D.v (.string (cn x47.1).a),D.v (.string (cn x47.1).d),D.v (.bool (cn x47.2).s),D.v (.string (cn x47.2).a),D.v (.string (cn x47.2).d)] (by first|rfl|omega|(rw [wrap64 _ (by omega) (by omega)];omega)|(rw [wrap64 _ (by omega) (by omega)];split<;>omega)) (Zb hx47) rfl ?_
     refine Zct (x:=cn x97.1) (y:=cn x97.2) (z:=cn x47.1) (t:=cn x47.2) (by simp only [cn_z];omega) (by simp only [cn_z];omega) (by simp only [cn_z];omega) (by simp only [cn_z];omega) (fun q106 hk_106_1 hk_106_2=> ?_)
     try simp only [cn_q] at hk_106_1
     simp only [cn_z] at hk_106_2
     refine k_ix 0 [D.v (.bool (cn x47.1).s),D.v (.string (cn x47.1).a),D.v (.string (cn x47.1).d),D.v (.bool (cn x47.2).s),D.v (.string (cn x47.2).a),D.v (.string (cn x47.2).d)] (by first|rfl|omega|(rw [wrap64 _ (by omega) (by omega)];omega)|(rw [wrap64 _ (by omega) (by omega)];split<;>omega)) (Zb hx47) rfl ?_
     refine k_ix 1 [D.v (.bool (cn x50.1).s),D.v (.string (cn x50.1).a),D.v (.string (cn x50.1).d),D.v (.bool (cn x50.2).s),D.v (.string (cn x50.2).a),D.v (.string (cn x50.2).d)] (by first|rfl|omega|(rw [wrap64 _ (by omega) (by omega)];omega)|(rw [wrap64 _ (by omega) (by omega)];split<;>omega)) (Zb hx50) rfl ?_
     refine Zct (x:=cn x47.1) (y:=cn x47.2) (z:=cn x50.1) (t:=cn x50.2) (by simp only [cn_z];omega) (by simp only [cn_z];omega) (by simp only [cn_z];omega) (by simp only [cn_z];omega) (fun q113 hk_113_1 hk_113_2=> ?_)
     try simp only [cn_q] at hk_113_1
     simp only [cn_z] at hk_113_2
     refine⟨by kernel_rfl,?_⟩
     refine Eq.trans (b:= .val (.one (.d (.list ([[D.v (.bool (cn q99).s),D.v (.string (cn q99).a),D.v (.string (cn q99).d)], [D.v (.bool (cn q106).s),D.v (.string (cn q106).a),D.v (.string (cn q106).d)], [D.v (.bool (cn q113).s),D.v (.string (cn q113).a),D.v (.string (cn q113).d)]]))))) ?_ rfl
     have hW:W= [crs l 1 2,crs l 2 0,crs l 0 1]:=Option.some.inj (h.symm.trans ((Zfc (fun j hj=>g2 j (by omega))).trans (Zg7 (fun c=>f55 (by rw [hk_52_1,← Za9 hx47 hx50];exact c.2)) (by omega))))
     have e99:q99=crs l 1 2:=by rw [Za9 hx50 hx97,hk_99_1]
     have e106:q106=crs l 2 0:=by rw [Za9 hx97 hx47,hk_106_1]
     have e113:q113=crs l 0 1:=by rw [Za9 hx47 hx50,hk_113_1]
     rw [hW,e99,e106,e113]
     all_goals rfl
    ·have f92:¬ (((List.map rvP l).length:Int)=3):=ZQ e6
     exfalso
     exact ZeY h ((Zfc (fun j hj=>g2 j (by omega))).trans (Zg8 (fun c=>f55 (by rw [hk_52_1,← Za9 hx47 hx50];exact c.2)) (by omega)))
  ·have f45:¬ (((List.map rvP l).length:Int)≥2):=of_decide_eq_false e4
   refine⟨by kernel_rfl,?_⟩
   refine⟨fun e=>absurd e (by decide),fun _=> ?_⟩
   refine⟨fun e7=> ?_,fun e7=> ?_⟩
   ·have f92:((List.map rvP l).length:Int)=3:=ZP e7
    exfalso
    omega
   ·have f92:¬ (((List.map rvP l).length:Int)=3):=ZQ e7
    exfalso
    exact ZeY h ((Zfc (fun j hj=>g2 j (by omega))).trans (Zg8 (fun c=>by have:=c.1;omega) (by omega)))
set_option maxHeartbeats 4000000 in
theorem ZrO (l:List (Rat×Rat)) (hcz:pz l) (hn:l.length≤3) (h:nullW l=none):Spec Tryz.prog Tab 158 [.val (.one (.d (.list (List.map rvP l))))] ((.val (.one (.d (.v (.slice none 0 0)))))):=by
 have hL:(List.map rvP l).length=l.length:=List.length_map ..
 refine ZwZ [32,86] Tryz.func158 rfl rfl Tryz.ntmps158 rfl (by kernel_rfl) rfl rfl ?_
 refine k_of (0) (by omega) (by omega) fun q10 h10 z10=> ?_
 simp only [cn_z] at z10
 refine k_of (1) (by omega) (by omega) fun q11 h11 z11=> ?_
 simp only [cn_z] at z11
 refine⟨Nat,fun i=> [(0,.val (.one (.d (.list (List.map rvP l))))),(3,.val (.one (.ptr 3 0))),(4,.val (.one (.ptr 4 0))),(12,.val (.one (.d (.list (List.map rvP l))))),(13,int ((List.map rvP l).length:Int)),(14,int (i:Int))],
  fun i=> [(3,.var 23 [.d (.v (.bool (cn q10).s)),.d (.v (.string (cn q10).a)),.d (.v (.string (cn q10).d))]),(4,.var 23 [.d (.v (.bool (cn q11).s)),.d (.v (.string (cn q11).a)),.d (.v (.string (cn q11).d))])],fun i=>i≤l.length∧∀ j,j< i→¬ zr l j,fun i=>l.length - i,0,?_,⟨Nat.zero_le _,fun j h=>by omega⟩,fun i hs=> ?_⟩
 ·constructor<;>(repeat' (first|exact rfl|exact True.intro|exact⟨_,_,rfl⟩|exact(by decide)|apply And.intro))
  all_goals first|exact congrArg (fun n:Int=>D.v (.int .i64 n)) (by omega)|exact congrArg (fun n:Int=>D.v (.int .i64 n)) (by rw [wrap64 _ (by omega) (by omega)];omega)|(simp;done)
 have g1:=hs.1
 have g2:=hs.2
 refine⟨fun e1=> ?_,fun e1=> ?_⟩
 ·have f15:(i:Int)< ((List.map rvP l).length:Int):=of_decide_eq_true e1
  refine Zc (l:=l) (i:=i) (by first|omega|exact Nat.mod_lt _ (by omega)) fun x17 hx17=> ?_
  have hwx17:=hcz x17 (List.mem_of_getElem? hx17)
  refine k_ix i [D.v (.bool (cn x17.1).s),D.v (.string (cn x17.1).a),D.v (.string (cn x17.1).d),D.v (.bool (cn x17.2).s),D.v (.string (cn x17.2).a),D.v (.string (cn x17.2).d)] (by first|rfl|omega|(rw [wrap64 _ (by omega) (by omega)];omega)|(rw [wrap64 _ (by omega) (by omega)];split<;>omega)) (Zb hx17) rfl ?_
  refine ZbC (x:=cn x17.1) (by simp only [cn_z];omega) fun n21 h21=> ?_
  simp only [cn_q] at h21
  refine fork (fun e2=> ?_) (fun e2=> ?_)
  ·have f23:x17.1=0:=(ZN h21).1 (ZP e2)
   refine ZbC (x:=cn x17.2) (by simp only [cn_z];omega) fun n26 h26=> ?_
   simp only [cn_q] at h26
   refine⟨fun e3=> ?_,fun e3=> ?_⟩
   ·have f28:x17.2=0:=(ZN h26).1 (ZP e3)
    exfalso
    exact ZeY (ZoF (by omega) ⟨by rw [ZaT hx17];exact f23,by rw [ZaT hx17];exact f28⟩ g2) h
   ·have f28:¬ (x17.2=0):=fun hh=>ZQ e3 ((ZN h26).2 hh)
    refine⟨i+1,⟨by omega,fun j hj=>by
     by_cases e:j=i
     ·rw [e];exact fun z=>f28 (by have:=z.2;rwa [ZaT hx17] at this)
     ·exact g2 j (by omega)⟩,by simp only;omega,?_⟩
    constructor<;>(repeat' (first|exact rfl|exact True.intro|apply And.intro))
    all_goals first
     |exact congrArg (fun n:Int=>D.v (.int .i64 n)) (by rw [wrap64 _ (by omega) (by omega)];omega)
     |exact congrArg (fun n:Int=>D.v (.int .i64 n)) (by omega)
  ·have f23:¬ (x17.1=0):=fun hh=>ZQ e2 ((ZN h21).2 hh)
   refine⟨fun e=>absurd e (by decide),fun _=> ?_⟩
   refine⟨i+1,⟨by omega,fun j hj=>by
    by_cases e:j=i
    ·rw [e];exact fun z=>f23 (by have:=z.1;rwa [ZaT hx17] at this)
    ·exact g2 j (by omega)⟩,by simp only;omega,?_⟩
   constructor<;>(repeat' (first|exact rfl|exact True.intro|apply And.intro))
   all_goals first
    |exact congrArg (fun n:Int=>D.v (.int .i64 n)) (by rw [wrap64 _ (by omega) (by omega)];omega)
    |exact congrArg (fun n:Int=>D.v (.int .i64 n)) (by omega)
 ·have f15:¬ ((i:Int)< ((List.map rvP l).length:Int)):=of_decide_eq_false e1
  refine fork (fun e4=> ?_) (fun e4=> ?_)
  ·have f45:((List.map rvP l).length:Int)≥2:=of_decide_eq_true e4
   refine Zc (l:=l) (i:=0) (by first|omega|exact Nat.mod_lt _ (by omega)) fun x47 hx47=> ?_
   have hwx47:=hcz x47 (List.mem_of_getElem? hx47)
   refine k_ix 0 [D.v (.bool (cn x47.1).s),D.v (.string (cn x47.1).a),D.v (.string (cn x47.1).d),D.v (.bool (cn x47.2).s),D.v (.string (cn x47.2).a),D.v (.string (cn x47.2).d)] (by first|rfl|omega|(rw [wrap64 _ (by omega) (by omega)];omega)|(rw [wrap64 _ (by omega) (by omega)];split<;>omega)) (Zb hx47) rfl ?_
   refine Zc (l:=l) (i:=1) (by first|omega|exact Nat.mod_lt _ (by omega)) fun x50 hx50=> ?_
   have hwx50:=hcz x50 (List.mem_of_getElem? hx50)
   refine k_ix 1 [D.v (.bool (cn x50.1).s),D.v (.string (cn x50.1).a),D.v (.string (cn x50.1).d),D.v (.bool (cn x50.2).s),D.v (.string (cn x50.2).a),D.v (.string (cn x50.2).d)] (by first|rfl|omega|(rw [wrap64 _ (by omega) (by omega)];omega)|(rw [wrap64 _ (by omega) (by omega)];split<;>omega)) (Zb hx50) rfl ?_
   refine Zct (x:=cn x47.1) (y:=cn x47.2) (z:=cn x50.1) (t:=cn x50.2) (by simp only [cn_z];omega) (by simp only [cn_z];omega) (by simp only [cn_z];omega) (by simp only [cn_z];omega) (fun q52 hk_52_1 hk_52_2=> ?_)
   try simp only [cn_q] at hk_52_1
   simp only [cn_z] at hk_52_2
   refine ZbC (x:=cn q52) (by simp only [cn_z];omega) fun n53 h53=> ?_
   simp only [cn_q] at h53
   refine⟨by kernel_rfl,?_⟩
   refine⟨fun e5=> ?_,fun e5=> ?_⟩
   ·have f55:q52=0:=(ZN h53).1 (ZP e5)
    exfalso
    exact ZeY ((Zfc (fun j hj=>g2 j (by omega))).trans (Zfd (by omega) (by rw [Za9 hx47 hx50,← hk_52_1];exact f55))) h
   ·have f55:¬ (q52=0):=fun hh=>ZQ e5 ((ZN h53).2 hh)
    refine⟨fun e6=> ?_,fun e6=> ?_⟩
    ·have f92:((List.map rvP l).length:Int)=3:=ZP e6
     exfalso
     exact ZeY ((Zfc (fun j hj=>g2 j (by omega))).trans (Zg7 (fun c=>f55 (by rw [hk_52_1,← Za9 hx47 hx50];exact c.2)) (by omega))) h
    ·have f92:¬ (((List.map rvP l).length:Int)=3):=ZQ e6
     exact trivial
  ·have f45:¬ (((List.map rvP l).length:Int)≥2):=of_decide_eq_false e4
   refine⟨by kernel_rfl,?_⟩
   refine⟨fun e=>absurd e (by decide),fun _=> ?_⟩
   refine⟨fun e7=> ?_,fun e7=> ?_⟩
   ·have f92:((List.map rvP l).length:Int)=3:=ZP e7
    exfalso
    omega
   ·have f92:¬ (((List.map rvP l).length:Int)=3):=ZQ e7
    exact trivial
noncomputable def nW (A:ArmV) (Q:List RV):List Rat:=(nullW (colsF A Q A.links.length)).getD []
theorem Zmb {A:ArmV} {Q:List RV} (h:nullW (colsF A Q A.links.length)≠none):nullW (colsF A Q A.links.length)=some (nW A Q):=by
 unfold nW
 cases e:nullW (colsF A Q A.links.length) with
 |none=>exact absurd e h
 |some W=>rfl
open Classical in
noncomputable def stillE (A:ArmV) (Q:List RV):Int:=if hasE A (Q.length:Int)=0 then (if nullW (colsF A Q A.links.length)=none then 4 else 0) else hasE A (Q.length:Int)
open Classical in
noncomputable def stillV (A:ArmV) (Q:List RV):List Rat:=if hasE A (Q.length:Int)=0∧nullW (colsF A Q A.links.length)≠none then stL Q (nW A Q) A.links.length else []
theorem Zet {A:ArmV} {Q:List RV} (h:¬ hasE A (Q.length:Int)=0):stillE A Q=hasE A (Q.length:Int)∧stillV A Q= []:=by
 unfold stillE stillV
 exact⟨if_neg h,if_neg fun g=>h g.1⟩
theorem ZeS {A:ArmV} {Q:List RV} (h:hasE A (Q.length:Int)=0) (g:nullW (colsF A Q A.links.length)=none):stillE A Q=4∧stillV A Q= []:=by
 unfold stillE stillV
 exact⟨by rw [if_pos h,if_pos g],if_neg fun k=>k.2 g⟩
theorem Zi4 {A:ArmV} {Q:List RV} (h:hasE A (Q.length:Int)=0) (g:nullW (colsF A Q A.links.length)≠none):stillE A Q=0∧stillV A Q=stL Q (nW A Q) A.links.length:=by
 unfold stillE stillV
 exact⟨by rw [if_pos h,if_neg g],if_pos ⟨h,g⟩⟩
theorem ZrP {x y:Operand} (w:World):(do eqGuard .eql 33 x y (.slice none 0 0) (.slice none 0 0);binOp .eql 33 (.slice none 0 0) (.slice none 0 0):Sem Value).run Tryz.prog w= .ok (.bool true) w:=by
 simp [eqGuard,binOp,run_equal_slice_nil w _ _ _ _ _ Tryz.underlying33]
set_option maxHeartbeats 4000000 in
theorem ZvG (A:ArmV) (Q:List RV) (hA:A.ok) (hQ:∀ x,x∈Q→x.z≤1048576) (hN:nullW (colsF A Q A.links.length)=none):Spec Tryz.prog Tab 59 [.val (.agg [.d (.v (.string A.name)),.d (.v (.bool A.bx.s)),.d (.v (.string A.bx.a)),.d (.v (.string A.bx.d)),.d (.v (.bool A.by'.s)),.d (.v (.string A.by'.a)),.d (.v (.string A.by'.d)),.d (.v (.bool (A.bh))),.d (.v (.bool A.bt.s)),.d (.v (.string A.bt.a)),.d (.v (.string A.bt.d)),.d (.list (List.map lk A.links))]),.val (.one (.d (.list (List.map rd Q))))] (.tup [.one (.d (.list (List.map rdc (stillV A Q)))),.one (.d (.v (.int .i64 (stillE A Q))))]):=by
 have hA2:=hA
 have hL:(List.map lk A.links).length=A.links.length:=List.length_map ..
 have hLq:(List.map rd Q).length=Q.length:=List.length_map ..
 refine Za Tryz.func59 rfl rfl Tryz.ntmps59 rfl (by kernel_rfl) rfl rfl ?_
 refine Zps (A:=A) (Q:=Q) (by assumption) (by assumption) fun n16 hk_16_1=> ?_
 refine⟨fun e1=> ?_,fun e1=> ?_⟩
 ·have f20:n16≠0:=Zv e1
  refine Eq.trans (b:= .tup [.one (.d (.list ([]))),.one (.d (.v (.int .i64 (n16))))]) ?_ rfl
  have hno:=Zet (A:=A) (Q:=Q) (by rw [← hk_16_1];exact f20)
  rw [hno.1,hno.2,← hk_16_1]
  all_goals rfl
 ·have f20:¬ (n16≠0):=fun hh=>hh (Zw e1)
  have h0:hasE A (Q.length:Int)=0:=by rw [← hk_16_1];exact Classical.not_not.1 f20
  have hA0:=(ZI.1 h0).1
  have hlen0:=(ZI.1 h0).2
  have hlen:Q.length=A.links.length:=by omega
  have hn3:=(ZE hA0).1
  have hLc:(List.map rvP (colsV A Q)).length=A.links.length:=by rw [List.length_map,Zab h0,Zn]
  have hLc2:(colsV A Q).length=A.links.length:=by rw [Zab h0,Zn]
  refine use (ZrO (colsV A Q) (Zp4 hQ) (ZiI A Q) (by rw [Zab h0];exact hN)) rfl ?_
  refine⟨_,⟨_,rfl,rfl,fun w=>ZrP w⟩,?_⟩
  refine⟨fun _=> ?_,fun e=>absurd e (by decide)⟩
  refine Eq.trans (b:= .tup [.one (.d (.list ([]))),.one (.d (.v (.int .i64 (4))))]) ?_ rfl
  have hok:=ZeS h0 hN
  rw [hok.1,hok.2]
  all_goals rfl
set_option maxHeartbeats 4000000 in
theorem ZvH (A:ArmV) (Q:List RV) (hA:A.ok) (hQ:∀ x,x∈Q→x.z≤1048576) (hN:nullW (colsF A Q A.links.length)≠none):Spec Tryz.prog Tab 59 [.val (.agg [.d (.v (.string A.name)),.d (.v (.bool A.bx.s)),.d (.v (.string A.bx.a)),.d (.v (.string A.bx.d)),.d (.v (.bool A.by'.s)),.d (.v (.string A.by'.a)),.d (.v (.string A.by'.d)),.d (.v (.bool (A.bh))),.d (.v (.bool A.bt.s)),.d (.v (.string A.bt.a)),.d (.v (.string A.bt.d)),.d (.list (List.map lk A.links))]),.val (.one (.d (.list (List.map rd Q))))] (.tup [.one (.d (.list (List.map rdc (stillV A Q)))),.one (.d (.v (.int .i64 (stillE A Q))))]):=by
 have hA2:=hA
 have hL:(List.map lk A.links).length=A.links.length:=List.length_map ..
 have hLq:(List.map rd Q).length=Q.length:=List.length_map ..
 refine Za Tryz.func59 rfl rfl Tryz.ntmps59 rfl (by kernel_rfl) rfl rfl ?_
 refine Zps (A:=A) (Q:=Q) (by assumption) (by assumption) fun n16 hk_16_1=> ?_
 refine⟨fun e1=> ?_,fun e1=> ?_⟩
 ·have f20:n16≠0:=Zv e1
  refine Eq.trans (b:= .tup [.one (.d (.list ([]))),.one (.d (.v (.int .i64 (n16))))]) ?_ rfl
  have hno:=Zet (A:=A) (Q:=Q) (by rw [← hk_16_1];exact f20)
  rw [hno.1,hno.2,← hk_16_1]
  all_goals rfl
 ·have f20:¬ (n16≠0):=fun hh=>hh (Zw e1)
  have h0:hasE A (Q.length:Int)=0:=by rw [← hk_16_1];exact Classical.not_not.1 f20
  have hA0:=(ZI.1 h0).1
  have hlen0:=(ZI.1 h0).2
  have hlen:Q.length=A.links.length:=by omega
  have hn3:=(ZE hA0).1
  have hLc:(List.map rvP (colsV A Q)).length=A.links.length:=by rw [List.length_map,Zab h0,Zn]
  have hLc2:(colsV A Q).length=A.links.length:=by rw [Zab h0,Zn]
  have hnn:=ZoD (by rw [Zn];omega) (Zmb hN)
  have hnl:(nW A Q).length=A.links.length:=by rw [hnn.1,Zn]
  have hnm:(List.map rdc (nW A Q)).length=(nW A Q).length:=List.length_map ..
  have hnz:=ZjA (Zc6 hA0 hQ) (Zmb hN)
  have hne:List.map rdc (nW A Q)≠ []:=fun e=>by
   rw [e] at hnm
   have:=(ZE hA0).2.1
   simp only [List.length_nil] at hnm
   omega
  refine use (ZoE (colsV A Q) (nW A Q) (Zp4 hQ) (ZiI A Q) (by rw [Zab h0];exact Zmb hN)) rfl ?_
  refine⟨_,⟨⟨_,Tryz.underlying33⟩,hne,rfl⟩,?_⟩
  refine⟨fun e=>absurd e (by decide),fun _=> ?_⟩
  refine⟨Nat,fun i=> [(1,.val (.one (.d (.list (List.map rd Q))))),(8,.val (.one (.d (.list (List.map rdc (nW A Q)))))),(9,.val (.one (.row 48 0))),(27,int ((List.map rdc (nW A Q)).length:Int)),(28,int (i:Int))],
   fun i=> [(48,.row 23 3 0 (List.map rdc (stL Q (nW A Q) i)) true)],fun i=>i≤(nW A Q).length,fun i=>(nW A Q).length - i,0,?_,Nat.zero_le _,fun i hs=> ?_⟩
  ·constructor<;>(repeat' (first|exact rfl|exact True.intro|exact⟨_,_,rfl⟩|exact(by decide)|apply And.intro))
   all_goals first|exact congrArg (fun n:Int=>D.v (.int .i64 n)) (by omega)|exact congrArg (fun n:Int=>D.v (.int .i64 n)) (by rw [wrap64 _ (by omega) (by omega)];omega)|(simp;done)
  have hT:(List.map rdc (stL Q (nW A Q) i)).length≤3:=by rw [List.length_map,ZbH];omega
  refine⟨fun e2=> ?_,fun e2=> ?_⟩
  ·have f29:(i:Int)< ((List.map rdc (nW A Q)).length:Int):=of_decide_eq_true e2
   refine Zc (l:=(nW A Q)) (i:=i) (by first|omega|exact Nat.mod_lt _ (by omega)) fun x34 hx34=> ?_
   have hxw:x34=wgt (nW A Q) i:=(Zky hx34).symm
   have hzw:=hnz x34 (List.mem_of_getElem? hx34)
   refine k_ix i [D.v (.bool (cn x34).s),D.v (.string (cn x34).a),D.v (.string (cn x34).d)] (by first|rfl|omega|(rw [wrap64 _ (by omega) (by omega)];omega)|(rw [wrap64 _ (by omega) (by omega)];split<;>omega)) (Zb hx34) rfl ?_
   refine Zc (l:=Q) (i:=i) (by first|omega|exact Nat.mod_lt _ (by omega)) fun x38 hx38=> ?_
   have hzx38:=hQ x38 (List.mem_of_getElem? hx38)
   have hxq:x38.q=qAt Q i:=(ZR hx38).symm
   refine k_ix i [D.v (.bool x38.s),D.v (.string x38.a),D.v (.string x38.d)] (by first|rfl|omega|(rw [wrap64 _ (by omega) (by omega)];omega)|(rw [wrap64 _ (by omega) (by omega)];split<;>omega)) (Zb hx38) rfl ?_
   refine k_of (1) (by omega) (by omega) fun q40 h40 z40=> ?_
   simp only [cn_z] at z40
   refine Zpk (x:=x38) (y:=cn q40) (by omega) (by simp only [cn_z];omega) fun q41 h41 z41=> ?_
   simp only [cn_z] at z41
   simp only [cn_q] at h41
   refine Zhd (x:=cn x34) (y:=cn q41) (by simp only [cn_z];omega) (by simp only [cn_z];omega) (by rw [cn_q,h41,h40];exact Ztq _) fun q42 h42 z42=> ?_
   simp only [cn_z] at z42
   simp only [cn_q] at h42
   refine⟨by kernel_rfl,?_⟩
   refine⟨⟨row1 rfl,(by show ((List.map rdc (stL Q (nW A Q) i)).length+1)*40≤_;omega),(by show ((List.map rdc (stL Q (nW A Q) i)).length+1)≤_;omega)⟩,?_⟩
   have e42:q42=stQ (qAt Q i) (wgt (nW A Q) i):=by rw [h42,h41,h40,hxq,hxw];rfl
   clear h42
   subst e42
   refine⟨i+1,by omega,by simp only;omega,?_⟩
   constructor<;>(repeat' (first|exact rfl|exact True.intro|apply And.intro))
   all_goals first
    |(rw [Zq4];rfl)
    |exact congrArg (fun n:Int=>D.v (.int .i64 n)) (by rw [wrap64 _ (by omega) (by omega)];omega)
    |exact congrArg (fun n:Int=>D.v (.int .i64 n)) (by omega)
  ·have f29:¬ ((i:Int)< ((List.map rdc (nW A Q)).length:Int)):=of_decide_eq_false e2
   refine Eq.trans (b:= .tup [.one (.d (.list (List.map rdc (stL Q (nW A Q) i)))),.one (.d (.v (.int .i64 (0))))]) ?_ rfl
   have hok:=Zi4 h0 hN
   rw [hok.1,hok.2,← hnl,← show i=(nW A Q).length by omega]
   all_goals rfl
theorem Zu2 {A:ArmV} {Q:List RV} (hA:A.ok) (hQ:∀ x,x∈Q→x.z≤1048576) (k:∀ n,n=stillE A Q→K (.tup [.one (.d (.list (List.map rdc (stillV A Q)))),.one (.d (.v (.int .i64 n)))])):Ask 59 [.val (.agg [.d (.v (.string A.name)),.d (.v (.bool A.bx.s)),.d (.v (.string A.bx.a)),.d (.v (.string A.bx.d)),.d (.v (.bool A.by'.s)),.d (.v (.string A.by'.a)),.d (.v (.string A.by'.d)),.d (.v (.bool (A.bh))),.d (.v (.bool A.bt.s)),.d (.v (.string A.bt.a)),.d (.v (.string A.bt.d)),.d (.list (List.map lk A.links))]),.val (.one (.d (.list (List.map rd Q))))] K:=by
 by_cases hN:nullW (colsF A Q A.links.length)=none
 ·exact use (ZvG A Q hA hQ hN) rfl (k _ rfl)
 ·exact use (ZvH A Q hA hQ hN) rfl (k _ rfl)
end
end Go.Proofs.YtpfemjpgbpnpkaaGreatDoor.eng
namespace Go.Proofs.YtpfemjpgbpnpkaaGreatDoor.eng
open Go.RowKit num mem seg q held ratA ratB ratC ratD ratE vars ratF trq
section
variable {K : AV → Prop}
theorem ZmV (p q:Rat) (hp:qs p≤8388608) (hq:qs q≤800000000):Spec Tryz.prog Tab 58 [q3 p,q3 q] (q3 (rtQ p q)):=by
 refine Za Tryz.func58 rfl rfl Tryz.ntmps58 rfl (by kernel_rfl) rfl rfl ?_
 refine k_N3 (2) (by omega) (by omega) fun q5 h5 z5=> ?_
 refine Zay (p:=q5) (q:=q) (by omega) (by omega) fun q7 h7 z7=> ?_
 refine k_N3 (1) (by omega) (by omega) fun q8 h8 z8=> ?_
 refine Zay (p:=p) (q:=p) (by omega) (by omega) fun q11 h11 z11=> ?_
 refine Zcf (p:=q8) (q:=q11) (by omega) (by omega) fun q12 h12 z12=> ?_
 refine Zgo (p:=q7) (q:=q12) (by omega) (by omega) (by rw [h12,h11,h8];exact ZkH p) fun q13 h13 z13=> ?_
 refine⟨by kernel_rfl,?_⟩
 refine Eq.trans (b:=q3 q13) ?_ rfl
 have e13:q13=rtQ p q:=by rw [h13,h12,h11,h8,h7,h5];rfl
 rw [e13]
theorem Zpn {p q:Rat} (hp:qs p≤8388608) (hq:qs q≤800000000) (k:∀ r,r=rtQ p q→qs r≤qs q+qs p+qs p+30→K (q3 r)):Ask 58 [q3 p,q3 q] K:=
 use (ZmV p q hp hq) rfl (k _ rfl (Zrl p q))
set_option maxHeartbeats 4000000 in
theorem ZqA (A:ArmV) (Q V:List RV) (hA:A.ok) (hA0:armE A=0) (hlen:Q.length=A.links.length) (hQ:∀ x,x∈Q→x.z≤1048576) (hV:∀ x,x∈V→x.z≤790000000) (hVl:V.length=A.links.length) (hB:velB A Q V):Spec Tryz.prog Tab 60 [.val (.agg [.d (.v (.string A.name)),.d (.v (.bool A.bx.s)),.d (.v (.string A.bx.a)),.d (.v (.string A.bx.d)),.d (.v (.bool A.by'.s)),.d (.v (.string A.by'.a)),.d (.v (.string A.by'.d)),.d (.v (.bool (A.bh))),.d (.v (.bool A.bt.s)),.d (.v (.string A.bt.a)),.d (.v (.string A.bt.d)),.d (.list (List.map lk A.links))]),.val (.one (.d (.list (List.map rd Q)))),.val (.one (.d (.list (List.map rd V))))] (q3p ((velF A Q V A.links.length).1) ((velF A Q V A.links.length).2)):=by
 have hA2:=hA
 have hL:(List.map lk A.links).length=A.links.length:=List.length_map ..
 have hLq:(List.map rd Q).length=Q.length:=List.length_map ..
 have hLv:(List.map rd V).length=V.length:=List.length_map ..
 have hn3:=(ZE hA0).1
 have hLc:(List.map rqP (colsF A Q A.links.length)).length=A.links.length:=by rw [List.length_map,Zn]
 have hLd:=Zn A Q A.links.length
 refine Za Tryz.func60 rfl rfl Tryz.ntmps60 rfl (by kernel_rfl) rfl rfl ?_
 refine k_N3 (0) (by omega) (by omega) fun q11 h11 z11=> ?_
 refine k_N3 (0) (by omega) (by omega) fun q12 h12 z12=> ?_
 refine ZjM (A:=A) (Q:=Q) (by assumption) hA0 hlen (by assumption) ?_
 have e11:q11=(velF A Q V 0).1:=h11
 have e12:q12=(velF A Q V 0).2:=h12
 refine⟨Nat,fun i=> [(1,.val (.one (.d (.list (List.map rd Q))))),(2,.val (.one (.d (.list (List.map rd V))))),(6,.val (.one (.ptr 6 0))),(7,.val (.one (.ptr 7 0))),(16,.val (.one (.d (.list (List.map rqP (colsF A Q A.links.length)))))),(17,int ((List.map rqP (colsF A Q A.links.length)).length:Int)),(18,int (i:Int))],
  fun i=> [(6,.var 104 [.d (.v (.bool false)),.d (.v (.slice none 0 0)),.d (.v (.slice none 0 0)),.d (.v (.bool false)),.d (.v (.slice none 0 0)),.d (.v (.slice none 0 0))]),(7,.var 104 [.d (.v (.bool (decide (((velF A Q V i).1).num< 0)))),.d (.list (W (w32 ((velF A Q V i).1).num.natAbs))),.d (.list (W (w32 ((velF A Q V i).1).den))),.d (.v (.bool (decide (((velF A Q V i).2).num< 0)))),.d (.list (W (w32 ((velF A Q V i).2).num.natAbs))),.d (.list (W (w32 ((velF A Q V i).2).den)))])],fun i=>i≤A.links.length,fun i=>A.links.length - i,0,?_,Nat.zero_le _,fun i hs=> ?_⟩
 ·constructor<;>(repeat' (first|exact rfl|exact True.intro|exact⟨_,_,rfl⟩|exact(by decide)|apply And.intro))
  all_goals first
   |exact congrArg (fun q:Rat=>D.v (.bool (decide (q.num< 0)))) e11
   |exact congrArg (fun q:Rat=>D.v (.bool (decide (q.num< 0)))) e11.symm
   |exact congrArg (fun q:Rat=>D.list (W (w32 q.num.natAbs))) e11
   |exact congrArg (fun q:Rat=>D.list (W (w32 q.num.natAbs))) e11.symm
   |exact congrArg (fun q:Rat=>D.list (W (w32 q.den))) e11
   |exact congrArg (fun q:Rat=>D.list (W (w32 q.den))) e11.symm
   |exact congrArg (fun q:Rat=>D.v (.bool (decide (q.num< 0)))) e12
   |exact congrArg (fun q:Rat=>D.v (.bool (decide (q.num< 0)))) e12.symm
   |exact congrArg (fun q:Rat=>D.list (W (w32 q.num.natAbs))) e12
   |exact congrArg (fun q:Rat=>D.list (W (w32 q.num.natAbs))) e12.symm
   |exact congrArg (fun q:Rat=>D.list (W (w32 q.den))) e12
   |exact congrArg (fun q:Rat=>D.list (W (w32 q.den))) e12.symm
   |exact congrArg (fun n:Int=>D.v (.int .i64 n)) (by omega)
   |(simp;done)
 have hb:=hB i hs
 refine⟨fun e1=> ?_,fun e1=> ?_⟩
 ·have f19:(i:Int)< ((List.map rqP (colsF A Q A.links.length)).length:Int):=of_decide_eq_true e1
  refine Zc (l:=(colsF A Q A.links.length)) (i:=i) (by first|omega|exact Nat.mod_lt _ (by omega)) fun x21 hx21=> ?_
  have hxc:x21=colF A Q i:=(Zhs hx21).1
  have hzc:=Zlt hA0 hQ (i:=i) (by omega)
  rw [← hxc] at hzc
  refine k_ix i [D.v (.bool (decide (x21.1.num< 0))),D.list (W (w32 x21.1.num.natAbs)),D.list (W (w32 x21.1.den)),D.v (.bool (decide (x21.2.num< 0))),D.list (W (w32 x21.2.num.natAbs)),D.list (W (w32 x21.2.den))] (by first|rfl|omega|(rw [wrap64 _ (by omega) (by omega)];omega)|(rw [wrap64 _ (by omega) (by omega)];split<;>omega)) (Zb hx21) rfl ?_
  refine Zc (l:=Q) (i:=i) (by first|omega|exact Nat.mod_lt _ (by omega)) fun x25 hx25=> ?_
  have hzx25:=hQ x25 (List.mem_of_getElem? hx25)
  have hxq:x25.q=qAt Q i:=(ZR hx25).symm
  refine k_ix i [D.v (.bool x25.s),D.v (.string x25.a),D.v (.string x25.d)] (by first|rfl|omega|(rw [wrap64 _ (by omega) (by omega)];omega)|(rw [wrap64 _ (by omega) (by omega)];split<;>omega)) (Zb hx25) rfl ?_
  refine Zr (x:=x25) (by omega) fun q27 h27 z27=> ?_
  refine Zc (l:=V) (i:=i) (by first|omega|exact Nat.mod_lt _ (by omega)) fun x30 hx30=> ?_
  have hzx30:=hV x30 (List.mem_of_getElem? hx30)
  have hxv:x30.q=qAt V i:=(ZR hx30).symm
  refine k_ix i [D.v (.bool x30.s),D.v (.string x30.a),D.v (.string x30.d)] (by first|rfl|omega|(rw [wrap64 _ (by omega) (by omega)];omega)|(rw [wrap64 _ (by omega) (by omega)];split<;>omega)) (Zb hx30) rfl ?_
  refine Zr (x:=x30) (by omega) fun q32 h32 z32=> ?_
  refine Zpn (p:=q27) (q:=q32) (by omega) (by omega) fun q33 h33 z33=> ?_
  have e33:q33=rtQ (qAt Q i) (qAt V i):=by rw [h33,h27,h32,hxq,hxv]
  have hz33:qs q33≤800000000:=by rw [e33];exact hb.2 (by omega)
  refine⟨by kernel_rfl,?_⟩
  refine Zay (p:=x21.1) (q:=q33) (by omega) (by omega) fun q39 h39 z39=> ?_
  refine Zcf (p:=(velF A Q V i).1) (q:=q39) (by omega) (by omega) fun q40 h40 z40=> ?_
  refine Zay (p:=x21.2) (q:=q33) (by omega) (by omega) fun q46 h46 z46=> ?_
  refine Zcf (p:=(velF A Q V i).2) (q:=q46) (by omega) (by omega) fun q47 h47 z47=> ?_
  refine⟨by kernel_rfl,?_⟩
  have e1:q40=(velF A Q V (i+1)).1:=by rw [h40,h39,e33,hxc];rfl
  have e2:q47=(velF A Q V (i+1)).2:=by rw [h47,h46,e33,hxc];rfl
  refine⟨i+1,by omega,by simp only;omega,?_⟩
  constructor<;>(repeat' (first|exact rfl|exact True.intro|apply And.intro))
  all_goals first
   |exact congrArg (fun q:Rat=>D.v (.bool (decide (q.num< 0)))) e1
   |exact congrArg (fun q:Rat=>D.v (.bool (decide (q.num< 0)))) e1.symm
   |exact congrArg (fun q:Rat=>D.list (W (w32 q.num.natAbs))) e1
   |exact congrArg (fun q:Rat=>D.list (W (w32 q.num.natAbs))) e1.symm
   |exact congrArg (fun q:Rat=>D.list (W (w32 q.den))) e1
   |exact congrArg (fun q:Rat=>D.list (W (w32 q.den))) e1.symm
   |exact congrArg (fun q:Rat=>D.v (.bool (decide (q.num< 0)))) e2
   |exact congrArg (fun q:Rat=>D.v (.bool (decide (q.num< 0)))) e2.symm
   |exact congrArg (fun q:Rat=>D.list (W (w32 q.num.natAbs))) e2
   |exact congrArg (fun q:Rat=>D.list (W (w32 q.num.natAbs))) e2.symm
   |exact congrArg (fun q:Rat=>D.list (W (w32 q.den))) e2
   |exact congrArg (fun q:Rat=>D.list (W (w32 q.den))) e2.symm
   |exact congrArg (fun n:Int=>D.v (.int .i64 n)) (by rw [wrap64 _ (by omega) (by omega)];omega)
   |exact congrArg (fun n:Int=>D.v (.int .i64 n)) (by omega)
 ·have f19:¬ ((i:Int)< ((List.map rqP (colsF A Q A.links.length)).length:Int)):=of_decide_eq_false e1
  refine Eq.trans (b:=q3p ((velF A Q V i).1) ((velF A Q V i).2)) ?_ rfl
  obtain rfl:i=A.links.length:=by omega
  rfl
theorem Zpl {A:ArmV} {Q V:List RV} {u:List (List D)} (hu:u=List.map rd V) (hA:A.ok) (hA0:armE A=0) (hlen:Q.length=A.links.length) (hQ:∀ x,x∈Q→x.z≤1048576) (hV:∀ x,x∈V→x.z≤790000000) (hVl:V.length=A.links.length) (hB:velB A Q V) (k:K (q3p (velF A Q V A.links.length).1 (velF A Q V A.links.length).2)):Ask 60 [.val (.agg [.d (.v (.string A.name)),.d (.v (.bool A.bx.s)),.d (.v (.string A.bx.a)),.d (.v (.string A.bx.d)),.d (.v (.bool A.by'.s)),.d (.v (.string A.by'.a)),.d (.v (.string A.by'.d)),.d (.v (.bool (A.bh))),.d (.v (.bool A.bt.s)),.d (.v (.string A.bt.a)),.d (.v (.string A.bt.d)),.d (.list (List.map lk A.links))]),.val (.one (.d (.list (List.map rd Q)))),.val (.one (.d (.list u)))] K:=by
 subst hu;exact use (ZqA A Q V hA hA0 hlen hQ hV hVl hB) rfl k
open Classical in
noncomputable def nzI (W:List Rat):Nat→Int
 |0=> -1
 |n+1=>if nzI W n=-1 then (if wgt W n≠0 then (n:Int) else -1) else nzI W n
theorem Zor {W:List Rat}:∀ {n:Nat},(∀ j,j< n→wgt W j=0)→nzI W n=-1
 |0,_=>rfl
 |n+1,h=>by
  unfold nzI
  rw [if_pos (Zor fun j hj=>h j (by omega)),if_neg (fun g=>g (h n (by omega)))]
theorem ZtC {W:List Rat} {i:Nat} (hz:wgt W i≠0) (h:∀ j,j< i→wgt W j=0):∀ {n:Nat},i< n→nzI W n=(i:Int)
 |0,hn=>by omega
 |n+1,hn=>by
  unfold nzI
  by_cases e:i=n
  ·subst e
   rw [if_pos (Zor h),if_pos hz]
  ·rw [ZtC hz h (show i< n by omega),if_neg (by omega)]
theorem Zoq {W:List Rat}:∀ {n i:Nat},i< n→wgt W i≠0→0≤nzI W n
 |0,i,hn,_=>by omega
 |n+1,i,hn,hz=>by
  unfold nzI
  by_cases e:nzI W n=-1
  ·rw [if_pos e]
   by_cases g:wgt W n≠0
   ·rw [if_pos g];omega
   ·exfalso
    by_cases k:i=n
    ·rw [k] at hz;exact g hz
    ·have:=Zoq (show i< n by omega) hz
     omega
  ·rw [if_neg e]
   have:∀ m,nzI W m=-1∨0≤nzI W m:=by
    intro m
    induction m with
    |zero=>exact .inl rfl
    |succ m ih=>
     unfold nzI
     split
     ·split<;>omega
     ·omega
   rcases this n with h|h
   ·exact absurd h e
   ·exact h
theorem ZrU (q:Rat) (hq:qs q≤1073741823):Spec Tryz.prog Tab 65 [rat (cn q)] (bool (decide (q≠0))):=by
 have hzq:(cn q).z≤1073741823:=hq
 refine Za Tryz.func65 rfl rfl Tryz.ntmps65 rfl (by kernel_rfl) rfl rfl ?_
 refine Zr (x:=cn q) (by simp only [cn_z];omega) fun q4 h4 z4=> ?_
 simp only [cn_q] at h4
 simp only [cn_z] at z4
 refine Zaf (q:=q4) fun n5 h5=> ?_
 refine Eq.trans (b:=bool (n5 !=0)) ?_ rfl
 rw [h4] at h5
 congr 3
 have e:=ZN h5
 by_cases g:q=0
 ·rw [decide_eq_false (fun h=>h g),e.2 g];rfl
 ·rw [decide_eq_true g];exact(bne_iff_ne.2 fun h=>g (e.1 h)).symm
set_option maxHeartbeats 2000000 in
theorem Zss (W:List Rat) (hn:W.length≤1073741824) (hW:∀ x,x∈W→qs x≤1073741823):Spec Tryz.prog Tab 161 [.val (.one (.d (.list (List.map rdc W)))),fv 65] (int (nzI W W.length)):=by
 have hLw:(List.map rdc W).length=W.length:=List.length_map ..
 refine Za Tryz.func161 rfl rfl Tryz.ntmps161 rfl (by kernel_rfl) rfl rfl ?_
 refine⟨Nat,fun i=> [(0,.val (.one (.d (.list (List.map rdc W))))),(1,fv 65),(7,int ((List.map rdc W).length:Int)),(8,int (i:Int))],
  fun i=> [],fun i=>i≤W.length∧∀ j,j< i→wgt W j=0,fun i=>W.length - i,0,?_,⟨Nat.zero_le _,fun j h=>by omega⟩,fun i hs=> ?_⟩
 ·constructor<;>(repeat' (first|exact rfl|exact True.intro|exact⟨_,_,rfl⟩|exact(by decide)|apply And.intro))
  all_goals first|exact congrArg (fun n:Int=>D.v (.int .i64 n)) (by omega)|exact congrArg (fun n:Int=>D.v (.int .i64 n)) (by rw [wrap64 _ (by omega) (by omega)];omega)|(simp;done)
 have g1:=hs.1
 have g2:=hs.2
 refine⟨fun e1=> ?_,fun e1=> ?_⟩
 ·have f9:(i:Int)< ((List.map rdc W).length:Int):=of_decide_eq_true e1
  refine Zc (l:=W) (i:=i) (by first|omega|exact Nat.mod_lt _ (by omega)) fun x14 hx14=> ?_
  refine k_ix i [D.v (.bool (cn x14).s),D.v (.string (cn x14).a),D.v (.string (cn x14).d)] (by first|rfl|omega|(rw [wrap64 _ (by omega) (by omega)];omega)|(rw [wrap64 _ (by omega) (by omega)];split<;>omega)) (Zb hx14) rfl ?_
  refine use (ZrU x14 (hW x14 (List.mem_of_getElem? hx14))) rfl ?_
  refine⟨fun e2=> ?_,fun e2=> ?_⟩
  ·have f16:x14≠0:=of_decide_eq_true e2
   refine Eq.trans (b:=int (i:Int)) ?_ rfl
   rw [ZtC (by rw [Zky hx14];exact f16) g2 (by omega)]
   all_goals rfl
  ·have f16:¬ (x14≠0):=of_decide_eq_false e2
   refine⟨i+1,⟨by omega,fun j hj=>by
    by_cases e:j=i
    ·rw [e,Zky hx14];exact Classical.not_not.1 f16
    ·exact g2 j (by omega)⟩,by simp only;omega,?_⟩
   constructor<;>(repeat' (first|exact rfl|exact True.intro|apply And.intro))
   all_goals first
    |exact congrArg (fun n:Int=>D.v (.int .i64 n)) (by rw [wrap64 _ (by omega) (by omega)];omega)
    |exact congrArg (fun n:Int=>D.v (.int .i64 n)) (by omega)
 ·have f9:¬ ((i:Int)< ((List.map rdc W).length:Int)):=of_decide_eq_false e1
  refine Eq.trans (b:=int (-1)) ?_ rfl
  rw [Zor fun j hj=>g2 j (by omega)]
  all_goals rfl
theorem Zlv (W:List Rat) (hn:W.length≤1073741824) (hW:∀ x,x∈W→qs x≤1073741823) (hx:∃ i,i< W.length∧wgt W i≠0):Spec Tryz.prog Tab 64 [.val (.one (.d (.list (List.map rdc W)))),fv 65] (bool true):=by
 refine Za Tryz.func64 rfl rfl Tryz.ntmps64 rfl (by kernel_rfl) rfl rfl ?_
 refine use (Zss W hn hW) rfl ?_
 refine Eq.trans (b:=bool (decide (nzI W W.length≥0))) ?_ rfl
 obtain⟨i,h1,h2⟩:=hx
 rw [decide_eq_true (Zoq h1 h2)]
 all_goals rfl
end
end Go.Proofs.YtpfemjpgbpnpkaaGreatDoor.eng
namespace Go.Proofs.YtpfemjpgbpnpkaaGreatDoor.eng
open Go.RowKit num mem seg q held ratA ratB ratC ratD ratE vars ratF argopen trq
section
variable {K : AV → Prop}
theorem ZnW (l:List Nat):baseF (sampA l)=⟨n0Q,n0Q,cosq false n0Q,sinq n0Q⟩:=by
 unfold baseF
 rw [show (sampA l).bx.q=n0Q from cn_q _,show (sampA l).by'.q=n0Q from cn_q _,show (sampA l).bt.q=n0Q from cn_q _];rfl
theorem cols32:colsV (sampA [3,2]) (natRV [0,0])= [(n0Q,((5:Nat):Rat)),(n0Q,n2Q)]:=by
 have q0:qAt (natRV [0,0]) 0=n0Q:=(ZR rfl).trans (cn_q _)
 have q1:qAt (natRV [0,0]) 1=n0Q:=(ZR rfl).trans (cn_q _)
 have l0:lenAt (sampA [3,2]) 0=((3:Nat):Rat):=(ZeC rfl).trans (cn_q _)
 have l1:lenAt (sampA [3,2]) 1=((2:Nat):Rat):=(ZeC rfl).trans (cn_q _)
 rw [Zab (Zdi (by decide) (by decide) (by decide) rfl)]
 have e0:linkF (sampA [3,2]) (natRV [0,0]) 0=turnF ⟨n0Q,n0Q,cosq false n0Q,sinq n0Q⟩ n0Q:=by
  show turnF (baseF _) (qAt _ 0)=_
  rw [ZnW,q0]
 have e1:linkF (sampA [3,2]) (natRV [0,0]) 1=turnF (longF (turnF ⟨n0Q,n0Q,cosq false n0Q,sinq n0Q⟩ n0Q) ((3:Nat):Rat)) n0Q:=by
  show turnF (longF (linkF _ _ 0) (lenAt _ 0)) (qAt _ 1)=_
  rw [e0,q1,l0]
 have e2:endF (sampA [3,2]) (natRV [0,0]) (sampA [3,2]).links.length=longF (turnF (longF (turnF ⟨n0Q,n0Q,cosq false n0Q,sinq n0Q⟩ n0Q) ((3:Nat):Rat)) n0Q) ((2:Nat):Rat):=by
  show longF (linkF _ _ 1) (lenAt _ 1)=_
  rw [e1,l1]
 show [colF _ _ 0,colF _ _ 1]=_
 unfold colF
 rw [e0,e1,e2]
 decide+kernel
theorem Zto {l:List Nat} (h:∀ n,n∈l→n< 256):∀ x,x∈natRV l→x.z≤1048576:=fun x hx=>Nat.le_trans (Zff h x hx) (by decide)
theorem ZrC (p:Rat×Rat) (h:qs p.1≤8589934592∧qs p.2≤8589934592):Spec Tryz.prog Tab 175 [pair (cn p.1) (cn p.2),q3p p.1 p.2] (bool true):=by
 have hp1:=h.1
 have hp2:=h.2
 refine Za Tryz.func175 rfl rfl Tryz.ntmps175 rfl (by kernel_rfl) rfl rfl ?_
 refine Zpr (p:=p.1) (q:=p.2) (by omega) (by omega) ?_
 refine Za7 ⟨rfl,rfl⟩ ?_
 refine⟨by kernel_rfl,?_⟩
 refine Eq.trans (b:=bool true) ?_ rfl
 rfl
theorem ZrB (l:List (Rat×Rat)) (hl:∀ p,p∈l→qs p.1≤8589934592∧qs p.2≤8589934592) (hn:l.length≤1073741824):Spec Tryz.prog Tab 174 [.val (.one (.d (.list (List.map rvP l)))),.val (.one (.d (.list (List.map rqP l)))),fv 175] (bool true):=by
 have hL1:(List.map rvP l).length=l.length:=List.length_map ..
 have hL2:(List.map rqP l).length=l.length:=List.length_map ..
 refine Za Tryz.func174 rfl rfl Tryz.ntmps174 rfl (by kernel_rfl) rfl rfl ?_
 refine⟨fun e1=> ?_,fun e1=> ?_⟩
 ·have f14:((List.map rvP l).length:Int)≠((List.map rqP l).length:Int):=Zv e1
  exfalso
  exact f14 (by rw [hL1,hL2])
 ·have f14:¬ (((List.map rvP l).length:Int)≠((List.map rqP l).length:Int)):=fun hh=>hh (Zw e1)
  refine⟨Nat,fun i=> [(1,.val (.one (.d (.list (List.map rqP l))))),(2,fv 175),(15,.val (.one (.d (.list (List.map rvP l))))),(16,int ((List.map rvP l).length:Int)),(17,int (i:Int))],
   fun i=> [],fun i=>i≤l.length,fun i=>l.length - i,0,?_,Nat.zero_le _,fun i hs=> ?_⟩
  ·constructor<;>(repeat' (first|exact rfl|exact True.intro|exact⟨_,_,rfl⟩|exact(by decide)|apply And.intro))
   all_goals first|exact congrArg (fun n:Int=>D.v (.int .i64 n)) (by omega)|exact congrArg (fun n:Int=>D.v (.int .i64 n)) (by rw [wrap64 _ (by omega) (by omega)];omega)|(simp;done)
  refine⟨fun e2=> ?_,fun e2=> ?_⟩
  ·have f18:(i:Int)< ((List.map rvP l).length:Int):=of_decide_eq_true e2
   refine Zc (l:=l) (i:=i) (by first|omega|exact Nat.mod_lt _ (by omega)) fun x20 hx20=> ?_
   have hwx20:=hl x20 (List.mem_of_getElem? hx20)
   refine k_ix i [D.v (.bool (cn x20.1).s),D.v (.string (cn x20.1).a),D.v (.string (cn x20.1).d),D.v (.bool (cn x20.2).s),D.v (.string (cn x20.2).a),D.v (.string (cn x20.2).d)] (by first|rfl|omega|(rw [wrap64 _ (by omega) (by omega)];omega)) (Zb hx20) rfl ?_
   refine k_ix i [D.v (.bool (decide (x20.1.num< 0))),D.list (W (w32 x20.1.num.natAbs)),D.list (W (w32 x20.1.den)),D.v (.bool (decide (x20.2.num< 0))),D.list (W (w32 x20.2.num.natAbs)),D.list (W (w32 x20.2.den))] (by first|rfl|omega|(rw [wrap64 _ (by omega) (by omega)];omega)) (Zb hx20) rfl ?_
   refine use (ZrC x20 hwx20) rfl ?_
   refine⟨fun e=>absurd e (by decide),fun _=> ?_⟩
   refine⟨i+1,by omega,by simp only;omega,?_⟩
   constructor<;>(repeat' (first|exact rfl|exact True.intro|apply And.intro))
   all_goals first
    |exact congrArg (fun n:Int=>D.v (.int .i64 n)) (by rw [wrap64 _ (by omega) (by omega)];omega)
    |exact congrArg (fun n:Int=>D.v (.int .i64 n)) (by omega)
  ·have f18:¬ ((i:Int)< ((List.map rvP l).length:Int)):=of_decide_eq_false e2
   refine Eq.trans (b:=bool true) ?_ rfl
   rfl
theorem points_spec (l:List (Rat×Rat)) (hl:∀ p,p∈l→qs p.1≤8589934592∧qs p.2≤8589934592) (hn:l.length≤1073741824):Spec Tryz.prog Tab 83 [.val (.one (.d (.list (List.map rvP l)))),.val (.one (.d (.list (List.map rqP l))))] (bool true):=by
 refine Za Tryz.func83 rfl rfl Tryz.ntmps83 rfl (by kernel_rfl) rfl rfl ?_
 refine use (ZrB l hl hn) rfl ?_
 refine Eq.trans (b:=bool true) ?_ rfl
 rfl
end
end Go.Proofs.YtpfemjpgbpnpkaaGreatDoor.eng
