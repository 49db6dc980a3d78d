/- Joined by wip/bundle.py: XSmo0 XSmo1. -/
import Derived.Test.YtjlhknppkodilaaGreatDoorGrp4
import Derived.Test.YtjlhknppkodilaaGreatDoorGrpTm
namespace Go.Proofs.YtjlhknppkodilaaGreatDoor.smo
open Go.Proofs.YtjlhknppkodilaaGreatDoor.eng Go.RowKit num mem seg q held ratA ratB ratC ratD ratE vars ratF trq natC
def grid (t:Int) (n:Nat) (w:Nat→List Rat):List (Int×List Rat):=(List.range (n+1)).map fun (j:Nat)=>(t+(j:Int),w j)
section
variable {t : Int} {n : Nat} {w w' : Nat → List Rat}
theorem Zfg:(grid t n w).length=n+1:=by simp [grid]
theorem ZaN:(List.map keyC (grid t n w)).length=n+1:=by rw [List.length_map,Zfg]
theorem Zfh {j:Nat} (h:j≤n):(grid t n w)[j]? =some (t+(j:Int),w j):=by simp [grid,Nat.lt_succ_of_le h]
theorem ZdN (h:∀ j,j≤n→w j=w' j):grid t n w=grid t n w':=by
 unfold grid
 refine List.map_congr_left fun j hj=> ?_
 rw [h j (Nat.le_of_lt_succ (List.mem_range.1 hj))]
theorem Zlt:grid t n w++ [(t+((n+1:Nat):Int),w (n+1))]=grid t (n+1) w:=by
 unfold grid
 rw [List.range_succ (n:=n+1),List.map_append];rfl
theorem ZT {j:Nat} (h:j≤n):contAt (List.map keyC (grid t n w)) 1 none j=some (List.map rdc (w j)):=by
 simp only [contAt,List.getElem?_map,Zfh h,Option.map_some,Option.bind_some]
 rfl
theorem Zik {j:Nat} (f:List D→List D) (h:∀ k,k≤n→keyC (t+(k:Int),w' k)=if k=j then f (keyC (t+(k:Int),w k)) else keyC (t+(k:Int),w k)):
  (List.map keyC (grid t n w)).modify j f=List.map keyC (grid t n w'):=by
 refine List.ext_getElem? fun k=> ?_
 rw [List.getElem?_modify]
 by_cases hk:k≤n
 ·rw [List.getElem?_map,List.getElem?_map,Zfh hk,Zfh hk,Option.map_some,Option.map_some,h k hk]
  by_cases e:j=k
  ·subst e;simp
  ·simp [e,Ne.symm e]
 ·have h1:(List.map keyC (grid t n w))[k]? =none:=List.getElem?_eq_none (by rw [ZaN];omega)
  have h2:(List.map keyC (grid t n w'))[k]? =none:=List.getElem?_eq_none (by rw [ZaN];omega)
  rw [h1,h2];simp
theorem Zij {j i:Nat} {q:Rat} (hw:∀ k,k≤n→w' k=if k=j then (w k).set i q else w k):
  (List.map keyC (grid t n w)).modify j (fun r=>r.set 1 (.list ((List.map rdc (w j)).set i (rdc q))))=List.map keyC (grid t n w'):=by
 refine Zik _ fun k hk=> ?_
 rw [hw k hk]
 by_cases e:k=j
 ·subst e
  rw [if_pos rfl,if_pos rfl,← List.map_set];rfl
 ·rw [if_neg e,if_neg e]
theorem Zfi {j:Nat} {q:Rat} (hw:∀ k,k≤n→w' k=if k=j then w k++ [q] else w k):
  (List.map keyC (grid t n w)).modify j (fun r=>r.set 1 (.list (List.map rdc (w j)++ [rdc q])))=List.map keyC (grid t n w'):=by
 refine Zik _ fun k hk=> ?_
 rw [hw k hk]
 by_cases e:k=j
 ·subst e
  rw [if_pos rfl,if_pos rfl,show List.map rdc (w k)++ [rdc q]=List.map rdc (w k++ [q]) by rw [List.map_append];rfl];rfl
 ·rw [if_neg e,if_neg e]
end
def gridT (t:Int) (n k:Nat):List (Int×List Rat):=(List.range (n+1)).map fun (j:Nat)=>(if j< k then t+(j:Int) else 0, [])
section
variable {t : Int} {n k : Nat}
theorem Zgk:(List.map keyC (gridT t n k)).length=n+1:=by simp [gridT]
theorem ZoD:List.replicate (n+1) [D.v (.int .i64 0),D.list []]=List.map keyC (gridT t n 0):=by
 refine List.ext_getElem? fun j=> ?_
 rw [List.getElem?_replicate]
 by_cases h:j< n+1
 ·simp [gridT,h,keyC]
 ·simp [gridT,h]
theorem Zlu {x:Int} (hx:x=t+(k:Int)):(List.map keyC (gridT t n k)).modify k (fun r=>repl r 0 [D.v (.int .i64 x)])=List.map keyC (gridT t n (k+1)):=by
 subst hx
 refine List.ext_getElem? fun j=> ?_
 rw [List.getElem?_modify]
 by_cases h:j< n+1
 ·by_cases e:k=j
  ·subst e;simp [gridT,h,keyC,repl]
  ·by_cases g:j< k
   ·simp [gridT,h,keyC,e,g,Nat.lt_succ_of_lt g]
   ·simp [gridT,h,keyC,e,g,show ¬ j< k+1 by omega]
 ·simp [gridT,h]
theorem ZoC (w:Nat→List Rat) (h:∀ j,j≤n→w j= []):gridT t n (n+1)=grid t n w:=by
 unfold gridT grid
 refine List.map_congr_left fun j hj=> ?_
 have:=List.mem_range.1 hj
 rw [if_pos this,h j (by omega)]
end
section
variable {v : Nat → Nat → Rat} {l i k j n : Nat}
def rowM (v:Nat→Nat→Rat) (l i k j:Nat):List Rat:=(List.range l).map fun p=>if p< i∨(p=i∧j≤k) then v p j else v p 0
theorem Zai:(rowM v l i k j).length=l:=by simp [rowM]
theorem Zkr (h:i< l):(rowM v l i k k)[i]? =some (v i k):=by simp [rowM,h]
theorem ZhZ (h:i< l):∀ p,p≤n→rowM v l i (k+1) p=if p=k+1 then (rowM v l i k p).set i (v i (k+1)) else rowM v l i k p:=by
 intro p _
 by_cases e:p=k+1
 ·subst e
  rw [if_pos rfl]
  refine List.ext_getElem? fun m=> ?_
  rw [List.getElem?_set,Zai]
  by_cases hm:m< l
  ·by_cases em:i=m
   ·subst em;simp [rowM,hm]
   ·simp [rowM,hm,em,Ne.symm em]
  ·rw [List.getElem?_eq_none (by rw [Zai];omega),List.getElem?_eq_none (by rw [Zai];omega)]
   simp;omega
 ·rw [if_neg e]
  refine List.map_congr_left fun m _=> ?_
  have:(m< i∨(m=i∧p≤k+1))↔(m< i∨(m=i∧p≤k)):=by omega
  simp only [this]
theorem Zkq (h:j≤n):rowM v l i n j=rowM v l (i+1) 0 j:=by
 refine List.map_congr_left fun m _=> ?_
 by_cases h1:m< i+1
 ·rw [if_pos (by omega),if_pos (by omega)]
 ·by_cases h2:m=i+1∧j≤0
  ·rw [if_neg (by omega),if_pos (.inr h2)]
   obtain rfl:j=0:=by omega
   rfl
  ·rw [if_neg (by omega),if_neg (by omega)]
theorem Zpc:rowM v l 0 0 j=(List.range l).map fun p=>v p 0:=by
 refine List.map_congr_left fun m _=> ?_
 by_cases h:m< 0∨(m=0∧j≤0)
 ·rw [if_pos h]
  obtain rfl:j=0:=by omega
  rfl
 ·rw [if_neg h]
theorem ZmE:rowM v l l 0 j=(List.range l).map fun p=>v p j:=by
 refine List.map_congr_left fun m hm=> ?_
 rw [if_pos (.inl (List.mem_range.1 hm))]
def rowR (v:Nat→Nat→Rat) (i k j:Nat):List Rat:=(List.range (if j< k then i+1 else i)).map fun p=>v p j
theorem ZmB:(rowR v i k k).length=i:=by simp [rowR]
theorem ZeW:∀ p,p≤n→rowR v i (k+1) p=if p=k then rowR v i k p++ [v i k] else rowR v i k p:=by
 intro p _
 by_cases e:p=k
 ·subst e
  rw [if_pos rfl]
  simp [rowR,List.range_succ]
 ·rw [if_neg e]
  by_cases g:p< k
  ·simp [rowR,g,Nat.lt_succ_of_lt g]
  ·simp [rowR,g,show ¬ p< k+1 by omega]
theorem Zkp (h:j≤n):rowR v i (n+1) j=rowR v (i+1) 0 j:=by simp [rowR,Nat.lt_succ_of_le h]
theorem Zpb:rowR v 0 0 j= []:=by simp [rowR]
theorem ZmC:rowR v l 0 j=(List.range l).map fun p=>v p j:=by simp [rowR]
end
section
variable {f s a : Rat} {n : Nat}
theorem Zno (s a:Rat) (n:Nat) (hn:n≤50):∀ k,∃ c d:Nat,c≤50∧d≤2500∧sumL ((capsL s a n).take k)=s*(c:Rat)+a*(d:Rat):=by
 have key:∀ k,k≤n→∃ c d:Nat,c≤k∧d≤50*k∧sumL ((capsL s a n).take k)=s*(c:Rat)+a*(d:Rat):=by
  intro k
  induction k with
  |zero=>intro _;exact⟨0,0,Nat.le_refl _,Nat.le_refl _,by simp [sumL];exact(Rat.add_zero 0).symm⟩
  |succ k ih=>
   intro hk
   obtain⟨c,d,h1,h2,h3⟩:=ih (by omega)
   rw [ZaF (ZbO (by omega)),h3]
   unfold capQ minQ
   split
   ·refine⟨c+1,d,by omega,by omega,?_⟩
    have:((c+1:Nat):Rat)=(c:Rat)+1:=by simp
    rw [this];grind
   ·obtain⟨m,hm,hm2⟩:∃ m:Nat,(min ((k+1:Nat):Int) ((n:Int)+1 - ((k+1:Nat):Int)):Int)=(m:Int)∧m≤50:=⟨(min ((k+1:Nat):Int) ((n:Int)+1 - ((k+1:Nat):Int))).toNat,by omega,by omega⟩
    rw [hm]
    refine⟨c,d+m,by omega,by omega,?_⟩
    have:((d+m:Nat):Rat)=(d:Rat)+(m:Rat):=by simp
    have e:(((m:Int):Rat))=(m:Rat):=rfl
    rw [this,e];grind
 intro k
 by_cases hk:k≤n
 ·obtain⟨c,d,h1,h2,h3⟩:=key k hk
  exact⟨c,d,by omega,by omega,h3⟩
 ·rw [List.take_of_length_le (by rw [Zw];omega)]
  obtain⟨c,d,h1,h2,h3⟩:=key n (Nat.le_refl _)
  rw [List.take_of_length_le (by rw [Zw];omega)] at h3
  exact⟨c,d,by omega,by omega,h3⟩
theorem Zcf (hn:n≤50) (k:Nat):qs (sumL ((capsL s a n).take k))≤qs s+qs a+5:=by
 obtain⟨c,d,h1,h2,h3⟩:=Zno s a n hn k
 rw [h3]
 have e1:=Zek (s*(c:Rat)) (a*(d:Rat))
 have e2:=Zbo s (c:Rat)
 have e3:=Zbo a (d:Rat)
 have e4:qs (c:Rat)≤2:=by
  have:=ZkD (n:=(c:Int)) (k:=2) (by omega) (by omega)
  exact this
 have e5:qs (d:Rat)≤2:=by
  have:=ZkD (n:=(d:Int)) (k:=2) (by omega) (by omega)
  exact this
 omega
theorem Zj0 (s a:Rat) (n:Nat):sumL (capsL s a n)=sumL ((capsL s a n).take n):=by rw [List.take_of_length_le (by rw [Zw];omega)]
theorem ZpP (f s a:Rat) (n:Nat):∀ k,sumL ((chL f s a n).take k)=f / sumL (capsL s a n)*sumL ((capsL s a n).take k):=by
 intro k
 induction k with
 |zero=>simp [sumL]
 |succ k ih=>
  by_cases hk:k< n
  ·rw [ZaF (ZnZ hk),ZaF (ZbO hk),ih];grind
  ·rw [List.take_of_length_le (by rw [Zbl];omega)] at ih ⊢
   rw [List.take_of_length_le (by rw [Zw];omega)] at ih ⊢
   exact ih
theorem ZlX (hn:n≤50) (k:Nat):qs (sumL ((chL f s a n).take k))≤qs f+2*(qs s+qs a)+11:=by
 rw [ZpP,Zj0]
 have h1:=Zcf (s:=s) (a:=a) hn k
 have h2:=Zcf (s:=s) (a:=a) hn n
 have h3:=Zh3 f (sumL ((capsL s a n).take n))
 have h4:=Zbo (f / sumL ((capsL s a n).take n)) (sumL ((capsL s a n).take k))
 omega
theorem Zqd (hn:n≤50) {q:Rat} (hq:q∈chL f s a n):qs q≤qs f+2*(qs s+qs a)+14:=by
 obtain⟨c,hc,rfl⟩:=List.mem_map.1 hq
 rw [Zj0]
 have h1:=ZdV s a n hn c hc
 have h2:=Zcf (s:=s) (a:=a) hn n
 have h3:=Zh3 f (sumL ((capsL s a n).take n))
 have h4:=Zbo (f / sumL ((capsL s a n).take n)) c
 omega
end
end Go.Proofs.YtjlhknppkodilaaGreatDoor.smo
namespace Go.Proofs.YtjlhknppkodilaaGreatDoor.smo
open Go.Proofs.YtjlhknppkodilaaGreatDoor.eng Go.RowKit num mem seg q held ratA ratB ratC ratD ratE vars ratF trq natC
def dQ (f g:List RV) (i:Nat):Rat:=absV (qAt g i - qAt f i)
def pE (A:ArmV) (f g c:List RV) (i:Nat):Int:=profE (dQ f g i) (spdAt A i) (qAt c i) 0
def pL (A:ArmV) (f g c:List RV) (i:Nat):List Rat:=profL (dQ f g i) (spdAt A i) (qAt c i) 0
def nN (A:ArmV) (f g c:List RV):Nat→Nat
 |0=>1
 |i+1=>max (nN A f g c i) (pL A f g c i).length
def pM (A:ArmV) (f g c:List RV) (n i:Nat):List Rat:=profL (dQ f g i) (spdAt A i) (qAt c i) (n:Int)
def vA (A:ArmV) (f g c:List RV) (n i k:Nat):Rat:=if qAt g i< qAt f i then qAt f i - sumL ((pM A f g c n i).take k) else qAt f i+sumL ((pM A f g c n i).take k)
def nT (A:ArmV) (f g c:List RV):Nat:=nN A f g c A.links.length
noncomputable def sgB (A:ArmV) (f g c:List RV) (t:Int):Int:=if fitsE A f=0 then (if fitsE A g=0 then (if c.length≠f.length∨t< 0∨2000< t then 1 else 0) else fitsE A g) else fitsE A f
noncomputable def smE (A:ArmV) (f g c:List RV) (t:Int):Int:=if sgB A f g c t=0 then (if firstE (pE A f g c) A.links.length=0 then (if 2000< t+(nT A f g c:Int) then 19 else 0) else firstE (pE A f g c) A.links.length) else sgB A f g c t
def smL (A:ArmV) (f g c:List RV) (t:Int):List (Int×List Rat):=grid t (nT A f g c) fun j=>(List.range A.links.length).map fun i=>vA A f g c (nT A f g c) i j
noncomputable def smV (A:ArmV) (f g c:List RV) (t:Int):List (Int×List Rat):=if smE A f g c t=0 then smL A f g c t else []
section
variable {A : ArmV} {f g c : List RV} {t : Int} {i n : Nat}
theorem Zof (h:¬ fitsE A f=0):sgB A f g c t=fitsE A f:=if_neg h
theorem Zo6 (h:fitsE A f=0) (k:¬ fitsE A g=0):sgB A f g c t=fitsE A g:=by unfold sgB;rw [if_pos h,if_neg k]
theorem ZiZ (h:fitsE A f=0) (k:fitsE A g=0) (b:c.length≠f.length∨t< 0∨2000< t):sgB A f g c t=1:=by unfold sgB;rw [if_pos h,if_pos k,if_pos b]
theorem Zog (h:fitsE A f=0) (k:fitsE A g=0) (b:¬ (c.length≠f.length∨t< 0∨2000< t)):sgB A f g c t=0:=by unfold sgB;rw [if_pos h,if_pos k,if_neg b]
theorem Zdx (h:¬ sgB A f g c t=0):smE A f g c t=sgB A f g c t:=if_neg h
theorem ZnC (h:sgB A f g c t=0) (hb:∀ j,j< i→pE A f g c j=0) (k:¬ pE A f g c i=0) (hi:i< A.links.length):smE A f g c t=pE A f g c i:=by
 unfold smE;rw [if_pos h,Zgl hb k hi,if_neg k]
theorem ZhS (h:sgB A f g c t=0) (hb:∀ j,j< A.links.length→pE A f g c j=0) (k:2000< t+(nT A f g c:Int)):smE A f g c t=19:=by
 unfold smE;rw [if_pos h,Zdk hb,if_pos rfl,if_pos k]
theorem Zod (h:sgB A f g c t=0) (hb:∀ j,j< A.links.length→pE A f g c j=0) (k:¬ 2000< t+(nT A f g c:Int)):smE A f g c t=0:=by
 unfold smE;rw [if_pos h,Zdk hb,if_pos rfl,if_neg k]
theorem ZaE (h:¬ smE A f g c t=0):smV A f g c t= []:=if_neg h
theorem ZhR (h:smE A f g c t=0):smV A f g c t=smL A f g c t:=if_pos h
theorem p_ok {f s a:Rat} (h:profE f s a 0=0):¬ (f< 0∨s≤0∨a≤0)∧needN s a f≤50∧(profL f s a 0).length=needN s a f:=by
 have hL:profL f s a 0=chL f s a (profN f s a 0):=by unfold profL chL;rw [h,if_pos rfl]
 have h1:profN f s a 0=needN s a f:=by unfold profN;simp
 unfold profE at h
 split at h
 ·omega
 ·rename_i h2
  split at h
  ·omega
  ·rename_i h3
   refine⟨fun h4=>h2 (by rcases h4 with h4|h4|h4<;>simp [h4]),by omega,by rw [hL,Zbl,h1]⟩
theorem Zp2 (f s a:Rat):(profL f s a 0).length≤50:=by
 by_cases h:profE f s a 0=0
 ·obtain⟨_,h1,h2⟩:=p_ok h;omega
 ·unfold profL;rw [if_neg h];exact Nat.zero_le _
theorem ZnI:∀ i,1≤nN A f g c i∧nN A f g c i≤50
 |0=>⟨Nat.le_refl _,by show 1≤50;omega⟩
 |i+1=>by
  have h1:=ZnI i
  have h2:(pL A f g c i).length≤50:=Zp2 _ _ _
  show 1≤max _ _∧max _ _≤50
  omega
theorem ZkZ (i:Nat):∀ {j},i≤j→nN A f g c i≤nN A f g c j
 |0,h=>by
   obtain rfl:i=0:=by omega
   exact Nat.le_refl _
 |j+1,h=>by
  by_cases e:i=j+1
  ·subst e;exact Nat.le_refl _
  ·exact Nat.le_trans (ZkZ i (by omega)) (Nat.le_max_left ..)
theorem Zen:1≤nT A f g c∧nT A f g c≤50:=ZnI _
theorem ZkL (hi:i< A.links.length) (h:pE A f g c i=0):profE (dQ f g i) (spdAt A i) (qAt c i) (nT A f g c:Int)=0∧pM A f g c (nT A f g c) i=chL (dQ f g i) (spdAt A i) (qAt c i) (nT A f g c):=by
 obtain⟨h1,h2,h3⟩:=p_ok h
 have h4:=Zen (A:=A) (f:=f) (g:=g) (c:=c)
 have h5:needN (spdAt A i) (qAt c i) (dQ f g i)≤nT A f g c:=by
  have e:nN A f g c (i+1)=max (nN A f g c i) (pL A f g c i).length:=rfl
  have h6:=ZkZ (A:=A) (f:=f) (g:=g) (c:=c) (i+1) (j:=A.links.length) hi
  have h7:(pL A f g c i).length=_:=h3
  show _≤nN A f g c A.links.length
  omega
 have hE:profE (dQ f g i) (spdAt A i) (qAt c i) (nT A f g c:Int)=0:=by
  refine ZcL (fun h6=> ?_) (by omega)
  rcases h6 with h6|h6|h6|h6|h6
  ·exact h1 (.inl h6)
  ·exact h1 (.inr (.inl h6))
  ·exact h1 (.inr (.inr h6))
  ·omega
  ·omega
 refine⟨hE,?_⟩
 have hN:profN (dQ f g i) (spdAt A i) (qAt c i) (nT A f g c:Int)=nT A f g c:=by unfold profN;omega
 show profL _ _ _ _=_
 unfold profL chL
 rw [hE,if_pos rfl,hN]
theorem ZnF (hi:i< A.links.length) (h:pE A f g c i=0):(pM A f g c (nT A f g c) i).length=nT A f g c:=by rw [(ZkL hi h).2,Zbl]
theorem vA_0 (n i:Nat):vA A f g c n i 0=qAt f i:=by
 have e:sumL ([]:List Rat)=0:=rfl
 unfold vA
 rw [List.take_zero,e]
 split<;>grind
theorem ZeI {k:Nat} {p:Rat} (h:(pM A f g c n i)[k]? =some p):vA A f g c n i (k+1)=if qAt g i< qAt f i then vA A f g c n i k - p else vA A f g c n i k+p:=by
 unfold vA
 rw [ZaF h]
 split<;>grind
theorem Zn3 {B C S:Nat} (hi:i< A.links.length) (h:pE A f g c i=0) (h1:qs (qAt f i)≤B) (h2:qs (dQ f g i)≤C) (h3:qs (spdAt A i)+qs (qAt c i)≤S) (k:Nat):qs (vA A f g c (nT A f g c) i k)≤B+C+2*S+12:=by
 have h4:=Zen (A:=A) (f:=f) (g:=g) (c:=c)
 have h5:=ZlX (f:=dQ f g i) (s:=spdAt A i) (a:=qAt c i) h4.2 k
 unfold vA
 rw [(ZkL hi h).2]
 split
 ·have:=Zcq (qAt f i) (sumL ((chL (dQ f g i) (spdAt A i) (qAt c i) (nT A f g c)).take k));omega
 ·have:=Zek (qAt f i) (sumL ((chL (dQ f g i) (spdAt A i) (qAt c i) (nT A f g c)).take k));omega
theorem Zon {C S:Nat} (hi:i< A.links.length) (h:pE A f g c i=0) (h2:qs (dQ f g i)≤C) (h3:qs (spdAt A i)+qs (qAt c i)≤S) {p:Rat} (hp:p∈pM A f g c (nT A f g c) i):qs p≤C+2*S+14:=by
 rw [(ZkL hi h).2] at hp
 have:=Zqd (Zen (A:=A) (f:=f) (g:=g) (c:=c)).2 hp
 omega
theorem ZpF (n:Nat) (h:f.length=A.links.length):gdL f=(List.range A.links.length).map fun i=>vA A f g c n i 0:=by
 refine List.ext_getElem? fun j=> ?_
 unfold gdL
 rw [List.getElem?_map,List.getElem?_map]
 by_cases hj:j< A.links.length
 ·rw [List.getElem?_range hj,List.getElem?_eq_getElem (by omega)]
  simp only [Option.map_some,vA_0]
  rw [ZD (List.getElem?_eq_getElem (by omega))]
 ·rw [List.getElem?_eq_none (by omega),List.getElem?_eq_none (by simp;omega)];rfl
theorem Zo5:(smV A f g c t).length≤1048576∧∀ x,x∈smV A f g c t→x.2.length≤1048576:=by
 by_cases h:smE A f g c t=0
 ·have hB:sgB A f g c t=0:=Classical.byContradiction fun k=>by rw [Zdx k] at h;exact k h
  have hf:fitsE A f=0:=Classical.byContradiction fun k=>by rw [Zof k] at hB;exact k hB
  have h3:=(Zfq (Zbk hf).2).1
  have h4:=Zen (A:=A) (f:=f) (g:=g) (c:=c)
  rw [ZhR h]
  unfold smL
  refine⟨by rw [Zfg];omega,fun x hx=> ?_⟩
  obtain⟨j,_,rfl⟩:=List.mem_map.1 hx
  show (List.map _ (List.range A.links.length)).length≤_
  rw [List.length_map,List.length_range];omega
 ·rw [ZaE h];exact⟨Nat.zero_le _,fun x hx=>by simp at hx⟩
end
end Go.Proofs.YtjlhknppkodilaaGreatDoor.smo
