/- No program: the library's slices.SortFunc, of rows of structs, as a contract of the engine: the row's entries are sorted in their place. -/
import Derived.Test.YtncoimmjjfmhdaaGreatDoorEng
import Derived.Test.YtncoimmjjfmhdaaGreatDoorDrawn
import Derived.Shelf.SlSortCmp.NoneTotal
namespace Go.Proofs.YtncoimmjjfmhdaaGreatDoor.eng
open Go.RowKit Go.Shelf Go.Sort mem
section
variable {α : Type} [Inhabited α] {enc : α → List Value} {k : Nat}
theorem Zbk (w:World) (b off n:Nat) (d:Array α) (os:Array Obj) {i:Nat} (hi:i< w.heap.size):(sortWorldK enc k w b off n d os).heap[i]? =if b=i then (w.heap[i]?).map (onCells (putCells id off (flatK enc k d))) else w.heap[i]? :=by
 unfold sortWorldK grow putRowK putRow mapBlock
 simp only [heap_ahead]
 rw [Array.getElem?_append_left (by simpa using hi),Array.getElem?_modify]
theorem ZbE (w:World) (b off n:Nat) (d:Array α) (os:Array Obj) {K:Nat→Prop} (hK:∀ i,K i→i< w.heap.size∧i≠b):Bel K w (sortWorldK enc k w b off n d os):=by
 refine⟨rfl,rfl,rfl,?_,fun i hi=> ?_⟩
 ·unfold sortWorldK grow putRowK putRow mapBlock
  simp only [heap_ahead,Array.size_append,Array.size_modify]
  omega
 ·obtain⟨h1,h2⟩:=hK i hi
  rw [Zbk w b off n d os h1,if_neg (fun e=>h2 e.symm)]
theorem ZhL {d:Array α} (hk:∀ x,(enc x).length=k) {i j:Nat} {x:α} {v:Value} (hi:d.toList[i]? =some x) (hj:(enc x)[j]? =some v):(flatK enc k d).toList[i*k+j]? =some v:=by
 have h1:i< d.size:=by have:=(List.getElem?_eq_some_iff.1 hi).1;simpa using this
 have h2:j< k:=by rw [← hk x];exact(List.getElem?_eq_some_iff.1 hj).1
 have h3:i*k+j< d.size*k:=by
  have:(i+1)*k≤d.size*k:=Nat.mul_le_mul_right _ h1
  rw [Nat.add_mul,Nat.one_mul] at this;omega
 have e1:(i*k+j) / k=i:=by rw [Nat.mul_comm,Nat.mul_add_div (by omega),Nat.div_eq_of_lt h2];omega
 have e2:(i*k+j) % k=j:=by rw [Nat.mul_comm,Nat.mul_add_mod,Nat.mod_eq_of_lt h2]
 have e3:d[i]! =x:=by
  rw [getElem!_pos d i h1]
  have:=(List.getElem?_eq_some_iff.1 hi).2
  simpa using this
 rw [Array.getElem?_toList]
 unfold flatK
 rw [Array.getElem?_map,Array.getElem?_range,if_pos h3]
 simp only [Option.map_some,e1,e2,e3]
 rw [List.getElem!_eq_getElem?_getD,hj];rfl
theorem Zjv {P:Program} {ρ:Ren} {G:World→Prop} (L:SlLaysF0.n6 P ρ) (aE:∀ w,(isAgg (ρ.t 24)).run P w= .ok true w) (zE:∀ w,(Go.sizeOf (ρ.t 24)).run P w= .ok k w) (hk:∀ x,(enc x).length=k) (hk0:0< k)
  (hf:∀ x,∀ v,v∈enc x→flat v=true) (cf:α→α→Int) (hO:SWO (ltOf cf)) (g:Nat) (eg:Enters P g)
  (hcmp:∀ x y w,G w→Calls P g #[.agg (enc x).toArray,.agg (enc y).toArray] w fun e w'=>e= .returned (.int .i64 (cf x y))∧Below w.heap.size w w')
  (T:Nat) (l:List α) (hl:l.length≤1099511627776):
  SpecS P G (ρ.f 6) [.val (.one (.row 1000 0)),.val (.one (.d (.v (.func (.func g) #[] #[]))))] T k (l.map fun x=>(enc x).map D.v) (.tup [])
   ((pdq (ltOf cf) l.toArray 0 l.length (Lib.bitLen l.length) true true).toList.map fun x=>(enc x).map D.v):=by
 have hps:=pdq_sorts (ltOf cf) hO l.toArray 0 l.length (Lib.bitLen l.length) true true (Nat.zero_le _) (by simp) (Or.inl rfl)
 generalize hd':pdq (ltOf cf) l.toArray 0 l.length (Lib.bitLen l.length) true true=d' at hps
 have hsz:d'.size=l.length:=by have:=hps.1.1;simpa using this
 refine⟨fun args w=>L.f6.enters rfl args w,fun w I vs x hG hI hob hrel=> ?_⟩
 obtain⟨fv,rfl,hfv⟩:∃ fv,vs= [x,fv]∧fv= .func (.func g) #[] #[]:=by
  obtain⟨h1,h2⟩:=hrel
  match vs,h1 with
  | [y,z],_=>
   have hy:=h2 0 _ y rfl rfl
   have hz:=h2 1 _ z rfl rfl
   have e1:y=x:=hy.2 T k (l.map fun x=>(enc x).map D.v) true rfl
   exact⟨z,by rw [e1],Ze hz⟩
 subst hfv
 obtain⟨ys,hown,hn0,hyl,hxl,hdd⟩:=hob
 rw [List.length_map] at hown hyl
 have hrows:∀ r,r∈(d'.toList.map fun x=>(enc x).map D.v)→r.length=k:=fun r hr=>by
  obtain⟨a,_,rfl⟩:=List.mem_map.1 hr
  rw [List.length_map,hk]
 have hlen':(d'.toList.map fun x=>(enc x).map D.v).length=l.length:=by rw [List.length_map,Array.length_toList,hsz]
 rcases hown.2 with ⟨e1,e2⟩|⟨b,cap,cur,e1,e2,e3,e4,e5,e6,e7⟩
 ·subst e1
  have hl0:l= []:=List.eq_nil_of_length_eq_zero e2
  have hd0:d'.toList= []:=List.eq_nil_of_length_eq_zero (by rw [Array.length_toList,hsz,e2])
  refine(AnyF.slices_SortFunc_none L none 0 _ w).mono fun e w' ⟨h1,h2⟩=>⟨_,h1,⟨[],rfl,rfl,fun j s y hs=>by simp at hs⟩,?_,by rw [h2];exact Bel.refl _ _⟩
  rw [h2,hd0]
  exact⟨[],ZaD _ w _ _,hn0,by simp,fun r hr=>by simp at hr,fun i j r d hi=>by simp at hi⟩
 ·subst e1
  have hblk:b< w.heap.size:=(Array.getElem?_eq_some_iff.1 e3).1
  have hcs:cur.size=cap*k:=e6
  have hcap:l.length*k≤cap*k:=Nat.mul_le_mul_right _ e4
  have hcur:∀ i j (a:α) (v:Value),l[i]? =some a→(enc a)[j]? =some v→cur.toList[i*k+j]? =some v:=by
   intro i j a v hi hj
   obtain⟨y,hy,hd⟩:=hdd i j ((enc a).map D.v) (.v v) (by rw [List.getElem?_map,hi];rfl) (by rw [List.getElem?_map,hj];rfl)
   have e:y=v:=by cases hd;rfl
   subst e
   rw [← e7] at hy
   have hlt:i*k+j< l.length*k:=by
    have:=(List.getElem?_eq_some_iff.1 hy).1
    rw [List.length_take] at this;omega
   rwa [List.getElem?_take_of_lt hlt] at hy
  have hH:HoldsK enc k w b 0 l.toArray:=by
   intro t ht
   rw [size_flatK] at ht
   have ht':t< l.length*k:=by simpa using ht
   have hi:t / k< l.length:=Nat.div_lt_of_lt_mul (by rw [Nat.mul_comm];exact ht')
   have hj:t % k< k:=Nat.mod_lt _ hk0
   have ei:=List.getElem?_eq_getElem hi
   have ej:(enc l[t / k])[t % k]? =some ((enc l[t / k])[t % k]'(by rw [hk];exact hj)):=List.getElem?_eq_getElem _
   have h1:=hcur (t / k) (t % k) _ _ ei ej
   have h2:=ZhL (d:=l.toArray) (i:=t / k) hk (show l.toArray.toList[t / k]? =some _ from ei) ej
   have et:t / k*k+t % k=t:=by rw [Nat.mul_comm];exact Nat.div_add_mod t k
   rw [et] at h1 h2
   have h3:(flatK enc k l.toArray)[t]! =(enc l[t / k])[t % k]'(by rw [hk];exact hj):=by
    rw [Array.getElem?_toList] at h2
    have:=(Array.getElem?_eq_some_iff.1 h2)
    obtain⟨g1,g2⟩:=this
    rw [getElem!_pos _ t g1,g2]
   refine⟨?_,?_⟩
   ·unfold World.cell?
    simp only [e3,Nat.zero_add,Option.isSome_none,Bool.false_eq_true,if_false]
    rw [← Array.getElem?_toList,h1,h3];rfl
   ·unfold World.frozen?
    simp only [e3]
    simp
  have hKb:∀ i,(Base.less w (.slice (some ⟨b,0,none⟩) l.length cap)).K i→i< w.heap.size∧i≠b:=fun i hi=>⟨hi.1,fun e=>hi.2 (by rw [e];rfl)⟩
  have hC:CmpLays P g #[] enc k cf b 0 l.toArray.size w:=by
   intro m os dk hdk y z
   have hGW:=hG _ (ZbE (enc:=enc) (k:=k) w b 0 m dk os hKb)
   exact dr.calls_grow (hcmp y z _ hGW)
  have hc:=AnyQ.slices_SortFunc_eq L k aE zE enc hk (fun x v hv=>by rw [Zbf];exact hf x v hv) cf hO g #[] b 0 cap l.toArray w eg hC hH hblk (by simp;omega)
  have hsa:l.toArray.size=l.length:=by simp
  rw [hsa,hd'] at hc
  refine hc.mono fun e w' ⟨h1,n,os,h2⟩=>⟨_,h1,⟨[],rfl,rfl,fun j s y hs=>by simp at hs⟩,?_,by rw [h2];exact ZbE w b 0 n d' os hKb⟩
  have hheap:w'.heap[b]? =some (.cells (putCells id 0 (flatK enc k d') cur) T (0,0)):=by
   rw [h2,Zbk w b 0 n d' os hblk,if_pos rfl,e3];rfl
  have hfs:(flatK enc k d').size=l.length*k:=by rw [size_flatK,hsz]
  have htake:(putCells id 0 (flatK enc k d') cur).toList.take (l.length*k)=(flatK enc k d').toList:=by
   apply List.ext_getElem?
   intro t
   by_cases ht:t< l.length*k
   ·rw [List.getElem?_take_of_lt ht,Array.getElem?_toList,Array.getElem?_toList]
    have h5:t< cur.size:=by omega
    have h6:t< (flatK enc k d').size:=by omega
    unfold putCells
    rw [Array.getElem?_mapIdx,Array.getElem?_eq_getElem h5,Array.getElem?_eq_getElem h6]
    simp only [Option.map_some]
    rw [if_pos ⟨Nat.zero_le _,by rw [Nat.zero_add];exact h6⟩,Nat.sub_zero,getElem!_pos _ t h6];rfl
   ·rw [List.getElem?_eq_none (by rw [List.length_take];omega),List.getElem?_eq_none (by rw [Array.length_toList,hfs];omega)]
  refine⟨(flatK enc k d').toList,⟨by rw [hlen'];simpa using hfs,.inr ⟨b,cap,putCells id 0 (flatK enc k d') cur,by rw [hlen'],e2,hheap,by rw [hlen'];exact e4,e5,by simp [putCells,e6],by rw [hlen'];exact htake⟩⟩,hn0,by rw [hlen'];simpa using hfs,hrows,fun i j r d hi hj=> ?_⟩
  rw [List.getElem?_map] at hi
  cases ha:d'.toList[i]? with
  |none=>rw [ha] at hi;simp at hi
  |some a=>
   rw [ha] at hi
   obtain rfl:=Option.some.inj hi
   rw [List.getElem?_map] at hj
   cases hv:(enc a)[j]? with
   |none=>rw [hv] at hj;simp at hj
   |some v=>
    rw [hv] at hj
    obtain rfl:=Option.some.inj hj
    exact⟨v,ZhL hk ha hv,Den.v v (hf a v (List.mem_of_getElem? hv))⟩
theorem Zju (cf:α→α→Int) (hO:SWO (ltOf cf)) (l:List α):∃ l',l'.Perm l∧l'.Pairwise (fun x y=>¬ cf y x< 0)∧(pdq (ltOf cf) l.toArray 0 l.length (Lib.bitLen l.length) true true).toList=l':=by
 have hps:=pdq_sorts (ltOf cf) hO l.toArray 0 l.length (Lib.bitLen l.length) true true (Nat.zero_le _) (by simp) (Or.inl rfl)
 generalize pdq (ltOf cf) l.toArray 0 l.length (Lib.bitLen l.length) true true=d' at hps
 obtain⟨⟨h1,h2,h3⟩,h4⟩:=hps
 have hsz:d'.size=l.length:=by simpa using h1
 refine⟨_,?_,?_,rfl⟩
 ·have e1:d'.extract 0 l.length=d':=by rw [← hsz];simp
  have e2:l.toArray.extract 0 l.length=l.toArray:=by
   have:l.toArray.size=l.length:=by simp
   rw [← this];simp
  rw [e1,e2] at h3
  simpa using h3
 ·refine List.pairwise_iff_getElem.2 fun i j hi hj hij=> ?_
  have hi':i< d'.size:=by simpa using hi
  have hj':j< d'.size:=by simpa using hj
  have:=h4 i j (Nat.zero_le _) hij (by omega)
  rw [getElem!_pos d' i hi',getElem!_pos d' j hj'] at this
  unfold ltOf at this
  simpa using this
end
end Go.Proofs.YtncoimmjjfmhdaaGreatDoor.eng
