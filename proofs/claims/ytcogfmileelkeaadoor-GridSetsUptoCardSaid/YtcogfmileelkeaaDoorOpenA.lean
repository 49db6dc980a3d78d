/- Arguments opened: structs that hold lists, and lists of them: links, arms, keys, lists of lists. -/
import Derived.Test.YtcogfmileelkeaaDoorGrpW
import Derived.Test.YtcogfmileelkeaaDoorGrpA
namespace Go.Proofs.YtcogfmileelkeaaDoor.argopen
open Go.ChangeShapes Go.WideShapes Go.ChangeAt Go.RowKit row seg eng
section
variable {H : Type} {enc : TypeId × Value → H} {w : World} {base : Nat} {sp : Nat → Bool} {held : Bool} {I : Nat → Prop}
def RelD {α:Type} (R:α→DataW H→Prop) (l:List α) (ds:List (DataW H)):Prop:=l.length=ds.length∧∀ (i:Nat) (a:α) (d:DataW H),l[i]? =some a→ds[i]? =some d→R a d
def Cells (w:World) (I:Nat→Prop) (cs:List Value) (ds:List D):Prop:=cs.length=ds.length∧∀ (j:Nat) (y:Value) (d:D),cs[j]? =some y→ds[j]? =some d→Den w I y d
theorem Cells.nil:Cells w I [] []:=⟨rfl,fun j y d h=>by simp at h⟩
theorem Cells.cons {cs:List Value} {ds:List D} {y:Value} {d:D} (h:Cells w I cs ds) (hy:Den w I y d):Cells w I (y :: cs) (d :: ds):=by
 refine⟨by rw [List.length_cons,List.length_cons,h.1],fun j y' d' h1 h2=> ?_⟩
 cases j with
 |zero=>obtain rfl:=Option.some.inj (show some y=some y' from h1);obtain rfl:=Option.some.inj (show some d=some d' from h2);exact hy
 |succ j=>exact h.2 j y' d' (by simpa using h1) (by simpa using h2)
theorem Cells.app {cs cs':List Value} {ds ds':List D} (h:Cells w I cs ds) (h':Cells w I cs' ds'):Cells w I (cs++cs') (ds++ds'):=by
 refine⟨by simp [h.1,h'.1],fun j y d h1 h2=> ?_⟩
 by_cases hj:j< cs.length
 ·rw [List.getElem?_append_left hj] at h1
  rw [List.getElem?_append_left (by rw [← h.1];exact hj)] at h2
  exact h.2 j y d h1 h2
 ·rw [List.getElem?_append_right (by omega)] at h1
  rw [List.getElem?_append_right (by rw [← h.1];omega),← h.1] at h2
  exact h'.2 _ y d h1 h2
set_option maxRecDepth 100000 in
theorem Zgx {α:Type} [Inhabited α] {R:α→DataW H→Prop} {t e:TypeId} {n:Nat} (cD:α→List D) (hn:0< n) (hlen:∀ a,(cD a).length=n)
  (ht:Tryd.prog.underlying t=some (.slice e)) (hce:Tryd.prog.cellsOf e=n)
  (hel:∀ fuel cs x,DataW.trod enc Tryd.prog w base sp held fuel e cs=some x→∃ a,R a x.1∧Cells w I cs (cD a))
  (hI:∀ b,b< w.heap.size→I b) {fuel:Nat} {cs:List Value} {x:DataW H×List MemPlace} (h:DataW.trod enc Tryd.prog w base sp held fuel t cs=some x):
  ∃ (v:Value) (l:List α) (ds:List (DataW H)),cs= [v]∧Den w I v (.list (l.map cD))∧RelD R l ds∧((x.1= .nil∧ds= [])∨∃ rest,x.1= .slice ds rest):=by
 rcases Go.Deep.open_slice ht h with ⟨rfl,rfl⟩|⟨a,len,cap,m,n',DD,Pl,rfl,hb,hlc,hcm,hm,rfl,hx⟩
 ·exact⟨_, [], [],rfl,Den.nil none 0,⟨rfl,fun i a d h=>by simp at h⟩,.inl ⟨rfl,rfl⟩⟩
 ·have hlm:len≤m:=by rw [hm];split<;>omega
  rw [hce] at hx
  have hA:∀ i,i< len→∃ p:α×List Value,R p.1 (DD i)∧Cells w I p.2 (cD p.1)∧∀ j,j< n→w.cell? ((a.add (i*n)).add j)=p.2[j]? :=by
   intro i hi
   obtain⟨cs',g1,g2⟩:=hx i (by omega)
   obtain⟨al,g3,g4⟩:=hel _ _ _ g2
   obtain⟨_,_,g5⟩:=World.cells?_some g1
   exact⟨(al,cs'),g3,g4,g5⟩
  obtain⟨V,hV⟩:∃ V:Nat→α×List Value,∀ i,i< len→R (V i).1 (DD i)∧Cells w I (V i).2 (cD (V i).1)∧∀ j,j< n→w.cell? ((a.add (i*n)).add j)=(V i).2[j]? :=
   ⟨fun i=>if h:i< len then Classical.choose (hA i h) else (default, []),fun i hi=>by simp only [dif_pos hi];exact Classical.choose_spec (hA i hi)⟩
  let l:List α:=(List.range len).map fun i=>(V i).1
  have hl:l.length=len:=by simp [l]
  have hat:∀ i,i< len→l[i]? =some (V i).1:=fun i hi=>by simp [l,hi]
  refine⟨_,l,(List.range len).map DD,rfl,?_,⟨by simp [l],fun i al d h1 h2=> ?_⟩,.inr ⟨_,rfl⟩⟩
  rotate_left
  ·have hi:i< len:=by have:=(List.getElem?_eq_some_iff.1 h1).1;omega
   have e2:((List.range len).map DD)[i]? =some (DD i):=by simp [hi]
   rw [hat i hi] at h1;rw [e2] at h2
   obtain rfl:=Option.some.inj h1;obtain rfl:=Option.some.inj h2
   exact(hV i hi).1
  by_cases h0:len=0
  ·have:l= []:=List.eq_nil_of_length_eq_zero (by rw [hl,h0])
   rw [this,h0]
   exact Den.nil _ _
  ·obtain⟨_,g2,g3⟩:=hV 0 (by omega)
   obtain⟨y0,hy0⟩:∃ y,(V 0).2[0]? =some y:=⟨_,List.getElem?_eq_getElem (by rw [g2.1,hlen];exact hn)⟩
   have hc0:=g3 0 hn
   rw [hy0,Nat.zero_mul] at hc0
   have hc0':w.cell? a=some y0:=hc0
   have hs:a.spot=none:=by
    unfold World.cell? at hc0'
    split at hc0'
    ·split at hc0'
     ·cases hc0'
     ·rename_i h;simpa using h
    ·cases hc0'
   have hlt:a.block< w.heap.size:=by
    unfold World.cell? at hc0'
    split at hc0'
    ·rename_i h;exact(Array.getElem?_eq_some_iff.1 h).1
    ·cases hc0'
   have ha:a=⟨a.block,a.off,none⟩:=by
    obtain⟨b,o,s⟩:=a;simp only at hs;subst hs;rfl
   have key:=Den.list (w:=w) (I:=I) a.block a.off cap n (l.map cD) (fun i j=>((V i).2[j]?).getD undef) (hI _ hlt) hn ?_ ?_ ?_ (by rw [List.length_map,hl];exact hlc)
   ·rw [List.length_map,hl] at key
    rw [← ha] at key
    exact key
   ·intro rr hr
    obtain⟨al,hal,rfl⟩:=List.mem_map.1 hr
    exact hlen al
   ·intro i j hi hj
    rw [List.length_map,hl] at hi
    obtain⟨_,h2,h3⟩:=hV i hi
    have h4:=h3 j hj
    rw [ZjE hs] at h4
    rw [h4,List.getElem?_eq_getElem (by rw [h2.1,hlen];exact hj)];rfl
   ·intro i j rr dd hr hdd
    rw [List.getElem?_map] at hr
    obtain⟨al,hal,rfl⟩:=Option.map_eq_some_iff.1 hr
    have hi:i< len:=by have:=(List.getElem?_eq_some_iff.1 hal).1;omega
    rw [hat i hi] at hal
    obtain rfl:=Option.some.inj hal
    obtain⟨_,h2,_⟩:=hV i hi
    have hj:j< (V i).2.length:=by rw [h2.1];exact(List.getElem?_eq_some_iff.1 hdd).1
    show Den w I (((V i).2[j]?).getD undef) dd
    rw [List.getElem?_eq_getElem hj]
    exact h2.2 j _ dd (List.getElem?_eq_getElem hj) hdd
theorem ZjB {ds:List (DataW H)} {d:DataW H} (h:d∈ds):Rows.uptoBulk d≤Rows.uptoBulkAll ds:=by
 induction ds with
 |nil=>simp at h
 |cons a l ih=>
  simp only [Rows.uptoBulkAll]
  rcases List.mem_cons.1 h with rfl|h
  ·omega
  ·have:=ih h;omega
theorem ZjC {ds:List (DataW H)} (h:∀ d,d∈ds→1≤Rows.uptoBulk d):ds.length≤Rows.uptoBulkAll ds:=by
 induction ds with
 |nil=>simp
 |cons a l ih=>
  simp only [Rows.uptoBulkAll,List.length_cons]
  have:=h a List.mem_cons_self
  have:=ih fun d hd=>h d (List.mem_cons_of_mem _ hd)
  omega
theorem Zg8 {α:Type} {R:α→DataW H→Prop} {l:List α} {ds:List (DataW H)} {d:DataW H} (hr:RelD R l ds) (h:(d= .nil∧ds= [])∨∃ rest,d= .slice ds rest) (h1:∀ a x,R a x→1≤Rows.uptoBulk x):
  1≤Rows.uptoBulk d∧l.length< Rows.uptoBulk d∧∀ a,a∈l→∃ x,R a x∧Rows.uptoBulk x< Rows.uptoBulk d:=by
 have hat:∀ (i:Nat) (x:DataW H),ds[i]? =some x→∃ a,l[i]? =some a∧R a x:=fun i x hx=>by
  have hi:i< l.length:=by rw [hr.1];exact(List.getElem?_eq_some_iff.1 hx).1
  exact⟨_,List.getElem?_eq_getElem hi,hr.2 i _ x (List.getElem?_eq_getElem hi) hx⟩
 rcases h with ⟨rfl,rfl⟩|⟨rest,rfl⟩
 ·have:l= []:=List.eq_nil_of_length_eq_zero (by rw [hr.1];rfl)
  subst this
  exact⟨by simp [Rows.uptoBulk],by simp [Rows.uptoBulk],fun a ha=>by simp at ha⟩
 ·simp only [Rows.uptoBulk]
  have:=ZjC (ds:=ds) fun d hd=>by
   obtain⟨i,hi⟩:=List.mem_iff_getElem?.1 hd
   obtain⟨a,_,ha⟩:=hat i d hi
   exact h1 a d ha
  refine⟨by omega,by rw [hr.1];omega,fun a ha=> ?_⟩
  obtain⟨i,hi⟩:=List.mem_iff_getElem?.1 ha
  have hlt:i< ds.length:=by rw [← hr.1];exact(List.getElem?_eq_some_iff.1 hi).1
  have hd:ds[i]? =some ds[i]:=List.getElem?_eq_getElem hlt
  refine⟨ds[i],hr.2 i a _ hi hd,?_⟩
  have:=ZjB (ds:=ds) (List.mem_of_getElem? hd)
  omega
instance:Inhabited LinkV:=⟨⟨z0,z0,z0,z0,z0, []⟩⟩
end
end Go.Proofs.YtcogfmileelkeaaDoor.argopen
