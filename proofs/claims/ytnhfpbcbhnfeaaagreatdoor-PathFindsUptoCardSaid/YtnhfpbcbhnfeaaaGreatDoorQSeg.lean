/- Memory, no program: a stretch of a block whose cells are known (a slice that may begin within its block). -/
import Derived.Test.YtnhfpbcbhnfeaaaGreatDoorQGrpC
import Derived.Test.YtnhfpbcbhnfeaaaGreatDoorQTab
namespace Go.Proofs.YtnhfpbcbhnfeaaaGreatDoor.seg
open Go.RowKit num mem
def Seg(w:World)(b T o:Nat)(l:List Value):Prop:=∃cur:Array Value,w.heap[b]? =some (.cells cur T (0,0))/\o+l.length<=cur.size/\(cur.toList.drop o).take l.length=l
section
variable{w w':World}{b T o:Nat}{l:List Value}
theorem Seg.of_row(h:Row w b T l):Seg w b T 0 l:=⟨l.toArray,h,by simp,by simp⟩
theorem Seg.lt(h:Seg w b T o l):b<w.heap.size:=by obtain⟨cur,hc,_⟩:=h;exact(Array.getElem?_eq_some_iff.1 hc).1
theorem Seg.cell?(h:Seg w b T o l){i:Nat}(hi:i<l.length):w.cell? ⟨b,o+i,none⟩=l[i]? :=by
 obtain⟨cur,hc,hl,ht⟩:=h;have e:w.cell? ⟨b,o+i,none⟩=cur[o+i]? :=by simp[World.cell?,hc]
 rw[e,<-Array.getElem?_toList,<-List.getElem?_drop,<-List.getElem?_take_of_lt hi,ht]
theorem Seg.frozen(h:Seg w b T o l)(i:Nat):w.frozen? ⟨b,i,none⟩=false:=by
 obtain⟨cur,hc,_⟩:=h;simp[World.frozen?,hc]
theorem Seg.set(h:Seg w b T o l)(i:Nat)(v:Value):Seg (w.setCell ⟨b,o+i,none⟩ v) b T o (l.set i v):=by
 obtain⟨cur,hc,hl,ht⟩:=h;refine⟨cur.setIfInBounds (o+i) v,?_,by simpa using hl,?_⟩
 .simp[World.setCell,Array.getElem?_modify,hc]
 .rw[List.length_set,Array.toList_setIfInBounds,List.drop_set,if_neg ω,Nat.add_sub_cancel_left,List.take_set,ht]
theorem Seg.set_ne(h:Seg w b T o l){a:Addr}(ha:a.block≠b)(v:Value):Seg (w.setCell a v) b T o l:=by
 obtain⟨cur,hc,r⟩:=h;exact⟨cur,by rw[Below.heap_setCell _ _ _ _ (fun e=>ha e.symm)];exact hc,r⟩
theorem Seg.drew(h:Seg w b T o l):Seg w.drew b T o l:=h
theorem Seg.drewN(h:Seg w b T o l)(q:Nat):Seg (w.drewN q) b T o l:=h
theorem Seg.alloc(h:Seg w b T o l)(x:Obj):Seg (w.alloc x) b T o l:=by
 have hlt:=h.lt;obtain⟨cur,hc,r⟩:=h;exact⟨cur,by rw[Below.heap_alloc _ _ _ hlt];exact hc,r⟩
theorem Seg.below{B:Nat}(h:Seg w b T o l)(hb:Below B w w')(hB:b<B):Seg w' b T o l:=by
 obtain⟨cur,hc,r⟩:=h;exact⟨cur,by rw[hb.block b hB];exact hc,r⟩
theorem Seg.grown{r:Option Nat}(h:Seg w b T o l)(hg:w.grownBy w' r)(hr:some b≠r):Seg w' b T o l:=by
 have hlt:=h.lt;obtain⟨cur,hc,r'⟩:=h;exact⟨cur,by rw[hg.block b hlt hr];exact hc,r'⟩
theorem Seg.take(h:Seg w b T o l)(n:Nat):Seg w b T o (l.take n):=by
 obtain⟨cur,hc,hl,ht⟩:=h;refine⟨cur,hc,by rw[List.length_take];omega,?_⟩;rw[List.length_take,<-List.take_take,ht]
theorem Seg.drop(h:Seg w b T o l){n:Nat}(hn:n<=l.length):Seg w b T (o+n) (l.drop n):=by
 obtain⟨cur,hc,hl,ht⟩:=h;refine⟨cur,hc,by rw[List.length_drop];omega,?_⟩;have:=congrArg (List.drop n) ht;rw[List.drop_take,List.drop_drop]at this;rw[List.length_drop];exact this
theorem Seg.int{k:IntKind}{l:List Nat}(h:Seg w b T o (nums k l)){i:Nat}(hi:i<l.length):w.cell? ⟨b,o+i,none⟩=some (.int k ((l.getD i 0:Nat):Int)):=by
 rw[h.cell? (by rw[Za3];exact hi),Zg3 hi]
theorem Seg.int_set{k:IntKind}{l:List Nat}(h:Seg w b T o (nums k l))(i n:Nat):Seg (w.setCell ⟨b,o+i,none⟩ (.int k (n:Int))) b T o (nums k (l.set i n)):=by
 rw[<-Zem];exact h.set _ _
end
theorem Zpy(k:IntKind)(l:List Nat)(n:Nat):(nums k l).drop n=nums k (l.drop n):=by simp[nums]
def Tab(w:World):Prop:=TabAt 3 Lib.deBruijn64tab w
theorem Tab.lt{w:World}(h:Tab w):3<w.heap.size:=by
 have:=h 0 ωd;by_cases hlt:3<w.heap.size
 .exact hlt
 .simp[World.cell?,Array.getElem?_eq_none (Nat.le_of_not_lt hlt)]at this
theorem Tab.below{w w':World}{B:Nat}(h:Tab w)(hb:Below B w w')(hB:w.heap.size<=B):Tab w':=by
 intro j hj;have e:=h j hj;have hl:=h.lt;have:=hb.block 3 ω;simp only[World.cell?]at e⊢;rw[this];exact e
theorem Tab.grown{w w':World}{b:Nat}(h:Tab w)(hg:w.grownBy w' (some b))(hb:w.heap.size<=b\/3≠b):Tab w':=by
 intro j hj;have e:=h j hj;have hl:=h.lt;have:=hg.block 3 hl ωi;simp only[World.cell?]at e⊢;rw[this];exact e
theorem Tab.drew{w:World}(h:Tab w):Tab w.drew:=h
