/- Joined by wip/bundle.py: XOpen XOpenL. -/
import Derived.Test.YtncoimmjjfmhdaaGreatDoorRow
import Derived.Test.YtncoimmjjfmhdaaGreatDoorSeg
import Derived.Deep.Strs
import Derived.Test.YtncoimmjjfmhdaaGreatDoorGrpS
import Derived.Deep.Slices
set_option maxRecDepth 100000
namespace Go.Proofs.YtncoimmjjfmhdaaGreatDoor.argopen
open Go.ChangeShapes Go.WideShapes Go.ChangeAt Go.RowKit row seg
theorem list3 {α:Type} {cs:List α} (h:cs.length=3):∃ a b c,cs= [a,b,c]:=by
 match cs,h with
 | [a,b,c],_=>exact⟨a,b,c,rfl⟩
theorem list6 {α:Type} {cs:List α} (h:cs.length=6):∃ a b c d e f,cs= [a,b,c,d,e,f]:=by
 match cs,h with
 | [a,b,c,d,e,f],_=>exact⟨a,b,c,d,e,f,rfl⟩
theorem Znb {cs:Array Value} {l:List Value} (h:(Value.agg cs).cells.toList=l):cs=l.toArray:=by
 obtain⟨m⟩:=cs
 have e:m=l:=h
 rw [e]
section
variable {H : Type} {enc : TypeId × Value → H} {w : World} {base : Nat} {sp : Nat → Bool} {held : Bool}
theorem ZiZ:Tryz.prog.cellsOf 4=1:=by kernel_rfl
theorem ZfX:Tryz.prog.cellsOf 9=1:=by kernel_rfl
theorem Zdj:Tryz.prog.cellsOf 24=3:=by kernel_rfl
def rd (H:Type) (s:Bool) (a d:ByteArray):DataW H:= .agg [.lit (.bool s),.lit (.string a.data.toList),.lit (.string d.data.toList)]
theorem Zlk (s:Bool) (a d:ByteArray):Rows.uptoBulk (rd H s a d)=a.size+d.size+4:=by
 simp only [rd,Rows.uptoBulk,Rows.uptoBulkAll,num.ba_length];omega
theorem Zcq {fuel:Nat} {cs:List Value} {x:DataW H×List MemPlace} (h:DataW.trod enc Tryz.prog w base sp held fuel 24 cs=some x):
  ∃ s a d,cs= [.bool s,.string a,.string d]∧x=(rd H s a d, []):=by
 obtain⟨y0,y1,y2,n,rfl,hl,h0,h1,h2⟩:=Go.Deep.trod_struct3 Tryz.underlying24 h
 rw [Zdj] at hl
 obtain⟨c0,c1,c2,rfl⟩:=list3 hl
 rw [ZiZ] at h0
 rw [ZfX] at h1 h2
 obtain⟨s,e0,rfl⟩:=DataW.trod_bool Tryz.underlying4 h0
 obtain⟨a,e1,rfl,_⟩:=DataW.trod_string Tryz.underlying9 h1
 obtain⟨d,e2,rfl,_⟩:=DataW.trod_string Tryz.underlying9 h2
 simp at e0 e1 e2
 subst e0 e1 e2
 exact⟨s,a,d,rfl,rfl⟩
theorem Zg5 {fuel:Nat} {cs:List Value} {x:DataW H×List MemPlace} (h:DataW.trod enc Tryz.prog w base sp held fuel 26 cs=some x):
  ∃ s a d s' a' d',cs= [.bool s,.string a,.string d,.bool s',.string a',.string d']∧x=(.agg [rd H s a d,rd H s' a' d'], []):=by
 obtain⟨y0,y1,n,rfl,hl,h0,h1⟩:=trod_struct2 Tryz.underlying26 h
 have hl6:cs.length=6:=hl.trans (by kernel_rfl)
 rw [Zdj] at h0 h1
 obtain⟨s,a,d,e0,rfl⟩:=Zcq h0
 obtain⟨s',a',d',e1,rfl⟩:=Zcq h1
 obtain⟨c0,c1,c2,c3,c4,c5,rfl⟩:=list6 hl6
 simp at e0 e1
 obtain⟨rfl,rfl,rfl⟩:=e0
 obtain⟨rfl,rfl,rfl⟩:=e1
 exact⟨s,a,d,s',a',d',rfl,rfl⟩
theorem Zjh {fuel:Nat} {cs:List Value} {x:DataW H×List MemPlace} (h:DataW.trod enc Tryz.prog w base sp held fuel 28 cs=some x):
  ∃ s a d s' a' d',cs= [.bool s,.string a,.string d,.bool s',.string a',.string d']∧x=(.agg [rd H s a d,rd H s' a' d'], []):=by
 obtain⟨y0,y1,n,rfl,hl,h0,h1⟩:=trod_struct2 Tryz.underlying28 h
 have hl6:cs.length=6:=hl.trans (by kernel_rfl)
 rw [Zdj] at h0 h1
 obtain⟨s,a,d,e0,rfl⟩:=Zcq h0
 obtain⟨s',a',d',e1,rfl⟩:=Zcq h1
 obtain⟨c0,c1,c2,c3,c4,c5,rfl⟩:=list6 hl6
 simp at e0 e1
 obtain⟨rfl,rfl,rfl⟩:=e0
 obtain⟨rfl,rfl,rfl⟩:=e1
 exact⟨s,a,d,s',a',d',rfl,rfl⟩
theorem Zlh:Tryz.prog.cellsOf 26=6:=by kernel_rfl
variable {r : Reach} {b0 : Nat} {v : Value} {d : DataW H} {ps : List MemPlace}
theorem Zl6 (hval:Value.okWide Tryz.prog w r b0 26 v) (hd:DataW.Trod enc Tryz.prog w base sp held 26 v d ps):
  ∃ s a e s' a' e',v= .agg #[.bool s,.string a,.string e,.bool s',.string a',.string e']∧d= .agg [rd H s a e,rd H s' a' e']∧ps= []:=by
 obtain⟨cs,rfl,_⟩:=okWide_struct Tryz.underlying26 hval
 obtain⟨fuel,hf⟩:=hd
 obtain⟨s,a,e,s',a',e',h,hx⟩:=Zg5 hf
 obtain⟨rfl,rfl⟩:=Prod.mk.inj hx
 exact⟨s,a,e,s',a',e',congrArg Value.agg (Znb h),rfl,rfl⟩
theorem Zj7 (hval:Value.okWide Tryz.prog w r b0 28 v) (hd:DataW.Trod enc Tryz.prog w base sp held 28 v d ps):
  ∃ s a e s' a' e',v= .agg #[.bool s,.string a,.string e,.bool s',.string a',.string e']∧d= .agg [rd H s a e,rd H s' a' e']∧ps= []:=by
 obtain⟨cs,rfl,_⟩:=okWide_struct Tryz.underlying28 hval
 obtain⟨fuel,hf⟩:=hd
 obtain⟨s,a,e,s',a',e',h,hx⟩:=Zjh hf
 obtain⟨rfl,rfl⟩:=Prod.mk.inj hx
 exact⟨s,a,e,s',a',e',congrArg Value.agg (Znb h),rfl,rfl⟩
end
theorem Zf4 {W : World} {rest : List (String × DataW Unit)} (h : laidMet Tryz.prog (("math/bits.deBruijn64tab", Rows.laid_math_bits_deBruijn64tab) :: rest) W) : Tab W := by
 have hT : Lib.TabIs Tryz.prog W "math/bits.deBruijn64tab" .u8 (Lib.deBruijn64tab.map Int.ofNat) :=
  Lib.tabIs_of_head (g:=1) (rest:=rest) (by kernel_rfl) (by kernel_rfl) Tryz.underlying207 Tryz.underlying5 (by kernel_rfl) (by kernel_rfl) h
 intro j hj
 have:=hT.cell (g:=1) (by kernel_rfl) j (by simpa using hj)
 rw [this]
 simp only [List.getD_eq_getElem?_getD,List.getElem?_map]
 rw [List.getElem?_eq_getElem hj]
 rfl
end Go.Proofs.YtncoimmjjfmhdaaGreatDoor.argopen
namespace Go.Proofs.YtncoimmjjfmhdaaGreatDoor.argopen
open Go.ChangeShapes Go.WideShapes Go.ChangeAt Go.RowKit row seg eng
section
variable {H : Type} {enc : TypeId × Value → H} {w : World} {base : Nat} {sp : Nat → Bool} {held : Bool}
theorem ZmE {a:Addr} (hs:a.spot=none) (i j:Nat):(a.add i).add j=⟨a.block,a.off+i+j,none⟩:=by
 obtain⟨b,o,s⟩:=a
 simp only at hs
 subst hs
 unfold Addr.add
 by_cases h1:i=0<;>by_cases h2:j=0<;>simp [h1,h2]
theorem Zj8 {α : Type} [Inhabited α] {r : Reach} {b0 : Nat} {v : Value} {d : DataW H} {ps : List MemPlace} {t e : TypeId} {n : Nat} (c : α → List Value) (g : α → DataW H) (hn : 0 < n) (hfl : ∀ a y, y ∈ c a → flat y = true)
    (ht : Tryz.prog.underlying t = some (.slice e)) (hce : Tryz.prog.cellsOf e = n)
    (hel : ∀ fuel cs x, DataW.trod enc Tryz.prog w base sp held fuel e cs = some x → ∃ a, cs = c a ∧ cs.length = n ∧ x.1 = g a)
    (hval : Value.okWide Tryz.prog w r b0 t v) (hd : DataW.Trod enc Tryz.prog w base sp held t v d ps) {I : Nat → Prop} (hI : ∀ b, b < w.heap.size → I b) :
    ∃ l : List α, Den w I v (.list (l.map fun a => (c a).map D.v)) ∧ ((l = [] ∧ d = .nil) ∨ ∃ rest, d = .slice (l.map g) rest) := by
  obtain ⟨av, len, cap, rfl⟩ := okWide_slice ht hval
  obtain ⟨fuel, hf⟩ := hd
  rcases Go.Deep.open_slice ht hf with ⟨h1, h2⟩ | ⟨a, len', cap', m, n', DD, Pl, h1, hb, hlc, hcm, hm, h2, hx⟩
  · have e1 : [Value.slice av len cap] = [.slice none 0 0] := h1
    injection e1 with e1 e2
    injection e1 with e3 e4 e5
    subst e3 e4 e5
    exact ⟨[], Den.nil none 0, .inl ⟨rfl, (Prod.mk.inj h2).1⟩⟩
  · have e1 : [Value.slice av len cap] = [.slice (some a) len' cap'] := h1
    injection e1 with e1 e2
    injection e1 with e3 e4 e5
    subst e3 e4 e5
    obtain ⟨hd1, _⟩ := Prod.mk.inj h2
    have hlm : len ≤ m := by rw [hm]; split <;> omega
    rw [hce] at hx
    -- the elements
    have hA : ∀ i, i < len → ∃ al : α, g al = DD i ∧ (c al).length = n ∧ ∀ j, j < n → w.cell? ((a.add (i * n)).add j) = (c al)[j]? := by
      intro i hi
      obtain ⟨cs', g1, g2⟩ := hx i (by omega)
      obtain ⟨al, rfl, g3, g4⟩ := hel _ _ _ g2
      obtain ⟨_, _, g5⟩ := World.cells?_some g1
      exact ⟨al, g4.symm, g3, g5⟩
    have hA' : ∃ V : Nat → α, ∀ i, i < len → g (V i) = DD i ∧ (c (V i)).length = n ∧ ∀ j, j < n → w.cell? ((a.add (i * n)).add j) = (c (V i))[j]? := by
      by_cases h0 : len = 0
      · exact ⟨fun _ => default, fun i hi => by omega⟩
      · obtain ⟨a0, _⟩ := hA 0 (by omega)
        exact ⟨fun i => if h : i < len then Classical.choose (hA i h) else a0, fun i hi => by simp only [dif_pos hi]; exact Classical.choose_spec (hA i hi)⟩
    obtain ⟨V, hV⟩ := hA'
    let l : List α := (List.range len).map V
    have hl : l.length = len := by simp [l]
    have hlg : l.map g = (List.range len).map DD := by
      show ((List.range len).map V).map g = _
      rw [List.map_map]
      exact List.map_congr_left fun i hi => (hV i (by simpa using hi)).1
    refine ⟨l, ?_, .inr ⟨_, by rw [hlg]; exact hd1⟩⟩
    by_cases h0 : len = 0
    · have : l = [] := List.eq_nil_of_length_eq_zero (by rw [hl, h0])
      rw [this, h0]
      exact Den.nil _ _
    · -- the address is that of a cell
      obtain ⟨g1, g2, g3⟩ := hV 0 (by omega)
      obtain ⟨y0, hy0⟩ : ∃ y, (c (V 0))[0]? = some y := ⟨_, List.getElem?_eq_getElem (by omega)⟩
      have hc0 := g3 0 hn
      rw [hy0, Nat.zero_mul] at hc0
      have hc0' : w.cell? a = some y0 := hc0
      have hs : a.spot = none := by
        unfold World.cell? at hc0'
        split at hc0'
        · split at hc0'
          · cases hc0'
          · rename_i h; simpa using h
        · cases hc0'
      have hlt : a.block < w.heap.size := by
        unfold World.cell? at hc0'
        split at hc0'
        · rename_i h; exact (Array.getElem?_eq_some_iff.1 h).1
        · cases hc0'
      have ha : a = ⟨a.block, a.off, none⟩ := by
        obtain ⟨b, o, s⟩ := a; simp only at hs; subst hs; rfl
      have key := Den.list (w := w) (I := I) a.block a.off cap n (l.map fun al => (c al).map D.v) (fun i j => ((c (V i))[j]?).getD undef) (hI _ hlt) hn ?_ ?_ ?_ (by rw [List.length_map, hl]; exact hlc)
      · rw [List.length_map, hl] at key
        rw [← ha] at key
        exact key
      · intro rr hr
        obtain ⟨al, hal, rfl⟩ := List.mem_map.1 hr
        obtain ⟨i, hi, rfl⟩ := List.mem_map.1 hal
        rw [List.length_map]
        exact (hV i (by simpa using hi)).2.1
      · intro i j hi hj
        rw [List.length_map, hl] at hi
        obtain ⟨_, h2, h3⟩ := hV i hi
        have h4 := h3 j hj
        rw [ZmE hs] at h4
        rw [h4, List.getElem?_eq_getElem (by omega)]; rfl
      · intro i j rr dd hr hdd
        rw [List.getElem?_map] at hr
        obtain ⟨al, hal, rfl⟩ := Option.map_eq_some_iff.1 hr
        have hi : i < len := by have := (List.getElem?_eq_some_iff.1 hal).1; omega
        have hal' : al = V i := by
          have : l[i]? = some (V i) := by simp [l, hi]
          rw [this] at hal; exact (Option.some.inj hal).symm
        subst hal'
        rw [List.getElem?_map] at hdd
        obtain ⟨y, hy, rfl⟩ := Option.map_eq_some_iff.1 hdd
        simp only [hy, Option.getD_some]
        exact Den.v y (hfl _ y (List.mem_of_getElem? hy))
theorem Zok {l:List Nat} {n:Nat} (h:n∈l):n≤l.sum:=by
 induction l with
 |nil=>simp at h
 |cons a l ih=>
  rw [List.sum_cons]
  rcases List.mem_cons.1 h with rfl|h
  ·omega
  ·have:=ih h;omega
theorem Znn {l:List Nat} (h:∀ n,n∈l→1≤n):l.length≤l.sum:=by
 induction l with
 |nil=>simp
 |cons a l ih=>
  rw [List.sum_cons,List.length_cons]
  have:=h a List.mem_cons_self
  have:=ih fun n hn=>h n (List.mem_cons_of_mem _ hn)
  omega
theorem Zll {α:Type} {l:List α} {g:α→DataW H} {d:DataW H} (h:(l= []∧d= .nil)∨∃ rest,d= .slice (l.map g) rest) (h1:∀ a,1≤Rows.uptoBulk (g a)):l.length< Rows.uptoBulk d∧∀ a,a∈l→Rows.uptoBulk (g a)< Rows.uptoBulk d:=by
 rcases h with ⟨rfl,rfl⟩|⟨rest,rfl⟩
 ·exact⟨by simp [Rows.uptoBulk],fun a ha=>by simp at ha⟩
 ·have e:∀ m:List α,Rows.uptoBulkAll (m.map g)=(m.map fun a=>Rows.uptoBulk (g a)).sum:=by
   intro m
   induction m with
   |nil=>simp [Rows.uptoBulkAll]
   |cons a m ih=>simp [Rows.uptoBulkAll,ih]
  simp only [Rows.uptoBulk,e]
  refine⟨?_,fun a ha=> ?_⟩
  ·have:=Znn (l:=l.map fun a=>Rows.uptoBulk (g a)) (fun n hn=>by obtain⟨a,_,rfl⟩:=List.mem_map.1 hn;exact h1 a)
   rw [List.length_map] at this
   omega
  ·have:=Zok (List.mem_map.2 ⟨a,ha,rfl⟩:Rows.uptoBulk (g a)∈l.map fun a=>Rows.uptoBulk (g a))
   omega
instance:Inhabited RV:=⟨z0⟩
theorem ZmH (x:RV):x.z≤Rows.uptoBulk (rd H x.s x.a x.d):=by rw [Zlk];unfold RV.z;omega
theorem Zj6 {r:Reach} {b0:Nat} {v:Value} {d:DataW H} {ps:List MemPlace} (hval:Value.okWide Tryz.prog w r b0 22 v) (hd:DataW.Trod enc Tryz.prog w base sp held 22 v d ps) {I:Nat→Prop} (hI:∀ b,b< w.heap.size→I b):
  ∃ l:List (RV×RV),Den w I v (.list (l.map eng.rdv))∧l.length≤Rows.uptoBulk d∧∀ x,x∈l→x.1.z≤Rows.uptoBulk d∧x.2.z≤Rows.uptoBulk d:=by
 obtain⟨l,h1,h2⟩:=Zj8 (n:=6) (e:=26) (fun x:RV×RV=> [.bool x.1.s,.string x.1.a,.string x.1.d,.bool x.2.s,.string x.2.a,.string x.2.d]) (fun x=> .agg [rd H x.1.s x.1.a x.1.d,rd H x.2.s x.2.a x.2.d]) (by decide) (fun x y hy=>by simp at hy;rcases hy with rfl|rfl|rfl|rfl|rfl|rfl<;>rfl)
  Tryz.underlying22 Zlh (fun fuel cs x h=>by obtain⟨s,a,d,s',a',d',rfl,rfl⟩:=Zg5 h;exact⟨(⟨s,a,d⟩,⟨s',a',d'⟩),rfl,rfl,rfl⟩) hval hd hI
 have hv:∀ x:RV×RV,Rows.uptoBulk (DataW.agg [rd H x.1.s x.1.a x.1.d,rd H x.2.s x.2.a x.2.d])=Rows.uptoBulk (rd H x.1.s x.1.a x.1.d)+Rows.uptoBulk (rd H x.2.s x.2.a x.2.d)+1:=fun x=>by simp only [Rows.uptoBulk,Rows.uptoBulkAll];omega
 obtain⟨h3,h4⟩:=Zll h2 (fun x=>by rw [hv];omega)
 refine⟨l,h1,by omega,fun x hx=> ?_⟩
 have:=h4 x hx
 rw [hv] at this
 have:=ZmH (H:=H) x.1
 have:=ZmH (H:=H) x.2
 omega
end
end Go.Proofs.YtncoimmjjfmhdaaGreatDoor.argopen
