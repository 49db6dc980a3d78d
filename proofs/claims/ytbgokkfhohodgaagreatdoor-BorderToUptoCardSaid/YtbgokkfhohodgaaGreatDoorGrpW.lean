/- Joined by wip/bundle.py: XOpen. -/
import Derived.Test.YtbgokkfhohodgaaGreatDoorRow
import Derived.Test.YtbgokkfhohodgaaGreatDoorSeg
import Derived.Deep.Strs
set_option maxRecDepth 100000
namespace Go.Proofs.YtbgokkfhohodgaaGreatDoor.argopen
open Go.ChangeShapes Go.WideShapes Go.ChangeAt Go.RowKit row seg
theorem list3 {α:Type} {cs:List α} (h:cs.length=3):∃ a b c,cs= [a,b,c]:=by
 match cs,h with
 | [a,b,c],_=>exact⟨a,b,c,rfl⟩
theorem list6 {α:Type} {cs:List α} (h:cs.length=6):∃ a b c d e f,cs= [a,b,c,d,e,f]:=by
 match cs,h with
 | [a,b,c,d,e,f],_=>exact⟨a,b,c,d,e,f,rfl⟩
theorem ZlC {cs:Array Value} {l:List Value} (h:(Value.agg cs).cells.toList=l):cs=l.toArray:=by
 obtain⟨m⟩:=cs
 have e:m=l:=h
 rw [e]
section
variable {H : Type} {enc : TypeId × Value → H} {w : World} {base : Nat} {sp : Nat → Bool} {held : Bool}
theorem Zhk:Tryz.prog.cellsOf 4=1:=by kernel_rfl
theorem ZeT:Tryz.prog.cellsOf 9=1:=by kernel_rfl
theorem ZeU:Tryz.prog.cellsOf 23=3:=by kernel_rfl
def rd (H:Type) (s:Bool) (a d:ByteArray):DataW H:= .agg [.lit (.bool s),.lit (.string a.data.toList),.lit (.string d.data.toList)]
theorem ZkN (s:Bool) (a d:ByteArray):Rows.uptoBulk (rd H s a d)=a.size+d.size+4:=by
 simp only [rd,Rows.uptoBulk,Rows.uptoBulkAll,num.ba_length];omega
theorem ZfP {fuel:Nat} {cs:List Value} {x:DataW H×List MemPlace} (h:DataW.trod enc Tryz.prog w base sp held fuel 23 cs=some x):
  ∃ s a d,cs= [.bool s,.string a,.string d]∧x=(rd H s a d, []):=by
 obtain⟨y0,y1,y2,n,rfl,hl,h0,h1,h2⟩:=Go.Deep.trod_struct3 Tryz.underlying23 h
 rw [ZeU] at hl
 obtain⟨c0,c1,c2,rfl⟩:=list3 hl
 rw [Zhk] at h0
 rw [ZeT] at h1 h2
 obtain⟨s,e0,rfl⟩:=DataW.trod_bool Tryz.underlying4 h0
 obtain⟨a,e1,rfl,_⟩:=DataW.trod_string Tryz.underlying9 h1
 obtain⟨d,e2,rfl,_⟩:=DataW.trod_string Tryz.underlying9 h2
 simp at e0 e1 e2
 subst e0 e1 e2
 exact⟨s,a,d,rfl,rfl⟩
theorem Zhv {fuel:Nat} {cs:List Value} {x:DataW H×List MemPlace} (h:DataW.trod enc Tryz.prog w base sp held fuel 55 cs=some x):
  ∃ s a d s' a' d',cs= [.bool s,.string a,.string d,.bool s',.string a',.string d']∧x=(.agg [rd H s a d,rd H s' a' d'], []):=by
 obtain⟨y0,y1,n,rfl,hl,h0,h1⟩:=trod_struct2 Tryz.underlying55 h
 have hl6:cs.length=6:=hl.trans (by kernel_rfl)
 rw [ZeU] at h0 h1
 obtain⟨s,a,d,e0,rfl⟩:=ZfP h0
 obtain⟨s',a',d',e1,rfl⟩:=ZfP h1
 obtain⟨c0,c1,c2,c3,c4,c5,rfl⟩:=list6 hl6
 simp at e0 e1
 obtain⟨rfl,rfl,rfl⟩:=e0
 obtain⟨rfl,rfl,rfl⟩:=e1
 exact⟨s,a,d,s',a',d',rfl,rfl⟩
variable {r : Reach} {b0 : Nat} {v : Value} {d : DataW H} {ps : List MemPlace}
theorem Zh8 (hval:Value.okWide Tryz.prog w r b0 55 v) (hd:DataW.Trod enc Tryz.prog w base sp held 55 v d ps):
  ∃ s a e s' a' e',v= .agg #[.bool s,.string a,.string e,.bool s',.string a',.string e']∧d= .agg [rd H s a e,rd H s' a' e']∧ps= []:=by
 obtain⟨cs,rfl,_⟩:=okWide_struct Tryz.underlying55 hval
 obtain⟨fuel,hf⟩:=hd
 obtain⟨s,a,e,s',a',e',h,hx⟩:=Zhv hf
 obtain⟨rfl,rfl⟩:=Prod.mk.inj hx
 exact⟨s,a,e,s',a',e',congrArg Value.agg (ZlC h),rfl,rfl⟩
end
theorem ZeX {W : World} {rest : List (String × DataW Unit)} (h : laidMet Tryz.prog (("math/bits.deBruijn64tab", Rows.laid_math_bits_deBruijn64tab) :: rest) W) : Tab W := by
 have hT : Lib.TabIs Tryz.prog W "math/bits.deBruijn64tab" .u8 (Lib.deBruijn64tab.map Int.ofNat) :=
  Lib.tabIs_of_head (g:=2) (rest:=rest) (by kernel_rfl) (by kernel_rfl) Tryz.underlying245 Tryz.underlying5 (by kernel_rfl) (by kernel_rfl) h
 intro j hj
 have:=hT.cell (g:=2) (by kernel_rfl) j (by simpa using hj)
 rw [this]
 simp only [List.getD_eq_getElem?_getD,List.getElem?_map]
 rw [List.getElem?_eq_getElem hj]
 rfl
end Go.Proofs.YtbgokkfhohodgaaGreatDoor.argopen
