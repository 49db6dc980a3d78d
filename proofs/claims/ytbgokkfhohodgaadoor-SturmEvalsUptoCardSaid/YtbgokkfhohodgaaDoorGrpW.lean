/- Joined by wip/bundle.py: XOpen XOpenL. -/
import Derived.Test.YtbgokkfhohodgaaDoorRow
import Derived.Test.YtbgokkfhohodgaaDoorSeg
import Derived.Deep.Strs
import Derived.Test.YtbgokkfhohodgaaDoorGrpS
import Derived.Deep.Slices
set_option maxRecDepth 100000
namespace Go.Proofs.YtbgokkfhohodgaaDoor.argopen
open Go.ChangeShapes Go.WideShapes Go.ChangeAt Go.RowKit row seg
theorem list3 {α:Type} {cs:List α} (h:cs.length=3):∃ a b c,cs= [a,b,c]:=by
 match cs,h with
 | [a,b,c],_=>exact⟨a,b,c,rfl⟩
theorem Zkp {cs:Array Value} {l:List Value} (h:(Value.agg cs).cells.toList=l):cs=l.toArray:=by
 obtain⟨m⟩:=cs
 have e:m=l:=h
 rw [e]
section
variable {H : Type} {enc : TypeId × Value → H} {w : World} {base : Nat} {sp : Nat → Bool} {held : Bool}
theorem Zgc:Tryd.prog.cellsOf 4=1:=by kernel_rfl
theorem ZdY:Tryd.prog.cellsOf 9=1:=by kernel_rfl
theorem ZdZ:Tryd.prog.cellsOf 23=3:=by kernel_rfl
def rd (H:Type) (s:Bool) (a d:ByteArray):DataW H:= .agg [.lit (.bool s),.lit (.string a.data.toList),.lit (.string d.data.toList)]
theorem ZeI (s:Bool) (a d:ByteArray):Rows.uptoBulk (rd H s a d)=a.size+d.size+4:=by
 simp only [rd,Rows.uptoBulk,Rows.uptoBulkAll,num.ba_length];omega
theorem ZeS {fuel:Nat} {cs:List Value} {x:DataW H×List MemPlace} (h:DataW.trod enc Tryd.prog w base sp held fuel 23 cs=some x):
  ∃ s a d,cs= [.bool s,.string a,.string d]∧x=(rd H s a d, []):=by
 obtain⟨y0,y1,y2,n,rfl,hl,h0,h1,h2⟩:=Go.Deep.trod_struct3 Tryd.underlying23 h
 rw [ZdZ] at hl
 obtain⟨c0,c1,c2,rfl⟩:=list3 hl
 rw [Zgc] at h0
 rw [ZdY] at h1 h2
 obtain⟨s,e0,rfl⟩:=DataW.trod_bool Tryd.underlying4 h0
 obtain⟨a,e1,rfl,_⟩:=DataW.trod_string Tryd.underlying9 h1
 obtain⟨d,e2,rfl,_⟩:=DataW.trod_string Tryd.underlying9 h2
 simp at e0 e1 e2
 subst e0 e1 e2
 exact⟨s,a,d,rfl,rfl⟩
variable {r : Reach} {b0 : Nat} {v : Value} {d : DataW H} {ps : List MemPlace}
theorem Zh8 (hval:Value.okWide Tryd.prog w r b0 23 v) (hd:DataW.Trod enc Tryd.prog w base sp held 23 v d ps):
  ∃ s a e,v= .agg #[.bool s,.string a,.string e]∧d=rd H s a e∧ps= []:=by
 obtain⟨cs,rfl,_⟩:=okWide_struct Tryd.underlying23 hval
 obtain⟨fuel,hf⟩:=hd
 obtain⟨s,a,e,h,hx⟩:=ZeS hf
 obtain⟨rfl,rfl⟩:=Prod.mk.inj hx
 exact⟨s,a,e,congrArg Value.agg (Zkp h),rfl,rfl⟩
end
theorem Zd4 {W : World} {rest : List (String × DataW Unit)} (h : laidMet Tryd.prog (("math/bits.deBruijn64tab", Rows.laid_math_bits_deBruijn64tab) :: rest) W) : Tab W := by
 have hT : Lib.TabIs Tryd.prog W "math/bits.deBruijn64tab" .u8 (Lib.deBruijn64tab.map Int.ofNat) :=
  Lib.tabIs_of_head (g:=1) (rest:=rest) (by kernel_rfl) (by kernel_rfl) Tryd.underlying221 Tryd.underlying5 (by kernel_rfl) (by kernel_rfl) h
 intro j hj
 have:=hT.cell (g:=1) (by kernel_rfl) j (by simpa using hj)
 rw [this]
 simp only [List.getD_eq_getElem?_getD,List.getElem?_map]
 rw [List.getElem?_eq_getElem hj]
 rfl
end Go.Proofs.YtbgokkfhohodgaaDoor.argopen
namespace Go.Proofs.YtbgokkfhohodgaaDoor.argopen
open Go.ChangeShapes Go.WideShapes Go.ChangeAt Go.RowKit row seg eng
section
variable {H : Type} {enc : TypeId × Value → H} {w : World} {base : Nat} {sp : Nat → Bool} {held : Bool}
theorem ZiH {a:Addr} (hs:a.spot=none) (i j:Nat):(a.add i).add j=⟨a.block,a.off+i+j,none⟩:=by
 obtain⟨b,o,s⟩:=a
 simp only at hs
 subst hs
 unfold Addr.add
 by_cases h1:i=0<;>by_cases h2:j=0<;>simp [h1,h2]
instance:Inhabited RV:=⟨z0⟩
theorem ZjA (x:RV):x.z≤Rows.uptoBulk (rd H x.s x.a x.d):=by rw [ZeI];unfold RV.z;omega
end
end Go.Proofs.YtbgokkfhohodgaaDoor.argopen
