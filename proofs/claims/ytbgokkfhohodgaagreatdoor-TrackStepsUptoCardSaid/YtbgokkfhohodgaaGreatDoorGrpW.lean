/- Joined by wip/bundle.py: XOpen XOpenL. -/
import Derived.Test.YtbgokkfhohodgaaGreatDoorRow
import Derived.Test.YtbgokkfhohodgaaGreatDoorSeg
import Derived.Deep.Strs
import Derived.Test.YtbgokkfhohodgaaGreatDoorGrpS
import Derived.Deep.Slices
set_option maxRecDepth 100000
namespace Go.Proofs.YtbgokkfhohodgaaGreatDoor.argopen
open Go.ChangeShapes Go.WideShapes Go.ChangeAt Go.RowKit row seg
theorem list3 {α:Type} {cs:List α} (h:cs.length=3):∃ a b c,cs= [a,b,c]:=by
 match cs,h with
 | [a,b,c],_=>exact⟨a,b,c,rfl⟩
section
variable {H : Type} {enc : TypeId × Value → H} {w : World} {base : Nat} {sp : Nat → Bool} {held : Bool}
theorem Zhl:Tryz.prog.cellsOf 4=1:=by kernel_rfl
theorem ZeW:Tryz.prog.cellsOf 9=1:=by kernel_rfl
theorem ZeX:Tryz.prog.cellsOf 23=3:=by kernel_rfl
def rd (H:Type) (s:Bool) (a d:ByteArray):DataW H:= .agg [.lit (.bool s),.lit (.string a.data.toList),.lit (.string d.data.toList)]
theorem Zji (s:Bool) (a d:ByteArray):Rows.uptoBulk (rd H s a d)=a.size+d.size+4:=by
 simp only [rd,Rows.uptoBulk,Rows.uptoBulkAll,num.ba_length];omega
theorem ZjG {fuel:Nat} {cs:List Value} {x:DataW H×List MemPlace} (h:DataW.trod enc Tryz.prog w base sp held fuel 23 cs=some x):
  ∃ s a d,cs= [.bool s,.string a,.string d]∧x=(rd H s a d, []):=by
 obtain⟨y0,y1,y2,n,rfl,hl,h0,h1,h2⟩:=Go.Deep.trod_struct3 Tryz.underlying23 h
 rw [ZeX] at hl
 obtain⟨c0,c1,c2,rfl⟩:=list3 hl
 rw [Zhl] at h0
 rw [ZeW] at h1 h2
 obtain⟨s,e0,rfl⟩:=DataW.trod_bool Tryz.underlying4 h0
 obtain⟨a,e1,rfl,_⟩:=DataW.trod_string Tryz.underlying9 h1
 obtain⟨d,e2,rfl,_⟩:=DataW.trod_string Tryz.underlying9 h2
 simp at e0 e1 e2
 subst e0 e1 e2
 exact⟨s,a,d,rfl,rfl⟩
variable {r : Reach} {b0 : Nat} {v : Value} {d : DataW H} {ps : List MemPlace}
end
theorem Ze5 {W : World} {rest : List (String × DataW Unit)} (h : laidMet Tryz.prog (("math/bits.deBruijn64tab", Rows.laid_math_bits_deBruijn64tab) :: rest) W) : Tab W := by
 have hT : Lib.TabIs Tryz.prog W "math/bits.deBruijn64tab" .u8 (Lib.deBruijn64tab.map Int.ofNat) :=
  Lib.tabIs_of_head (g:=2) (rest:=rest) (by kernel_rfl) (by kernel_rfl) Tryz.underlying245 Tryz.underlying5 (by kernel_rfl) (by kernel_rfl) h
 intro j hj
 have:=hT.cell (g:=2) (by kernel_rfl) j (by simpa using hj)
 rw [this]
 simp only [List.getD_eq_getElem?_getD,List.getElem?_map]
 rw [List.getElem?_eq_getElem hj]
 rfl
end Go.Proofs.YtbgokkfhohodgaaGreatDoor.argopen
namespace Go.Proofs.YtbgokkfhohodgaaGreatDoor.argopen
open Go.ChangeShapes Go.WideShapes Go.ChangeAt Go.RowKit row seg eng
section
variable {H : Type} {enc : TypeId × Value → H} {w : World} {base : Nat} {sp : Nat → Bool} {held : Bool}
theorem ZkK {a:Addr} (hs:a.spot=none) (i j:Nat):(a.add i).add j=⟨a.block,a.off+i+j,none⟩:=by
 obtain⟨b,o,s⟩:=a
 simp only at hs
 subst hs
 unfold Addr.add
 by_cases h1:i=0<;>by_cases h2:j=0<;>simp [h1,h2]
instance:Inhabited RV:=⟨z0⟩
theorem ZlL (x:RV):x.z≤Rows.uptoBulk (rd H x.s x.a x.d):=by rw [Zji];unfold RV.z;omega
end
end Go.Proofs.YtbgokkfhohodgaaGreatDoor.argopen
