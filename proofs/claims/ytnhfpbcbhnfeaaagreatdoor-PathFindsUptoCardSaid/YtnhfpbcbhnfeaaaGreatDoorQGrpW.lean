/- Joined by wip/bundle.py: XOpen XOpenL. -/
import Derived.Test.YtnhfpbcbhnfeaaaGreatDoorQRow
import Derived.Deep.Strs
import Derived.Test.YtnhfpbcbhnfeaaaGreatDoorQGrpS
import Derived.Deep.Slices
set_option maxRecDepth 100000
namespace Go.Proofs.YtnhfpbcbhnfeaaaGreatDoor.argopen
open Go.ChangeShapes Go.WideShapes Go.ChangeAt Go.RowKit row seg
theorem list3{α:Type}{cs:List α}(h:cs.length=3):∃a b c,cs= [a,b,c]:=by
 match cs,h with
 | [a,b,c],_=>exact⟨a,b,c,rfl⟩
theorem list4{α:Type}{cs:List α}(h:cs.length=4):∃a b c d,cs= [a,b,c,d]:=by
 match cs,h with
 | [a,b,c,d],_=>exact⟨a,b,c,d,rfl⟩
theorem list6{α:Type}{cs:List α}(h:cs.length=6):∃a b c d e f,cs= [a,b,c,d,e,f]:=by
 match cs,h with
 | [a,b,c,d,e,f],_=>exact⟨a,b,c,d,e,f,rfl⟩
theorem Zzr{cs:Array Value}{l:List Value}(h:(Value.agg cs).cells.toList=l):cs=l.toArray:=by
 obtain⟨m⟩:=cs;have e:m=l:=h;rw[e]
section
variable{H:Type}{enc:TypeId×Value->H}{w:World}{base:Nat}{sp:Nat->Bool}{held:Bool}
theorem Zgk:Tryz.prog.cellsOf 4=1:=ωr
theorem Zi1:Tryz.prog.cellsOf 9=1:=ωr
theorem Zdu:Tryz.prog.cellsOf 23=3:=ωr
def rd(H:Type)(s:Bool)(a d:ByteArray):DataW H:=.agg [.lit (.bool s),.lit (.string a.data.toList),.lit (.string d.data.toList)]
theorem Zkf(s:Bool)(a d:ByteArray):Rows.uptoBulk (rd H s a d)=a.size+d.size+4:=by
 simp only[rd,Rows.uptoBulk,Rows.uptoBulkAll,num.ba_length];omega
theorem Zeb{fuel:Nat}{cs:List Value}{x:DataW H×List MemPlace}(h:DataW.trod enc Tryz.prog w base sp held fuel 23 cs=some x):
  ∃s a d,cs= [.bool s,.string a,.string d]/\x=(rd H s a d, []):=by
 obtain⟨y0,y1,y2,n,rfl,hl,h0,h1,h2⟩:=Go.Deep.trod_struct3 Tryz.underlying23 h;rw[Zdu]at hl;obtain⟨c0,c1,c2,rfl⟩:=list3 hl;rw[Zgk]at h0;rw[Zi1]at h1 h2;obtain⟨s,e0,rfl⟩:=DataW.trod_bool Tryz.underlying4 h0;obtain⟨a,e1,rfl,_⟩:=DataW.trod_string Tryz.underlying9 h1;obtain⟨d,e2,rfl,_⟩:=DataW.trod_string Tryz.underlying9 h2;simp at e0 e1 e2;subst e0 e1 e2;exact⟨s,a,d,rfl,rfl⟩
theorem ZkJ{fuel:Nat}{cs:List Value}{x:DataW H×List MemPlace}(h:DataW.trod enc Tryz.prog w base sp held fuel 25 cs=some x):
  ∃s a d s' a' d',cs= [.bool s,.string a,.string d,.bool s',.string a',.string d']/\x=(.agg [rd H s a d,rd H s' a' d'], []):=by
 obtain⟨y0,y1,n,rfl,hl,h0,h1⟩:=trod_struct2 Tryz.underlying25 h;have hl6:cs.length=6:=hl.trans ωr;rw[Zdu]at h0 h1;obtain⟨s,a,d,e0,rfl⟩:=Zeb h0;obtain⟨s',a',d',e1,rfl⟩:=Zeb h1;obtain⟨c0,c1,c2,c3,c4,c5,rfl⟩:=list6 hl6;simp at e0 e1;obtain⟨rfl,rfl,rfl⟩:=e0;obtain⟨rfl,rfl,rfl⟩:=e1;exact⟨s,a,d,s',a',d',rfl,rfl⟩
theorem Zn8{fuel:Nat}{cs:List Value}{x:DataW H×List MemPlace}(h:DataW.trod enc Tryz.prog w base sp held fuel 27 cs=some x):
  ∃b s a d,cs= [.bool b,.bool s,.string a,.string d]/\x=(.agg [.lit (.bool b),rd H s a d], []):=by
 obtain⟨y0,y1,n,rfl,hl,h0,h1⟩:=trod_struct2 Tryz.underlying27 h;have hl6:cs.length=4:=hl.trans ωr;rw[Zgk]at h0;rw[Zdu]at h1;obtain⟨b,e0,rfl⟩:=DataW.trod_bool Tryz.underlying4 h0;obtain⟨s',a',d',e1,rfl⟩:=Zeb h1;obtain⟨c0,c1,c2,c3,rfl⟩:=list4 hl6;simp at e0 e1;obtain rfl:=e0;obtain⟨rfl,rfl,rfl⟩:=e1;exact⟨b,s',a',d',rfl,rfl⟩
theorem Zi0:Tryz.prog.cellsOf 25=6:=ωr
theorem Znp:Tryz.prog.cellsOf 27=4:=ωr
theorem list10{α:Type}{cs:List α}(h:cs.length=10):∃a b c d e f g i j k,cs= [a,b,c,d,e,f,g,i,j,k]:=by
 match cs,h with
 | [a,b,c,d,e,f,g,i,j,k],_=>exact⟨a,b,c,d,e,f,g,i,j,k,rfl⟩
theorem Zmn{fuel:Nat}{cs:List Value}{x:DataW H×List MemPlace}(h:DataW.trod enc Tryz.prog w base sp held fuel 29 cs=some x):
  ∃s a d s' a' d' b s2 a2 d2,cs= [.bool s,.string a,.string d,.bool s',.string a',.string d',.bool b,.bool s2,.string a2,.string d2]/\x=(.agg [.agg [rd H s a d,rd H s' a' d'],.agg [.lit (.bool b),rd H s2 a2 d2]], []):=by
 obtain⟨y0,y1,n,rfl,hl,h0,h1⟩:=trod_struct2 Tryz.underlying29 h;have hl6:cs.length=10:=hl.trans ωr;rw[Zi0]at h0;rw[Znp]at h1;obtain⟨s,a,d,s',a',d',e0,rfl⟩:=ZkJ h0;obtain⟨b,s2,a2,d2,e1,rfl⟩:=Zn8 h1;obtain⟨c0,c1,c2,c3,c4,c5,c6,c7,c8,c9,rfl⟩:=list10 hl6;simp at e0 e1;obtain⟨rfl,rfl,rfl,rfl,rfl,rfl⟩:=e0;obtain⟨rfl,rfl,rfl,rfl⟩:=e1;exact⟨s,a,d,s',a',d',b,s2,a2,d2,rfl,rfl⟩
variable{r:Reach}{b0:Nat}{v:Value}{d:DataW H}{ps:List MemPlace}
end
theorem Zjj{W : World}{rest : List (String × DataW Unit)}(h : laidMet Tryz.prog (("math/bits.deBruijn64tab", Rows.laid_math_bits_deBruijn64tab) :: rest) W) : Tab W := by
 have hT : Lib.TabIs Tryz.prog W "math/bits.deBruijn64tab" .u8 (Lib.deBruijn64tab.map Int.ofNat) :=
  Lib.tabIs_of_head (g:=3) (rest:=rest) ωr ωr Tryz.underlying293 Tryz.underlying5 ωr ωr h
 intro j hj;have:=hT.cell (g:=3) ωr j (by simpa using hj);rw[this];simp only[List.getD_eq_getElem?_getD,List.getElem?_map];rw[gE hj];rfl
open eng
section
variable{H:Type}{enc:TypeId×Value->H}{w:World}{base:Nat}{sp:Nat->Bool}{held:Bool}
theorem Zut{a:Addr}(hs:a.spot=none)(i j:Nat):(a.add i).add j=⟨a.block,a.off+i+j,none⟩:=by
 obtain⟨b,o,s⟩:=a;simp only at hs;subst hs;unfold Addr.add;by_cases h1:i=0<;>by_cases h2:j=0<;>simp[h1,h2]
instance:Inhabited RV:=⟨z0⟩
theorem ZnO(x:RV):x.z<=Rows.uptoBulk (rd H x.s x.a x.d):=by rw[Zkf];unfold RV.z;omega
end
