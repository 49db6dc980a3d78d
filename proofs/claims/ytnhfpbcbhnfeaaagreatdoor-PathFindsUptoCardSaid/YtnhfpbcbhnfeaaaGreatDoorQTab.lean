/- The contracts of math/bits.TrailingZeros64 and Sub64, laid at this program. -/
import Derived.Shelf.Spec.TrailingZeros
import Derived.Shelf.Spec.BitsCarry
import Derived.Test.YtnhfpbcbhnfeaaaGreatDoorProg
namespace Go.Proofs.YtnhfpbcbhnfeaaaGreatDoor
universe u
theorem oT{p:Prop}[Decidable p]:decide p=true->p:=of_decide_eq_true
theorem oF{p:Prop}[Decidable p]:decide p=false->¬p:=of_decide_eq_false
theorem gS{α:Type u}{l:List α}{i:Nat}{a:α}:l[i]? =some a->∃h:i<l.length,l[i]=a:=List.getElem?_eq_some_iff.1
theorem nN{a:Prop}:¬¬a->a:=Classical.not_not.1
theorem sI{α:Type u}{a b:α}:some a=some b->a=b:=Option.some.inj
theorem mG{α:Type u}{l:List α}{i:Nat}{a:α}:l[i]? =some a->a∈l:=List.mem_of_getElem?
theorem gE{α:Type u}{l:List α}{i:Nat}(h:i<l.length):l[i]? =some l[i]:=List.getElem?_eq_getElem h
end Go.Proofs.YtnhfpbcbhnfeaaaGreatDoor
namespace Go.Proofs
open Go.Shelf
def Tryz.lays7_29_ren:Go.Shelf.Ren:=⟨fun|29=>237|n=>n,fun|0=>0|3=>3|4=>4|5=>5|22=>152|25=>145|54=>293|n=>n,fun|1=>3|n=>n⟩
theorem Tryz.lays7_29:Go.Proofs.Lays7.n29 Tryz.prog Tryz.lays7_29_ren:={
 mixed:=by kernel_rfl
 f29:=Tryz.func237.trans (congrArg some (by kernel_rfl))
 t0:=Tryz.underlying0
 a0:=Tryz.isAgg0
 z0:=Tryz.sizeOf0
 v0:=Tryz.zeroValue0
 i0:=by kernel_rfl
 t3:=Tryz.underlying3
 a3:=Tryz.isAgg3
 z3:=Tryz.sizeOf3
 v3:=Tryz.zeroValue3
 i3:=by kernel_rfl
 t4:=Tryz.underlying4
 a4:=Tryz.isAgg4
 z4:=Tryz.sizeOf4
 v4:=Tryz.zeroValue4
 i4:=by kernel_rfl
 t5:=Tryz.underlying5
 a5:=Tryz.isAgg5
 z5:=Tryz.sizeOf5
 v5:=Tryz.zeroValue5
 i5:=by kernel_rfl
 t22:=Tryz.underlying152
 a22:=Tryz.isAgg152
 z22:=Tryz.sizeOf152
 v22:=Tryz.zeroValue152
 i22:=by kernel_rfl
 t25:=Tryz.underlying145
 a25:=Tryz.isAgg145
 z25:=Tryz.sizeOf145
 v25:=Tryz.zeroValue145
 i25:=by kernel_rfl
 t54:=Tryz.underlying293
 a54:=Tryz.isAgg293
 z54:=Tryz.sizeOf293
 g1:=by kernel_rfl }
def Tryz.lays7_26_ren:Go.Shelf.Ren:=⟨fun|26=>239|n=>n,fun|22=>152|n=>n,fun|n=>n⟩
theorem Tryz.lays7_26:Go.Proofs.Lays7.n26 Tryz.prog Tryz.lays7_26_ren:={
 mixed:=by kernel_rfl
 f26:=Tryz.func239.trans (congrArg some (by kernel_rfl))
 t22:=Tryz.underlying152
 a22:=Tryz.isAgg152
 z22:=Tryz.sizeOf152
 v22:=Tryz.zeroValue152
 i22:=by kernel_rfl }
