/- The contracts of math/bits.TrailingZeros64 and Sub64, laid at this program. -/
import Derived.Shelf.Spec.TrailingZeros
import Derived.Shelf.Spec.BitsCarry
import Derived.Test.YtjlhknppkodilaaGreatDoorProg
namespace Go.Proofs
open Go.Shelf
def Tryz.lays7_29_ren:Go.Shelf.Ren:=⟨fun|29=>111|n=>n,fun|0=>0|3=>3|4=>4|5=>5|22=>100|25=>104|54=>157|n=>n,fun|1=>1|n=>n⟩
theorem Tryz.lays7_29:Go.Proofs.Lays7.n29 Tryz.prog Tryz.lays7_29_ren:={
 mixed:=by kernel_rfl
 f29:=Tryz.func111.trans (congrArg some (by kernel_rfl))
 t0:=Tryz.underlying0
 a0:=Tryz.isAgg0
 z0:=Tryz.sizeOf0
 v0:=Tryz.zeroValue0
 i0:=by kernel_rfl
 t3:=Tryz.underlying3
 a3:=Tryz.isAgg3
 z3:=Tryz.sizeOf3
 v3:=Tryz.zeroValue3
 i3:=by kernel_rfl
 t4:=Tryz.underlying4
 a4:=Tryz.isAgg4
 z4:=Tryz.sizeOf4
 v4:=Tryz.zeroValue4
 i4:=by kernel_rfl
 t5:=Tryz.underlying5
 a5:=Tryz.isAgg5
 z5:=Tryz.sizeOf5
 v5:=Tryz.zeroValue5
 i5:=by kernel_rfl
 t22:=Tryz.underlying100
 a22:=Tryz.isAgg100
 z22:=Tryz.sizeOf100
 v22:=Tryz.zeroValue100
 i22:=by kernel_rfl
 t25:=Tryz.underlying104
 a25:=Tryz.isAgg104
 z25:=Tryz.sizeOf104
 v25:=Tryz.zeroValue104
 i25:=by kernel_rfl
 t54:=Tryz.underlying157
 a54:=Tryz.isAgg157
 z54:=Tryz.sizeOf157
 g1:=by kernel_rfl }
def Tryz.lays7_26_ren:Go.Shelf.Ren:=⟨fun|26=>113|n=>n,fun|22=>100|n=>n,fun|n=>n⟩
theorem Tryz.lays7_26:Go.Proofs.Lays7.n26 Tryz.prog Tryz.lays7_26_ren:={
 mixed:=by kernel_rfl
 f26:=Tryz.func113.trans (congrArg some (by kernel_rfl))
 t22:=Tryz.underlying100
 a22:=Tryz.isAgg100
 z22:=Tryz.sizeOf100
 v22:=Tryz.zeroValue100
 i22:=by kernel_rfl }
end Go.Proofs
