/- The contracts of math/bits.TrailingZeros64 and Sub64, laid at this program. -/
import Derived.Shelf.Spec.TrailingZeros
import Derived.Shelf.Spec.BitsCarry
import Derived.Test.YtcogfmileelkeaaDoorProg
namespace Go.Proofs
open Go.Shelf
def Tryd.lays7_29_ren:Go.Shelf.Ren:=⟨fun|29=>90|n=>n,fun|0=>0|3=>3|4=>4|5=>5|22=>71|25=>66|54=>116|n=>n,fun|1=>1|n=>n⟩
theorem Tryd.lays7_29:Go.Proofs.Lays7.n29 Tryd.prog Tryd.lays7_29_ren:={
 mixed:=by kernel_rfl
 f29:=Tryd.func90.trans (congrArg some (by kernel_rfl))
 t0:=Tryd.underlying0
 a0:=Tryd.isAgg0
 z0:=Tryd.sizeOf0
 v0:=Tryd.zeroValue0
 i0:=by kernel_rfl
 t3:=Tryd.underlying3
 a3:=Tryd.isAgg3
 z3:=Tryd.sizeOf3
 v3:=Tryd.zeroValue3
 i3:=by kernel_rfl
 t4:=Tryd.underlying4
 a4:=Tryd.isAgg4
 z4:=Tryd.sizeOf4
 v4:=Tryd.zeroValue4
 i4:=by kernel_rfl
 t5:=Tryd.underlying5
 a5:=Tryd.isAgg5
 z5:=Tryd.sizeOf5
 v5:=Tryd.zeroValue5
 i5:=by kernel_rfl
 t22:=Tryd.underlying71
 a22:=Tryd.isAgg71
 z22:=Tryd.sizeOf71
 v22:=Tryd.zeroValue71
 i22:=by kernel_rfl
 t25:=Tryd.underlying66
 a25:=Tryd.isAgg66
 z25:=Tryd.sizeOf66
 v25:=Tryd.zeroValue66
 i25:=by kernel_rfl
 t54:=Tryd.underlying116
 a54:=Tryd.isAgg116
 z54:=Tryd.sizeOf116
 g1:=by kernel_rfl }
def Tryd.lays7_26_ren:Go.Shelf.Ren:=⟨fun|26=>92|n=>n,fun|22=>71|n=>n,fun|n=>n⟩
theorem Tryd.lays7_26:Go.Proofs.Lays7.n26 Tryd.prog Tryd.lays7_26_ren:={
 mixed:=by kernel_rfl
 f26:=Tryd.func92.trans (congrArg some (by kernel_rfl))
 t22:=Tryd.underlying71
 a22:=Tryd.isAgg71
 z22:=Tryd.sizeOf71
 v22:=Tryd.zeroValue71
 i22:=by kernel_rfl }
end Go.Proofs
