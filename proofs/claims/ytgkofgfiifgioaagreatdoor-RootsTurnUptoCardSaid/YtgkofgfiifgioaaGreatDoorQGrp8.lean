/- Joined by wip/bundle.py: XRefC XRefD XConv XRefE XRefF XOwn XNatK XRefG XLawA XRefH XRefI. -/
import Derived.Test.YtgkofgfiifgioaaGreatDoorQGrpJ
import Derived.StillTailTactics
import Derived.Lib.ConvBytes
import Derived.Shelf.Strings.SlTrimAscii
namespace Go.Proofs.YtgkofgfiifgioaaGreatDoor.refC
open Go.RowKit num mem natA natB natC natD refA refB
end Go.Proofs.YtgkofgfiifgioaaGreatDoor.refC
namespace Go.Proofs.YtgkofgfiifgioaaGreatDoor.refD
open Go.RowKit num mem natA natB natC natD refA refB refC
end Go.Proofs.YtgkofgfiifgioaaGreatDoor.refD
namespace Go.Proofs.YtgkofgfiifgioaaGreatDoor.num
def sumTo (f:Nat→Nat):Nat→Nat
 |0=>0
 |n+1=>sumTo f n+f n
def conv (f g:Nat→Nat) (i:Nat):Nat:=sumTo (fun k=>f k*g (i - k)) (i+1)
end Go.Proofs.YtgkofgfiifgioaaGreatDoor.num
namespace Go.Proofs.YtgkofgfiifgioaaGreatDoor.refE
open Go.RowKit num mem natA natB natC natD refA refB refC refD
end Go.Proofs.YtgkofgfiifgioaaGreatDoor.refE
namespace Go.Proofs.YtgkofgfiifgioaaGreatDoor.refF
open Go.RowKit num mem natA natB natC natD refA refB refC refD refE
theorem nv_one:nv ⟨#[1]⟩=1:=ωd
end Go.Proofs.YtgkofgfiifgioaaGreatDoor.refF
namespace Go.Proofs.YtgkofgfiifgioaaGreatDoor.mem
open Go.RowKit
end Go.Proofs.YtgkofgfiifgioaaGreatDoor.mem
namespace Go.Proofs.YtgkofgfiifgioaaGreatDoor.natK
open Go.RowKit num mem natA natB natC natD natE natI dec refA refB natJ
def chr (s:ByteArray) (j:Nat):Nat:=(s.data.toList.getD j 0).toNat
def readable (s:ByteArray):Prop:=s.size≠0∧¬ (1< s.size∧chr s 0=48)∧∀ j,j< s.size→48≤chr s j∧chr s j≤57
instance (s:ByteArray):Decidable (readable s):=by unfold readable;infer_instance
end Go.Proofs.YtgkofgfiifgioaaGreatDoor.natK
namespace Go.Proofs.YtgkofgfiifgioaaGreatDoor.refG
open Go.RowKit num mem natA natB natC natD dec refA refB natJ natK
def bv (l:List Nat):Nat:=l.foldl (fun v d=>v*256+d) 0
def Cells (w:World) (b:Nat) (L:List Nat):Prop:=∀ i,i< L.length→w.cell? ⟨b,i,none⟩=some (.int .u8 ((L.getD i 0:Nat):Int))
theorem Cells.below {w w':World} {b B:Nat} {L:List Nat} (h:Cells w b L) (hb:Below B w w') (hB:b< B):Cells w' b L:=by
 intro i hi
 have:=h i hi
 unfold World.cell? at this ⊢
 rw [hb.block b hB]
 exact this
theorem Pre.cells {w:World} {b T cap:Nat} {L:List Nat} (h:Pre w b T cap (nums .u8 L)):Cells w b L:=fun _ hi=>h.int hi
end Go.Proofs.YtgkofgfiifgioaaGreatDoor.refG
namespace Go.Proofs.YtgkofgfiifgioaaGreatDoor.lawA
open Go.RowKit num mem natA natB natC natD refA refB refC refD
theorem ZqG (s:ByteArray) (c:UInt8) (r:List UInt8) (hs:s.data.toList=c :: r) (hc:c≠0) (n:Nat) (hn:nv s=n):enc n=s:=by
 rw [← hn]
 apply ZaK
 intro c' r' h
 rw [hs] at h
 injection h with h1 _
 rw [← h1];exact hc
end Go.Proofs.YtgkofgfiifgioaaGreatDoor.lawA
namespace Go.Proofs.YtgkofgfiifgioaaGreatDoor.refH
open Go.RowKit num mem natA natB natC natD dec refA refB refC refD refE natJ natK lawA
theorem enc_one:enc 1=⟨#[1]⟩:=ZqG _ 1 [] rfl ωd _ ωd
end Go.Proofs.YtgkofgfiifgioaaGreatDoor.refH
namespace Go.Proofs.YtgkofgfiifgioaaGreatDoor.refI
open Go.RowKit num mem natA natB natC natD refA refB refC refD refE refF
