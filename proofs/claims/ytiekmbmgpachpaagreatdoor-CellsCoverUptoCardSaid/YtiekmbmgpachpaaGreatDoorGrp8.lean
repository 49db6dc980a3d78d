/- Joined by wip/bundle.py: XRefC XRefD XConv XRefE XRefF XOwn XNatK XRefG XLawA XRefH XRefI. -/
import Derived.Test.YtiekmbmgpachpaaGreatDoorGrpJ
import Derived.Test.YtiekmbmgpachpaaGreatDoorGrpC
import Derived.StillTailTactics
import Derived.Test.YtiekmbmgpachpaaGreatDoorGrpB
import Derived.Lib.ConvBytes
import Derived.Shelf.Strings.SlTrimAscii
namespace Go.Proofs.YtiekmbmgpachpaaGreatDoor.refC
open Go.RowKit num mem natA natB natC natD refA refB
end Go.Proofs.YtiekmbmgpachpaaGreatDoor.refC
namespace Go.Proofs.YtiekmbmgpachpaaGreatDoor.refD
open Go.RowKit num mem natA natB natC natD refA refB refC
end Go.Proofs.YtiekmbmgpachpaaGreatDoor.refD
namespace Go.Proofs.YtiekmbmgpachpaaGreatDoor.num
def sumTo (f:Nat→Nat):Nat→Nat
 |0=>0
 |n+1=>sumTo f n+f n
def conv (f g:Nat→Nat) (i:Nat):Nat:=sumTo (fun k=>f k*g (i - k)) (i+1)
end Go.Proofs.YtiekmbmgpachpaaGreatDoor.num
namespace Go.Proofs.YtiekmbmgpachpaaGreatDoor.refE
open Go.RowKit num mem natA natB natC natD refA refB refC refD
end Go.Proofs.YtiekmbmgpachpaaGreatDoor.refE
namespace Go.Proofs.YtiekmbmgpachpaaGreatDoor.refF
open Go.RowKit num mem natA natB natC natD refA refB refC refD refE
theorem nv_one:nv ⟨#[1]⟩=1:=by decide
end Go.Proofs.YtiekmbmgpachpaaGreatDoor.refF
namespace Go.Proofs.YtiekmbmgpachpaaGreatDoor.mem
open Go.RowKit
end Go.Proofs.YtiekmbmgpachpaaGreatDoor.mem
namespace Go.Proofs.YtiekmbmgpachpaaGreatDoor.natK
open Go.RowKit num mem natA natB natC natD natE natI dec refA refB natJ
def chr (s:ByteArray) (j:Nat):Nat:=(s.data.toList.getD j 0).toNat
def readable (s:ByteArray):Prop:=s.size≠0∧¬ (1< s.size∧chr s 0=48)∧∀ j,j< s.size→48≤chr s j∧chr s j≤57
instance (s:ByteArray):Decidable (readable s):=by unfold readable;infer_instance
end Go.Proofs.YtiekmbmgpachpaaGreatDoor.natK
namespace Go.Proofs.YtiekmbmgpachpaaGreatDoor.refG
open Go.RowKit num mem natA natB natC natD dec refA refB natJ natK
def bv (l:List Nat):Nat:=l.foldl (fun v d=>v*256+d) 0
def Cells (w:World) (b:Nat) (L:List Nat):Prop:=∀ i,i< L.length→w.cell? ⟨b,i,none⟩=some (.int .u8 ((L.getD i 0:Nat):Int))
theorem Cells.below {w w':World} {b B:Nat} {L:List Nat} (h:Cells w b L) (hb:Below B w w') (hB:b< B):Cells w' b L:=by
 intro i hi
 have:=h i hi
 unfold World.cell? at this ⊢
 rw [hb.block b hB]
 exact this
theorem Pre.cells {w:World} {b T cap:Nat} {L:List Nat} (h:Pre w b T cap (nums .u8 L)):Cells w b L:=fun _ hi=>h.int hi
end Go.Proofs.YtiekmbmgpachpaaGreatDoor.refG
namespace Go.Proofs.YtiekmbmgpachpaaGreatDoor.lawA
open Go.RowKit num mem natA natB natC natD refA refB refC refD
theorem Zpm (s:ByteArray) (c:UInt8) (r:List UInt8) (hs:s.data.toList=c :: r) (hc:c≠0) (n:Nat) (hn:nv s=n):enc n=s:=by
 rw [← hn]
 apply ZaC
 intro c' r' h
 rw [hs] at h
 injection h with h1 _
 rw [← h1];exact hc
end Go.Proofs.YtiekmbmgpachpaaGreatDoor.lawA
namespace Go.Proofs.YtiekmbmgpachpaaGreatDoor.refH
open Go.RowKit num mem natA natB natC natD dec refA refB refC refD refE natJ natK lawA
theorem enc_one:enc 1=⟨#[1]⟩:=Zpm _ 1 [] rfl (by decide) _ (by decide)
end Go.Proofs.YtiekmbmgpachpaaGreatDoor.refH
namespace Go.Proofs.YtiekmbmgpachpaaGreatDoor.refI
open Go.RowKit num mem natA natB natC natD refA refB refC refD refE refF
end Go.Proofs.YtiekmbmgpachpaaGreatDoor.refI
