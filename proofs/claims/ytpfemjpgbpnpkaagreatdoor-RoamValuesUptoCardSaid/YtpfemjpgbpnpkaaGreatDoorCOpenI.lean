/- Arguments of a claim: lists of whole numbers. -/
import Derived.Test.YtpfemjpgbpnpkaaGreatDoorCOpenA
import Derived.Test.YtpfemjpgbpnpkaaGreatDoorCRoa0
set_option maxRecDepth 100000
namespace Go.Proofs.YtpfemjpgbpnpkaaGreatDoor.argopen
open Go.RowKit Go.ChangeShapes Go.WideShapes Go.ChangeAt num mem seg q eng
variable {H : Type} {enc : TypeId × Value → H} {w : World} {base : Nat} {sp : Nat → Bool} {held : Bool} {I : Nat → Prop}
def Rint (x:Int) (d:DataW H):Prop:=1≤Rows.uptoBulk d∧-9223372036854775808≤x∧x≤9223372036854775807
theorem ZiF {fuel:Nat} {cs:List Value} {x:DataW H×List MemPlace} (h:DataW.trod enc Tryz.prog w base sp held fuel 3 cs=some x):∃ a:Int,Rint a x.1∧Cells w I cs (eng.intD a):=by
 obtain⟨k,rfl,rfl,hw⟩:=DataW.trod_int Tryz.underlying3 h
 have:-9223372036854775808≤k∧k≤9223372036854775807:=by have:=hw;simp [Lit.wf,IntKind.min,IntKind.max,IntKind.signed,IntKind.bits] at this;omega
 exact⟨k,⟨by simp only [Rows.uptoBulk];omega,this⟩,Cells.nil.cons (Den.v _ rfl)⟩
def intsZ (l:List Int) (B:Nat):Prop:=l.length≤B∧∀ x,x∈l→-9223372036854775808≤x∧x≤9223372036854775807
theorem Zmr {l:List Int} {B C:Nat} (h:intsZ l B) (hB:B≤C):intsZ l C:=⟨Nat.le_trans h.1 hB,h.2⟩
theorem Zjl {r:Reach} {b0:Nat} {v:Value} {d:DataW H} {ps:List MemPlace} (hval:Value.okWide Tryz.prog w r b0 88 v) (hd:DataW.Trod enc Tryz.prog w base sp held 88 v d ps) (hI:∀ b,b< w.heap.size→I b):
  ∃ l:List Int,Den w I v (.list (l.map eng.intD))∧intsZ l (Rows.uptoBulk d):=by
 obtain⟨av,len,cap,rfl⟩:=okWide_slice Tryz.underlying88 hval
 obtain⟨fuel,hf⟩:=hd
 obtain⟨v,l,ds,g2,hdl,hr,hx⟩:=Zbd (R:=Rint) eng.intD (by decide) (fun _=>rfl) Tryz.underlying88 (by kernel_rfl) (fun fuel cs x h=>ZiF h) hI hf
 obtain⟨h1,h2,h3⟩:=Zbp (d:=d) hr hx fun a x h=>h.1
 obtain rfl:=(List.cons.inj g2).1
 exact⟨l,hdl,by omega,fun k hk=>by obtain⟨x,⟨_,a⟩,g⟩:=h3 k hk;exact a⟩
end Go.Proofs.YtpfemjpgbpnpkaaGreatDoor.argopen
