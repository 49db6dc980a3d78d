/- What every law's row asks behind its walk: the answer true, the arguments read as before, old memory as it was. -/
import Derived.Test.YtnhfpbcbhnfeaaaGreatDoorCards
import Derived.Test.YtnhfpbcbhnfeaaaGreatDoorTie
import Derived.Test.YtnhfpbcbhnfeaaaGreatDoorQGrpB
import Derived.ProofKit
import Derived.OpenShut
import Derived.Deep.DeepHandedRow
import Derived.Lib.LaidTab
import Derived.SizedLaws
namespace Go.Proofs.YtnhfpbcbhnfeaaaGreatDoor.row
open Go.ChangeShapes Go.WideShapes Go.ChangeAt Go.RowKit
theorem own:ownKnob Tryz.prog.godebug=none:=ωr
theorem laidOut:laidOutB Tryz.prog=true:=ωr
section
variable{H:Type}{enc:TypeId×Value->H}{P:Program}{W W':World}
theorem Zgv(hl:laidOutB P=true)(hb:Below W.heap.size W W'):∀(ts:List TypeId)(vs:List Value)(ds:List (DataW H))(ps:List MemPlace),
  (∀t∈ts,P.readableRec t=true/\t<P.types.size)->DataW.TrodAll enc P W 0 (fun _=>true) true ts vs ds ps->(∀x∈ps,x.block<W.heap.size)->
  DataW.TrodAll enc P W' 0 (fun b=>decide (b<W.heap.size)) true ts vs ds ps:=by
 intro ts
 induction ts with
 |nil=>intro vs ds ps _ h _;obtain⟨rfl,rfl,rfl⟩:=trodAll_nil h;exact trodAll_mk0
 |cons t ts ih=>
  intro vs ds ps hr h hlt;obtain⟨v,vs',d,ds',p,q,rfl,rfl,rfl,h1,h2⟩:=trodAll_cons h;refine trodAll_cons_mk ?_ (ih _ _ _ (fun t ht=>hr t (by simp[ht])) h2 (fun x hx=>hlt x (by simp[hx])));have:=hr t (by simp);exact Below.trod hl this.1 this.2 h1 hb (fun x hx=>hlt x (by simp[hx]))
theorem Ztv{fn:Func}{s:ChangeSpec}{args:Array Value}{ds gs:List (DataW H)}{before:List MemPlace}(hl:laidOutB P=true)
 (hr:∀t∈fn.params.toList,P.readableRec t=true/\t<P.types.size)(bt:TypeId)(hbt:P.underlying bt=some .bool)(hres:fn.resultTypes=#[bt])(hvars:s.vars= [])
 (hW:DataW.Whole enc P fn.params.toList s.vars false W args.toList ds gs before)
 (e1:(s.fn H (ds++gs)).results= [.lit (.bool true)])(e2:(s.fn H (ds++gs)).args=ds)(e3:(s.fn H (ds++gs)).vars= [])(hb:Below W.heap.size W W'):
  s.post enc P fn false true false false W args (.bool true) W':=by
 have hW':=hW;obtain⟨p,q,hA,hV,rfl,hfz,hnd⟩:=hW;rw[hvars]at hV;obtain⟨rfl,rfl⟩:=trodVars_none hV;refine⟨ds, [],_, [],p, [],hW',?_,?_,?_,hb.frame _,fun h=>by cases h⟩
 .rw[e1,hres];exact trodAll_cons_mk (shut_bool hbt _) trodAll_mk0
 .rw[e2];exact Zgv hl hb _ _ _ _ hr hA (fun x hx=>hW'.lt x (by simp[hx]))
 .rw[e3,hvars];rfl
end
def cell1:DataW Unit->Value| .lit (.int k n)=>.int k n|_=>undef
def cells2:DataW Unit->List Value| .agg l=>l.map cell1|d=>[cell1 d]
def cells3:DataW Unit->List Value| .agg l=>l.flatMap cells2|d=>[cell1 d]
def layBlock(w:World)(b:Nat)(l:List Value):World:=
 { w with heap:=w.heap.modify b fun| .cells _ t frozen=>.cells l.toArray t frozen|o=>o }
noncomputable def laidWorld(os:Os):World:=
 layBlock (layBlock (layBlock (World.holding Tryz.prog os ⟨#[],#[], []⟩) 1 (cells3 Rows.laid_unicode_utf8_first)) 2 (cells3 Rows.laid_unicode_utf8_acceptRanges)) 3 (cells3 Rows.laid_math_bits_deBruijn64tab)
theorem Zmj{H:Type}{l:List (DataW H)}(h:Rows.uptoSmall H l=true):Rows.uptoBulkAll l<=1048576:=oT h
