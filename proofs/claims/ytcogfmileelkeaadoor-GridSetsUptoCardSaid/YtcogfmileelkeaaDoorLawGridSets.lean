/- Proved: gantlaw1.GridSets returns true, for all arguments of bulk at most 1048576: Check, Join, Meet, Minus and Within return the specified results for all lists. Conditions: the bulk of the arguments (the second form). -/
import Derived.Test.YtcogfmileelkeaaDoorRow
import Derived.Test.YtcogfmileelkeaaDoorGrpW
import Derived.Test.YtcogfmileelkeaaDoorOpenA
import Derived.Test.YtcogfmileelkeaaDoorGrpCa
import Derived.Test.YtcogfmileelkeaaDoorGrpGd
set_option maxRecDepth 100000
namespace Go.Proofs.YtcogfmileelkeaaDoor.gridSets
open Go.ChangeShapes Go.WideShapes Go.ChangeAt Go.RowKit row argopen
open Go.ChangeMaps (open_string)
theorem reads_ok (t:TypeId) (ht:t∈Tryd.f3.params.toList):Tryd.prog.readableRec t=true∧t< Tryd.prog.types.size:=by
 rw [Tryd.params3] at ht
 have h:t∈ [22,22]:=ht
 simp only [List.mem_cons,List.mem_nil_iff,or_false] at h
 rcases h with rfl|rfl
 ·exact⟨by kernel_rfl,of_decide_eq_true (by kernel_rfl)⟩
 ·exact⟨by kernel_rfl,of_decide_eq_true (by kernel_rfl)⟩
theorem contract (H:Type) (enc:TypeId×Value→H) (W:World) (base:Nat) (args:Array Value) (ds gs:List (DataW H)) (before:List MemPlace)
  (hval:∀ (j:Nat) t v,Tryd.f3.params[j]? =some t→args[j]? =some v→Value.okWide Tryd.prog W .any base t v)
  (hW:DataW.Whole enc Tryd.prog Tryd.f3.params.toList Rows.gridSetsSpec.vars false W args.toList ds gs before)
  (hz:(DataW.weightsEach Tryd.prog (Tryd.f3.params.toList++ []) (ds++gs)).all (· ≤reachBytes)=true) (hk:Rows.uptoSmall H (ds++gs)=true) (hL:laidMet Tryd.prog Rows.gridSetsUptoRow.laid W):
  Calls Tryd.prog 3 args W fun e W'=>∃ v,e= .returned v∧Rows.gridSetsSpec.post enc Tryd.prog Tryd.f3 false true false false W args v W':=by
 have hW':=hW
 obtain⟨p,q,hA0,hV,rfl,hfz,hnd⟩:=hW
 have hA:DataW.TrodAll enc Tryd.prog W 0 (fun _=>true) true Tryd.f3.params.toList args.toList ds p:=hA0
 rw [Tryd.params3] at hA hval hz
 obtain⟨v0,vs0,d0,ds0,p0,q0,hargs,rfl,rfl,h0,r0⟩:=trodAll_cons hA
 obtain⟨v1,vs1,d1,ds1,p1,q1,rfl,rfl,rfl,h1,r1⟩:=trodAll_cons r0
 obtain⟨rfl,rfl,rfl⟩:=trodAll_nil r1
 obtain rfl:args=#[v0,v1]:=by cases args;simp_all
 obtain⟨rfl,rfl⟩:=trodVars_none hV
 obtain⟨l0,hd0,m0⟩:=Zc6 (hval 0 22 v0 rfl rfl) h0 (I:=fun b=>b< W.heap.size) (fun _ h=>h)
 obtain⟨l1,hd1,m1⟩:=Zc6 (hval 1 22 v1 rfl rfl) h1 (I:=fun b=>b< W.heap.size) (fun _ h=>h)
 have hB:=Zgv hk
 simp only [List.append_nil,Rows.uptoBulkAll] at hB
 refine(eng.gridSets_walk v0 l0 v1 l1 1048576 W (by omega) (by omega) hd0 (Zfz m0 (by omega)) hd1 (Zfz m1 (by omega)) (ZeM hL)).mono fun e W' ⟨he,hb⟩=> ?_
 subst he
 exact⟨_,rfl,Zjf laidOut (fun t ht=>reads_ok t ht) 4 Tryd.underlying4 rfl rfl hW' rfl rfl rfl hb⟩
theorem laid_met (os:Os):laidMet Tryd.prog Rows.gridSetsUptoRow.laid ((laidWorld os).forCall (fun _ _=>0) ⟨#[],#[.slice none 0 0,.slice none 0 0], []⟩).memory:=
 laidMet_of_run' 8 (by kernel_rfl) (by kernel_rfl)
theorem reads (os:Os) {H:Type} (enc:TypeId×Value→H):∃ places,DataW.whole enc Tryd.prog ((laidWorld os).forCall (fun _ _=>0) ⟨#[],#[.slice none 0 0,.slice none 0 0], []⟩).memory Tryd.f3.params.toList Rows.gridSetsSpec.vars false #[Value.slice none 0 0,Value.slice none 0 0].toList 8=some ([.nil,.nil], [],places):=
 ⟨[],by kernel_rfl⟩
theorem lifted (os:Os) (started:os.Started) (H:Type) (enc:TypeId×Value→H) (F:Stop.Interp):
  ReturnsInHanded {} Tryd.checked os 3 .any ((Rows.OpenSpec.upto Rows.gridSetsSpec).preRow enc Tryd.prog Tryd.f3 Rows.gridSetsUptoRow.domain false Rows.gridSetsUptoRow.laid) (((Rows.OpenSpec.upto Rows.gridSetsSpec).at F).post enc Tryd.prog Tryd.f3 false true false false):=by
 obtain⟨places,hx⟩:=reads os enc
 refine returnsInHanded_of_row (C:=Tryd.checked) (s:=Rows.OpenSpec.upto Rows.gridSetsSpec) own started (by kernel_rfl) Tryd.func3
  (witness_row_at (enc:=enc) (C:=Tryd.checked) false (laidWorld os) #[.slice none 0 0,.slice none 0 0] rfl (by kernel_rfl) (by kernel_rfl) (by kernel_rfl)
   (OpenSpec.preRow_of_cond 8 hx (by kernel_rfl) (fun k hk=>by cases hk;kernel_rfl) (by kernel_rfl) (laid_met os))) ?_
 intro W base args ds gs before hval hW _ hcond hz hL _ _
 exact contract H enc W base args ds gs before hval hW hz (hcond _ rfl) hL
theorem j0:OpenClaim.wf (OpenSpec.ofChange (Rows.OpenSpec.upto Rows.gridSetsSpec).bare) Rows.gridSetsUptoRow=true:=by kernel_rfl
theorem j1:laidOutB Tryd.pinned.checked.prog=true:=by kernel_rfl
theorem j2:mapsRowed Tryd.pinned.checked.prog=true:=by kernel_rfl
theorem j3:namedTie Tryd.pinned.checked.prog Rows.gridSetsUptoRow.named (Rows.OpenSpec.upto Rows.gridSetsSpec).bare.vars=true:=by kernel_rfl
theorem j4:(Rows.gridSetsUptoRow.inPlace==Tryd.pinned.checked.prog.inPlace 3)=true:=by kernel_rfl
theorem j5:(Rows.gridSetsUptoRow.unfollowed==Tryd.pinned.checked.prog.unfollowed 3)=true:=by kernel_rfl
theorem j6:(Rows.gridSetsUptoRow.recurses==Tryd.pinned.checked.prog.recurses 3)=true:=by kernel_rfl
theorem j7:(Rows.gridSetsUptoRow.named==Tryd.pinned.checked.prog.varsNamed 3)=true:=by kernel_rfl
theorem j8:(Rows.gridSetsUptoRow.plainKeys==Tryd.pinned.checked.prog.plainKeys)=true:=by kernel_rfl
theorem j9:Tryd.pinned.checked.prog.stopsHeard=true:=by kernel_rfl
theorem j10:Tryd.pinned.checked.prog.mayEnter=true:=by kernel_rfl
theorem j11:(Rows.gridSetsUptoRow.lifted==Tryd.pinned.checked.prog.liftsFinal)=true:=by kernel_rfl
theorem j12:(Tryd.pinned.checked.prog.make==some Rows.gridSetsUptoRow.make)=true:=by kernel_rfl
theorem and_t {a b:Bool} (ha:a=true) (hb:b=true):(a&&b)=true:=by rw [ha,hb];rfl
set_option maxHeartbeats 8000000 in
theorem joined:joinedFacts Tryd.pinned.checked.prog 3 Tryd.f3 (Rows.OpenSpec.upto Rows.gridSetsSpec).bare Rows.gridSetsUptoRow=true:=by
 unfold joinedFacts
 repeat' (with_reducible refine and_t ?_ ?_)
 all_goals first|with_reducible exact j0|with_reducible exact j1|with_reducible exact j2|with_reducible exact j3|with_reducible exact j4|with_reducible exact j5|with_reducible exact j6|with_reducible exact j7|with_reducible exact j8|with_reducible exact j9|with_reducible exact j10|with_reducible exact j11|with_reducible exact j12|(as_aux_lemma=>kernel_rfl)
set_option maxHeartbeats 8000000 in
theorem said:Rows.GridSetsUptoSaid:=
 OpenClaim.holds_of_cond 3 Tryd.f3 rfl rfl rfl rfl rfl rfl rfl ⟨rfl,rfl,rfl,rfl,rfl⟩ rfl rfl rfl rfl rfl (by kernel_rfl) Tryd.func3 joined
  (of_decide_eq_true (by kernel_rfl)) (by unfold Func.isWrapper;rw [if_neg (of_decide_eq_false (by kernel_rfl))];exact⟨rfl,rfl⟩)
  (fun os started H enc _ F=>by rw [OpenClaim.pre_eq_preRow];exact lifted os started H enc F)
theorem plain (f : FuncId) (fn : Func) (hf : Tryd.pinned.checked.prog.funcNamed "gantry/gantlaw1.GridSets" = some f) (hfn : Tryd.pinned.checked.prog.funcs[f]? = some fn) :
  false=Tryd.pinned.checked.prog.looks []∧∀ (j:Nat) t,fn.params[j]? =some t→Tryd.pinned.checked.prog.wantsStandIn t=false:=by
 obtain rfl : f = 3 := Option.some.inj ((show Tryd.prog.funcNamed "gantry/gantlaw1.GridSets" = some 3 by kernel_rfl).symm.trans hf) |>.symm
 obtain rfl:fn=Tryd.f3:=(Option.some.inj (Tryd.func3.symm.trans hfn)).symm
 refine⟨by kernel_rfl,fun j t ht=> ?_⟩
 rw [Tryd.params3] at ht
 have h:t∈ [22,22]:=by simpa using Array.mem_of_getElem? ht
 simp only [List.mem_cons,List.mem_nil_iff,or_false] at h
 rcases h with rfl|rfl
 ·exact(show Tryd.prog.wantsStandIn 22=false by kernel_rfl)
 ·exact(show Tryd.prog.wantsStandIn 22=false by kernel_rfl)
theorem card:Rows.GridSetsUptoCardSaid:=
 Claim7.holds_tied_plain_at .later [] _ _ _ _ said (fun _ h=>by cases h) (by as_aux_lemma=>kernel_rfl) (fun _ h=>by cases h) gridSetsUpto_row_tie rfl ⟨rfl,rfl⟩ (by as_aux_lemma=>kernel_rfl) rfl plain (by as_aux_lemma=>kernel_rfl)
#print axioms card
end Go.Proofs.YtcogfmileelkeaaDoor.gridSets
