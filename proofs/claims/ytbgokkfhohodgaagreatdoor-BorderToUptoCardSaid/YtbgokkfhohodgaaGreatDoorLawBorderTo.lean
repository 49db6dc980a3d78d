/- Proved: gantlaw1.BorderTo returns true, for all arguments of bulk at most 1048576: To returns the specified bits for all spans. Conditions: the bulk of the arguments (the second form). -/
import Derived.Test.YtbgokkfhohodgaaGreatDoorRow
import Derived.Test.YtbgokkfhohodgaaGreatDoorGrpW
import Derived.Test.YtbgokkfhohodgaaGreatDoorGrpd
set_option maxRecDepth 100000
namespace Go.Proofs.YtbgokkfhohodgaaGreatDoor.borderTo
open Go.ChangeShapes Go.WideShapes Go.ChangeAt Go.RowKit row argopen
open Go.ChangeMaps (open_string)
theorem reads_ok (t:TypeId) (ht:t∈Tryz.f5.params.toList):Tryz.prog.readableRec t=true∧t< Tryz.prog.types.size:=by
 rw [Tryz.params5] at ht
 have h:t=55:=by simpa using ht
 rcases h with rfl
 ·exact⟨by kernel_rfl,of_decide_eq_true (by kernel_rfl)⟩
theorem contract (H:Type) (enc:TypeId×Value→H) (W:World) (base:Nat) (args:Array Value) (ds gs:List (DataW H)) (before:List MemPlace)
  (hval:∀ (j:Nat) t v,Tryz.f5.params[j]? =some t→args[j]? =some v→Value.okWide Tryz.prog W .any base t v)
  (hW:DataW.Whole enc Tryz.prog Tryz.f5.params.toList Rows.borderToSpec.vars false W args.toList ds gs before)
  (hz:(DataW.weightsEach Tryz.prog (Tryz.f5.params.toList++ []) (ds++gs)).all (· ≤reachBytes)=true) (hk:Rows.uptoSmall H (ds++gs)=true) (hL:laidMet Tryz.prog Rows.borderToUptoRow.laid W):
  Calls Tryz.prog 5 args W fun e W'=>∃ v,e= .returned v∧Rows.borderToSpec.post enc Tryz.prog Tryz.f5 false true false false W args v W':=by
 have hW':=hW
 obtain⟨p,q,hA0,hV,rfl,hfz,hnd⟩:=hW
 have hA:DataW.TrodAll enc Tryz.prog W 0 (fun _=>true) true Tryz.f5.params.toList args.toList ds p:=hA0
 rw [Tryz.params5] at hA hval hz
 obtain⟨v0,vs0,d0,ds0,p0,q0,hargs,rfl,rfl,h0,r0⟩:=trodAll_cons hA
 obtain⟨rfl,rfl,rfl⟩:=trodAll_nil r0
 obtain rfl:args=#[v0]:=by cases args;simp_all
 obtain⟨rfl,rfl⟩:=trodVars_none hV
 obtain⟨s00,a00,d00,s01,a01,d01,rfl,rfl,rfl⟩:=Zh8 (hval 0 55 v0 rfl rfl) h0
 have hB:=ZgB hk
 simp only [List.append_nil,Rows.uptoBulkAll,Rows.uptoBulk,ZkN] at hB
 refine(eng.borderTo_walk s00 a00 d00 s01 a01 d01 1048576 W (by omega) (by omega) (by omega) (by omega) (by omega) (by omega) (ZeX hL)).mono fun e W' ⟨he,hb⟩=> ?_
 subst he
 exact⟨_,rfl,ZjO laidOut (fun t ht=>reads_ok t ht) 4 Tryz.underlying4 rfl rfl hW' rfl rfl rfl hb⟩
theorem laid_met (os:Os):laidMet Tryz.prog Rows.borderToUptoRow.laid ((laidWorld os).forCall (fun _ _=>0) ⟨#[],#[.agg #[.bool false,.string ⟨#[]⟩,.string ⟨#[]⟩,.bool false,.string ⟨#[]⟩,.string ⟨#[]⟩]], []⟩).memory:=
 laidMet_of_run' 8 (by kernel_rfl) (by kernel_rfl)
theorem reads (os:Os) {H:Type} (enc:TypeId×Value→H):∃ places,DataW.whole enc Tryz.prog ((laidWorld os).forCall (fun _ _=>0) ⟨#[],#[.agg #[.bool false,.string ⟨#[]⟩,.string ⟨#[]⟩,.bool false,.string ⟨#[]⟩,.string ⟨#[]⟩]], []⟩).memory Tryz.f5.params.toList Rows.borderToSpec.vars false #[Value.agg #[.bool false,.string ⟨#[]⟩,.string ⟨#[]⟩,.bool false,.string ⟨#[]⟩,.string ⟨#[]⟩]].toList 8=some ([.agg [.agg [.lit (.bool false),.lit (.string []),.lit (.string [])],.agg [.lit (.bool false),.lit (.string []),.lit (.string [])]]], [],places):=
 ⟨[],by kernel_rfl⟩
theorem lifted (os:Os) (started:os.Started) (H:Type) (enc:TypeId×Value→H) (F:Stop.Interp):
  ReturnsInHanded {} Tryz.checked os 5 .any ((Rows.OpenSpec.upto Rows.borderToSpec).preRow enc Tryz.prog Tryz.f5 Rows.borderToUptoRow.domain false Rows.borderToUptoRow.laid) (((Rows.OpenSpec.upto Rows.borderToSpec).at F).post enc Tryz.prog Tryz.f5 false true false false):=by
 obtain⟨places,hx⟩:=reads os enc
 refine returnsInHanded_of_row (C:=Tryz.checked) (s:=Rows.OpenSpec.upto Rows.borderToSpec) own started (by kernel_rfl) Tryz.func5
  (witness_row_at (enc:=enc) (C:=Tryz.checked) false (laidWorld os) #[.agg #[.bool false,.string ⟨#[]⟩,.string ⟨#[]⟩,.bool false,.string ⟨#[]⟩,.string ⟨#[]⟩]] rfl (by kernel_rfl) (by kernel_rfl) (by kernel_rfl)
   (OpenSpec.preRow_of_cond 8 hx (by kernel_rfl) (fun k hk=>by cases hk;kernel_rfl) (by kernel_rfl) (laid_met os))) ?_
 intro W base args ds gs before hval hW _ hcond hz hL _ _
 exact contract H enc W base args ds gs before hval hW hz (hcond _ rfl) hL
theorem j0:OpenClaim.wf (OpenSpec.ofChange (Rows.OpenSpec.upto Rows.borderToSpec).bare) Rows.borderToUptoRow=true:=by kernel_rfl
theorem j1:laidOutB Tryz.pinned.checked.prog=true:=by kernel_rfl
theorem j2:mapsRowed Tryz.pinned.checked.prog=true:=by kernel_rfl
theorem j3:namedTie Tryz.pinned.checked.prog Rows.borderToUptoRow.named (Rows.OpenSpec.upto Rows.borderToSpec).bare.vars=true:=by kernel_rfl
theorem j4:(Rows.borderToUptoRow.inPlace==Tryz.pinned.checked.prog.inPlace 5)=true:=by kernel_rfl
theorem j5:(Rows.borderToUptoRow.unfollowed==Tryz.pinned.checked.prog.unfollowed 5)=true:=by kernel_rfl
theorem j6:(Rows.borderToUptoRow.recurses==Tryz.pinned.checked.prog.recurses 5)=true:=by kernel_rfl
theorem j7:(Rows.borderToUptoRow.named==Tryz.pinned.checked.prog.varsNamed 5)=true:=by kernel_rfl
theorem j8:(Rows.borderToUptoRow.plainKeys==Tryz.pinned.checked.prog.plainKeys)=true:=by kernel_rfl
theorem j9:Tryz.pinned.checked.prog.stopsHeard=true:=by kernel_rfl
theorem j10:Tryz.pinned.checked.prog.mayEnter=true:=by kernel_rfl
theorem j11:(Rows.borderToUptoRow.lifted==Tryz.pinned.checked.prog.liftsFinal)=true:=by kernel_rfl
theorem j12:(Tryz.pinned.checked.prog.make==some Rows.borderToUptoRow.make)=true:=by kernel_rfl
theorem and_t {a b:Bool} (ha:a=true) (hb:b=true):(a&&b)=true:=by rw [ha,hb];rfl
set_option maxHeartbeats 8000000 in
theorem joined:joinedFacts Tryz.pinned.checked.prog 5 Tryz.f5 (Rows.OpenSpec.upto Rows.borderToSpec).bare Rows.borderToUptoRow=true:=by
 unfold joinedFacts
 repeat' (with_reducible refine and_t ?_ ?_)
 all_goals first|with_reducible exact j0|with_reducible exact j1|with_reducible exact j2|with_reducible exact j3|with_reducible exact j4|with_reducible exact j5|with_reducible exact j6|with_reducible exact j7|with_reducible exact j8|with_reducible exact j9|with_reducible exact j10|with_reducible exact j11|with_reducible exact j12|(as_aux_lemma=>kernel_rfl)
set_option maxHeartbeats 8000000 in
theorem said:Rows.BorderToUptoSaid:=
 OpenClaim.holds_of_cond 5 Tryz.f5 rfl rfl rfl rfl rfl rfl rfl ⟨rfl,rfl,rfl,rfl,rfl⟩ rfl rfl rfl rfl rfl (by kernel_rfl) Tryz.func5 joined
  (of_decide_eq_true (by kernel_rfl)) (by unfold Func.isWrapper;rw [if_neg (of_decide_eq_false (by kernel_rfl))];exact⟨rfl,rfl⟩)
  (fun os started H enc _ F=>by rw [OpenClaim.pre_eq_preRow];exact lifted os started H enc F)
theorem plain (f : FuncId) (fn : Func) (hf : Tryz.pinned.checked.prog.funcNamed "gantry/gantlaw1.BorderTo" = some f) (hfn : Tryz.pinned.checked.prog.funcs[f]? = some fn) :
  false=Tryz.pinned.checked.prog.looks []∧∀ (j:Nat) t,fn.params[j]? =some t→Tryz.pinned.checked.prog.wantsStandIn t=false:=by
 obtain rfl : f = 5 := Option.some.inj ((show Tryz.prog.funcNamed "gantry/gantlaw1.BorderTo" = some 5 by kernel_rfl).symm.trans hf) |>.symm
 obtain rfl:fn=Tryz.f5:=(Option.some.inj (Tryz.func5.symm.trans hfn)).symm
 refine⟨by kernel_rfl,fun j t ht=> ?_⟩
 rw [Tryz.params5] at ht
 have h:t∈ [55]:=by simpa using Array.mem_of_getElem? ht
 simp only [List.mem_cons,List.mem_nil_iff,or_false] at h
 rcases h with rfl
 ·exact(show Tryz.prog.wantsStandIn 55=false by kernel_rfl)
theorem card:Rows.BorderToUptoCardSaid:=
 Claim7.holds_tied_plain_at .later [] _ _ _ _ said (fun _ h=>by cases h) (by kernel_rfl) (fun _ h=>by cases h) borderToUpto_row_tie rfl ⟨rfl,rfl⟩ (by kernel_rfl) rfl plain (by kernel_rfl)
#print axioms card
end Go.Proofs.YtbgokkfhohodgaaGreatDoor.borderTo
