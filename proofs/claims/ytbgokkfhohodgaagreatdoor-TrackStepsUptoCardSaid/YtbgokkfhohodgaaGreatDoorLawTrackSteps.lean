/- Proved: gantlaw3.TrackSteps returns true, for all arguments of bulk at most 1048576: Each yields the ticks of a track with the joint values (the first 100 are compared). Conditions: the bulk of the arguments (the second form). -/
import Derived.Test.YtbgokkfhohodgaaGreatDoorRow
import Derived.Test.YtbgokkfhohodgaaGreatDoorGrpW
import Derived.Test.YtbgokkfhohodgaaGreatDoorOpenA
import Derived.Test.YtbgokkfhohodgaaGreatDoorLawTsp
set_option maxRecDepth 100000
namespace Go.Proofs.YtbgokkfhohodgaaGreatDoor.trackSteps
open Go.ChangeShapes Go.WideShapes Go.ChangeAt Go.RowKit row argopen
open Go.ChangeMaps (open_string)
theorem reads_ok (t:TypeId) (ht:t∈Tryz.f4.params.toList):Tryz.prog.readableRec t=true∧t< Tryz.prog.types.size:=by
 rw [Tryz.params4] at ht
 have h:t=35:=by simpa using ht
 rcases h with rfl
 ·exact⟨by kernel_rfl,of_decide_eq_true (by kernel_rfl)⟩
theorem contract (H:Type) (enc:TypeId×Value→H) (W:World) (base:Nat) (args:Array Value) (ds gs:List (DataW H)) (before:List MemPlace)
  (hval:∀ (j:Nat) t v,Tryz.f4.params[j]? =some t→args[j]? =some v→Value.okWide Tryz.prog W .any base t v)
  (hW:DataW.Whole enc Tryz.prog Tryz.f4.params.toList Rows.trackStepsSpec.vars false W args.toList ds gs before)
  (hz:(DataW.weightsEach Tryz.prog (Tryz.f4.params.toList++ []) (ds++gs)).all (· ≤reachBytes)=true) (hk:Rows.uptoSmall H (ds++gs)=true) (hL:laidMet Tryz.prog Rows.trackStepsUptoRow.laid W):
  Calls Tryz.prog 4 args W fun e W'=>∃ v,e= .returned v∧Rows.trackStepsSpec.post enc Tryz.prog Tryz.f4 false true false false W args v W':=by
 have hW':=hW
 obtain⟨p,q,hA0,hV,rfl,hfz,hnd⟩:=hW
 have hA:DataW.TrodAll enc Tryz.prog W 0 (fun _=>true) true Tryz.f4.params.toList args.toList ds p:=hA0
 rw [Tryz.params4] at hA hval hz
 obtain⟨v0,vs0,d0,ds0,p0,q0,hargs,rfl,rfl,h0,r0⟩:=trodAll_cons hA
 obtain⟨rfl,rfl,rfl⟩:=trodAll_nil r0
 obtain rfl:args=#[v0]:=by cases args;simp_all
 obtain⟨rfl,rfl⟩:=trodVars_none hV
 obtain⟨l0,hd0,m0⟩:=Zg1 (hval 0 35 v0 rfl rfl) h0 (I:=fun b=>b< W.heap.size) (fun _ h=>h)
 have hB:=ZgE hk
 simp only [List.append_nil,Rows.uptoBulkAll] at hB
 refine(eng.trackSteps_walk v0 l0 1048576 W (by omega) (by omega) hd0 (ZjD m0 (by omega)) (Ze5 hL)).mono fun e W' ⟨he,hb⟩=> ?_
 subst he
 exact⟨_,rfl,Zkk laidOut (fun t ht=>reads_ok t ht) 4 Tryz.underlying4 rfl rfl hW' rfl rfl rfl hb⟩
theorem laid_met (os:Os):laidMet Tryz.prog Rows.trackStepsUptoRow.laid ((laidWorld os).forCall (fun _ _=>0) ⟨#[],#[.slice none 0 0], []⟩).memory:=
 laidMet_of_run' 8 (by kernel_rfl) (by kernel_rfl)
theorem reads (os:Os) {H:Type} (enc:TypeId×Value→H):∃ places,DataW.whole enc Tryz.prog ((laidWorld os).forCall (fun _ _=>0) ⟨#[],#[.slice none 0 0], []⟩).memory Tryz.f4.params.toList Rows.trackStepsSpec.vars false #[Value.slice none 0 0].toList 8=some ([.nil], [],places):=
 ⟨[],by kernel_rfl⟩
theorem lifted (os:Os) (started:os.Started) (H:Type) (enc:TypeId×Value→H) (F:Stop.Interp):
  ReturnsInHanded {} Tryz.checked os 4 .any ((Rows.OpenSpec.upto Rows.trackStepsSpec).preRow enc Tryz.prog Tryz.f4 Rows.trackStepsUptoRow.domain false Rows.trackStepsUptoRow.laid) (((Rows.OpenSpec.upto Rows.trackStepsSpec).at F).post enc Tryz.prog Tryz.f4 false true false false):=by
 obtain⟨places,hx⟩:=reads os enc
 refine returnsInHanded_of_row (C:=Tryz.checked) (s:=Rows.OpenSpec.upto Rows.trackStepsSpec) own started (by kernel_rfl) Tryz.func4
  (witness_row_at (enc:=enc) (C:=Tryz.checked) false (laidWorld os) #[.slice none 0 0] rfl (by kernel_rfl) (by kernel_rfl) (by kernel_rfl)
   (OpenSpec.preRow_of_cond 8 hx (by kernel_rfl) (fun k hk=>by cases hk;kernel_rfl) (by kernel_rfl) (laid_met os))) ?_
 intro W base args ds gs before hval hW _ hcond hz hL _ _
 exact contract H enc W base args ds gs before hval hW hz (hcond _ rfl) hL
theorem j0:OpenClaim.wf (OpenSpec.ofChange (Rows.OpenSpec.upto Rows.trackStepsSpec).bare) Rows.trackStepsUptoRow=true:=by kernel_rfl
theorem j1:laidOutB Tryz.pinned.checked.prog=true:=by kernel_rfl
theorem j2:mapsRowed Tryz.pinned.checked.prog=true:=by kernel_rfl
theorem j3:namedTie Tryz.pinned.checked.prog Rows.trackStepsUptoRow.named (Rows.OpenSpec.upto Rows.trackStepsSpec).bare.vars=true:=by kernel_rfl
theorem j4:(Rows.trackStepsUptoRow.inPlace==Tryz.pinned.checked.prog.inPlace 4)=true:=by kernel_rfl
theorem j5:(Rows.trackStepsUptoRow.unfollowed==Tryz.pinned.checked.prog.unfollowed 4)=true:=by kernel_rfl
theorem j6:(Rows.trackStepsUptoRow.recurses==Tryz.pinned.checked.prog.recurses 4)=true:=by kernel_rfl
theorem j7:(Rows.trackStepsUptoRow.named==Tryz.pinned.checked.prog.varsNamed 4)=true:=by kernel_rfl
theorem j8:(Rows.trackStepsUptoRow.plainKeys==Tryz.pinned.checked.prog.plainKeys)=true:=by kernel_rfl
theorem j9:Tryz.pinned.checked.prog.stopsHeard=true:=by kernel_rfl
theorem j10:Tryz.pinned.checked.prog.mayEnter=true:=by kernel_rfl
theorem j11:(Rows.trackStepsUptoRow.lifted==Tryz.pinned.checked.prog.liftsFinal)=true:=by kernel_rfl
theorem j12:(Tryz.pinned.checked.prog.make==some Rows.trackStepsUptoRow.make)=true:=by kernel_rfl
theorem and_t {a b:Bool} (ha:a=true) (hb:b=true):(a&&b)=true:=by rw [ha,hb];rfl
set_option maxHeartbeats 8000000 in
theorem joined:joinedFacts Tryz.pinned.checked.prog 4 Tryz.f4 (Rows.OpenSpec.upto Rows.trackStepsSpec).bare Rows.trackStepsUptoRow=true:=by
 unfold joinedFacts
 repeat' (with_reducible refine and_t ?_ ?_)
 all_goals first|with_reducible exact j0|with_reducible exact j1|with_reducible exact j2|with_reducible exact j3|with_reducible exact j4|with_reducible exact j5|with_reducible exact j6|with_reducible exact j7|with_reducible exact j8|with_reducible exact j9|with_reducible exact j10|with_reducible exact j11|with_reducible exact j12|(as_aux_lemma=>kernel_rfl)
set_option maxHeartbeats 8000000 in
theorem said:Rows.TrackStepsUptoSaid:=
 OpenClaim.holds_of_cond 4 Tryz.f4 rfl rfl rfl rfl rfl rfl rfl ⟨rfl,rfl,rfl,rfl,rfl⟩ rfl rfl rfl rfl rfl (by kernel_rfl) Tryz.func4 joined
  (of_decide_eq_true (by kernel_rfl)) (by unfold Func.isWrapper;rw [if_neg (of_decide_eq_false (by kernel_rfl))];exact⟨rfl,rfl⟩)
  (fun os started H enc _ F=>by rw [OpenClaim.pre_eq_preRow];exact lifted os started H enc F)
theorem plain (f : FuncId) (fn : Func) (hf : Tryz.pinned.checked.prog.funcNamed "gantry/gantlaw3.TrackSteps" = some f) (hfn : Tryz.pinned.checked.prog.funcs[f]? = some fn) :
  false=Tryz.pinned.checked.prog.looks []∧∀ (j:Nat) t,fn.params[j]? =some t→Tryz.pinned.checked.prog.wantsStandIn t=false:=by
 obtain rfl : f = 4 := Option.some.inj ((show Tryz.prog.funcNamed "gantry/gantlaw3.TrackSteps" = some 4 by kernel_rfl).symm.trans hf) |>.symm
 obtain rfl:fn=Tryz.f4:=(Option.some.inj (Tryz.func4.symm.trans hfn)).symm
 refine⟨by kernel_rfl,fun j t ht=> ?_⟩
 rw [Tryz.params4] at ht
 have h:t∈ [35]:=by simpa using Array.mem_of_getElem? ht
 simp only [List.mem_cons,List.mem_nil_iff,or_false] at h
 rcases h with rfl
 ·exact(show Tryz.prog.wantsStandIn 35=false by kernel_rfl)
theorem card:Rows.TrackStepsUptoCardSaid:=
 Claim7.holds_tied_plain_at .later [] _ _ _ _ said (fun _ h=>by cases h) (by kernel_rfl) (fun _ h=>by cases h) trackStepsUpto_row_tie rfl ⟨rfl,rfl⟩ (by kernel_rfl) rfl plain (by kernel_rfl)
#print axioms card
end Go.Proofs.YtbgokkfhohodgaaGreatDoor.trackSteps
