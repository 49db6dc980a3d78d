/- Proved: gantlaw3.TimingProfiles returns true, for all arguments of bulk at most 1048576: Profile returns the result of the reference for all arguments. Conditions: the bulk of the arguments (the second form). -/
import Derived.Test.YtbgokkfhohodgaaDoorRow
import Derived.Test.YtbgokkfhohodgaaDoorGrpW
import Derived.Test.YtbgokkfhohodgaaDoorLawPrf
set_option maxRecDepth 100000
namespace Go.Proofs.YtbgokkfhohodgaaDoor.timingProfiles
open Go.ChangeShapes Go.WideShapes Go.ChangeAt Go.RowKit row argopen
open Go.ChangeMaps (open_string)
theorem reads_ok (t:TypeId) (ht:t∈Tryd.f3.params.toList):Tryd.prog.readableRec t=true∧t< Tryd.prog.types.size:=by
 rw [Tryd.params3] at ht
 have h:t∈ [23,23,23,3]:=ht
 simp only [List.mem_cons,List.mem_nil_iff,or_false] at h
 rcases h with rfl|rfl|rfl|rfl
 ·exact⟨by kernel_rfl,of_decide_eq_true (by kernel_rfl)⟩
 ·exact⟨by kernel_rfl,of_decide_eq_true (by kernel_rfl)⟩
 ·exact⟨by kernel_rfl,of_decide_eq_true (by kernel_rfl)⟩
 ·exact⟨by kernel_rfl,of_decide_eq_true (by kernel_rfl)⟩
theorem contract (H:Type) (enc:TypeId×Value→H) (W:World) (base:Nat) (args:Array Value) (ds gs:List (DataW H)) (before:List MemPlace)
  (hval:∀ (j:Nat) t v,Tryd.f3.params[j]? =some t→args[j]? =some v→Value.okWide Tryd.prog W .any base t v)
  (hW:DataW.Whole enc Tryd.prog Tryd.f3.params.toList Rows.timingProfilesSpec.vars false W args.toList ds gs before)
  (hz:(DataW.weightsEach Tryd.prog (Tryd.f3.params.toList++ []) (ds++gs)).all (· ≤reachBytes)=true) (hk:Rows.uptoSmall H (ds++gs)=true) (hL:laidMet Tryd.prog Rows.timingProfilesUptoRow.laid W):
  Calls Tryd.prog 3 args W fun e W'=>∃ v,e= .returned v∧Rows.timingProfilesSpec.post enc Tryd.prog Tryd.f3 false true false false W args v W':=by
 have hW':=hW
 obtain⟨p,q,hA0,hV,rfl,hfz,hnd⟩:=hW
 have hA:DataW.TrodAll enc Tryd.prog W 0 (fun _=>true) true Tryd.f3.params.toList args.toList ds p:=hA0
 rw [Tryd.params3] at hA hval hz
 obtain⟨v0,vs0,d0,ds0,p0,q0,hargs,rfl,rfl,h0,r0⟩:=trodAll_cons hA
 obtain⟨v1,vs1,d1,ds1,p1,q1,rfl,rfl,rfl,h1,r1⟩:=trodAll_cons r0
 obtain⟨v2,vs2,d2,ds2,p2,q2,rfl,rfl,rfl,h2,r2⟩:=trodAll_cons r1
 obtain⟨v3,vs3,d3,ds3,p3,q3,rfl,rfl,rfl,h3,r3⟩:=trodAll_cons r2
 obtain⟨rfl,rfl,rfl⟩:=trodAll_nil r3
 obtain rfl:args=#[v0,v1,v2,v3]:=by cases args;simp_all
 obtain⟨rfl,rfl⟩:=trodVars_none hV
 obtain⟨s00,a00,d00,rfl,rfl,rfl⟩:=Zdt (hval 0 23 v0 rfl rfl) h0
 obtain⟨s10,a10,d10,rfl,rfl,rfl⟩:=Zdt (hval 1 23 v1 rfl rfl) h1
 obtain⟨s20,a20,d20,rfl,rfl,rfl⟩:=Zdt (hval 2 23 v2 rfl rfl) h2
 obtain⟨x3,rfl,rfl,rfl,w3⟩:=open_int Tryd.underlying3 (hval 3 3 v3 rfl rfl) h3
 have hB:=ZfT hk
 simp only [List.append_nil,Rows.uptoBulkAll,Rows.uptoBulk,ZjT] at hB
 have s3:-9223372036854775808≤x3∧x3≤9223372036854775807:=by
  have:=w3;simp [Lit.wf,IntKind.min,IntKind.max,IntKind.signed,IntKind.bits] at this;omega
 refine(eng.timingProfiles_walk s00 a00 d00 s10 a10 d10 s20 a20 d20 x3 1048576 W (by omega) (by omega) (by omega) (by omega) (by omega) (by omega) (by omega) (by omega) (by omega) (Zex hL)).mono fun e W' ⟨he,hb⟩=> ?_
 subst he
 exact⟨_,rfl,ZiX laidOut (fun t ht=>reads_ok t ht) 4 Tryd.underlying4 rfl rfl hW' rfl rfl rfl hb⟩
theorem laid_met (os:Os):laidMet Tryd.prog Rows.timingProfilesUptoRow.laid ((laidWorld os).forCall (fun _ _=>0) ⟨#[],#[.agg #[.bool false,.string ⟨#[]⟩,.string ⟨#[]⟩],.agg #[.bool false,.string ⟨#[]⟩,.string ⟨#[]⟩],.agg #[.bool false,.string ⟨#[]⟩,.string ⟨#[]⟩],.int .i64 0], []⟩).memory:=
 laidMet_of_run' 8 (by kernel_rfl) (by kernel_rfl)
theorem reads (os:Os) {H:Type} (enc:TypeId×Value→H):∃ places,DataW.whole enc Tryd.prog ((laidWorld os).forCall (fun _ _=>0) ⟨#[],#[.agg #[.bool false,.string ⟨#[]⟩,.string ⟨#[]⟩],.agg #[.bool false,.string ⟨#[]⟩,.string ⟨#[]⟩],.agg #[.bool false,.string ⟨#[]⟩,.string ⟨#[]⟩],.int .i64 0], []⟩).memory Tryd.f3.params.toList Rows.timingProfilesSpec.vars false #[Value.agg #[.bool false,.string ⟨#[]⟩,.string ⟨#[]⟩],Value.agg #[.bool false,.string ⟨#[]⟩,.string ⟨#[]⟩],Value.agg #[.bool false,.string ⟨#[]⟩,.string ⟨#[]⟩],Value.int .i64 0].toList 8=some ([.agg [.lit (.bool false),.lit (.string []),.lit (.string [])],.agg [.lit (.bool false),.lit (.string []),.lit (.string [])],.agg [.lit (.bool false),.lit (.string []),.lit (.string [])],.lit (.int .i64 0)], [],places):=
 ⟨[],by kernel_rfl⟩
theorem lifted (os:Os) (started:os.Started) (H:Type) (enc:TypeId×Value→H) (F:Stop.Interp):
  ReturnsInHanded {} Tryd.checked os 3 .any ((Rows.OpenSpec.upto Rows.timingProfilesSpec).preRow enc Tryd.prog Tryd.f3 Rows.timingProfilesUptoRow.domain false Rows.timingProfilesUptoRow.laid) (((Rows.OpenSpec.upto Rows.timingProfilesSpec).at F).post enc Tryd.prog Tryd.f3 false true false false):=by
 obtain⟨places,hx⟩:=reads os enc
 refine returnsInHanded_of_row (C:=Tryd.checked) (s:=Rows.OpenSpec.upto Rows.timingProfilesSpec) own started (by kernel_rfl) Tryd.func3
  (witness_row_at (enc:=enc) (C:=Tryd.checked) false (laidWorld os) #[.agg #[.bool false,.string ⟨#[]⟩,.string ⟨#[]⟩],.agg #[.bool false,.string ⟨#[]⟩,.string ⟨#[]⟩],.agg #[.bool false,.string ⟨#[]⟩,.string ⟨#[]⟩],.int .i64 0] rfl (by kernel_rfl) (by kernel_rfl) (by kernel_rfl)
   (OpenSpec.preRow_of_cond 8 hx (by kernel_rfl) (fun k hk=>by cases hk;kernel_rfl) (by kernel_rfl) (laid_met os))) ?_
 intro W base args ds gs before hval hW _ hcond hz hL _ _
 exact contract H enc W base args ds gs before hval hW hz (hcond _ rfl) hL
theorem j0:OpenClaim.wf (OpenSpec.ofChange (Rows.OpenSpec.upto Rows.timingProfilesSpec).bare) Rows.timingProfilesUptoRow=true:=by kernel_rfl
theorem j1:laidOutB Tryd.pinned.checked.prog=true:=by kernel_rfl
theorem j2:mapsRowed Tryd.pinned.checked.prog=true:=by kernel_rfl
theorem j3:namedTie Tryd.pinned.checked.prog Rows.timingProfilesUptoRow.named (Rows.OpenSpec.upto Rows.timingProfilesSpec).bare.vars=true:=by kernel_rfl
theorem j4:(Rows.timingProfilesUptoRow.inPlace==Tryd.pinned.checked.prog.inPlace 3)=true:=by kernel_rfl
theorem j5:(Rows.timingProfilesUptoRow.unfollowed==Tryd.pinned.checked.prog.unfollowed 3)=true:=by kernel_rfl
theorem j6:(Rows.timingProfilesUptoRow.recurses==Tryd.pinned.checked.prog.recurses 3)=true:=by kernel_rfl
theorem j7:(Rows.timingProfilesUptoRow.named==Tryd.pinned.checked.prog.varsNamed 3)=true:=by kernel_rfl
theorem j8:(Rows.timingProfilesUptoRow.plainKeys==Tryd.pinned.checked.prog.plainKeys)=true:=by kernel_rfl
theorem j9:Tryd.pinned.checked.prog.stopsHeard=true:=by kernel_rfl
theorem j10:Tryd.pinned.checked.prog.mayEnter=true:=by kernel_rfl
theorem j11:(Rows.timingProfilesUptoRow.lifted==Tryd.pinned.checked.prog.liftsFinal)=true:=by kernel_rfl
theorem j12:(Tryd.pinned.checked.prog.make==some Rows.timingProfilesUptoRow.make)=true:=by kernel_rfl
theorem and_t {a b:Bool} (ha:a=true) (hb:b=true):(a&&b)=true:=by rw [ha,hb];rfl
set_option maxHeartbeats 8000000 in
theorem joined:joinedFacts Tryd.pinned.checked.prog 3 Tryd.f3 (Rows.OpenSpec.upto Rows.timingProfilesSpec).bare Rows.timingProfilesUptoRow=true:=by
 unfold joinedFacts
 repeat' (with_reducible refine and_t ?_ ?_)
 all_goals first|with_reducible exact j0|with_reducible exact j1|with_reducible exact j2|with_reducible exact j3|with_reducible exact j4|with_reducible exact j5|with_reducible exact j6|with_reducible exact j7|with_reducible exact j8|with_reducible exact j9|with_reducible exact j10|with_reducible exact j11|with_reducible exact j12|(as_aux_lemma=>kernel_rfl)
set_option maxHeartbeats 8000000 in
theorem said:Rows.TimingProfilesUptoSaid:=
 OpenClaim.holds_of_cond 3 Tryd.f3 rfl rfl rfl rfl rfl rfl rfl ⟨rfl,rfl,rfl,rfl,rfl⟩ rfl rfl rfl rfl rfl (by kernel_rfl) Tryd.func3 joined
  (of_decide_eq_true (by kernel_rfl)) (by unfold Func.isWrapper;rw [if_neg (of_decide_eq_false (by kernel_rfl))];exact⟨rfl,rfl⟩)
  (fun os started H enc _ F=>by rw [OpenClaim.pre_eq_preRow];exact lifted os started H enc F)
theorem plain (f : FuncId) (fn : Func) (hf : Tryd.pinned.checked.prog.funcNamed "gantry/gantlaw3.TimingProfiles" = some f) (hfn : Tryd.pinned.checked.prog.funcs[f]? = some fn) :
  false=Tryd.pinned.checked.prog.looks []∧∀ (j:Nat) t,fn.params[j]? =some t→Tryd.pinned.checked.prog.wantsStandIn t=false:=by
 obtain rfl : f = 3 := Option.some.inj ((show Tryd.prog.funcNamed "gantry/gantlaw3.TimingProfiles" = some 3 by kernel_rfl).symm.trans hf) |>.symm
 obtain rfl:fn=Tryd.f3:=(Option.some.inj (Tryd.func3.symm.trans hfn)).symm
 refine⟨by kernel_rfl,fun j t ht=> ?_⟩
 rw [Tryd.params3] at ht
 have h:t∈ [23,23,23,3]:=by simpa using Array.mem_of_getElem? ht
 simp only [List.mem_cons,List.mem_nil_iff,or_false] at h
 rcases h with rfl|rfl|rfl|rfl
 ·exact(show Tryd.prog.wantsStandIn 23=false by kernel_rfl)
 ·exact(show Tryd.prog.wantsStandIn 23=false by kernel_rfl)
 ·exact(show Tryd.prog.wantsStandIn 23=false by kernel_rfl)
 ·exact(show Tryd.prog.wantsStandIn 3=false by kernel_rfl)
theorem card:Rows.TimingProfilesUptoCardSaid:=
 Claim7.holds_tied_plain_at .later [] _ _ _ _ said (fun _ h=>by cases h) (by kernel_rfl) (fun _ h=>by cases h) timingProfilesUpto_row_tie rfl ⟨rfl,rfl⟩ (by kernel_rfl) rfl plain (by kernel_rfl)
#print axioms card
end Go.Proofs.YtbgokkfhohodgaaDoor.timingProfiles
