/- Proved: ganttop.RootsTurn returns true, for all arguments of bulk at most 1048576: joint values that solve an equation are isolated and refined, and their cosines and sines are in the spans of what was found. Conditions: the bulk of the arguments (the second form). -/
import Derived.Test.YtgkofgfiifgioaaGreatDoorQGrpRu
set_option maxHeartbeats 8000000
set_option maxRecDepth 100000
namespace Go.Proofs.YtgkofgfiifgioaaGreatDoor.rootsTurn
open Go.ChangeShapes Go.WideShapes Go.ChangeAt Go.RowKit row argopen
open Go.ChangeMaps (open_string)
theorem reads_ok (t:TypeId) (ht:t∈Tryz.f3.params.toList):Tryz.prog.readableRec t=true∧t< Tryz.prog.types.size:=by
 rw [Tryz.params3] at ht
 have h:t=22∨t=3:=by simpa using ht
 rcases h with rfl|rfl
 ·exact⟨ωr,of_decide_eq_true ωr⟩
 ·exact⟨ωr,of_decide_eq_true ωr⟩
theorem contract (H:Type) (enc:TypeId×Value→H) (W:World) (base:Nat) (args:Array Value) (ds gs:List (DataW H)) (before:List MemPlace)
  (hval:∀ (j:Nat) t v,Tryz.f3.params[j]? =some t→args[j]? =some v→Value.okWide Tryz.prog W .any base t v)
  (hW:DataW.Whole enc Tryz.prog Tryz.f3.params.toList Rows.rootsTurnSpec.vars false W args.toList ds gs before)
  (hz:(DataW.weightsEach Tryz.prog (Tryz.f3.params.toList++ []) (ds++gs)).all (· ≤reachBytes)=true) (hk:Rows.uptoSmall H (ds++gs)=true) (hL:laidMet Tryz.prog Rows.rootsTurnUptoRow.laid W):
  Calls Tryz.prog 3 args W fun e W'=>∃ v,e= .returned v∧Rows.rootsTurnSpec.post enc Tryz.prog Tryz.f3 false true false false W args v W':=by
 have hW':=hW
 obtain⟨p,q,hA0,hV,rfl,hfz,hnd⟩:=hW
 have hA:DataW.TrodAll enc Tryz.prog W 0 (fun _=>true) true Tryz.f3.params.toList args.toList ds p:=hA0
 rw [Tryz.params3] at hA hval hz
 obtain⟨v0,vs0,d0,ds0,p0,q0,hargs,rfl,rfl,h0,r0⟩:=trodAll_cons hA
 obtain⟨v1,vs1,d1,ds1,p1,q1,rfl,rfl,rfl,h1,r1⟩:=trodAll_cons r0
 obtain⟨rfl,rfl,rfl⟩:=trodAll_nil r1
 obtain rfl:args=#[v0,v1]:=by cases args;simp_all
 obtain⟨rfl,rfl⟩:=trodVars_none hV
 obtain⟨l0,hd0,m0⟩:=ZkW (hval 0 22 v0 rfl rfl) h0 (I:=fun b=>b< W.heap.size) (fun _ h=>h)
 obtain⟨x1,rfl,rfl,rfl,w1⟩:=open_int Tryz.underlying3 (hval 1 3 v1 rfl rfl) h1
 have hB:=Zi7 hk
 simp only [List.append_nil,Rows.uptoBulkAll,Rows.uptoBulk] at hB
 have s1:-9223372036854775808≤x1∧x1≤9223372036854775807:=by
  have:=w1;simp [Lit.wf,IntKind.min,IntKind.max,IntKind.signed,IntKind.bits] at this;omega
 refine(eng.rootsTurn_walk v0 l0 x1 1048576 W ω ω hd0 (Zpn m0 ω) ω (ZgA hL)).mono fun e W' ⟨he,hb⟩=> ?_
 subst he
 exact⟨_,rfl,ZnO laidOut (fun t ht=>reads_ok t ht) 4 Tryz.underlying4 rfl rfl hW' rfl rfl rfl hb⟩
theorem laid_met (os:Os):laidMet Tryz.prog Rows.rootsTurnUptoRow.laid ((laidWorld os).forCall (fun _ _=>0) ⟨#[],#[.slice none 0 0,.int .i64 0], []⟩).memory:=
 laidMet_of_run' 8 ωr ωr
theorem reads (os:Os) {H:Type} (enc:TypeId×Value→H):∃ places,DataW.whole enc Tryz.prog ((laidWorld os).forCall (fun _ _=>0) ⟨#[],#[.slice none 0 0,.int .i64 0], []⟩).memory Tryz.f3.params.toList Rows.rootsTurnSpec.vars false #[Value.slice none 0 0,Value.int .i64 0].toList 8=some ([.nil,.lit (.int .i64 0)], [],places):=
 ⟨[],ωr⟩
theorem lifted (os:Os) (started:os.Started) (H:Type) (enc:TypeId×Value→H) (F:Stop.Interp):
  ReturnsInHanded {} Tryz.checked os 3 .any ((Rows.OpenSpec.upto Rows.rootsTurnSpec).preRow enc Tryz.prog Tryz.f3 Rows.rootsTurnUptoRow.domain false Rows.rootsTurnUptoRow.laid) (((Rows.OpenSpec.upto Rows.rootsTurnSpec).at F).post enc Tryz.prog Tryz.f3 false true false false):=by
 obtain⟨places,hx⟩:=reads os enc
 refine returnsInHanded_of_row (C:=Tryz.checked) (s:=Rows.OpenSpec.upto Rows.rootsTurnSpec) own started ωr Tryz.func3
  (witness_row_at (enc:=enc) (C:=Tryz.checked) false (laidWorld os) #[.slice none 0 0,.int .i64 0] rfl ωr ωr ωr
   (OpenSpec.preRow_of_cond 8 hx ωr (fun k hk=>by cases hk;kernel_rfl) ωr (laid_met os))) ?_
 intro W base args ds gs before hval hW _ hcond hz hL _ _
 exact contract H enc W base args ds gs before hval hW hz (hcond _ rfl) hL
theorem j0:OpenClaim.wf (OpenSpec.ofChange (Rows.OpenSpec.upto Rows.rootsTurnSpec).bare) Rows.rootsTurnUptoRow=true:=ωr
theorem j1:laidOutB Tryz.pinned.checked.prog=true:=ωr
theorem j2:mapsRowed Tryz.pinned.checked.prog=true:=ωr
theorem j3:namedTie Tryz.pinned.checked.prog Rows.rootsTurnUptoRow.named (Rows.OpenSpec.upto Rows.rootsTurnSpec).bare.vars=true:=ωr
theorem j4:(Rows.rootsTurnUptoRow.inPlace==Tryz.pinned.checked.prog.inPlace 3)=true:=ωr
theorem j5:(Rows.rootsTurnUptoRow.unfollowed==Tryz.pinned.checked.prog.unfollowed 3)=true:=ωr
theorem j6:(Rows.rootsTurnUptoRow.recurses==Tryz.pinned.checked.prog.recurses 3)=true:=ωr
theorem j7:(Rows.rootsTurnUptoRow.named==Tryz.pinned.checked.prog.varsNamed 3)=true:=ωr
theorem j8:(Rows.rootsTurnUptoRow.plainKeys==Tryz.pinned.checked.prog.plainKeys)=true:=ωr
theorem j9:Tryz.pinned.checked.prog.stopsHeard=true:=ωr
theorem j10:Tryz.pinned.checked.prog.mayEnter=true:=ωr
theorem j11:(Rows.rootsTurnUptoRow.lifted==Tryz.pinned.checked.prog.liftsFinal)=true:=ωr
theorem j12:(Tryz.pinned.checked.prog.make==some Rows.rootsTurnUptoRow.make)=true:=ωr
theorem and_t {a b:Bool} (ha:a=true) (hb:b=true):(a&&b)=true:=by rw [ha,hb];rfl
theorem joined:joinedFacts Tryz.pinned.checked.prog 3 Tryz.f3 (Rows.OpenSpec.upto Rows.rootsTurnSpec).bare Rows.rootsTurnUptoRow=true:=by
 unfold joinedFacts
 repeat' (with_reducible refine and_t ?_ ?_)
 all_goals first|with_reducible exact j0|with_reducible exact j1|with_reducible exact j2|with_reducible exact j3|with_reducible exact j4|with_reducible exact j5|with_reducible exact j6|with_reducible exact j7|with_reducible exact j8|with_reducible exact j9|with_reducible exact j10|with_reducible exact j11|with_reducible exact j12|(as_aux_lemma=>kernel_rfl)
theorem said:Rows.RootsTurnUptoSaid:=
 OpenClaim.holds_of_cond 3 Tryz.f3 rfl rfl rfl rfl rfl rfl rfl ⟨rfl,rfl,rfl,rfl,rfl⟩ rfl rfl rfl rfl rfl ωr Tryz.func3 joined
  (of_decide_eq_true ωr) (by unfold Func.isWrapper;rw [if_neg (of_decide_eq_false ωr)];exact⟨rfl,rfl⟩)
  (fun os started H enc _ F=>by rw [OpenClaim.pre_eq_preRow];exact lifted os started H enc F)
theorem plain (f : FuncId) (fn : Func) (hf : Tryz.pinned.checked.prog.funcNamed "gantry/ganttop.RootsTurn" = some f) (hfn : Tryz.pinned.checked.prog.funcs[f]? = some fn) :
  false=Tryz.pinned.checked.prog.looks []∧∀ (j:Nat) t,fn.params[j]? =some t→Tryz.pinned.checked.prog.wantsStandIn t=false:=by
 obtain rfl : f = 3 := Option.some.inj ((show Tryz.prog.funcNamed "gantry/ganttop.RootsTurn" = some 3 by kernel_rfl).symm.trans hf) |>.symm
 obtain rfl:fn=Tryz.f3:=(Option.some.inj (Tryz.func3.symm.trans hfn)).symm
 refine⟨ωr,fun j t ht=> ?_⟩
 rw [Tryz.params3] at ht
 have h:t∈ [22,3]:=by simpa using Array.mem_of_getElem? ht
 simp only [List.mem_cons,List.mem_nil_iff,or_false] at h
 rcases h with rfl|rfl
 ·exact(show Tryz.prog.wantsStandIn 22=false by kernel_rfl)
 ·exact(show Tryz.prog.wantsStandIn 3=false by kernel_rfl)
theorem card:Rows.RootsTurnUptoCardSaid:=
 Claim7.holds_tied_plain_at .later [] _ _ _ _ said (fun _ h=>by cases h) (by as_aux_lemma=>kernel_rfl) (fun _ h=>by cases h) rootsTurnUpto_row_tie rfl ⟨rfl,rfl⟩ (by as_aux_lemma=>kernel_rfl) rfl plain (by as_aux_lemma=>kernel_rfl)
#print axioms card
