/- Proved: gantlaw3.PathFinds returns true, for all arguments of bulk at most 1048576: Find returns the way of the reference. Conditions: the bulk of the arguments (the second form). -/
import Derived.Test.YtnhfpbcbhnfeaaaGreatDoorQGrpPf
set_option maxRecDepth 100000
namespace Go.Proofs.YtnhfpbcbhnfeaaaGreatDoor.pathFinds
open Go.ChangeShapes Go.WideShapes Go.ChangeAt Go.RowKit row argopen
open Go.ChangeMaps (open_string)
theorem reads_ok(t:TypeId)(ht:t∈Tryz.f3.params.toList):Tryz.prog.readableRec t=true/\t<Tryz.prog.types.size:=by
 rw[Tryz.params3]at ht;have h:t∈ [32,33,33,34,3]:=ht;simp only[List.mem_cons,List.mem_nil_iff,or_false]at h;rcases h with rfl|rfl|rfl|rfl|rfl
 .exact⟨ωr,oT ωr⟩
 .exact⟨ωr,oT ωr⟩
 .exact⟨ωr,oT ωr⟩
 .exact⟨ωr,oT ωr⟩
 .exact⟨ωr,oT ωr⟩
theorem contract(H:Type)(enc:TypeId×Value->H)(W:World)(base:Nat)(args:Array Value)(ds gs:List (DataW H))(before:List MemPlace)
 (hval:∀(j:Nat) t v,Tryz.f3.params[j]? =some t->args[j]? =some v->Value.okWide Tryz.prog W .any base t v)
 (hW:DataW.Whole enc Tryz.prog Tryz.f3.params.toList Rows.pathFindsSpec.vars false W args.toList ds gs before)
 (hz:(DataW.weightsEach Tryz.prog (Tryz.f3.params.toList++[]) (ds++gs)).all (· <=reachBytes)=true)(hk:Rows.uptoSmall H (ds++gs)=true)(hL:laidMet Tryz.prog Rows.pathFindsUptoRow.laid W):
  Calls Tryz.prog 3 args W fun e W'=>∃v,e= .returned v/\Rows.pathFindsSpec.post enc Tryz.prog Tryz.f3 false true false false W args v W':=by
 have hW':=hW;obtain⟨p,q,hA0,hV,rfl,hfz,hnd⟩:=hW;have hA:DataW.TrodAll enc Tryz.prog W 0 (fun _=>true) true Tryz.f3.params.toList args.toList ds p:=hA0;rw[Tryz.params3]at hA hval hz;obtain⟨v0,vs0,d0,ds0,p0,q0,hargs,rfl,rfl,h0,r0⟩:=trodAll_cons hA;obtain⟨v1,vs1,d1,ds1,p1,q1,rfl,rfl,rfl,h1,r1⟩:=trodAll_cons r0;obtain⟨v2,vs2,d2,ds2,p2,q2,rfl,rfl,rfl,h2,r2⟩:=trodAll_cons r1;obtain⟨v3,vs3,d3,ds3,p3,q3,rfl,rfl,rfl,h3,r3⟩:=trodAll_cons r2;obtain⟨v4,vs4,d4,ds4,p4,q4,rfl,rfl,rfl,h4,r4⟩:=trodAll_cons r3;obtain⟨rfl,rfl,rfl⟩:=trodAll_nil r4;obtain rfl:args=#[v0,v1,v2,v3,v4]:=by cases args;simp_all
 obtain⟨rfl,rfl⟩:=trodVars_none hV;obtain⟨l0,hd0,m0⟩:=Zs3 (hval 0 32 v0 rfl rfl) h0 (I:=fun b=>b<W.heap.size) (fun _ h=>h);obtain⟨l1,hd1,m1⟩:=ZfU (hval 1 33 v1 rfl rfl) h1 (I:=fun b=>b<W.heap.size) (fun _ h=>h);obtain⟨l2,hd2,m2⟩:=ZfU (hval 2 33 v2 rfl rfl) h2 (I:=fun b=>b<W.heap.size) (fun _ h=>h);obtain⟨l3,hd3,m3⟩:=ZmP (hval 3 34 v3 rfl rfl) h3 (I:=fun b=>b<W.heap.size) (fun _ h=>h);obtain⟨x4,rfl,rfl,rfl,w4⟩:=open_int Tryz.underlying3 (hval 4 3 v4 rfl rfl) h4;have hB:=Zmj hk;simp only[List.append_nil,Rows.uptoBulkAll,Rows.uptoBulk]at hB;have s4:-9223372036854775808<=x4/\x4<=9223372036854775807:=by
  have:=w4;simp[Lit.wf,IntKind.min,IntKind.max,IntKind.signed,IntKind.bits]at this;omega
 refine(eng.pathFinds_walk v0 l0 v1 l1 v2 l2 v3 l3 x4 1048576 W ω ω hd0 (ZxA m0 ω) hd1 (ZkC m1 ω) hd2 (ZkC m2 ω) hd3 (ZkD m3 ω) ω (Zjj hL)).mono fun e W' ⟨he,hb⟩=>?_;subst he;exact⟨_,rfl,Ztv laidOut (fun t ht=>reads_ok t ht) 4 Tryz.underlying4 rfl rfl hW' rfl rfl rfl hb⟩
theorem laid_met(os:Os):laidMet Tryz.prog Rows.pathFindsUptoRow.laid ((laidWorld os).forCall (fun _ _=>0) ⟨#[],#[.agg #[.string ⟨#[]⟩,.bool false,.string ⟨#[]⟩,.string ⟨#[]⟩,.bool false,.string ⟨#[]⟩,.string ⟨#[]⟩,.bool false,.bool false,.string ⟨#[]⟩,.string ⟨#[]⟩,.slice none 0 0],.slice none 0 0,.slice none 0 0,.slice none 0 0,.int .i64 0], []⟩).memory:=
 laidMet_of_run' 8 ωr ωr
theorem reads(os:Os){H:Type}(enc:TypeId×Value->H):∃places,DataW.whole enc Tryz.prog ((laidWorld os).forCall (fun _ _=>0) ⟨#[],#[.agg #[.string ⟨#[]⟩,.bool false,.string ⟨#[]⟩,.string ⟨#[]⟩,.bool false,.string ⟨#[]⟩,.string ⟨#[]⟩,.bool false,.bool false,.string ⟨#[]⟩,.string ⟨#[]⟩,.slice none 0 0],.slice none 0 0,.slice none 0 0,.slice none 0 0,.int .i64 0], []⟩).memory Tryz.f3.params.toList Rows.pathFindsSpec.vars false #[Value.agg #[.string ⟨#[]⟩,.bool false,.string ⟨#[]⟩,.string ⟨#[]⟩,.bool false,.string ⟨#[]⟩,.string ⟨#[]⟩,.bool false,.bool false,.string ⟨#[]⟩,.string ⟨#[]⟩,.slice none 0 0],Value.slice none 0 0,Value.slice none 0 0,Value.slice none 0 0,Value.int .i64 0].toList 8=some ([.agg [.lit (.string []),.agg [.agg [.agg [.lit (.bool false),.lit (.string []),.lit (.string [])],.agg [.lit (.bool false),.lit (.string []),.lit (.string [])]],.agg [.lit (.bool false),.agg [.lit (.bool false),.lit (.string []),.lit (.string [])]]],.nil],.nil,.nil,.nil,.lit (.int .i64 0)], [],places):=
 ⟨[],ωr⟩
theorem lifted(os:Os)(started:os.Started)(H:Type)(enc:TypeId×Value->H)(F:Stop.Interp):
  ReturnsInHanded {} Tryz.checked os 3 .any ((Rows.OpenSpec.upto Rows.pathFindsSpec).preRow enc Tryz.prog Tryz.f3 Rows.pathFindsUptoRow.domain false Rows.pathFindsUptoRow.laid) (((Rows.OpenSpec.upto Rows.pathFindsSpec).at F).post enc Tryz.prog Tryz.f3 false true false false):=by
 obtain⟨places,hx⟩:=reads os enc;refine returnsInHanded_of_row (C:=Tryz.checked) (s:=Rows.OpenSpec.upto Rows.pathFindsSpec) own started ωr Tryz.func3
  (witness_row_at (enc:=enc) (C:=Tryz.checked) false (laidWorld os) #[.agg #[.string ⟨#[]⟩,.bool false,.string ⟨#[]⟩,.string ⟨#[]⟩,.bool false,.string ⟨#[]⟩,.string ⟨#[]⟩,.bool false,.bool false,.string ⟨#[]⟩,.string ⟨#[]⟩,.slice none 0 0],.slice none 0 0,.slice none 0 0,.slice none 0 0,.int .i64 0] rfl ωr ωr ωr
   (OpenSpec.preRow_of_cond 8 hx ωr (fun k hk=>by cases hk;kernel_rfl) ωr (laid_met os))) ?_
 intro W base args ds gs before hval hW _ hcond hz hL _ _;exact contract H enc W base args ds gs before hval hW hz (hcond _ rfl) hL
theorem said:Rows.PathFindsUptoSaid:=
 OpenClaim.holds_of_cond 3 Tryz.f3 rfl rfl rfl rfl rfl rfl rfl ⟨rfl,rfl,rfl,rfl,rfl⟩ rfl rfl rfl rfl rfl ωr Tryz.func3 ωr
  (oT ωr) (by unfold Func.isWrapper;rw[if_neg (oF ωr)];exact⟨rfl,rfl⟩)
  (fun os started H enc _ F=>by rw[OpenClaim.pre_eq_preRow];exact lifted os started H enc F)
theorem plain(f : FuncId)(fn : Func)(hf : Tryz.pinned.checked.prog.funcNamed "gantry/gantlaw3.PathFinds" = some f)(hfn : Tryz.pinned.checked.prog.funcs[f]? = some fn) :
  false=Tryz.pinned.checked.prog.looks []/\∀(j:Nat) t,fn.params[j]? =some t->Tryz.pinned.checked.prog.wantsStandIn t=false:=by
 obtain rfl : f = 3 := sI ((show Tryz.prog.funcNamed "gantry/gantlaw3.PathFinds" = some 3 by kernel_rfl).symm.trans hf) |>.symm
 obtain rfl:fn=Tryz.f3:=(sI (Tryz.func3.symm.trans hfn)).symm;refine⟨ωr,fun j t ht=>?_⟩;rw[Tryz.params3]at ht;have h:t∈ [32,33,33,34,3]:=by simpa using Array.mem_of_getElem? ht
 simp only[List.mem_cons,List.mem_nil_iff,or_false]at h;rcases h with rfl|rfl|rfl|rfl|rfl
 .exact(show Tryz.prog.wantsStandIn 32=false by kernel_rfl)
 .exact(show Tryz.prog.wantsStandIn 33=false by kernel_rfl)
 .exact(show Tryz.prog.wantsStandIn 33=false by kernel_rfl)
 .exact(show Tryz.prog.wantsStandIn 34=false by kernel_rfl)
 .exact(show Tryz.prog.wantsStandIn 3=false by kernel_rfl)
theorem card:Rows.PathFindsUptoCardSaid:=
 Claim7.holds_tied_plain_at .later [] _ _ _ _ said (fun _ h=>by cases h) ωr (fun _ h=>by cases h) pathFindsUpto_row_tie rfl ⟨rfl,rfl⟩ ωr rfl plain ωr
#print axioms card
