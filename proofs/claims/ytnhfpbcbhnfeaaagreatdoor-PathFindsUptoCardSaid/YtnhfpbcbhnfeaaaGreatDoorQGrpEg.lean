/- Joined by wip/bundle.py: XEngRf XEngRg XEngRh XEngRi. -/
import Derived.Test.YtnhfpbcbhnfeaaaGreatDoorQEng
import Derived.CallsIn
import Derived.RangeFuncLeaves
import Derived.RangeFuncCalls
import Derived.RangeFuncRecord
import Derived.Sort.LoopGhostIn
import Derived.OrdersIn
import Derived.TacticsIn
open List (mem_cons_self mem_of_getElem? getElem?_map)
namespace Go.Proofs.YtnhfpbcbhnfeaaaGreatDoor.eng
open Go.RowKit mem
def noDefO(o:Oper):Bool:=
 match o.op with
 | .defer _=>false
 |_=>true
def noDefOs:List Oper->Bool
 | []=>true
 |o::r=>noDefO o&&noDefOs r
noncomputable def noDef(c:Code):Bool:=
 @Code.rec (fun _=>Bool) true (fun _ ops _=>noDefOs ops.toList) (fun _ _ x y=>x&&y) (fun _ _ _ x y=>x&&y) (fun _ _ x=>x) (fun _ x=>x)
  (fun _ _ _ _ _ _=>false) (fun _=>true) (fun _ x=>x) (fun _=>true) (fun _=>true) true (fun _=>true) c
theorem ZjQ{l:List Oper}(h:noDefOs l=true){o:Oper}(ho:o∈l):∀c,o.op≠ .defer c:=by
 induction l with
 |nil=>simp at ho
 |cons x r ih=>
  simp only[noDefOs,Bool.and_eq_true]at h;rcases List.mem_cons.1 ho with rfl|ho
  .intro c e;have:=h.1;unfold noDefO at this;rw[e]at this;simp at this
  .exact ih h.2 ho
section
variable{P:Program}{l n:Nat}{Q:Exit->Act->World->Prop}
abbrev rF(l:Nat):Fence:=Fence.wide.inRound l
theorem ZrA{f:FuncId}{args:Array Value}{w:World}{R:Ending->World->Prop}(h:Calls P f args w R):CallsIn (rF l) n P f args w R:=CallsIn.inRound l (callsIn_wide.2 h)
theorem Zyl{o:Oper}(hnd:∀c,o.op≠ .defer c){a:Act}{w:World}{K:Act->World->Prop}(h:o.wp P a w K Q):o.wpIn (rF l) n P a w K Q:=by
 refine⟨fun _ _=>trivial,?_⟩;show o.uponIn (rF l) n P a K Q ((o.semAt (some l) a.eval).run P w);rw[Oper.semAt_some l a.eval o hnd];unfold Oper.wp at h;generalize (execOp a.eval o).run P w=r at h;unfold Oper.upon at h;split at h
 .exact h
 .exact h
 .exact h
 .exact⟨fun hd=>by simp[rF,Fence.wide,Fence.inRound]at hd,ZrA h⟩
 .refine⟨fun hd=>by simp[rF,Fence.wide,Fence.inRound]at hd,?_⟩;intro c cs _;obtain⟨v,w',hr,hs⟩:=h c cs;exact⟨v,w',hr,stepsIn_wide.2 hs⟩
 .exact h
 .exact h.elim
theorem Zet(hQ:¬LetsOut Q){ops:Array Oper}:∀(os:List Oper)(_:noDefOs os=true)(a:Act)(w:World),wpList P ops Q os a w->wpListIn (rF l) n P ops Q os a w
 | [],_,a,w,h=>h
 |o::rest,hnd,a,w,h=>by
  simp only[noDefOs,Bool.and_eq_true]at hnd;have hnd1:∀c,o.op≠ .defer c:=fun c e=>by have:=hnd.1;unfold noDefO at this;rw[e]at this;simp at this
  simp only[wpList,wpListIn]at h⊢;split at h
  .rename_i hw;rw[if_pos hw];rcases h with h|⟨_,h⟩
   .exact Zyl hnd1 (Oper.wp_mono (fun a w h=>Zet hQ rest hnd.2 a w h) h)
   .exact absurd h hQ
  .rename_i hw;rw[if_neg hw];exact⟨fun _ _=>trivial,Zet hQ rest hnd.2 _ _ h⟩
theorem Zea(hQ:¬LetsOut Q){md:Region.Mode}{ops:Array Oper}(hnd:noDefOs ops.toList=true):∀(fuel:Nat)(listed:Array Bool)(a:Act)(w:World),wpAny P md ops Q fuel listed a w->wpAnyIn (rF l) n P md ops Q fuel listed a w
 |0,listed,a,w,h=>h
 |fuel+1,listed,a,w,h=>by
  refine⟨h.1,fun i hi=>?_⟩;have h2:=h.2 i hi;unfold wpOp at h2;unfold wpOpIn
  cases ho:ops[i]? with
  |none=>rw[ho]at h2;exact Zea hQ hnd fuel _ a w h2
  |some o=>
   rw[ho]at h2;have hm:o∈ops.toList:=by
    obtain⟨hi,rfl⟩:=Array.getElem?_eq_some_iff.1 ho;exact Array.mem_toList_iff.2 (Array.getElem_mem hi)
   simp only at h2⊢;split at h2
   .rename_i hw;rw[if_pos hw];rcases h2 with h2|⟨_,h2⟩
    .exact Zyl (ZjQ hnd hm) (Oper.wp_mono (fun a w h=>Zea hQ hnd fuel _ a w h) h2)
    .exact absurd h2 hQ
   .rename_i hw;rw[if_neg hw];exact⟨fun _ _=>trivial,Zea hQ hnd fuel _ _ _ h2⟩
def NoOut(Q:Post):Prop:=∀env mem,¬Q .outgrown env mem
theorem NoOut.lets{p:Prm}{w0:Base}{I0:Nat->Prop}{Q:Post}(h:NoOut Q):¬LetsOut (Like p w0 I0 Q):=fun ⟨_,_,env,mem,_,_,hq⟩=>h env mem hq
theorem NoOut.then{K:Env->Mem->Prop}{Q:Post}(h:NoOut Q):NoOut (spThen K Q):=fun env mem hq=>h env mem hq
theorem NoOut.block{id:Nat}{Q:Post}(h:NoOut Q):NoOut (spBlock id Q):=fun env mem hq=>h env mem hq
theorem ZfJ{p:Prm}{w0:Base}{I0:Nat->Prop}(hTB:TBok p.P p.TB)(hG:∀w,Bel w0.K w0.w w->p.G w)(hmix:p.P.follows .mixedOrders=true):∀(c:Code)(_:codeOk c=true)(_:noDef c=true)(Q:Exit->Env->Mem->Prop)(_:NoOut Q)(env:Env)(mem:Mem)(bs:Bs)(a:Act)(w:World),
  sp p c Q env mem->St w0 I0 p.nt env mem bs a w->c.wpIn (rF l) n p.P (Like p w0 I0 Q) a w:=by
 intro c
 induction c with
 |skip=>intro _ _ Q _ env mem bs a w h st;exact wpIn_skip ⟨env,mem,bs,st,h⟩
 |region id ops draw=>
  intro hc hd Q hQ env mem bs a w h st;have hx:∃env mem bs,spRegion0 p ops.toList draw Q env mem/\St w0 I0 p.nt env mem bs a w:=by
   have h:spRegion p ops.toList draw Q env mem:=h;unfold spRegion at h
   cases hk:(isMk ops.toList||wantE p.own ops.toList) with
   |false=>rw[hk]at h;exact⟨env,mem,bs,h,st⟩
   |true=>
    rw[hk]at h;obtain⟨E,M,he,h⟩:=h;obtain⟨bs',st'⟩:=Zx st he;exact⟨_,_,bs',h,st'⟩
  clear h st;obtain⟨env,mem,bs,h,st⟩:=hx;have hd':noDefOs ops.toList=true:=hd
  cases draw with
  |false=>
   refine wpIn_region_list (Zet hQ.lets _ hd' _ _ ?_);obtain⟨rs,e,m,hr,hk⟩:=ZaM _ _ _ _ h;have:=ZgL (Q:=Like p w0 I0 Q) hTB hG hr st (fun bs a w st'=>⟨e,m,bs,st',hk⟩);simpa using this
  |true=>
   obtain⟨rs,e,m,hr,hok,hk⟩:=ZaM _ _ _ _ h;exact wpIn_region_any hmix (Zea hQ.lets hd' _ _ _ _<|ZoY (Q:=Like p w0 I0 Q) hTB hG hc hr (by simpa using hok) st.drew (fun bs a w st'=>⟨e,m,bs,st',hk⟩))
 |seq x y ihx ihy=>
  intro hc hd Q hQ env mem bs a w h st;simp only[codeOk,Bool.and_eq_true]at hc;have hd:(noDef x&&noDef y)=true:=hd;simp only[Bool.and_eq_true]at hd;refine wpIn_seq (wpIn_mono (ihx hc.1 hd.1 _ hQ.then env mem bs a w h st) ?_);rintro e a' w' ⟨env',mem',bs',st',hq⟩
  cases e with
  |normal=>exact ihy hc.2 hd.2 Q hQ env' mem' bs' a' w' hq st'
  |exit id=>exact⟨env',mem',bs',st',hq⟩
  |goto l=>exact⟨env',mem',bs',st',hq⟩
  |ret=>exact⟨env',mem',bs',st',hq⟩
  |panic ch=>exact⟨env',mem',bs',st',hq⟩
  |outgrown=>exact⟨env',mem',bs',st',hq⟩
 |cond c x y ihx ihy=>
  intro hc hd Q hQ env mem bs a w h st;simp only[codeOk,Bool.and_eq_true]at hc;have hd:(noDef x&&noDef y)=true:=hd;simp only[Bool.and_eq_true]at hd;obtain⟨h1,_⟩:=Zc st (fun _=>.inr rfl) c;have h:spCond (opd env c) (sp p x Q env mem) (sp p y Q env mem):=h;unfold spCond at h;split at h
  .rename_i b hb;rw[hb]at h1;refine wpIn_cond_split (t:=b) (Zj h1) (fun ht=>ihx hc.1 hd.1 Q hQ env mem bs a w (h.1 ht) st) (fun ht=>ihy hc.2 hd.2 Q hQ env mem bs a w (h.2 ht) st)
  .exact h.elim
 |block id x ih=>
  intro hc hd Q hQ env mem bs a w h st;refine wpIn_block (wpIn_mono (ih hc hd _ hQ.block env mem bs a w h st) ?_);rintro e a' w' ⟨env',mem',bs',st',hq⟩
  cases e with
  |exit id'=>
   simp only[spBlock]at hq;simp only[Exit.inBlock];by_cases e:id'=id
   .subst e;rw[if_pos rfl];simp only[Nat.beq_refl,cond_true]at hq;exact⟨env',mem',bs',st',hq⟩
   .rw[if_neg e];have:Nat.beq id' id=false:=by
     cases h2:Nat.beq id' id with
     |false=>rfl
     |true=>exact absurd (Nat.eq_of_beq_eq_true h2) e
    simp only[this,cond_false]at hq;exact⟨env',mem',bs',st',hq⟩
  |normal=>exact⟨env',mem',bs',st',hq⟩
  |goto l=>exact⟨env',mem',bs',st',hq⟩
  |ret=>exact⟨env',mem',bs',st',hq⟩
  |panic ch=>exact⟨env',mem',bs',st',hq⟩
  |outgrown=>exact⟨env',mem',bs',st',hq⟩
 |loop x ih=>
  intro hc hd Q hQ env mem bs a w h st;obtain⟨ι,E,M,R,μ,i,hent,hR,hround⟩:=h;obtain⟨bs',st'⟩:=Zx st hent;refine wpIn_loop_ghost (fun n a w=>∃i,μ i=n/\R i/\∃bs,St w0 I0 p.nt (envOf (E i)) (memOf (M i)) bs a w) (μ i) ⟨i,rfl,hR,bs',st'⟩ ?_;rintro n a w ⟨i,rfl,hR,bs,st⟩;refine wpIn_mono (ih hc hd _ hQ.then _ _ bs a w (hround i hR) st) ?_;rintro e a' w' ⟨env',mem',bs',st',hq⟩
  cases e with
  |normal=>
   obtain⟨j,h1,h2,h3⟩:=hq;obtain⟨bs'',st''⟩:=Zx st' h3;exact⟨μ j,h2,j,rfl,h1,bs'',st''⟩
  |exit id=>exact⟨env',mem',bs',st',hq⟩
  |goto l=>exact⟨env',mem',bs',st',hq⟩
  |ret=>exact⟨env',mem',bs',st',hq⟩
  |panic ch=>exact⟨env',mem',bs',st',hq⟩
  |outgrown=>exact⟨env',mem',bs',st',hq⟩
 |exit id=>intro _ _ Q _ env mem bs a w h st;exact wpIn_exit ⟨env,mem,bs,st,h⟩
 |ret=>intro _ _ Q _ env mem bs a w h st;exact wpIn_ret ⟨env,mem,bs,st,h⟩
 |rangeFunc f ps ax x _ _=>intro _ _ Q _ env mem bs a w h;exact h.elim
 |scope x _=>intro _ _ Q _ env mem bs a w h;exact h.elim
 |label l=>intro _ _ Q _ env mem bs a w h;exact h.elim
 |goto l=>intro _ _ Q _ env mem bs a w h;exact h.elim
 |refuse s=>intro _ _ Q _ env mem bs a w h;exact h.elim
end
def Mut(mem:Mem)(bs:Bs)(b:Nat):Prop:=∃o,(mem o).mut=true/\blk (bs o)=some b
def Base.at(w:World)(mem:Mem)(bs:Bs)(pin:Nat->Value):Base:=⟨w,fun b=>b<w.heap.size/\¬Mut mem bs b,fun _ h=>h.1,pin⟩
section
variable{w0:Base}{I0:Nat->Prop}{nt:Shape}{env:Env}{mem:Mem}{bs:Bs}{a:Act}{w w':World}
theorem St.mut_not(h:St w0 I0 nt env mem bs a w){b:Nat}(hm:Mut mem bs b):¬w0.K b/\b<w.heap.size:=by
 obtain⟨o,h1,h2⟩:=hm;exact(h.obs o).block h1 b h2
theorem St.stay_not(h:St w0 I0 nt env mem bs a w){b:Nat}(hs:Stay w0 I0 mem bs w b):b<w.heap.size/\¬Mut mem bs b:=by
 rcases hs with ⟨h1,h2⟩|⟨h1,h2,h3⟩
 .exact⟨h.ltK h2,fun hm=>(h.mut_not hm).1 h2⟩
 .exact⟨h2,fun ⟨o,ho,hb⟩=>h3 o ho hb⟩
theorem St.rebase(h:St w0 I0 nt env mem bs a w)(hb:Bel (fun b=>Stay w0 I0 mem bs w b\/Mut mem bs b) w w')(pin:Nat->Value)(I':Nat->Prop)(hI:∀b,Stay w0 I0 mem bs w b->I' b)(hIm:∀b,I' b->b<w'.heap.size/\¬Mut mem bs b)
 {nt':Shape}{env':Env}{a':Act}(hsz:a'.tmps.size=nt'.n)(hd:a'.defers= [])(hp:∀t,t∈nt'.pins->a'.tmps.getD t undef=pin t)
 (htmp:∀t,env' t= .junk\/(t<nt'.n/\((env' t=env t/\a'.tmps.getD t undef=a.tmps.getD t undef)\/DenAV w' (Stay (Base.at w' mem bs pin) I' mem bs w') bs mem (a'.tmps.getD t undef) (env' t))))
 (hhs:∀t o,o∈(env' t).hs->okh mem o):St (Base.at w' mem bs pin) I' nt' env' mem bs a' w':=by
 have hst:∀b,I' b->Stay (Base.at w' mem bs pin) I' mem bs w' b:=fun b hb=>.inl ⟨hb,hIm b hb⟩;have K:Keeps w (Stay w0 I0 mem bs w) bs mem w' (Stay (Base.at w' mem bs pin) I' mem bs w') bs mem (okh mem):=
  ⟨fun b hs=>⟨hst b (hI b hs),hb.block b (.inl hs)⟩,fun _ _ _ _=>rfl,fun o T n k xs own _ hm=>⟨T,xs,own,hm,rfl⟩⟩
 refine⟨Bel.refl _ _,hsz,fun _=>hd,fun t=>?_,fun o=>?_,h.sep,hhs,h.hmem,hp,by rw[hd];exact Marks.nil _ _⟩
 .rcases htmp t with h1|⟨h1,⟨h2,h3⟩|h2⟩
  .exact .inl h1
  .rcases h.tmp t with h4|⟨_,h4⟩
   .exact .inl (h2.trans h4)
   .refine .inr ⟨h1,?_⟩;rw[h2,h3];exact K.av (fun o ho=>h.henv t o ho) h4
  .exact .inr ⟨h1,h2⟩
 .have h1:=ObOk.keeps K (fun p hp=>h.hmem o p hp) hb.size (fun b hm hbo=>hb.block b (.inr ⟨o,hm,hbo⟩)) (h.obs o)
  cases e:mem o with
  |gone=>trivial
  |var T cs=>
   rw[e]at h1;obtain⟨b,l,g1,g2,g3⟩:=h1;exact⟨b,l,g1,fun hk=>hk.2 ⟨o,by rw[e];rfl,by rw[g1];rfl⟩,g3⟩
  |ext lk x=>
   rw[e]at h1;obtain⟨b,bm,g1,g2,g3⟩:=h1;exact⟨b,bm,g1,fun hk=>hk.2 ⟨o,by rw[e];rfl,by rw[g1];rfl⟩,g3⟩
  |row T n k xs own=>
   rw[e]at h1
   cases own with
   |false=>exact h1
   |true=>
    obtain⟨ys,g1,g2⟩:=h1;refine⟨ys,Zbd g1.row (fun k hk=>fun hk1=>hk1.2 ⟨o,by rw[e];rfl,?_⟩),g2⟩;rcases g1.2 with ⟨e1,_⟩|⟨g',cap',cur',e1,_⟩
    .rw[e1]at hk;simp[Value.ownBlock]at hk
    .rw[e1]at hk⊢;simpa[blk,Value.ownBlock]using hk
end
abbrev BelF(f:Nat->Prop)(w w':World):Prop:=Bel (fun b=>b<w.heap.size/\¬f b) w w'
theorem BelF.trans{f f':Nat->Prop}{a b c:World}(h:BelF f a b)(k:BelF f' b c)(hf:∀x,f' x->f x\/a.heap.size<=x):BelF f a c:=
 ⟨k.os.trans h.os,k.tape.trans h.tape,k.output.trans h.output,Nat.le_trans h.size k.size,fun i hi=>(k.block i ⟨Nat.lt_of_lt_of_le hi.1 h.size,fun hx=>by
  rcases hf i hx with h1|h1
  .exact hi.2 h1
  .have:=hi.1;omega⟩).trans (h.block i hi)⟩
structure Keeper(J:(Nat->Prop)->(Nat->Prop)->Nat->World->Prop):Prop where
 abide:∀S f k W W',J S f k W->Bel S W W'->J S f k W'
 sub:∀S f k W,J S f k W->∀b,(f b->S b)/\(S b->b<W.heap.size)
def Step(S f I:Nat->Prop)(W W':World)(S' f':Nat->Prop):Prop:=BelF f W W'/\(∀b,S' b->S b\/I b\/W.heap.size<=b)/\∀b,f' b->f b\/W.heap.size<=b
def SeqSpec(P:Program)(G:World->Prop)(gf:FuncId)(caps:List (List D))(elems:List (List D)):Prop:=
 Enters P gf/\∀(n l:Nat)(J Jx:(Nat->Prop)->(Nat->Prop)->Nat->World->Prop)(S f:Nat->Prop)(W:World)(I:Nat->Prop)(vs:List Value),Keeper J->Keeper Jx->J S f 0 W->
  (∀w',BelF f W w'->G w')->(∀b,I b->b<W.heap.size/\¬f b)->Rel2 (fun y v=>DenAV W I noBs noMem y v) vs (caps.map fun cs=>.val (.one (.ref cs)))->
  (∀S f k W' I' vs ds,J S f k W'->elems[k]? =some ds->(∀b,I' b->(I b\/W.heap.size<=b)/\b<W'.heap.size/\¬f b)->Rel2 (fun y d=>Den W' I' y d) vs ds->
   YieldAt Fence.wide n P l vs.toArray W' fun e W''=>∃S' f',Step S f I' W' W'' S' f'/\((e= .returned (.bool true)/\J S' f' (k+1) W'')\/(e= .returned (.bool false)/\Jx S' f' 0 W'')))->
  CallsIn Fence.wide n P gf (#[.func (.yield l) #[] #[]]++vs.toArray) W fun e W'=>(∃v,e= .returned v)/\∃S' f',BelF f W W'/\(∀b,f' b->f b\/W.heap.size<=b)/\(J S' f' elems.length W'\/Jx S' f' 0 W')
section
variable{w0:Base}{I0:Nat->Prop}{nt:Shape}{env:Env}{mem:Mem}{bs:Bs}{a:Act}{w W:World}{T:Nat->Prop}{pin:Nat->Value}
theorem Zdw{b:Nat}(h:Stay (Base.at W mem bs pin) T mem bs W b):T b:=by
 rcases h with ⟨h1,_⟩|⟨h1,h2,h3⟩
 .exact h1
 .exact absurd ⟨h2,fun ⟨o,ho,hb⟩=>h3 o ho hb⟩ h1
theorem St.back(h:St (Base.at W mem bs pin) T nt env mem bs a W)(hb:Bel w0.K w0.w W)(hT:∀b,T b->b<W.heap.size/\¬Mut mem bs b)(hK:∀b,T b->w0.K b->I0 b)(hM:∀b,Mut mem bs b->¬w0.K b)(hp:∀t,t∈nt.pins->a.tmps.getD t undef=w0.pin t){a':Act}(ht:a'.tmps=a.tmps)(hd:nt.marks=false->a'.defers= [])(hmk:Marks (fun b=>T b/\¬w0.K b) W a'.defers):St w0 I0 nt env mem bs a' W:=by
 have hst:∀b,Stay (Base.at W mem bs pin) T mem bs W b->Stay w0 I0 mem bs W b:=fun b hs=>by
  have h1:=Zdw hs;by_cases hk:w0.K b
  .exact .inl ⟨hK b h1 hk,hk⟩
  .exact .inr ⟨hk,(hT b h1).1,fun o ho hbo=>(hT b h1).2 ⟨o,ho,hbo⟩⟩
 have K:Keeps W (Stay (Base.at W mem bs pin) T mem bs W) bs mem W (Stay w0 I0 mem bs W) bs mem (okh mem):=
  ⟨fun b hs=>⟨hst b hs,rfl⟩,fun _ _ _ _=>rfl,fun o T n k xs own _ hm=>⟨T,xs,own,hm,rfl⟩⟩
 refine⟨hb,by rw[ht];exact h.size,hd,fun t=>?_,fun o=>?_,h.sep,h.henv,h.hmem,fun t h1=>by rw[ht];exact hp t h1,hmk.mono fun b hb=>⟨⟨.inr ⟨hb.2,(hT b hb.1).1,fun o ho hbo=>(hT b hb.1).2 ⟨o,ho,hbo⟩⟩,hb.2⟩,rfl⟩⟩
 .rcases h.tmp t with h1|⟨h1,h2⟩
  .exact .inl h1
  .exact .inr ⟨h1,by rw[ht];exact K.av (fun o ho=>h.henv t o ho) h2⟩
 .have h1:=ObOk.keeps K (fun p hp=>h.hmem o p hp) (Nat.le_refl _) (fun b _ _=>rfl) (h.obs o)
  cases e:mem o with
  |gone=>trivial
  |var T cs=>
   rw[e]at h1;obtain⟨b,l,g1,g2,g3⟩:=h1;exact⟨b,l,g1,hM b ⟨o,by rw[e];rfl,by rw[g1];rfl⟩,g3⟩
  |ext lk x=>
   rw[e]at h1;obtain⟨b,bm,g1,g2,g3⟩:=h1;exact⟨b,bm,g1,hM b ⟨o,by rw[e];rfl,by rw[g1];rfl⟩,g3⟩
  |row T n k xs own=>
   rw[e]at h1
   cases own with
   |false=>exact h1
   |true=>
    obtain⟨ys,g1,g2⟩:=h1;refine⟨ys,Zbd g1.row (fun k hk=>hM k ⟨o,by rw[e];rfl,?_⟩),g2⟩;rcases g1.2 with ⟨e1,_⟩|⟨g',cap',cur',e1,_⟩
    .rw[e1]at hk;simp[Value.ownBlock]at hk
    .rw[e1]at hk⊢;simpa[blk,Value.ownBlock]using hk
end
def envPs:List Nat->List D->Env->Env
 |p::ps,d::ds,env=>envPs ps ds (upd env p (.val (.one (.d d))))
 |_,_,env=>env
theorem Zyj{w:World}{I:Nat->Prop}:∀(ps:List Nat)(ds:List D)(vs:List Value)(tm:Array Value)(env:Env),Rel2 (fun y d=>Den w I y d) vs ds->ds.length=ps.length->(∀q,q∈ps->q<tm.size)->
  ((ps.zip vs).foldl (fun (t:Array Value) (x:Nat×Value)=>t.setIfInBounds x.1 x.2) tm).size=tm.size/\
  ∀t,(t ∉ ps/\envPs ps ds env t=env t/\((ps.zip vs).foldl (fun (t:Array Value) (x:Nat×Value)=>t.setIfInBounds x.1 x.2) tm).getD t undef=tm.getD t undef)\/
   (t∈ps/\∃d,envPs ps ds env t= .val (.one (.d d))/\Den w I (((ps.zip vs).foldl (fun (t:Array Value) (x:Nat×Value)=>t.setIfInBounds x.1 x.2) tm).getD t undef) d)
 | [],ds,vs,tm,env,_,_,_=>by
  refine⟨by simp,fun t=>.inl ⟨by simp,?_,by simp⟩⟩;cases ds<;>rfl
 |p::ps, [],vs,tm,env,_,h,_=>by simp at h
 |p::ps,d::ds, [],tm,env,h,_,_=>by have:=h.1;simp at this
 |p::ps,d::ds,v::vs,tm,env,h,hl,hs=>by
  obtain⟨h1,h2⟩:=h.of_cons;have hp:p<tm.size:=hs p mem_cons_self;obtain⟨g1,g2⟩:=Zyj ps ds vs (tm.setIfInBounds p v) (upd env p (.val (.one (.d d)))) h2 (by simpa using hl) (fun q hq=>by rw[Array.size_setIfInBounds];exact hs q (List.mem_cons_of_mem _ hq));refine⟨by simpa using g1,fun t=>?_⟩;have e:((p::ps).zip (v::vs)).foldl (fun (t:Array Value) (x:Nat×Value)=>t.setIfInBounds x.1 x.2) tm=(ps.zip vs).foldl (fun (t:Array Value) (x:Nat×Value)=>t.setIfInBounds x.1 x.2) (tm.setIfInBounds p v):=rfl;have e2:envPs (p::ps) (d::ds) env=envPs ps ds (upd env p (.val (.one (.d d)))):=rfl;rw[e,e2];rcases g2 t with ⟨k1,k2,k3⟩|⟨k1,d',k2,k3⟩
  .by_cases ht:t=p
   .subst ht;refine .inr ⟨mem_cons_self,d,by rw[k2,Zk],?_⟩;rw[k3];have:(tm.setIfInBounds t v).getD t undef=v:=by simp[hp]
    rw[this];exact h1
   .refine .inl ⟨fun hm=>?_,by rw[k2,ZQ _ _ ht],?_⟩
    .rcases List.mem_cons.1 hm with rfl|hm
     .exact ht rfl
     .exact k1 hm
    .rw[k3];simp[Array.getElem?_setIfInBounds_ne (Ne.symm ht)]
  .exact .inr ⟨List.mem_cons_of_mem _ k1,d',k2,k3⟩
def prmR(p:Prm)(E:List (Nat×AV)):Prm:={ p with nt:=⟨p.nt.n,E.map (·.1),false⟩ }
def qBody{ι:Type}(E:List (Nat×AV))(M:ι->List (Nat×Ob))(R:ι->Nat->Prop)(k:Nat)(Q:Post):Post
 | .normal,env,mem=>∃j,R j (k+1)/\entail env mem E (M j)
 | .ret,env,mem=>∃M',entail env mem E M'/\Q .ret (envOf E) (memOf M')
 | .exit id,env,mem=>∃M',entail env mem E M'/\Q (.exit id) (envOf E) (memOf M')
 |_,_,_=>False
def spRange(p:Prm)(g:Operand)(ps:List Nat)(assign body:Code)(Q:Post)(env:Env)(mem:Mem):Prop:=
 (noDef assign&&noDef body&&codeOk assign&&codeOk body)=true/\
  ∃(gf:FuncId)(caps elems:List (List D))(E:List (Nat×AV))(ι:Type)(M:ι->List (Nat×Ob))(R:ι->Nat->Prop)(i0:ι),opd (envOf E) g= .val (.one (.d (.fn gf caps)))/\SeqSpec p.P p.G gf caps elems/\(∀ds,ds∈elems->ds.length=ps.length)/\
   (∀q,q∈ps->q<p.nt.n/\q ∉ E.map (·.1))/\entail env mem E (M i0)/\R i0 0/\
   (∀i k ds,elems[k]? =some ds->R i k->sp (prmR p E) assign (spThen (fun env1 mem1=>sp (prmR p E) body (qBody E M R k Q) env1 mem1) (fun _ _ _=>False)) (envPs ps ds (envOf E)) (memOf (M i)))/\
   ∀i,R i elems.length->Q .normal (envOf E) (memOf (M i))
theorem ZhN{W w:World}{mem mem':Mem}{bs bs':Bs}{pin:Nat->Value}{T:Nat->Prop}{b:Nat}(h:Stay (Base.at W mem bs pin) T mem' bs' w b):T b\/Mut mem bs b\/W.heap.size<=b:=by
 rcases h with ⟨h1,_⟩|⟨h1,_,_⟩
 .exact .inl h1
 .by_cases hm:Mut mem bs b
  .exact .inr (.inl hm)
  .by_cases hs:b<W.heap.size
   .exact absurd ⟨hs,hm⟩ h1
   .exact .inr (.inr ω)
theorem Zli{W w:World}{nt:Shape}{env:Env}{a:Act}{mem mem':Mem}{bs bs':Bs}{pin:Nat->Value}{T:Nat->Prop}{b:Nat}(h:St (Base.at W mem bs pin) T nt env mem' bs' a w)(hm:Mut mem' bs' b):Mut mem bs b\/W.heap.size<=b:=by
 have h1:=(h.mut_not hm).1;by_cases h2:Mut mem bs b
 .exact .inl h2
 .by_cases hs:b<W.heap.size
  .exact absurd ⟨hs,h2⟩ h1
  .exact .inr ω
theorem Bel.sub{K K':Nat->Prop}{w w':World}(h:Bel K w w')(hk:∀b,K' b->K b):Bel K' w w':=⟨h.os,h.tape,h.output,h.size,fun b hb=>h.block b (hk b hb)⟩
theorem Zaq{K:Nat->Prop}{w:World}{l:Nat}{o:Obj}(h:¬K l):Bel K w (w.putObj l o):=
 ⟨rfl,rfl,rfl,Nat.le_of_eq World.putObj_size.symm,fun _ hb=>World.putObj_heap_other (fun e=>h (e▸hb))⟩
structure LoopW(p:Prm)(w0:Base)(I0:Nat->Prop)(E:List (Nat×AV))(a0:Act)(l D:Nat)(r:Loop)(Mm:List (Nat×Ob))(T:Nat->Prop)(bs:Bs)(S f:Nat->Prop)(W:World):Prop where
 st:St (Base.at W (memOf Mm) bs fun t=>a0.tmps.getD t undef) T (prmR p E).nt (envOf E) (memOf Mm) bs { a0 with defers:=[] } W
 s:∀b,S b↔(T b\/w0.K b\/Mut (memOf Mm) bs b\/b=l\/b=D)
 f:∀b,f b↔(Mut (memOf Mm) bs b\/b=l)
 lrec:W.heap[l]? =some (.loop r)
 dblk:W.heap[D]? =some (.deferred (some []))
 old:∀b,T b->b<W.heap.size/\¬Mut (memOf Mm) bs b/\b≠l/\b≠D/\(w0.K b->I0 b)
 new:∀b,Mut (memOf Mm) bs b->¬w0.K b/\b≠l/\b≠D
 ld:l≠D/\w0.w.heap.size<=l/\w0.w.heap.size<=D
 bel:Bel w0.K w0.w W
 marks:Marks (fun b=>T b/\¬w0.K b) W a0.defers
 pin:∀t,t∈p.nt.pins->a0.tmps.getD t undef=w0.pin t
section
variable{p:Prm}{w0:Base}{I0:Nat->Prop}{E:List (Nat×AV)}{a0:Act}{l D:Nat}{r:Loop}{Mm:List (Nat×Ob)}{T:Nat->Prop}{bs:Bs}{S f:Nat->Prop}{W W':World}
theorem Z7{W:World}{b:Nat}{o:Obj}(h:W.heap[b]? =some o):b<W.heap.size:=(Array.getElem?_eq_some_iff.1 h).1
theorem LoopW.keep(h:LoopW p w0 I0 E a0 l D r Mm T bs S f W)(hb:Bel S W W'):LoopW p w0 I0 E a0 l D r Mm T bs S f W':=by
 have hT:∀b,T b->S b:=fun b hb=>(h.s b).2 (.inl hb);refine⟨?_,h.s,h.f,?_,?_,fun b hT=>?_,h.new,h.ld,h.bel.trans (hb.sub fun b hk=>(h.s b).2 (.inr (.inl hk))),h.marks.mono fun b hb1=>⟨hb1,hb.block b (hT b hb1.1)⟩,h.pin⟩
 .refine h.st.rebase (hb.sub fun b hk=>?_) _ T (fun b hs=>Zdw hs) (fun b hT=>?_) h.st.size rfl (fun t _=>rfl) (fun t=>?_) h.st.henv
  .rcases hk with hk|hk
   .exact hT b (Zdw hk)
   .exact(h.s b).2 (.inr (.inr (.inl hk)))
  .have:=h.old b hT;exact⟨Nat.lt_of_lt_of_le this.1 hb.size,this.2.1⟩
  .rcases h.st.tmp t with h1|⟨h1,_⟩
   .exact .inl h1
   .exact .inr ⟨h1,.inl ⟨rfl,rfl⟩⟩
 .rw[hb.block l ((h.s l).2 (.inr (.inr (.inr (.inl rfl)))))];exact h.lrec
 .rw[hb.block D ((h.s D).2 (.inr (.inr (.inr (.inr rfl)))))];exact h.dblk
 .have:=h.old b hT;exact⟨Nat.lt_of_lt_of_le this.1 hb.size,this.2⟩
theorem LoopW.mut_lt(h:LoopW p w0 I0 E a0 l D r Mm T bs S f W){b:Nat}(hm:Mut (memOf Mm) bs b):b<W.heap.size:=(h.st.mut_not hm).2
theorem LoopW.sub(h:LoopW p w0 I0 E a0 l D r Mm T bs S f W)(b:Nat):(f b->S b)/\(S b->b<W.heap.size):=by
 refine⟨fun hf=>?_,fun hs=>?_⟩
 .rcases (h.f b).1 hf with h1|h1
  .exact(h.s b).2 (.inr (.inr (.inl h1)))
  .exact(h.s b).2 (.inr (.inr (.inr (.inl h1))))
 .rcases (h.s b).1 hs with h1|h1|h1|rfl|rfl
  .exact(h.old b h1).1
  .exact Nat.lt_of_lt_of_le (w0.lt b h1) h.bel.size
  .exact h.mut_lt h1
  .exact Z7 h.lrec
  .exact Z7 h.dblk
def LoopK(p:Prm)(w0:Base)(I0:Nat->Prop)(E:List (Nat×AV))(a0:Act)(l D:Nat)(rc:LoopState->Option Code->Loop)(X:List (Nat×Ob)->Nat->LoopState->Option Code->Prop)(S f:Nat->Prop)(k:Nat)(W:World):Prop:=
 ∃Mm stt pend T bs,X Mm k stt pend/\LoopW p w0 I0 E a0 l D (rc stt pend) Mm T bs S f W
theorem LoopK.keeper(rc:LoopState->Option Code->Loop)(X:List (Nat×Ob)->Nat->LoopState->Option Code->Prop):Keeper (LoopK p w0 I0 E a0 l D rc X):=
 ⟨fun _ _ _ _ _ ⟨Mm,stt,pend,T,bs,hx,h⟩ hb=>⟨Mm,stt,pend,T,bs,hx,h.keep hb⟩,fun _ _ _ _ ⟨_,_,_,_,_,_,h⟩ b=>h.sub b⟩
theorem Zq8(E:List (Nat×AV))(t:Nat):envOf E t= .junk\/t∈E.map (·.1):=by
 rcases ZcR E t with h|⟨e,h1,h2,_⟩
 .exact .inl h
 .exact .inr (List.mem_map.2 ⟨e,h1,h2⟩)
theorem ZmX{n:Nat}(hTB:TBok p.P p.TB)(hG:∀w,Bel w0.K w0.w w->p.G w)(hmix:p.P.follows .mixedOrders=true){ps:List Nat}{ds:List eng.D}{vs:List Value}{I':Nat->Prop}{fn:FuncId}{assign body:Code}
 (h:LoopW p w0 I0 E a0 l D ⟨.ready,none,fn,a0.tmps,ps.toArray,assign,body,D⟩ Mm T bs S f W)(ha:codeOk assign=true)(hb:codeOk body=true)(hna:noDef assign=true)(hnb:noDef body=true)
 (hI:∀b,I' b->b<W.heap.size/\¬f b/\b≠D/\(w0.K b->I0 b))(hv:Rel2 (fun y d=>Den W I' y d) vs ds)(hl:ds.length=ps.length)(hps:∀q,q∈ps->q<p.nt.n/\q ∉ E.map (·.1)){Qb:Post}(hQb:NoOut Qb)
 (hsp:sp (prmR p E) assign (spThen (fun env1 mem1=>sp (prmR p E) body Qb env1 mem1) (fun _ _ _=>False)) (envPs ps ds (envOf E)) (memOf Mm))
 {R:Ending->World->Prop}{Z:Option Code->List (Nat×Ob)->Prop}
 (hR:∀jump M' w',Z jump M'->(∃T' bs' S' f',Step S f I' W w' S' f'/\LoopW p w0 I0 E a0 l D ⟨if jump.isNone then .ready else .done,jump,fn,a0.tmps,ps.toArray,assign,body,D⟩ M' T' bs' S' f' w')->R (.returned (.bool jump.isNone)) w')
 (hQe:∀e env mem,Qb e env mem->∃M',entail env mem E M'/\((e= .normal/\Z none M')\/(e= .ret/\Z (some .ret) M')\/∃id,e= .exit id/\Z (some (.exit id)) M')):
  YieldAt Fence.wide n p.P l vs.toArray W R:=by
 have hlen:vs.length=ps.length:=hv.1.trans hl;obtain⟨hz1,hz2⟩:=Zyj (I:=I') ps ds vs a0.tmps (envOf E) hv hl (fun q hq=>by rw[show a0.tmps.size=p.nt.n from h.st.size];exact(hps q hq).1);refine⟨fn,_,assign,body,run_yield h.lrec (by simpa using hlen),?_⟩;have ez:(Array.zip ps.toArray vs.toArray).foldl (fun (t:Array Value) (x:Nat×Value)=>t.setIfInBounds x.1 x.2) a0.tmps=(ps.zip vs).foldl (fun (t:Array Value) (x:Nat×Value)=>t.setIfInBounds x.1 x.2) a0.tmps:=by
  rw[List.zip_toArray,List.foldl_toArray]
 refine roundIn_of_wpIn trivial ?_;show assign.wpIn (rF l) n p.P _ { tmps:=(Array.zip ps.toArray vs.toArray).foldl (fun (t:Array Value) (x:Nat×Value)=>t.setIfInBounds x.1 x.2) a0.tmps,defers:=[] } W;rw[ez];clear ez;generalize (ps.zip vs).foldl (fun (t:Array Value) (x:Nat×Value)=>t.setIfInBounds x.1 x.2) a0.tmps=tm at hz1 hz2⊢;have hTI:∀b,T b\/I' b->b<W.heap.size/\¬Mut (memOf Mm) bs b/\b≠l/\b≠D/\(w0.K b->I0 b):=by
  intro b hb;rcases hb with hb|hb
  .exact h.old b hb
  .have h1:=hI b hb;exact⟨h1.1,fun hm=>h1.2.1 ((h.f b).2 (.inl hm)),fun e=>h1.2.1 ((h.f b).2 (.inr e)),h1.2.2⟩
 have st0:St (Base.at W (memOf Mm) bs fun t=>a0.tmps.getD t undef) (fun b=>T b\/I' b) (prmR p E).nt (envPs ps ds (envOf E)) (memOf Mm) bs { tmps:=tm,defers:=[] } W:=by
  refine h.st.rebase (Bel.refl _ _) _ _ (fun b hs=>.inl (Zdw hs)) (fun b hb=>⟨(hTI b hb).1,(hTI b hb).2.1⟩) (hz1.trans h.st.size) rfl (fun t ht=>?_) (fun t=>?_) (fun t o ho=>?_)
  .rcases hz2 t with ⟨_,_,h3⟩|⟨h1,_⟩
   .exact h3
   .exact absurd ht (hps t h1).2
  .rcases hz2 t with ⟨_,h2,h3⟩|⟨h1,d,h2,h3⟩
   .rcases h.st.tmp t with h4|⟨h4,_⟩
    .exact .inl (h2.trans h4)
    .exact .inr ⟨h4,.inl ⟨h2,h3⟩⟩
   .refine .inr ⟨(hps t h1).1,.inr ?_⟩;rw[h2];exact Den.mono (fun b hb=>⟨.inl ⟨.inr hb,(hTI b (.inr hb)).1,(hTI b (.inr hb)).2.1⟩,rfl⟩) h3
  .rcases hz2 t with ⟨_,h2,_⟩|⟨_,d,h2,_⟩
   .rw[h2]at ho;exact h.st.henv t o ho
   .rw[h2]at ho;simp[AV.hs,eng.S.hs,C.hs]at ho
 have hk0:∀b,w0.K b->(Base.at W (memOf Mm) bs fun t=>a0.tmps.getD t undef).K b:=fun b hk=>⟨Nat.lt_of_lt_of_le (w0.lt b hk) h.bel.size,fun hm=>(h.new b hm).1 hk⟩;have hlK:(Base.at W (memOf Mm) bs fun t=>a0.tmps.getD t undef).K l:=⟨Z7 h.lrec,fun hm=>(h.new l hm).2.1 rfl⟩;have hDK:(Base.at W (memOf Mm) bs fun t=>a0.tmps.getD t undef).K D:=⟨Z7 h.dblk,fun hm=>(h.new D hm).2.2 rfl⟩;have hl0:¬w0.K l:=fun hk=>by have:=w0.lt l hk;have:=h.ld.2.1;omega
 refine wpIn_mono (ZfJ (p:=prmR p E) hTB (fun w hw=>hG w (h.bel.trans (hw.sub hk0))) hmix assign ha hna _ (NoOut.then fun _ _ hq=>hq) _ _ bs _ _ hsp st0) ?_;rintro e a1 w1 ⟨env1,mem1,bs1,st1,hq1⟩
 cases e with
 |normal=>
  have hr1:w1.heap[l]? =_:=(st1.below.block l hlK).trans h.lrec;refine⟨_,run_beginRound hr1 rfl,?_⟩;have hd1:a1.defers= []:=st1.defers rfl;have hm1:∀b,Mut mem1 bs1 b->Mut (memOf Mm) bs b\/W.heap.size<=b:=fun b hm=>Zli st1 hm;have hlS:¬(Stay (Base.at W (memOf Mm) bs fun t=>a0.tmps.getD t undef) (fun b=>T b\/I' b) mem1 bs1 w1 l\/Mut mem1 bs1 l):=by
   rintro(hs|hs)
   .rcases hs with ⟨hs,_⟩|⟨hs,_⟩
    .exact(hTI l hs).2.2.1 rfl
    .exact hs hlK
   .exact(st1.mut_not hs).1 hlK
  have st2:St (Base.at (w1.putObj l (.loop ⟨.busy,none,fn,a0.tmps,ps.toArray,assign,body,D⟩)) mem1 bs1 fun t=>a0.tmps.getD t undef) (Stay (Base.at W (memOf Mm) bs fun t=>a0.tmps.getD t undef) (fun b=>T b\/I' b) mem1 bs1 w1) (prmR p E).nt env1 mem1 bs1 a1 (w1.putObj l (.loop ⟨.busy,none,fn,a0.tmps,ps.toArray,assign,body,D⟩)):=by
   refine st1.rebase (Zaq hlS) _ _ (fun b hs=>hs) (fun b hs=>by rw[World.putObj_size];exact st1.stay_not hs) st1.size hd1 (fun t ht=>st1.pin t ht) (fun t=>?_) st1.henv;rcases st1.tmp t with h4|⟨h4,_⟩
   .exact .inl h4
   .exact .inr ⟨h4,.inl ⟨rfl,rfl⟩⟩
  have hq1':sp (prmR p E) body Qb env1 mem1:=hq1;have hk1:∀b,(Base.at W (memOf Mm) bs fun t=>a0.tmps.getD t undef).K b->(Base.at (w1.putObj l (.loop ⟨.busy,none,fn,a0.tmps,ps.toArray,assign,body,D⟩)) mem1 bs1 fun t=>a0.tmps.getD t undef).K b:=fun b hk=>by
   refine⟨?_,fun hm=>(st1.mut_not hm).1 hk⟩;show b<(w1.putObj l _).heap.size;rw[World.putObj_size];exact Nat.lt_of_lt_of_le hk.1 st1.below.size
  have hbW:∀w,Bel (Base.at (w1.putObj l (.loop ⟨.busy,none,fn,a0.tmps,ps.toArray,assign,body,D⟩)) mem1 bs1 fun t=>a0.tmps.getD t undef).K (w1.putObj l (.loop ⟨.busy,none,fn,a0.tmps,ps.toArray,assign,body,D⟩)) w->
    Bel (fun b=>b<W.heap.size/\¬f b) W w:=fun w hw=>by
   have hx:∀b,b<W.heap.size/\¬f b->(Base.at W (memOf Mm) bs fun t=>a0.tmps.getD t undef).K b:=fun b hb=>⟨hb.1,fun hm=>hb.2 ((h.f b).2 (.inl hm))⟩;exact((st1.below.sub hx).trans (Zaq fun hb=>hb.2 ((h.f l).2 (.inr rfl)))).trans (hw.sub fun b hb=>hk1 b (hx b hb))
  have hf0:∀b,w0.K b->b<W.heap.size/\¬f b:=fun b hk=>⟨(hk0 b hk).1,fun hf=>by
   rcases (h.f b).1 hf with h1|rfl
   .exact(h.new b h1).1 hk
   .exact hl0 hk⟩
  refine wpIn_mono (ZfJ (p:=prmR p E) hTB (fun w hw=>hG w (h.bel.trans ((hbW w hw).sub hf0))) hmix body hb hnb _ hQb _ _ bs1 _ _ hq1' st2) ?_;rintro e a3 w3 ⟨env3,mem3,bs3,st3,hq3⟩;obtain⟨M',hent,he⟩:=hQe e env3 mem3 hq3;obtain⟨bs4,st4⟩:=Zx st3 hent;have hd3:a3.defers= []:=st3.defers rfl;have hr3:w3.heap[l]? =some (.loop ⟨.busy,none,fn,a0.tmps,ps.toArray,assign,body,D⟩):=(st3.below.block l (hk1 l hlK)).trans (World.putObj_heap_same (Z7 hr1));have hend:∀jump:Option Code,∃T' bs' S' f',Step S f I' W (w3.putObj l (.loop ⟨if jump.isNone then .ready else .done,jump,fn,a0.tmps,ps.toArray,assign,body,D⟩)) S' f'/\
    LoopW p w0 I0 E a0 l D ⟨if jump.isNone then .ready else .done,jump,fn,a0.tmps,ps.toArray,assign,body,D⟩ M' T' bs' S' f' (w3.putObj l (.loop ⟨if jump.isNone then .ready else .done,jump,fn,a0.tmps,ps.toArray,assign,body,D⟩)):=by
   intro jump;generalize hrc:(Loop.mk (if jump.isNone then .ready else .done) jump fn a0.tmps ps.toArray assign body D)=rc;have hmut:∀b,Mut (memOf M') bs4 b->Mut (memOf Mm) bs b\/W.heap.size<=b:=fun b hm=>by
    rcases Zli st4 hm with h1|h1
    .exact hm1 b h1
    .rw[World.putObj_size]at h1;exact .inr (Nat.le_trans st1.below.size h1)
   have hstay:∀b,Stay (Base.at (w1.putObj l (.loop ⟨.busy,none,fn,a0.tmps,ps.toArray,assign,body,D⟩)) mem1 bs1 fun t=>a0.tmps.getD t undef) (Stay (Base.at W (memOf Mm) bs fun t=>a0.tmps.getD t undef) (fun b=>T b\/I' b) mem1 bs1 w1) (memOf M') bs4 w3 b->
     (T b\/I' b)\/Mut (memOf Mm) bs b\/W.heap.size<=b:=fun b hs=>by
    rcases ZhN hs with h1|h1|h1
    .exact ZhN h1
    .exact .inr (hm1 b h1)
    .rw[World.putObj_size]at h1;exact .inr (.inr (Nat.le_trans st1.below.size h1))
   have hll:=Z7 h.lrec;have hDl:=Z7 h.dblk;have hlS4:¬(Stay (Base.at (w1.putObj l (.loop ⟨.busy,none,fn,a0.tmps,ps.toArray,assign,body,D⟩)) mem1 bs1 fun t=>a0.tmps.getD t undef) (Stay (Base.at W (memOf Mm) bs fun t=>a0.tmps.getD t undef) (fun b=>T b\/I' b) mem1 bs1 w1) (memOf M') bs4 w3 l\/Mut (memOf M') bs4 l):=by
    rintro(hs|hs)
    .rcases hstay l hs with h1|h1|h1
     .exact(hTI l h1).2.2.1 rfl
     .exact(h.new l h1).2.1 rfl
     .omega
    .rcases hmut l hs with h1|h1
     .exact(h.new l h1).2.1 rfl
     .omega
   refine⟨Stay (Base.at (w1.putObj l (.loop ⟨.busy,none,fn,a0.tmps,ps.toArray,assign,body,D⟩)) mem1 bs1 fun t=>a0.tmps.getD t undef) (Stay (Base.at W (memOf Mm) bs fun t=>a0.tmps.getD t undef) (fun b=>T b\/I' b) mem1 bs1 w1) (memOf M') bs4 w3,bs4,_,_,
    ⟨(hbW w3 st3.below).trans (Zaq fun hb=>hb.2 ((h.f l).2 (.inr rfl))),?_,?_⟩,?_,fun _=>Iff.rfl,fun _=>Iff.rfl,World.putObj_heap_same (Z7 hr3),?_,?_,?_,h.ld,?_,?_,h.pin⟩
   .rintro b (hb|hb|hb|hb|hb)
    .rcases hstay b hb with (h1|h1)|h1|h1
     .exact .inl ((h.s b).2 (.inl h1))
     .exact .inr (.inl h1)
     .exact .inl ((h.s b).2 (.inr (.inr (.inl h1))))
     .exact .inr (.inr h1)
    .exact .inl ((h.s b).2 (.inr (.inl hb)))
    .rcases hmut b hb with h1|h1
     .exact .inl ((h.s b).2 (.inr (.inr (.inl h1))))
     .exact .inr (.inr h1)
    .exact .inl ((h.s b).2 (.inr (.inr (.inr (.inl hb)))))
    .exact .inl ((h.s b).2 (.inr (.inr (.inr (.inr hb)))))
   .rintro b (hb|hb)
    .rcases hmut b hb with h1|h1
     .exact .inl ((h.f b).2 (.inl h1))
     .exact .inr h1
    .exact .inl ((h.f b).2 (.inr hb))
   .refine st4.rebase (Zaq hlS4) _ _ (fun b hs=>hs) (fun b hs=>by rw[World.putObj_size];exact st4.stay_not hs) h.st.size rfl (fun t _=>rfl) (fun t=>?_) st4.henv;rcases Zq8 E t with h1|h1
    .exact .inl h1
    .rcases st4.tmp t with h4|⟨h4,_⟩
     .exact .inl h4
     .exact .inr ⟨h4,.inl ⟨rfl,(st4.pin t h1).symm⟩⟩
   .rw[World.putObj_heap_other h.ld.1.symm];exact((st3.below.block D (hk1 D hDK)).trans ((World.putObj_heap_other h.ld.1.symm).trans (st1.below.block D hDK))).trans h.dblk
   .intro b hs;have h1:=st4.stay_not hs;rw[World.putObj_size];refine⟨h1.1,h1.2,?_⟩;rcases hstay b hs with h2|h2|h2
    .exact(hTI b h2).2.2
    .have:=h.new b h2;exact⟨this.2.1,this.2.2,fun hk=>absurd hk this.1⟩
    .refine⟨ω,ω,fun hk=>?_⟩;have:=(hf0 b hk).1;omega
   .intro b hm;rcases hmut b hm with h1|h1
    .exact h.new b h1
    .refine⟨fun hk=>?_,ω,ω⟩;have:=(hf0 b hk).1;omega
   .exact h.bel.trans ((((hbW w3 st3.below).trans (Zaq fun hb=>hb.2 ((h.f l).2 (.inr rfl)))).sub hf0))
   .refine h.marks.mono fun b hb=>?_;have hnm:b≠l:=(h.old b hb.1).2.2.1;have hKb:(Base.at W (memOf Mm) bs fun t=>a0.tmps.getD t undef).K b:=⟨(h.old b hb.1).1,(h.old b hb.1).2.1⟩;refine⟨⟨.inl ⟨.inl ⟨.inl hb.1,hKb⟩,hk1 b hKb⟩,hb.2⟩,?_⟩;rw[World.putObj_heap_other hnm,st3.below.block b (hk1 b hKb)];exact(World.putObj_heap_other hnm).trans (st1.below.block b hKb)
  rcases he with ⟨rfl,hz⟩|⟨rfl,hz⟩|⟨id,rfl,hz⟩
  .exact⟨_,_,run_endRound none hr3,hR none M' _ hz (hend none)⟩
  .exact⟨_,_,run_endRound (some .ret) hr3,hR (some .ret) M' _ hz (hend (some .ret))⟩
  .exact⟨_,_,run_endRound (some (.exit id)) hr3,hR (some (.exit id)) M' _ hz (hend (some (.exit id)))⟩
 |exit id=>exact hq1.elim
 |goto t=>exact hq1.elim
 |ret=>exact hq1.elim
 |panic ch=>exact hq1.elim
 |outgrown=>exact hq1.elim
theorem LoopW.leave(h:LoopW p w0 I0 E a0 l D r Mm T bs S f W)(hmk:p.nt.marks=true)(o:Obj):
  St w0 I0 p.nt (envOf E) (memOf Mm) bs { a0 with defers:={ target:=.collected D,args:=#[] }::a0.defers } (W.putObj l o):=by
 have hlT:¬(Stay (Base.at W (memOf Mm) bs fun t=>a0.tmps.getD t undef) T (memOf Mm) bs W l\/Mut (memOf Mm) bs l):=by
  rintro(hs|hs)
  .exact(h.old l (Zdw hs)).2.2.1 rfl
  .exact(h.new l hs).2.1 rfl
 have hT:∀b,T b\/b=D->b<(W.putObj l o).heap.size/\¬Mut (memOf Mm) bs b:=by
  intro b hb;rw[World.putObj_size];rcases hb with hb|rfl
  .exact⟨(h.old b hb).1,(h.old b hb).2.1⟩
  .exact⟨Z7 h.dblk,fun hm=>(h.new b hm).2.2 rfl⟩
 have hl0:¬w0.K l:=fun hk=>by have:=w0.lt l hk;have:=h.ld.2.1;omega
 have hD0:¬w0.K D:=fun hk=>by have:=w0.lt D hk;have:=h.ld.2.2;omega
 have st:St (Base.at (W.putObj l o) (memOf Mm) bs fun t=>a0.tmps.getD t undef) (fun b=>T b\/b=D) p.nt (envOf E) (memOf Mm) bs { a0 with defers:=[] } (W.putObj l o):=by
  refine h.st.rebase (Zaq hlT) _ _ (fun b hs=>.inl (Zdw hs)) hT h.st.size rfl (fun _ _=>rfl) (fun t=>?_) h.st.henv;rcases h.st.tmp t with h4|⟨h4,_⟩
  .exact .inl h4
  .exact .inr ⟨h4,.inl ⟨rfl,rfl⟩⟩
 refine st.back (h.bel.trans (Zaq hl0)) hT (fun b hb hk=>?_) (fun b hm=>(h.new b hm).1) h.pin rfl (fun e=>by simp[hmk]at e) ⟨List.pairwise_cons.2 ⟨fun d hd e=>?_,h.marks.1⟩,fun d hd=>?_⟩
 .rcases hb with hb|rfl
  .exact(h.old b hb).2.2.2.2 hk
  .exact absurd hk hD0
 .obtain⟨D',e',hD',_⟩:=h.marks.2 d hd;rw[<-e]at e';have:D=D':=by simpa using e'
  subst this;exact(h.old D hD'.1).2.2.2.1 rfl
 .rcases List.mem_cons.1 hd with rfl|hd
  .exact⟨D,rfl,⟨.inr rfl,hD0⟩,(World.putObj_heap_other h.ld.1.symm).trans h.dblk⟩
  .obtain⟨D',e',hD',h3⟩:=h.marks.2 d hd;exact⟨D',e',⟨.inl hD'.1,hD'.2⟩,(World.putObj_heap_other (h.old D' hD'.1).2.2.1).trans h3⟩
theorem Zfo{w:World}{o:Obj}{b:Nat}(h:b<w.heap.size):(w.alloc o).heap[b]? =w.heap[b]? :=by
 show (w.heap.push o)[b]? =_;rw[Array.getElem?_push];simp[Nat.ne_of_lt h]
theorem ZmG{w w1:World}{I:Nat->Prop}{vs:List Value}{caps:List AV}(hI:∀b,I b->w1.heap[b]? =w.heap[b]?)(h:Rel2 (fun y v=>DenAV w I noBs noMem y v) vs caps):Rel2 (fun y v=>DenAV w1 I noBs noMem y v) vs caps:=
 ⟨h.1,fun j c y hc hy=>(Keeps.mk (H:=fun _=>True) (fun b hb=>⟨hb,hI b hb⟩) (fun _ _ _ _=>rfl) (fun _ T _ _ xs own _ hm=>⟨T,xs,own,hm,rfl⟩)).av (fun _ _=>trivial) (h.2 j c y hc hy)⟩
theorem Zjz{n:Nat}(hTB:TBok p.P p.TB)(hG:∀w,Bel w0.K w0.w w->p.G w)(hmix:p.P.follows .mixedOrders=true)(hmk:p.nt.marks=true){g:Operand}{ps:Array Nat}{assign body:Code}{Q:Post}
 {env:Env}{mem:Mem}{bs:Bs}{a:Act}{w:World}(h:spRange p g ps.toList assign body Q env mem)(st:St w0 I0 p.nt env mem bs a w):(Code.rangeFunc g ps assign body).wpIn Fence.wide n p.P (Like p w0 I0 Q) a w:=by
 obtain⟨hc,gf,caps,elems,E,ι,M,R,i0,hg,hseq,hlen,hps,hent,hR0,hround,hend⟩:=h;simp only[Bool.and_eq_true]at hc;obtain⟨⟨⟨hna,hnb⟩,ha⟩,hb⟩:=hc;obtain⟨bs1,st1⟩:=Zx st hent;obtain⟨hgd,_⟩:=Zc st1 (fun _=>.inr rfl) g;rw[hg]at hgd;obtain⟨cs,ef,hcs⟩:=ZqZ hgd;refine wpIn_rangeFunc fun fn _=>?_;let w1:World:=(w.alloc (.deferred (some []))).alloc (.loop ⟨.ready,none,fn,a.tmps,ps,assign,body,w.heap.size⟩);have hsz:w1.heap.size=w.heap.size+2:=by simp[w1]
 have hold:∀b,b<w.heap.size->w1.heap[b]? =w.heap[b]? :=fun b hb=>(Zfo (by simp;omega)).trans (Zfo hb);have hbel:Bel (fun b=>b<w.heap.size) w w1:=⟨rfl,rfl,rfl,ω,hold⟩;have hTw:∀b,Stay w0 I0 (memOf (M i0)) bs1 w b->b<w.heap.size:=fun b hs=>(st1.stay_not hs).1;have hTK:∀b,Stay w0 I0 (memOf (M i0)) bs1 w b->w0.K b->I0 b:=fun b hs hk=>by
  rcases hs with ⟨h1,_⟩|⟨h1,_⟩
  .exact h1
  .exact absurd hk h1
 have hw1:LoopW p w0 I0 E a (w.heap.size+1) w.heap.size ⟨.ready,none,fn,a.tmps,ps.toList.toArray,assign,body,w.heap.size⟩ (M i0) (Stay w0 I0 (memOf (M i0)) bs1 w) bs1
   (fun b=>Stay w0 I0 (memOf (M i0)) bs1 w b\/w0.K b\/Mut (memOf (M i0)) bs1 b\/b=w.heap.size+1\/b=w.heap.size) (fun b=>Mut (memOf (M i0)) bs1 b\/b=w.heap.size+1) w1:=by
  refine⟨?_,fun _=>Iff.rfl,fun _=>Iff.rfl,?_,?_,fun b hs=>?_,fun b hm=>?_,?_,st1.below.trans (hbel.sub fun b hk=>st1.ltK hk),st1.marks.mono fun b hb=>⟨hb,hold b (hTw b hb.1)⟩,st1.pin⟩
  .refine st1.rebase (hbel.sub fun b hk=>?_) _ _ (fun b hs=>hs) (fun b hs=>⟨?_,(st1.stay_not hs).2⟩) st1.size rfl (fun _ _=>rfl) (fun t=>?_) st1.henv
   .rcases hk with hk|hk
    .exact hTw b hk
    .exact(st1.mut_not hk).2
   .have:=hTw b hs;omega
   .rcases st1.tmp t with h4|⟨h4,_⟩
    .exact .inl h4
    .exact .inr ⟨h4,.inl ⟨rfl,rfl⟩⟩
  .have:=World.alloc_heap_new (w.alloc (.deferred (some []))) (.loop ⟨.ready,none,fn,a.tmps,ps,assign,body,w.heap.size⟩);rw[World.size_alloc]at this;exact this
  .exact(Zfo (by simp)).trans (World.alloc_heap_new w _)
  .have h1:=hTw b hs;exact⟨ω,(st1.stay_not hs).2,ω,ω,hTK b hs⟩
  .have h1:=st1.mut_not hm;exact⟨h1.1,ω,ω⟩
  .have:=st1.below.size;exact⟨ω,ω,ω⟩
 have hf0:∀b,w0.K b->b<w1.heap.size/\¬(Mut (memOf (M i0)) bs1 b\/b=w.heap.size+1):=fun b hk=>by
  have h1:=st1.ltK hk;refine⟨ω,?_⟩;rintro(hm|hm)
  .exact(st1.mut_not hm).1 hk
  .omega
 let rc:LoopState->Option Code->Loop:=fun s q=>⟨s,q,fn,a.tmps,ps.toList.toArray,assign,body,w.heap.size⟩;let J:=LoopK p w0 I0 E a (w.heap.size+1) w.heap.size rc fun Mm k stt pend=>∃i,Mm=M i/\R i k/\stt= .ready/\pend=none;let Jx:=LoopK p w0 I0 E a (w.heap.size+1) w.heap.size rc fun Mm _ stt pend=>stt= .done/\((pend=some .ret/\Q .ret (envOf E) (memOf Mm))\/∃id,pend=some (.exit id)/\Q (.exit id) (envOf E) (memOf Mm));have hcall:=hseq.2 (n-1) (w.heap.size+1) J Jx _ _ w1 (Stay w0 I0 (memOf (M i0)) bs1 w) cs (LoopK.keeper _ _) (LoopK.keeper _ _) ⟨M i0,.ready,none,_,bs1,⟨i0,rfl,hR0,rfl,rfl⟩,hw1⟩
  (fun w' hw'=>hG w' (hw1.bel.trans (hw'.sub hf0)))
  (fun b hs=>by
   have h1:=hTw b hs;refine⟨ω,?_⟩;rintro(hm|hm)
   .exact(st1.stay_not hs).2 hm
   .omega)
  (ZmG (fun b hs=>hold b (hTw b hs)) hcs)
  (fun S f k W' I' vs ds hJ hk hI' hvs=>by
   obtain⟨Mm,stt,pend,T,bs2,⟨i,rfl,hRi,rfl,rfl⟩,hw⟩:=hJ;have hw:LoopW p w0 I0 E a (w.heap.size+1) w.heap.size ⟨.ready,none,fn,a.tmps,ps.toList.toArray,assign,body,w.heap.size⟩ (M i) T bs2 S f W':=hw;refine ZmX (Z:=fun jump M'=>(jump=none/\∃j,M'=M j/\R j (k+1))\/(jump=some .ret/\Q .ret (envOf E) (memOf M'))\/∃id,jump=some (.exit id)/\Q (.exit id) (envOf E) (memOf M')) hTB hG hmix hw ha hb hna hnb
    (fun b hb=>?_) hvs (hlen ds (mG hk)) hps (Qb:=qBody E M R k Q) (fun _ _ hq=>hq) (hround i k ds hk hRi) (fun jump M' w' hz hs=>?_) (fun e env mem hq=>?_)
   .obtain⟨h1,h2,h3⟩:=hI' b hb;refine⟨h2,h3,?_,fun hk=>?_⟩
    .rcases h1 with h1|h1
     .have:=hTw b h1;omega
     .omega
    .rcases h1 with h1|h1
     .exact hTK b h1 hk
     .have:=st1.ltK hk;omega
   .obtain⟨T',bs',S',f',hstep,hw'⟩:=hs;refine⟨S',f',hstep,?_⟩;rcases hz with ⟨rfl,j,rfl,hj⟩|⟨rfl,hq⟩|⟨id,rfl,hq⟩
    .exact .inl ⟨rfl,M j,.ready,none,T',bs',⟨j,rfl,hj,rfl,rfl⟩,hw'⟩
    .exact .inr ⟨rfl,M',.done,some .ret,T',bs',⟨rfl,.inl ⟨rfl,hq⟩⟩,hw'⟩
    .exact .inr ⟨rfl,M',.done,some (.exit id),T',bs',⟨rfl,.inr ⟨id,rfl,hq⟩⟩,hw'⟩
   .cases e with
    |normal=>obtain⟨j,h1,h2⟩:=hq;exact⟨M j,h2,.inl ⟨rfl,.inl ⟨rfl,j,rfl,h1⟩⟩⟩
    |ret=>obtain⟨M',h1,h2⟩:=hq;exact⟨M',h1,.inr (.inl ⟨rfl,.inr (.inl ⟨rfl,h2⟩)⟩)⟩
    |exit id=>obtain⟨M',h1,h2⟩:=hq;exact⟨M',h1,.inr (.inr ⟨id,rfl,.inr (.inr ⟨id,rfl,h2⟩)⟩)⟩
    |goto t=>exact hq.elim
    |panic ch=>exact hq.elim
    |outgrown=>exact hq.elim)
 have henter:=hseq.1 (#[.func (.yield (w.heap.size+1)) #[] #[]]++cs.toArray) w1;refine⟨w.heap.size+1, [{ target:=.collected w.heap.size,args:=#[] }],w1,⟨.fn (.func gf) cs.toArray,#[.func (.yield (w.heap.size+1)) #[] #[]]⟩,w1,gf,_,w1,run_enterLoop_outer ..,?_,fun _ _=>trivial,henter,fun hd=>by simp[Fence.wide]at hd,hcall.mono ?_⟩
 .simp only[resolve,ef,Deferred.ofValue,Sem.run_pure];simp[Act.eval]
 .rintro e W' ⟨⟨v,rfl⟩,S',f',hbf,_,hJ|hJ⟩
  .obtain⟨Mm,stt,pend,T,bs2,⟨i,rfl,hRi,rfl,rfl⟩,hw⟩:=hJ;exact⟨none,_,run_endLoop hw.lrec (by simp[rc]),⟨_,_,bs2,hw.leave hmk _,hend i hRi⟩⟩
  .obtain⟨Mm,stt,pend,T,bs2,⟨rfl,hz⟩,hw⟩:=hJ;rcases hz with ⟨rfl,hq⟩|⟨id,rfl,hq⟩
   .exact⟨some .ret,_,run_endLoop hw.lrec (by simp[rc]),wpIn_ret ⟨_,_,bs2,hw.leave hmk _,hq⟩⟩
   .exact⟨some (.exit id),_,run_endLoop hw.lrec (by simp[rc]),wpIn_exit ⟨_,_,bs2,hw.leave hmk _,hq⟩⟩
end
noncomputable def spR(p:Prm)(c:Code)(Q:Post)(env:Env)(mem:Mem):Prop:=
 @Code.rec (fun _=>Post->Env->Mem->Prop)
  (fun Q env mem=>Q .normal env mem)
  (fun _ ops draw Q env mem=>spRegion p ops.toList draw Q env mem)
  (fun _ _ x y Q env mem=>x (spThen (y Q) Q) env mem)
  (fun c _ _ x y Q env mem=>spCond (opd env c) (x Q env mem) (y Q env mem))
  (fun id _ x Q env mem=>x (spBlock id Q) env mem)
  (fun _ x Q env mem=>spLoop x Q env mem)
  (fun g ps ax x _ _ Q env mem=>spRange p g ps.toList ax x Q env mem)
  (fun id Q env mem=>Q (.exit id) env mem)
  (fun _ _ _ _ _=>False)
  (fun _ _ _ _=>False)
  (fun _ _ _ _=>False)
  (fun Q env mem=>Q .ret env mem)
  (fun _ _ _ _=>False) c Q env mem
theorem ZhS{n:Nat}{p:Prm}{w0:Base}{I0:Nat->Prop}(hTB:TBok p.P p.TB)(hG:∀w,Bel w0.K w0.w w->p.G w)(hmix:p.P.follows .mixedOrders=true)(hmk:p.nt.marks=true):∀(c:Code)(_:codeOk c=true)(Q:Exit->Env->Mem->Prop)(env:Env)(mem:Mem)(bs:Bs)(a:Act)(w:World),
  spR p c Q env mem->St w0 I0 p.nt env mem bs a w->c.wpIn Fence.wide n p.P (Like p w0 I0 Q) a w:=by
 intro c
 induction c with
 |skip=>intro _ Q env mem bs a w h st;exact wpIn_skip ⟨env,mem,bs,st,h⟩
 |region id ops draw=>
  intro hc Q env mem bs a w h st;exact wpIn_wide.2 (Zc4 hTB hG hmix (.region id ops draw) hc Q env mem bs a w h st)
 |seq x y ihx ihy=>
  intro hc Q env mem bs a w h st;simp only[codeOk,Bool.and_eq_true]at hc;refine wpIn_seq (wpIn_mono (ihx hc.1 _ env mem bs a w h st) ?_);rintro e a' w' ⟨env',mem',bs',st',hq⟩
  cases e with
  |normal=>exact ihy hc.2 Q env' mem' bs' a' w' hq st'
  |exit id=>exact⟨env',mem',bs',st',hq⟩
  |goto l=>exact⟨env',mem',bs',st',hq⟩
  |ret=>exact⟨env',mem',bs',st',hq⟩
  |panic ch=>exact⟨env',mem',bs',st',hq⟩
  |outgrown=>exact⟨env',mem',bs',st',hq⟩
 |cond c x y ihx ihy=>
  intro hc Q env mem bs a w h st;simp only[codeOk,Bool.and_eq_true]at hc;obtain⟨h1,_⟩:=Zc st (fun _=>.inr rfl) c;have h:spCond (opd env c) (spR p x Q env mem) (spR p y Q env mem):=h;unfold spCond at h;split at h
  .rename_i b hb;rw[hb]at h1;refine wpIn_cond_split (t:=b) (Zj h1) (fun ht=>ihx hc.1 Q env mem bs a w (h.1 ht) st) (fun ht=>ihy hc.2 Q env mem bs a w (h.2 ht) st)
  .exact h.elim
 |block id x ih=>
  intro hc Q env mem bs a w h st;refine wpIn_block (wpIn_mono (ih hc _ env mem bs a w h st) ?_);rintro e a' w' ⟨env',mem',bs',st',hq⟩
  cases e with
  |exit id'=>
   simp only[spBlock]at hq;simp only[Exit.inBlock];by_cases e:id'=id
   .subst e;rw[if_pos rfl];simp only[Nat.beq_refl,cond_true]at hq;exact⟨env',mem',bs',st',hq⟩
   .rw[if_neg e];have:Nat.beq id' id=false:=by
     cases h2:Nat.beq id' id with
     |false=>rfl
     |true=>exact absurd (Nat.eq_of_beq_eq_true h2) e
    simp only[this,cond_false]at hq;exact⟨env',mem',bs',st',hq⟩
  |normal=>exact⟨env',mem',bs',st',hq⟩
  |goto l=>exact⟨env',mem',bs',st',hq⟩
  |ret=>exact⟨env',mem',bs',st',hq⟩
  |panic ch=>exact⟨env',mem',bs',st',hq⟩
  |outgrown=>exact⟨env',mem',bs',st',hq⟩
 |loop x ih=>
  intro hc Q env mem bs a w h st;obtain⟨ι,E,M,R,μ,i,hent,hR,hround⟩:=h;obtain⟨bs',st'⟩:=Zx st hent;refine wpIn_loop_ghost (fun n a w=>∃i,μ i=n/\R i/\∃bs,St w0 I0 p.nt (envOf (E i)) (memOf (M i)) bs a w) (μ i) ⟨i,rfl,hR,bs',st'⟩ ?_;rintro n a w ⟨i,rfl,hR,bs,st⟩;refine wpIn_mono (ih hc _ _ _ bs a w (hround i hR) st) ?_;rintro e a' w' ⟨env',mem',bs',st',hq⟩
  cases e with
  |normal=>
   obtain⟨j,h1,h2,h3⟩:=hq;obtain⟨bs'',st''⟩:=Zx st' h3;exact⟨μ j,h2,j,rfl,h1,bs'',st''⟩
  |exit id=>exact⟨env',mem',bs',st',hq⟩
  |goto l=>exact⟨env',mem',bs',st',hq⟩
  |ret=>exact⟨env',mem',bs',st',hq⟩
  |panic ch=>exact⟨env',mem',bs',st',hq⟩
  |outgrown=>exact⟨env',mem',bs',st',hq⟩
 |exit id=>intro _ Q env mem bs a w h st;exact wpIn_exit ⟨env,mem,bs,st,h⟩
 |ret=>intro _ Q env mem bs a w h st;exact wpIn_ret ⟨env,mem,bs,st,h⟩
 |rangeFunc f ps ax x _ _=>intro _ Q env mem bs a w h st;exact Zjz hTB hG hmix hmk h st
 |scope x _=>intro _ Q env mem bs a w h;exact h.elim
 |label l=>intro _ Q env mem bs a w h;exact h.elim
 |goto l=>intro _ Q env mem bs a w h;exact h.elim
 |refuse s=>intro _ Q env mem bs a w h;exact h.elim
section
variable{w w':World}{I:Nat->Prop}{bs:Bs}{mem:Mem}
structure CellsStay(w w':World):Prop where
 cell:∀a y,w.cell? a=some y->w'.cell? a=some y
 map:∀(b:Nat)(es:Array MapEntry)(clock:Nat),w.heap[b]? =some (.map es clock)->w'.heap[b]? =some (.map es clock)
theorem Den.cells(hc:CellsStay w w'){x:Value}{d:D}(h:Den w I x d):Den w' I x d:=by
 induction h with
 |v x hx=>exact .v x hx
 |nil a cap=>exact .nil a cap
 |list b off cap n xs c hb hn hl hcc hd hcap ih=>exact .list b off cap n xs c hb hn hl (fun i j hi hj=>hc.cell _ _ (hcc i j hi hj)) ih hcap
 |iface t l cs hl hd ih=>exact .iface t l cs hl ih
 |fn f caps pb po c hb hcc hd ih=>exact .fn f caps pb po c hb (fun i j r hr hj=>hc.cell _ _ (hcc i j r hr hj)) ih
 |map b es clock hb hh=>exact .map b es clock hb (hc.map _ _ _ hh)
theorem DenC.cells(hc:CellsStay w w'){x:Value}{c:C}(h:DenC w I bs mem x c):DenC w' I bs mem x c:=by
 cases c with
 |d d=>exact Den.cells hc h
 |row o k=>exact h
 |ptr o off=>exact h
 |ref cs=>
  obtain⟨b,off,h1,h2,h3⟩:=h;exact⟨b,off,h1,h2,fun j d hj=>let ⟨y,hy,hd⟩:=h3 j d hj;⟨y,hc.cell _ _ hy,hd.cells hc⟩⟩
 |full xs=>exact⟨h.1.cells hc,h.2⟩
 |rp o k n i off=>exact h
 |rs o k n i=>exact h
 |mp o=>exact h
theorem DenS.cells(hc:CellsStay w w'){x:Value}{s:S}(h:DenS w I bs mem x s):DenS w' I bs mem x s:=by
 cases s with
 |one c=>exact DenC.cells hc h
 |agg cs=>
  obtain⟨l,h1,h2,h3⟩:=h;exact⟨l,h1,h2,fun j c y hj hy=>(h3 j c y hj hy).cells hc⟩
theorem DenAV.cells(hc:CellsStay w w'){x:Value}{v:AV}(h:DenAV w I bs mem x v):DenAV w' I bs mem x v:=by
 cases v with
 |val s=>exact DenS.cells hc h
 |tup ss=>
  obtain⟨l,h1,h2,h3⟩:=h;exact⟨l,h1,h2,fun j c y hj hy=>(h3 j c y hj hy).cells hc⟩
 |junk=>trivial
 |new T n xs=>exact h.elim
variable{w0:Base}{I0:Nat->Prop}{nt:Shape}{env:Env}{a:Act}
theorem St.take(h:St w0 I0 nt env mem bs a w){D:Nat}{o:Obj}{ds:List Deferred}(hD:w.heap[D]? =some (.deferred (some [])))(hK:¬w0.K D)(hds:a.defers={ target:=.collected D,args:=#[] }::ds):
  St w0 I0 nt env mem bs { a with defers:=ds } (w.putObj D o):=by
 have hs:∀b,Stay w0 I0 mem bs (w.putObj D o) b=Stay w0 I0 mem bs w b:=fun b=>by unfold Stay;rw[World.putObj_size]
 have hs':Stay w0 I0 mem bs (w.putObj D o)=Stay w0 I0 mem bs w:=funext hs;have hc:CellsStay w (w.putObj D o):=by
  refine⟨fun a y hy=>?_,fun b es clock hb=>?_⟩
  .by_cases e:a.block=D
   .unfold World.cell? at hy;rw[e,hD]at hy;simp at hy
   .unfold World.cell? at hy⊢;rw[World.putObj_heap_other e];exact hy
  .by_cases e:b=D
   .rw[e,hD]at hb;simp at hb
   .rw[World.putObj_heap_other e];exact hb
 have hstayD:∀q,(mem q).mut=true->blk (bs q)≠some D:=by
  obtain⟨D',e1,⟨e2,e3⟩,_⟩:=h.marks.2 _ (by rw[hds];exact mem_cons_self);obtain rfl:D=D':=by
   have e2:=congrArg Deferred.target e1;simpa using e2
  rcases e2 with ⟨_,e2⟩|⟨_,_,e2⟩
  .exact absurd e2 e3
  .exact e2
 refine⟨h.below.trans (Zaq hK),h.size,fun e=>?_,fun t=>?_,fun q=>?_,h.sep,h.henv,h.hmem,h.pin,?_⟩
 .have:=h.defers e;rw[hds]at this;simp at this
 .rcases h.tmp t with h1|⟨h1,h2⟩
  .exact .inl h1
  .rw[hs'];exact .inr ⟨h1,h2.cells hc⟩
 .have h1:=h.obs q;rw[hs']
  cases e:mem q with
  |gone=>trivial
  |var T cs=>
   rw[e]at h1;obtain⟨b,l,g1,g2,g3,g4,g5⟩:=h1;refine⟨b,l,g1,g2,?_,g4,fun j c y hj hy=>(g5 j c y hj hy).cells hc⟩;by_cases e:b=D
   .subst e;unfold Row at g3;rw[hD]at g3;simp at g3
   .unfold Row at g3⊢;rw[World.putObj_heap_other e];exact g3
  |ext lk f=>
   rw[e]at h1;obtain⟨b,bm,g1,g2,g3,g4⟩:=h1;have hne:b≠D:=fun e2=>hstayD q (by rw[e];rfl) (by rw[g1,e2];rfl);exact⟨b,bm,g1,g2,g3,by rw[World.putObj_heap_other hne];exact g4⟩
  |row T n k xs own=>
   rw[e]at h1
   cases own with
   |false=>exact Den.cells hc h1
   |true=>
    obtain⟨ys,g1,g2,g3,g4,g5⟩:=h1;refine⟨ys,⟨g1.1,?_⟩,g2,g3,g4,fun i j r d hi hj=>let ⟨y,hy,hd⟩:=g5 i j r d hi hj;⟨y,hy,hd.cells hc⟩⟩;rcases g1.2 with g|⟨g',cap,cur,f1,f2,f3,f4⟩
    .exact .inl g
    .refine .inr ⟨g',cap,cur,f1,f2,?_,f4⟩;by_cases e:g'=D
     .subst e;rw[hD]at f3;simp at f3
     .rw[World.putObj_heap_other e];exact f3
 .have hm:=h.marks;rw[hds]at hm;have hm1:=List.pairwise_cons.1 hm.1;refine⟨hm1.2,fun d hd=>?_⟩;obtain⟨D',e',hD',h3⟩:=hm.2 d (List.mem_cons_of_mem _ hd);refine⟨D',e',by rw[hs'];exact hD',?_⟩;rw[World.putObj_heap_other]
  .exact h3
  .rintro rfl;exact hm1.1 d hd e'.symm
end
theorem Zcf{n:Nat}{P:Program}{fn:Func}{R:Ending->World->Prop}{w0:Base}{I0:Nat->Prop}{nt:Shape}{env:Env}{mem:Mem}{bs:Bs}
 (hR:∀(a:Act)(w:World),St w0 I0 nt env mem bs a w->∃v,(results fn a.tmps).run P w= .ok v w/\R (.returned v) w):
  ∀(ds:List Deferred)(a:Act)(w:World),a.defers=ds->St w0 I0 nt env mem bs a w->LeavesInM Fence.wide n P fn a.tmps R ds .returning w
 | [],a,w,_,st=>hR a w st
 |d::ds,a,w,hd,st=>by
  obtain⟨D,rfl,hD,h3⟩:=st.marks.2 d (by rw[hd];exact mem_cons_self);exact⟨by simp,.inl ⟨D,_,rfl,run_takeDeferred h3,Zcf hR ds { a with defers:=ds } _ rfl (st.take h3 hD.2 hd)⟩⟩
theorem ZxY{p : Prm}{f : FuncId}{fn : Func}{c : Code}(hf : p.P.funcs[f]? = some fn)(hb : fn.body = some c)(hn : (fn.name == "runtime.NumGoroutine") = false)(hnt : fn.ntmps = p.nt.n)(hpn : p.nt.pins = [])(hmk : p.nt.marks = true){rs : List ResultVar}(hrs : fn.results = ⟨rs⟩)
 (hTB:TBok p.P p.TB)(hG:∀w w',p.G w->Below w.heap.size w w'->p.G w')(hmix:p.P.follows .mixedOrders=true)(hc:codeOk c=true){args:List AV}{r:AV}(hargs:freeAVs args=true)(hlen:Nat.ble args.length p.nt.n=true)
 (h:spR p c (RetIs p rs r) (envArgs 0 args) noMem):Spec p.P p.G f args r:=by
 refine⟨Zn hf hb hn,fun w I vs hw hI hrel=> callsIn_wide.1 (callsIn_of_wp_marks (n:=0) hf hb trivial ?_)⟩;have hlen':=Nat.le_of_ble_eq_true hlen;have hvl:vs.length=args.length:=hrel.1;have hIs:∀b,I b->Stay (Base.all w) I noMem noBs w b:=fun b hb=>.inl ⟨hb,hI b hb⟩;have st:St (Base.all w) I p.nt (envArgs 0 args) noMem noBs { tmps:=vs.toArray++Array.replicate (fn.ntmps-vs.toArray.size) undef,defers:=[] } w:=by
  refine⟨Bel.refl _ _,by simp[hnt];omega,fun _=>rfl,?_,fun o=>trivial,fun o o' b hm=>by simp[noMem,Ob.mut]at hm,?_,fun q o ho=>by simp[noMem,Ob.hs]at ho,fun t ht=>by rw[hpn]at ht;simp at ht,Marks.nil _ _⟩
  .intro t;rcases ZF args 0 t with h1|⟨_,v,h2,h3⟩
   .exact .inl h1
   .simp only[Nat.sub_zero]at h2;have hlt:t<args.length:=(gS h2).1;refine .inr ⟨ω,?_⟩;rw[h3];obtain⟨y,hy,hd⟩:=hrel.get h2;have e:(vs.toArray++Array.replicate (fn.ntmps-vs.toArray.size) undef).getD t undef=y:=by
     rw[Array.getD_eq_getD_getElem?,Array.getElem?_append_left (by simp;omega)];simp[hy]
    rw[e];have K:Keeps w I noBs noMem w (Stay (Base.all w) I noMem noBs w) noBs noMem (fun _=>False):=⟨fun b hb=>⟨hIs b hb,rfl⟩,fun _ _ h=>h.elim,fun _ _ _ _ _ _ h=>h.elim⟩;exact K.av (fun o ho=>by rw[ZaZ hargs v (mG h2)]at ho;simp at ho) hd
  .intro t o ho;rcases ZF args 0 t with h1|⟨_,v,h2,h3⟩
   .rw[h1]at ho;simp[AV.hs]at ho
   .simp only[Nat.sub_zero]at h2;rw[h3,ZaZ hargs v (mG h2)]at ho;simp at ho
 refine wpIn_mono (ZhS (w0:=Base.all w) (I0:=I) hTB (fun w' hb=>hG w w' hw hb.to_below) hmix hmk c hc _ _ _ _ _ _ h st) ?_;rintro e a' w' ⟨env',mem',bs',st',hq⟩;have fin:resK p env' (frzR env' rs mem') rs (fun l=>r=tupOf l)->LeavesInM Fence.wide 0 p.P fn a'.tmps (fun e w'=>∃x,e= .returned x/\DenAV w' (fun b=>I b\/(w.heap.size<=b/\b<w'.heap.size)) noBs noMem x r/\Below w.heap.size w w') a'.defers .returning w':=by
  intro hres;have st1:=St.frzR rs st';generalize frzR env' rs mem'=mem1 at hres st1;refine Zcf (fun a2 w2 st2=>?_) _ _ _ rfl st1;obtain⟨l,vs',h1,h2,h3,h4⟩:=ZbF hTB st2 rs _ hres;have hst:∀b,Stay (Base.all w) I mem1 bs' w2 b->(I b\/(w.heap.size<=b/\b<w2.heap.size))/\w2.heap[b]? =w2.heap[b]? :=by
   intro b hb;rcases hb with ⟨g1,_⟩|⟨g1,g2,_⟩
   .exact⟨.inl g1,rfl⟩
   .exact⟨.inr ⟨Nat.le_of_not_lt g1,g2⟩,rfl⟩
  have K:Keeps w2 (Stay (Base.all w) I mem1 bs' w2) noBs noMem w2 (fun b=>I b\/(w.heap.size<=b/\b<w2.heap.size)) noBs noMem (fun _=>False):=⟨hst,fun _ _ h=>h.elim,fun _ _ _ _ _ _ h=>h.elim⟩;have hrel:Rel2 (fun y s=>DenS w2 (fun b=>I b\/(w.heap.size<=b/\b<w2.heap.size)) noBs noMem y s) vs' l:=h4.mono fun y s hs hd=>K.s (fun o ho=>by rw[h2 s hs]at ho;simp at ho) hd;refine⟨(if h:vs'.length=1 then vs'[0] else .tuple vs'.toArray),ZaC hrs h3,_,rfl,?_,st2.below.to_below⟩;rw[h1]
  match l,vs',hrel with
  | [s], [v],hrel=>exact hrel.of_cons.1
  | [], [],hrel=>exact⟨[],rfl,rfl,fun j s y hs=>by simp at hs⟩
  |s::s'::l,v::v'::vs,hrel=>
   rw[dif_neg (by simp)];exact⟨v::v'::vs,rfl,hrel.1,hrel.2⟩
  | [],_::_,hrel=>have:=hrel.1;simp at this
  | [_], [],hrel=>have:=hrel.1;simp at this
  | [_],_::_::_,hrel=>have:=hrel.1;simp at this
  |_::_::_, [],hrel=>have:=hrel.1;simp at this
  |_::_::_, [_],hrel=>have:=hrel.1;simp at this
 cases e with
 |normal=>exact fin hq
 |ret=>exact fin hq
 |exit id=>exact hq.elim
 |goto l=>exact hq.elim
 |panic ch=>exact hq.elim
 |outgrown=>exact hq.elim
theorem ZvX{i : Nat}{p : Prm}{f : FuncId}{fn : Func}{c : Code}(hf : p.P.funcs[f]? = some fn)(hb : fn.body = some c)(hn : (fn.name == "runtime.NumGoroutine") = false)(hnt : fn.ntmps = p.nt.n)(hpn : p.nt.pins = [i])(hmk : p.nt.marks = true){rs : List ResultVar}(hrs : fn.results = ⟨rs⟩)
 (hTB:TBok p.P p.TB)(hmix:p.P.follows .mixedOrders=true)(hc:codeOk c=true){args:List AV}{T:Nat}{cs ds:List D}{r:AV}(hargs:argsT args=true)(hlen:Nat.ble args.length p.nt.n=true)
 (hai:args[i]? =some (.val (.one (.ptr 1000 0))))(h:spR p c (RetV p rs r i T ds) (envArgs 0 args) (memV T cs)):SpecV p.P p.G f args T cs r ds:=by
 refine⟨Zn hf hb hn,fun w I vs x hG hI hob hrel=> callsIn_wide.1 (callsIn_of_wp_marks (n:=0) hf hb trivial ?_)⟩;have hlen':=Nat.le_of_ble_eq_true hlen;have hvl:vs.length=args.length:=hrel.1;have hIs:∀b,I b->Stay (Base.less w x) I (memV T cs) (fun _=>x) w b:=fun b hb=>.inl ⟨hb,hI b hb⟩;have h1000:memV T cs 1000= .var T (cs.map C.d):=rfl;have hne:∀o,o≠1000->memV T cs o= .gone:=fun o ho=>by
  unfold memV
  cases e:Nat.beq o 1000 with
  |true=>exact absurd (Nat.eq_of_beq_eq_true e) ho
  |false=>rfl
 have st:St (Base.less w x) I p.nt (envArgs 0 args) (memV T cs) (fun _=>x) { tmps:=vs.toArray++Array.replicate (fn.ntmps-vs.toArray.size) undef,defers:=[] } w:=by
  refine⟨Bel.refl _ _,by simp[hnt];omega,fun _=>rfl,?_,fun o=>?_,fun o o' b hm hm' _ _=>?_,?_,fun q o ho=>?_,fun t ht=>?_,Marks.nil _ _⟩
  .intro t;rcases ZF args 0 t with h1|⟨_,v,h2,h3⟩
   .exact .inl h1
   .simp only[Nat.sub_zero]at h2;have hlt:t<args.length:=(gS h2).1;refine .inr ⟨ω,?_⟩;rw[h3];obtain⟨y,hy,hd⟩:=hrel.get h2;have e:(vs.toArray++Array.replicate (fn.ntmps-vs.toArray.size) undef).getD t undef=y:=by
     rw[Array.getD_eq_getD_getElem?,Array.getElem?_append_left (by simp;omega)];simp[hy]
    rw[e];have K:Keeps w I (fun _=>x) (memV T cs) w (Stay (Base.less w x) I (memV T cs) (fun _=>x) w) (fun _=>x) (memV T cs) (fun _=>True):=⟨fun b hb=>⟨hIs b hb,rfl⟩,fun _ _ _ _=>rfl,fun o T1 n1 k1 xs1 own1 _ hm=>⟨T1,xs1,own1,hm,rfl⟩⟩;exact K.av (fun _ _=>trivial) hd
  .by_cases e:o=1000
   .subst e;rw[h1000];obtain⟨b0,l,g1,g2,g3,g4,g5⟩:=hob;refine⟨b0,l,g1,g2,g3,g4,fun j c y hj hy=>?_⟩;have hd:=g5 j c y hj hy;rw[getElem?_map]at hj
    cases hc:cs[j]? with
    |none=>rw[hc]at hj;simp at hj
    |some d=>rw[hc]at hj;obtain rfl:=sI hj;exact Den.mono (fun b hb=>⟨hIs b hb,rfl⟩) hd
   .rw[hne o e];trivial
  .have e1:o=1000:=Classical.byContradiction fun e=>by rw[hne o e]at hm;simp[Ob.mut]at hm
   have e2:o'=1000:=Classical.byContradiction fun e=>by rw[hne o' e]at hm';simp[Ob.mut]at hm'
   rw[e1,e2]
  .intro t o ho;rcases ZF args 0 t with h1|⟨_,v,h2,h3⟩
   .rw[h1]at ho;simp[AV.hs]at ho
   .simp only[Nat.sub_zero]at h2;rw[h3]at ho;obtain rfl:=Zmd hargs v (mG h2) o ho;exact⟨rfl,Nat.le_refl _⟩
  .by_cases e:q=1000
   .subst e;rw[h1000]at ho;simp only[Ob.hs,List.mem_flatMap,List.mem_map]at ho;obtain⟨c,⟨d,_,rfl⟩,hp⟩:=ho;simp[C.hs]at hp
   .rw[hne q e]at ho;simp[Ob.hs]at ho
  .rw[hpn]at ht;obtain rfl:t=i:=by simpa using ht
   have hlt:t<args.length:=(gS hai).1;obtain⟨y,hy,hd⟩:=hrel.get hai;have e:(vs.toArray++Array.replicate (fn.ntmps-vs.toArray.size) undef).getD t undef=y:=by
    rw[Array.getD_eq_getD_getElem?,Array.getElem?_append_left (by simp;omega)];simp[hy]
   rw[e];obtain⟨b0,e1,e2⟩:=hd;rw[e2,<-e1];rfl
 refine wpIn_mono (ZhS (w0:=Base.less w x) (I0:=I) hTB (fun w' hb=>hG w' hb) hmix hmk c hc _ _ _ _ _ _ h st) ?_;rintro e a' w' ⟨env',mem',bs',st',hq⟩;have fin:resK p env' (frzR env' rs mem') rs (fun l=>r=tupOf l)/\(env' i= .val (.one (.ptr 1000 0))/\frzV (frzR env' rs mem')= .var T (ds.map C.d))->LeavesInM Fence.wide 0 p.P fn a'.tmps (fun e w'=>∃y,e= .returned y/\
   DenAV w' (fun b=>(I b\/(¬(Base.less w x).K b/\b<w'.heap.size))/\blk x≠some b) noBs noMem y r/\ObOk (Base.less w x) w' (fun b=>(I b\/(¬(Base.less w x).K b/\b<w'.heap.size))/\blk x≠some b) noBs noMem x (.var T (ds.map C.d))/\Bel (Base.less w x).K w w') a'.defers .returning w':=by
  rintro⟨hres,hk1,hk2⟩;have st1:=St.frzR rs st';generalize frzR env' rs mem'=mem1 at hres st1 hk2;refine Zcf (fun a2 w2 st2=>?_) _ _ _ rfl st1;have hx:bs' 1000=x:=by
   have h1:=st2.tmp i;rw[hk1]at h1;rcases h1 with h1|⟨_,h1⟩
   .simp at h1
   .obtain⟨b0,e1,e2⟩:=h1;rw[e1,<-e2,st2.pin i (by rw[hpn];exact mem_cons_self)];rfl
  obtain⟨cs1,hk3,hk4⟩:=Zw0 hk2;have hob':=st2.obs 1000;rw[hk3]at hob';have hblk:=hob'.block rfl;have hst:∀b,Stay (Base.less w x) I mem1 bs' w2 b->((I b\/(¬(Base.less w x).K b/\b<w2.heap.size))/\blk x≠some b)/\w2.heap[b]? =w2.heap[b]? :=by
   intro b hb;rcases hb with ⟨g1,g2⟩|⟨g1,g2,g3⟩
   .exact⟨⟨.inl g1,g2.2⟩,rfl⟩
   .exact⟨⟨.inr ⟨g1,g2⟩,fun hb=>g3 1000 (by rw[hk3];rfl) (by rw[hx];exact hb)⟩,rfl⟩
  obtain⟨l,vs',h1,h2,h3,h4⟩:=ZbF hTB st2 rs _ hres;have K:Keeps w2 (Stay (Base.less w x) I mem1 bs' w2) noBs noMem w2 (fun b=>(I b\/(¬(Base.less w x).K b/\b<w2.heap.size))/\blk x≠some b) noBs noMem (fun _=>False):=⟨hst,fun _ _ h=>h.elim,fun _ _ _ _ _ _ h=>h.elim⟩;have hrel:Rel2 (fun y s=>DenS w2 (fun b=>(I b\/(¬(Base.less w x).K b/\b<w2.heap.size))/\blk x≠some b) noBs noMem y s) vs' l:=h4.mono fun y s hs hd=>K.s (fun o ho=>by rw[h2 s hs]at ho;simp at ho) hd;refine⟨(if h:vs'.length=1 then vs'[0] else .tuple vs'.toArray),ZaC hrs h3,_,rfl,?_,?_,st2.below⟩
  .rw[h1]
   match l,vs',hrel with
   | [s], [v],hrel=>exact hrel.of_cons.1
   | [], [],hrel=>exact⟨[],rfl,rfl,fun j s y hs=>by simp at hs⟩
   |s::s'::l,v::v'::vs,hrel=>
    rw[dif_neg (by simp)];exact⟨v::v'::vs,rfl,hrel.1,hrel.2⟩
   | [],_::_,hrel=>have:=hrel.1;simp at this
   | [_], [],hrel=>have:=hrel.1;simp at this
   | [_],_::_::_,hrel=>have:=hrel.1;simp at this
   |_::_::_, [],hrel=>have:=hrel.1;simp at this
   |_::_::_, [_],hrel=>have:=hrel.1;simp at this
  .obtain⟨b0,l0,g1,g2,g3,g4,g5⟩:=hob';rw[hx]at g1;have hll:cs1.length=ds.length:=by have:=congrArg List.length hk4;simpa using this
   refine⟨b0,l0,g1,g2,g3,by rw[g4];simpa using hll,fun j c y hj hy=>?_⟩;rw[getElem?_map]at hj
   cases hc:ds[j]? with
   |none=>rw[hc]at hj;simp at hj
   |some d=>
    rw[hc]at hj;obtain rfl:=sI hj;have hlt:j<cs1.length:=by rw[hll];exact(gS hc).1
    have h5:=congrArg (fun l=>l[j]?) hk4;simp only[getElem?_map,hc,gE hlt,Option.map_some,Option.some.injEq]at h5;have hd:=g5 j _ y (gE hlt) hy;rcases Zt6 h5 with h6|⟨o,es,clock,h6,h7,rfl⟩
    .rw[h6]at hd;exact Den.mono hst hd
    .rw[h6]at hd;obtain⟨b,q1,q2⟩:=hd;have hxo:=st2.obs o;have hmo:(mem1 o).mut=true:=by rw[h7];rfl
     have hbk:=hxo.block hmo b (by rw[q1];rfl);rw[h7]at hxo;obtain⟨b',_,e1,_,_,hb⟩:=hxo;rw[q1]at e1;obtain rfl:b=b':=by
      have:=Value.pointer.inj e1;have:=sI this;exact congrArg Addr.block this
     rw[q2];refine Den.map b es clock ⟨.inr hbk,fun hb1=>?_⟩ hb;have:=st2.sep o 1000 b hmo (by rw[hk3];rfl) (by rw[q1];rfl) (by rw[hx];exact hb1);rw[this,hk3]at h7;simp at h7
 cases e with
 |normal=>exact fin hq
 |ret=>exact fin hq
 |exit id=>exact hq.elim
 |goto l=>exact hq.elim
 |panic ch=>exact hq.elim
 |outgrown=>exact hq.elim
section
variable{P:Program}{n:Nat}{Q:Exit->Act->World->Prop}
theorem Zwj{o:Oper}{a:Act}{w:World}{K K0:Act->World->Prop}(h:o.wp P a w K (Exit.then K0 fun _ _ _=>False)):o.wpIn Fence.wide n P a w K Q:=by
 refine⟨fun _ _=>trivial,?_⟩;show o.uponIn Fence.wide n P a K Q ((execOp a.eval o).run P w);unfold Oper.wp at h;generalize (execOp a.eval o).run P w=r at h;unfold Oper.upon at h;split at h
 .exact h
 .exact h
 .exact h
 .refine⟨fun hd=>by simp[Fence.wide]at hd,CallsIn.mono (callsIn_wide.2 h) fun e w' he=>?_⟩
  cases e with
  |returned v=>exact he
  |panicked c=>exact he.elim
  |outgrown=>obtain⟨_,_,hq⟩:=he;exact hq.elim
 .refine⟨fun hd=>by simp[Fence.wide]at hd,?_⟩;intro c cs _;obtain⟨v,w',hr,hs⟩:=h c cs;exact⟨v,w',hr,stepsIn_wide.2 hs⟩
 .exact h.elim
 .exact h.elim
theorem Zcm{ops:Array Oper}{rest:List Oper}{K:Act->World->Prop}(hK:∀a w,K a w->wpListIn Fence.wide n P ops Q rest a w):∀(os:List Oper)(a:Act)(w:World),wpList P ops (Exit.then K fun _ _ _=>False) os a w->wpListIn Fence.wide n P ops Q (os++rest) a w
 | [],a,w,h=>hK a w h
 |o::os,a,w,h=>by
  rw[List.cons_append];unfold wpList at h;unfold wpListIn;split at h
  .rename_i hw;rw[if_pos hw];rcases h with h|⟨_,_,_,h⟩
   .exact Zwj (Oper.wp_mono (fun a w h=>Zcm hK os a w h) h)
   .exact h.elim
  .rename_i hw;rw[if_neg hw];exact⟨fun _ _=>trivial,Zcm hK os _ _ h⟩
end
abbrev Gh:=Option Nat
def hasY(yl:List Nat)(o:Oper):Bool:=
 match o.dst with
 |some d=>memb d yl
 |none=>false
noncomputable def splitY(yl:List Nat)(ops:List Oper):Option (List Oper×Oper×List Oper):=
 @List.rec Oper (fun _=>Option (List Oper×Oper×List Oper)) none (fun o r ih=>match hasY yl o with
  |true=>some ([],o,r)
  |false=>match ih with
   |some q=>some (o::q.1,q.2.1,q.2.2)
   |none=>none) ops
theorem ZhQ{yl:List Nat}:∀{ops:List Oper}{q:List Oper×Oper×List Oper},splitY yl ops=some q->ops=q.1++q.2.1::q.2.2
 | [],q,h=>by simp[splitY]at h
 |o::r,q,h=>by
  have h:(match hasY yl o with
   |true=>some ([],o,r)
   |false=>match splitY yl r with
    |some q=>some (o::q.1,q.2.1,q.2.2)
    |none=>none)=some q:=h
  split at h
  .obtain rfl:=sI h;rfl
  .split at h
   .rename_i q' hq;obtain rfl:=sI h;rw[ZhQ hq];rfl
   .simp at h
def frzXs(env:Env):List Operand->Mem->Mem
 | [],m=>m
 |x::r,m=>frzXs env r (match opd env x with
  | .val (.one c)=>frzC c m
  |_=>m)
theorem St.frzXs{w0:Base}{I0:Nat->Prop}{nt:Shape}{env:Env}{bs:Bs}{a:Act}{w:World}:∀(xs:List Operand){mem:Mem},St w0 I0 nt env mem bs a w->St w0 I0 nt env (frzXs env xs mem) bs a w
 | [],_,st=>st
 |x::r,mem,st=>by
  refine St.frzXs r ?_;split
  .exact st.frzC _
  .exact st
def dsOf(az:List AV)(ds:List D):Prop:=az=ds.map fun d=>.val (.one (.d d))
def yieldK(p:Prm)(l:Nat)(elems:List (List D))(o:Oper)(K:Gh->Env->Mem->Prop)(g:Gh)(env:Env)(mem:Mem):Prop:=
 match o.op with
 | .call c=>match c.callee with
  | .value f=>match opd env f with
   | .val (.one (.d (.v (.func (.yield l') first _))))=>first=#[]/\(match o.guard with|none=>dstOk p.nt o.dst|some _=>false)=true/\l'=l/\
     argAVs false (frzXs env c.args.toList mem) env c.args.toList (fun az=>∃k ds,g=some k/\elems[k]? =some ds/\dsOf az ds/\
      K (some (k+1)) (putE o.dst (one (.bool true)) env) (frzXs env c.args.toList mem)/\K none (putE o.dst (one (.bool false)) env) (frzXs env c.args.toList mem)) False
   |_=>False
  |_=>False
 |_=>False
abbrev PostY:=Exit->Gh->Env->Mem->Prop
def thenY(K:Gh->Env->Mem->Prop)(Q:PostY):PostY
 | .normal,g,env,mem=>K g env mem
 |e,g,env,mem=>Q e g env mem
def blockY(id:Nat)(Q:PostY):PostY
 | .exit id',g,env,mem=>bif Nat.beq id' id then Q .normal g env mem else Q (.exit id') g env mem
 |e,g,env,mem=>Q e g env mem
def loopY(x:PostY->Gh->Env->Mem->Prop)(Q:PostY)(g:Gh)(env:Env)(mem:Mem):Prop:=
 ∃(ι:Type)(E:ι->List (Nat×AV))(M:ι->List (Nat×Ob))(γ:ι->Gh)(R:ι->Prop)(μ:ι->Nat)(i:ι),entail env mem (E i) (M i)/\g=γ i/\R i/\
   ∀i,R i->x (thenY (fun g' env' mem'=>∃j,R j/\μ j<μ i/\g'=γ j/\entail env' mem' (E j) (M j)) Q) (γ i) (envOf (E i)) (memOf (M i))
noncomputable def regY(p:Prm)(yl:List Nat)(l:Nat)(elems:List (List D))(ops:List Oper)(draw:Bool)(Q:PostY)(g:Gh)(env:Env)(mem:Mem):Prop:=
 match splitY yl ops with
 |none=>spRegion p ops draw (fun e env mem=>Q e g env mem) env mem
 |some q=>draw=false/\spOps p ops q.1 [] (fun _ env mem=>yieldK p l elems q.2.1 (fun g env mem=>spOps p ops q.2.2 [] (fun _ env mem=>Q .normal g env mem) env mem) g env mem) env mem
noncomputable def spY(p:Prm)(yl:List Nat)(l:Nat)(elems:List (List D))(c:Code)(Q:PostY)(g:Gh)(env:Env)(mem:Mem):Prop:=
 @Code.rec (fun _=>PostY->Gh->Env->Mem->Prop)
  (fun Q g env mem=>Q .normal g env mem)
  (fun _ ops draw Q g env mem=>regY p yl l elems ops.toList draw Q g env mem)
  (fun _ _ x y Q g env mem=>x (thenY (y Q) Q) g env mem)
  (fun c _ _ x y Q g env mem=>spCond (opd env c) (x Q g env mem) (y Q g env mem))
  (fun id _ x Q g env mem=>x (blockY id Q) g env mem)
  (fun _ x Q g env mem=>loopY x Q g env mem)
  (fun _ _ _ _ _ _ _ _ _ _=>False)
  (fun id Q g env mem=>Q (.exit id) g env mem)
  (fun _ _ _ _ _ _=>False)
  (fun _ _ _ _ _=>False)
  (fun _ _ _ _ _=>False)
  (fun Q g env mem=>Q .ret g env mem)
  (fun _ _ _ _ _=>False) c Q g env mem
structure It(Wst:World)(fs I:Nat->Prop)(J Jx:(Nat->Prop)->(Nat->Prop)->Nat->World->Prop)(g:Gh)(b:Base)(T S f:Nat->Prop):Prop where
 sK:∀x,S x->b.K x
 fS:∀x,f x->S x
 fT:∀x,T x->b.K x->¬f x
 tI:∀x,T x->b.K x->I x\/Wst.heap.size<=x
 nK:∀x,¬b.K x->Wst.heap.size<=x
 bel:BelF fs Wst b.w
 ff:∀x,f x->fs x\/Wst.heap.size<=x
 j:match g with
  |some k=>J S f k b.w
  |none=>Jx S f 0 b.w
def LikeY(nt:Shape)(Wst:World)(fs I:Nat->Prop)(J Jx:(Nat->Prop)->(Nat->Prop)->Nat->World->Prop)(Q:Gh->Env->Mem->Prop)(a:Act)(w:World):Prop:=
 ∃g b T S f env mem bs,It Wst fs I J Jx g b T S f/\St b T nt env mem bs a w/\Q g env mem
def Yields(P:Program)(n l:Nat)(Wst:World)(I:Nat->Prop)(elems:List (List D))(J Jx:(Nat->Prop)->(Nat->Prop)->Nat->World->Prop):Prop:=
 ∀S f k W' I' vs ds,J S f k W'->elems[k]? =some ds->(∀b,I' b->(I b\/Wst.heap.size<=b)/\b<W'.heap.size/\¬f b)->Rel2 (fun y d=>Den W' I' y d) vs ds->
  YieldAt Fence.wide n P l vs.toArray W' fun e W''=>∃S' f',Step S f I' W' W'' S' f'/\((e= .returned (.bool true)/\J S' f' (k+1) W'')\/(e= .returned (.bool false)/\Jx S' f' 0 W''))
section
variable{p:Prm}{Wst:World}{fs I:Nat->Prop}{J Jx:(Nat->Prop)->(Nat->Prop)->Nat->World->Prop}{n l:Nat}{elems:List (List D)}
theorem It.belF{g:Gh}{b:Base}{T S f:Nat->Prop}(h:It Wst fs I J Jx g b T S f){w:World}(hw:Bel b.K b.w w):BelF fs Wst w:=
 Bel.trans h.bel (hw.sub fun x hx=>Classical.byContradiction fun hn=>by have:=h.nK x hn;have:=hx.1;omega)
theorem Zjx{m:Nat}{P:Program}{fn:FuncId}{tmps:Array Value}{assign body:Code}{w:World}{R:Ending->World->Prop}(h:RoundIn Fence.wide n P l fn tmps assign body w R):RoundIn Fence.wide m P l fn tmps assign body w R:=
 ⟨h.1,fun c cs _=>h.2 c cs (room_wide _)⟩
theorem Zjb(hJ:Keeper J)(hJx:Keeper Jx)(hy:Yields p.P n l Wst I elems J Jx)(hpin:p.nt.pins= [])(hmk:p.nt.marks=false){o:Oper}{K:Gh->Env->Mem->Prop}{g:Gh}{b:Base}{T S f:Nat->Prop}{env:Env}{mem:Mem}{bs:Bs}{a:Act}{w:World}{n':Nat}{Q:Exit->Act->World->Prop}
 (hit:It Wst fs I J Jx g b T S f)(st:St b T p.nt env mem bs a w)(h:yieldK p l elems o K g env mem):
  o.guard=none/\o.wpIn Fence.wide n' p.P a w (fun a' w'=>LikeY p.nt Wst fs I J Jx K a' w') Q:=by
 unfold yieldK at h;split at h
 .rename_i c ho;split at h
  .rename_i fo hf;split at h
   .rename_i l' first cap hv
    obtain⟨hfirst,hgd,hl',h⟩:=h;subst hfirst;subst hl';have hg0:o.guard=none:=by
     cases e:o.guard with
     |none=>rfl
     |some q=>rw[e]at hgd;simp at hgd
    rw[hg0]at hgd;have hgd:dstOk p.nt o.dst=true:=hgd;have st1:=st.frzXs c.args.toList;generalize frzXs env c.args.toList mem=mem1 at h st1;obtain⟨h1,_⟩:=Zc st1 (fun _=>.inr rfl) fo;rw[hv]at h1;have ef:=Zj h1;rcases ZaN false st1 (fun _=>.inr rfl) (fun _=>.inr rfl) c.args.toList (fun az=>∃k ds,g=some k/\elems[k]? =some ds/\dsOf az ds/\
      K (some (k+1)) (putE o.dst (one (.bool true)) env) mem1/\K none (putE o.dst (one (.bool false)) env) mem1) False with ⟨az,e,hl⟩|e
    .rw[e]at h;obtain⟨k,ds,rfl,hk,hds,hK1,hK2⟩:=h;have hjw:J S f k w:=hJ.abide S f k b.w w hit.j (st1.below.sub hit.sK);have hsub:=hJ.sub S f k w hjw;have hst1:∀x,Stay b T mem1 bs w x->(I x\/Wst.heap.size<=x)/\x<w.heap.size/\¬f x:=by
      intro x hs;have h2:=st1.stay_not hs;rcases hs with ⟨h3,h4⟩|⟨h3,_,_⟩
      .exact⟨hit.tI x h3 h4,h2.1,hit.fT x h3 h4⟩
      .exact⟨.inr (hit.nK x h3),h2.1,fun hf=>h3 (hit.sK x (hit.fS x hf))⟩
     have hmut:∀x,Mut mem1 bs x->¬b.K x/\x<w.heap.size/\¬S x/\¬f x:=by
      intro x hm;have h2:=st1.mut_not hm;exact⟨h2.1,h2.2,fun hs=>h2.1 (hit.sK x hs),fun hs=>h2.1 (hit.sK x (hit.fS x hs))⟩
     have hrel:=hl noBs noMem;obtain⟨fn,tmps,assign,body,hrun,hround⟩:=hy S f k w (Stay b T mem1 bs w) (c.args.toList.map a.eval) ds hjw hk hst1
      ⟨by rw[hrel.1,hds,List.length_map],fun j d y hd hy=>hrel.2 j (.val (.one (.d d))) y (by rw[hds,getElem?_map,hd];rfl) hy⟩
     have after:∀(g':Gh)(v:Bool)(S' f':Nat->Prop)(W'':World),Step S f (Stay b T mem1 bs w) w W'' S' f'->(∀x,(f' x->S' x)/\(S' x->x<W''.heap.size))->(match g' with|some k=>J S' f' k W''|none=>Jx S' f' 0 W'')->
       K g' (putE o.dst (one (.bool v)) env) mem1->LikeY p.nt Wst fs I J Jx K (a.put o.dst (.bool v)) W'':=by
      intro g' v S' f' W'' hstep hs' hj hK;obtain⟨hb1,hb2,hb3⟩:=hstep;have st2:St (Base.at W'' mem1 bs fun _=>undef) (Stay b T mem1 bs w) p.nt env mem1 bs a W'':=by
       refine st1.rebase (Bel.sub hb1 fun x hx=>?_) _ _ (fun x hx=>hx) (fun x hx=>⟨Nat.lt_of_lt_of_le (hst1 x hx).2.1 hb1.size,(st1.stay_not hx).2⟩) st1.size (st1.defers hmk) (fun t ht=>by simp[hpin]at ht) (fun t=>?_) st1.henv
       .rcases hx with hx|hx
        .exact⟨(hst1 x hx).2.1,(hst1 x hx).2.2⟩
        .exact⟨(hmut x hx).2.1,(hmut x hx).2.2.2⟩
       .rcases st1.tmp t with h4|⟨h4,_⟩
        .exact .inl h4
        .exact .inr ⟨h4,.inl ⟨rfl,rfl⟩⟩
      have hszW:Wst.heap.size<=w.heap.size:=Nat.le_trans hit.bel.size st1.below.size;refine⟨g',Base.at W'' mem1 bs fun _=>undef,Stay b T mem1 bs w,S',f',_,mem1,bs,⟨fun x hx=>⟨(hs' x).2 hx,fun hm=>?_⟩,fun x=>(hs' x).1,fun x hx _ hf'=>?_,fun x hx _=>(hst1 x hx).1,fun x hx=>?_,?_,fun x hx=>?_,hj⟩,Zas st2 hgd (x:=.bool v) (v:=one (.bool v)) (Den.v (.bool v) rfl) (fun o ho=>by simp[AV.hs,eng.S.hs,C.hs,one]at ho),hK⟩
      .have h2:=hmut x hm;rcases hb2 x hx with h3|h3|h3
       .exact h2.2.2.1 h3
       .exact(st1.stay_not h3).2 hm
       .omega
      .rcases hb3 x hf' with h3|h3
       .exact(hst1 x hx).2.2 h3
       .have:=(hst1 x hx).2.1;omega
      .by_cases h3:x<W''.heap.size
       .by_cases h4:Mut mem1 bs x
        .exact hit.nK x (hmut x h4).1
        .exact absurd ⟨h3,h4⟩ hx
       .have:=hb1.size;omega
      .refine Bel.trans (hit.belF st1.below) (Bel.sub hb1 fun x hx=>⟨by have:=hx.1;omega,fun hf=>?_⟩);rcases hit.ff x hf with h3|h3
       .exact hx.2 h3
       .have:=hx.1;omega
      .rcases hb3 x hx with h3|h3
       .exact hit.ff x h3
       .exact .inr ω
     refine⟨hg0,fun _ _=>trivial,?_⟩;show o.uponIn Fence.wide n' p.P a _ Q ((execOp a.eval o).run p.P w);have hexec:(execOp a.eval o).run p.P w= .ok (.round l' fn tmps assign body) w:=by
      obtain⟨callee,args,ts⟩:=c;simp only at hf;subst hf;simp only[execOp,ho,resolve,ef,Deferred.ofValue,Sem.run_bind,Sem.run_pure,Result.andThen_ok,invoke];have e4:(args.toList.map a.eval).toArray=Array.map a.eval args:=by
       rw[<-Array.toList_map,Array.toArray_toList]
      rw[e4]at hrun;simpa using hrun
     rw[hexec,Oper.uponIn_round];refine⟨fun hd=>by simp[Fence.wide]at hd,RoundIn.mono (Zjx hround) ?_⟩;rintro e W'' ⟨S',f',hstep,⟨rfl,hj⟩|⟨rfl,hj⟩⟩
     .exact after (some (k+1)) true S' f' W'' hstep (hJ.sub S' f' _ W'' hj) hj hK1
     .exact after none false S' f' W'' hstep (hJx.sub S' f' _ W'' hj) hj hK2
    .rw[e]at h;exact h.elim
   .exact h.elim
  .exact h.elim
 .exact h.elim
theorem Zov{n':Nat}{yl:List Nat}(hTB:TBok p.P p.TB)(hG:∀w,BelF fs Wst w->p.G w)(hmix:p.P.follows .mixedOrders=true)(hJ:Keeper J)(hJx:Keeper Jx)(hy:Yields p.P n l Wst I elems J Jx)(hpin:p.nt.pins= [])(hmk:p.nt.marks=false):
  ∀(c:Code)(_:codeOk c=true)(Q:PostY)(g:Gh)(b:Base)(T S f:Nat->Prop)(env:Env)(mem:Mem)(bs:Bs)(a:Act)(w:World),spY p yl l elems c Q g env mem->It Wst fs I J Jx g b T S f->St b T p.nt env mem bs a w->
   c.wpIn Fence.wide n' p.P (fun e a w=>LikeY p.nt Wst fs I J Jx (Q e) a w) a w:=by
 intro c
 induction c with
 |skip=>intro _ Q g b T S f env mem bs a w h hit st;exact wpIn_skip ⟨g,b,T,S,f,env,mem,bs,hit,st,h⟩
 |region id ops draw=>
  intro hc Q g b T S f env mem bs a w h hit st;have h:regY p yl l elems ops.toList draw Q g env mem:=h;unfold regY at h;split at h
  .exact wpIn_wide.2 (wp_mono (Zc4 (w0:=b) (I0:=T) hTB (fun w hw=>hG w (hit.belF hw)) hmix (.region id ops draw) hc _ env mem bs a w h st) fun e a' w' ⟨env',mem',bs',st',hq⟩=>⟨g,b,T,S,f,env',mem',bs',hit,st',hq⟩)
  .rename_i q hq;obtain⟨rfl,hsp⟩:=h;refine wpIn_region_list ?_;rw[ZhQ hq];obtain⟨rs,e,m,hr,hk⟩:=ZaM _ _ _ _ hsp;have h1:=ZgL (Q:=Exit.then (fun a w=>∃bs,St b T p.nt e m bs a w) fun _ _ _=>False) hTB (fun w hw=>hG w (hit.belF hw)) hr st (fun bs a w st'=>⟨bs,st'⟩);rw[Array.toArray_toList]at h1;refine Zcm ?_ _ _ _ h1;rintro a1 w1 ⟨bs1,st1⟩;obtain⟨hg0,hy1⟩:=Zjb (n':=n') (Q:=fun e a w=>LikeY p.nt Wst fs I J Jx (Q e) a w) hJ hJx hy hpin hmk hit st1 hk;unfold wpListIn;rw[if_pos (by unfold Region.wanted;rw[hg0])];refine Oper.wpIn_mono ?_ hy1;rintro a2 w2 ⟨g2,b2,T2,S2,f2,env2,mem2,bs2,hit2,st2,h2⟩;obtain⟨rs,e,m,hr,hk⟩:=ZaM _ _ _ _ h2;have h3:=ZgL (Q:=Exit.then (fun a w=>∃bs,St b2 T2 p.nt e m bs a w) fun _ _ _=>False) hTB (fun w hw=>hG w (hit2.belF hw)) hr st2 (fun bs a w st'=>⟨bs,st'⟩);rw[Array.toArray_toList]at h3;have h4:=Zcm (n:=n') (Q:=fun e a w=>LikeY p.nt Wst fs I J Jx (Q e) a w) (rest:=[]) (fun a w ⟨bs,st⟩=>⟨g2,b2,T2,S2,f2,e,m,bs,hit2,st,hk⟩) _ _ _ h3;rw[List.append_nil]at h4;exact h4
 |seq x y ihx ihy=>
  intro hc Q g b T S f env mem bs a w h hit st;simp only[codeOk,Bool.and_eq_true]at hc;refine wpIn_seq (wpIn_mono (ihx hc.1 _ g b T S f env mem bs a w h hit st) ?_);rintro e a' w' ⟨g',b',T',S',f',env',mem',bs',hit',st',hq⟩
  cases e with
  |normal=>exact ihy hc.2 Q g' b' T' S' f' env' mem' bs' a' w' hq hit' st'
  |exit id=>exact⟨g',b',T',S',f',env',mem',bs',hit',st',hq⟩
  |goto l=>exact⟨g',b',T',S',f',env',mem',bs',hit',st',hq⟩
  |ret=>exact⟨g',b',T',S',f',env',mem',bs',hit',st',hq⟩
  |panic ch=>exact⟨g',b',T',S',f',env',mem',bs',hit',st',hq⟩
  |outgrown=>exact⟨g',b',T',S',f',env',mem',bs',hit',st',hq⟩
 |cond c x y ihx ihy=>
  intro hc Q g b T S f env mem bs a w h hit st;simp only[codeOk,Bool.and_eq_true]at hc;obtain⟨h1,_⟩:=Zc st (fun _=>.inr rfl) c;have h:spCond (opd env c) (spY p yl l elems x Q g env mem) (spY p yl l elems y Q g env mem):=h;unfold spCond at h;split at h
  .rename_i t hb;rw[hb]at h1;refine wpIn_cond_split (t:=t) (Zj h1) (fun ht=>ihx hc.1 Q g b T S f env mem bs a w (h.1 ht) hit st) (fun ht=>ihy hc.2 Q g b T S f env mem bs a w (h.2 ht) hit st)
  .exact h.elim
 |block id x ih=>
  intro hc Q g b T S f env mem bs a w h hit st;refine wpIn_block (wpIn_mono (ih hc _ g b T S f env mem bs a w h hit st) ?_);rintro e a' w' ⟨g',b',T',S',f',env',mem',bs',hit',st',hq⟩
  cases e with
  |exit id'=>
   simp only[blockY]at hq;simp only[Exit.inBlock];by_cases e:id'=id
   .subst e;rw[if_pos rfl];simp only[Nat.beq_refl,cond_true]at hq;exact⟨g',b',T',S',f',env',mem',bs',hit',st',hq⟩
   .rw[if_neg e];have:Nat.beq id' id=false:=by
     cases h2:Nat.beq id' id with
     |false=>rfl
     |true=>exact absurd (Nat.eq_of_beq_eq_true h2) e
    simp only[this,cond_false]at hq;exact⟨g',b',T',S',f',env',mem',bs',hit',st',hq⟩
  |normal=>exact⟨g',b',T',S',f',env',mem',bs',hit',st',hq⟩
  |goto l=>exact⟨g',b',T',S',f',env',mem',bs',hit',st',hq⟩
  |ret=>exact⟨g',b',T',S',f',env',mem',bs',hit',st',hq⟩
  |panic ch=>exact⟨g',b',T',S',f',env',mem',bs',hit',st',hq⟩
  |outgrown=>exact⟨g',b',T',S',f',env',mem',bs',hit',st',hq⟩
 |loop x ih=>
  intro hc Q g b T S f env mem bs a w h hit st;obtain⟨ι,E,M,γ,R,μ,i,hent,rfl,hR,hround⟩:=h;obtain⟨bs',st'⟩:=Zx st hent;refine wpIn_loop_ghost (fun n a w=>∃i,μ i=n/\R i/\∃b T S f bs,It Wst fs I J Jx (γ i) b T S f/\St b T p.nt (envOf (E i)) (memOf (M i)) bs a w) (μ i) ⟨i,rfl,hR,b,T,S,f,bs',hit,st'⟩ ?_;rintro n a w ⟨i,rfl,hR,b,T,S,f,bs,hit,st⟩;refine wpIn_mono (ih hc _ _ b T S f _ _ bs a w (hround i hR) hit st) ?_;rintro e a' w' ⟨g',b',T',S',f',env',mem',bs',hit',st',hq⟩
  cases e with
  |normal=>
   obtain⟨j,h1,h2,rfl,h3⟩:=hq;obtain⟨bs'',st''⟩:=Zx st' h3;exact⟨μ j,h2,j,rfl,h1,b',T',S',f',bs'',hit',st''⟩
  |exit id=>exact⟨g',b',T',S',f',env',mem',bs',hit',st',hq⟩
  |goto l=>exact⟨g',b',T',S',f',env',mem',bs',hit',st',hq⟩
  |ret=>exact⟨g',b',T',S',f',env',mem',bs',hit',st',hq⟩
  |panic ch=>exact⟨g',b',T',S',f',env',mem',bs',hit',st',hq⟩
  |outgrown=>exact⟨g',b',T',S',f',env',mem',bs',hit',st',hq⟩
 |exit id=>intro _ Q g b T S f env mem bs a w h hit st;exact wpIn_exit ⟨g,b,T,S,f,env,mem,bs,hit,st,h⟩
 |ret=>intro _ Q g b T S f env mem bs a w h hit st;exact wpIn_ret ⟨g,b,T,S,f,env,mem,bs,hit,st,h⟩
 |rangeFunc f ps ax x _ _=>intro _ Q g b T S f env mem bs a w h;exact h.elim
 |scope x _=>intro _ Q g b T S f env mem bs a w h;exact h.elim
 |label l=>intro _ Q g b T S f env mem bs a w h;exact h.elim
 |goto l=>intro _ Q g b T S f env mem bs a w h;exact h.elim
 |refuse s=>intro _ Q g b T S f env mem bs a w h;exact h.elim
end
def EndY(elems:List (List D)):PostY
 | .normal,g,_,_=>g=some elems.length\/g=none
 | .ret,g,_,_=>g=some elems.length\/g=none
 |_,_,_,_=>False
theorem Zmx{p : Prm}{f : FuncId}{fn : Func}{c : Code}(yl : List Nat)(hf : p.P.funcs[f]? = some fn)(hb : fn.body = some c)(hn : (fn.name == "runtime.NumGoroutine") = false)(hnt : fn.ntmps = p.nt.n)(hpn : p.nt.pins = [])(hmk : p.nt.marks = false)(hrs : fn.results = ⟨[]⟩)
 (hTB:TBok p.P p.TB)(hmix:p.P.follows .mixedOrders=true)(hc:codeOk c=true){caps elems:List (List D)}(hlen:Nat.ble (caps.length+1) p.nt.n=true)
 (h:∀l,spY p yl l elems c (EndY elems) (some 0) (envArgs 0 (.val (.one (.d (.v (.func (.yield l) #[] #[]))))::caps.map fun cs=>.val (.one (.ref cs)))) noMem):SeqSpec p.P p.G f caps elems:=by
 refine⟨Zn hf hb hn,fun n l J Jx S fs W I vs hJ hJx hJ0 hG hI hrel hyield=>?_⟩;have hlen':=Nat.le_of_ble_eq_true hlen;have hrel1:Rel2 (fun y v=>DenAV W I noBs noMem y v) (.func (.yield l) #[] #[]::vs) (.val (.one (.d (.v (.func (.yield l) #[] #[]))))::caps.map fun cs=>.val (.one (.ref cs))):=
  Rel2.cons (Den.v _ rfl) hrel
 have hfree:∀v,v∈(.val (.one (.d (.v (.func (.yield l) #[] #[]))))::caps.map fun cs=>(.val (.one (.ref cs)):AV))->v.hs= []:=by
  intro v hv;rcases List.mem_cons.1 hv with rfl|hv
  .rfl
  .obtain⟨cs,_,rfl⟩:=List.mem_map.1 hv;rfl
 have hvl:vs.length=caps.length:=by have:=hrel.1;simpa using this
 have hsub:=hJ.sub S fs 0 W hJ0;generalize hA:(.val (.one (.d (.v (.func (.yield l) #[] #[]))))::caps.map fun cs=>(.val (.one (.ref cs)):AV))=args at hrel1 hfree;have hal:args.length=caps.length+1:=by rw[<-hA];simp
 have hV:(#[.func (.yield l) #[] #[]]++vs.toArray:Array Value)=(Value.func (.yield l) #[] #[]::vs).toArray:=by simp
 rw[hV];generalize hVs:(Value.func (.yield l) #[] #[]::vs)=ws at hrel1;have hwl:ws.length=args.length:=hrel1.1;have hIs:∀b,I b->Stay (Base.all W) I noMem noBs W b:=fun b hb=>.inl ⟨hb,(hI b hb).1⟩;have st:St (Base.all W) I p.nt (envArgs 0 args) noMem noBs { tmps:=ws.toArray++Array.replicate (fn.ntmps-ws.toArray.size) undef,defers:=[] } W:=by
  refine⟨Bel.refl _ _,by simp[hnt];omega,fun _=>rfl,?_,fun o=>trivial,fun o o' b hm=>by simp[noMem,Ob.mut]at hm,?_,fun q o ho=>by simp[noMem,Ob.hs]at ho,fun t ht=>by rw[hpn]at ht;simp at ht,Marks.nil _ _⟩
  .intro t;rcases ZF args 0 t with h1|⟨_,v,h2,h3⟩
   .exact .inl h1
   .simp only[Nat.sub_zero]at h2;have hlt:t<args.length:=(gS h2).1;refine .inr ⟨ω,?_⟩;rw[h3];obtain⟨y,hy,hd⟩:=hrel1.get h2;have e:(ws.toArray++Array.replicate (fn.ntmps-ws.toArray.size) undef).getD t undef=y:=by
     rw[Array.getD_eq_getD_getElem?,Array.getElem?_append_left (by simp;omega)];simp[hy]
    rw[e];have K:Keeps W I noBs noMem W (Stay (Base.all W) I noMem noBs W) noBs noMem (fun _=>False):=⟨fun b hb=>⟨hIs b hb,rfl⟩,fun _ _ h=>h.elim,fun _ _ _ _ _ _ h=>h.elim⟩;exact K.av (fun o ho=>by rw[hfree v (mG h2)]at ho;simp at ho) hd
  .intro t o ho;rcases ZF args 0 t with h1|⟨_,v,h2,h3⟩
   .rw[h1]at ho;simp[AV.hs]at ho
   .simp only[Nat.sub_zero]at h2;rw[h3,hfree v (mG h2)]at ho;simp at ho
 have hit:It W fs I J Jx (some 0) (Base.all W) I S fs:=⟨fun x hx=>(hsub x).2 hx,fun x hx=>(hsub x).1 hx,fun x hx _=>(hI x hx).2,fun x hx _=>.inl hx,fun x hx=>Nat.le_of_not_lt hx,Bel.refl _ _,fun x hx=>.inl hx,hJ0⟩;have h:=h l;rw[hA]at h;refine callsIn_of_wp_marks hf hb trivial (wpIn_mono (Zov hTB hG hmix hJ hJx hyield hpn hmk c hc _ _ _ _ _ _ _ _ _ _ _ h hit st) ?_);rintro e a' w' ⟨g,b,T,S',f',env',mem',bs',hit',st',hq⟩;have fin:(g=some elems.length\/g=none)->LeavesInM Fence.wide n p.P fn a'.tmps (fun e W'=>(∃v,e= .returned v)/\∃S' f',BelF fs W W'/\(∀b,f' b->fs b\/W.heap.size<=b)/\(J S' f' elems.length W'\/Jx S' f' 0 W')) a'.defers .returning w':=by
  intro hg;rw[st'.defers hmk];refine⟨_,ZaC (vs:=[]) hrs (by simp),⟨_,rfl⟩,S',f',hit'.belF st'.below,hit'.ff,?_⟩;have hj:=hit'.j;rcases hg with rfl|rfl
  .exact .inl (hJ.abide S' f' _ b.w w' hj (st'.below.sub hit'.sK))
  .exact .inr (hJx.abide S' f' _ b.w w' hj (st'.below.sub hit'.sK))
 cases e with
 |normal=>exact fin hq
 |ret=>exact fin hq
 |exit id=>exact hq.elim
 |goto l=>exact hq.elim
 |panic ch=>exact hq.elim
 |outgrown=>exact hq.elim
