/- The engine, no program: code by data. A state of a call is given by data (variables, rows, lists that stay); sp reckons what a piece of code does to it; ZeC: a function whose code does so keeps its contract. Joined by wip/merge_eng.py. -/
import Derived.Test.YtnhfpbcbhnfeaaaGreatDoorQEngPb
import Derived.Deep.LoopGhost
import Derived.Orders
open List (getElem?_toArray getElem?_cons_zero mem_cons_self mem_cons_of_mem getElem?_eq_getElem range mem_of_getElem?)
namespace Go.Proofs.YtnhfpbcbhnfeaaaGreatDoor.eng
open Go.RowKit mem
structure Prm where
 P:Program
 G:World->Prop
 TB:List (Nat×Ty)
 nt:Shape
 own:List Nat
def handles:AV->List Nat
 | .val (.one (.ptr o _))=>[o]
 | .val (.one (.row o _))=>[o]
 | .val (.one (.rp o _ _ _ _))=>[o]
 | .val (.one (.rs o _ _ _))=>[o]
 | .val (.one (.mp o))=>[o]
 | .val (.agg cs)=>cs.flatMap fun c=>match c with
  | .row o _=>[o]
  | .ptr o _=>[o]
  |_=>[]
 |_=>[]
def readsOf(o:Oper)(env:Env):List Nat:=
 match o.op with
 | .alloc _=>o.dst.toList
 | .box _ _=>o.dst.toList
 | .assign x=>handles (opd env x)
 | .load _ x=>handles (opd env x)
 | .fieldAddr _ x _=>handles (opd env x)
 | .makeSlice _ _ _=>o.dst.toList
 | .convert _ _ x=>handles (opd env x)
 | .store _ x y=>handles (opd env x)++handles (opd env y)
 | .indexAddr _ x _=>handles (opd env x)
 | .buildSlice _ _ ps=>o.dst.toList++ps.toList.flatMap fun p=>handles (opd env p.2)
 | .slice _ x _ _ _=>handles (opd env x)
 | .makeInterface _ x=>handles (opd env x)
 | .makeMap _ _=>o.dst.toList
 | .range _ x=>o.dst.toList++handles (opd env x)
 | .mapUpdate _ x _ _=>handles (opd env x)
 | .lookup _ x _ _=>handles (opd env x)
 | .insert _ x _ _=>handles (opd env x)
 | .binOp _ _ x _ _=>handles (opd env x)
 | .call c=>match c.callee with
  | .builtin _=>o.dst.toList++c.args.toList.flatMap fun x=>handles (opd env x)
  |_=>o.dst.toList++c.args.toList.flatMap fun x=>handles (opd env x)
 |_=>[]
noncomputable def planV(p:Prm)(o:Oper)(env:Env)(mem:Mem):Plan:=
 match o.op with
 | .move x=>.ret (opd env x)
 | .assign x=>bif ownT p.own (o.dst.map (· +400000)) then planAssignF env mem x else .ret (opd env x)
 | .pick c x y=>planPick env c x y
 | .alloc T=>planAlloc p.TB mem o.dst T
 | .box T x=>planBox env mem o.dst T x
 | .load T x=>planLoad p.TB env mem T x
 | .store T x y=>planStoreG p.TB env mem T x y
 | .fieldAddr T x f=>planFieldAddr p.TB env mem T x f
 | .field T x f=>planField p.TB env T x f
 | .makeSlice T l c=>planMakeSlice p.TB env mem o.dst T l c
 | .index T x i=>planIndexV p.TB env T x i
 | .convert s t x=>planConvert p.P env mem s t x
 | .build T ps=>planBuild p.TB env T ps.toList
 | .extract x i=>planExtract env x i
 | .binOp op T x y _=>planBin p.P env op T x y
 | .unOp op _ x=>planUn env op x
 | .indexAddr T x i=>planIndexAddrG p.TB env mem T x i
 | .buildSlice T n ps=>bif ownT p.own o.dst then planBuildOwn p.TB env mem o.dst T n ps.toList else planBuildSliceF p.TB env mem T n ps.toList
 | .slice T x lo hi mx=>planSliceG p.TB env mem T x lo hi mx
 | .makeInterface T x=>planMakeIface p.P env mem T x
 | .nilCheck x=>planNilCheck env x
 | .makeMap _ n=>planMakeMap mem o.dst n
 | .mapUpdate T m k v=>planMapUpdate p.P env mem T m k v
 | .lookup T x i ok=>planLookup p.P env mem T x i ok
 | .insert T m k v=>planMapUpdate p.P env mem T m k v
 | .makeFunc fn first caps=>planMakeFunc env fn first.toList caps.toList
 | .call c=>match c.callee with
  | .value f=>bif ownT p.own (o.dst.map (· +1600000)) then planCallP p.P p.G env mem f c.args.toList else bif ownT p.own (o.dst.map (· +800000)) then planCallV p.P p.G env mem o.dst f c.args.toList else bif ownT p.own (o.dst.map (· +500000)) then planCallS p.P p.G env mem o.dst f c.args.toList else planCallG p.P p.G env mem o.dst f c.args.toList
  | .builtin b=>match b with
   | .len=>planLen p.TB env mem c.argTypes.toList c.args.toList
   | .append=>planAppendG p.P p.TB env mem o.dst c.argTypes.toList c.args.toList
   | .max=>planMM env true c.args.toList
   | .min=>planMM env false c.args.toList
   |_=>.bad
  | .invoke recv name=>planInvoke p.P p.G env mem recv name c.args.toList
 |_=>.bad
def memb(t:Nat):List Nat->Bool
 | []=>false
 |x::r=>bif Nat.beq x t then true else memb t r
theorem Zbf{t:Nat}{l:List Nat}:memb t l=true↔t∈l:=by
 induction l with
 |nil=>simp[memb]
 |cons x r ih=>
  rw[memb,List.mem_cons]
  cases e:Nat.beq x t with
  |true=>
   obtain rfl:=Nat.eq_of_beq_eq_true e;simp
  |false=>
   have:t≠x:=fun h=>by subst h;simp at e
   simp only[cond_false,ih,this,false_or]
def tmpsOf:List Operand->List Nat
 | []=>[]
 |x::r=>match x with
  | .tmp t=>t::tmpsOf r
  |_=>tmpsOf r
def tempsOf(o:Oper):List Nat:=tmpsOf o.op.operands.toList
noncomputable def plan(p:Prm)(o:Oper)(env:Env)(mem:Mem):Plan:=
 planV p o (fun t=>bif memb t (tempsOf o) then env t else .junk) (fun i=>bif memb i (readsOf o (fun t=>bif memb t (tempsOf o) then env t else .junk)) then mem i else .gone)
def putE(dst:Option Nat)(r:AV)(env:Env):Env:=
 match dst with
 |some i=>upd env i r
 |none=>env
def putM(wr:Option (Nat×Ob))(mem:Mem):Mem:=
 match wr with
 |some p=>upd mem p.1 p.2
 |none=>mem
def dstOk(nt:Shape):Option Nat->Bool
 |none=>true
 |some d=>Nat.blt d nt.n&& !memb d nt.pins
section
variable{p:Prm}{w0:Base}{I0:Nat->Prop}{env:Env}{mem:Mem}{bs:Bs}{a:Act}{w:World}
theorem ZjK(hTB:TBok p.P p.TB)(hG:∀w',Bel w0.K w w'->p.G w')(st:St w0 I0 p.nt env mem bs a w)(o:Oper)(env':Env)(mem':Mem)(hE:∀t,env' t= .junk\/env' t=env t)(hM:∀i,mem' i= .gone\/mem' i=mem i)
 (hR:∀i,i∈readsOf o env'->mem' i=mem i):SoundPlan p.P w0 I0 p.nt env mem a w o (planV p o env' mem'):=by
 unfold planV;split
 .rename_i x ho;exact Zdx st hE o x (.inl ho)
 .rename_i x ho
  cases ownT p.own (o.dst.map (· +400000)) with
  |true=>exact ZgE st hE hM o x ho
  |false=>exact Zdx st hE o x (.inr ho)
 .rename_i c x y ho;exact Zmu st hE o c x y ho
 .rename_i T ho;exact Zju hTB st o T ho (fun d hd=>hR d (by simp[readsOf,ho,hd]))
 .rename_i T x ho;exact Zoy st hE o T x ho (fun d hd=>hR d (by simp[readsOf,ho,hd]))
 .rename_i T x ho;exact Zmv hTB st hE hM o T x ho
 .rename_i T x y ho;exact ZhT hTB st hE hM o T x y ho
 .rename_i T x f ho;exact ZeG hTB st hE hM o T f x ho
 .rename_i T x f ho;exact Zjo hTB st hE o T f x ho
 .rename_i T l c ho;exact ZeD hTB st hE o T l c ho (fun d hd=>hR d (by simp[readsOf,ho,hd]))
 .rename_i T x i ho;exact ZhZ hTB st hE o T x i ho
 .rename_i s t x ho;exact ZgD st hE hM o s t x ho
 .rename_i T ps ho;exact Zjt hTB st hE o T ps ho
 .rename_i x i ho;exact ZgC st hE o x i ho
 .rename_i op T x y yT ho;exact Zoz st hE o op T yT x y ho
 .rename_i op T x ho;exact Zsr st hE o op T x ho
 .rename_i T x i ho;exact Zd6 hTB st hE hM o T x i ho
 .rename_i T n ps ho
  cases ownT p.own o.dst with
  |true=>exact Zfu hTB st hE hM o T n ps ho (fun d hd=>hR d (by simp[readsOf,ho,hd]))
  |false=>exact Zdy hTB st hE hM o T n ps ho
 .rename_i T x lo hi mx ho;exact ZhW hTB st hE hM o T x lo hi mx ho
 .rename_i T x ho;exact ZeE st hE hM o T x ho
 .rename_i x ho;exact Zfr st hE o x ho
 .rename_i T n ho;exact ZgB st o T n ho (fun d hd=>hR d (by simp[readsOf,ho,hd]))
 .rename_i T m k v ho;exact Zb4 st hE hM o T m k v (.inl ho)
 .rename_i T x i ok ho;exact ZhX st hE hM o T x i ok ho
 .rename_i T m k v ho;exact Zb4 st hE hM o T m k v (.inr ho)
 .rename_i fn first caps ho;exact Zfs st hE o fn first caps ho
 .rename_i c ho;obtain⟨callee,args,ts⟩:=c;split
  .rename_i f hf;simp only at hf;subst hf
   cases ownT p.own (o.dst.map (· +1600000)) with
   |true=>exact Zjr (hG w (Bel.refl _ _)) st hE hM o f args.toList ts ho
   |false=>
   cases ownT p.own (o.dst.map (· +800000)) with
   |true=>exact Zjp hG st hE hM o o.dst f args.toList ts ho
   |false=>
   cases ownT p.own (o.dst.map (· +500000)) with
   |true=>exact Zjq hG st hE hM o o.dst f args.toList ts ho (fun d hd=>hR d (by simp[readsOf,ho,hd]))
   |false=>
    exact Zjs (hG w (Bel.refl _ _)) st hE hM o o.dst f args.toList ts ho (fun d hd=>hR d (by simp[readsOf,ho,hd]))
  .rename_i b hb;simp only at hb;subst hb;split
   .exact Zox hTB st hE hM o args.toList ts.toList ho
   .exact ZgF hTB st hE hM o args.toList ts.toList ho (fun d hd=>hR d (by simp[readsOf,ho,hd]))
   .exact ZkR st hE o true args.toList ts ho
   .exact ZkR st hE o false args.toList ts ho
   .trivial
  .rename_i recv name hb;simp only at hb;subst hb;exact ZhY (hG w (Bel.refl _ _)) st hE hM o recv name args.toList ts ho
 .trivial
theorem ZmL(hTB:TBok p.P p.TB)(hG:∀w',Bel w0.K w w'->p.G w')(st:St w0 I0 p.nt env mem bs a w)(o:Oper):SoundPlan p.P w0 I0 p.nt env mem a w o (plan p o env mem):=by
 refine ZjK hTB hG st o _ _ (fun t=>?_) (fun i=>?_) (fun i hi=>?_)
 .cases memb t (tempsOf o) with
  |true=>exact .inr rfl
  |false=>exact .inl rfl
 .cases memb i (readsOf o (fun t=>bif memb t (tempsOf o) then env t else .junk)) with
  |true=>exact .inr rfl
  |false=>exact .inl rfl
 .rw[Zbf.2 hi];rfl
theorem ZmM(o:Oper){env':Env}{mem':Mem}(hE:∀t,t∈tempsOf o->env' t=env t)(hM:∀i,i∈readsOf o (fun t=>bif memb t (tempsOf o) then env t else .junk)->mem' i=mem i):plan p o env' mem'=plan p o env mem:=by
 have e:(fun t=>bif memb t (tempsOf o) then env' t else AV.junk)=fun t=>bif memb t (tempsOf o) then env t else AV.junk:=by
  funext t
  cases h:memb t (tempsOf o) with
  |true=>exact hE t (Zbf.1 h)
  |false=>rfl
 unfold plan;rw[e];congr 1;funext i
 cases h:memb i (readsOf o (fun t=>bif memb t (tempsOf o) then env t else .junk)) with
 |true=>exact hM i (Zbf.1 h)
 |false=>rfl
end
structure Tr where
 rd:List Nat
 wr:Option Nat
def guardTmp(all:List Oper)(o:Oper):Option Nat:=
 match o.guard with
 |none=>none
 |some g=>match all[g.1]? with
  |some q=>q.dst
  |none=>none
def guardK(all:List Oper)(o:Oper)(env:Env)(run skip:Env->Prop):Prop:=
 match o.guard with
 |none=>run env
 |some g=>match guardTmp all o with
  |some t=>match env t with
   | .val (.one (.d (.v (.bool b))))=>@Bool.rec (fun _=>Prop) (bif g.2 then skip (upd env t (one (.bool false))) else run (upd env t (one (.bool false)))) (bif g.2 then run (upd env t (one (.bool true))) else skip (upd env t (one (.bool true)))) b
   | .tup l=>(match l with
    | []=>skip env
    |_=>False)
   |_=>False
  |none=>False
theorem fork{b:Bool}{kt kf:Prop}(h1:b=true->kt)(h0:b=false->kf):@Bool.rec (fun _=>Prop) kf kt b:=by
 cases b<;>first|exact h1 rfl|exact h0 rfl
def rdOf(o:Oper)(env:Env):List Nat:=readsOf o (fun t=>bif memb t (tempsOf o) then env t else .junk)
def newK(v:AV)(kn:Nat->Nat->List (List D)->Prop)(k:AV->Prop):Prop:=
 match v with
 | .new T n xs=>kn T n xs
 |v=>k v
theorem Zg5{v:AV}{kn:Nat->Nat->List (List D)->Prop}{k:AV->Prop}(h:newK v kn k):(∃T n xs,v= .new T n xs/\kn T n xs)\/(v.isNew=false/\k v):=by
 cases v with
 |new T n xs=>exact .inl ⟨T,n,xs,rfl,h⟩
 |val s=>exact .inr ⟨rfl,h⟩
 |tup s=>exact .inr ⟨rfl,h⟩
 |junk=>exact .inr ⟨rfl,h⟩
def spOp(p:Prm)(all:List Oper)(_K:List Tr->Env->Mem->Prop)(o:Oper)(next:List Tr->Env->Mem->Prop)(tr:List Tr)(env:Env)(mem:Mem):Prop:=
  bif dstOk p.nt o.dst then
   guardK all o env
    (fun env=>match plan p o env mem with
     | .ret v=>forceK (rdOf o env) fun rd=>next (⟨rd,none⟩::tr) (putE o.dst v env) mem
     | .put v id ob=>forceK (rdOf o env) fun rd=>next (⟨rd,some id⟩::tr) (putE o.dst v env) (upd mem id ob)
     | .putIf pre v id ob=>forceK (rdOf o env) fun rd=>pre/\next (⟨rd,some id⟩::tr) (putE o.dst v env) (upd mem id ob)
     | .ask Φ=>forceK (rdOf o env) fun rd=>∃v,Φ v/\next (⟨rd,none⟩::tr) (putE o.dst v env) mem
     | .askF id ob Φ=>forceK (rdOf o env) fun rd=>∃v,Φ v/\newK v (fun _ _ _=>False) (fun v=>next (⟨rd,some id⟩::tr) (putE o.dst v env) (upd mem id ob))
     | .askN d Φ=>forceK (rdOf o env) fun rd=>∃v,Φ v/\newK v (fun T n xs=>match d with
      |some d=>next (⟨rd,some d⟩::tr) (putE o.dst (.val (.one (.row d 0))) env) (upd mem d (.row T n 0 xs true))
      |none=>False) (fun v=>next (⟨rd,none⟩::tr) (putE o.dst v env) mem)
     | .askT id k Φ=>forceK (rdOf o env) fun rd=>∃T n xs,Φ T n xs/\next (⟨rd,some id⟩::tr) (putE o.dst (.val (.one (.row id k))) env) (upd mem id (.row T n k xs true))
     | .askS id T n k Φ=>forceK (rdOf o env) fun rd=>∃v ys,Φ v ys/\newK v (fun _ _ _=>False) (fun v=>next (⟨rd,some id⟩::tr) (putE o.dst v env) (upd mem id (.row T n k ys true)))
     | .askV id T Φ=>forceK (rdOf o env) fun rd=>∃v ds,Φ v ds/\newK v (fun _ _ _=>False) (fun v=>next (⟨rd,some id⟩::tr) (putE o.dst v env) (upd mem id (.var T (ds.map C.d))))
     | .askE id lk Φ=>forceK (rdOf o env) fun rd=>∃v y,Φ v y/\next (⟨rd,some id⟩::tr) (putE o.dst v env) (upd mem id (.ext lk y))
     | .dem _ _ _ _=>False
     | .bad=>False)
    (fun env=>next (⟨[],none⟩::tr) (putE o.dst (.tup []) env) mem)
  else False
def spOps(p:Prm)(all:List Oper)(ops:List Oper)(tr:List Tr)(K:List Tr->Env->Mem->Prop)(env:Env)(mem:Mem):Prop:=
 @List.rec Oper (fun _=>List Tr->Env->Mem->Prop) K (fun o _ next=>spOp p all K o next) ops tr env mem
theorem Zmt{p:Prm}{all:List Oper}{o:Oper}{rest:List Oper}{tr:List Tr}{K:List Tr->Env->Mem->Prop}{env:Env}{mem:Mem}:spOps p all (o::rest) tr K env mem=spOp p all K o (fun tr env mem=>spOps p all rest tr K env mem) tr env mem:=rfl
structure Rec where
 v:AV
 wr:Option (Nat×Ob)
 rd:List Nat
 skip:Bool
def Rec.tr(r:Rec):Tr:=⟨r.rd,r.wr.map (·.1)⟩
def StepOf:Plan->AV->Option (Nat×Ob)->Prop
 | .ret v,r,wr=>r=v/\wr=none
 | .put v id ob,r,wr=>r=v/\wr=some (id,ob)
 | .putIf pre v id ob,r,wr=>pre/\r=v/\wr=some (id,ob)
 | .ask Φ,r,wr=>Φ r/\wr=none
 | .askF id ob Φ,r,wr=>r.isNew=false/\Φ r/\wr=some (id,ob)
 | .askN d Φ,r,wr=>(r.isNew=false/\Φ r/\wr=none)\/∃d' T n xs,d=some d'/\Φ (.new T n xs)/\r= .val (.one (.row d' 0))/\wr=some (d',.row T n 0 xs true)
 | .askT id k Φ,r,wr=>∃T n xs,Φ T n xs/\r= .val (.one (.row id k))/\wr=some (id,.row T n k xs true)
 | .askS id T n k Φ,r,wr=>∃ys,r.isNew=false/\Φ r ys/\wr=some (id,.row T n k ys true)
 | .askV id T Φ,r,wr=>∃ds,r.isNew=false/\Φ r ds/\wr=some (id,.var T (ds.map C.d))
 | .askE id lk Φ,r,wr=>∃y,Φ r y/\wr=some (id,.ext lk y)
 | .dem _ _ _ _,_,_=>False
 | .bad,_,_=>False
def guardIs(all:List Oper)(o:Oper)(env:Env)(run:Bool):Prop:=
 match o.guard with
 |none=>run=true
 |some g=>(∃t b,guardTmp all o=some t/\env t= .val (.one (.d (.v (.bool b))))/\run=(b==g.2))\/(∃t,guardTmp all o=some t/\env t= .tup []/\run=false)
theorem ZqO{all:List Oper}{o:Oper}{env:Env}{run skip:Env->Prop}(h:guardK all o env run skip):(guardIs all o env true/\run env)\/(guardIs all o env false/\skip env):=by
 unfold guardK at h;unfold guardIs
 cases hg:o.guard with
 |none=>rw[hg]at h;exact .inl ⟨rfl,h⟩
 |some g=>
  rw[hg]at h;simp only at h⊢;split at h
  .rename_i t ht;split at h
   .rename_i b hb;have he:upd env t (one (.bool b))=env:=by
     have:=ZcY env t;rw[hb]at this;exact this
    obtain⟨g1,g2⟩:=g;cases b<;>cases g2<;>simp only[cond_true,cond_false,he]at h
    .exact .inl ⟨.inl ⟨t,false,ht,hb,rfl⟩,h⟩
    .exact .inr ⟨.inl ⟨t,false,ht,hb,rfl⟩,h⟩
    .exact .inr ⟨.inl ⟨t,true,ht,hb,rfl⟩,h⟩
    .exact .inl ⟨.inl ⟨t,true,ht,hb,rfl⟩,h⟩
   .rename_i l hb;split at h
    .exact .inr ⟨.inr ⟨t,ht,hb,trivial⟩,h⟩
    .exact h.elim
   .exact h.elim
  .exact h.elim
inductive Run(p:Prm)(all:List Oper):List Oper->Env->Mem->List Rec->Env->Mem->Prop
 |nil (env mem):Run p all [] env mem [] env mem
 |skip {o rest env mem rs e m}:dstOk p.nt o.dst=true->guardIs all o env false->Run p all rest (putE o.dst (.tup []) env) mem rs e m->Run p all (o::rest) env mem (⟨.tup [],none, [],true⟩::rs) e m
 |step {o rest env mem rs e m} (v:AV) (wr:Option (Nat×Ob)):dstOk p.nt o.dst=true->guardIs all o env true->StepOf (plan p o env mem) v wr->Run p all rest (putE o.dst v env) (putM wr mem) rs e m->
   Run p all (o::rest) env mem (⟨v,wr,rdOf o env,false⟩::rs) e m
theorem ZaM{p:Prm}{all:List Oper}{K:List Tr->Env->Mem->Prop}:∀(ops:List Oper)(tr:List Tr)(env:Env)(mem:Mem),spOps p all ops tr K env mem->
  ∃rs e m,Run p all ops env mem rs e m/\K ((rs.map Rec.tr).reverse++tr) e m
 | [],tr,env,mem,h=>⟨[],env,mem,.nil _ _,h⟩
 |o::rest,tr,env,mem,h=>by
  rw[Zmt,spOp]at h
  cases hd:dstOk p.nt o.dst with
  |false=>rw[hd]at h;exact h.elim
  |true=>
   rw[hd]at h;simp only[cond_true]at h;rcases ZqO h with ⟨hg,h⟩|⟨hg,h⟩
   .have go:∀v wr,StepOf (plan p o env mem) v wr->spOps p all rest (⟨rdOf o env,wr.map (·.1)⟩::tr) K (putE o.dst v env) (putM wr mem)->
     ∃rs e m,Run p all (o::rest) env mem rs e m/\K ((rs.map Rec.tr).reverse++tr) e m:=fun v wr hs hsp=>by
     obtain⟨rs,e,m,hr,hk⟩:=ZaM rest _ _ _ hsp;exact⟨⟨v,wr,rdOf o env,false⟩::rs,e,m,.step v wr hd hg hs hr,by simpa[Rec.tr]using hk⟩
    cases hp:plan p o env mem with
    |ret v=>rw[hp]at h;simp only[ZC]at h;exact go v none (by rw[hp];exact⟨rfl,rfl⟩) h
    |put v id ob=>rw[hp]at h;simp only[ZC]at h;exact go v (some (id,ob)) (by rw[hp];exact⟨rfl,rfl⟩) h
    |putIf pre v id ob=>
     rw[hp]at h;simp only[ZC]at h;exact go v (some (id,ob)) (by rw[hp];exact⟨h.1,rfl,rfl⟩) h.2
    |ask Φ=>
     rw[hp]at h;simp only[ZC]at h;obtain⟨v,hv,h⟩:=h;exact go v none (by rw[hp];exact⟨hv,rfl⟩) h
    |askF id ob Φ=>
     rw[hp]at h;simp only[ZC]at h;obtain⟨v,hv,h⟩:=h;rcases Zg5 h with ⟨T,n,xs,rfl,h⟩|⟨hn,h⟩
     .exact h.elim
     .exact go v (some (id,ob)) (by rw[hp];exact⟨hn,hv,rfl⟩) h
    |askN d Φ=>
     rw[hp]at h;simp only[ZC]at h;obtain⟨v,hv,h⟩:=h;rcases Zg5 h with ⟨T,n,xs,rfl,h⟩|⟨hn,h⟩
     .cases d with
      |none=>exact h.elim
      |some d=>exact go (.val (.one (.row d 0))) (some (d,.row T n 0 xs true)) (by rw[hp];exact .inr ⟨d,T,n,xs,rfl,hv,rfl,rfl⟩) h
     .exact go v none (by rw[hp];exact .inl ⟨hn,hv,rfl⟩) h
    |askT id k Φ=>
     rw[hp]at h;simp only[ZC]at h;obtain⟨T,n,xs,hv,h⟩:=h;exact go (.val (.one (.row id k))) (some (id,.row T n k xs true)) (by rw[hp];exact⟨T,n,xs,hv,rfl,rfl⟩) h
    |askS id T n k Φ=>
     rw[hp]at h;simp only[ZC]at h;obtain⟨v,ys,hv,h⟩:=h;rcases Zg5 h with ⟨T,n,xs,rfl,h⟩|⟨hn,h⟩
     .exact h.elim
     .exact go v (some (id,.row T n k ys true)) (by rw[hp];exact⟨ys,hn,hv,rfl⟩) h
    |askV id T Φ=>
     rw[hp]at h;simp only[ZC]at h;obtain⟨v,ys,hv,h⟩:=h;rcases Zg5 h with ⟨T,n,xs,rfl,h⟩|⟨hn,h⟩
     .exact h.elim
     .exact go v (some (id,.var T (ys.map C.d))) (by rw[hp];exact⟨ys,hn,hv,rfl⟩) h
    |askE id lk Φ=>
     rw[hp]at h;simp only[ZC]at h;obtain⟨v,y,hv,h⟩:=h;exact go v (some (id,.ext lk y)) (by rw[hp];exact⟨y,hv,rfl⟩) h
    |dem _ _ _ _=>rw[hp]at h;exact h.elim
    |bad=>rw[hp]at h;exact h.elim
   .obtain⟨rs,e,m,hr,hk⟩:=ZaM rest _ _ _ h;exact⟨_,e,m,.skip hd hg hr,by simpa[Rec.tr]using hk⟩
section
variable{p:Prm}{w0:Base}{I0:Nat->Prop}{env:Env}{mem:Mem}{bs:Bs}{a:Act}{w:World}
theorem ZlU{nt:Shape}{dst:Option Nat}(h:dstOk nt dst=true):∀i,dst=some i->i<nt.n/\i ∉ nt.pins:=by
 intro i hi;subst hi;simp only[dstOk,Bool.and_eq_true,Bool.not_eq_true']at h;exact⟨Nat.lt_of_lt_of_le (Nat.lt_succ_self i) (Nat.le_of_ble_eq_true h.1),fun hm=>by rw[Zbf.2 hm]at h;simp at h⟩
theorem Zas(st:St w0 I0 p.nt env mem bs a w){dst:Option Nat}(hd:dstOk p.nt dst=true){x:Value}{v:AV}(h:DenAV w (Stay w0 I0 mem bs w) bs mem x v)(hs:∀o,o∈v.hs->okh mem o):St w0 I0 p.nt (putE dst v env) mem bs (a.put dst x) w:=by
 cases dst with
 |none=>exact st
 |some i=>exact st.put (ZlU hd i rfl).1 (ZlU hd i rfl).2 h hs
theorem ZfH{K:Act->World->Prop}{Q:Exit->Act->World->Prop}(hTB:TBok p.P p.TB)(hG:∀w',Bel w0.K w w'->p.G w')(st:St w0 I0 p.nt env mem bs a w)(o:Oper){v:AV}{wr:Option (Nat×Ob)}(hd:dstOk p.nt o.dst=true)(hs:StepOf (plan p o env mem) v wr)
 (hK:∀bs' a' w',St w0 I0 p.nt (putE o.dst v env) (putM wr mem) bs' a' w'->K a' w'):o.wp p.P a w K Q:=by
 have h:=ZmL hTB hG st o
 cases hp:plan p o env mem with
 |ret r=>
  rw[hp]at h hs;obtain⟨rfl,rfl⟩:=hs;exact h K Q fun x w' ⟨bs',st',hden,hhs⟩=>hK bs' _ _ (Zas st' hd hden hhs)
 |put r id ob=>
  rw[hp]at h hs;obtain⟨rfl,rfl⟩:=hs;exact h K Q fun x w' ⟨bs',st',hden,hhs⟩=>hK bs' _ _ (Zas st' hd hden hhs)
 |putIf pre r id ob=>
  rw[hp]at h hs;obtain⟨hpre,rfl,rfl⟩:=hs;exact h hpre K Q fun x w' ⟨bs',st',hden,hhs⟩=>hK bs' _ _ (Zas st' hd hden hhs)
 |ask Φ=>
  rw[hp]at h hs;obtain⟨hv,rfl⟩:=hs;exact h v hv K Q fun x w' ⟨bs',st',hden,hhs⟩=>hK bs' _ _ (Zas st' hd hden hhs)
 |askF id ob Φ=>
  rw[hp]at h hs;obtain⟨hn,hv,rfl⟩:=hs;exact h v hn hv K Q fun x w' ⟨bs',st',hden,hhs⟩=>hK bs' _ _ (Zas st' hd hden hhs)
 |askN d Φ=>
  rw[hp]at h hs;rcases hs with ⟨hn,hv,rfl⟩|⟨d',T,n,xs,rfl,hv,rfl,rfl⟩
  .exact h.1 v hn hv K Q fun x w' ⟨bs',st',hden,hhs⟩=>hK bs' _ _ (Zas st' hd hden hhs)
  .exact h.2 d' rfl T n xs hv K Q fun x w' ⟨bs',st',hden,hhs⟩=>hK bs' _ _ (Zas st' hd hden hhs)
 |askT id k Φ=>
  rw[hp]at h hs;obtain⟨T,n,xs,hv,rfl,rfl⟩:=hs;exact h T n xs hv K Q fun x w' ⟨bs',st',hden,hhs⟩=>hK bs' _ _ (Zas st' hd hden hhs)
 |askS id T n k Φ=>
  rw[hp]at h hs;obtain⟨ys,hn,hv,rfl⟩:=hs;exact h v ys hn hv K Q fun x w' ⟨bs',st',hden,hhs⟩=>hK bs' _ _ (Zas st' hd hden hhs)
 |askV id T Φ=>
  rw[hp]at h hs;obtain⟨ys,hn,hv,rfl⟩:=hs;exact h v ys hn hv K Q fun x w' ⟨bs',st',hden,hhs⟩=>hK bs' _ _ (Zas st' hd hden hhs)
 |askE id lk Φ=>
  rw[hp]at h hs;obtain⟨y,hv,rfl⟩:=hs;exact h v y hv K Q fun x w' ⟨bs',st',hden,hhs⟩=>hK bs' _ _ (Zas st' hd hden hhs)
 |dem _ _ _ _=>rw[hp]at hs;exact hs.elim
 |bad=>rw[hp]at hs;exact hs.elim
theorem ZiT{w:World}{I:Nat->Prop}{bs:Bs}{mem:Mem}:DenAV w I bs mem undef (.tup []):=⟨[],rfl,rfl,fun j s y hs=>by simp at hs⟩
theorem Zbl{all:List Oper}{o:Oper}{run:Bool}(st:St w0 I0 p.nt env mem bs a w)(h:guardIs all o env run):Region.wanted o (yielded all.toArray a.tmps)=run:=by
 unfold guardIs at h;unfold Region.wanted;split at h
 .rename_i hg;rw[hg];exact h.symm
 .rename_i g hg;have hdst:∀t,guardTmp all o=some t->((all.toArray[g.1]?).bind (·.dst))=some t:=by
   intro t ht;unfold guardTmp at ht;rw[hg]at ht;simp only at ht;rw[getElem?_toArray]
   cases hq:all[g.1]? with
   |none=>rw[hq]at ht;simp at ht
   |some q=>rw[hq]at ht;simpa using ht
  rw[hg];obtain⟨j,want⟩:=g;rcases h with ⟨t,b,ht,hb,hr⟩|⟨t,ht,hb,hr⟩
  .simp only at hr⊢;have hy:yielded all.toArray a.tmps j=some b:=by
    unfold yielded;rw[hdst t ht];rcases st.tmp t with h1|⟨h1,h2⟩
    .rw[hb]at h1;simp at h1
    .rw[hb]at h2;have h3:=Zj h2;have hlt:t<a.tmps.size:=by rw[st.size];exact h1
     simp only[Array.getD,hlt,dif_pos]at h3;simp only[Option.bind_some,Array.getElem?_eq_getElem hlt];have:a.tmps[t]= .bool b:=h3;rw[this]
   rw[hy,hr];cases b<;>cases want<;>rfl
  .simp only;have hy:yielded all.toArray a.tmps j=none:=by
    unfold yielded;rw[hdst t ht];rcases st.tmp t with h1|⟨h1,h2⟩
    .rw[hb]at h1;simp at h1
    .rw[hb]at h2;obtain⟨l,h3,h4,_⟩:=h2;have hl:l= []:=List.eq_nil_of_length_eq_zero h4;subst hl;have hlt:t<a.tmps.size:=by rw[st.size];exact h1
     simp only[Array.getD,hlt,dif_pos]at h3;simp only[Option.bind_some,Array.getElem?_eq_getElem hlt];have:a.tmps[t]= .tuple #[]:=h3;rw[this]
   rw[hy,hr];rfl
theorem ZgL{all:List Oper}{Q:Exit->Act->World->Prop}(hTB:TBok p.P p.TB)(hG:∀w,Bel w0.K w0.w w->p.G w){ops:List Oper}{rs:List Rec}{e:Env}{m:Mem}(hr:Run p all ops env mem rs e m):
  ∀{bs:Bs}{a:Act}{w:World},St w0 I0 p.nt env mem bs a w->(∀bs a w,St w0 I0 p.nt e m bs a w->Q .normal a w)->wpList p.P all.toArray Q ops a w:=by
 induction hr with
 |nil env mem=>intro bs a w st hQ;exact hQ _ _ _ st
 |skip hd hg hr ih=>
  rename_i o rest env mem rs e m;intro bs a w st hQ;unfold wpList;rw[if_neg (by rw[Zbl st hg];simp)];exact ih (Zas st hd (x:=undef) ZiT (fun o ho=>by simp[AV.hs]at ho)) hQ
 |step v wr hd hg hs hr ih=>
  rename_i o rest env mem rs e m;intro bs a w st hQ;unfold wpList;rw[if_pos (Zbl st hg)];exact .inl (ZfH hTB (fun w' hb=>hG w' (st.below.trans hb)) st o hd hs fun bs' a' w' st'=>ih st' hQ)
end
def ancOf(acc:List Nat)(o:Oper):Nat:=o.after.toList.foldl (fun s e=>bif Region.binds .any e then s|||2^e.on|||acc.getD e.on 0 else s) 0
def ancs:List Oper->List Nat->List Nat
 | [],acc=>acc
 |o::r,acc=>ancs r (acc++[ancOf acc o])
theorem Zi4:∀(ops:List Oper)(acc:List Nat),(ancs ops acc).length=acc.length+ops.length/\(ancs ops acc).take acc.length=acc/\
  ∀(j:Nat)(o:Oper),ops[j]? =some o->(ancs ops acc)[acc.length+j]? =some (ancOf ((ancs ops acc).take (acc.length+j)) o)
 | [],acc=>⟨rfl,by simp[ancs],fun j o h=>by simp at h⟩
 |o::r,acc=>by
  obtain⟨h1,h2,h3⟩:=Zi4 r (acc++[ancOf acc o]);simp only[List.length_append,List.length_cons,List.length_nil,Nat.zero_add]at h1 h2 h3;have h4:(ancs (o::r) acc).take acc.length=acc:=by
   have:=congrArg (List.take acc.length) h2;rw[List.take_take,Nat.min_eq_left ω,List.take_append_of_le_length (Nat.le_refl _),List.take_length]at this;exact this
  refine⟨by rw[ancs,h1,List.length_cons];omega,h4,fun j q hq=>?_⟩
  cases j with
  |zero=>
   simp only[getElem?_cons_zero,Option.some.injEq]at hq;subst hq;rw[Nat.add_zero,h4];have:((ancs r (acc++[ancOf acc o])).take (acc.length+1))[acc.length]? =(acc++[ancOf acc o])[acc.length]? :=by rw[h2]
   rw[List.getElem?_take_of_lt ω]at this;rw[ancs,this];simp
  |succ j=>
   have:=h3 j q (by simpa using hq);have e:acc.length+1+j=acc.length+(j+1):=ω;rw[e]at this;exact this
theorem ZdZ(acc:List Nat)(i:Nat):∀(l:List Edge)(s:Nat),(l.foldl (fun s e=>bif Region.binds .any e then s|||2^e.on|||acc.getD e.on 0 else s) s).testBit i=true->
  s.testBit i=true\/∃e,e∈l/\Region.binds .any e=true/\(i=e.on\/(acc.getD e.on 0).testBit i=true)
 | [],s,h=>.inl h
 |e::l,s,h=>by
  rw[List.foldl_cons]at h;rcases ZdZ acc i l _ h with h1|⟨q,h1,h2⟩
  .cases hb:Region.binds .any e with
   |false=>rw[hb]at h1;exact .inl h1
   |true=>
    rw[hb]at h1;simp only[cond_true,Nat.testBit_or,Bool.or_eq_true,Nat.testBit_two_pow,decide_eq_true_eq]at h1;rcases h1 with (h1|h1)|h1
    .exact .inl h1
    .exact .inr ⟨e,mem_cons_self,hb,.inl h1.symm⟩
    .exact .inr ⟨e,mem_cons_self,hb,.inr h1⟩
  .exact .inr ⟨q,mem_cons_of_mem _ h1,h2⟩
theorem Znt{ops:List Oper}{S:Nat->Bool}(hS:∀(j:Nat)(o:Oper),ops[j]? =some o->S j=true->∀e,e∈o.after.toList->Region.binds .any e=true->S e.on=true):
  ∀(j:Nat)(o:Oper),ops[j]? =some o->(∀e,e∈o.after.toList->Region.binds .any e=true->S e.on=true)->∀i,((ancs ops []).getD j 0).testBit i=true->S i=true:=by
 intro j
 induction j using Nat.strongRecOn with
 |_ j ih=>
  intro o ho he i hi;obtain⟨h1,_,h3⟩:=Zi4 ops [];have h4:=h3 j o ho;simp only[List.length_nil,Nat.zero_add]at h1 h4;rw[List.getD_eq_getElem?_getD,h4,Option.getD_some]at hi;unfold ancOf at hi;rcases ZdZ _ i _ 0 hi with h5|⟨e,h5,h6,h7⟩
  .simp at h5
  .have hs:=he e h5 h6;rcases h7 with h7|h7
   .rw[h7];exact hs
   .have hlt:e.on<j/\e.on<ops.length:=by
     rw[List.getD_eq_getElem?_getD]at h7
     cases hq:((ancs ops []).take j)[e.on]? with
     |none=>rw[hq]at h7;simp at h7
     |some q=>
      have:=(gS hq).1;rw[List.length_take,h1]at this;omega
    rw[List.getD_eq_getElem?_getD,List.getElem?_take_of_lt hlt.1,<-List.getD_eq_getElem?_getD]at h7;exact ih e.on hlt.1 ops[e.on] (gE hlt.2) (hS e.on _ (gE hlt.2) hs) i h7
def ord(A:List Nat)(i j:Nat):Bool:=bif Nat.blt i j then Nat.testBit (A.getD j 0) i else Nat.testBit (A.getD i 0) j
def dstIn(d:Option Nat)(l:List Nat):Bool:=
 match d with
 |some t=>memb t l
 |none=>false
def dstSame(d e:Option Nat):Bool:=
 match d,e with
 |some t,some u=>Nat.beq t u
 |_,_=>false
def regOk(ops:List Oper):Bool:=
 let A:=ancs ops [];let n:=ops.length
 (range n).all fun j=>match ops[j]? with
  |some o=>(o.after.toList.all fun e=> !Region.binds .any e||Nat.blt e.on j)&&(range n).all fun i=>Nat.beq i j||match ops[i]? with
   |some q=> !dstSame q.dst o.dst&&(!(dstIn q.dst (tempsOf o)||dstSame q.dst (guardTmp ops o))||ord A i j)
   |none=>true
  |none=>true
def confl(s t:Tr):Bool:=
 (match s.wr with
  |some x=>memb x t.rd||dstSame (some x) t.wr
  |none=>false)||
 (match t.wr with
  |some x=>memb x s.rd
  |none=>false)
def okTr(ops:List Oper)(tr:List Tr):Bool:=
 let A:=ancs ops [];let T:=tr.reverse
 (range T.length).all fun j=>match T[j]? with
  |some t=>(range j).all fun i=>match T[i]? with
   |some s=> !confl s t||Nat.testBit (A.getD j 0) i
   |none=>true
  |none=>true
def codeOk:Code->Bool
 | .region _ ops draw=>match draw with
  |true=>regOk ops.toList
  |false=>true
 | .seq x y=>codeOk x&&codeOk y
 | .cond _ x y=>codeOk x&&codeOk y
 | .block _ x=>codeOk x
 | .loop x=>codeOk x
 |_=>true
structure RegOk(ops:List Oper):Prop where
 edge:∀(j:Nat)(o:Oper),ops[j]? =some o->∀e,e∈o.after.toList->Region.binds .any e=true->e.on<j
 dst:∀(i j:Nat)(q o:Oper)(t:Nat),ops[i]? =some q->ops[j]? =some o->q.dst=some t->o.dst=some t->i=j
 tmp:∀(i j:Nat)(q o:Oper)(t:Nat),ops[i]? =some q->ops[j]? =some o->i≠j->q.dst=some t->(t∈tempsOf o\/guardTmp ops o=some t)->ord (ancs ops []) i j=true
theorem ZsO{ops:List Oper}(h:regOk ops=true):RegOk ops:=by
 have key:∀(j:Nat)(o:Oper),ops[j]? =some o->(∀e,e∈o.after.toList->Region.binds .any e=true->e.on<j)/\
   ∀(i:Nat)(q:Oper),i≠j->ops[i]? =some q->dstSame q.dst o.dst=false/\((dstIn q.dst (tempsOf o)||dstSame q.dst (guardTmp ops o))=true->ord (ancs ops []) i j=true):=by
  intro j o ho;have hj:j<ops.length:=(gS ho).1;have h1:=List.all_eq_true.1 h j (List.mem_range.2 hj);simp only[ho,Bool.and_eq_true,List.all_eq_true,Bool.or_eq_true,Bool.not_eq_true']at h1;refine⟨fun e he hb=>?_,fun i q hij hq=>?_⟩
  .rcases h1.1 e he with h2|h2
   .rw[hb]at h2;simp at h2
   .exact Nat.lt_of_lt_of_le (Nat.lt_succ_self _) (Nat.le_of_ble_eq_true h2)
  .rcases h1.2 i (List.mem_range.2 (gS hq).1) with h2|h2
   .exact absurd (Nat.eq_of_beq_eq_true h2) hij
   .simp only[hq,Bool.and_eq_true,Bool.not_eq_true',Bool.or_eq_true]at h2;refine⟨h2.1,fun h3=>?_⟩;rcases h2.2 with h4|h4
    .rw[h4]at h3;simp at h3
    .exact h4
 refine⟨fun j o ho=>(key j o ho).1,fun i j q o t hq ho h1 h2=>?_,fun i j q o t hq ho hij h1 h2=>?_⟩
 .by_cases e:i=j
  .exact e
  .have:=((key j o ho).2 i q e hq).1;rw[h1,h2]at this;simp[dstSame]at this
 .refine((key j o ho).2 i q hij hq).2 ?_;rw[h1,Bool.or_eq_true];rcases h2 with h2|h2
  .exact .inl (Zbf.2 h2)
  .exact .inr (by rw[h2];simp[dstSame])
def foldE(S:Nat->Bool):List (Oper×Rec)->Env->Env
 | [],env=>env
 |x::L,env=>foldE (fun k=>S (k+1)) L (bif S 0 then putE x.1.dst x.2.v env else env)
def foldM(S:Nat->Bool):List (Oper×Rec)->Mem->Mem
 | [],mem=>mem
 |x::L,mem=>foldM (fun k=>S (k+1)) L (bif S 0 then putM x.2.wr mem else mem)
theorem ZjE{dst:Option Nat}{v:AV}{env:Env}{t:Nat}(h:dst≠some t):putE dst v env t=env t:=by
 cases dst with
 |none=>rfl
 |some d=>exact ZQ _ _ (fun e=>h (by rw[e]))
theorem ZjF{v:AV}{env:Env}{t:Nat}:putE (some t) v env t=v:=Zk _ _ _
theorem ZjC{wr:Option (Nat×Ob)}{mem:Mem}{t:Nat}(h:∀ob,wr≠some (t,ob)):putM wr mem t=mem t:=by
 cases wr with
 |none=>rfl
 |some d=>exact ZQ _ _ (fun e=>h d.2 (by rw[e]))
theorem ZjD{ob:Ob}{mem:Mem}{t:Nat}:putM (some (t,ob)) mem t=ob:=Zk _ _ _
theorem ZaI{t:Nat}:∀(L:List (Oper×Rec))(S S':Nat->Bool)(env env':Env),env t=env' t->(∀(i:Nat)(x:Oper×Rec),L[i]? =some x->x.1.dst=some t->S i=S' i)->foldE S L env t=foldE S' L env' t
 | [],S,S',env,env',h,_=>h
 |x::L,S,S',env,env',h,hs=>by
  refine ZaI L _ _ _ _ ?_ (fun i y hy hd=>hs (i+1) y (by simpa using hy) hd);by_cases e:x.1.dst=some t
  .rw[hs 0 x rfl e]
   cases S' 0 with
   |true=>rw[e];simp only[cond_true,ZjF]
   |false=>exact h
  .have h1:(bif S 0 then putE x.1.dst x.2.v env else env) t=env t:=by cases S 0 with
    |true=>exact ZjE e
    |false=>rfl
   have h2:(bif S' 0 then putE x.1.dst x.2.v env' else env') t=env' t:=by cases S' 0 with
    |true=>exact ZjE e
    |false=>rfl
   rw[h1,h2,h]
theorem ZaH{t:Nat}:∀(L:List (Oper×Rec))(S S':Nat->Bool)(mem mem':Mem),mem t=mem' t->(∀(i:Nat)(x:Oper×Rec)(ob:Ob),L[i]? =some x->x.2.wr=some (t,ob)->S i=S' i)->foldM S L mem t=foldM S' L mem' t
 | [],S,S',mem,mem',h,_=>h
 |x::L,S,S',mem,mem',h,hs=>by
  refine ZaH L _ _ _ _ ?_ (fun i y ob hy hd=>hs (i+1) y ob (by simpa using hy) hd);by_cases e:∃ob,x.2.wr=some (t,ob)
  .obtain⟨ob,e⟩:=e;rw[hs 0 x ob rfl e]
   cases S' 0 with
   |true=>rw[e];simp only[cond_true,ZjD]
   |false=>exact h
  .have e':∀ob,x.2.wr≠some (t,ob):=fun ob h=>e ⟨ob,h⟩;have h1:(bif S 0 then putM x.2.wr mem else mem) t=mem t:=by cases S 0 with
    |true=>exact ZjC e'
    |false=>rfl
   have h2:(bif S' 0 then putM x.2.wr mem' else mem') t=mem' t:=by cases S' 0 with
    |true=>exact ZjC e'
    |false=>rfl
   rw[h1,h2,h]
theorem Zgc{t:Nat}:∀(L:List (Oper×Rec))(S:Nat->Bool)(env:Env)(j:Nat)(x:Oper×Rec),L[j]? =some x->S j=true->x.1.dst=some t->
  (∀(i:Nat)(y:Oper×Rec),j<i->L[i]? =some y->y.1.dst=some t->S i=false)->foldE S L env t=x.2.v
 | [],S,env,j,x,hx,_,_,_=>by simp at hx
 |y::L,S,env,0,x,hx,hj,hd,hl=>by
  simp only[getElem?_cons_zero,Option.some.injEq]at hx;subst hx;rw[foldE,hj];have:=ZaI (t:=t) L (fun k=>S (k+1)) (fun _=>false) (bif true then putE y.1.dst y.2.v env else env) (putE y.1.dst y.2.v env) rfl (fun i z hz hzd=>hl (i+1) z ω (by simpa using hz) hzd);rw[this];have h0:∀(L:List (Oper×Rec))(env:Env),foldE (fun _=>false) L env=env:=by
   intro L
   induction L with
   |nil=>intro env;rfl
   |cons z L ih=>intro env;exact ih env
  rw[h0,hd,ZjF]
 |y::L,S,env,j+1,x,hx,hj,hd,hl=>by
  rw[foldE];exact Zgc L _ _ j x (by simpa using hx) hj hd (fun i z hi hz hzd=>hl (i+1) z ω (by simpa using hz) hzd)
theorem Zgb{t:Nat}{ob:Ob}:∀(L:List (Oper×Rec))(S:Nat->Bool)(mem:Mem)(j:Nat)(x:Oper×Rec),L[j]? =some x->S j=true->x.2.wr=some (t,ob)->
  (∀(i:Nat)(y:Oper×Rec)(ob':Ob),j<i->L[i]? =some y->y.2.wr=some (t,ob')->S i=false)->foldM S L mem t=ob
 | [],S,mem,j,x,hx,_,_,_=>by simp at hx
 |y::L,S,mem,0,x,hx,hj,hd,hl=>by
  simp only[getElem?_cons_zero,Option.some.injEq]at hx;subst hx;rw[foldM,hj];have:=ZaH (t:=t) L (fun k=>S (k+1)) (fun _=>false) (bif true then putM y.2.wr mem else mem) (putM y.2.wr mem) rfl (fun i z ob' hz hzd=>hl (i+1) z ob' ω (by simpa using hz) hzd);rw[this];have h0:∀(L:List (Oper×Rec))(mem:Mem),foldM (fun _=>false) L mem=mem:=by
   intro L
   induction L with
   |nil=>intro mem;rfl
   |cons z L ih=>intro mem;exact ih mem
  rw[h0,hd,ZjD]
 |y::L,S,mem,j+1,x,hx,hj,hd,hl=>by
  rw[foldM];exact Zgb L _ _ j x (by simpa using hx) hj hd (fun i z ob' hi hz hzd=>hl (i+1) z ob' ω (by simpa using hz) hzd)
def Fact(p:Prm)(all:List Oper)(o:Oper)(r:Rec)(env:Env)(mem:Mem):Prop:=
 dstOk p.nt o.dst=true/\((r.skip=true/\guardIs all o env false/\r.v= .tup []/\r.wr=none)\/(r.skip=false/\guardIs all o env true/\StepOf (plan p o env mem) r.v r.wr/\r.rd=rdOf o env))
theorem ZoX{p:Prm}{all:List Oper}{ops:List Oper}{rs:List Rec}{env e:Env}{mem m:Mem}(h:Run p all ops env mem rs e m):
  rs.length=ops.length/\e=foldE (fun _=>true) (ops.zip rs) env/\m=foldM (fun _=>true) (ops.zip rs) mem/\
  ∀(i:Nat)(o:Oper)(r:Rec),(ops.zip rs)[i]? =some (o,r)->Fact p all o r (foldE (fun k=>decide (k<i)) (ops.zip rs) env) (foldM (fun k=>decide (k<i)) (ops.zip rs) mem):=by
 have zero:∀(L:List (Oper×Rec))(env:Env)(mem:Mem),foldE (fun k=>decide (k<0)) L env=env/\foldM (fun k=>decide (k<0)) L mem=mem:=by
  intro L
  induction L with
  |nil=>intro env mem;exact⟨rfl,rfl⟩
  |cons x L ih=>
   intro env mem;have:=ih env mem;simpa[foldE,foldM]using this
 induction h with
 |nil env mem=>exact⟨rfl,rfl,rfl,fun i o r hi=>by simp at hi⟩
 |skip hd hg hr ih=>
  rename_i o rest env mem rs e m;obtain⟨h1,h2,h3,h4⟩:=ih;refine⟨by simp[h1],h2,h3,fun i q r hi=>?_⟩
  cases i with
  |zero=>
   simp only[List.zip_cons_cons,getElem?_cons_zero,Option.some.injEq,Prod.mk.injEq]at hi;obtain⟨rfl,rfl⟩:=hi;rw[(zero _ env mem).1,(zero _ env mem).2];exact⟨hd,.inl ⟨rfl,hg,rfl,rfl⟩⟩
  |succ i=>
   have:=h4 i q r (by simpa using hi);simpa[foldE,foldM,putM]using this
 |step v wr hd hg hs hr ih=>
  rename_i o rest env mem rs e m;obtain⟨h1,h2,h3,h4⟩:=ih;refine⟨by simp[h1],h2,h3,fun i q r hi=>?_⟩
  cases i with
  |zero=>
   simp only[List.zip_cons_cons,getElem?_cons_zero,Option.some.injEq,Prod.mk.injEq]at hi;obtain⟨rfl,rfl⟩:=hi;rw[(zero _ env mem).1,(zero _ env mem).2];exact⟨hd,.inr ⟨rfl,hg,hs,rfl⟩⟩
  |succ i=>
   have:=h4 i q r (by simpa using hi);simpa[foldE,foldM]using this
def cnt(S:Nat->Bool):Nat->Nat
 |0=>0
 |n+1=>cnt S n+(if S n then 0 else 1)
theorem Zrs{S:Nat->Bool}{i:Nat}(hi:S i=false):∀n,(i<n->cnt (fun k=>S k||decide (k=i)) n+1=cnt S n)/\(n<=i->cnt (fun k=>S k||decide (k=i)) n=cnt S n)
 |0=>⟨fun h=>ω,fun _=>rfl⟩
 |n+1=>by
  obtain⟨h1,h2⟩:=Zrs hi n;refine⟨fun h=>?_,fun h=>?_⟩
  .by_cases e:n=i
   .subst e;simp only[cnt,hi,h2 (Nat.le_refl _)];simp
   .have h3:=h1 ω;simp only[cnt,<-h3,e,decide_false,Bool.or_false];omega
  .have e:n≠i:=ω;simp only[cnt,h2 ω,e,decide_false,Bool.or_false]
theorem Zl2{S:Nat->Bool}:∀n,cnt S n=0->∀i,i<n->S i=true
 |0,_,i,hi=>ω
 |n+1,h,i,hi=>by
  simp only[cnt]at h;by_cases e:i=n
  .subst e
   cases hs:S i with
   |true=>rfl
   |false=>rw[hs]at h;simp at h
  .exact Zl2 n ω i ω
theorem Zlf{ops:List Oper}{T:List Tr}(h:okTr ops T.reverse=true){i j:Nat}{s t:Tr}(hs:T[i]? =some s)(ht:T[j]? =some t)(hij:i<j)(hc:confl s t=true):Nat.testBit ((ancs ops []).getD j 0) i=true:=by
 unfold okTr at h;simp only[List.reverse_reverse]at h;have h1:=List.all_eq_true.1 h j (List.mem_range.2 (gS ht).1);simp only[ht]at h1;have h2:=List.all_eq_true.1 h1 i (List.mem_range.2 hij);simp only[hs,hc,Bool.not_true,Bool.false_or]at h2;exact h2
theorem ZoY{p:Prm}{w0:Base}{I0:Nat->Prop}{Q:Exit->Act->World->Prop}(hTB:TBok p.P p.TB)(hG:∀w,Bel w0.K w0.w w->p.G w){ops:List Oper}{rs:List Rec}{env e:Env}{mem m:Mem}
 (hreg:regOk ops=true)(hr:Run p ops ops env mem rs e m)(hok:okTr ops (rs.map Rec.tr).reverse=true){bs:Bs}{a:Act}{w:World}(st:St w0 I0 p.nt env mem bs a w)(hQ:∀bs a w,St w0 I0 p.nt e m bs a w->Q .normal a w):
  wpAny p.P .any ops.toArray Q ops.toArray.size (Array.replicate ops.toArray.size false) a w:=by
 have R:=ZsO hreg;obtain⟨hlen,he,hm,hfact⟩:=ZoX hr;have hL:∀j,j<ops.length->∃o r,ops[j]? =some o/\rs[j]? =some r/\(ops.zip rs)[j]? =some (o,r):=by
  intro j hj;refine⟨ops[j],rs[j],gE hj,gE ω,?_⟩;rw[List.getElem?_zip_eq_some];exact⟨gE hj,gE ω⟩
 have hZ:∀(i:Nat)(x:Oper×Rec),(ops.zip rs)[i]? =some x->ops[i]? =some x.1/\rs[i]? =some x.2:=fun i x hx=>List.getElem?_zip_eq_some.1 hx;have main:∀(fuel:Nat)(listed:Array Bool)(bs:Bs)(a:Act)(w:World),listed.size=ops.length->cnt (fun i=>listed.getD i true) ops.length<=fuel->
   (∀(j:Nat)(o:Oper),ops[j]? =some o->listed.getD j true=true->∀e,e∈o.after.toList->Region.binds .any e=true->listed.getD e.on true=true)->
   St w0 I0 p.nt (foldE (fun i=>listed.getD i true) (ops.zip rs) env) (foldM (fun i=>listed.getD i true) (ops.zip rs) mem) bs a w->wpAny p.P .any ops.toArray Q fuel listed a w:=by
  intro fuel;have hdone:∀(listed:Array Bool)(bs:Bs)(a:Act)(w:World),(∀i,i<ops.length->listed.getD i true=true)->
    St w0 I0 p.nt (foldE (fun i=>listed.getD i true) (ops.zip rs) env) (foldM (fun i=>listed.getD i true) (ops.zip rs) mem) bs a w->Q .normal a w:=by
   intro listed bs a w hall st;have hlt:∀(i:Nat)(x:Oper×Rec),(ops.zip rs)[i]? =some x->listed.getD i true=true:=fun i x hx=>hall i (gS (hZ i x hx).1).1;have e1:foldE (fun i=>listed.getD i true) (ops.zip rs) env=e:=by
    rw[he];funext t;exact ZaI _ _ _ _ _ rfl (fun i x hx _=>hlt i x hx)
   have e2:foldM (fun i=>listed.getD i true) (ops.zip rs) mem=m:=by
    rw[hm];funext t;exact ZaH _ _ _ _ _ rfl (fun i x _ hx _=>hlt i x hx)
   rw[e1,e2]at st;exact hQ bs a w st
  have hready:∀(listed:Array Bool),listed.size=ops.length->∀i,i∈Region.ready .any ops.toArray listed->∃o,ops[i]? =some o/\i<ops.length/\listed.getD i true=false/\∀e,e∈o.after.toList->Region.binds .any e=true->listed.getD e.on true=true:=by
   intro listed hsz i hi;unfold Region.ready at hi;obtain⟨h1,h2⟩:=List.mem_filter.1 hi;have hlt:i<ops.length:=by simpa using h1
   simp only[Bool.and_eq_true,Bool.not_eq_true']at h2;refine⟨ops[i],gE hlt,hlt,h2.1,fun e he hb=>?_⟩;have h3:=h2.2;rw[getElem?_toArray,gE hlt]at h3;simp only[Option.map_some,Option.getD_some]at h3;rw[<-Array.all_toList]at h3;have h4:=List.all_eq_true.1 h3 e he;rw[hb]at h4;simp only[Bool.not_true,Bool.false_or]at h4;by_cases hon:e.on<listed.size
   .simp only[Array.getD,hon,dif_pos]at h4⊢;exact h4
   .simp only[Array.getD,hon,dif_neg,not_false_eq_true]at h4⊢
  have hprog:∀(listed:Array Bool),listed.size=ops.length->Region.ready .any ops.toArray listed= []->∀i,i<ops.length->listed.getD i true=true:=by
   intro listed hsz hnil i
   induction i using Nat.strongRecOn with
   |_ i ih=>
    intro hi
    cases hx:listed.getD i true with
    |true=>rfl
    |false=>
     have:i∈Region.ready .any ops.toArray listed:=by
      unfold Region.ready;refine List.mem_filter.2 ⟨by simpa using hi,?_⟩;simp only[Bool.and_eq_true,Bool.not_eq_true'];refine⟨hx,?_⟩;rw[getElem?_toArray,gE hi];simp only[Option.map_some,Option.getD_some];rw[<-Array.all_toList];refine List.all_eq_true.2 fun e he=>?_
      cases hb:Region.binds .any e with
      |false=>rfl
      |true=>
       have hlt:=R.edge i _ (gE hi) e he hb;have h5:=ih e.on hlt ω;have hon:e.on<listed.size:=ω;simp only[Array.getD,hon,dif_pos]at h5⊢;simp only[Bool.not_true,Bool.false_or];exact h5
     rw[hnil]at this;simp at this
  induction fuel with
  |zero=>
   intro listed bs a w hsz hcnt hcl st;have hall:=Zl2 _ (Nat.le_zero.1 hcnt);refine⟨?_,hdone listed bs a w hall st⟩
   cases hq:Region.ready .any ops.toArray listed with
   |nil=>rfl
   |cons i l=>
    obtain⟨o,_,hlt,h1,_⟩:=hready listed hsz i (by rw[hq];exact mem_cons_self);rw[hall i hlt]at h1;simp at h1
  |succ fuel ih=>
   intro listed bs a w hsz hcnt hcl st;refine⟨fun hnil=>hdone listed bs a w (hprog listed hsz hnil) st,fun j hj=>?_⟩;obtain⟨o,ho,hlt,hjf,hedge⟩:=hready listed hsz j hj;obtain⟨o',r,ho',hrj,hzj⟩:=hL j hlt;rw[ho]at ho';obtain rfl:=sI ho';obtain⟨hd,hcase⟩:=hfact j o r hzj;have hclosed:=Znt (S:=fun i=>listed.getD i true) hcl;have hbefore:∀i,Nat.testBit ((ancs ops []).getD j 0) i=true->listed.getD i true=true:=hclosed j o ho hedge;have hafter:∀(i:Nat)(q:Oper),ops[i]? =some q->Nat.testBit ((ancs ops []).getD i 0) j=true->listed.getD i true=false:=by
    intro i q hq hb
    cases hx:listed.getD i true with
    |false=>rfl
    |true=>
     have h9:listed.getD j true=true:=hclosed i q hq (hcl i q hq hx) j hb;rw[hjf]at h9;simp at h9
   have hE:∀t,(t∈tempsOf o\/guardTmp ops o=some t)->foldE (fun i=>listed.getD i true) (ops.zip rs) env t=foldE (fun k=>decide (k<j)) (ops.zip rs) env t:=by
    intro t ht;refine ZaI _ _ _ _ _ rfl (fun i x hx hxd=>?_);obtain⟨hx1,_⟩:=hZ i x hx;by_cases e:i=j
    .subst e;rw[hjf];simp
    .have h1:=R.tmp i j x.1 o t hx1 ho e hxd ht;unfold ord at h1
     cases hb:Nat.blt i j with
     |true=>
      have hij:i<j:=Nat.lt_of_lt_of_le (Nat.lt_succ_self i) (Nat.le_of_ble_eq_true hb);rw[hb]at h1;rw[hbefore i h1];simp[hij]
     |false=>
      have hij:¬i<j:=fun h=>by
       have:Nat.blt i j=true:=Nat.ble_eq_true_of_le h;rw[this]at hb;simp at hb
      rw[hb]at h1;rw[hafter i x.1 hx1 h1];simp[hij]
   have htr:∀i (q:Rec),rs[i]? =some q->(rs.map Rec.tr)[i]? =some q.tr:=fun i q hq=>by rw[List.getElem?_map,hq];rfl
   have hM:∀x,(x∈r.rd\/∃ob,r.wr=some (x,ob))->∀(i:Nat)(y:Oper×Rec)(ob:Ob),(ops.zip rs)[i]? =some y->y.2.wr=some (x,ob)->i≠j->(listed.getD i true=true↔i<j):=by
    intro x hx i y ob hy hyw hij;obtain⟨hy1,hy2⟩:=hZ i y hy;rcases Nat.lt_or_gt_of_ne hij with h1|h1
    .have hc:confl y.2.tr r.tr=true:=by
      unfold confl;simp only[Rec.tr,hyw,Option.map_some,Bool.or_eq_true];left;rcases hx with hx|⟨ob',hx⟩
      .left;exact Zbf.2 hx
      .right;rw[hx];simp[dstSame]
     have:=Zlf hok (htr i _ hy2) (htr j _ hrj) h1 hc;exact⟨fun _=>h1,fun _=>hbefore i this⟩
    .have hc:confl r.tr y.2.tr=true:=by
      unfold confl;simp only[Rec.tr,hyw,Option.map_some,Bool.or_eq_true];rcases hx with hx|⟨ob',hx⟩
      .right;exact Zbf.2 hx
      .left;rw[hx];simp[dstSame]
     have:=Zlf hok (htr j _ hrj) (htr i _ hy2) h1 hc;have h2:=hafter i y.1 hy1 this;exact⟨fun h=>by rw[h]at h2;simp at h2,fun h=>ω⟩
   have hnext:∀k,(listed.setIfInBounds j true).getD k true=(listed.getD k true||decide (k=j)):=by
    intro k;by_cases e:k=j
    .subst e;have:k<listed.size:=ω;simp[Array.getD,this]
    .simp only[e,decide_false,Bool.or_false,Array.getD,Array.size_setIfInBounds];by_cases hk:k<listed.size
     .simp only[hk,dif_pos];exact Array.getElem_setIfInBounds_ne (by simpa using hk) (Ne.symm e)
     .simp only[hk,dif_neg,not_false_eq_true]
   have hS:(fun k=>(listed.setIfInBounds j true).getD k true)=fun k=>listed.getD k true||decide (k=j):=funext hnext;have hgo:∀(a':Act)(w':World)(bs':Bs),St w0 I0 p.nt (putE o.dst r.v (foldE (fun i=>listed.getD i true) (ops.zip rs) env)) (putM r.wr (foldM (fun i=>listed.getD i true) (ops.zip rs) mem)) bs' a' w'->
     wpAny p.P .any ops.toArray Q fuel (listed.setIfInBounds j true) a' w':=by
    intro a' w' bs' st';refine ih _ bs' a' w' (by simpa using hsz) ?_ ?_ ?_
    .rw[hS];have:=(Zrs (S:=fun k=>listed.getD k true) hjf ops.length).1 hlt;omega
    .intro k q hq hk e' he' hb;rw[hnext]at hk⊢;simp only[Bool.or_eq_true,decide_eq_true_eq]at hk⊢;rcases hk with hk|rfl
     .exact .inl (hcl k q hq hk e' he' hb)
     .rw[ho]at hq;obtain rfl:=sI hq;exact .inl (hedge e' he' hb)
    .rw[hS];have e1:foldE (fun k=>listed.getD k true||decide (k=j)) (ops.zip rs) env=putE o.dst r.v (foldE (fun i=>listed.getD i true) (ops.zip rs) env):=by
      funext t;by_cases e:o.dst=some t
      .rw[e,ZjF];refine Zgc _ _ _ j (o,r) hzj (by simp) e (fun i y hi hy hyd=>?_);have:=R.dst i j y.1 o t (hZ i y hy).1 ho hyd e;omega
      .rw[ZjE e];refine ZaI _ _ _ _ _ rfl (fun i y hy hyd=>?_);have:i≠j:=fun h=>by
        subst h;rw[hzj]at hy;obtain rfl:=sI hy;exact e hyd
       simp[this]
     have e2:foldM (fun k=>listed.getD k true||decide (k=j)) (ops.zip rs) mem=putM r.wr (foldM (fun i=>listed.getD i true) (ops.zip rs) mem):=by
      funext t;by_cases e:∃ob,r.wr=some (t,ob)
      .obtain⟨ob,e⟩:=e;rw[e,ZjD];refine Zgb _ _ _ j (o,r) hzj (by simp) e (fun i y ob' hi hy hyd=>?_);have h1:=hM t (.inr ⟨ob,e⟩) i y ob' hy hyd ω;have h2:listed.getD i true=false:=by
        cases hx:listed.getD i true with
        |false=>rfl
        |true=>have:=h1.1 hx;omega
       have h3:i≠j:=ω;simp[h2,h3]
      .have e':∀ob,r.wr≠some (t,ob):=fun ob h=>e ⟨ob,h⟩;rw[ZjC e'];refine ZaH _ _ _ _ _ rfl (fun i y ob hy hyd=>?_);have:i≠j:=fun h=>by
        subst h;rw[hzj]at hy;obtain rfl:=sI hy;exact e' ob hyd
       simp[this]
     rw[e1,e2];exact st'
   have hguard:∀b,guardIs ops o (foldE (fun k=>decide (k<j)) (ops.zip rs) env) b->guardIs ops o (foldE (fun i=>listed.getD i true) (ops.zip rs) env) b:=by
    intro b hb;unfold guardIs at hb⊢;split at hb
    .rename_i hg;exact hb
    .rename_i g hg;rcases hb with ⟨t,b',h1,h2,h3⟩|⟨t,h1,h2,h3⟩
     .exact .inl ⟨t,b',h1,by rw[hE t (.inr h1)];exact h2,h3⟩
     .exact .inr ⟨t,h1,by rw[hE t (.inr h1)];exact h2,h3⟩
   unfold wpOp;rw[getElem?_toArray,ho];simp only;rcases hcase with ⟨_,hg,hv,hw⟩|⟨_,hg,hs,hrd⟩
   .rw[if_neg (by rw[Zbl st (hguard _ hg)];simp)];refine hgo _ _ bs ?_;rw[hv,hw];exact Zas st hd (x:=undef) ZiT (fun o ho=>by simp[AV.hs]at ho)
   .rw[if_pos (Zbl st (hguard _ hg))];have hplan:plan p o (foldE (fun i=>listed.getD i true) (ops.zip rs) env) (foldM (fun i=>listed.getD i true) (ops.zip rs) mem)=plan p o (foldE (fun k=>decide (k<j)) (ops.zip rs) env) (foldM (fun k=>decide (k<j)) (ops.zip rs) mem):=by
     refine ZmM o (fun t ht=>hE t (.inl ht)) (fun x hx=>?_);have hx':x∈r.rd:=by rw[hrd];exact hx
     refine ZaH _ _ _ _ _ rfl (fun i y ob hy hyd=>?_);by_cases e:i=j
     .subst e;rw[hjf];simp
     .have h1:=hM x (.inl hx') i y ob hy hyd e
      cases hb:listed.getD i true with
      |true=>simp[h1.1 hb]
      |false=>
       have:¬i<j:=fun h=>by rw[h1.2 h]at hb;simp at hb
       simp[this]
    rw[<-hplan]at hs;exact .inl (ZfH hTB (fun w' hb=>hG w' (st.below.trans hb)) st o hd hs fun bs' a' w' st'=>hgo a' w' bs' st')
 refine main _ _ bs a w (by simp) ?_ ?_ ?_
 .have:∀(S:Nat->Bool) n,cnt S n<=n:=by
   intro S n
   induction n with
   |zero=>exact Nat.le_refl _
   |succ n ih=>simp only[cnt];split<;>omega
  simpa using this _ ops.length
 .intro j o ho hj;have hlt:j<ops.length:=(gS ho).1;simp[hlt]at hj
 .have e1:foldE (fun i=>(Array.replicate ops.toArray.size false).getD i true) (ops.zip rs) env=env:=by
   have h0:∀(L:List (Oper×Rec))(env:Env),foldE (fun _=>false) L env=env:=by
    intro L
    induction L with
    |nil=>intro env;rfl
    |cons z L ih=>intro env;exact ih env
   funext t;rw[ZaI (S':=fun _=>false) (env':=env) _ _ _ rfl (fun i x hx _=>by
    have:=(gS (hZ i x hx).1).1;simp[this]),h0]
  have e2:foldM (fun i=>(Array.replicate ops.toArray.size false).getD i true) (ops.zip rs) mem=mem:=by
   have h0:∀(L:List (Oper×Rec))(mem:Mem),foldM (fun _=>false) L mem=mem:=by
    intro L
    induction L with
    |nil=>intro mem;rfl
    |cons z L ih=>intro mem;exact ih mem
   funext t;rw[ZaH (S':=fun _=>false) (mem':=mem) _ _ _ rfl (fun i x ob hx _=>by
    have:=(gS (hZ i x hx).1).1;simp[this]),h0]
  rw[e1,e2];exact st
def mtD:D->D->Prop
 | .v (.slice none 0 0),.list []=>True
 |x,y=>y=x
theorem Zwq{w:World}{I:Nat->Prop}{v:Value}{x y:D}(h:mtD x y)(hd:Den w I v x):Den w I v y:=by
 unfold mtD at h;split at h
 .cases hd
  exact Den.nil none 0
 .subst h;exact hd
def varIs(ob:Ob)(i:Nat)(ds:List D):Prop:=
 match ob with
 | .var _ l=>(l.drop i).take ds.length=ds.map C.d
 |_=>False
theorem Zn0{ob:Ob}{i:Nat}{ds:List D}(h:varIs ob i ds):∃T l,ob= .var T l/\∀(j:Nat)(d:D),ds[j]? =some d->l[i+j]? =some (.d d):=by
 unfold varIs at h;split at h
 .rename_i T l;refine⟨T,l,rfl,fun j d hj=>?_⟩;have hlt:j<ds.length:=(gS hj).1;have h1:((l.drop i).take ds.length)[j]? =(ds.map C.d)[j]? :=by rw[h]
  rw[List.getElem?_take_of_lt hlt,List.getElem?_drop,List.getElem?_map,hj]at h1;exact h1
 .exact h.elim
def mapIs(ob:Ob)(y:D):Prop:=
 match ob with
 | .ext none (.map es clock)=>y= .map es clock
 |_=>False
theorem Ztk{ob:Ob}{y:D}(h:mapIs ob y):∃es clock,ob= .ext none (.map es clock)/\y= .map es clock:=by
 unfold mapIs at h;split at h
 .exact⟨_,_,rfl,h⟩
 .exact h.elim
def mtC(mem mem':Mem):C->C->Prop
 | .d x,.d y=>mtD x y
 | .d x,.row o k=>x= .v (.slice none 0 0)/\(mem o).live=false/\∃T n,mem' o= .row T n k [] true
 | .full xs,.full ys=>ys=xs
 | .full xs,.d y=>y= .list xs
 | .row o k,.row o' k'=>o'=o/\k=(mem o).ver/\k'=(mem' o).ver
 | .row o k,.d y=>∃T n xs own,mem o= .row T n k xs own/\y= .list xs/\(own=false\/(mem' o).mut=false)
 | .rs o k n i,.rs o' k' n' i'=>o'=o/\n'=n/\i'=i/\k=(mem o).ver/\k'=(mem' o).ver
 | .ptr o i,.ptr o' i'=>o'=o/\i'=i
 | .ref a,.ref b=>b=a
 | .mp o,.mp o'=>o'=o
 | .mp o,.d y=>(mem' o).mut=false/\mapIs (mem o) y
 | .ptr o i,.ref ds=>(mem' o).mut=false/\varIs (mem o) i ds
 |_,_=>False
def mtCs(mem mem':Mem):List C->List C->Prop
 | [], []=>True
 |c::cs,d::ds=>mtC mem mem' c d/\mtCs mem mem' cs ds
 |_,_=>False
def mtS(mem mem':Mem):S->S->Prop
 | .one c,.one d=>mtC mem mem' c d
 | .agg cs,.agg ds=>mtCs mem mem' cs ds
 |_,_=>False
def mtSs(mem mem':Mem):List S->List S->Prop
 | [], []=>True
 |c::cs,d::ds=>mtS mem mem' c d/\mtSs mem mem' cs ds
 |_,_=>False
def mtAV(mem mem':Mem):AV->AV->Prop
 |_,.junk=>True
 | .val s,.val t=>mtS mem mem' s t
 | .tup l,.tup m=>mtSs mem mem' l m
 |_,_=>False
def mtO(mem mem':Mem):Ob->Ob->Prop
 |_,.gone=>True
 | .var T cs,.var T' ds=>T'=T/\mtCs mem mem' cs ds
 | .row T n _ xs own,.row T' n' _ ys own'=>T'=T/\n'=n/\ys=xs/\own'=own
 | .gone,.row _ n' _ ys own'=>0<n'/\ys= []/\own'=true
 | .ext lk x,.ext lk' x'=>lk'=lk/\x'=x
 |_,_=>False
def envOf:List (Nat×AV)->Env
 | []=>fun _=>.junk
 |e::r=>fun t=>bif Nat.beq t e.1 then e.2 else envOf r t
def memOf:List (Nat×Ob)->Mem
 | []=>fun _=>.gone
 |e::r=>fun t=>bif Nat.beq t e.1 then e.2 else memOf r t
def hsOk(mem:Mem):List (Nat×Nat)->Bool
 | []=>true
 |h::r=>((mem h.1).live&&Nat.ble h.2 (mem h.1).ver)&&hsOk mem r
def entE(env:Env)(mem mem':Mem):List (Nat×AV)->Prop
 | []=>True
 |e::r=>mtAV mem mem' (env e.1) e.2/\hsOk mem' e.2.hs=true/\entE env mem mem' r
def entM(mem mem':Mem):List (Nat×Ob)->Prop
 | []=>True
 |e::r=>mtO mem mem' (mem e.1) e.2/\hsOk mem' e.2.hs=true/\entM mem mem' r
def entail(env:Env)(mem:Mem)(E:List (Nat×AV))(M:List (Nat×Ob)):Prop:=entE env mem (memOf M) E/\entM mem (memOf M) M
theorem ZqK{mem:Mem}{l:List (Nat×Nat)}(h:hsOk mem l=true):∀o,o∈l->okh mem o:=by
 induction l with
 |nil=>intro o ho;simp at ho
 |cons x r ih=>
  intro o ho;simp only[hsOk,Bool.and_eq_true]at h;rcases List.mem_cons.1 ho with rfl|ho
  .exact⟨h.1.1,Nat.le_of_ble_eq_true h.1.2⟩
  .exact ih h.2 o ho
theorem ZcR(E:List (Nat×AV))(t:Nat):envOf E t= .junk\/∃e,e∈E/\e.1=t/\envOf E t=e.2:=by
 induction E with
 |nil=>exact .inl rfl
 |cons e r ih=>
  simp only[envOf]
  cases h:Nat.beq t e.1 with
  |true=>exact .inr ⟨e,mem_cons_self,(Nat.eq_of_beq_eq_true h).symm,rfl⟩
  |false=>
   rcases ih with h1|⟨q,h1,h2,h3⟩
   .exact .inl h1
   .exact .inr ⟨q,mem_cons_of_mem _ h1,h2,h3⟩
theorem ZjW(M:List (Nat×Ob))(t:Nat):memOf M t= .gone\/∃e,e∈M/\e.1=t/\memOf M t=e.2:=by
 induction M with
 |nil=>exact .inl rfl
 |cons e r ih=>
  simp only[memOf]
  cases h:Nat.beq t e.1 with
  |true=>exact .inr ⟨e,mem_cons_self,(Nat.eq_of_beq_eq_true h).symm,rfl⟩
  |false=>
   rcases ih with h1|⟨q,h1,h2,h3⟩
   .exact .inl h1
   .exact .inr ⟨q,mem_cons_of_mem _ h1,h2,h3⟩
theorem ZlQ{env:Env}{mem mem':Mem}{E:List (Nat×AV)}(h:entE env mem mem' E){e:Nat×AV}(he:e∈E):mtAV mem mem' (env e.1) e.2/\hsOk mem' e.2.hs=true:=by
 induction E with
 |nil=>simp at he
 |cons x r ih=>
  rcases List.mem_cons.1 he with rfl|he
  .exact⟨h.1,h.2.1⟩
  .exact ih h.2.2 he
theorem Zuc{mem mem':Mem}{M:List (Nat×Ob)}(h:entM mem mem' M){e:Nat×Ob}(he:e∈M):mtO mem mem' (mem e.1) e.2/\hsOk mem' e.2.hs=true:=by
 induction M with
 |nil=>simp at he
 |cons x r ih=>
  rcases List.mem_cons.1 he with rfl|he
  .exact⟨h.1,h.2.1⟩
  .exact ih h.2.2 he
theorem Zlj{R:Value->C->Prop}{R':Value->C->Prop}{mem mem':Mem}:∀{cs ds:List C}{l:List Value},mtCs mem mem' cs ds->(∀y c d,c∈cs->mtC mem mem' c d->R y c->R' y d)->Rel2 R l cs->Rel2 R' l ds
 | [], [],l,_,_,r=>⟨r.1,fun j c y hc=>by simp at hc⟩
 |c::cs,d::ds, [],_,_,r=>by have:=r.1;simp at this
 |c::cs,d::ds,y::l,h,hf,r=>by
  obtain⟨r1,r2⟩:=r.of_cons;exact(Zlj h.2 (fun y c d hc=>hf y c d (mem_cons_of_mem _ hc)) r2).cons (hf y c d mem_cons_self h.1 r1)
 | [],_::_,_,h,_,_=>h.elim
 |_::_, [],_,h,_,_=>h.elim
section
variable{p:Prm}{w0:Base}{I0:Nat->Prop}{nt:Shape}{env:Env}{mem:Mem}{bs:Bs}{a:Act}{w:World}
theorem Zx(st:St w0 I0 nt env mem bs a w){E:List (Nat×AV)}{M:List (Nat×Ob)}(h:entail env mem E M):∃bs',St w0 I0 nt (envOf E) (memOf M) bs' a w:=by
 obtain⟨hE,hM⟩:=h;have hob:∀o,mtO mem (memOf M) (mem o) (memOf M o)/\∀q,q∈(memOf M o).hs->okh (memOf M) q:=by
  intro o;rcases ZjW M o with h1|⟨e,he,h2,h3⟩
  .rw[h1];exact⟨by cases mem o<;>trivial,fun q hq=>by simp[Ob.hs]at hq⟩
  .obtain⟨g1,g2⟩:=Zuc hM he;rw[h2]at g1;rw[h3];exact⟨g1,ZqK g2⟩
 have hmut:∀o,(memOf M o).mut=true->(mem o).mut=true\/((mem o).live=false/\∃T n k,memOf M o= .row T n k [] true):=by
  intro o hm;have h1:=(hob o).1
  cases e1:mem o with
  |gone=>
   rw[e1]at h1
   cases e2:memOf M o with
   |gone=>rw[e2]at hm;simp[Ob.mut]at hm
   |var T cs=>rw[e2]at h1;exact h1.elim
   |ext _ _=>rw[e2]at h1;exact h1.elim
   |row T n k xs own=>
    rw[e2]at h1;obtain⟨_,g2,g3⟩:=h1;exact .inr ⟨rfl,T,n,k,by rw[g2,g3]⟩
  |var T cs=>exact .inl rfl
  |ext _ _=>exact .inl rfl
  |row T n k xs own=>
   rw[e1]at h1
   cases e2:memOf M o with
   |gone=>rw[e2]at hm;simp[Ob.mut]at hm
   |var T cs=>rw[e2]at h1;exact h1.elim
   |ext _ _=>rw[e2]at h1;exact h1.elim
   |row T' n' k' xs' own'=>
    rw[e2]at h1 hm;obtain⟨_,_,_,g4⟩:=h1;exact .inl (by rw[<-g4];exact hm)
 let bs':Bs:=fun o=>bif (mem o).live then bs o else .slice none 0 0;have hbs:∀o,(mem o).live=true->bs' o=bs o:=fun o h=>by simp only[bs',h,cond_true]
 have hbs0:∀o,(mem o).live=false->bs' o= .slice none 0 0:=fun o h=>by simp only[bs',h,cond_false]
 have hlive:∀o,(mem o).mut=true->(mem o).live=true:=fun o h=>by cases e:mem o<;>rw[e]at h<;>first|rfl|simp[Ob.mut]at h
 have hblk:∀o b,(memOf M o).mut=true->blk (bs' o)=some b->(mem o).mut=true/\blk (bs o)=some b:=by
  intro o b hm hb;rcases hmut o hm with h1|⟨h1,_⟩
  .rw[hbs o (hlive o h1)]at hb;exact⟨h1,hb⟩
  .rw[hbs0 o h1]at hb;simp[blk]at hb
 have hstay:∀b,Stay w0 I0 mem bs w b->Stay w0 I0 (memOf M) bs' w b:=by
  intro b hs;rcases hs with h1|⟨h1,h2,h3⟩
  .exact .inl h1
  .exact .inr ⟨h1,h2,fun o hm hb=>by obtain⟨g1,g2⟩:=hblk o b hm hb;exact h3 o g1 g2⟩
 have hden:∀{x:Value}{d:D},Den w (Stay w0 I0 mem bs w) x d->Den w (Stay w0 I0 (memOf M) bs' w) x d:=fun h=>Den.mono (fun b hb=>⟨hstay b hb,rfl⟩) h;have hC:∀(y:Value)(c d:C),(∀q,q∈c.hs->okh mem q)->mtC mem (memOf M) c d->DenC w (Stay w0 I0 mem bs w) bs mem y c->DenC w (Stay w0 I0 (memOf M) bs' w) bs' (memOf M) y d:=by
  intro y c d hq hm hd
  cases c with
  |d x=>
   cases d with
   |d z=>exact Zwq hm (hden hd)
   |row o k=>
    obtain⟨h1,h2,T,n,h3⟩:=hm;subst h1;have h4:Den w (Stay w0 I0 mem bs w) y (.v (.slice none 0 0)):=hd;cases h4;exact⟨rfl,fun _ _ _ _ _=>(hbs0 o h2).symm⟩
   |ptr _ _=>exact hm.elim
   |ref _=>exact hm.elim
   |full _=>exact hm.elim
   |rp _ _ _ _ _=>exact hm.elim
   |rs _ _ _ _=>exact hm.elim
   |mp _=>exact hm.elim
  |full xs=>
   cases d with
   |d z=>obtain rfl:z= .list xs:=hm;exact hden hd.1
   |full z=>obtain rfl:z=xs:=hm;exact⟨hden hd.1,hd.2⟩
   |row _ _=>exact hm.elim
   |ptr _ _=>exact hm.elim
   |ref _=>exact hm.elim
   |rp _ _ _ _ _=>exact hm.elim
   |rs _ _ _ _=>exact hm.elim
   |mp _=>exact hm.elim
  |rp o k n i off=>cases d<;>exact hm.elim
  |rs o k n i=>
   have hl:(mem o).live=true:=(hq (o,k) (by simp[C.hs])).1
   cases d with
   |rs o' k' n' i'=>
    obtain⟨rfl,rfl,rfl,h2,h3⟩:=hm;refine⟨hd.1,fun T xs own hrow=>?_⟩;rw[hbs o' hl];have h1:=(hob o').1;rw[hrow]at h1
    cases e:mem o' with
    |gone=>rw[e]at hl;simp[Ob.live]at hl
    |var T' cs=>rw[e]at h1;exact h1.elim
    |ext _ _=>rw[e]at h1;exact h1.elim
    |row T' m v xs' own'=>
     rw[e]at h1 h2;simp only[Ob.ver]at h2;subst h2;obtain⟨_,rfl,_⟩:=h1;exact hd.2 _ _ _ e
   |d _=>exact hm.elim
   |row _ _=>exact hm.elim
   |full _=>exact hm.elim
   |ptr _ _=>exact hm.elim
   |ref _=>exact hm.elim
   |rp _ _ _ _ _=>exact hm.elim
   |mp _=>exact hm.elim
  |mp o=>
   have hl:(mem o).live=true:=(hq (o,0) (by simp[C.hs])).1
   cases d with
   |mp o'=>
    obtain rfl:o'=o:=hm;obtain⟨b,h1,h2⟩:=hd;exact⟨b,by rw[hbs o' hl];exact h1,h2⟩
   |d y0=>
    obtain⟨hmu,hmi⟩:=hm;obtain⟨es,clock,ho,rfl⟩:=Ztk hmi;obtain⟨b,h1,h2⟩:=hd;have hx:=st.obs o;have hmut:(mem o).mut=true:=by rw[ho];rfl
    have hblk0:=hx.block hmut b (by rw[h1];rfl);rw[ho]at hx;obtain⟨b',_,e1,_,_,hb⟩:=hx;rw[h1]at e1;obtain rfl:b=b':=by
     have:=Value.pointer.inj e1;have:=sI this;exact congrArg Addr.block this
    rw[h2];refine Den.map b es clock (.inr ⟨hblk0.1,hblk0.2,fun o' hm' hb'=>?_⟩) hb;obtain⟨g1,g2⟩:=hblk o' b hm' hb';have e2:=st.sep o' o b g1 hmut g2 (by rw[h1];rfl);rw[e2,hmu]at hm';simp at hm'
   |row _ _=>exact hm.elim
   |full _=>exact hm.elim
   |ptr _ _=>exact hm.elim
   |ref _=>exact hm.elim
   |rp _ _ _ _ _=>exact hm.elim
   |rs _ _ _ _=>exact hm.elim
  |row o k=>
   have hl:(mem o).live=true:=(hq (o,k) (by simp[C.hs])).1
   cases d with
   |row o' k'=>
    obtain⟨rfl,h2,h3⟩:=hm;refine⟨hd.1,fun T n xs own hrow=>?_⟩;rw[hbs o' hl];have h1:=(hob o').1;rw[hrow]at h1
    cases e:mem o' with
    |gone=>rw[e]at hl;simp[Ob.live]at hl
    |var T' cs=>rw[e]at h1;exact h1.elim
    |ext _ _=>rw[e]at h1;exact h1.elim
    |row T' n' v xs' own'=>
     rw[e]at h2;simp only[Ob.ver]at h2;subst h2;exact hd.2 _ _ _ _ e
   |d z=>
    obtain⟨T,n,xs,own,h1,rfl,h2⟩:=hm;have hx:y=bs o:=hd.2 _ _ _ _ h1;have hob0:=st.obs o;have hbk:=hob0.block;rw[hx]
    cases own with
    |false=>rw[h1]at hob0;exact hden hob0
    |true=>
     have h2:(memOf M o).mut=false:=h2.resolve_left (by simp);have hmo:(mem o).mut=true:=by rw[h1];rfl
     rw[h1]at hob0;obtain⟨ys,g1,g2,_,g4,g5⟩:=hob0;refine Zpr g1 g2 g4 (fun b hb=>?_) fun i j r d hi hj=>?_
     .have hb':blk (bs o)=some b:=by
       rcases g1.2 with ⟨e1,_⟩|⟨g,cap,cur,e1,_⟩
       .rw[e1]at hb;simp[blk]at hb
       .rw[e1]at hb⊢;exact hb
      have h3:=hbk hmo b hb';refine .inr ⟨h3.1,h3.2,fun o' hm' hb2=>?_⟩;obtain⟨k1,k2⟩:=hblk o' b hm' hb2;have e2:=st.sep o' o b k1 hmo k2 hb';rw[e2,h2]at hm';simp at hm'
     .obtain⟨y,hy,hyd⟩:=g5 i j r d hi hj;exact⟨y,hy,hden hyd⟩
   |full _=>exact hm.elim
   |ptr _ _=>exact hm.elim
   |ref _=>exact hm.elim
   |rp _ _ _ _ _=>exact hm.elim
   |rs _ _ _ _=>exact hm.elim
   |mp _=>exact hm.elim
  |ptr o i=>
   have hl:(mem o).live=true:=(hq (o,0) (by simp[C.hs])).1
   cases d with
   |ptr o' i'=>
    obtain⟨rfl,rfl⟩:=hm;obtain⟨b,h1,h2⟩:=hd;exact⟨b,by rw[hbs o' hl];exact h1,h2⟩
   |ref ds=>
    obtain⟨hm0,hm1⟩:=hm;obtain⟨T,cs,e1,e2⟩:=Zn0 hm1;obtain⟨b,h1,h2⟩:=hd;have h3:=st.obs o;rw[e1]at h3;obtain⟨b',l,g1,g2,g3,g4,g5⟩:=h3;rw[h1]at g1;obtain rfl:b'=b:=by
     have:=Value.pointer.inj g1;have:=sI this;exact(congrArg Addr.block this).symm
    refine⟨b',i,.inr ⟨g2,g3.lt,fun o' hm' hb'=>?_⟩,h2,fun j d hj=>?_⟩
    .obtain⟨k1,k2⟩:=hblk o' b' hm' hb';obtain rfl:=st.sep o' o b' k1 (by rw[e1];rfl) k2 (by rw[h1];rfl);rw[hm0]at hm';exact absurd hm' ωd
    .have hc:=e2 j d hj;have hlt:i+j<l.length:=by rw[g4];exact(gS hc).1
     refine⟨l[i+j],?_,hden (g5 (i+j) _ _ hc (gE hlt))⟩;rw[g3.cell?];exact gE hlt
   |d _=>exact hm.elim
   |row _ _=>exact hm.elim
   |full _=>exact hm.elim
   |rp _ _ _ _ _=>exact hm.elim
   |rs _ _ _ _=>exact hm.elim
   |mp _=>exact hm.elim
  |ref cs=>
   cases d with
   |ref ds=>
    obtain rfl:ds=cs:=hm;obtain⟨b,off,h1,h2,h3⟩:=hd;exact⟨b,off,hstay b h1,h2,fun j d hj=>by obtain⟨z,g1,g2⟩:=h3 j d hj;exact⟨z,g1,hden g2⟩⟩
   |d _=>exact hm.elim
   |row _ _=>exact hm.elim
   |full _=>exact hm.elim
   |ptr _ _=>exact hm.elim
   |rp _ _ _ _ _=>exact hm.elim
   |rs _ _ _ _=>exact hm.elim
   |mp _=>exact hm.elim
 have hCs:∀(cs ds:List C)(l:List Value),(∀c q,c∈cs->q∈c.hs->okh mem q)->mtCs mem (memOf M) cs ds->Rel2 (fun y c=>DenC w (Stay w0 I0 mem bs w) bs mem y c) l cs->Rel2 (fun y c=>DenC w (Stay w0 I0 (memOf M) bs' w) bs' (memOf M) y c) l ds:=by
  intro cs ds l hq hm hr;exact Zlj hm (fun y c d hc=>hC y c d (fun q hqc=>hq c q hc hqc)) hr
 have hS:∀(y:Value)(s t:S),(∀q,q∈s.hs->okh mem q)->mtS mem (memOf M) s t->DenS w (Stay w0 I0 mem bs w) bs mem y s->DenS w (Stay w0 I0 (memOf M) bs' w) bs' (memOf M) y t:=by
  intro y s t hq hm hd
  cases s with
  |one c=>cases t with
   |one d=>exact hC y c d hq hm hd
   |agg _=>exact hm.elim
  |agg cs=>cases t with
   |one d=>exact hm.elim
   |agg ds=>
    obtain⟨l,e,hl,hr⟩:=hd;have:=hCs cs ds l (fun c q hc hqc=>hq q (List.mem_flatMap.2 ⟨c,hc,hqc⟩)) hm ⟨hl,hr⟩;exact⟨l,e,this.1,this.2⟩
 have hSs:∀(ss ts:List S)(l:List Value),(∀c q,c∈ss->q∈c.hs->okh mem q)->mtSs mem (memOf M) ss ts->Rel2 (fun y s=>DenS w (Stay w0 I0 mem bs w) bs mem y s) l ss->Rel2 (fun y s=>DenS w (Stay w0 I0 (memOf M) bs' w) bs' (memOf M) y s) l ts:=by
  intro ss
  induction ss with
  |nil=>
   intro ts l _ hm hr
   cases ts with
   |nil=>exact⟨hr.1,fun j c y hc=>by simp at hc⟩
   |cons _ _=>exact hm.elim
  |cons s ss ih=>
   intro ts l hq hm hr
   cases ts with
   |nil=>exact hm.elim
   |cons t ts=>
    cases l with
    |nil=>have:=hr.1;simp at this
    |cons y l=>
     obtain⟨r1,r2⟩:=hr.of_cons;exact(ih ts l (fun c q hc=>hq c q (mem_cons_of_mem _ hc)) hm.2 r2).cons (hS y s t (fun q hqs=>hq s q mem_cons_self hqs) hm.1 r1)
 refine⟨bs',st.below,st.size,st.defers,?_,?_,?_,?_,?_,st.pin,st.marks.mono fun b h=>⟨⟨hstay b h.1,h.2⟩,rfl⟩⟩
 .intro t;rcases ZcR E t with h1|⟨e,he,h2,h3⟩
  .exact .inl h1
  .obtain⟨g1,g2⟩:=ZlQ hE he;rw[h2]at g1;rw[h3]
   cases hv:e.2 with
   |junk=>exact .inl rfl
   |new _ _ _=>rw[hv]at g1;exact absurd g1 (by cases env t<;>simp[mtAV])
   |val s=>
    rw[hv]at g1
    cases hx:env t with
    |val s'=>
     rw[hx]at g1;rcases st.tmp t with h4|⟨h4,h5⟩
     .rw[hx]at h4;simp at h4
     .rw[hx]at h5;exact .inr ⟨h4,hS _ s' s (fun q hq=>st.henv t q (by rw[hx];exact hq)) g1 h5⟩
    |tup _=>rw[hx]at g1;exact g1.elim
    |junk=>rw[hx]at g1;exact g1.elim
    |new _ _ _=>rw[hx]at g1;exact g1.elim
   |tup l=>
    rw[hv]at g1
    cases hx:env t with
    |tup l'=>
     rw[hx]at g1;rcases st.tmp t with h4|⟨h4,h5⟩
     .rw[hx]at h4;simp at h4
     .rw[hx]at h5;obtain⟨vs,e1,hl,hr⟩:=h5;have:=hSs l' l vs (fun c q hc hqc=>st.henv t q (by rw[hx];exact List.mem_flatMap.2 ⟨c,hc,hqc⟩)) g1 ⟨hl,hr⟩;exact .inr ⟨h4,vs,e1,this.1,this.2⟩
    |val _=>rw[hx]at g1;exact g1.elim
    |junk=>rw[hx]at g1;exact g1.elim
    |new _ _ _=>rw[hx]at g1;exact g1.elim
 .intro o;have h1:=(hob o).1
  cases e2:memOf M o with
  |gone=>trivial
  |var T cs=>
   rw[e2]at h1
   cases e1:mem o with
   |gone=>rw[e1]at h1;exact h1.elim
   |row _ _ _ _ _=>rw[e1]at h1;exact h1.elim
   |ext _ _=>rw[e1]at h1;exact h1.elim
   |var T' cs'=>
    rw[e1]at h1;obtain⟨rfl,h2⟩:=h1;have h3:=st.obs o;rw[e1]at h3;obtain⟨b,l,g1,g2,g3,g4,g5⟩:=h3;have:=hCs cs' cs l (fun c q hc hqc=>st.hmem o q (by rw[e1];exact List.mem_flatMap.2 ⟨c,hc,hqc⟩)) h2 ⟨g4,g5⟩;exact⟨b,l,by rw[hbs o (by rw[e1];rfl)];exact g1,g2,g3,this.1,this.2⟩
  |row T n k xs own=>
   rw[e2]at h1
   cases e1:mem o with
   |gone=>
    rw[e1]at h1;obtain⟨h2,rfl,rfl⟩:=h1;rw[hbs0 o (by rw[e1];rfl)];exact⟨[],Zc8 _ w _ _,h2,by simp,fun r hr=>by simp at hr,fun i j r d hi=>by simp at hi⟩
   |var _ _=>rw[e1]at h1;exact h1.elim
   |ext _ _=>rw[e1]at h1;exact h1.elim
   |row T' n' k' xs' own'=>
    rw[e1]at h1;obtain⟨rfl,rfl,rfl,rfl⟩:=h1;have h3:=st.obs o;rw[e1]at h3;rw[hbs o (by rw[e1];rfl)]
    cases own with
    |true=>
     obtain⟨ys,g1,g2,g3,g4,g5⟩:=h3;exact⟨ys,g1,g2,g3,g4,fun i j r d hi hj=>by obtain⟨y,f1,f2⟩:=g5 i j r d hi hj;exact⟨y,f1,hden f2⟩⟩
    |false=>exact hden h3
  |ext lk x=>
   rw[e2]at h1
   cases e1:mem o with
   |gone=>rw[e1]at h1;exact h1.elim
   |var _ _=>rw[e1]at h1;exact h1.elim
   |row _ _ _ _ _=>rw[e1]at h1;exact h1.elim
   |ext lk' x'=>
    rw[e1]at h1;obtain⟨rfl,rfl⟩:=h1;have h3:=st.obs o;rw[e1]at h3;obtain⟨b,bm,g1,g2,g3,g4⟩:=h3;refine⟨b,bm,by rw[hbs o (by rw[e1];rfl)];exact g1,g2,fun m hm=>?_,g4⟩;have hl:(mem m).live=true:=(st.hmem o (m,0) (by rw[e1,hm];simp[Ob.hs])).1;rw[hbs m hl];exact g3 m hm
 .intro o o' b hm hm' hb hb';obtain⟨g1,g2⟩:=hblk o b hm hb;obtain⟨f1,f2⟩:=hblk o' b hm' hb';exact st.sep o o' b g1 f1 g2 f2
 .intro t o ho;rcases ZcR E t with h1|⟨e,he,h2,h3⟩
  .rw[h1]at ho;simp[AV.hs]at ho
  .rw[h3]at ho;exact ZqK (ZlQ hE he).2 o ho
 .intro q o ho;exact(hob q).2 o ho
end
def spThen(K:Env->Mem->Prop)(Q:Exit->Env->Mem->Prop):Exit->Env->Mem->Prop
 | .normal,env,mem=>K env mem
 |e,env,mem=>Q e env mem
def spBlock(id:Nat)(Q:Exit->Env->Mem->Prop):Exit->Env->Mem->Prop
 | .exit id',env,mem=>bif Nat.beq id' id then Q .normal env mem else Q (.exit id') env mem
 |e,env,mem=>Q e env mem
def spCond(v:AV)(x y:Prop):Prop:=
 match v with
 | .val (.one (.d (.v (.bool b))))=>(b=true->x)/\(b=false->y)
 |_=>False
abbrev Post:=Exit->Env->Mem->Prop
def spLoop(x:Post->Env->Mem->Prop)(Q:Post)(env:Env)(mem:Mem):Prop:=
 ∃(ι:Type)(E:ι->List (Nat×AV))(M:ι->List (Nat×Ob))(R:ι->Prop)(μ:ι->Nat)(i:ι),entail env mem (E i) (M i)/\R i/\
   ∀i,R i->x (spThen (fun env' mem'=>∃j,R j/\μ j<μ i/\entail env' mem' (E j) (M j)) Q) (envOf (E i)) (memOf (M i))
def isMk:List Oper->Bool
 | []=>false
 |o::r=>match o.op with
  | .makeFunc _ _ _=>true
  |_=>isMk r
def wantE(own:List Nat):List Oper->Bool
 | []=>false
 |o::r=>ownT own (o.dst.map (· +1500000))||wantE own r
def spRegion0(p:Prm)(ops:List Oper)(draw:Bool)(Q:Post)(env:Env)(mem:Mem):Prop:=
 match draw with
 |false=>spOps p ops ops [] (fun _ env mem=>Q .normal env mem) env mem
 |true=>spOps p ops ops [] (fun tr env mem=>okTr ops tr=true/\Q .normal env mem) env mem
def spRegion(p:Prm)(ops:List Oper)(draw:Bool)(Q:Post)(env:Env)(mem:Mem):Prop:=
 bif isMk ops||wantE p.own ops then ∃(E:List (Nat×AV))(M:List (Nat×Ob)),entail env mem E M/\spRegion0 p ops draw Q (envOf E) (memOf M) else spRegion0 p ops draw Q env mem
def sp(p:Prm)(c:Code)(Q:Post)(env:Env)(mem:Mem):Prop:=
 @Code.rec (fun _=>Post->Env->Mem->Prop)
  (fun Q env mem=>Q .normal env mem)
  (fun _ ops draw Q env mem=>spRegion p ops.toList draw Q env mem)
  (fun _ _ x y Q env mem=>x (spThen (y Q) Q) env mem)
  (fun c _ _ x y Q env mem=>spCond (opd env c) (x Q env mem) (y Q env mem))
  (fun id _ x Q env mem=>x (spBlock id Q) env mem)
  (fun _ x Q env mem=>spLoop x Q env mem)
  (fun _ _ _ _ _ _ _ _ _=>False)
  (fun id Q env mem=>Q (.exit id) env mem)
  (fun _ _ _ _ _=>False)
  (fun _ _ _ _=>False)
  (fun _ _ _ _=>False)
  (fun Q env mem=>Q .ret env mem)
  (fun _ _ _ _=>False) c Q env mem
def Like(p:Prm)(w0:Base)(I0:Nat->Prop)(Q:Exit->Env->Mem->Prop)(e:Exit)(a:Act)(w:World):Prop:=∃env mem bs,St w0 I0 p.nt env mem bs a w/\Q e env mem
theorem Zc4{p:Prm}{w0:Base}{I0:Nat->Prop}(hTB:TBok p.P p.TB)(hG:∀w,Bel w0.K w0.w w->p.G w)(hmix:p.P.follows .mixedOrders=true):∀(c:Code)(_:codeOk c=true)(Q:Exit->Env->Mem->Prop)(env:Env)(mem:Mem)(bs:Bs)(a:Act)(w:World),
  sp p c Q env mem->St w0 I0 p.nt env mem bs a w->c.wp p.P (Like p w0 I0 Q) a w:=by
 intro c
 induction c with
 |skip=>intro _ Q env mem bs a w h st;exact wp_skip ⟨env,mem,bs,st,h⟩
 |region id ops draw=>
  intro hc Q env mem bs a w h st;have hx:∃env mem bs,spRegion0 p ops.toList draw Q env mem/\St w0 I0 p.nt env mem bs a w:=by
   have h:spRegion p ops.toList draw Q env mem:=h;unfold spRegion at h
   cases hk:(isMk ops.toList||wantE p.own ops.toList) with
   |false=>rw[hk]at h;exact⟨env,mem,bs,h,st⟩
   |true=>
    rw[hk]at h;obtain⟨E,M,he,h⟩:=h;obtain⟨bs',st'⟩:=Zx st he;exact⟨_,_,bs',h,st'⟩
  clear h st;obtain⟨env,mem,bs,h,st⟩:=hx
  cases draw with
  |false=>
   obtain⟨rs,e,m,hr,hk⟩:=ZaM _ _ _ _ h;refine wp_region_list ?_;have:=ZgL (Q:=Like p w0 I0 Q) hTB hG hr st (fun bs a w st'=>⟨e,m,bs,st',hk⟩);simpa using this
  |true=>
   obtain⟨rs,e,m,hr,hok,hk⟩:=ZaM _ _ _ _ h;exact wp_region_any hmix<|ZoY (Q:=Like p w0 I0 Q) hTB hG hc hr (by simpa using hok) st.drew (fun bs a w st'=>⟨e,m,bs,st',hk⟩)
 |seq x y ihx ihy=>
  intro hc Q env mem bs a w h st;simp only[codeOk,Bool.and_eq_true]at hc;refine wp_seq (wp_mono (ihx hc.1 _ env mem bs a w h st) ?_);rintro e a' w' ⟨env',mem',bs',st',hq⟩
  cases e with
  |normal=>exact ihy hc.2 Q env' mem' bs' a' w' hq st'
  |exit id=>exact⟨env',mem',bs',st',hq⟩
  |goto l=>exact⟨env',mem',bs',st',hq⟩
  |ret=>exact⟨env',mem',bs',st',hq⟩
  |panic ch=>exact⟨env',mem',bs',st',hq⟩
  |outgrown=>exact⟨env',mem',bs',st',hq⟩
 |cond c x y ihx ihy=>
  intro hc Q env mem bs a w h st;simp only[codeOk,Bool.and_eq_true]at hc;obtain⟨h1,_⟩:=Zc st (fun _=>.inr rfl) c;have h:spCond (opd env c) (sp p x Q env mem) (sp p y Q env mem):=h;unfold spCond at h;split at h
  .rename_i b hb;rw[hb]at h1;refine wp_cond_split (t:=b) (Zj h1) (fun ht=>ihx hc.1 Q env mem bs a w (h.1 ht) st) (fun ht=>ihy hc.2 Q env mem bs a w (h.2 ht) st)
  .exact h.elim
 |block id x ih=>
  intro hc Q env mem bs a w h st;refine wp_block (wp_mono (ih hc _ env mem bs a w h st) ?_);rintro e a' w' ⟨env',mem',bs',st',hq⟩
  cases e with
  |exit id'=>
   simp only[spBlock]at hq;simp only[Exit.inBlock];by_cases e:id'=id
   .subst e;rw[if_pos rfl];simp only[Nat.beq_refl,cond_true]at hq;exact⟨env',mem',bs',st',hq⟩
   .rw[if_neg e];have:Nat.beq id' id=false:=by
     cases h2:Nat.beq id' id with
     |false=>rfl
     |true=>exact absurd (Nat.eq_of_beq_eq_true h2) e
    simp only[this,cond_false]at hq;exact⟨env',mem',bs',st',hq⟩
  |normal=>exact⟨env',mem',bs',st',hq⟩
  |goto l=>exact⟨env',mem',bs',st',hq⟩
  |ret=>exact⟨env',mem',bs',st',hq⟩
  |panic ch=>exact⟨env',mem',bs',st',hq⟩
  |outgrown=>exact⟨env',mem',bs',st',hq⟩
 |loop x ih=>
  intro hc Q env mem bs a w h st;obtain⟨ι,E,M,R,μ,i,hent,hR,hround⟩:=h;obtain⟨bs',st'⟩:=Zx st hent;refine wp_loop_ghost (fun n a w=>∃i,μ i=n/\R i/\∃bs,St w0 I0 p.nt (envOf (E i)) (memOf (M i)) bs a w) (μ i) ⟨i,rfl,hR,bs',st'⟩ ?_;rintro n a w ⟨i,rfl,hR,bs,st⟩;refine wp_mono (ih hc _ _ _ bs a w (hround i hR) st) ?_;rintro e a' w' ⟨env',mem',bs',st',hq⟩
  cases e with
  |normal=>
   obtain⟨j,h1,h2,h3⟩:=hq;obtain⟨bs'',st''⟩:=Zx st' h3;exact⟨μ j,h2,j,rfl,h1,bs'',st''⟩
  |exit id=>exact⟨env',mem',bs',st',hq⟩
  |goto l=>exact⟨env',mem',bs',st',hq⟩
  |ret=>exact⟨env',mem',bs',st',hq⟩
  |panic ch=>exact⟨env',mem',bs',st',hq⟩
  |outgrown=>exact⟨env',mem',bs',st',hq⟩
 |exit id=>intro _ Q env mem bs a w h st;exact wp_exit ⟨env,mem,bs,st,h⟩
 |ret=>intro _ Q env mem bs a w h st;exact wp_ret ⟨env,mem,bs,st,h⟩
 |rangeFunc f ps az x _ _=>intro _ Q env mem bs a w h;exact h.elim
 |scope x _=>intro _ Q env mem bs a w h;exact h.elim
 |label l=>intro _ Q env mem bs a w h;exact h.elim
 |goto l=>intro _ Q env mem bs a w h;exact h.elim
 |refuse s=>intro _ Q env mem bs a w h;exact h.elim
def resK(p:Prm)(env:Env)(mem:Mem):List ResultVar->(List S->Prop)->Prop
 | [],k=>k []
 | .tmp t::r,k=>argAV mem (env t) (fun v=>match v with
  | .val s=>resK p env mem r (fun l=>k (s::l))
  |_=>False) False
 | .cell t T::r,k=>match look p.TB T with
  |some ty=>match env t with
   | .val (.one (.ptr b off))=>match mem b with
    | .var _ cs=>argCs mem ((cs.drop off).take ty.size) (fun l=>bif Nat.beq l.length ty.size then (match ty.agg with
     |true=>resK p env mem r (fun m=>k (.agg l::m))
     |false=>match l with
      | [c]=>resK p env mem r (fun m=>k (.one c::m))
      |_=>False) else False) False
    |_=>False
   |_=>False
  |none=>False
def tupOf:List S->AV
 | [s]=>.val s
 |l=>.tup l
def RetIs(p:Prm)(rs:List ResultVar)(r:AV):Exit->Env->Mem->Prop
 | .normal,env,mem=>resK p env (frzR env rs mem) rs fun l=>r=tupOf l
 | .ret,env,mem=>resK p env (frzR env rs mem) rs fun l=>r=tupOf l
 |_,_,_=>False
def resF(a:Act):ResultVar->Sem Value
 | .tmp t=>pure (a.tmps.getD t undef)
 | .cell x t=>do loadVar t (<-asAddr (a.tmps.getD x undef))
theorem ZbF{p:Prm}{w0:Base}{I0:Nat->Prop}{env:Env}{mem:Mem}{bs:Bs}{a:Act}{w:World}(hTB:TBok p.P p.TB)(st:St w0 I0 p.nt env mem bs a w):∀(rs:List ResultVar)(k:List S->Prop),resK p env mem rs k->
  ∃l vs,k l/\(∀s,s∈l->s.hs= [])/\(rs.mapM (resF a)).run p.P w= .ok vs w/\Rel2 (fun y s=>DenS w (Stay w0 I0 mem bs w) noBs noMem y s) vs l
 | [],k,h=>⟨[], [],h,fun s hs=>by simp at hs,by simp,Rel2.nil⟩
 | .tmp t::r,k,h=>by
  simp only[resK]at h;rcases Zfn st (fun _=>.inr rfl) (env t) (fun v=>match v with
   | .val s=>resK p env mem r (fun l=>k (s::l))
   |_=>False) False with ⟨v,e,h1,h2⟩|e
  .rw[e]at h;split at h
   .rename_i s;obtain⟨l,vs,g1,g2,g3,g4⟩:=ZbF hTB st r _ h;have hden:DenAV w (Stay w0 I0 mem bs w) noBs noMem (a.tmps.getD t undef) (.val s):=by
     rcases st.tmp t with h3|⟨_,h3⟩
     .rw[h3]at e;simp only[argAV]at e;rw[<-e]at h;exact h.elim
     .exact h2 _ _ _ h3
    refine⟨s::l,a.tmps.getD t undef::vs,g1,fun q hq=>?_,?_,g4.cons hden⟩
    .rcases List.mem_cons.1 hq with rfl|hq
     .exact h1
     .exact g2 q hq
    .rw[List.mapM_cons];simp only[resF,Sem.run_bind,Sem.run_pure,Result.andThen_ok,g3]
   .exact h.elim
  .rw[e]at h;exact h.elim
 | .cell t T::r,k,h=>by
  simp only[resK]at h;split at h
  .rename_i ty hty;obtain⟨i,u,z,hi⟩:=Zr (hTB T ty (Zl hty));split at h
   .rename_i b off hx;split at h
    .rename_i T0 cs hb;rcases st.tmp t with h3|⟨hlt,h3⟩
     .rw[hx]at h3;simp at h3
     rw[hx]at h3;obtain⟨blk,e1,e2⟩:=h3;have hob:=st.obs b;rw[hb]at hob;obtain⟨blk',l,e3,_,hrow,hl,hrel⟩:=hob;rw[e1]at e3;simp only[Value.pointer.injEq,Option.some.injEq,Addr.mk.injEq,and_true]at e3;subst e3;have hR:Rel2 (fun y c=>DenC w (Stay w0 I0 mem bs w) bs mem y c) ((l.drop off).take ty.size) ((cs.drop off).take ty.size):=(Rel2.drop ⟨hl,hrel⟩ off).take ty.size;rcases ZcX st (fun _=>.inr rfl) ((cs.drop off).take ty.size) (fun l=>bif Nat.beq l.length ty.size then (match ty.agg with
      |true=>resK p env mem r (fun m=>k (.agg l::m))
      |false=>match l with
       | [c]=>resK p env mem r (fun m=>k (.one c::m))
       |_=>False) else False) False with ⟨cl,e,h1,h2⟩|e
     .rw[e]at h
      cases hlen:Nat.beq cl.length ty.size with
      |false=>rw[hlen]at h;exact h.elim
      |true=>
       rw[hlen]at h;simp only[cond_true]at h;have hlen':=Nat.eq_of_beq_eq_true hlen;have hR':=h2 _ noBs noMem hR;obtain⟨v,hv,hagg⟩:=ZfP (P:=p.P) (w:=w) hi blk off ((l.drop off).take ty.size) (hR'.1.trans hlen') (fun j y hj=>by
        rw[hrow.cell?];rw[List.getElem?_take]at hj;split at hj
        .simpa using hj
        .simp at hj)
       have hv':(loadVar T ⟨blk,off,none⟩).run p.P w= .ok v w:=by simpa[Instr.loadAt,Instr.sureAddr]using hv
       have fin:∀s:S,s.hs= []->DenS w (Stay w0 I0 mem bs w) noBs noMem v s->resK p env mem r (fun m=>k (s::m))->∃l vs,k l/\(∀s,s∈l->s.hs= [])/\((ResultVar.cell t T::r).mapM (resF a)).run p.P w= .ok vs w/\Rel2 (fun y s=>DenS w (Stay w0 I0 mem bs w) noBs noMem y s) vs l:=by
        intro s hs hd hres;obtain⟨l,vs,g1,g2,g3,g4⟩:=ZbF hTB st r _ hres;refine⟨s::l,v::vs,g1,fun q hq=>?_,?_,g4.cons hd⟩
        .rcases List.mem_cons.1 hq with rfl|hq
         .exact hs
         .exact g2 q hq
        .rw[List.mapM_cons];simp only[resF,e2,asAddr,Sem.run_bind,Sem.run_pure,Result.andThen_ok,hv',g3]
       split at h
       .rename_i ha;rw[ha]at hagg;simp only[if_true]at hagg;exact fin (.agg cl) (List.flatMap_eq_nil_iff.2 fun c hc=>h1 c hc) ⟨_,hagg,hR'.1,hR'.2⟩ h
       .rename_i ha;rw[ha]at hagg;simp only[Bool.false_eq_true,if_false]at hagg;split at h
        .rename_i c;rw[hagg]at hR';exact fin (.one c) (h1 c (by simp)) (hR'.of_cons.1) h
        .exact h.elim
     .rw[e]at h;exact h.elim
    .exact h.elim
   .exact h.elim
  .exact h.elim
theorem ZaC{P:Program}{fn:Func}{rs:List ResultVar}{a:Act}{w:World}{vs:List Value}(hrs:fn.results=⟨rs⟩)(h3:(rs.mapM (resF a)).run P w= .ok vs w):
  (results fn a.tmps).run P w= .ok (if h:vs.length=1 then vs[0] else .tuple vs.toArray) w:=by
 have h6:results fn a.tmps=(do let vs <-Array.mapM (resF a) ⟨rs⟩;pure (if h:vs.size=1 then vs[0] else .tuple vs)):=by
  unfold results;rw[hrs];congr 1
 have h4:(Array.mapM (resF a) (⟨rs⟩:Array ResultVar)).run P w= .ok vs.toArray w:=by
  rw[Array.mapM_eq_mapM_toList];show ((rs.mapM (resF a)).bind (fun l=>Sem.pure l.toArray)).run P w=_;have h5:∀(x:Sem (List Value))(f:List Value->Sem (Array Value)),(x.bind f).run P w=(x >>=f).run P w:=fun _ _=>rfl;rw[h5,Sem.run_bind,h3];rfl
 rw[h6,Sem.run_bind,h4];simp only[Result.andThen_ok];by_cases hl1:vs.length=1
 .simp[hl1]
 .simp[hl1]
def envArgs:Nat->List AV->Env
 |_, []=>fun _=>.junk
 |i,v::r=>fun t=>bif Nat.beq t i then v else envArgs (i+1) r t
theorem ZF:∀(vs:List AV)(i t:Nat),envArgs i vs t= .junk\/(i<=t/\∃v,vs[t-i]? =some v/\envArgs i vs t=v)
 | [],i,t=>.inl rfl
 |v::r,i,t=>by
  simp only[envArgs]
  cases h:Nat.beq t i with
  |true=>
   obtain rfl:=Nat.eq_of_beq_eq_true h;exact .inr ⟨Nat.le_refl _,v,by simp,rfl⟩
  |false=>
   rcases ZF r (i+1) t with h1|⟨h1,v',h2,h3⟩
   .exact .inl h1
   .refine .inr ⟨ω,v',?_,h3⟩;have:t-i=(t-(i+1))+1:=ω;rw[this];simpa using h2
def freeAVs:List AV->Bool
 | []=>true
 |v::r=>(match v.hs with
  | []=>freeAVs r
  |_=>false)
theorem ZaZ{l:List AV}(h:freeAVs l=true):∀v,v∈l->v.hs= []:=by
 induction l with
 |nil=>intro v hv;simp at hv
 |cons x r ih=>
  intro v hv;simp only[freeAVs]at h;split at h
  .rename_i hx;rcases List.mem_cons.1 hv with rfl|hv
   .exact hx
   .exact ih h v hv
  .simp at h
theorem ZeC{p : Prm}{f : FuncId}{fn : Func}{c : Code}(hf : p.P.funcs[f]? = some fn)(hb : fn.body = some c)(hn : (fn.name == "runtime.NumGoroutine") = false)(hnt : fn.ntmps = p.nt.n)(hpn : p.nt.pins = [])(hmk : p.nt.marks = false){rs : List ResultVar}(hrs : fn.results = ⟨rs⟩)
 (hTB:TBok p.P p.TB)(hG:∀w w',p.G w->Below w.heap.size w w'->p.G w')(hmix:p.P.follows .mixedOrders=true)(hc:codeOk c=true){args:List AV}{r:AV}(hargs:freeAVs args=true)(hlen:Nat.ble args.length p.nt.n=true)
 (h:sp p c (RetIs p rs r) (envArgs 0 args) noMem):Spec p.P p.G f args r:=by
 refine⟨Zn hf hb hn,fun w I vs hw hI hrel=> calls_of_wp hf hb ?_⟩;have hlen':=Nat.le_of_ble_eq_true hlen;have hvl:vs.length=args.length:=hrel.1;have hIs:∀b,I b->Stay (Base.all w) I noMem noBs w b:=fun b hb=>.inl ⟨hb,hI b hb⟩;have st:St (Base.all w) I p.nt (envArgs 0 args) noMem noBs { tmps:=vs.toArray++Array.replicate (fn.ntmps-vs.toArray.size) undef,defers:=[] } w:=by
  refine⟨Bel.refl _ _,by simp[hnt];omega,fun _=>rfl,?_,fun o=>trivial,fun o o' b hm=>by simp[noMem,Ob.mut]at hm,?_,fun q o ho=>by simp[noMem,Ob.hs]at ho,fun t ht=>by rw[hpn]at ht;simp at ht,Marks.nil _ _⟩
  .intro t;rcases ZF args 0 t with h1|⟨_,v,h2,h3⟩
   .exact .inl h1
   .simp only[Nat.sub_zero]at h2;have hlt:t<args.length:=(gS h2).1;refine .inr ⟨ω,?_⟩;rw[h3];obtain⟨y,hy,hd⟩:=hrel.get h2;have e:(vs.toArray++Array.replicate (fn.ntmps-vs.toArray.size) undef).getD t undef=y:=by
     rw[Array.getD_eq_getD_getElem?,Array.getElem?_append_left (by simp;omega)];simp[hy]
    rw[e];have K:Keeps w I noBs noMem w (Stay (Base.all w) I noMem noBs w) noBs noMem (fun _=>False):=⟨fun b hb=>⟨hIs b hb,rfl⟩,fun _ _ h=>h.elim,fun _ _ _ _ _ _ h=>h.elim⟩;exact K.av (fun o ho=>by rw[ZaZ hargs v (mG h2)]at ho;simp at ho) hd
  .intro t o ho;rcases ZF args 0 t with h1|⟨_,v,h2,h3⟩
   .rw[h1]at ho;simp[AV.hs]at ho
   .simp only[Nat.sub_zero]at h2;rw[h3,ZaZ hargs v (mG h2)]at ho;simp at ho
 refine wp_mono (Zc4 (w0:=Base.all w) (I0:=I) hTB (fun w' hb=>hG w w' hw hb.to_below) hmix c hc _ _ _ _ _ _ h st) ?_;rintro e a' w' ⟨env',mem',bs',st',hq⟩;have fin:resK p env' (frzR env' rs mem') rs (fun l=>r=tupOf l)->a'.defers= []/\∃v,(results fn a'.tmps).run p.P w'= .ok v w'/\∃x,Ending.returned v= .returned x/\DenAV w' (fun b=>I b\/(w.heap.size<=b/\b<w'.heap.size)) noBs noMem x r/\Below w.heap.size w w':=by
  intro hres;have st1:=St.frzR rs st';generalize frzR env' rs mem'=mem1 at hres st1;obtain⟨l,vs',h1,h2,h3,h4⟩:=ZbF hTB st1 rs _ hres;have hst:∀b,Stay (Base.all w) I mem1 bs' w' b->(I b\/(w.heap.size<=b/\b<w'.heap.size))/\w'.heap[b]? =w'.heap[b]? :=by
   intro b hb;rcases hb with ⟨g1,_⟩|⟨g1,g2,_⟩
   .exact⟨.inl g1,rfl⟩
   .exact⟨.inr ⟨Nat.le_of_not_lt g1,g2⟩,rfl⟩
  have K:Keeps w' (Stay (Base.all w) I mem1 bs' w') noBs noMem w' (fun b=>I b\/(w.heap.size<=b/\b<w'.heap.size)) noBs noMem (fun _=>False):=⟨hst,fun _ _ h=>h.elim,fun _ _ _ _ _ _ h=>h.elim⟩;have hrel:Rel2 (fun y s=>DenS w' (fun b=>I b\/(w.heap.size<=b/\b<w'.heap.size)) noBs noMem y s) vs' l:=h4.mono fun y s hs hd=>K.s (fun o ho=>by rw[h2 s hs]at ho;simp at ho) hd;refine⟨st1.defers hmk,(if h:vs'.length=1 then vs'[0] else .tuple vs'.toArray),?_,_,rfl,?_,st1.below.to_below⟩
  .exact ZaC hrs h3
  .rw[h1]
   match l,vs',hrel with
   | [s], [v],hrel=>exact hrel.of_cons.1
   | [], [],hrel=>exact⟨[],rfl,rfl,fun j s y hs=>by simp at hs⟩
   |s::s'::l,v::v'::vs,hrel=>
    rw[dif_neg (by simp)];exact⟨v::v'::vs,rfl,hrel.1,hrel.2⟩
   | [],_::_,hrel=>have:=hrel.1;simp at this
   | [_], [],hrel=>have:=hrel.1;simp at this
   | [_],_::_::_,hrel=>have:=hrel.1;simp at this
   |_::_::_, [],hrel=>have:=hrel.1;simp at this
   |_::_::_, [_],hrel=>have:=hrel.1;simp at this
 cases e with
 |normal=>exact fin hq
 |ret=>exact fin hq
 |exit id=>exact hq.elim
 |goto l=>exact hq.elim
 |panic ch=>exact hq.elim
 |outgrown=>exact hq.elim
def rowRes(env:Env)(mem:Mem)(rs:List ResultVar)(T n:Nat)(xs:List (List D)):Prop:=
 match rs with
 | [.tmp t]=>match env t with
  | .val (.one (.row o k))=>mem o= .row T n k xs true
  | .val (.one (.d (.v (.slice none 0 0))))=>xs= []/\0<n
  |_=>False
 |_=>False
def RetNew(rs:List ResultVar)(T n:Nat)(xs:List (List D)):Exit->Env->Mem->Prop
 | .normal,env,mem=>rowRes env mem rs T n xs
 | .ret,env,mem=>rowRes env mem rs T n xs
 |_,_,_=>False
theorem Zsq{p : Prm}{f : FuncId}{fn : Func}{c : Code}(hf : p.P.funcs[f]? = some fn)(hb : fn.body = some c)(hn : (fn.name == "runtime.NumGoroutine") = false)(hnt : fn.ntmps = p.nt.n)(hpn : p.nt.pins = [])(hmk : p.nt.marks = false){rs : List ResultVar}(hrs : fn.results = ⟨rs⟩)
 (hTB:TBok p.P p.TB)(hG:∀w w',p.G w->Below w.heap.size w w'->p.G w')(hmix:p.P.follows .mixedOrders=true)(hc:codeOk c=true){args:List AV}{T n:Nat}{xs:List (List D)}(hargs:freeAVs args=true)(hlen:Nat.ble args.length p.nt.n=true)
 (h:sp p c (RetNew rs T n xs) (envArgs 0 args) noMem):SpecR p.P p.G f args T n xs:=by
 refine⟨Zn hf hb hn,fun w I vs hw hI hrel=> calls_of_wp hf hb ?_⟩;have hlen':=Nat.le_of_ble_eq_true hlen;have hvl:vs.length=args.length:=hrel.1;have hIs:∀b,I b->Stay (Base.all w) I noMem noBs w b:=fun b hb=>.inl ⟨hb,hI b hb⟩;have st:St (Base.all w) I p.nt (envArgs 0 args) noMem noBs { tmps:=vs.toArray++Array.replicate (fn.ntmps-vs.toArray.size) undef,defers:=[] } w:=by
  refine⟨Bel.refl _ _,by simp[hnt];omega,fun _=>rfl,?_,fun o=>trivial,fun o o' b hm=>by simp[noMem,Ob.mut]at hm,?_,fun q o ho=>by simp[noMem,Ob.hs]at ho,fun t ht=>by rw[hpn]at ht;simp at ht,Marks.nil _ _⟩
  .intro t;rcases ZF args 0 t with h1|⟨_,v,h2,h3⟩
   .exact .inl h1
   .simp only[Nat.sub_zero]at h2;have hlt:t<args.length:=(gS h2).1;refine .inr ⟨ω,?_⟩;rw[h3];obtain⟨y,hy,hd⟩:=hrel.get h2;have e:(vs.toArray++Array.replicate (fn.ntmps-vs.toArray.size) undef).getD t undef=y:=by
     rw[Array.getD_eq_getD_getElem?,Array.getElem?_append_left (by simp;omega)];simp[hy]
    rw[e];have K:Keeps w I noBs noMem w (Stay (Base.all w) I noMem noBs w) noBs noMem (fun _=>False):=⟨fun b hb=>⟨hIs b hb,rfl⟩,fun _ _ h=>h.elim,fun _ _ _ _ _ _ h=>h.elim⟩;exact K.av (fun o ho=>by rw[ZaZ hargs v (mG h2)]at ho;simp at ho) hd
  .intro t o ho;rcases ZF args 0 t with h1|⟨_,v,h2,h3⟩
   .rw[h1]at ho;simp[AV.hs]at ho
   .simp only[Nat.sub_zero]at h2;rw[h3,ZaZ hargs v (mG h2)]at ho;simp at ho
 refine wp_mono (Zc4 (w0:=Base.all w) (I0:=I) hTB (fun w' hb=>hG w w' hw hb.to_below) hmix c hc _ _ _ _ _ _ h st) ?_;rintro e a' w' ⟨env',mem',bs',st',hq⟩;have fin:rowRes env' mem' rs T n xs->a'.defers= []/\∃v,(results fn a'.tmps).run p.P w'= .ok v w'/\∃x,Ending.returned v= .returned x/\Fresh w I w' x T n xs/\Below w.heap.size w w':=by
  intro hres;unfold rowRes at hres;split at hres
  .rename_i t;have hval:=st'.tmp t;have hrun:∀v:Value,a'.tmps.getD t undef=v->(results fn a'.tmps).run p.P w'= .ok v w':=by
    intro v hv;subst hv;exact ZaC (P:=p.P) (a:=a') (w:=w') (vs:=[a'.tmps.getD t undef]) hrs rfl
   split at hres
   .rename_i o k hv;rcases hval with h1|⟨_,h1⟩
    .rw[hv]at h1;simp at h1
    rw[hv]at h1;have hx:a'.tmps.getD t undef=bs' o:=h1.2 _ _ _ _ hres;have hob:=st'.obs o;rw[hres]at hob;obtain⟨ys,g1,g2,g3,g4,g5⟩:=hob;refine⟨(st'.defers hmk),bs' o,hrun _ hx,_,rfl,⟨ys,g1.all,g2,g3,g4,fun i j r d hi hj=>?_⟩,st'.below.to_below⟩;obtain⟨y,hy,hd⟩:=g5 i j r d hi hj;refine⟨y,hy,Den.mono (fun b hb=>⟨?_,rfl⟩) hd⟩;rcases hb with ⟨h2,h3⟩|⟨h2,h3,h4⟩
    .refine⟨.inl h2,fun hbx=>?_⟩;have hown:(bs' o).ownBlock=some b:=by
      rcases g1.2 with ⟨e,_⟩|⟨g,cap,cur,e,_⟩
      .rw[e]at hbx;simp[blk]at hbx
      .rw[e]at hbx⊢;simpa[blk,Value.ownBlock]using hbx
     exact g1.not hown h3
    .exact⟨.inr ⟨Nat.le_of_not_lt h2,h3⟩,h4 o (by rw[hres];rfl)⟩
   .rename_i hv;obtain⟨rfl,hn0⟩:=hres;rcases hval with h1|⟨_,h1⟩
    .rw[hv]at h1;simp at h1
    rw[hv]at h1;have hx:=Zj h1;exact⟨(st'.defers hmk),_,hrun _ hx,_,rfl,⟨[],World.ownsRow_nil w' _ _ _,hn0,by simp,fun r hr=>by simp at hr,fun i j r d hi=>by simp at hi⟩,st'.below.to_below⟩
   .exact hres.elim
  .exact hres.elim
 cases e with
 |normal=>exact fin hq
 |ret=>exact fin hq
 |exit id=>exact hq.elim
 |goto l=>exact hq.elim
 |panic ch=>exact hq.elim
 |outgrown=>exact hq.elim
def argsT:List AV->Bool
 | []=>true
 |v::r=>(v.hs.all fun h=>Nat.beq h.1 1000&&Nat.beq h.2 0)&&argsT r
theorem Zmd{l:List AV}(h:argsT l=true):∀v,v∈l->∀q,q∈v.hs->q=(1000,0):=by
 induction l with
 |nil=>intro v hv;simp at hv
 |cons a r ih=>
  intro v hv q hq;simp only[argsT,Bool.and_eq_true]at h;rcases List.mem_cons.1 hv with rfl|hv
  .have:=List.all_eq_true.1 h.1 q hq;simp only[Bool.and_eq_true]at this;exact Prod.ext (Nat.eq_of_beq_eq_true this.1) (Nat.eq_of_beq_eq_true this.2)
  .exact ih h.2 v hv q hq
def RetS(p:Prm)(rs:List ResultVar)(r:AV)(i T n:Nat)(ys:List (List D)):Exit->Env->Mem->Prop
 | .normal,env,mem=>resK p env (frzR env rs mem) rs (fun l=>r=tupOf l)/\∃k,env i= .val (.one (.row 1000 k))/\frzR env rs mem 1000= .row T n k ys true
 | .ret,env,mem=>resK p env (frzR env rs mem) rs (fun l=>r=tupOf l)/\∃k,env i= .val (.one (.row 1000 k))/\frzR env rs mem 1000= .row T n k ys true
 |_,_,_=>False
theorem ZxX{i : Nat}{p : Prm}{f : FuncId}{fn : Func}{c : Code}(hf : p.P.funcs[f]? = some fn)(hb : fn.body = some c)(hn : (fn.name == "runtime.NumGoroutine") = false)(hnt : fn.ntmps = p.nt.n)(hpn : p.nt.pins = [i])(hmk : p.nt.marks = false){rs : List ResultVar}(hrs : fn.results = ⟨rs⟩)
 (hTB:TBok p.P p.TB)(hmix:p.P.follows .mixedOrders=true)(hc:codeOk c=true){args:List AV}{T n:Nat}{xs ys:List (List D)}{r:AV}(hargs:argsT args=true)(hlen:Nat.ble args.length p.nt.n=true)
 (hai:args[i]? =some (.val (.one (.row 1000 0))))(h:sp p c (RetS p rs r i T n ys) (envArgs 0 args) (memT T n xs)):SpecS p.P p.G f args T n xs r ys:=by
 refine⟨Zn hf hb hn,fun w I vs x hG hI hob hrel=> calls_of_wp hf hb ?_⟩;have hlen':=Nat.le_of_ble_eq_true hlen;have hvl:vs.length=args.length:=hrel.1;have hIs:∀b,I b->Stay (Base.less w x) I (memT T n xs) (fun _=>x) w b:=fun b hb=>.inl ⟨hb,hI b hb⟩;have h1000:memT T n xs 1000= .row T n 0 xs true:=rfl;have hne:∀o,o≠1000->memT T n xs o= .gone:=fun o ho=>by
  unfold memT
  cases e:Nat.beq o 1000 with
  |true=>exact absurd (Nat.eq_of_beq_eq_true e) ho
  |false=>rfl
 have st:St (Base.less w x) I p.nt (envArgs 0 args) (memT T n xs) (fun _=>x) { tmps:=vs.toArray++Array.replicate (fn.ntmps-vs.toArray.size) undef,defers:=[] } w:=by
  refine⟨Bel.refl _ _,by simp[hnt];omega,fun _=>rfl,?_,fun o=>?_,fun o o' b hm hm' _ _=>?_,?_,fun q o ho=>?_,fun t ht=>?_,Marks.nil _ _⟩
  .intro t;rcases ZF args 0 t with h1|⟨_,v,h2,h3⟩
   .exact .inl h1
   .simp only[Nat.sub_zero]at h2;have hlt:t<args.length:=(gS h2).1;refine .inr ⟨ω,?_⟩;rw[h3];obtain⟨y,hy,hd⟩:=hrel.get h2;have e:(vs.toArray++Array.replicate (fn.ntmps-vs.toArray.size) undef).getD t undef=y:=by
     rw[Array.getD_eq_getD_getElem?,Array.getElem?_append_left (by simp;omega)];simp[hy]
    rw[e];have K:Keeps w I (fun _=>x) (memT T n xs) w (Stay (Base.less w x) I (memT T n xs) (fun _=>x) w) (fun _=>x) (memT T n xs) (fun _=>True):=⟨fun b hb=>⟨hIs b hb,rfl⟩,fun _ _ _ _=>rfl,fun o T1 n1 k1 xs1 own1 _ hm=>⟨T1,xs1,own1,hm,rfl⟩⟩;exact K.av (fun _ _=>trivial) hd
  .by_cases e:o=1000
   .subst e;rw[h1000];obtain⟨cs,g1,g2,g3,g4,g5⟩:=hob;refine⟨cs,g1,g2,g3,g4,fun i j r d hi hj=>?_⟩;obtain⟨y,hy,hd⟩:=g5 i j r d hi hj;exact⟨y,hy,Den.mono (fun b hb=>⟨hIs b hb,rfl⟩) hd⟩
   .rw[hne o e];trivial
  .have e1:o=1000:=Classical.byContradiction fun e=>by rw[hne o e]at hm;simp[Ob.mut]at hm
   have e2:o'=1000:=Classical.byContradiction fun e=>by rw[hne o' e]at hm';simp[Ob.mut]at hm'
   rw[e1,e2]
  .intro t o ho;rcases ZF args 0 t with h1|⟨_,v,h2,h3⟩
   .rw[h1]at ho;simp[AV.hs]at ho
   .simp only[Nat.sub_zero]at h2;rw[h3]at ho;obtain rfl:=Zmd hargs v (mG h2) o ho;exact⟨rfl,Nat.le_refl _⟩
  .by_cases e:q=1000
   .subst e;rw[h1000]at ho;simp[Ob.hs]at ho
   .rw[hne q e]at ho;simp[Ob.hs]at ho
  .rw[hpn]at ht;obtain rfl:t=i:=by simpa using ht
   have hlt:t<args.length:=(gS hai).1;obtain⟨y,hy,hd⟩:=hrel.get hai;have e:(vs.toArray++Array.replicate (fn.ntmps-vs.toArray.size) undef).getD t undef=y:=by
    rw[Array.getD_eq_getD_getElem?,Array.getElem?_append_left (by simp;omega)];simp[hy]
   rw[e];exact hd.2 T n xs true h1000
 refine wp_mono (Zc4 (w0:=Base.less w x) (I0:=I) hTB (fun w' hb=>hG w' hb) hmix c hc _ _ _ _ _ _ h st) ?_;rintro e a' w' ⟨env',mem',bs',st',hq⟩;have fin:resK p env' (frzR env' rs mem') rs (fun l=>r=tupOf l)/\(∃k,env' i= .val (.one (.row 1000 k))/\frzR env' rs mem' 1000= .row T n k ys true)->a'.defers= []/\∃v,(results fn a'.tmps).run p.P w'= .ok v w'/\∃y,Ending.returned v= .returned y/\
   DenAV w' (fun b=>(I b\/(¬(Base.less w x).K b/\b<w'.heap.size))/\blk x≠some b) noBs noMem y r/\ObOk (Base.less w x) w' (fun b=>(I b\/(¬(Base.less w x).K b/\b<w'.heap.size))/\blk x≠some b) noBs noMem x (.row T n 0 ys true)/\Bel (Base.less w x).K w w':=by
  rintro⟨hres,k,hk1,hk2⟩;have st1:=St.frzR rs st';generalize frzR env' rs mem'=mem1 at hres st1 hk2;have hx:bs' 1000=x:=by
   have h1:=st1.tmp i;rw[hk1]at h1;rcases h1 with h1|⟨_,h1⟩
   .simp at h1
   .rw[<-h1.2 _ _ _ _ hk2,st1.pin i (by rw[hpn];exact mem_cons_self)];rfl
  have hob':=st1.obs 1000;rw[hk2]at hob';have hblk:=hob'.block rfl;have hst:∀b,Stay (Base.less w x) I mem1 bs' w' b->((I b\/(¬(Base.less w x).K b/\b<w'.heap.size))/\blk x≠some b)/\w'.heap[b]? =w'.heap[b]? :=by
   intro b hb;rcases hb with ⟨g1,g2⟩|⟨g1,g2,g3⟩
   .exact⟨⟨.inl g1,g2.2⟩,rfl⟩
   .exact⟨⟨.inr ⟨g1,g2⟩,fun hb=>g3 1000 (by rw[hk2];rfl) (by rw[hx];exact hb)⟩,rfl⟩
  obtain⟨l,vs',h1,h2,h3,h4⟩:=ZbF hTB st1 rs _ hres;have K:Keeps w' (Stay (Base.less w x) I mem1 bs' w') noBs noMem w' (fun b=>(I b\/(¬(Base.less w x).K b/\b<w'.heap.size))/\blk x≠some b) noBs noMem (fun _=>False):=⟨hst,fun _ _ h=>h.elim,fun _ _ _ _ _ _ h=>h.elim⟩;have hrel:Rel2 (fun y s=>DenS w' (fun b=>(I b\/(¬(Base.less w x).K b/\b<w'.heap.size))/\blk x≠some b) noBs noMem y s) vs' l:=h4.mono fun y s hs hd=>K.s (fun o ho=>by rw[h2 s hs]at ho;simp at ho) hd;refine⟨st1.defers hmk,(if h:vs'.length=1 then vs'[0] else .tuple vs'.toArray),ZaC hrs h3,_,rfl,?_,?_,st1.below⟩
  .rw[h1]
   match l,vs',hrel with
   | [s], [v],hrel=>exact hrel.of_cons.1
   | [], [],hrel=>exact⟨[],rfl,rfl,fun j s y hs=>by simp at hs⟩
   |s::s'::l,v::v'::vs,hrel=>
    rw[dif_neg (by simp)];exact⟨v::v'::vs,rfl,hrel.1,hrel.2⟩
   | [],_::_,hrel=>have:=hrel.1;simp at this
   | [_], [],hrel=>have:=hrel.1;simp at this
   | [_],_::_::_,hrel=>have:=hrel.1;simp at this
   |_::_::_, [],hrel=>have:=hrel.1;simp at this
   |_::_::_, [_],hrel=>have:=hrel.1;simp at this
  .obtain⟨cs,g1,g2,g3,g4,g5⟩:=hob';rw[hx]at g1;refine⟨cs,g1,g2,g3,g4,fun i j r d hi hj=>?_⟩;obtain⟨y,hy,hd⟩:=g5 i j r d hi hj;exact⟨y,hy,Den.mono hst hd⟩
 cases e with
 |normal=>exact fin hq
 |ret=>exact fin hq
 |exit id=>exact hq.elim
 |goto l=>exact hq.elim
 |panic ch=>exact hq.elim
 |outgrown=>exact hq.elim
def frzMp(mem:Mem):C->C
 | .mp o=>match mem o with
  | .ext none (.map es clock)=>.d (.map es clock)
  |_=>.mp o
 |c=>c
def frzV(mem:Mem):Ob:=
 match mem 1000 with
 | .var T cs=>.var T (cs.map (frzMp mem))
 |ob=>ob
theorem Zw0{mem:Mem}{T:Nat}{ds:List D}(h:frzV mem= .var T (ds.map C.d)):∃cs,mem 1000= .var T cs/\cs.map (frzMp mem)=ds.map C.d:=by
 unfold frzV at h;split at h
 .rename_i T' cs e;simp only[Ob.var.injEq]at h;obtain⟨rfl,h2⟩:=h;exact⟨cs,e,h2⟩
 .rename_i hne;exact absurd h (hne T _)
theorem Zt6{mem:Mem}{c:C}{d:D}(h:frzMp mem c= .d d):c= .d d\/∃o es clock,c= .mp o/\mem o= .ext none (.map es clock)/\d= .map es clock:=by
 unfold frzMp at h;split at h
 .rename_i o;split at h
  .rename_i es clock e;simp only[C.d.injEq]at h;exact .inr ⟨o,es,clock,rfl,e,h.symm⟩
  .simp at h
 .exact .inl h
def RetV(p:Prm)(rs:List ResultVar)(r:AV)(i T:Nat)(ds:List D):Exit->Env->Mem->Prop
 | .normal,env,mem=>resK p env (frzR env rs mem) rs (fun l=>r=tupOf l)/\env i= .val (.one (.ptr 1000 0))/\frzV (frzR env rs mem)= .var T (ds.map C.d)
 | .ret,env,mem=>resK p env (frzR env rs mem) rs (fun l=>r=tupOf l)/\env i= .val (.one (.ptr 1000 0))/\frzV (frzR env rs mem)= .var T (ds.map C.d)
 |_,_,_=>False
