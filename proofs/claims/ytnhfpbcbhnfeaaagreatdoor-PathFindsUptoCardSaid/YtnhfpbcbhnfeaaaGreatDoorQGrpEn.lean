/- Joined by wip/bundle.py: XEngR XEngS XEngU. -/
import Derived.Test.YtnhfpbcbhnfeaaaGreatDoorQEngT
import Derived.Test.YtnhfpbcbhnfeaaaGreatDoorQGrpJ
namespace Go.Proofs.YtnhfpbcbhnfeaaaGreatDoor.eng
open Go.RowKit num mem seg q held ratA ratB ratC ratD ratE vars ratF
def pvs:List C->Option (List Value)
 | []=>some []
 |c::r=>match c with
  | .d (.v x)=>bif flat x then (match pvs r with
   |some l=>some (x::l)
   |none=>none) else none
  |_=>none
def pvS:S->Option Value
 | .one c=>match c with
  | .d (.v x)=>bif flat x then some x else none
  |_=>none
 | .agg cs=>match pvs cs with
  |some l=>some (.agg ⟨l⟩)
  |none=>none
def pvSs:List S->Option (List Value)
 | []=>some []
 |c::r=>match pvS c,pvSs r with
  |some x,some l=>some (x::l)
  |_,_=>none
def pv:AV->Option Value
 | .val s=>pvS s
 | .tup l=>match pvSs l with
  |some l=>some (.tuple ⟨l⟩)
  |none=>none
 | .junk=>none
 | .new _ _ _=>none
def pvl:List AV->Option (List Value)
 | []=>some []
 |c::r=>match pv c,pvl r with
  |some x,some l=>some (x::l)
  |_,_=>none
section
variable{w:World}{I:Nat->Prop}{bs:Bs}{mem:Mem}
theorem ZgU:∀{cs:List C}{l xs:List Value},pvs cs=some l->(Rel2 (fun y c=>DenC w I bs mem y c) xs cs↔xs=l)
 | [],l,xs,h=>by
  simp only[pvs,Option.some.injEq]at h;subst h;exact⟨fun h=>List.eq_nil_of_length_eq_zero h.1,fun h=>by subst h;exact Rel2.nil⟩
 |c::cs,l,xs,h=>by
  simp only[pvs]at h;split at h
  .rename_i x
   cases hf:flat x with
   |false=>rw[hf]at h;simp at h
   |true=>
    rw[hf]at h;simp only[cond_true]at h;split at h
    .rename_i l' hl;obtain rfl:=(sI h).symm;constructor
     .intro hr
      cases xs with
      |nil=>have:=hr.1;simp at this
      |cons y ys=>
       obtain⟨h1,h2⟩:=hr.of_cons;have h1':Den w I y (.v x):=h1;rw[(ZgU hl).1 h2];cases h1';rfl
     .intro hx;subst hx;exact((ZgU hl).2 rfl).cons (Den.v x hf)
    .simp at h
  .simp at h
theorem ZjB{s:S}{v x:Value}(h:pvS s=some v):DenS w I bs mem x s↔x=v:=by
 cases s with
 |one c=>
  simp only[pvS]at h;split at h
  .rename_i y
   cases hf:flat y with
   |false=>rw[hf]at h;simp at h
   |true=>
    rw[hf]at h;obtain rfl:=(sI h).symm;constructor
    .intro hd;have hd':Den w I x (.v v):=hd;cases hd';rfl
    .intro e;subst e;exact Den.v x hf
  .simp at h
 |agg cs=>
  simp only[pvS]at h;split at h
  .rename_i l hl;obtain rfl:=(sI h).symm;constructor
   .rintro⟨xs,rfl,h1,h2⟩;rw[(ZgU hl).1 ⟨h1,h2⟩]
   .intro e;subst e;have:=(ZgU (w:=w) (I:=I) (bs:=bs) (mem:=mem) hl).2 rfl;exact⟨l,rfl,this.1,this.2⟩
  .simp at h
theorem Zej:∀{ss:List S}{l xs:List Value},pvSs ss=some l->(Rel2 (fun y s=>DenS w I bs mem y s) xs ss↔xs=l)
 | [],l,xs,h=>by
  simp only[pvSs,Option.some.injEq]at h;subst h;exact⟨fun h=>List.eq_nil_of_length_eq_zero h.1,fun h=>by subst h;exact Rel2.nil⟩
 |s::ss,l,xs,h=>by
  simp only[pvSs]at h;split at h
  .rename_i x l' hx hl;obtain rfl:=(sI h).symm;constructor
   .intro hr
    cases xs with
    |nil=>have:=hr.1;simp at this
    |cons y ys=>
     obtain⟨h1,h2⟩:=hr.of_cons;rw[(Zej hl).1 h2,(ZjB hx).1 h1]
   .intro e;subst e;exact((Zej hl).2 rfl).cons ((ZjB hx).2 rfl)
  .simp at h
theorem Zid{v:AV}{x y:Value}(h:pv v=some x):DenAV w I bs mem y v↔y=x:=by
 cases v with
 |val s=>exact ZjB h
 |junk=>simp[pv]at h
 |new _ _ _=>simp[pv]at h
 |tup l=>
  simp only[pv]at h;split at h
  .rename_i l' hl;obtain rfl:=(sI h).symm;constructor
   .rintro⟨xs,rfl,h1,h2⟩;rw[(Zej hl).1 ⟨h1,h2⟩]
   .intro e;subst e;have:=(Zej (w:=w) (I:=I) (bs:=bs) (mem:=mem) hl).2 rfl;exact⟨l',rfl,this.1,this.2⟩
  .simp at h
theorem Zk8:∀{vs:List AV}{l xs:List Value},pvl vs=some l->Rel2 (fun y v=>DenAV w I bs mem y v) xs vs->xs=l
 | [],l,xs,h,hr=>by
  simp only[pvl,Option.some.injEq]at h;subst h;exact List.eq_nil_of_length_eq_zero hr.1
 |v::vs,l,xs,h,hr=>by
  simp only[pvl]at h;split at h
  .rename_i x l' hx hl;obtain rfl:=(sI h).symm
   cases xs with
   |nil=>have:=hr.1;simp at this
   |cons y ys=>
    obtain⟨h1,h2⟩:=hr.of_cons;rw[Zk8 hl h2,(Zid hx).1 h1]
  .simp at h
end
theorem Zo{P:Program}{G:World->Prop}{f:FuncId}{args:List AV}{vals:List Value}{r:AV}{x:Value}(he:Enters P f)(ha:pvl args=some vals)(hr:pv r=some x)
 (h:∀w,G w->Calls P f vals.toArray w fun e w'=>e= .returned x/\Below w.heap.size w w'):Spec P G f args r:=by
 refine⟨he,fun w I vs hG _ hrel=>?_⟩;obtain rfl:=Zk8 ha hrel;exact Calls.mono (h w hG) fun e w' ⟨h1,h2⟩=>⟨x,h1,(Zid hr).2 rfl,h2⟩
structure RV where
 s:Bool
 a:ByteArray
 d:ByteArray
def RV.q(x:RV):Rat:=qv x.s x.a x.d
def RV.z(x:RV):Nat:=max x.a.size x.d.size
def cn(q:Rat):RV:=⟨decide (q.num<0),enc q.num.natAbs,enc q.den⟩
theorem cn_q(q:Rat):(cn q).q=q:=Zyb q
theorem cn_z(q:Rat):(cn q).z=qs q:=rfl
abbrev Xb(x:RV):C:=.d (.v (.bool x.s))
abbrev Yb(x:RV):D:=.v (.bool x.s)
abbrev Xs(x:RV):C:=.d (.v (.string x.a))
abbrev Ys(x:RV):D:=.v (.string x.a)
abbrev Xt(x:RV):C:=.d (.v (.string x.d))
abbrev Yt(x:RV):D:=.v (.string x.d)
abbrev X1(x:RV)(t:List C):List C:=Xb x::Xs x::Xt x::t
abbrev Y1(x:RV)(t:List D):List D:=Yb x::Ys x::Yt x::t
abbrev Xl{α:Type}(f:α->List D)(l:List α):AV:=.val (.one (.d (.list (l.map f))))
theorem ωz{P:Prop}(h:P:=by simp only[cn_z];omega):P:=h
theorem ωc{P:Prop}(h:P:=by rw[cn_z];decide+kernel):P:=h
theorem ωn{P:Prop}(h:P:=by rw[cn_z];omega):P:=h
theorem RV.qs_le(x:RV):qs x.q<=max x.z 1:=Zfv x.s x.a x.d
def RV.good(x:RV):Prop:=q.good x.s x.a x.d
instance (x:RV):Decidable x.good:=by unfold RV.good;infer_instance
theorem Zkb(q:Rat):(cn q).good:=ZqR q
theorem RV.good_cn{x:RV}(h:x.good):x=cn x.q:=by
 have:=Zf7 h;obtain⟨h1,h2,h3⟩:=this;cases x;simp only[RV.q,cn,RV.mk.injEq];exact⟨h1,h2,h3⟩
theorem Zzi{p q:Rat}:cn p=cn q↔p=q:=⟨fun h=>by rw[<-cn_q p,h,cn_q],fun h=>by rw[h]⟩
def rat(x:RV):AV:=.val (.agg [.d (.v (.bool x.s)),.d (.v (.string x.a)),.d (.v (.string x.d))])
def int(n:Int):AV:=.val (.one (.d (.v (.int .i64 n))))
def bool(b:Bool):AV:=.val (.one (.d (.v (.bool b))))
theorem Ze2{p:Rat}{u:Bool}{c f:ByteArray}(h:Is p u c f):u=(cn p).s/\c=(cn p).a/\f=(cn p).d:=h
section
variable{K:AV->Prop}
theorem ask{P:Program}{G:World->Prop}{f:FuncId}{args:List AV}{r:AV}(hr:r.hs= [])(h:Spec P G f args r)(k:K r):∃v,(v.hs= []/\Spec P G f args v)/\K v:=⟨r,⟨hr,h⟩,k⟩
theorem ZJ{x:RV}{n:Nat}(h:x.z<=n):x.a.size<=n/\x.d.size<=n:=by unfold RV.z at h;omega
theorem Zpj(x y:RV)(hx:x.z<=4398046511104)(hy:y.z<=4398046511104):Spec Tryz.prog Tab 67 [rat x,rat y] (rat (cn (x.q+y.q))):=by
 obtain⟨h1,h2⟩:=ZJ hx;obtain⟨h3,h4⟩:=ZJ hy;refine Zo (Zn Tryz.func67 rfl rfl) rfl rfl fun w hT=>?_;refine(Zk4 x.s x.a x.d y.s y.a y.d w h1 h2 h3 h4 hT).mono fun e w' ⟨u,c,f,he,hi,hb⟩=>?_;obtain⟨rfl,rfl,rfl⟩:=Ze2 hi;exact⟨he,hb⟩
theorem Zpb(x y:RV)(hx:x.z<=4398046511104)(hy:y.z<=4398046511104):Spec Tryz.prog Tab 54 [rat x,rat y] (rat (cn (x.q-y.q))):=by
 obtain⟨h1,h2⟩:=ZJ hx;obtain⟨h3,h4⟩:=ZJ hy;refine Zo (Zn Tryz.func54 rfl rfl) rfl rfl fun w hT=>?_;refine(ZsS x.s x.a x.d y.s y.a y.d w h1 h2 h3 h4 hT).mono fun e w' ⟨u,c,f,he,hi,hb⟩=>?_;obtain⟨rfl,rfl,rfl⟩:=Ze2 hi;exact⟨he,hb⟩
theorem Zpe(x y:RV)(hx:x.z<=4398046511104)(hy:y.z<=4398046511104):Spec Tryz.prog Tab 56 [rat x,rat y] (rat (cn (x.q*y.q))):=by
 obtain⟨h1,h2⟩:=ZJ hx;obtain⟨h3,h4⟩:=ZJ hy;refine Zo (Zn Tryz.func56 rfl rfl) rfl rfl fun w hT=>?_;refine(ZsU x.s x.a x.d y.s y.a y.d w h1 h2 h3 h4 hT).mono fun e w' ⟨u,c,f,he,hi,hb⟩=>?_;obtain⟨rfl,rfl,rfl⟩:=Ze2 hi;exact⟨he,hb⟩
theorem Zpd(x:RV)(hx:x.z<=4398046511104):Spec Tryz.prog Tab 95 [rat x] (rat (cn (-x.q))):=by
 obtain⟨h1,h2⟩:=ZJ hx;refine Zo (Zn Tryz.func95 rfl rfl) rfl rfl fun w hT=>?_;refine(Zk2 x.s x.a x.d w ω ω hT).mono fun e w' ⟨u,c,f,he,hi,hb⟩=>?_;obtain⟨rfl,rfl,rfl⟩:=Ze2 hi;exact⟨he,hb⟩
theorem ZsT(n:Int)(h1:-9223372036854775808<=n)(h2:n<=9223372036854775807):Spec Tryz.prog Tab 57 [int n] (rat (cn (n:Rat))):=by
 refine Zo (Zn Tryz.func57 rfl rfl) rfl rfl fun w hT=>?_;refine(ZjA n w h1 h2 hT).mono fun e w' ⟨u,c,f,he,hi,hb⟩=>?_;obtain⟨rfl,rfl,rfl⟩:=Ze2 hi;exact⟨he,hb⟩
theorem Zib(x y:RV)(hx:x.z<=4398046511104)(hy:y.z<=4398046511104):Spec Tryz.prog Tab 101 [rat x,rat y] (rat (cn (if cmpQ x.q y.q<=0 then x.q else y.q))):=by
 obtain⟨h1,h2⟩:=ZJ hx;obtain⟨h3,h4⟩:=ZJ hy;refine Zo (Zn Tryz.func101 rfl rfl) rfl rfl fun w hT=>?_;refine(ZsV x.s x.a x.d y.s y.a y.d w h1 h2 h3 h4 hT).mono fun e w' ⟨u,c,f,he,hi,hb⟩=>?_;obtain⟨rfl,rfl,rfl⟩:=Ze2 hi;exact⟨he,hb⟩
theorem Zpf(x y:RV)(hx:x.z<=4398046511104)(hy:y.z<=4398046511104):Spec Tryz.prog Tab 102 [rat x,rat y] (rat (cn (if 0<=cmpQ x.q y.q then x.q else y.q))):=by
 obtain⟨h1,h2⟩:=ZJ hx;obtain⟨h3,h4⟩:=ZJ hy;refine Zo (Zn Tryz.func102 rfl rfl) rfl rfl fun w hT=>?_;refine(ZsW x.s x.a x.d y.s y.a y.d w h1 h2 h3 h4 hT).mono fun e w' ⟨u,c,f,he,hi,hb⟩=>?_;obtain⟨rfl,rfl,rfl⟩:=Ze2 hi;exact⟨he,hb⟩
theorem Zpi(x y:RV)(hx:x.z<=4398046511104)(hy:y.z<=4398046511104):Spec Tryz.prog Tab 50 [rat x,rat y] (int (cmpQ x.q y.q)):=by
 obtain⟨h1,h2⟩:=ZJ hx;obtain⟨h3,h4⟩:=ZJ hy;refine Zo (Zn Tryz.func50 rfl rfl) rfl rfl fun w hT=>?_;exact Zc7 x.s x.a x.d y.s y.a y.d w h1 h2 h3 h4 hT
theorem ZmH(x:RV)(hx:x.z<=4398046511104):Spec Tryz.prog Tab 146 [rat x] (int (sgnQ x.q)):=by
 obtain⟨h1,h2⟩:=ZJ hx;refine Zo (Zn Tryz.func146 rfl rfl) rfl rfl fun w hT=>?_;exact Zpc x.s x.a x.d w ω ω hT
theorem ZmJ(x:RV)(hx:x.z<=4398046511104):Spec Tryz.prog Tab 148 [rat x] (bool (decide x.good)):=by
 obtain⟨h1,h2⟩:=ZJ hx;refine Zo (Zn Tryz.func148 rfl rfl) rfl rfl fun w hT=>?_;exact ZhC x.s x.a x.d w ω ω hT
def z0:RV:=⟨false,⟨#[]⟩,⟨#[]⟩⟩
def quotR(p q:Rat):RV:=if q=0 then z0 else cn (p/q)
def quotE(q:Rat):Int:=if q=0 then 12 else 0
def two(s t:AV):AV:=
 match s,t with
 | .val s,.val t=>.tup [s,t]
 |_,_=>.junk
theorem Zph(x y:RV)(hx:x.z<=4398046511104)(hy:y.z<=4398046511104):Spec Tryz.prog Tab 53 [rat x,rat y] (two (rat (quotR x.q y.q)) (int (quotE y.q))):=by
 obtain⟨h1,h2⟩:=ZJ hx;obtain⟨h3,h4⟩:=ZJ hy;refine Zo (Zn Tryz.func53 rfl rfl) rfl rfl fun w hT=>?_;refine(Zk3 x.s x.a x.d y.s y.a y.d w h1 h2 h3 h4 hT).mono fun e w' ⟨u,c,f,k,he,hi,hb⟩=>⟨he.trans ?_,hb⟩;rcases hi with ⟨h5,rfl,rfl,rfl,rfl⟩|⟨h5,rfl,hi⟩
 .have e0:y.q=0:=h5;simp only[quotR,quotE,if_pos e0,z0]
 .have e0:¬y.q=0:=h5;obtain⟨rfl,rfl,rfl⟩:=Ze2 hi;simp only[quotR,quotE,if_neg e0];rfl
end
def rc(x:RV):List C:=[.d (.v (.bool x.s)),.d (.v (.string x.a)),.d (.v (.string x.d))]
def pair(x y:RV):AV:=.val (.agg [.d (.v (.bool x.s)),.d (.v (.string x.a)),.d (.v (.string x.d)),.d (.v (.bool y.s)),.d (.v (.string y.a)),.d (.v (.string y.d))])
def turn(h:Bool)(x:RV):AV:=.val (.agg [.d (.v (.bool h)),.d (.v (.bool x.s)),.d (.v (.string x.a)),.d (.v (.string x.d))])
def box(x y z t:RV):AV:=.val (.agg [.d (.v (.bool x.s)),.d (.v (.string x.a)),.d (.v (.string x.d)),.d (.v (.bool y.s)),.d (.v (.string y.a)),.d (.v (.string y.d)),.d (.v (.bool z.s)),.d (.v (.string z.a)),.d (.v (.string z.d)),.d (.v (.bool t.s)),.d (.v (.string t.a)),.d (.v (.string t.d))])
def frame(x y:RV)(h:Bool)(z:RV):AV:=.val (.agg [.d (.v (.bool x.s)),.d (.v (.string x.a)),.d (.v (.string x.d)),.d (.v (.bool y.s)),.d (.v (.string y.a)),.d (.v (.string y.d)),.d (.v (.bool h)),.d (.v (.bool z.s)),.d (.v (.string z.a)),.d (.v (.string z.d))])
def cell(x y:Int):AV:=.val (.agg [.d (.v (.int .i64 x)),.d (.v (.int .i64 y))])
theorem RV.ext{x y:RV}(h1:x.s=y.s)(h2:x.a=y.a)(h3:x.d=y.d):x=y:=by cases x;cases y;simp_all
instance:DecidableEq RV:=fun x y=>if h:x.s=y.s/\x.a=y.a/\x.d=y.d then isTrue (RV.ext h.1 h.2.1 h.2.2) else isFalse (fun e=>h (by rw[e];exact⟨rfl,rfl,rfl⟩))
def RV.val(x:RV):Array Value:=#[.bool x.s,.string x.a,.string x.d]
theorem ZrK(a b:ByteArray):a.toList=b.toList↔a=b:=by
 rw[Lib.toList_data,Lib.toList_data];exact⟨fun e=>ZcE e,fun e=>by rw[e]⟩
theorem ZpF(ox oy:Operand)(x:RV)(y:RV)(w:World):(do eqGuard .neq 23 ox oy (.agg #[.bool x.s,.string x.a,.string x.d]) (.agg #[.bool y.s,.string y.a,.string y.d]);binOp .neq 23 (.agg #[.bool x.s,.string x.a,.string x.d]) (.agg #[.bool y.s,.string y.a,.string y.d]):Sem Value).run Tryz.prog w= .ok (.bool (!decide (x=y))) w:=by
 by_cases H:x=y
 .obtain rfl:=H;simp[go_sem]
 .rw[decide_eq_false H];simp[go_sem,ZrK]
  first
   |(intros;intro _;exact H (RV.ext ωs ωs ωs))
   |((repeat' split)<;>first
    |rfl
    |(intros;exact absurd (RV.ext ωs ωs ωs) H)
    |(intros;intro _;exact H (RV.ext ωs ωs ωs)))
theorem Zw2{f : FuncId}{fn : Func}{c : Code}{nt : Nat}(hf : Tryz.prog.funcs[f]? = some fn)(hb : fn.body = some c)(hn : (fn.name == "runtime.NumGoroutine") = false)(hnt : fn.ntmps = nt){rs : List ResultVar}(hrs : fn.results = ⟨rs⟩)
 (hc:codeOk c=true){args:List AV}{r:AV}(hargs:freeAVs args=true)(hlen:Nat.ble args.length nt=true)
 (h:sp (prmOf Tryz.prog nt) c (RetIs (prmOf Tryz.prog nt) rs r) (envArgs 0 args) noMem):Spec Tryz.prog Tab f args r:=
 ZeC (p:=prmOf Tryz.prog nt) hf hb hn hnt rfl rfl hrs Zji (fun _ _ h hb=>h.below hb (Nat.le_refl _)) mixed hc hargs hlen h
theorem Zb{f : FuncId}{fn : Func}{c : Code}{nt : Nat}{rs : List ResultVar}{args : List AV}{r : AV}(hf : Tryz.prog.funcs[f]? = some fn)(hnt : fn.ntmps = nt)(h : sp (prmOf Tryz.prog nt) c (RetIs (prmOf Tryz.prog nt) rs r) (envArgs 0 args) noMem)(hb : fn.body = some c := by exact rfl)(hn : (fn.name == "runtime.NumGoroutine") = false := by exact rfl)(hrs : fn.results = ⟨rs⟩ := by exact rfl)(hc : codeOk c = true := by (kernel_rfl))(hargs : freeAVs args = true := by exact rfl)(hlen : Nat.ble args.length nt = true := by exact rfl) : Spec Tryz.prog Tab f args r :=
 Zw2 hf hb hn hnt hrs hc hargs hlen h
abbrev Ask(f:FuncId)(args:List AV)(K:AV->Prop):Prop:=∃v,CallR Tryz.prog Tab f args v/\K v
theorem use{f:FuncId}{args:List AV}{r:AV}{K:AV->Prop}(h:Spec Tryz.prog Tab f args r)(hr:r.hs= [])(k:K r):Ask f args K:=⟨r,Zl5 hr h,k⟩
theorem use2{f:FuncId}{args:List AV}{r:AV}{K:AV->Prop}(k:K r)(h:Spec Tryz.prog Tab f args r)(hr:r.hs= []):Ask f args K:=use h hr k
theorem useN{f:FuncId}{args:List AV}{T n:Nat}{xs:List (List D)}{K:AV->Prop}(h:SpecR Tryz.prog Tab f args T n xs)(k:K (.new T n xs)):Ask f args K:=⟨.new T n xs,h,k⟩
theorem ZqY{f : FuncId}{fn : Func}{c : Code}{nt : Nat}(hf : Tryz.prog.funcs[f]? = some fn)(hb : fn.body = some c)(hn : (fn.name == "runtime.NumGoroutine") = false)(hnt : fn.ntmps = nt){rs : List ResultVar}(hrs : fn.results = ⟨rs⟩)
 (hc:codeOk c=true){args:List AV}{T n:Nat}{xs:List (List D)}(hargs:freeAVs args=true)(hlen:Nat.ble args.length nt=true)
 (h:sp (prmOf Tryz.prog nt) c (RetNew rs T n xs) (envArgs 0 args) noMem):SpecR Tryz.prog Tab f args T n xs:=
 Zsq (p:=prmOf Tryz.prog nt) hf hb hn hnt rfl rfl hrs Zji (fun _ _ h hb=>h.below hb (Nat.le_refl _)) mixed hc hargs hlen h
theorem ZvA(own : List Nat){f : FuncId}{fn : Func}{c : Code}{nt : Nat}(hf : Tryz.prog.funcs[f]? = some fn)(hb : fn.body = some c)(hn : (fn.name == "runtime.NumGoroutine") = false)(hnt : fn.ntmps = nt){rs : List ResultVar}(hrs : fn.results = ⟨rs⟩)
 (hc:codeOk c=true){args:List AV}{r:AV}(hargs:freeAVs args=true)(hlen:Nat.ble args.length nt=true)
 (h:sp (prmOwn Tryz.prog nt own) c (RetIs (prmOwn Tryz.prog nt own) rs r) (envArgs 0 args) noMem):Spec Tryz.prog Tab f args r:=
 ZeC (p:=prmOwn Tryz.prog nt own) hf hb hn hnt rfl rfl hrs Zji (fun _ _ h hb=>h.below hb (Nat.le_refl _)) mixed hc hargs hlen h
theorem fn_S(i : Nat)(own : List Nat){f : FuncId}{fn : Func}{c : Code}{nt : Nat}(hf : Tryz.prog.funcs[f]? = some fn)(hb : fn.body = some c)(hn : (fn.name == "runtime.NumGoroutine") = false)(hnt : fn.ntmps = nt){rs : List ResultVar}(hrs : fn.results = ⟨rs⟩)
 (hc:codeOk c=true){args:List AV}{T n:Nat}{xs ys:List (List D)}{r:AV}(hargs:argsT args=true)(hlen:Nat.ble args.length nt=true)(hai:args[i]? =some (.val (.one (.row 1000 0))))
 (h:sp (prmL Tryz.prog nt i own) c (RetS (prmL Tryz.prog nt i own) rs r i T n ys) (envArgs 0 args) (memT T n xs)):SpecS Tryz.prog Tab f args T n xs r ys:=
 ZxX (p:=prmL Tryz.prog nt i own) hf hb hn hnt rfl rfl hrs Zji mixed hc hargs hlen hai h
theorem RV.z1(x:RV):qs x.q<=x.z+1:=by have:=x.qs_le;omega
section
variable{x y:RV}{K:AV->Prop}
theorem Zd8(hx:x.z<=4398046511104)(hy:y.z<=4398046511104)(k:∀q,q=x.q+y.q->(cn q).z<=x.z+y.z+3->K (rat (cn q))):Ask 67 [rat x,rat y] K:=
 use (Zpj x y hx hy) rfl (k _ rfl (by have:=ZR x.q y.q;have:=x.z1;have:=y.z1;rw[cn_z];omega))
theorem Zd7(hx:x.z<=4398046511104)(hy:y.z<=4398046511104)(k:∀q,q=x.q-y.q->(cn q).z<=x.z+y.z+3->K (rat (cn q))):Ask 54 [rat x,rat y] K:=
 use (Zpb x y hx hy) rfl (k _ rfl (by have:=Zac x.q y.q;have:=x.z1;have:=y.z1;rw[cn_z];omega))
theorem Zcy(hx:x.z<=4398046511104)(hy:y.z<=4398046511104)(k:∀q,q=x.q*y.q->(cn q).z<=x.z+y.z+2->K (rat (cn q))):Ask 56 [rat x,rat y] K:=
 use (Zpe x y hx hy) rfl (k _ rfl (by have:=ZX x.q y.q;have:=x.z1;have:=y.z1;rw[cn_z];omega))
theorem ZwH(hx:x.z<=4398046511104)(k:∀q,q=-x.q->(cn q).z<=x.z+1->K (rat (cn q))):Ask 95 [rat x] K:=
 use (Zpd x hx) rfl (k _ rfl (by have:=ZbY x.q;have:=x.z1;rw[cn_z];omega))
theorem k_of(n:Int)(h1:-9223372036854775808<=n)(h2:n<=9223372036854775807)(k:∀q,q=(n:Rat)->(cn q).z<=8->K (rat (cn q))):Ask 57 [int n] K:=
 use (ZsT n h1 h2) rfl (k _ rfl (by have:=Zal h1 h2;rw[cn_z];omega))
theorem Zvo(hx:x.z<=4398046511104)(k:∀q,q=x.q->(cn q).z<=x.z+1->K (rat (cn q))):Ask 101 [rat x,rat x] K:=
 use (by have:=Zib x x hx hx;rwa[ite_self]at this) rfl (k _ rfl (by have:=x.z1;rw[cn_z];omega))
theorem Zl4(p q:Rat):cmpQ p q<=0↔p<=q:=by
 unfold cmpQ;by_cases h1:p<q
 .rw[if_pos h1];exact⟨fun _=>Rat.le_of_lt h1,fun _=>ω⟩
 .rw[if_neg h1];by_cases h2:q<p
  .rw[if_pos h2];exact⟨fun h=>ω,fun h=>absurd h2 (Rat.not_lt.2 h)⟩
  .rw[if_neg h2];exact⟨fun _=>Rat.not_lt.1 h2,fun _=>Int.le_refl _⟩
theorem Zrw(p q:Rat):0<=cmpQ p q↔q<=p:=by
 unfold cmpQ;by_cases h1:p<q
 .rw[if_pos h1];exact⟨fun h=>ω,fun h=>absurd h1 (Rat.not_lt.2 h)⟩
 .rw[if_neg h1];by_cases h2:q<p
  .rw[if_pos h2];exact⟨fun _=>Rat.le_of_lt h2,fun _=>ω⟩
  .rw[if_neg h2];exact⟨fun _=>Rat.not_lt.1 h1,fun _=>Int.le_refl _⟩
theorem Zxi(p q:Rat):0<cmpQ p q↔q<p:=by
 have:=Zl4 p q;rw[<-Rat.not_le,<-this];omega
theorem Zxj(p q:Rat):cmpQ p q<0↔p<q:=by
 have:=Zrw p q;rw[<-Rat.not_le,<-this];omega
def minQ(p q:Rat):Rat:=if p<=q then p else q
def maxQ(p q:Rat):Rat:=if q<=p then p else q
theorem Zm7(hx:x.z<=4398046511104)(hy:y.z<=4398046511104)(k:∀q,q=minQ x.q y.q->(cn q).z<=x.z+y.z+1->K (rat (cn q))):Ask 101 [rat x,rat y] K:=
 use (by have:=Zib x y hx hy;simp only[Zl4]at this;exact this) rfl (k _ rfl (by have:=x.z1;have:=y.z1;rw[cn_z];unfold minQ;split<;>omega))
theorem Zm8(hx:x.z<=4398046511104)(hy:y.z<=4398046511104)(k:∀q,q=maxQ x.q y.q->(cn q).z<=x.z+y.z+1->K (rat (cn q))):Ask 102 [rat x,rat y] K:=
 use (by have:=Zpf x y hx hy;simp only[Zrw]at this;exact this) rfl (k _ rfl (by have:=x.z1;have:=y.z1;rw[cn_z];unfold maxQ;split<;>omega))
theorem ZdL(hx:x.z<=4398046511104)(hy:y.z<=4398046511104)(k:∀n,n=cmpQ x.q y.q->K (int n)):Ask 50 [rat x,rat y] K:=
 use (Zpi x y hx hy) rfl (k _ rfl)
theorem Zf2(hx:x.z<=4398046511104)(k:∀n,n=sgnQ x.q->K (int n)):Ask 146 [rat x] K:=
 use (ZmH x hx) rfl (k _ rfl)
theorem Zqq(hx:x.z<=4398046511104)(k:∀b,b=decide x.good->K (bool b)):Ask 148 [rat x] K:=
 use (ZmJ x hx) rfl (k _ rfl)
theorem ZtE(hx:x.z<=4398046511104)(hy:y.z<=4398046511104)(h0:y.q≠0)(k:∀q,q=x.q/y.q->(cn q).z<=x.z+y.z+3->K (two (rat (cn q)) (int 0))):Ask 53 [rat x,rat y] K:=
 use (by have:=Zph x y hx hy;simp only[quotR,quotE,if_neg h0]at this;exact this) rfl (k _ rfl (by have:=ZbZ x.q y.q;have:=x.z1;have:=y.z1;rw[cn_z];omega))
theorem Zlw(hx:x.z<=4398046511104)(k1:x.good->K (bool true))(k0:¬x.good->K (bool false)):Ask 148 [rat x] K:=by
 by_cases h:x.good
 .exact Zqq hx fun b hb=>by rw[hb,decide_eq_true h];exact k1 h
 .exact Zqq hx fun b hb=>by rw[hb,decide_eq_false h];exact k0 h
theorem ZyS(hx:x.z<=4398046511104)(hy:y.z<=4398046511104)(k1:x.q<y.q->K (int (-1)))(k2:x.q=y.q->K (int 0))(k3:y.q<x.q->K (int 1)):Ask 50 [rat x,rat y] K:=by
 refine ZdL hx hy fun n hn=>?_;unfold cmpQ at hn;by_cases h1:x.q<y.q
 .rw[if_pos h1]at hn;rw[hn];exact k1 h1
 .rw[if_neg h1]at hn;by_cases h2:y.q<x.q
  .rw[if_pos h2]at hn;rw[hn];exact k3 h2
  .rw[if_neg h2]at hn;rw[hn];exact k2 (Rat.le_antisymm (Rat.not_lt.1 h2) (Rat.not_lt.1 h1))
theorem ZgJ(q:Rat):q.num<0↔q<0:=by
 rw[<-Rat.not_le,<-Rat.num_nonneg];omega
theorem ZgI(q:Rat):q.num=0↔q=0:=Rat.num_eq_zero
theorem ZkW(q:Rat):0<sgnQ q↔0<q:=by
 unfold sgnQ;by_cases h1:q.num=0
 .rw[if_pos h1];have:=(ZgI _).1 h1;subst this;exact⟨fun h=>ω,fun h=>absurd h (Rat.lt_irrefl)⟩
 .rw[if_neg h1];by_cases h2:q.num<0
  .rw[if_pos h2];exact⟨fun h=>ω,fun h=>absurd h (Rat.not_lt.2 (Rat.le_of_lt ((ZgJ _).1 h2)))⟩
  .rw[if_neg h2];refine⟨fun _=>Rat.not_le.1 fun h=>?_,fun _=>ω⟩;rcases Rat.le_iff_lt_or_eq.1 h with h|h
   .exact h2 ((ZgJ _).2 h)
   .exact h1 ((ZgI _).2 h)
abbrev AskB(op:BinOp)(T:TypeId)(ox oy:Operand)(p q:Value)(K:AV->Prop):Prop:=∃r,(∃v,r=one v/\flat v=true/\∀w,(do eqGuard op T ox oy p q;binOp op T p q:Sem Value).run Tryz.prog w= .ok v w)/\K r
theorem useB{op:BinOp}{T:TypeId}{ox oy:Operand}{p q:Value}{K:AV->Prop}{b:Bool}(h:∀w,(do eqGuard op T ox oy p q;binOp op T p q:Sem Value).run Tryz.prog w= .ok (.bool b) w)(k:K (bool b)):AskB op T ox oy p q K:=
 ⟨_,⟨.bool b,rfl,rfl,h⟩,k⟩
theorem Zj1{ox oy:Operand}{x:RV}{y:RV}(H:x=y)(k:K (bool false)):AskB .neq 23 ox oy (.agg ⟨[.bool x.s,.string x.a,.string x.d]⟩) (.agg ⟨[.bool y.s,.string y.a,.string y.d]⟩) K:=useB (fun w=>by have:=ZpF ox oy x y w;rw[decide_eq_true H]at this;exact this) k
theorem ZeX{ox oy:Operand}{x:RV}{y:RV}(k1:x=y->K (bool false))(k0:¬(x=y)->K (bool true)):AskB .neq 23 ox oy (.agg ⟨[.bool x.s,.string x.a,.string x.d]⟩) (.agg ⟨[.bool y.s,.string y.a,.string y.d]⟩) K:=by
 by_cases H:x=y
 .exact Zj1 H (k1 H)
 .exact useB (fun w=>by have:=ZpF ox oy x y w;rw[decide_eq_false H]at this;exact this) (k0 H)
theorem ZlP(ox oy:Operand)(b c:Bool)(w:World):(do eqGuard .eql 4 ox oy (.bool b) (.bool c);binOp .eql 4 (.bool b) (.bool c):Sem Value).run Tryz.prog w= .ok (.bool (decide (b=c))) w:=by
 have:(do eqGuard .eql 4 ox oy (.bool b) (.bool c);binOp .eql 4 (.bool b) (.bool c):Sem Value).run Tryz.prog w= .ok (.bool (b==c)) w:=by simp[go_sem]
 rw[this];cases b<;>cases c<;>rfl
theorem Zs9(ox oy:Operand)(b c:Bool)(w:World):(do eqGuard .neq 4 ox oy (.bool b) (.bool c);binOp .neq 4 (.bool b) (.bool c):Sem Value).run Tryz.prog w= .ok (.bool (!decide (b=c))) w:=by
 have:(do eqGuard .neq 4 ox oy (.bool b) (.bool c);binOp .neq 4 (.bool b) (.bool c):Sem Value).run Tryz.prog w= .ok (.bool (!(b==c))) w:=by simp[go_sem]
 rw[this];cases b<;>cases c<;>rfl
theorem ZiE{ox oy:Operand}{b c:Bool}(H:b=c)(k:K (bool true)):AskB .eql 4 ox oy (.bool b) (.bool c) K:=useB (fun w=>by have:=ZlP ox oy b c w;rw[decide_eq_true H]at this;exact this) k
theorem ZiF{ox oy:Operand}{b c:Bool}(k1:b=c->K (bool true))(k0:¬b=c->K (bool false)):AskB .eql 4 ox oy (.bool b) (.bool c) K:=by
 by_cases H:b=c
 .exact ZiE H (k1 H)
 .exact useB (fun w=>by have:=ZlP ox oy b c w;rw[decide_eq_false H]at this;exact this) (k0 H)
theorem Zf5{ox oy:Operand}{b c:Bool}(k:∀d,d=(!decide (b=c))->K (bool d)):AskB .neq 4 ox oy (.bool b) (.bool c) K:=useB (fun w=>Zs9 ox oy b c w) (k _ rfl)
end
theorem Zfx{P:Program}{G:World->Prop}{f:FuncId}{args:List AV}{vals:List Value}{r:AV}{x:Value}(h:Spec P G f args r)(hr:pv r=some x){w:World}{I:Nat->Prop}(hG:G w)(hI:∀b,I b->b<w.heap.size)(hrel:Rel2 (fun y v=>DenAV w I noBs noMem y v) vals args):
  Calls P f vals.toArray w fun e w'=>e= .returned x/\Below w.heap.size w w':=
 Calls.mono (h.2 w I vals hG hI hrel) fun e w' ⟨y,he,hd,hb⟩=>⟨by rw[he,(Zid hr).1 hd],hb⟩
theorem Zpm{w:World}{I:Nat->Prop}{bs:Bs}{mem:Mem}:∀{vs:List AV}{l:List Value},pvl vs=some l->Rel2 (fun y v=>DenAV w I bs mem y v) l vs
 | [],l,h=>by simp only[pvl,Option.some.injEq]at h;subst h;exact Rel2.nil
 |v::vs,l,h=>by
  simp only[pvl]at h;split at h
  .rename_i x l' hx hl;obtain rfl:=(sI h).symm;exact(Zpm hl).cons ((Zid hx).2 rfl)
  .simp at h
