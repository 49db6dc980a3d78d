/- Joined by wip/bundle.py: XEngR XEngS XEngU. -/
import Derived.Test.YtcogfmileelkeaaDoorEngT
import Derived.Test.YtcogfmileelkeaaDoorGrpJ
namespace Go.Proofs.YtcogfmileelkeaaDoor.eng
open Go.RowKit num mem seg q held ratA ratB ratC ratD ratE vars ratF
def pvs:List C→Option (List Value)
 | []=>some []
 |c :: r=>match c with
  | .d (.v x)=>bif flat x then (match pvs r with
   |some l=>some (x :: l)
   |none=>none) else none
  |_=>none
def pvS:S→Option Value
 | .one c=>match c with
  | .d (.v x)=>bif flat x then some x else none
  |_=>none
 | .agg cs=>match pvs cs with
  |some l=>some (.agg ⟨l⟩)
  |none=>none
def pvSs:List S→Option (List Value)
 | []=>some []
 |c :: r=>match pvS c,pvSs r with
  |some x,some l=>some (x :: l)
  |_,_=>none
def pv:AV→Option Value
 | .val s=>pvS s
 | .tup l=>match pvSs l with
  |some l=>some (.tuple ⟨l⟩)
  |none=>none
 | .junk=>none
 | .new _ _ _=>none
def pvl:List AV→Option (List Value)
 | []=>some []
 |c :: r=>match pv c,pvl r with
  |some x,some l=>some (x :: l)
  |_,_=>none
section
variable {w : World} {I : Nat → Prop} {bs : Bs} {mem : Mem}
theorem Zdz:∀ {cs:List C} {l xs:List Value},pvs cs=some l→(Rel2 (fun y c=>DenC w I bs mem y c) xs cs↔xs=l)
 | [],l,xs,h=>by
  simp only [pvs,Option.some.injEq] at h
  subst h
  exact⟨fun h=>List.eq_nil_of_length_eq_zero h.1,fun h=>by subst h;exact Rel2.nil⟩
 |c :: cs,l,xs,h=>by
  simp only [pvs] at h
  split at h
  ·rename_i x
   cases hf:flat x with
   |false=>rw [hf] at h;simp at h
   |true=>
    rw [hf] at h
    simp only [cond_true] at h
    split at h
    ·rename_i l' hl
     obtain rfl:=(Option.some.inj h).symm
     constructor
     ·intro hr
      cases xs with
      |nil=>have:=hr.1;simp at this
      |cons y ys=>
       obtain⟨h1,h2⟩:=hr.of_cons
       have h1':Den w I y (.v x):=h1
       rw [(Zdz hl).1 h2]
       cases h1';rfl
     ·intro hx
      subst hx
      exact((Zdz hl).2 rfl).cons (Den.v x hf)
    ·simp at h
  ·simp at h
theorem Ze5 {s:S} {v x:Value} (h:pvS s=some v):DenS w I bs mem x s↔x=v:=by
 cases s with
 |one c=>
  simp only [pvS] at h
  split at h
  ·rename_i y
   cases hf:flat y with
   |false=>rw [hf] at h;simp at h
   |true=>
    rw [hf] at h
    obtain rfl:=(Option.some.inj h).symm
    constructor
    ·intro hd
     have hd':Den w I x (.v v):=hd
     cases hd';rfl
    ·intro e
     subst e
     exact Den.v x hf
  ·simp at h
 |agg cs=>
  simp only [pvS] at h
  split at h
  ·rename_i l hl
   obtain rfl:=(Option.some.inj h).symm
   constructor
   ·rintro⟨xs,rfl,h1,h2⟩
    rw [(Zdz hl).1 ⟨h1,h2⟩]
   ·intro e
    subst e
    have:=(Zdz (w:=w) (I:=I) (bs:=bs) (mem:=mem) hl).2 rfl
    exact⟨l,rfl,this.1,this.2⟩
  ·simp at h
theorem Zb1:∀ {ss:List S} {l xs:List Value},pvSs ss=some l→(Rel2 (fun y s=>DenS w I bs mem y s) xs ss↔xs=l)
 | [],l,xs,h=>by
  simp only [pvSs,Option.some.injEq] at h
  subst h
  exact⟨fun h=>List.eq_nil_of_length_eq_zero h.1,fun h=>by subst h;exact Rel2.nil⟩
 |s :: ss,l,xs,h=>by
  simp only [pvSs] at h
  split at h
  ·rename_i x l' hx hl
   obtain rfl:=(Option.some.inj h).symm
   constructor
   ·intro hr
    cases xs with
    |nil=>have:=hr.1;simp at this
    |cons y ys=>
     obtain⟨h1,h2⟩:=hr.of_cons
     rw [(Zb1 hl).1 h2,(Ze5 hx).1 h1]
   ·intro e
    subst e
    exact((Zb1 hl).2 rfl).cons ((Ze5 hx).2 rfl)
  ·simp at h
theorem Zec {v:AV} {x y:Value} (h:pv v=some x):DenAV w I bs mem y v↔y=x:=by
 cases v with
 |val s=>exact Ze5 h
 |junk=>simp [pv] at h
 |new _ _ _=>simp [pv] at h
 |tup l=>
  simp only [pv] at h
  split at h
  ·rename_i l' hl
   obtain rfl:=(Option.some.inj h).symm
   constructor
   ·rintro⟨xs,rfl,h1,h2⟩
    rw [(Zb1 hl).1 ⟨h1,h2⟩]
   ·intro e
    subst e
    have:=(Zb1 (w:=w) (I:=I) (bs:=bs) (mem:=mem) hl).2 rfl
    exact⟨l',rfl,this.1,this.2⟩
  ·simp at h
theorem ZfO:∀ {vs:List AV} {l xs:List Value},pvl vs=some l→Rel2 (fun y v=>DenAV w I bs mem y v) xs vs→xs=l
 | [],l,xs,h,hr=>by
  simp only [pvl,Option.some.injEq] at h
  subst h
  exact List.eq_nil_of_length_eq_zero hr.1
 |v :: vs,l,xs,h,hr=>by
  simp only [pvl] at h
  split at h
  ·rename_i x l' hx hl
   obtain rfl:=(Option.some.inj h).symm
   cases xs with
   |nil=>have:=hr.1;simp at this
   |cons y ys=>
    obtain⟨h1,h2⟩:=hr.of_cons
    rw [ZfO hl h2,(Zec hx).1 h1]
  ·simp at h
end
theorem ZX {P:Program} {G:World→Prop} {f:FuncId} {args:List AV} {vals:List Value} {r:AV} {x:Value} (he:Enters P f) (ha:pvl args=some vals) (hr:pv r=some x)
  (h:∀ w,G w→Calls P f vals.toArray w fun e w'=>e= .returned x∧Below w.heap.size w w'):Spec P G f args r:=by
 refine⟨he,fun w I vs hG _ hrel=> ?_⟩
 obtain rfl:=ZfO ha hrel
 exact Calls.mono (h w hG) fun e w' ⟨h1,h2⟩=>⟨x,h1,(Zec hr).2 rfl,h2⟩
structure RV where
 s:Bool
 a:ByteArray
 d:ByteArray
def RV.q (x:RV):Rat:=qv x.s x.a x.d
def RV.z (x:RV):Nat:=max x.a.size x.d.size
def cn (q:Rat):RV:=⟨decide (q.num< 0),enc q.num.natAbs,enc q.den⟩
theorem cn_q (q:Rat):(cn q).q=q:=ZkR q
theorem cn_z (q:Rat):(cn q).z=qs q:=rfl
theorem RV.qs_le (x:RV):qs x.q≤max x.z 1:=Zj5 x.s x.a x.d
def RV.good (x:RV):Prop:=q.good x.s x.a x.d
instance (x:RV):Decidable x.good:=by unfold RV.good;infer_instance
def rat (x:RV):AV:= .val (.agg [.d (.v (.bool x.s)),.d (.v (.string x.a)),.d (.v (.string x.d))])
def int (n:Int):AV:= .val (.one (.d (.v (.int .i64 n))))
def bool (b:Bool):AV:= .val (.one (.d (.v (.bool b))))
theorem Zkg {p:Rat} {u:Bool} {c f:ByteArray} (h:Is p u c f):u=(cn p).s∧c=(cn p).a∧f=(cn p).d:=h
section
variable {K : AV → Prop}
theorem ask {P:Program} {G:World→Prop} {f:FuncId} {args:List AV} {r:AV} (hr:r.hs= []) (h:Spec P G f args r) (k:K r):∃ v,(v.hs= []∧Spec P G f args v)∧K v:=⟨r,⟨hr,h⟩,k⟩
theorem Zb9 {x:RV} {n:Nat} (h:x.z≤n):x.a.size≤n∧x.d.size≤n:=by unfold RV.z at h;omega
theorem ZhC (x:RV) (hx:x.z≤4398046511104):Spec Tryd.prog Tab 41 [rat x] (rat (cn (-x.q))):=by
 obtain⟨h1,h2⟩:=Zb9 hx
 refine ZX (Zz Tryd.func41 rfl rfl) rfl rfl fun w hT=> ?_
 refine(ZiY x.s x.a x.d w (by omega) (by omega) hT).mono fun e w' ⟨u,c,f,he,hi,hb⟩=> ?_
 obtain⟨rfl,rfl,rfl⟩:=Zkg hi
 exact⟨he,hb⟩
theorem ZhD (x y:RV) (hx:x.z≤4398046511104) (hy:y.z≤4398046511104):Spec Tryd.prog Tab 29 [rat x,rat y] (int (cmpQ x.q y.q)):=by
 obtain⟨h1,h2⟩:=Zb9 hx
 obtain⟨h3,h4⟩:=Zb9 hy
 refine ZX (Zz Tryd.func29 rfl rfl) rfl rfl fun w hT=> ?_
 exact ZiZ x.s x.a x.d y.s y.a y.d w h1 h2 h3 h4 hT
def z0:RV:=⟨false,⟨#[]⟩,⟨#[]⟩⟩
def two (s t:AV):AV:=
 match s,t with
 | .val s,.val t=> .tup [s,t]
 |_,_=> .junk
end
end Go.Proofs.YtcogfmileelkeaaDoor.eng
namespace Go.Proofs.YtcogfmileelkeaaDoor.eng
open Go.RowKit num mem seg q held ratA ratB ratC ratD ratE vars ratF
def box (x y z t:RV):AV:= .val (.agg [.d (.v (.bool x.s)),.d (.v (.string x.a)),.d (.v (.string x.d)),.d (.v (.bool y.s)),.d (.v (.string y.a)),.d (.v (.string y.d)),.d (.v (.bool z.s)),.d (.v (.string z.a)),.d (.v (.string z.d)),.d (.v (.bool t.s)),.d (.v (.string t.a)),.d (.v (.string t.d))])
def frame (x y:RV) (h:Bool) (z:RV):AV:= .val (.agg [.d (.v (.bool x.s)),.d (.v (.string x.a)),.d (.v (.string x.d)),.d (.v (.bool y.s)),.d (.v (.string y.a)),.d (.v (.string y.d)),.d (.v (.bool h)),.d (.v (.bool z.s)),.d (.v (.string z.a)),.d (.v (.string z.d))])
def cell (x y:Int):AV:= .val (.agg [.d (.v (.int .i64 x)),.d (.v (.int .i64 y))])
theorem RV.ext {x y:RV} (h1:x.s=y.s) (h2:x.a=y.a) (h3:x.d=y.d):x=y:=by cases x;cases y;simp_all
instance:DecidableEq RV:=fun x y=>if h:x.s=y.s∧x.a=y.a∧x.d=y.d then isTrue (RV.ext h.1 h.2.1 h.2.2) else isFalse (fun e=>h (by rw [e];exact⟨rfl,rfl,rfl⟩))
def RV.val (x:RV):Array Value:=#[.bool x.s,.string x.a,.string x.d]
theorem Zlj (a b:ByteArray):a.toList=b.toList↔a=b:=by
 rw [Lib.toList_data,Lib.toList_data]
 exact⟨fun e=>ZcI e,fun e=>by rw [e]⟩
theorem ZdJ (ox oy:Operand) (n:Int) (n2:Int) (n':Int) (n2':Int) (w:World):(do eqGuard .eql 25 ox oy (.agg #[.int .i64 n,.int .i64 n2]) (.agg #[.int .i64 n',.int .i64 n2']);binOp .eql 25 (.agg #[.int .i64 n,.int .i64 n2]) (.agg #[.int .i64 n',.int .i64 n2']):Sem Value).run Tryd.prog w= .ok (.bool (decide (n=n'∧n2=n2'))) w:=by
 by_cases H:n=n'∧n2=n2'
 ·obtain⟨rfl,rfl⟩:=H
  simp [go_sem]
 ·rw [decide_eq_false H]
  simp [go_sem]
  first
   |(intros;intro _;exact H ⟨by assumption,by assumption⟩)
   |((repeat' split)<;>first
    |rfl
    |(intros;exact absurd ⟨by assumption,by assumption⟩ H)
    |(intros;intro _;exact H ⟨by assumption,by assumption⟩))
theorem ZfT (ox oy:Operand) (n:Int) (n2:Int) (n':Int) (n2':Int) (w:World):(do eqGuard .neq 25 ox oy (.agg #[.int .i64 n,.int .i64 n2]) (.agg #[.int .i64 n',.int .i64 n2']);binOp .neq 25 (.agg #[.int .i64 n,.int .i64 n2]) (.agg #[.int .i64 n',.int .i64 n2']):Sem Value).run Tryd.prog w= .ok (.bool (!decide (n=n'∧n2=n2'))) w:=by
 by_cases H:n=n'∧n2=n2'
 ·obtain⟨rfl,rfl⟩:=H
  simp [go_sem]
 ·rw [decide_eq_false H]
  simp [go_sem]
  first
   |(intros;intro _;exact H ⟨by assumption,by assumption⟩)
   |((repeat' split)<;>first
    |rfl
    |(intros;exact absurd ⟨by assumption,by assumption⟩ H)
    |(intros;intro _;exact H ⟨by assumption,by assumption⟩))
end Go.Proofs.YtcogfmileelkeaaDoor.eng
namespace Go.Proofs.YtcogfmileelkeaaDoor.eng
open Go.RowKit num mem seg q held ratA ratB ratC ratD ratE vars ratF
theorem Zn {f : FuncId} {fn : Func} {c : Code} {nt : Nat} (hf : Tryd.prog.funcs[f]? = some fn) (hb : fn.body = some c) (hn : (fn.name == "runtime.NumGoroutine") = false) (hnt : fn.ntmps = nt) {rs : List ResultVar} (hrs : fn.results = ⟨rs⟩)
  (hc:codeOk c=true) {args:List AV} {r:AV} (hargs:freeAVs args=true) (hlen:Nat.ble args.length nt=true)
  (h:sp (prmOf Tryd.prog nt) c (RetIs (prmOf Tryd.prog nt) rs r) (envArgs 0 args) noMem):Spec Tryd.prog Tab f args r:=
 Zdq (p:=prmOf Tryd.prog nt) hf hb hn hnt rfl rfl hrs ZeL (fun _ _ h hb=>h.below hb (Nat.le_refl _)) mixed hc hargs hlen h
abbrev Ask (f:FuncId) (args:List AV) (K:AV→Prop):Prop:=∃ v,CallR Tryd.prog Tab f args v∧K v
theorem use {f:FuncId} {args:List AV} {r:AV} {K:AV→Prop} (h:Spec Tryd.prog Tab f args r) (hr:r.hs= []) (k:K r):Ask f args K:=⟨r,ZjA hr h,k⟩
theorem useN {f:FuncId} {args:List AV} {T n:Nat} {xs:List (List D)} {K:AV→Prop} (h:SpecR Tryd.prog Tab f args T n xs) (k:K (.new T n xs)):Ask f args K:=⟨.new T n xs,h,k⟩
theorem Zk8 {f : FuncId} {fn : Func} {c : Code} {nt : Nat} (hf : Tryd.prog.funcs[f]? = some fn) (hb : fn.body = some c) (hn : (fn.name == "runtime.NumGoroutine") = false) (hnt : fn.ntmps = nt) {rs : List ResultVar} (hrs : fn.results = ⟨rs⟩)
  (hc:codeOk c=true) {args:List AV} {T n:Nat} {xs:List (List D)} (hargs:freeAVs args=true) (hlen:Nat.ble args.length nt=true)
  (h:sp (prmOf Tryd.prog nt) c (RetNew rs T n xs) (envArgs 0 args) noMem):SpecR Tryd.prog Tab f args T n xs:=
 ZfH (p:=prmOf Tryd.prog nt) hf hb hn hnt rfl rfl hrs ZeL (fun _ _ h hb=>h.below hb (Nat.le_refl _)) mixed hc hargs hlen h
theorem Zf4 (own : List Nat) {f : FuncId} {fn : Func} {c : Code} {nt : Nat} (hf : Tryd.prog.funcs[f]? = some fn) (hb : fn.body = some c) (hn : (fn.name == "runtime.NumGoroutine") = false) (hnt : fn.ntmps = nt) {rs : List ResultVar} (hrs : fn.results = ⟨rs⟩)
  (hc:codeOk c=true) {args:List AV} {r:AV} (hargs:freeAVs args=true) (hlen:Nat.ble args.length nt=true)
  (h:sp (prmOwn Tryd.prog nt own) c (RetIs (prmOwn Tryd.prog nt own) rs r) (envArgs 0 args) noMem):Spec Tryd.prog Tab f args r:=
 Zdq (p:=prmOwn Tryd.prog nt own) hf hb hn hnt rfl rfl hrs ZeL (fun _ _ h hb=>h.below hb (Nat.le_refl _)) mixed hc hargs hlen h
theorem Zk7 (own : List Nat) {f : FuncId} {fn : Func} {c : Code} {nt : Nat} (hf : Tryd.prog.funcs[f]? = some fn) (hb : fn.body = some c) (hn : (fn.name == "runtime.NumGoroutine") = false) (hnt : fn.ntmps = nt) {rs : List ResultVar} (hrs : fn.results = ⟨rs⟩)
  (hc:codeOk c=true) {args:List AV} (hargs:freeAVs args=true) (hlen:Nat.ble args.length nt=true)
  (h:sp (prmOwn Tryd.prog nt own) c (RetNil rs) (envArgs 0 args) noMem):Spec Tryd.prog Tab f args (.val (.one (.d (.v (.slice none 0 0))))):=
 ZiN (p:=prmOwn Tryd.prog nt own) hf hb hn hnt rfl rfl hrs ZeL (fun _ _ h hb=>h.below hb (Nat.le_refl _)) mixed hc hargs hlen h
theorem fn_T (own : List Nat) {f : FuncId} {fn : Func} {c : Code} {nt : Nat} (hf : Tryd.prog.funcs[f]? = some fn) (hb : fn.body = some c) (hn : (fn.name == "runtime.NumGoroutine") = false) (hnt : fn.ntmps = nt) {rs : List ResultVar} (hrs : fn.results = ⟨rs⟩)
  (hc:codeOk c=true) {args:List AV} {T n:Nat} {xs:List (List D)} {T' n':Nat} {ys:List (List D)} (hargs:argsT args=true) (hlen:Nat.ble args.length nt=true)
  (h:sp (prmOwn Tryd.prog nt own) c (RetNew rs T' n' ys) (envArgs 0 args) (memT T n xs)):SpecT Tryd.prog Tab f args T n xs T' n' ys:=
 ZkO (p:=prmOwn Tryd.prog nt own) hf hb hn hnt rfl rfl hrs ZeL mixed hc hargs hlen h
theorem fn_L (i : Nat) (own : List Nat) {f : FuncId} {fn : Func} {c : Code} {nt : Nat} (hf : Tryd.prog.funcs[f]? = some fn) (hb : fn.body = some c) (hn : (fn.name == "runtime.NumGoroutine") = false) (hnt : fn.ntmps = nt) {rs : List ResultVar} (hrs : fn.results = ⟨rs⟩)
  (hc:codeOk c=true) {args:List AV} {T n:Nat} {xs:List (List D)} {r:AV} (hargs:argsT args=true) (hlen:Nat.ble args.length nt=true) (hai:args[i]? =some (.val (.one (.row 1000 0))))
  (h:sp (prmL Tryd.prog nt i own) c (RetL (prmL Tryd.prog nt i own) rs r i T n xs) (envArgs 0 args) (memT T n xs)):SpecL Tryd.prog Tab f args T n xs r:=
 ZkP (p:=prmL Tryd.prog nt i own) hf hb hn hnt rfl rfl hrs ZeL mixed hc hargs hlen hai h
theorem RV.z1 (x:RV):qs x.q≤x.z+1:=by have:=x.qs_le;omega
section
variable {x y : RV} {K : AV → Prop}
theorem Zk2 (hx:x.z≤4398046511104) (k:∀ q,q=-x.q→(cn q).z≤x.z+1→K (rat (cn q))):Ask 41 [rat x] K:=
 use (ZhC x hx) rfl (k _ rfl (by have:=ZkS x.q;have:=x.z1;rw [cn_z];omega))
theorem Zlg (p q:Rat):cmpQ p q≤0↔p≤q:=by
 unfold cmpQ
 by_cases h1:p< q
 ·rw [if_pos h1];exact⟨fun _=>Rat.le_of_lt h1,fun _=>by omega⟩
 ·rw [if_neg h1]
  by_cases h2:q< p
  ·rw [if_pos h2];exact⟨fun h=>by omega,fun h=>absurd h2 (Rat.not_lt.2 h)⟩
  ·rw [if_neg h2];exact⟨fun _=>Rat.not_lt.1 h2,fun _=>Int.le_refl _⟩
theorem ZdN (p q:Rat):0< cmpQ p q↔q< p:=by
 have:=Zlg p q
 rw [← Rat.not_le,← this];omega
theorem Zk5 (hx:x.z≤4398046511104) (hy:y.z≤4398046511104) (k:∀ n,n=cmpQ x.q y.q→K (int n)):Ask 29 [rat x,rat y] K:=
 use (ZhD x y hx hy) rfl (k _ rfl)
abbrev AskB (op:BinOp) (T:TypeId) (ox oy:Operand) (p q:Value) (K:AV→Prop):Prop:=∃ r,(∃ v,r=one v∧flat v=true∧∀ w,(do eqGuard op T ox oy p q;binOp op T p q:Sem Value).run Tryd.prog w= .ok v w)∧K r
theorem useB {op:BinOp} {T:TypeId} {ox oy:Operand} {p q:Value} {K:AV→Prop} {b:Bool} (h:∀ w,(do eqGuard op T ox oy p q;binOp op T p q:Sem Value).run Tryd.prog w= .ok (.bool b) w) (k:K (bool b)):AskB op T ox oy p q K:=
 ⟨_,⟨.bool b,rfl,rfl,h⟩,k⟩
theorem ZbT {ox oy:Operand} {n:Int} {n2:Int} {n':Int} {n2':Int} (H:n=n'∧n2=n2') (k:K (bool true)):AskB .eql 25 ox oy (.agg ⟨[.int .i64 n,.int .i64 n2]⟩) (.agg ⟨[.int .i64 n',.int .i64 n2']⟩) K:=useB (fun w=>by have:=ZdJ ox oy n n2 n' n2' w;rw [decide_eq_true H] at this;exact this) k
theorem ZbU {ox oy:Operand} {n:Int} {n2:Int} {n':Int} {n2':Int} (k1:n=n'∧n2=n2'→K (bool true)) (k0:¬ (n=n'∧n2=n2')→K (bool false)):AskB .eql 25 ox oy (.agg ⟨[.int .i64 n,.int .i64 n2]⟩) (.agg ⟨[.int .i64 n',.int .i64 n2']⟩) K:=by
 by_cases H:n=n'∧n2=n2'
 ·exact ZbT H (k1 H)
 ·exact useB (fun w=>by have:=ZdJ ox oy n n2 n' n2' w;rw [decide_eq_false H] at this;exact this) (k0 H)
theorem ZbS {ox oy:Operand} {n:Int} {n2:Int} {n':Int} {n2':Int} (H:n=n'∧n2=n2') (k:K (bool false)):AskB .neq 25 ox oy (.agg ⟨[.int .i64 n,.int .i64 n2]⟩) (.agg ⟨[.int .i64 n',.int .i64 n2']⟩) K:=useB (fun w=>by have:=ZfT ox oy n n2 n' n2' w;rw [decide_eq_true H] at this;exact this) k
theorem Zer {ox oy:Operand} {n:Int} {n2:Int} {n':Int} {n2':Int} (k1:n=n'∧n2=n2'→K (bool false)) (k0:¬ (n=n'∧n2=n2')→K (bool true)):AskB .neq 25 ox oy (.agg ⟨[.int .i64 n,.int .i64 n2]⟩) (.agg ⟨[.int .i64 n',.int .i64 n2']⟩) K:=by
 by_cases H:n=n'∧n2=n2'
 ·exact ZbS H (k1 H)
 ·exact useB (fun w=>by have:=ZfT ox oy n n2 n' n2' w;rw [decide_eq_false H] at this;exact this) (k0 H)
theorem Zgd (ox oy:Operand) (b c:Bool) (w:World):(do eqGuard .eql 4 ox oy (.bool b) (.bool c);binOp .eql 4 (.bool b) (.bool c):Sem Value).run Tryd.prog w= .ok (.bool (decide (b=c))) w:=by
 have:(do eqGuard .eql 4 ox oy (.bool b) (.bool c);binOp .eql 4 (.bool b) (.bool c):Sem Value).run Tryd.prog w= .ok (.bool (b==c)) w:=by simp [go_sem]
 rw [this];cases b<;>cases c<;>rfl
theorem Zes {ox oy:Operand} {b c:Bool} (H:b=c) (k:K (bool true)):AskB .eql 4 ox oy (.bool b) (.bool c) K:=useB (fun w=>by have:=Zgd ox oy b c w;rw [decide_eq_true H] at this;exact this) k
theorem Zet {ox oy:Operand} {b c:Bool} (k1:b=c→K (bool true)) (k0:¬ b=c→K (bool false)):AskB .eql 4 ox oy (.bool b) (.bool c) K:=by
 by_cases H:b=c
 ·exact Zes H (k1 H)
 ·exact useB (fun w=>by have:=Zgd ox oy b c w;rw [decide_eq_false H] at this;exact this) (k0 H)
end
theorem ZdO {P:Program} {G:World→Prop} {f:FuncId} {args:List AV} {vals:List Value} {r:AV} {x:Value} (h:Spec P G f args r) (hr:pv r=some x) {w:World} (hG:G w) (hrel:Rel2 (fun y v=>DenAV w (fun _=>False) noBs noMem y v) vals args):
  Calls P f vals.toArray w fun e w'=>e= .returned x∧Below w.heap.size w w':=
 Calls.mono (h.2 w (fun _=>False) vals hG (fun b hb=>hb.elim) hrel) fun e w' ⟨y,he,hd,hb⟩=>⟨by rw [he,(Zec hr).1 hd],hb⟩
theorem ZcT {P:Program} {G:World→Prop} {f:FuncId} {args:List AV} {vals:List Value} {r:AV} {x:Value} (h:Spec P G f args r) (hr:pv r=some x) {w:World} {I:Nat→Prop} (hG:G w) (hI:∀ b,I b→b< w.heap.size) (hrel:Rel2 (fun y v=>DenAV w I noBs noMem y v) vals args):
  Calls P f vals.toArray w fun e w'=>e= .returned x∧Below w.heap.size w w':=
 Calls.mono (h.2 w I vals hG hI hrel) fun e w' ⟨y,he,hd,hb⟩=>⟨by rw [he,(Zec hr).1 hd],hb⟩
theorem ZhE {w:World} {I:Nat→Prop} {bs:Bs} {mem:Mem}:∀ {vs:List AV} {l:List Value},pvl vs=some l→Rel2 (fun y v=>DenAV w I bs mem y v) l vs
 | [],l,h=>by simp only [pvl,Option.some.injEq] at h;subst h;exact Rel2.nil
 |v :: vs,l,h=>by
  simp only [pvl] at h
  split at h
  ·rename_i x l' hx hl
   obtain rfl:=(Option.some.inj h).symm
   exact(ZhE hl).cons ((Zec hx).2 rfl)
  ·simp at h
end Go.Proofs.YtcogfmileelkeaaDoor.eng
