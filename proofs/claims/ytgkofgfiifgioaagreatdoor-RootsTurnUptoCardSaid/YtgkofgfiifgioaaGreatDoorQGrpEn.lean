/- Joined by wip/bundle.py: XEngR XEngS XEngU. -/
import Derived.Test.YtgkofgfiifgioaaGreatDoorQEngT
import Derived.Test.YtgkofgfiifgioaaGreatDoorQGrpJ
namespace Go.Proofs.YtgkofgfiifgioaaGreatDoor.eng
open Go.RowKit num mem seg q held ratA ratB ratC ratD ratE vars ratF
def pvs:List C→Option (List Value)
 | []=>some []
 |c :: r=>match c with
  | .d (.v x)=>bif flat x then (match pvs r with
   |some l=>some (x :: l)
   |none=>none) else none
  |_=>none
def pvS:S→Option Value
 | .one c=>match c with
  | .d (.v x)=>bif flat x then some x else none
  |_=>none
 | .agg cs=>match pvs cs with
  |some l=>some (.agg ⟨l⟩)
  |none=>none
def pvSs:List S→Option (List Value)
 | []=>some []
 |c :: r=>match pvS c,pvSs r with
  |some x,some l=>some (x :: l)
  |_,_=>none
def pv:AV→Option Value
 | .val s=>pvS s
 | .tup l=>match pvSs l with
  |some l=>some (.tuple ⟨l⟩)
  |none=>none
 | .junk=>none
 | .new _ _ _=>none
def pvl:List AV→Option (List Value)
 | []=>some []
 |c :: r=>match pv c,pvl r with
  |some x,some l=>some (x :: l)
  |_,_=>none
section
variable {w : World} {I : Nat → Prop} {bs : Bs} {mem : Mem}
theorem ZeO:∀ {cs:List C} {l xs:List Value},pvs cs=some l→(Rel2 (fun y c=>DenC w I bs mem y c) xs cs↔xs=l)
 | [],l,xs,h=>by
  simp only [pvs,Option.some.injEq] at h
  subst h
  exact⟨fun h=>List.eq_nil_of_length_eq_zero h.1,fun h=>by subst h;exact Rel2.nil⟩
 |c :: cs,l,xs,h=>by
  simp only [pvs] at h
  split at h
  ·rename_i x
   cases hf:flat x with
   |false=>rw [hf] at h;simp at h
   |true=>
    rw [hf] at h
    simp only [cond_true] at h
    split at h
    ·rename_i l' hl
     obtain rfl:=(Option.some.inj h).symm
     constructor
     ·intro hr
      cases xs with
      |nil=>have:=hr.1;simp at this
      |cons y ys=>
       obtain⟨h1,h2⟩:=hr.of_cons
       have h1':Den w I y (.v x):=h1
       rw [(ZeO hl).1 h2]
       cases h1';rfl
     ·intro hx
      subst hx
      exact((ZeO hl).2 rfl).cons (Den.v x hf)
    ·simp at h
  ·simp at h
theorem Zg4 {s:S} {v x:Value} (h:pvS s=some v):DenS w I bs mem x s↔x=v:=by
 cases s with
 |one c=>
  simp only [pvS] at h
  split at h
  ·rename_i y
   cases hf:flat y with
   |false=>rw [hf] at h;simp at h
   |true=>
    rw [hf] at h
    obtain rfl:=(Option.some.inj h).symm
    constructor
    ·intro hd
     have hd':Den w I x (.v v):=hd
     cases hd';rfl
    ·intro e
     subst e
     exact Den.v x hf
  ·simp at h
 |agg cs=>
  simp only [pvS] at h
  split at h
  ·rename_i l hl
   obtain rfl:=(Option.some.inj h).symm
   constructor
   ·rintro⟨xs,rfl,h1,h2⟩
    rw [(ZeO hl).1 ⟨h1,h2⟩]
   ·intro e
    subst e
    have:=(ZeO (w:=w) (I:=I) (bs:=bs) (mem:=mem) hl).2 rfl
    exact⟨l,rfl,this.1,this.2⟩
  ·simp at h
theorem ZcS:∀ {ss:List S} {l xs:List Value},pvSs ss=some l→(Rel2 (fun y s=>DenS w I bs mem y s) xs ss↔xs=l)
 | [],l,xs,h=>by
  simp only [pvSs,Option.some.injEq] at h
  subst h
  exact⟨fun h=>List.eq_nil_of_length_eq_zero h.1,fun h=>by subst h;exact Rel2.nil⟩
 |s :: ss,l,xs,h=>by
  simp only [pvSs] at h
  split at h
  ·rename_i x l' hx hl
   obtain rfl:=(Option.some.inj h).symm
   constructor
   ·intro hr
    cases xs with
    |nil=>have:=hr.1;simp at this
    |cons y ys=>
     obtain⟨h1,h2⟩:=hr.of_cons
     rw [(ZcS hl).1 h2,(Zg4 hx).1 h1]
   ·intro e
    subst e
    exact((ZcS hl).2 rfl).cons ((Zg4 hx).2 rfl)
  ·simp at h
theorem ZfP {v:AV} {x y:Value} (h:pv v=some x):DenAV w I bs mem y v↔y=x:=by
 cases v with
 |val s=>exact Zg4 h
 |junk=>simp [pv] at h
 |new _ _ _=>simp [pv] at h
 |tup l=>
  simp only [pv] at h
  split at h
  ·rename_i l' hl
   obtain rfl:=(Option.some.inj h).symm
   constructor
   ·rintro⟨xs,rfl,h1,h2⟩
    rw [(ZcS hl).1 ⟨h1,h2⟩]
   ·intro e
    subst e
    have:=(ZcS (w:=w) (I:=I) (bs:=bs) (mem:=mem) hl).2 rfl
    exact⟨l',rfl,this.1,this.2⟩
  ·simp at h
theorem Zic:∀ {vs:List AV} {l xs:List Value},pvl vs=some l→Rel2 (fun y v=>DenAV w I bs mem y v) xs vs→xs=l
 | [],l,xs,h,hr=>by
  simp only [pvl,Option.some.injEq] at h
  subst h
  exact List.eq_nil_of_length_eq_zero hr.1
 |v :: vs,l,xs,h,hr=>by
  simp only [pvl] at h
  split at h
  ·rename_i x l' hx hl
   obtain rfl:=(Option.some.inj h).symm
   cases xs with
   |nil=>have:=hr.1;simp at this
   |cons y ys=>
    obtain⟨h1,h2⟩:=hr.of_cons
    rw [Zic hl h2,(ZfP hx).1 h1]
  ·simp at h
end
theorem Zp {P:Program} {G:World→Prop} {f:FuncId} {args:List AV} {vals:List Value} {r:AV} {x:Value} (he:Enters P f) (ha:pvl args=some vals) (hr:pv r=some x)
  (h:∀ w,G w→Calls P f vals.toArray w fun e w'=>e= .returned x∧Below w.heap.size w w'):Spec P G f args r:=by
 refine⟨he,fun w I vs hG _ hrel=> ?_⟩
 obtain rfl:=Zic ha hrel
 exact Calls.mono (h w hG) fun e w' ⟨h1,h2⟩=>⟨x,h1,(ZfP hr).2 rfl,h2⟩
structure RV where
 s:Bool
 a:ByteArray
 d:ByteArray
def RV.q (x:RV):Rat:=qv x.s x.a x.d
def RV.z (x:RV):Nat:=max x.a.size x.d.size
def cn (q:Rat):RV:=⟨decide (q.num< 0),enc q.num.natAbs,enc q.den⟩
theorem cn_q (q:Rat):(cn q).q=q:=ZrJ q
theorem cn_z (q:Rat):(cn q).z=qs q:=rfl
theorem ωz {P:Prop} (h:P:=by simp only [cn_z];omega):P:=h
theorem ωc {P:Prop} (h:P:=by rw [cn_z];decide+kernel):P:=h
theorem ωn {P:Prop} (h:P:=by rw [cn_z];omega):P:=h
theorem RV.qs_le (x:RV):qs x.q≤max x.z 1:=ZdW x.s x.a x.d
def RV.good (x:RV):Prop:=q.good x.s x.a x.d
instance (x:RV):Decidable x.good:=by unfold RV.good;infer_instance
theorem Zmn (q:Rat):(cn q).good:=ZlL q
theorem RV.good_cn {x:RV} (h:x.good):x=cn x.q:=by
 have:=Zei h
 obtain⟨h1,h2,h3⟩:=this
 cases x
 simp only [RV.q,cn,RV.mk.injEq]
 exact⟨h1,h2,h3⟩
theorem ZsU {p q:Rat}:cn p=cn q↔p=q:=⟨fun h=>by rw [← cn_q p,h,cn_q],fun h=>by rw [h]⟩
def rat (x:RV):AV:= .val (.agg [.d (.v (.bool x.s)),.d (.v (.string x.a)),.d (.v (.string x.d))])
def int (n:Int):AV:= .val (.one (.d (.v (.int .i64 n))))
def bool (b:Bool):AV:= .val (.one (.d (.v (.bool b))))
theorem Zdv {p:Rat} {u:Bool} {c f:ByteArray} (h:Is p u c f):u=(cn p).s∧c=(cn p).a∧f=(cn p).d:=h
section
variable {K : AV → Prop}
theorem ask {P:Program} {G:World→Prop} {f:FuncId} {args:List AV} {r:AV} (hr:r.hs= []) (h:Spec P G f args r) (k:K r):∃ v,(v.hs= []∧Spec P G f args v)∧K v:=⟨r,⟨hr,h⟩,k⟩
theorem ZE {x:RV} {n:Nat} (h:x.z≤n):x.a.size≤n∧x.d.size≤n:=by unfold RV.z at h;omega
theorem ZkN (x y:RV) (hx:x.z≤4398046511104) (hy:y.z≤4398046511104):Spec Tryz.prog Tab 9 [rat x,rat y] (rat (cn (x.q+y.q))):=by
 obtain⟨h1,h2⟩:=ZE hx
 obtain⟨h3,h4⟩:=ZE hy
 refine Zp (Zm Tryz.func9 rfl rfl) rfl rfl fun w hT=> ?_
 refine(Zh9 x.s x.a x.d y.s y.a y.d w h1 h2 h3 h4 hT).mono fun e w' ⟨u,c,f,he,hi,hb⟩=> ?_
 obtain⟨rfl,rfl,rfl⟩:=Zdv hi
 exact⟨he,hb⟩
theorem ZkG (x y:RV) (hx:x.z≤4398046511104) (hy:y.z≤4398046511104):Spec Tryz.prog Tab 10 [rat x,rat y] (rat (cn (x.q - y.q))):=by
 obtain⟨h1,h2⟩:=ZE hx
 obtain⟨h3,h4⟩:=ZE hy
 refine Zp (Zm Tryz.func10 rfl rfl) rfl rfl fun w hT=> ?_
 refine(Znm x.s x.a x.d y.s y.a y.d w h1 h2 h3 h4 hT).mono fun e w' ⟨u,c,f,he,hi,hb⟩=> ?_
 obtain⟨rfl,rfl,rfl⟩:=Zdv hi
 exact⟨he,hb⟩
theorem ZkJ (x y:RV) (hx:x.z≤4398046511104) (hy:y.z≤4398046511104):Spec Tryz.prog Tab 11 [rat x,rat y] (rat (cn (x.q*y.q))):=by
 obtain⟨h1,h2⟩:=ZE hx
 obtain⟨h3,h4⟩:=ZE hy
 refine Zp (Zm Tryz.func11 rfl rfl) rfl rfl fun w hT=> ?_
 refine(Zno x.s x.a x.d y.s y.a y.d w h1 h2 h3 h4 hT).mono fun e w' ⟨u,c,f,he,hi,hb⟩=> ?_
 obtain⟨rfl,rfl,rfl⟩:=Zdv hi
 exact⟨he,hb⟩
theorem ZkI (x:RV) (hx:x.z≤4398046511104):Spec Tryz.prog Tab 45 [rat x] (rat (cn (-x.q))):=by
 obtain⟨h1,h2⟩:=ZE hx
 refine Zp (Zm Tryz.func45 rfl rfl) rfl rfl fun w hT=> ?_
 refine(Zh7 x.s x.a x.d w ω ω hT).mono fun e w' ⟨u,c,f,he,hi,hb⟩=> ?_
 obtain⟨rfl,rfl,rfl⟩:=Zdv hi
 exact⟨he,hb⟩
theorem Znn (n:Int) (h1:-9223372036854775808≤n) (h2:n≤9223372036854775807):Spec Tryz.prog Tab 6 [int n] (rat (cn (n:Rat))):=by
 refine Zp (Zm Tryz.func6 rfl rfl) rfl rfl fun w hT=> ?_
 refine(Zg2 n w h1 h2 hT).mono fun e w' ⟨u,c,f,he,hi,hb⟩=> ?_
 obtain⟨rfl,rfl,rfl⟩:=Zdv hi
 exact⟨he,hb⟩
theorem ZfM (x y:RV) (hx:x.z≤4398046511104) (hy:y.z≤4398046511104):Spec Tryz.prog Tab 56 [rat x,rat y] (rat (cn (if cmpQ x.q y.q≤0 then x.q else y.q))):=by
 obtain⟨h1,h2⟩:=ZE hx
 obtain⟨h3,h4⟩:=ZE hy
 refine Zp (Zm Tryz.func56 rfl rfl) rfl rfl fun w hT=> ?_
 refine(Znp x.s x.a x.d y.s y.a y.d w h1 h2 h3 h4 hT).mono fun e w' ⟨u,c,f,he,hi,hb⟩=> ?_
 obtain⟨rfl,rfl,rfl⟩:=Zdv hi
 exact⟨he,hb⟩
theorem ZkK (x y:RV) (hx:x.z≤4398046511104) (hy:y.z≤4398046511104):Spec Tryz.prog Tab 94 [rat x,rat y] (rat (cn (if 0≤cmpQ x.q y.q then x.q else y.q))):=by
 obtain⟨h1,h2⟩:=ZE hx
 obtain⟨h3,h4⟩:=ZE hy
 refine Zp (Zm Tryz.func94 rfl rfl) rfl rfl fun w hT=> ?_
 refine(Znq x.s x.a x.d y.s y.a y.d w h1 h2 h3 h4 hT).mono fun e w' ⟨u,c,f,he,hi,hb⟩=> ?_
 obtain⟨rfl,rfl,rfl⟩:=Zdv hi
 exact⟨he,hb⟩
theorem ZfN (x y:RV) (hx:x.z≤4398046511104) (hy:y.z≤4398046511104):Spec Tryz.prog Tab 13 [rat x,rat y] (int (cmpQ x.q y.q)):=by
 obtain⟨h1,h2⟩:=ZE hx
 obtain⟨h3,h4⟩:=ZE hy
 refine Zp (Zm Tryz.func13 rfl rfl) rfl rfl fun w hT=> ?_
 exact Zb1 x.s x.a x.d y.s y.a y.d w h1 h2 h3 h4 hT
theorem Zjq (x:RV) (hx:x.z≤4398046511104):Spec Tryz.prog Tab 24 [rat x] (int (sgnQ x.q)):=by
 obtain⟨h1,h2⟩:=ZE hx
 refine Zp (Zm Tryz.func24 rfl rfl) rfl rfl fun w hT=> ?_
 exact ZkH x.s x.a x.d w ω ω hT
theorem Zjs (x:RV) (hx:x.z≤4398046511104):Spec Tryz.prog Tab 106 [rat x] (bool (decide x.good)):=by
 obtain⟨h1,h2⟩:=ZE hx
 refine Zp (Zm Tryz.func106 rfl rfl) rfl rfl fun w hT=> ?_
 exact Zfk x.s x.a x.d w ω ω hT
def z0:RV:=⟨false,⟨#[]⟩,⟨#[]⟩⟩
def quotR (p q:Rat):RV:=if q=0 then z0 else cn (p / q)
def quotE (q:Rat):Int:=if q=0 then 12 else 0
def two (s t:AV):AV:=
 match s,t with
 | .val s,.val t=> .tup [s,t]
 |_,_=> .junk
theorem ZkM (x y:RV) (hx:x.z≤4398046511104) (hy:y.z≤4398046511104):Spec Tryz.prog Tab 53 [rat x,rat y] (two (rat (quotR x.q y.q)) (int (quotE y.q))):=by
 obtain⟨h1,h2⟩:=ZE hx
 obtain⟨h3,h4⟩:=ZE hy
 refine Zp (Zm Tryz.func53 rfl rfl) rfl rfl fun w hT=> ?_
 refine(Zh8 x.s x.a x.d y.s y.a y.d w h1 h2 h3 h4 hT).mono fun e w' ⟨u,c,f,k,he,hi,hb⟩=> ?_
 refine⟨he.trans ?_,hb⟩
 rcases hi with ⟨h5,rfl,rfl,rfl,rfl⟩|⟨h5,rfl,hi⟩
 ·have e0:y.q=0:=h5
  simp only [quotR,quotE,if_pos e0,z0]
 ·have e0:¬ y.q=0:=h5
  obtain⟨rfl,rfl,rfl⟩:=Zdv hi
  simp only [quotR,quotE,if_neg e0]
  rfl
end
def rc (x:RV):List C:= [.d (.v (.bool x.s)),.d (.v (.string x.a)),.d (.v (.string x.d))]
def pair (x y:RV):AV:= .val (.agg [.d (.v (.bool x.s)),.d (.v (.string x.a)),.d (.v (.string x.d)),.d (.v (.bool y.s)),.d (.v (.string y.a)),.d (.v (.string y.d))])
def turn (h:Bool) (x:RV):AV:= .val (.agg [.d (.v (.bool h)),.d (.v (.bool x.s)),.d (.v (.string x.a)),.d (.v (.string x.d))])
def box (x y z t:RV):AV:= .val (.agg [.d (.v (.bool x.s)),.d (.v (.string x.a)),.d (.v (.string x.d)),.d (.v (.bool y.s)),.d (.v (.string y.a)),.d (.v (.string y.d)),.d (.v (.bool z.s)),.d (.v (.string z.a)),.d (.v (.string z.d)),.d (.v (.bool t.s)),.d (.v (.string t.a)),.d (.v (.string t.d))])
def frame (x y:RV) (h:Bool) (z:RV):AV:= .val (.agg [.d (.v (.bool x.s)),.d (.v (.string x.a)),.d (.v (.string x.d)),.d (.v (.bool y.s)),.d (.v (.string y.a)),.d (.v (.string y.d)),.d (.v (.bool h)),.d (.v (.bool z.s)),.d (.v (.string z.a)),.d (.v (.string z.d))])
def cell (x y:Int):AV:= .val (.agg [.d (.v (.int .i64 x)),.d (.v (.int .i64 y))])
theorem RV.ext {x y:RV} (h1:x.s=y.s) (h2:x.a=y.a) (h3:x.d=y.d):x=y:=by cases x;cases y;simp_all
instance:DecidableEq RV:=fun x y=>if h:x.s=y.s∧x.a=y.a∧x.d=y.d then isTrue (RV.ext h.1 h.2.1 h.2.2) else isFalse (fun e=>h (by rw [e];exact⟨rfl,rfl,rfl⟩))
def RV.val (x:RV):Array Value:=#[.bool x.s,.string x.a,.string x.d]
theorem Zpk (a b:ByteArray):a.toList=b.toList↔a=b:=by
 rw [Lib.toList_data,Lib.toList_data]
 exact⟨fun e=>Zch e,fun e=>by rw [e]⟩
theorem Zl1 (ox oy:Operand) (x:RV) (y:RV) (w:World):(do eqGuard .eql 25 ox oy (.agg #[.bool x.s,.string x.a,.string x.d]) (.agg #[.bool y.s,.string y.a,.string y.d]);binOp .eql 25 (.agg #[.bool x.s,.string x.a,.string x.d]) (.agg #[.bool y.s,.string y.a,.string y.d]):Sem Value).run Tryz.prog w= .ok (.bool (decide (x=y))) w:=by
 by_cases H:x=y
 ·obtain rfl:=H
  simp [go_sem]
 ·rw [decide_eq_false H]
  simp [go_sem,Zpk]
  first
   |(intros;intro _;exact H (RV.ext ωs ωs ωs))
   |((repeat' split)<;>first
    |rfl
    |(intros;exact absurd (RV.ext ωs ωs ωs) H)
    |(intros;intro _;exact H (RV.ext ωs ωs ωs)))
theorem Zh {f : FuncId} {fn : Func} {c : Code} {nt : Nat} (hf : Tryz.prog.funcs[f]? = some fn) (hb : fn.body = some c) (hn : (fn.name == "runtime.NumGoroutine") = false) (hnt : fn.ntmps = nt) {rs : List ResultVar} (hrs : fn.results = ⟨rs⟩)
  (hc:codeOk c=true) {args:List AV} {r:AV} (hargs:freeAVs args=true) (hlen:Nat.ble args.length nt=true)
  (h:sp (prmOf Tryz.prog nt) c (RetIs (prmOf Tryz.prog nt) rs r) (envArgs 0 args) noMem):Spec Tryz.prog Tab f args r:=
 ZeD (p:=prmOf Tryz.prog nt) hf hb hn hnt rfl rfl hrs Zgz (fun _ _ h hb=>h.below hb (Nat.le_refl _)) mixed hc hargs hlen h
abbrev Ask (f:FuncId) (args:List AV) (K:AV→Prop):Prop:=∃ v,CallR Tryz.prog Tab f args v∧K v
theorem use {f:FuncId} {args:List AV} {r:AV} {K:AV→Prop} (h:Spec Tryz.prog Tab f args r) (hr:r.hs= []) (k:K r):Ask f args K:=⟨r,Zoc hr h,k⟩
theorem useN {f:FuncId} {args:List AV} {T n:Nat} {xs:List (List D)} {K:AV→Prop} (h:SpecR Tryz.prog Tab f args T n xs) (k:K (.new T n xs)):Ask f args K:=⟨.new T n xs,h,k⟩
theorem ZlV {f : FuncId} {fn : Func} {c : Code} {nt : Nat} (hf : Tryz.prog.funcs[f]? = some fn) (hb : fn.body = some c) (hn : (fn.name == "runtime.NumGoroutine") = false) (hnt : fn.ntmps = nt) {rs : List ResultVar} (hrs : fn.results = ⟨rs⟩)
  (hc:codeOk c=true) {args:List AV} {T n:Nat} {xs:List (List D)} (hargs:freeAVs args=true) (hlen:Nat.ble args.length nt=true)
  (h:sp (prmOf Tryz.prog nt) c (RetNew rs T n xs) (envArgs 0 args) noMem):SpecR Tryz.prog Tab f args T n xs:=
 Zh0 (p:=prmOf Tryz.prog nt) hf hb hn hnt rfl rfl hrs Zgz (fun _ _ h hb=>h.below hb (Nat.le_refl _)) mixed hc hargs hlen h
theorem ZcJ (own : List Nat) {f : FuncId} {fn : Func} {c : Code} {nt : Nat} (hf : Tryz.prog.funcs[f]? = some fn) (hb : fn.body = some c) (hn : (fn.name == "runtime.NumGoroutine") = false) (hnt : fn.ntmps = nt) {rs : List ResultVar} (hrs : fn.results = ⟨rs⟩)
  (hc:codeOk c=true) {args:List AV} {r:AV} (hargs:freeAVs args=true) (hlen:Nat.ble args.length nt=true)
  (h:sp (prmOwn Tryz.prog nt own) c (RetIs (prmOwn Tryz.prog nt own) rs r) (envArgs 0 args) noMem):Spec Tryz.prog Tab f args r:=
 ZeD (p:=prmOwn Tryz.prog nt own) hf hb hn hnt rfl rfl hrs Zgz (fun _ _ h hb=>h.below hb (Nat.le_refl _)) mixed hc hargs hlen h
theorem Zo3 (own : List Nat) {f : FuncId} {fn : Func} {c : Code} {nt : Nat} (hf : Tryz.prog.funcs[f]? = some fn) (hb : fn.body = some c) (hn : (fn.name == "runtime.NumGoroutine") = false) (hnt : fn.ntmps = nt) {rs : List ResultVar} (hrs : fn.results = ⟨rs⟩)
  (hc:codeOk c=true) {args:List AV} (hargs:freeAVs args=true) (hlen:Nat.ble args.length nt=true)
  (h:sp (prmOwn Tryz.prog nt own) c (RetNil rs) (envArgs 0 args) noMem):Spec Tryz.prog Tab f args (.val (.one (.d (.v (.slice none 0 0))))):=
 ZmW (p:=prmOwn Tryz.prog nt own) hf hb hn hnt rfl rfl hrs Zgz (fun _ _ h hb=>h.below hb (Nat.le_refl _)) mixed hc hargs hlen h
theorem fn_T (own : List Nat) {f : FuncId} {fn : Func} {c : Code} {nt : Nat} (hf : Tryz.prog.funcs[f]? = some fn) (hb : fn.body = some c) (hn : (fn.name == "runtime.NumGoroutine") = false) (hnt : fn.ntmps = nt) {rs : List ResultVar} (hrs : fn.results = ⟨rs⟩)
  (hc:codeOk c=true) {args:List AV} {T n:Nat} {xs:List (List D)} {T' n':Nat} {ys:List (List D)} (hargs:argsT args=true) (hlen:Nat.ble args.length nt=true)
  (h:sp (prmOwn Tryz.prog nt own) c (RetNew rs T' n' ys) (envArgs 0 args) (memT T n xs)):SpecT Tryz.prog Tab f args T n xs T' n' ys:=
 Zrv (p:=prmOwn Tryz.prog nt own) hf hb hn hnt rfl rfl hrs Zgz mixed hc hargs hlen h
theorem fn_L (i : Nat) (own : List Nat) {f : FuncId} {fn : Func} {c : Code} {nt : Nat} (hf : Tryz.prog.funcs[f]? = some fn) (hb : fn.body = some c) (hn : (fn.name == "runtime.NumGoroutine") = false) (hnt : fn.ntmps = nt) {rs : List ResultVar} (hrs : fn.results = ⟨rs⟩)
  (hc:codeOk c=true) {args:List AV} {T n:Nat} {xs:List (List D)} {r:AV} (hargs:argsT args=true) (hlen:Nat.ble args.length nt=true) (hai:args[i]? =some (.val (.one (.row 1000 0))))
  (h:sp (prmL Tryz.prog nt i own) c (RetL (prmL Tryz.prog nt i own) rs r i T n xs) (envArgs 0 args) (memT T n xs)):SpecL Tryz.prog Tab f args T n xs r:=
 Zrw (p:=prmL Tryz.prog nt i own) hf hb hn hnt rfl rfl hrs Zgz mixed hc hargs hlen hai h
theorem RV.z1 (x:RV):qs x.q≤x.z+1:=by have:=x.qs_le;omega
section
variable {x y : RV} {K : AV → Prop}
theorem Za9 (hx:x.z≤4398046511104) (hy:y.z≤4398046511104) (k:∀ q,q=x.q+y.q→(cn q).z≤x.z+y.z+3→K (rat (cn q))):Ask 9 [rat x,rat y] K:=
 use (ZkN x y hx hy) rfl (k _ rfl (by have:=ZaF x.q y.q;have:=x.z1;have:=y.z1;rw [cn_z];omega))
theorem Zb6 (hx:x.z≤4398046511104) (hy:y.z≤4398046511104) (k:∀ q,q=x.q - y.q→(cn q).z≤x.z+y.z+3→K (rat (cn q))):Ask 10 [rat x,rat y] K:=
 use (ZkG x y hx hy) rfl (k _ rfl (by have:=Zbv x.q y.q;have:=x.z1;have:=y.z1;rw [cn_z];omega))
theorem Za8 (hx:x.z≤4398046511104) (hy:y.z≤4398046511104) (k:∀ q,q=x.q*y.q→(cn q).z≤x.z+y.z+2→K (rat (cn q))):Ask 11 [rat x,rat y] K:=
 use (ZkJ x y hx hy) rfl (k _ rfl (by have:=Z2 x.q y.q;have:=x.z1;have:=y.z1;rw [cn_z];omega))
theorem ZbG (hx:x.z≤4398046511104) (k:∀ q,q=-x.q→(cn q).z≤x.z+1→K (rat (cn q))):Ask 45 [rat x] K:=
 use (ZkI x hx) rfl (k _ rfl (by have:=Zdl x.q;have:=x.z1;rw [cn_z];omega))
theorem k_of (n:Int) (h1:-9223372036854775808≤n) (h2:n≤9223372036854775807) (k:∀ q,q=(n:Rat)→(cn q).z≤8→K (rat (cn q))):Ask 6 [int n] K:=
 use (Znn n h1 h2) rfl (k _ rfl (by have:=ZaR h1 h2;rw [cn_z];omega))
theorem Zbw (hx:x.z≤4398046511104) (k:∀ q,q=x.q→(cn q).z≤x.z+1→K (rat (cn q))):Ask 56 [rat x,rat x] K:=
 use (by have:=ZfM x x hx hx;rwa [ite_self] at this) rfl (k _ rfl (by have:=x.z1;rw [cn_z];omega))
theorem Zmq (p q:Rat):cmpQ p q≤0↔p≤q:=by
 unfold cmpQ
 by_cases h1:p< q
 ·rw [if_pos h1];exact⟨fun _=>Rat.le_of_lt h1,fun _=>ω⟩
 ·rw [if_neg h1]
  by_cases h2:q< p
  ·rw [if_pos h2];exact⟨fun h=>ω,fun h=>absurd h2 (Rat.not_lt.2 h)⟩
  ·rw [if_neg h2];exact⟨fun _=>Rat.not_lt.1 h2,fun _=>Int.le_refl _⟩
theorem Zmr (p q:Rat):0≤cmpQ p q↔q≤p:=by
 unfold cmpQ
 by_cases h1:p< q
 ·rw [if_pos h1];exact⟨fun h=>ω,fun h=>absurd h1 (Rat.not_lt.2 h)⟩
 ·rw [if_neg h1]
  by_cases h2:q< p
  ·rw [if_pos h2];exact⟨fun _=>Rat.le_of_lt h2,fun _=>ω⟩
  ·rw [if_neg h2];exact⟨fun _=>Rat.not_lt.1 h1,fun _=>Int.le_refl _⟩
theorem ZbM (p q:Rat):0< cmpQ p q↔q< p:=by
 have:=Zmq p q
 rw [← Rat.not_le,← this];omega
theorem ZqW (p q:Rat):cmpQ p q< 0↔p< q:=by
 have:=Zmr p q
 rw [← Rat.not_le,← this];omega
def minQ (p q:Rat):Rat:=if p≤q then p else q
def maxQ (p q:Rat):Rat:=if q≤p then p else q
theorem ZnS (hx:x.z≤4398046511104) (hy:y.z≤4398046511104) (k:∀ q,q=minQ x.q y.q→(cn q).z≤x.z+y.z+1→K (rat (cn q))):Ask 56 [rat x,rat y] K:=
 use (by have:=ZfM x y hx hy;simp only [Zmq] at this;exact this) rfl (k _ rfl (by have:=x.z1;have:=y.z1;rw [cn_z];unfold minQ;split<;>omega))
theorem ZnT (hx:x.z≤4398046511104) (hy:y.z≤4398046511104) (k:∀ q,q=maxQ x.q y.q→(cn q).z≤x.z+y.z+1→K (rat (cn q))):Ask 94 [rat x,rat y] K:=
 use (by have:=ZkK x y hx hy;simp only [Zmr] at this;exact this) rfl (k _ rfl (by have:=x.z1;have:=y.z1;rw [cn_z];unfold maxQ;split<;>omega))
theorem ZcO (hx:x.z≤4398046511104) (hy:y.z≤4398046511104) (k:∀ n,n=cmpQ x.q y.q→K (int n)):Ask 13 [rat x,rat y] K:=
 use (ZfN x y hx hy) rfl (k _ rfl)
theorem ZcH (hx:x.z≤4398046511104) (k:∀ n,n=sgnQ x.q→K (int n)):Ask 24 [rat x] K:=
 use (Zjq x hx) rfl (k _ rfl)
theorem ZoW (hx:x.z≤4398046511104) (k:∀ b,b=decide x.good→K (bool b)):Ask 106 [rat x] K:=
 use (Zjs x hx) rfl (k _ rfl)
theorem Zhp (hx:x.z≤4398046511104) (hy:y.z≤4398046511104) (h0:y.q≠0) (k:∀ q,q=x.q / y.q→(cn q).z≤x.z+y.z+3→K (two (rat (cn q)) (int 0))):Ask 53 [rat x,rat y] K:=
 use (by have:=ZkM x y hx hy;simp only [quotR,quotE,if_neg h0] at this;exact this) rfl (k _ rfl (by have:=Zb2 x.q y.q;have:=x.z1;have:=y.z1;rw [cn_z];omega))
theorem Zit (hx:x.z≤4398046511104) (k1:x.good→K (bool true)) (k0:¬ x.good→K (bool false)):Ask 106 [rat x] K:=by
 by_cases h:x.good
 ·exact ZoW hx fun b hb=>by rw [hb,decide_eq_true h];exact k1 h
 ·exact ZoW hx fun b hb=>by rw [hb,decide_eq_false h];exact k0 h
theorem Zsr (hx:x.z≤4398046511104) (hy:y.z≤4398046511104) (k1:x.q< y.q→K (int (-1))) (k2:x.q=y.q→K (int 0)) (k3:y.q< x.q→K (int 1)):Ask 13 [rat x,rat y] K:=by
 refine ZcO hx hy fun n hn=> ?_
 unfold cmpQ at hn
 by_cases h1:x.q< y.q
 ·rw [if_pos h1] at hn;rw [hn];exact k1 h1
 ·rw [if_neg h1] at hn
  by_cases h2:y.q< x.q
  ·rw [if_pos h2] at hn;rw [hn];exact k3 h2
  ·rw [if_neg h2] at hn;rw [hn];exact k2 (Rat.le_antisymm (Rat.not_lt.1 h2) (Rat.not_lt.1 h1))
theorem Zku (q:Rat):q.num< 0↔q< 0:=by
 rw [← Rat.not_le,← Rat.num_nonneg];omega
theorem ZeI (q:Rat):q.num=0↔q=0:=Rat.num_eq_zero
theorem Zm2 (q:Rat):0< sgnQ q↔0< q:=by
 unfold sgnQ
 by_cases h1:q.num=0
 ·rw [if_pos h1];have:=(ZeI _).1 h1;subst this;exact⟨fun h=>ω,fun h=>absurd h (Rat.lt_irrefl)⟩
 ·rw [if_neg h1]
  by_cases h2:q.num< 0
  ·rw [if_pos h2];exact⟨fun h=>ω,fun h=>absurd h (Rat.not_lt.2 (Rat.le_of_lt ((Zku _).1 h2)))⟩
  ·rw [if_neg h2]
   refine⟨fun _=>Rat.not_le.1 fun h=> ?_,fun _=>ω⟩
   rcases Rat.le_iff_lt_or_eq.1 h with h|h
   ·exact h2 ((Zku _).2 h)
   ·exact h1 ((ZeI _).2 h)
abbrev AskB (op:BinOp) (T:TypeId) (ox oy:Operand) (p q:Value) (K:AV→Prop):Prop:=∃ r,(∃ v,r=one v∧flat v=true∧∀ w,(do eqGuard op T ox oy p q;binOp op T p q:Sem Value).run Tryz.prog w= .ok v w)∧K r
theorem useB {op:BinOp} {T:TypeId} {ox oy:Operand} {p q:Value} {K:AV→Prop} {b:Bool} (h:∀ w,(do eqGuard op T ox oy p q;binOp op T p q:Sem Value).run Tryz.prog w= .ok (.bool b) w) (k:K (bool b)):AskB op T ox oy p q K:=
 ⟨_,⟨.bool b,rfl,rfl,h⟩,k⟩
theorem Zdu {ox oy:Operand} {x:RV} {y:RV} (H:x=y) (k:K (bool true)):AskB .eql 25 ox oy (.agg ⟨[.bool x.s,.string x.a,.string x.d]⟩) (.agg ⟨[.bool y.s,.string y.a,.string y.d]⟩) K:=useB (fun w=>by have:=Zl1 ox oy x y w;rw [decide_eq_true H] at this;exact this) k
theorem Zho {ox oy:Operand} {x:RV} {y:RV} (k1:x=y→K (bool true)) (k0:¬ (x=y)→K (bool false)):AskB .eql 25 ox oy (.agg ⟨[.bool x.s,.string x.a,.string x.d]⟩) (.agg ⟨[.bool y.s,.string y.a,.string y.d]⟩) K:=by
 by_cases H:x=y
 ·exact Zdu H (k1 H)
 ·exact useB (fun w=>by have:=Zl1 ox oy x y w;rw [decide_eq_false H] at this;exact this) (k0 H)
end
theorem Zfg {P:Program} {G:World→Prop} {f:FuncId} {args:List AV} {vals:List Value} {r:AV} {x:Value} (h:Spec P G f args r) (hr:pv r=some x) {w:World} (hG:G w) (hrel:Rel2 (fun y v=>DenAV w (fun _=>False) noBs noMem y v) vals args):
  Calls P f vals.toArray w fun e w'=>e= .returned x∧Below w.heap.size w w':=
 Calls.mono (h.2 w (fun _=>False) vals hG (fun b hb=>hb.elim) hrel) fun e w' ⟨y,he,hd,hb⟩=>⟨by rw [he,(ZfP hr).1 hd],hb⟩
theorem ZdY {P:Program} {G:World→Prop} {f:FuncId} {args:List AV} {vals:List Value} {r:AV} {x:Value} (h:Spec P G f args r) (hr:pv r=some x) {w:World} {I:Nat→Prop} (hG:G w) (hI:∀ b,I b→b< w.heap.size) (hrel:Rel2 (fun y v=>DenAV w I noBs noMem y v) vals args):
  Calls P f vals.toArray w fun e w'=>e= .returned x∧Below w.heap.size w w':=
 Calls.mono (h.2 w I vals hG hI hrel) fun e w' ⟨y,he,hd,hb⟩=>⟨by rw [he,(ZfP hr).1 hd],hb⟩
theorem Zg3 {w:World} {I:Nat→Prop} {bs:Bs} {mem:Mem}:∀ {vs:List AV} {l:List Value},pvl vs=some l→Rel2 (fun y v=>DenAV w I bs mem y v) l vs
 | [],l,h=>by simp only [pvl,Option.some.injEq] at h;subst h;exact Rel2.nil
 |v :: vs,l,h=>by
  simp only [pvl] at h
  split at h
  ·rename_i x l' hx hl
   obtain rfl:=(Option.some.inj h).symm
   exact(Zg3 hl).cons ((ZfP hx).2 rfl)
  ·simp at h
