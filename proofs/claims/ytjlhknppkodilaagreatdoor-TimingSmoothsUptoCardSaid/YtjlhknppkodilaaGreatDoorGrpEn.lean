/- Joined by wip/bundle.py: XEngR XEngS XEngU. -/
import Derived.Test.YtjlhknppkodilaaGreatDoorEngT
import Derived.Test.YtjlhknppkodilaaGreatDoorGrpJ
namespace Go.Proofs.YtjlhknppkodilaaGreatDoor.eng
open Go.RowKit num mem seg q held ratA ratB ratC ratD ratE vars ratF
def pvs:List C→Option (List Value)
 | []=>some []
 |c :: r=>match c with
  | .d (.v x)=>bif flat x then (match pvs r with
   |some l=>some (x :: l)
   |none=>none) else none
  |_=>none
def pvS:S→Option Value
 | .one c=>match c with
  | .d (.v x)=>bif flat x then some x else none
  |_=>none
 | .agg cs=>match pvs cs with
  |some l=>some (.agg ⟨l⟩)
  |none=>none
def pvSs:List S→Option (List Value)
 | []=>some []
 |c :: r=>match pvS c,pvSs r with
  |some x,some l=>some (x :: l)
  |_,_=>none
def pv:AV→Option Value
 | .val s=>pvS s
 | .tup l=>match pvSs l with
  |some l=>some (.tuple ⟨l⟩)
  |none=>none
 | .junk=>none
 | .new _ _ _=>none
def pvl:List AV→Option (List Value)
 | []=>some []
 |c :: r=>match pv c,pvl r with
  |some x,some l=>some (x :: l)
  |_,_=>none
section
variable {w : World} {I : Nat → Prop} {bs : Bs} {mem : Mem}
theorem Ze3:∀ {cs:List C} {l xs:List Value},pvs cs=some l→(Rel2 (fun y c=>DenC w I bs mem y c) xs cs↔xs=l)
 | [],l,xs,h=>by
  simp only [pvs,Option.some.injEq] at h
  subst h
  exact⟨fun h=>List.eq_nil_of_length_eq_zero h.1,fun h=>by subst h;exact Rel2.nil⟩
 |c :: cs,l,xs,h=>by
  simp only [pvs] at h
  split at h
  ·rename_i x
   cases hf:flat x with
   |false=>rw [hf] at h;simp at h
   |true=>
    rw [hf] at h
    simp only [cond_true] at h
    split at h
    ·rename_i l' hl
     obtain rfl:=(Option.some.inj h).symm
     constructor
     ·intro hr
      cases xs with
      |nil=>have:=hr.1;simp at this
      |cons y ys=>
       obtain⟨h1,h2⟩:=hr.of_cons
       have h1':Den w I y (.v x):=h1
       rw [(Ze3 hl).1 h2]
       cases h1';rfl
     ·intro hx
      subst hx
      exact((Ze3 hl).2 rfl).cons (Den.v x hf)
    ·simp at h
  ·simp at h
theorem ZgX {s:S} {v x:Value} (h:pvS s=some v):DenS w I bs mem x s↔x=v:=by
 cases s with
 |one c=>
  simp only [pvS] at h
  split at h
  ·rename_i y
   cases hf:flat y with
   |false=>rw [hf] at h;simp at h
   |true=>
    rw [hf] at h
    obtain rfl:=(Option.some.inj h).symm
    constructor
    ·intro hd
     have hd':Den w I x (.v v):=hd
     cases hd';rfl
    ·intro e
     subst e
     exact Den.v x hf
  ·simp at h
 |agg cs=>
  simp only [pvS] at h
  split at h
  ·rename_i l hl
   obtain rfl:=(Option.some.inj h).symm
   constructor
   ·rintro⟨xs,rfl,h1,h2⟩
    rw [(Ze3 hl).1 ⟨h1,h2⟩]
   ·intro e
    subst e
    have:=(Ze3 (w:=w) (I:=I) (bs:=bs) (mem:=mem) hl).2 rfl
    exact⟨l,rfl,this.1,this.2⟩
  ·simp at h
theorem Zdf:∀ {ss:List S} {l xs:List Value},pvSs ss=some l→(Rel2 (fun y s=>DenS w I bs mem y s) xs ss↔xs=l)
 | [],l,xs,h=>by
  simp only [pvSs,Option.some.injEq] at h
  subst h
  exact⟨fun h=>List.eq_nil_of_length_eq_zero h.1,fun h=>by subst h;exact Rel2.nil⟩
 |s :: ss,l,xs,h=>by
  simp only [pvSs] at h
  split at h
  ·rename_i x l' hx hl
   obtain rfl:=(Option.some.inj h).symm
   constructor
   ·intro hr
    cases xs with
    |nil=>have:=hr.1;simp at this
    |cons y ys=>
     obtain⟨h1,h2⟩:=hr.of_cons
     rw [(Zdf hl).1 h2,(ZgX hx).1 h1]
   ·intro e
    subst e
    exact((Zdf hl).2 rfl).cons ((ZgX hx).2 rfl)
  ·simp at h
theorem ZfS {v:AV} {x y:Value} (h:pv v=some x):DenAV w I bs mem y v↔y=x:=by
 cases v with
 |val s=>exact ZgX h
 |junk=>simp [pv] at h
 |new _ _ _=>simp [pv] at h
 |tup l=>
  simp only [pv] at h
  split at h
  ·rename_i l' hl
   obtain rfl:=(Option.some.inj h).symm
   constructor
   ·rintro⟨xs,rfl,h1,h2⟩
    rw [(Zdf hl).1 ⟨h1,h2⟩]
   ·intro e
    subst e
    have:=(Zdf (w:=w) (I:=I) (bs:=bs) (mem:=mem) hl).2 rfl
    exact⟨l',rfl,this.1,this.2⟩
  ·simp at h
theorem Zh4:∀ {vs:List AV} {l xs:List Value},pvl vs=some l→Rel2 (fun y v=>DenAV w I bs mem y v) xs vs→xs=l
 | [],l,xs,h,hr=>by
  simp only [pvl,Option.some.injEq] at h
  subst h
  exact List.eq_nil_of_length_eq_zero hr.1
 |v :: vs,l,xs,h,hr=>by
  simp only [pvl] at h
  split at h
  ·rename_i x l' hx hl
   obtain rfl:=(Option.some.inj h).symm
   cases xs with
   |nil=>have:=hr.1;simp at this
   |cons y ys=>
    obtain⟨h1,h2⟩:=hr.of_cons
    rw [Zh4 hl h2,(ZfS hx).1 h1]
  ·simp at h
end
theorem Zu {P:Program} {G:World→Prop} {f:FuncId} {args:List AV} {vals:List Value} {r:AV} {x:Value} (he:Enters P f) (ha:pvl args=some vals) (hr:pv r=some x)
  (h:∀ w,G w→Calls P f vals.toArray w fun e w'=>e= .returned x∧Below w.heap.size w w'):Spec P G f args r:=by
 refine⟨he,fun w I vs hG _ hrel=> ?_⟩
 obtain rfl:=Zh4 ha hrel
 exact Calls.mono (h w hG) fun e w' ⟨h1,h2⟩=>⟨x,h1,(ZfS hr).2 rfl,h2⟩
structure RV where
 s:Bool
 a:ByteArray
 d:ByteArray
def RV.q (x:RV):Rat:=qv x.s x.a x.d
def RV.z (x:RV):Nat:=max x.a.size x.d.size
def cn (q:Rat):RV:=⟨decide (q.num< 0),enc q.num.natAbs,enc q.den⟩
theorem cn_q (q:Rat):(cn q).q=q:=Zpe q
theorem cn_z (q:Rat):(cn q).z=qs q:=rfl
theorem RV.qs_le (x:RV):qs x.q≤max x.z 1:=Zd4 x.s x.a x.d
def RV.good (x:RV):Prop:=q.good x.s x.a x.d
instance (x:RV):Decidable x.good:=by unfold RV.good;infer_instance
theorem ZoI (q:Rat):(cn q).good:=Zlv q
theorem RV.good_cn {x:RV} (h:x.good):x=cn x.q:=by
 have:=Zet h
 obtain⟨h1,h2,h3⟩:=this
 cases x
 simp only [RV.q,cn,RV.mk.injEq]
 exact⟨h1,h2,h3⟩
def rat (x:RV):AV:= .val (.agg [.d (.v (.bool x.s)),.d (.v (.string x.a)),.d (.v (.string x.d))])
def int (n:Int):AV:= .val (.one (.d (.v (.int .i64 n))))
def bool (b:Bool):AV:= .val (.one (.d (.v (.bool b))))
theorem Zgi {p:Rat} {u:Bool} {c f:ByteArray} (h:Is p u c f):u=(cn p).s∧c=(cn p).a∧f=(cn p).d:=h
section
variable {K : AV → Prop}
theorem ask {P:Program} {G:World→Prop} {f:FuncId} {args:List AV} {r:AV} (hr:r.hs= []) (h:Spec P G f args r) (k:K r):∃ v,(v.hs= []∧Spec P G f args v)∧K v:=⟨r,⟨hr,h⟩,k⟩
theorem ZV {x:RV} {n:Nat} (h:x.z≤n):x.a.size≤n∧x.d.size≤n:=by unfold RV.z at h;omega
theorem ZkB (x y:RV) (hx:x.z≤4398046511104) (hy:y.z≤4398046511104):Spec Tryz.prog Tab 16 [rat x,rat y] (rat (cn (x.q+y.q))):=by
 obtain⟨h1,h2⟩:=ZV hx
 obtain⟨h3,h4⟩:=ZV hy
 refine Zu (Zt Tryz.func16 rfl rfl) rfl rfl fun w hT=> ?_
 refine(Zh1 x.s x.a x.d y.s y.a y.d w h1 h2 h3 h4 hT).mono fun e w' ⟨u,c,f,he,hi,hb⟩=> ?_
 obtain⟨rfl,rfl,rfl⟩:=Zgi hi
 exact⟨he,hb⟩
theorem Zku (x y:RV) (hx:x.z≤4398046511104) (hy:y.z≤4398046511104):Spec Tryz.prog Tab 12 [rat x,rat y] (rat (cn (x.q - y.q))):=by
 obtain⟨h1,h2⟩:=ZV hx
 obtain⟨h3,h4⟩:=ZV hy
 refine Zu (Zt Tryz.func12 rfl rfl) rfl rfl fun w hT=> ?_
 refine(ZmH x.s x.a x.d y.s y.a y.d w h1 h2 h3 h4 hT).mono fun e w' ⟨u,c,f,he,hi,hb⟩=> ?_
 obtain⟨rfl,rfl,rfl⟩:=Zgi hi
 exact⟨he,hb⟩
theorem Zkx (x y:RV) (hx:x.z≤4398046511104) (hy:y.z≤4398046511104):Spec Tryz.prog Tab 32 [rat x,rat y] (rat (cn (x.q*y.q))):=by
 obtain⟨h1,h2⟩:=ZV hx
 obtain⟨h3,h4⟩:=ZV hy
 refine Zu (Zt Tryz.func32 rfl rfl) rfl rfl fun w hT=> ?_
 refine(ZmJ x.s x.a x.d y.s y.a y.d w h1 h2 h3 h4 hT).mono fun e w' ⟨u,c,f,he,hi,hb⟩=> ?_
 obtain⟨rfl,rfl,rfl⟩:=Zgi hi
 exact⟨he,hb⟩
theorem Zkw (x:RV) (hx:x.z≤4398046511104):Spec Tryz.prog Tab 15 [rat x] (rat (cn (-x.q))):=by
 obtain⟨h1,h2⟩:=ZV hx
 refine Zu (Zt Tryz.func15 rfl rfl) rfl rfl fun w hT=> ?_
 refine(Zh0 x.s x.a x.d w (by omega) (by omega) hT).mono fun e w' ⟨u,c,f,he,hi,hb⟩=> ?_
 obtain⟨rfl,rfl,rfl⟩:=Zgi hi
 exact⟨he,hb⟩
theorem ZmI (n:Int) (h1:-9223372036854775808≤n) (h2:n≤9223372036854775807):Spec Tryz.prog Tab 34 [int n] (rat (cn (n:Rat))):=by
 refine Zu (Zt Tryz.func34 rfl rfl) rfl rfl fun w hT=> ?_
 refine(Zoj n w h1 h2 hT).mono fun e w' ⟨u,c,f,he,hi,hb⟩=> ?_
 obtain⟨rfl,rfl,rfl⟩:=Zgi hi
 exact⟨he,hb⟩
theorem Zky (x y:RV) (hx:x.z≤4398046511104) (hy:y.z≤4398046511104):Spec Tryz.prog Tab 33 [rat x,rat y] (rat (cn (if cmpQ x.q y.q≤0 then x.q else y.q))):=by
 obtain⟨h1,h2⟩:=ZV hx
 obtain⟨h3,h4⟩:=ZV hy
 refine Zu (Zt Tryz.func33 rfl rfl) rfl rfl fun w hT=> ?_
 refine(ZmK x.s x.a x.d y.s y.a y.d w h1 h2 h3 h4 hT).mono fun e w' ⟨u,c,f,he,hi,hb⟩=> ?_
 obtain⟨rfl,rfl,rfl⟩:=Zgi hi
 exact⟨he,hb⟩
theorem ZkA (x y:RV) (hx:x.z≤4398046511104) (hy:y.z≤4398046511104):Spec Tryz.prog Tab 14 [rat x,rat y] (int (cmpQ x.q y.q)):=by
 obtain⟨h1,h2⟩:=ZV hx
 obtain⟨h3,h4⟩:=ZV hy
 refine Zu (Zt Tryz.func14 rfl rfl) rfl rfl fun w hT=> ?_
 exact Ze1 x.s x.a x.d y.s y.a y.d w h1 h2 h3 h4 hT
theorem Zi4 (x:RV) (hx:x.z≤4398046511104):Spec Tryz.prog Tab 28 [rat x] (int (sgnQ x.q)):=by
 obtain⟨h1,h2⟩:=ZV hx
 refine Zu (Zt Tryz.func28 rfl rfl) rfl rfl fun w hT=> ?_
 exact Zkv x.s x.a x.d w (by omega) (by omega) hT
theorem Zi5 (x:RV) (hx:x.z≤4398046511104):Spec Tryz.prog Tab 61 [rat x] (bool (decide x.good)):=by
 obtain⟨h1,h2⟩:=ZV hx
 refine Zu (Zt Tryz.func61 rfl rfl) rfl rfl fun w hT=> ?_
 exact Zfu x.s x.a x.d w (by omega) (by omega) hT
def z0:RV:=⟨false,⟨#[]⟩,⟨#[]⟩⟩
def quotR (p q:Rat):RV:=if q=0 then z0 else cn (p / q)
def quotE (q:Rat):Int:=if q=0 then 12 else 0
def two (s t:AV):AV:=
 match s,t with
 | .val s,.val t=> .tup [s,t]
 |_,_=> .junk
theorem Zkz (x y:RV) (hx:x.z≤4398046511104) (hy:y.z≤4398046511104):Spec Tryz.prog Tab 30 [rat x,rat y] (two (rat (quotR x.q y.q)) (int (quotE y.q))):=by
 obtain⟨h1,h2⟩:=ZV hx
 obtain⟨h3,h4⟩:=ZV hy
 refine Zu (Zt Tryz.func30 rfl rfl) rfl rfl fun w hT=> ?_
 refine(ZmL x.s x.a x.d y.s y.a y.d w h1 h2 h3 h4 hT).mono fun e w' ⟨u,c,f,k,he,hi,hb⟩=> ?_
 refine⟨he.trans ?_,hb⟩
 rcases hi with ⟨h5,rfl,rfl,rfl,rfl⟩|⟨h5,rfl,hi⟩
 ·have e0:y.q=0:=h5
  simp only [quotR,quotE,if_pos e0,z0]
 ·have e0:¬ y.q=0:=h5
  obtain⟨rfl,rfl,rfl⟩:=Zgi hi
  simp only [quotR,quotE,if_neg e0]
  rfl
end
end Go.Proofs.YtjlhknppkodilaaGreatDoor.eng
namespace Go.Proofs.YtjlhknppkodilaaGreatDoor.eng
open Go.RowKit num mem seg q held ratA ratB ratC ratD ratE vars ratF
def rc (x:RV):List C:= [.d (.v (.bool x.s)),.d (.v (.string x.a)),.d (.v (.string x.d))]
def pair (x y:RV):AV:= .val (.agg [.d (.v (.bool x.s)),.d (.v (.string x.a)),.d (.v (.string x.d)),.d (.v (.bool y.s)),.d (.v (.string y.a)),.d (.v (.string y.d))])
def box (x y z t:RV):AV:= .val (.agg [.d (.v (.bool x.s)),.d (.v (.string x.a)),.d (.v (.string x.d)),.d (.v (.bool y.s)),.d (.v (.string y.a)),.d (.v (.string y.d)),.d (.v (.bool z.s)),.d (.v (.string z.a)),.d (.v (.string z.d)),.d (.v (.bool t.s)),.d (.v (.string t.a)),.d (.v (.string t.d))])
def frame (x y:RV) (h:Bool) (z:RV):AV:= .val (.agg [.d (.v (.bool x.s)),.d (.v (.string x.a)),.d (.v (.string x.d)),.d (.v (.bool y.s)),.d (.v (.string y.a)),.d (.v (.string y.d)),.d (.v (.bool h)),.d (.v (.bool z.s)),.d (.v (.string z.a)),.d (.v (.string z.d))])
def cell (x y:Int):AV:= .val (.agg [.d (.v (.int .i64 x)),.d (.v (.int .i64 y))])
theorem RV.ext {x y:RV} (h1:x.s=y.s) (h2:x.a=y.a) (h3:x.d=y.d):x=y:=by cases x;cases y;simp_all
instance:DecidableEq RV:=fun x y=>if h:x.s=y.s∧x.a=y.a∧x.d=y.d then isTrue (RV.ext h.1 h.2.1 h.2.2) else isFalse (fun e=>h (by rw [e];exact⟨rfl,rfl,rfl⟩))
def RV.val (x:RV):Array Value:=#[.bool x.s,.string x.a,.string x.d]
theorem Zl5 (a b:ByteArray):a.toList=b.toList↔a=b:=by
 rw [Lib.toList_data,Lib.toList_data]
 exact⟨fun e=>ZbW e,fun e=>by rw [e]⟩
theorem Zoo (ox oy:Operand) (x:RV) (y:RV) (w:World):(do eqGuard .neq 23 ox oy (.agg #[.bool x.s,.string x.a,.string x.d]) (.agg #[.bool y.s,.string y.a,.string y.d]);binOp .neq 23 (.agg #[.bool x.s,.string x.a,.string x.d]) (.agg #[.bool y.s,.string y.a,.string y.d]):Sem Value).run Tryz.prog w= .ok (.bool (!decide (x=y))) w:=by
 by_cases H:x=y
 ·obtain rfl:=H
  simp [go_sem]
 ·rw [decide_eq_false H]
  simp [go_sem,Zl5]
  first
   |(intros;intro _;exact H (RV.ext (by assumption) (by assumption) (by assumption)))
   |((repeat' split)<;>first
    |rfl
    |(intros;exact absurd (RV.ext (by assumption) (by assumption) (by assumption)) H)
    |(intros;intro _;exact H (RV.ext (by assumption) (by assumption) (by assumption))))
end Go.Proofs.YtjlhknppkodilaaGreatDoor.eng
namespace Go.Proofs.YtjlhknppkodilaaGreatDoor.eng
open Go.RowKit num mem seg q held ratA ratB ratC ratD ratE vars ratF
theorem Zf {f : FuncId} {fn : Func} {c : Code} {nt : Nat} (hf : Tryz.prog.funcs[f]? = some fn) (hb : fn.body = some c) (hn : (fn.name == "runtime.NumGoroutine") = false) (hnt : fn.ntmps = nt) {rs : List ResultVar} (hrs : fn.results = ⟨rs⟩)
  (hc:codeOk c=true) {args:List AV} {r:AV} (hargs:freeAVs args=true) (hlen:Nat.ble args.length nt=true)
  (h:sp (prmOf Tryz.prog nt) c (RetIs (prmOf Tryz.prog nt) rs r) (envArgs 0 args) noMem):Spec Tryz.prog Tab f args r:=
 Zdr (p:=prmOf Tryz.prog nt) hf hb hn hnt rfl rfl hrs Zmo (fun _ _ h hb=>h.below hb (Nat.le_refl _)) mixed hc hargs hlen h
abbrev Ask (f:FuncId) (args:List AV) (K:AV→Prop):Prop:=∃ v,CallR Tryz.prog Tab f args v∧K v
theorem use {f:FuncId} {args:List AV} {r:AV} {K:AV→Prop} (h:Spec Tryz.prog Tab f args r) (hr:r.hs= []) (k:K r):Ask f args K:=⟨r,Znp hr h,k⟩
theorem useN {f:FuncId} {args:List AV} {T n:Nat} {xs:List (List D)} {K:AV→Prop} (h:SpecR Tryz.prog Tab f args T n xs) (k:K (.new T n xs)):Ask f args K:=⟨.new T n xs,h,k⟩
theorem ZnU {f : FuncId} {fn : Func} {c : Code} {nt : Nat} (hf : Tryz.prog.funcs[f]? = some fn) (hb : fn.body = some c) (hn : (fn.name == "runtime.NumGoroutine") = false) (hnt : fn.ntmps = nt) {rs : List ResultVar} (hrs : fn.results = ⟨rs⟩)
  (hc:codeOk c=true) {args:List AV} {T n:Nat} {xs:List (List D)} (hargs:freeAVs args=true) (hlen:Nat.ble args.length nt=true)
  (h:sp (prmOf Tryz.prog nt) c (RetNew rs T n xs) (envArgs 0 args) noMem):SpecR Tryz.prog Tab f args T n xs:=
 Zmr (p:=prmOf Tryz.prog nt) hf hb hn hnt rfl rfl hrs Zmo (fun _ _ h hb=>h.below hb (Nat.le_refl _)) mixed hc hargs hlen h
theorem ZlC (own : List Nat) {f : FuncId} {fn : Func} {c : Code} {nt : Nat} (hf : Tryz.prog.funcs[f]? = some fn) (hb : fn.body = some c) (hn : (fn.name == "runtime.NumGoroutine") = false) (hnt : fn.ntmps = nt) {rs : List ResultVar} (hrs : fn.results = ⟨rs⟩)
  (hc:codeOk c=true) {args:List AV} {r:AV} (hargs:freeAVs args=true) (hlen:Nat.ble args.length nt=true)
  (h:sp (prmOwn Tryz.prog nt own) c (RetIs (prmOwn Tryz.prog nt own) rs r) (envArgs 0 args) noMem):Spec Tryz.prog Tab f args r:=
 Zdr (p:=prmOwn Tryz.prog nt own) hf hb hn hnt rfl rfl hrs Zmo (fun _ _ h hb=>h.below hb (Nat.le_refl _)) mixed hc hargs hlen h
theorem fn_L (i : Nat) (own : List Nat) {f : FuncId} {fn : Func} {c : Code} {nt : Nat} (hf : Tryz.prog.funcs[f]? = some fn) (hb : fn.body = some c) (hn : (fn.name == "runtime.NumGoroutine") = false) (hnt : fn.ntmps = nt) {rs : List ResultVar} (hrs : fn.results = ⟨rs⟩)
  (hc:codeOk c=true) {args:List AV} {T n:Nat} {xs:List (List D)} {r:AV} (hargs:argsT args=true) (hlen:Nat.ble args.length nt=true) (hai:args[i]? =some (.val (.one (.row 1000 0))))
  (h:sp (prmL Tryz.prog nt i own) c (RetL (prmL Tryz.prog nt i own) rs r i T n xs) (envArgs 0 args) (memT T n xs)):SpecL Tryz.prog Tab f args T n xs r:=
 Zo1 (p:=prmL Tryz.prog nt i own) hf hb hn hnt rfl rfl hrs Zmo mixed hc hargs hlen hai h
theorem RV.z1 (x:RV):qs x.q≤x.z+1:=by have:=x.qs_le;omega
section
variable {x y : RV} {K : AV → Prop}
theorem Znb (hx:x.z≤4398046511104) (hy:y.z≤4398046511104) (k:∀ q,q=x.q+y.q→(cn q).z≤x.z+y.z+3→K (rat (cn q))):Ask 16 [rat x,rat y] K:=
 use (ZkB x y hx hy) rfl (k _ rfl (by have:=Zek x.q y.q;have:=x.z1;have:=y.z1;rw [cn_z];omega))
theorem Zlf (hx:x.z≤4398046511104) (hy:y.z≤4398046511104) (k:∀ q,q=x.q - y.q→(cn q).z≤x.z+y.z+3→K (rat (cn q))):Ask 12 [rat x,rat y] K:=
 use (Zku x y hx hy) rfl (k _ rfl (by have:=Zcq x.q y.q;have:=x.z1;have:=y.z1;rw [cn_z];omega))
theorem Zhj (hx:x.z≤4398046511104) (hy:y.z≤4398046511104) (k:∀ q,q=x.q*y.q→(cn q).z≤x.z+y.z+2→K (rat (cn q))):Ask 32 [rat x,rat y] K:=
 use (Zkx x y hx hy) rfl (k _ rfl (by have:=Zbo x.q y.q;have:=x.z1;have:=y.z1;rw [cn_z];omega))
theorem Zp7 (hx:x.z≤4398046511104) (k:∀ q,q=-x.q→(cn q).z≤x.z+1→K (rat (cn q))):Ask 15 [rat x] K:=
 use (Zkw x hx) rfl (k _ rfl (by have:=ZfR x.q;have:=x.z1;rw [cn_z];omega))
theorem k_of (n:Int) (h1:-9223372036854775808≤n) (h2:n≤9223372036854775807) (k:∀ q,q=(n:Rat)→(cn q).z≤8→K (rat (cn q))):Ask 34 [int n] K:=
 use (ZmI n h1 h2) rfl (k _ rfl (by have:=Zh2 h1 h2;rw [cn_z];omega))
theorem ZnX (p q:Rat):cmpQ p q≤0↔p≤q:=by
 unfold cmpQ
 by_cases h1:p< q
 ·rw [if_pos h1];exact⟨fun _=>Rat.le_of_lt h1,fun _=>by omega⟩
 ·rw [if_neg h1]
  by_cases h2:q< p
  ·rw [if_pos h2];exact⟨fun h=>by omega,fun h=>absurd h2 (Rat.not_lt.2 h)⟩
  ·rw [if_neg h2];exact⟨fun _=>Rat.not_lt.1 h2,fun _=>Int.le_refl _⟩
theorem Ziv (p q:Rat):0≤cmpQ p q↔q≤p:=by
 unfold cmpQ
 by_cases h1:p< q
 ·rw [if_pos h1];exact⟨fun h=>by omega,fun h=>absurd h1 (Rat.not_lt.2 h)⟩
 ·rw [if_neg h1]
  by_cases h2:q< p
  ·rw [if_pos h2];exact⟨fun _=>Rat.le_of_lt h2,fun _=>by omega⟩
  ·rw [if_neg h2];exact⟨fun _=>Rat.not_lt.1 h1,fun _=>Int.le_refl _⟩
theorem ZoK (p q:Rat):0< cmpQ p q↔q< p:=by
 have:=ZnX p q
 rw [← Rat.not_le,← this];omega
theorem ZoL (p q:Rat):cmpQ p q< 0↔p< q:=by
 have:=Ziv p q
 rw [← Rat.not_le,← this];omega
def minQ (p q:Rat):Rat:=if p≤q then p else q
theorem Zox (hx:x.z≤4398046511104) (hy:y.z≤4398046511104) (k:∀ q,q=minQ x.q y.q→(cn q).z≤x.z+y.z+1→K (rat (cn q))):Ask 33 [rat x,rat y] K:=
 use (by have:=Zky x y hx hy;simp only [ZnX] at this;exact this) rfl (k _ rfl (by have:=x.z1;have:=y.z1;rw [cn_z];unfold minQ;split<;>omega))
theorem Zlj (hx:x.z≤4398046511104) (hy:y.z≤4398046511104) (k:∀ n,n=cmpQ x.q y.q→K (int n)):Ask 14 [rat x,rat y] K:=
 use (ZkA x y hx hy) rfl (k _ rfl)
theorem Zc5 (hx:x.z≤4398046511104) (k:∀ n,n=sgnQ x.q→K (int n)):Ask 28 [rat x] K:=
 use (Zi4 x hx) rfl (k _ rfl)
theorem Zpx (hx:x.z≤4398046511104) (k:∀ b,b=decide x.good→K (bool b)):Ask 61 [rat x] K:=
 use (Zi5 x hx) rfl (k _ rfl)
theorem Zpy (hx:x.z≤4398046511104) (hy:y.z≤4398046511104) (h0:y.q≠0) (k:∀ q,q=x.q / y.q→(cn q).z≤x.z+y.z+3→K (two (rat (cn q)) (int 0))):Ask 30 [rat x,rat y] K:=
 use (by have:=Zkz x y hx hy;simp only [quotR,quotE,if_neg h0] at this;exact this) rfl (k _ rfl (by have:=Zh3 x.q y.q;have:=x.z1;have:=y.z1;rw [cn_z];omega))
theorem ZeT (q:Rat):q.num< 0↔q< 0:=by
 rw [← Rat.not_le,← Rat.num_nonneg];omega
theorem ZeR (q:Rat):q.num=0↔q=0:=Rat.num_eq_zero
theorem ZeS (q:Rat):0< sgnQ q↔0< q:=by
 unfold sgnQ
 by_cases h1:q.num=0
 ·rw [if_pos h1];have:=(ZeR _).1 h1;subst this;exact⟨fun h=>by omega,fun h=>absurd h (Rat.lt_irrefl)⟩
 ·rw [if_neg h1]
  by_cases h2:q.num< 0
  ·rw [if_pos h2];exact⟨fun h=>by omega,fun h=>absurd h (Rat.not_lt.2 (Rat.le_of_lt ((ZeT _).1 h2)))⟩
  ·rw [if_neg h2]
   refine⟨fun _=>Rat.not_le.1 fun h=> ?_,fun _=>by omega⟩
   rcases Rat.le_iff_lt_or_eq.1 h with h|h
   ·exact h2 ((ZeT _).2 h)
   ·exact h1 ((ZeR _).2 h)
abbrev AskB (op:BinOp) (T:TypeId) (ox oy:Operand) (p q:Value) (K:AV→Prop):Prop:=∃ r,(∃ v,r=one v∧flat v=true∧∀ w,(do eqGuard op T ox oy p q;binOp op T p q:Sem Value).run Tryz.prog w= .ok v w)∧K r
theorem useB {op:BinOp} {T:TypeId} {ox oy:Operand} {p q:Value} {K:AV→Prop} {b:Bool} (h:∀ w,(do eqGuard op T ox oy p q;binOp op T p q:Sem Value).run Tryz.prog w= .ok (.bool b) w) (k:K (bool b)):AskB op T ox oy p q K:=
 ⟨_,⟨.bool b,rfl,rfl,h⟩,k⟩
theorem Zhi {ox oy:Operand} {x:RV} {y:RV} (H:x=y) (k:K (bool false)):AskB .neq 23 ox oy (.agg ⟨[.bool x.s,.string x.a,.string x.d]⟩) (.agg ⟨[.bool y.s,.string y.a,.string y.d]⟩) K:=useB (fun w=>by have:=Zoo ox oy x y w;rw [decide_eq_true H] at this;exact this) k
theorem Zin (ox oy:Operand) (b c:Bool) (w:World):(do eqGuard .eql 4 ox oy (.bool b) (.bool c);binOp .eql 4 (.bool b) (.bool c):Sem Value).run Tryz.prog w= .ok (.bool (decide (b=c))) w:=by
 have:(do eqGuard .eql 4 ox oy (.bool b) (.bool c);binOp .eql 4 (.bool b) (.bool c):Sem Value).run Tryz.prog w= .ok (.bool (b==c)) w:=by simp [go_sem]
 rw [this];cases b<;>cases c<;>rfl
theorem ZmS (ox oy:Operand) (b c:Bool) (w:World):(do eqGuard .neq 4 ox oy (.bool b) (.bool c);binOp .neq 4 (.bool b) (.bool c):Sem Value).run Tryz.prog w= .ok (.bool (!decide (b=c))) w:=by
 have:(do eqGuard .neq 4 ox oy (.bool b) (.bool c);binOp .neq 4 (.bool b) (.bool c):Sem Value).run Tryz.prog w= .ok (.bool (!(b==c))) w:=by simp [go_sem]
 rw [this];cases b<;>cases c<;>rfl
theorem Zgf {ox oy:Operand} {b c:Bool} (H:b=c) (k:K (bool true)):AskB .eql 4 ox oy (.bool b) (.bool c) K:=useB (fun w=>by have:=Zin ox oy b c w;rw [decide_eq_true H] at this;exact this) k
theorem Zgg {ox oy:Operand} {b c:Bool} (k1:b=c→K (bool true)) (k0:¬ b=c→K (bool false)):AskB .eql 4 ox oy (.bool b) (.bool c) K:=by
 by_cases H:b=c
 ·exact Zgf H (k1 H)
 ·exact useB (fun w=>by have:=Zin ox oy b c w;rw [decide_eq_false H] at this;exact this) (k0 H)
theorem Zep {ox oy:Operand} {b c:Bool} (k:∀ d,d=(!decide (b=c))→K (bool d)):AskB .neq 4 ox oy (.bool b) (.bool c) K:=useB (fun w=>ZmS ox oy b c w) (k _ rfl)
end
theorem Zd5 {P:Program} {G:World→Prop} {f:FuncId} {args:List AV} {vals:List Value} {r:AV} {x:Value} (h:Spec P G f args r) (hr:pv r=some x) {w:World} {I:Nat→Prop} (hG:G w) (hI:∀ b,I b→b< w.heap.size) (hrel:Rel2 (fun y v=>DenAV w I noBs noMem y v) vals args):
  Calls P f vals.toArray w fun e w'=>e= .returned x∧Below w.heap.size w w':=
 Calls.mono (h.2 w I vals hG hI hrel) fun e w' ⟨y,he,hd,hb⟩=>⟨by rw [he,(ZfS hr).1 hd],hb⟩
theorem ZkG {w:World} {I:Nat→Prop} {bs:Bs} {mem:Mem}:∀ {vs:List AV} {l:List Value},pvl vs=some l→Rel2 (fun y v=>DenAV w I bs mem y v) l vs
 | [],l,h=>by simp only [pvl,Option.some.injEq] at h;subst h;exact Rel2.nil
 |v :: vs,l,h=>by
  simp only [pvl] at h
  split at h
  ·rename_i x l' hx hl
   obtain rfl:=(Option.some.inj h).symm
   exact(ZkG hl).cons ((ZfS hx).2 rfl)
  ·simp at h
end Go.Proofs.YtjlhknppkodilaaGreatDoor.eng
