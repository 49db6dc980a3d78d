/- Joined by wip/bundle.py: XEngR XEngS XEngU. -/
import Derived.Test.YtgmkgfdjolchdaaGreatDoorQEngT
import Derived.Test.YtgmkgfdjolchdaaGreatDoorQGrpJ
namespace Go.Proofs.YtgmkgfdjolchdaaGreatDoor.eng
open Go.RowKit num mem seg q held ratA ratB ratC ratD ratE vars ratF
def pvs:List C→Option (List Value)
 | []=>some []
 |c :: r=>match c with
  | .d (.v x)=>bif flat x then (match pvs r with
   |some l=>some (x :: l)
   |none=>none) else none
  |_=>none
def pvS:S→Option Value
 | .one c=>match c with
  | .d (.v x)=>bif flat x then some x else none
  |_=>none
 | .agg cs=>match pvs cs with
  |some l=>some (.agg ⟨l⟩)
  |none=>none
def pvSs:List S→Option (List Value)
 | []=>some []
 |c :: r=>match pvS c,pvSs r with
  |some x,some l=>some (x :: l)
  |_,_=>none
def pv:AV→Option Value
 | .val s=>pvS s
 | .tup l=>match pvSs l with
  |some l=>some (.tuple ⟨l⟩)
  |none=>none
 | .junk=>none
 | .new _ _ _=>none
def pvl:List AV→Option (List Value)
 | []=>some []
 |c :: r=>match pv c,pvl r with
  |some x,some l=>some (x :: l)
  |_,_=>none
section
variable {w : World} {I : Nat → Prop} {bs : Bs} {mem : Mem}
theorem ZfO:∀ {cs:List C} {l xs:List Value},pvs cs=some l→(Rel2 (fun y c=>DenC w I bs mem y c) xs cs↔xs=l)
 | [],l,xs,h=>by
  simp only [pvs,Option.some.injEq] at h
  subst h
  exact⟨fun h=>List.eq_nil_of_length_eq_zero h.1,fun h=>by subst h;exact Rel2.nil⟩
 |c :: cs,l,xs,h=>by
  simp only [pvs] at h
  split at h
  ·rename_i x
   cases hf:flat x with
   |false=>rw [hf] at h;simp at h
   |true=>
    rw [hf] at h
    simp only [cond_true] at h
    split at h
    ·rename_i l' hl
     obtain rfl:=(Option.some.inj h).symm
     constructor
     ·intro hr
      cases xs with
      |nil=>have:=hr.1;simp at this
      |cons y ys=>
       obtain⟨h1,h2⟩:=hr.of_cons
       have h1':Den w I y (.v x):=h1
       rw [(ZfO hl).1 h2]
       cases h1';rfl
     ·intro hx
      subst hx
      exact((ZfO hl).2 rfl).cons (Den.v x hf)
    ·simp at h
  ·simp at h
theorem Zin {s:S} {v x:Value} (h:pvS s=some v):DenS w I bs mem x s↔x=v:=by
 cases s with
 |one c=>
  simp only [pvS] at h
  split at h
  ·rename_i y
   cases hf:flat y with
   |false=>rw [hf] at h;simp at h
   |true=>
    rw [hf] at h
    obtain rfl:=(Option.some.inj h).symm
    constructor
    ·intro hd
     have hd':Den w I x (.v v):=hd
     cases hd';rfl
    ·intro e
     subst e
     exact Den.v x hf
  ·simp at h
 |agg cs=>
  simp only [pvS] at h
  split at h
  ·rename_i l hl
   obtain rfl:=(Option.some.inj h).symm
   constructor
   ·rintro⟨xs,rfl,h1,h2⟩
    rw [(ZfO hl).1 ⟨h1,h2⟩]
   ·intro e
    subst e
    have:=(ZfO (w:=w) (I:=I) (bs:=bs) (mem:=mem) hl).2 rfl
    exact⟨l,rfl,this.1,this.2⟩
  ·simp at h
theorem Zdv:∀ {ss:List S} {l xs:List Value},pvSs ss=some l→(Rel2 (fun y s=>DenS w I bs mem y s) xs ss↔xs=l)
 | [],l,xs,h=>by
  simp only [pvSs,Option.some.injEq] at h
  subst h
  exact⟨fun h=>List.eq_nil_of_length_eq_zero h.1,fun h=>by subst h;exact Rel2.nil⟩
 |s :: ss,l,xs,h=>by
  simp only [pvSs] at h
  split at h
  ·rename_i x l' hx hl
   obtain rfl:=(Option.some.inj h).symm
   constructor
   ·intro hr
    cases xs with
    |nil=>have:=hr.1;simp at this
    |cons y ys=>
     obtain⟨h1,h2⟩:=hr.of_cons
     rw [(Zdv hl).1 h2,(Zin hx).1 h1]
   ·intro e
    subst e
    exact((Zdv hl).2 rfl).cons ((Zin hx).2 rfl)
  ·simp at h
theorem ZgY {v:AV} {x y:Value} (h:pv v=some x):DenAV w I bs mem y v↔y=x:=by
 cases v with
 |val s=>exact Zin h
 |junk=>simp [pv] at h
 |new _ _ _=>simp [pv] at h
 |tup l=>
  simp only [pv] at h
  split at h
  ·rename_i l' hl
   obtain rfl:=(Option.some.inj h).symm
   constructor
   ·rintro⟨xs,rfl,h1,h2⟩
    rw [(Zdv hl).1 ⟨h1,h2⟩]
   ·intro e
    subst e
    have:=(Zdv (w:=w) (I:=I) (bs:=bs) (mem:=mem) hl).2 rfl
    exact⟨l',rfl,this.1,this.2⟩
  ·simp at h
theorem ZjN:∀ {vs:List AV} {l xs:List Value},pvl vs=some l→Rel2 (fun y v=>DenAV w I bs mem y v) xs vs→xs=l
 | [],l,xs,h,hr=>by
  simp only [pvl,Option.some.injEq] at h
  subst h
  exact List.eq_nil_of_length_eq_zero hr.1
 |v :: vs,l,xs,h,hr=>by
  simp only [pvl] at h
  split at h
  ·rename_i x l' hx hl
   obtain rfl:=(Option.some.inj h).symm
   cases xs with
   |nil=>have:=hr.1;simp at this
   |cons y ys=>
    obtain⟨h1,h2⟩:=hr.of_cons
    rw [ZjN hl h2,(ZgY hx).1 h1]
  ·simp at h
end
theorem Zq {P:Program} {G:World→Prop} {f:FuncId} {args:List AV} {vals:List Value} {r:AV} {x:Value} (he:Enters P f) (ha:pvl args=some vals) (hr:pv r=some x)
  (h:∀ w,G w→Calls P f vals.toArray w fun e w'=>e= .returned x∧Below w.heap.size w w'):Spec P G f args r:=by
 refine⟨he,fun w I vs hG _ hrel=> ?_⟩
 obtain rfl:=ZjN ha hrel
 exact Calls.mono (h w hG) fun e w' ⟨h1,h2⟩=>⟨x,h1,(ZgY hr).2 rfl,h2⟩
structure RV where
 s:Bool
 a:ByteArray
 d:ByteArray
def RV.q (x:RV):Rat:=qv x.s x.a x.d
def RV.z (x:RV):Nat:=max x.a.size x.d.size
def cn (q:Rat):RV:=⟨decide (q.num< 0),enc q.num.natAbs,enc q.den⟩
theorem cn_q (q:Rat):(cn q).q=q:=Zut q
theorem cn_z (q:Rat):(cn q).z=qs q:=rfl
theorem ωz {P:Prop} (h:P:=by simp only [cn_z];omega):P:=h
theorem ωc {P:Prop} (h:P:=by rw [cn_z];decide+kernel):P:=h
theorem ωn {P:Prop} (h:P:=by rw [cn_z];omega):P:=h
theorem RV.qs_le (x:RV):qs x.q≤max x.z 1:=ZeI x.s x.a x.d
def RV.good (x:RV):Prop:=q.good x.s x.a x.d
instance (x:RV):Decidable x.good:=by unfold RV.good;infer_instance
theorem Zi3 (q:Rat):(cn q).good:=Zoo q
theorem RV.good_cn {x:RV} (h:x.good):x=cn x.q:=by
 have:=Ze8 h
 obtain⟨h1,h2,h3⟩:=this
 cases x
 simp only [RV.q,cn,RV.mk.injEq]
 exact⟨h1,h2,h3⟩
def rat (x:RV):AV:= .val (.agg [.d (.v (.bool x.s)),.d (.v (.string x.a)),.d (.v (.string x.d))])
def int (n:Int):AV:= .val (.one (.d (.v (.int .i64 n))))
def bool (b:Bool):AV:= .val (.one (.d (.v (.bool b))))
theorem Zee {p:Rat} {u:Bool} {c f:ByteArray} (h:Is p u c f):u=(cn p).s∧c=(cn p).a∧f=(cn p).d:=h
section
variable {K : AV → Prop}
theorem ask {P:Program} {G:World→Prop} {f:FuncId} {args:List AV} {r:AV} (hr:r.hs= []) (h:Spec P G f args r) (k:K r):∃ v,(v.hs= []∧Spec P G f args v)∧K v:=⟨r,⟨hr,h⟩,k⟩
theorem ZE {x:RV} {n:Nat} (h:x.z≤n):x.a.size≤n∧x.d.size≤n:=by unfold RV.z at h;omega
theorem Znb (x y:RV) (hx:x.z≤4398046511104) (hy:y.z≤4398046511104):Spec Tryz.prog Tab 33 [rat x,rat y] (rat (cn (x.q+y.q))):=by
 obtain⟨h1,h2⟩:=ZE hx
 obtain⟨h3,h4⟩:=ZE hy
 refine Zq (Zm Tryz.func33 rfl rfl) rfl rfl fun w hT=> ?_
 refine(ZjK x.s x.a x.d y.s y.a y.d w h1 h2 h3 h4 hT).mono fun e w' ⟨u,c,f,he,hi,hb⟩=> ?_
 obtain⟨rfl,rfl,rfl⟩:=Zee hi
 exact⟨he,hb⟩
theorem Zm4 (x y:RV) (hx:x.z≤4398046511104) (hy:y.z≤4398046511104):Spec Tryz.prog Tab 32 [rat x,rat y] (rat (cn (x.q - y.q))):=by
 obtain⟨h1,h2⟩:=ZE hx
 obtain⟨h3,h4⟩:=ZE hy
 refine Zq (Zm Tryz.func32 rfl rfl) rfl rfl fun w hT=> ?_
 refine(ZpX x.s x.a x.d y.s y.a y.d w h1 h2 h3 h4 hT).mono fun e w' ⟨u,c,f,he,hi,hb⟩=> ?_
 obtain⟨rfl,rfl,rfl⟩:=Zee hi
 exact⟨he,hb⟩
theorem Zm7 (x y:RV) (hx:x.z≤4398046511104) (hy:y.z≤4398046511104):Spec Tryz.prog Tab 34 [rat x,rat y] (rat (cn (x.q*y.q))):=by
 obtain⟨h1,h2⟩:=ZE hx
 obtain⟨h3,h4⟩:=ZE hy
 refine Zq (Zm Tryz.func34 rfl rfl) rfl rfl fun w hT=> ?_
 refine(ZpZ x.s x.a x.d y.s y.a y.d w h1 h2 h3 h4 hT).mono fun e w' ⟨u,c,f,he,hi,hb⟩=> ?_
 obtain⟨rfl,rfl,rfl⟩:=Zee hi
 exact⟨he,hb⟩
theorem Zm6 (x:RV) (hx:x.z≤4398046511104):Spec Tryz.prog Tab 70 [rat x] (rat (cn (-x.q))):=by
 obtain⟨h1,h2⟩:=ZE hx
 refine Zq (Zm Tryz.func70 rfl rfl) rfl rfl fun w hT=> ?_
 refine(ZjI x.s x.a x.d w ω ω hT).mono fun e w' ⟨u,c,f,he,hi,hb⟩=> ?_
 obtain⟨rfl,rfl,rfl⟩:=Zee hi
 exact⟨he,hb⟩
theorem ZpY (n:Int) (h1:-9223372036854775808≤n) (h2:n≤9223372036854775807):Spec Tryz.prog Tab 30 [int n] (rat (cn (n:Rat))):=by
 refine Zq (Zm Tryz.func30 rfl rfl) rfl rfl fun w hT=> ?_
 refine(Zij n w h1 h2 hT).mono fun e w' ⟨u,c,f,he,hi,hb⟩=> ?_
 obtain⟨rfl,rfl,rfl⟩:=Zee hi
 exact⟨he,hb⟩
theorem ZgU (x y:RV) (hx:x.z≤4398046511104) (hy:y.z≤4398046511104):Spec Tryz.prog Tab 14 [rat x,rat y] (rat (cn (if cmpQ x.q y.q≤0 then x.q else y.q))):=by
 obtain⟨h1,h2⟩:=ZE hx
 obtain⟨h3,h4⟩:=ZE hy
 refine Zq (Zm Tryz.func14 rfl rfl) rfl rfl fun w hT=> ?_
 refine(Zp0 x.s x.a x.d y.s y.a y.d w h1 h2 h3 h4 hT).mono fun e w' ⟨u,c,f,he,hi,hb⟩=> ?_
 obtain⟨rfl,rfl,rfl⟩:=Zee hi
 exact⟨he,hb⟩
theorem Zm8 (x y:RV) (hx:x.z≤4398046511104) (hy:y.z≤4398046511104):Spec Tryz.prog Tab 15 [rat x,rat y] (rat (cn (if 0≤cmpQ x.q y.q then x.q else y.q))):=by
 obtain⟨h1,h2⟩:=ZE hx
 obtain⟨h3,h4⟩:=ZE hy
 refine Zq (Zm Tryz.func15 rfl rfl) rfl rfl fun w hT=> ?_
 refine(Zp1 x.s x.a x.d y.s y.a y.d w h1 h2 h3 h4 hT).mono fun e w' ⟨u,c,f,he,hi,hb⟩=> ?_
 obtain⟨rfl,rfl,rfl⟩:=Zee hi
 exact⟨he,hb⟩
theorem Zna (x y:RV) (hx:x.z≤4398046511104) (hy:y.z≤4398046511104):Spec Tryz.prog Tab 42 [rat x,rat y] (int (cmpQ x.q y.q)):=by
 obtain⟨h1,h2⟩:=ZE hx
 obtain⟨h3,h4⟩:=ZE hy
 refine Zq (Zm Tryz.func42 rfl rfl) rfl rfl fun w hT=> ?_
 exact ZcA x.s x.a x.d y.s y.a y.d w h1 h2 h3 h4 hT
theorem Zlh (x:RV) (hx:x.z≤4398046511104):Spec Tryz.prog Tab 61 [rat x] (int (sgnQ x.q)):=by
 obtain⟨h1,h2⟩:=ZE hx
 refine Zq (Zm Tryz.func61 rfl rfl) rfl rfl fun w hT=> ?_
 exact Zm5 x.s x.a x.d w ω ω hT
theorem Zli (x:RV) (hx:x.z≤4398046511104):Spec Tryz.prog Tab 85 [rat x] (bool (decide x.good)):=by
 obtain⟨h1,h2⟩:=ZE hx
 refine Zq (Zm Tryz.func85 rfl rfl) rfl rfl fun w hT=> ?_
 exact Zgk x.s x.a x.d w ω ω hT
def z0:RV:=⟨false,⟨#[]⟩,⟨#[]⟩⟩
def quotR (p q:Rat):RV:=if q=0 then z0 else cn (p / q)
def quotE (q:Rat):Int:=if q=0 then 12 else 0
def two (s t:AV):AV:=
 match s,t with
 | .val s,.val t=> .tup [s,t]
 |_,_=> .junk
theorem ZgV (x y:RV) (hx:x.z≤4398046511104) (hy:y.z≤4398046511104):Spec Tryz.prog Tab 31 [rat x,rat y] (two (rat (quotR x.q y.q)) (int (quotE y.q))):=by
 obtain⟨h1,h2⟩:=ZE hx
 obtain⟨h3,h4⟩:=ZE hy
 refine Zq (Zm Tryz.func31 rfl rfl) rfl rfl fun w hT=> ?_
 refine(ZjJ x.s x.a x.d y.s y.a y.d w h1 h2 h3 h4 hT).mono fun e w' ⟨u,c,f,k,he,hi,hb⟩=> ?_
 refine⟨he.trans ?_,hb⟩
 rcases hi with ⟨h5,rfl,rfl,rfl,rfl⟩|⟨h5,rfl,hi⟩
 ·have e0:y.q=0:=h5
  simp only [quotR,quotE,if_pos e0,z0]
 ·have e0:¬ y.q=0:=h5
  obtain⟨rfl,rfl,rfl⟩:=Zee hi
  simp only [quotR,quotE,if_neg e0]
  rfl
end
def rc (x:RV):List C:= [.d (.v (.bool x.s)),.d (.v (.string x.a)),.d (.v (.string x.d))]
def pair (x y:RV):AV:= .val (.agg [.d (.v (.bool x.s)),.d (.v (.string x.a)),.d (.v (.string x.d)),.d (.v (.bool y.s)),.d (.v (.string y.a)),.d (.v (.string y.d))])
def turn (h:Bool) (x:RV):AV:= .val (.agg [.d (.v (.bool h)),.d (.v (.bool x.s)),.d (.v (.string x.a)),.d (.v (.string x.d))])
def box (x y z t:RV):AV:= .val (.agg [.d (.v (.bool x.s)),.d (.v (.string x.a)),.d (.v (.string x.d)),.d (.v (.bool y.s)),.d (.v (.string y.a)),.d (.v (.string y.d)),.d (.v (.bool z.s)),.d (.v (.string z.a)),.d (.v (.string z.d)),.d (.v (.bool t.s)),.d (.v (.string t.a)),.d (.v (.string t.d))])
def frame (x y:RV) (h:Bool) (z:RV):AV:= .val (.agg [.d (.v (.bool x.s)),.d (.v (.string x.a)),.d (.v (.string x.d)),.d (.v (.bool y.s)),.d (.v (.string y.a)),.d (.v (.string y.d)),.d (.v (.bool h)),.d (.v (.bool z.s)),.d (.v (.string z.a)),.d (.v (.string z.d))])
def cell (x y:Int):AV:= .val (.agg [.d (.v (.int .i64 x)),.d (.v (.int .i64 y))])
theorem RV.ext {x y:RV} (h1:x.s=y.s) (h2:x.a=y.a) (h3:x.d=y.d):x=y:=by cases x;cases y;simp_all
instance:DecidableEq RV:=fun x y=>if h:x.s=y.s∧x.a=y.a∧x.d=y.d then isTrue (RV.ext h.1 h.2.1 h.2.2) else isFalse (fun e=>h (by rw [e];exact⟨rfl,rfl,rfl⟩))
def RV.val (x:RV):Array Value:=#[.bool x.s,.string x.a,.string x.d]
theorem Zr7 (a b:ByteArray):a.toList=b.toList↔a=b:=by
 rw [Lib.toList_data,Lib.toList_data]
 exact⟨fun e=>ZcS e,fun e=>by rw [e]⟩
theorem Ztm (ox oy:Operand) (x:RV) (y:RV) (x':RV) (y':RV) (w:World):(do eqGuard .eql 27 ox oy (.agg #[.bool x.s,.string x.a,.string x.d,.bool y.s,.string y.a,.string y.d]) (.agg #[.bool x'.s,.string x'.a,.string x'.d,.bool y'.s,.string y'.a,.string y'.d]);binOp .eql 27 (.agg #[.bool x.s,.string x.a,.string x.d,.bool y.s,.string y.a,.string y.d]) (.agg #[.bool x'.s,.string x'.a,.string x'.d,.bool y'.s,.string y'.a,.string y'.d]):Sem Value).run Tryz.prog w= .ok (.bool (decide (x=x'∧y=y'))) w:=by
 by_cases H:x=x'∧y=y'
 ·obtain⟨rfl,rfl⟩:=H
  simp [go_sem]
 ·rw [decide_eq_false H]
  simp [go_sem,Zr7]
  first
   |(intros;intro _;exact H ⟨RV.ext ωs ωs ωs,RV.ext ωs ωs ωs⟩)
   |((repeat' split)<;>first
    |rfl
    |(intros;exact absurd ⟨RV.ext ωs ωs ωs,RV.ext ωs ωs ωs⟩ H)
    |(intros;intro _;exact H ⟨RV.ext ωs ωs ωs,RV.ext ωs ωs ωs⟩))
theorem Zkv (ox oy:Operand) (n:Int) (n2:Int) (n':Int) (n2':Int) (w:World):(do eqGuard .eql 110 ox oy (.agg #[.int .i64 n,.int .i64 n2]) (.agg #[.int .i64 n',.int .i64 n2']);binOp .eql 110 (.agg #[.int .i64 n,.int .i64 n2]) (.agg #[.int .i64 n',.int .i64 n2']):Sem Value).run Tryz.prog w= .ok (.bool (decide (n=n'∧n2=n2'))) w:=by
 by_cases H:n=n'∧n2=n2'
 ·obtain⟨rfl,rfl⟩:=H
  simp [go_sem]
 ·rw [decide_eq_false H]
  simp [go_sem]
  first
   |(intros;intro _;exact H ⟨by assumption,by assumption⟩)
   |((repeat' split)<;>first
    |rfl
    |(intros;exact absurd ⟨by assumption,by assumption⟩ H)
    |(intros;intro _;exact H ⟨by assumption,by assumption⟩))
theorem ZjZ (ox oy:Operand) (n:Int) (n2:Int) (n':Int) (n2':Int) (w:World):(do eqGuard .neq 110 ox oy (.agg #[.int .i64 n,.int .i64 n2]) (.agg #[.int .i64 n',.int .i64 n2']);binOp .neq 110 (.agg #[.int .i64 n,.int .i64 n2]) (.agg #[.int .i64 n',.int .i64 n2']):Sem Value).run Tryz.prog w= .ok (.bool (!decide (n=n'∧n2=n2'))) w:=by
 by_cases H:n=n'∧n2=n2'
 ·obtain⟨rfl,rfl⟩:=H
  simp [go_sem]
 ·rw [decide_eq_false H]
  simp [go_sem]
  first
   |(intros;intro _;exact H ⟨by assumption,by assumption⟩)
   |((repeat' split)<;>first
    |rfl
    |(intros;exact absurd ⟨by assumption,by assumption⟩ H)
    |(intros;intro _;exact H ⟨by assumption,by assumption⟩))
theorem Za {f : FuncId} {fn : Func} {c : Code} {nt : Nat} (hf : Tryz.prog.funcs[f]? = some fn) (hb : fn.body = some c) (hn : (fn.name == "runtime.NumGoroutine") = false) (hnt : fn.ntmps = nt) {rs : List ResultVar} (hrs : fn.results = ⟨rs⟩)
  (hc:codeOk c=true) {args:List AV} {r:AV} (hargs:freeAVs args=true) (hlen:Nat.ble args.length nt=true)
  (h:sp (prmOf Tryz.prog nt) c (RetIs (prmOf Tryz.prog nt) rs r) (envArgs 0 args) noMem):Spec Tryz.prog Tab f args r:=
 Zfy (p:=prmOf Tryz.prog nt) hf hb hn hnt rfl rfl hrs ZhY (fun _ _ h hb=>h.below hb (Nat.le_refl _)) mixed hc hargs hlen h
abbrev Ask (f:FuncId) (args:List AV) (K:AV→Prop):Prop:=∃ v,CallR Tryz.prog Tab f args v∧K v
theorem use {f:FuncId} {args:List AV} {r:AV} {K:AV→Prop} (h:Spec Tryz.prog Tab f args r) (hr:r.hs= []) (k:K r):Ask f args K:=⟨r,Zq4 hr h,k⟩
theorem useN {f:FuncId} {args:List AV} {T n:Nat} {xs:List (List D)} {K:AV→Prop} (h:SpecR Tryz.prog Tab f args T n xs) (k:K (.new T n xs)):Ask f args K:=⟨.new T n xs,h,k⟩
theorem Zou {f : FuncId} {fn : Func} {c : Code} {nt : Nat} (hf : Tryz.prog.funcs[f]? = some fn) (hb : fn.body = some c) (hn : (fn.name == "runtime.NumGoroutine") = false) (hnt : fn.ntmps = nt) {rs : List ResultVar} (hrs : fn.results = ⟨rs⟩)
  (hc:codeOk c=true) {args:List AV} {T n:Nat} {xs:List (List D)} (hargs:freeAVs args=true) (hlen:Nat.ble args.length nt=true)
  (h:sp (prmOf Tryz.prog nt) c (RetNew rs T n xs) (envArgs 0 args) noMem):SpecR Tryz.prog Tab f args T n xs:=
 Zjw (p:=prmOf Tryz.prog nt) hf hb hn hnt rfl rfl hrs ZhY (fun _ _ h hb=>h.below hb (Nat.le_refl _)) mixed hc hargs hlen h
theorem Zej (own : List Nat) {f : FuncId} {fn : Func} {c : Code} {nt : Nat} (hf : Tryz.prog.funcs[f]? = some fn) (hb : fn.body = some c) (hn : (fn.name == "runtime.NumGoroutine") = false) (hnt : fn.ntmps = nt) {rs : List ResultVar} (hrs : fn.results = ⟨rs⟩)
  (hc:codeOk c=true) {args:List AV} {r:AV} (hargs:freeAVs args=true) (hlen:Nat.ble args.length nt=true)
  (h:sp (prmOwn Tryz.prog nt own) c (RetIs (prmOwn Tryz.prog nt own) rs r) (envArgs 0 args) noMem):Spec Tryz.prog Tab f args r:=
 Zfy (p:=prmOwn Tryz.prog nt own) hf hb hn hnt rfl rfl hrs ZhY (fun _ _ h hb=>h.below hb (Nat.le_refl _)) mixed hc hargs hlen h
theorem ZrZ (own : List Nat) {f : FuncId} {fn : Func} {c : Code} {nt : Nat} (hf : Tryz.prog.funcs[f]? = some fn) (hb : fn.body = some c) (hn : (fn.name == "runtime.NumGoroutine") = false) (hnt : fn.ntmps = nt) {rs : List ResultVar} (hrs : fn.results = ⟨rs⟩)
  (hc:codeOk c=true) {args:List AV} (hargs:freeAVs args=true) (hlen:Nat.ble args.length nt=true)
  (h:sp (prmOwn Tryz.prog nt own) c (RetNil rs) (envArgs 0 args) noMem):Spec Tryz.prog Tab f args (.val (.one (.d (.v (.slice none 0 0))))):=
 ZpB (p:=prmOwn Tryz.prog nt own) hf hb hn hnt rfl rfl hrs ZhY (fun _ _ h hb=>h.below hb (Nat.le_refl _)) mixed hc hargs hlen h
theorem fn_T (own : List Nat) {f : FuncId} {fn : Func} {c : Code} {nt : Nat} (hf : Tryz.prog.funcs[f]? = some fn) (hb : fn.body = some c) (hn : (fn.name == "runtime.NumGoroutine") = false) (hnt : fn.ntmps = nt) {rs : List ResultVar} (hrs : fn.results = ⟨rs⟩)
  (hc:codeOk c=true) {args:List AV} {T n:Nat} {xs:List (List D)} {T' n':Nat} {ys:List (List D)} (hargs:argsT args=true) (hlen:Nat.ble args.length nt=true)
  (h:sp (prmOwn Tryz.prog nt own) c (RetNew rs T' n' ys) (envArgs 0 args) (memT T n xs)):SpecT Tryz.prog Tab f args T n xs T' n' ys:=
 Zul (p:=prmOwn Tryz.prog nt own) hf hb hn hnt rfl rfl hrs ZhY mixed hc hargs hlen h
theorem fn_V (i : Nat) (own : List Nat) {f : FuncId} {fn : Func} {c : Code} {nt : Nat} (hf : Tryz.prog.funcs[f]? = some fn) (hb : fn.body = some c) (hn : (fn.name == "runtime.NumGoroutine") = false) (hnt : fn.ntmps = nt) {rs : List ResultVar} (hrs : fn.results = ⟨rs⟩)
  (hc:codeOk c=true) {args:List AV} {T:Nat} {cs ds:List D} {r:AV} (hargs:argsT args=true) (hlen:Nat.ble args.length nt=true) (hai:args[i]? =some (.val (.one (.ptr 1000 0))))
  (h:sp (prmL Tryz.prog nt i own) c (RetV (prmL Tryz.prog nt i own) rs r i T ds) (envArgs 0 args) (memV T cs)):SpecV Tryz.prog Tab f args T cs r ds:=
 Zuk (p:=prmL Tryz.prog nt i own) hf hb hn hnt rfl rfl hrs ZhY mixed hc hargs hlen hai h
theorem RV.z1 (x:RV):qs x.q≤x.z+1:=by have:=x.qs_le;omega
section
variable {x y : RV} {K : AV → Prop}
theorem ZaJ (hx:x.z≤4398046511104) (hy:y.z≤4398046511104) (k:∀ q,q=x.q+y.q→(cn q).z≤x.z+y.z+3→K (rat (cn q))):Ask 33 [rat x,rat y] K:=
 use (Znb x y hx hy) rfl (k _ rfl (by have:=Zw x.q y.q;have:=x.z1;have:=y.z1;rw [cn_z];omega))
theorem Zap (hx:x.z≤4398046511104) (hy:y.z≤4398046511104) (k:∀ q,q=x.q - y.q→(cn q).z≤x.z+y.z+3→K (rat (cn q))):Ask 32 [rat x,rat y] K:=
 use (Zm4 x y hx hy) rfl (k _ rfl (by have:=Zae x.q y.q;have:=x.z1;have:=y.z1;rw [cn_z];omega))
theorem Z3 (hx:x.z≤4398046511104) (hy:y.z≤4398046511104) (k:∀ q,q=x.q*y.q→(cn q).z≤x.z+y.z+2→K (rat (cn q))):Ask 34 [rat x,rat y] K:=
 use (Zm7 x y hx hy) rfl (k _ rfl (by have:=Zp x.q y.q;have:=x.z1;have:=y.z1;rw [cn_z];omega))
theorem Zdo (hx:x.z≤4398046511104) (k:∀ q,q=-x.q→(cn q).z≤x.z+1→K (rat (cn q))):Ask 70 [rat x] K:=
 use (Zm6 x hx) rfl (k _ rfl (by have:=ZcB x.q;have:=x.z1;rw [cn_z];omega))
theorem k_of (n:Int) (h1:-9223372036854775808≤n) (h2:n≤9223372036854775807) (k:∀ q,q=(n:Rat)→(cn q).z≤8→K (rat (cn q))):Ask 30 [int n] K:=
 use (ZpY n h1 h2) rfl (k _ rfl (by have:=Z2 h1 h2;rw [cn_z];omega))
theorem Zdj (hx:x.z≤4398046511104) (k:∀ q,q=x.q→(cn q).z≤x.z+1→K (rat (cn q))):Ask 14 [rat x,rat x] K:=
 use (by have:=ZgU x x hx hx;rwa [ite_self] at this) rfl (k _ rfl (by have:=x.z1;rw [cn_z];omega))
theorem ZoW (p q:Rat):cmpQ p q≤0↔p≤q:=by
 unfold cmpQ
 by_cases h1:p< q
 ·rw [if_pos h1];exact⟨fun _=>Rat.le_of_lt h1,fun _=>ω⟩
 ·rw [if_neg h1]
  by_cases h2:q< p
  ·rw [if_pos h2];exact⟨fun h=>ω,fun h=>absurd h2 (Rat.not_lt.2 h)⟩
  ·rw [if_neg h2];exact⟨fun _=>Rat.not_lt.1 h2,fun _=>Int.le_refl _⟩
theorem ZoX (p q:Rat):0≤cmpQ p q↔q≤p:=by
 unfold cmpQ
 by_cases h1:p< q
 ·rw [if_pos h1];exact⟨fun h=>ω,fun h=>absurd h1 (Rat.not_lt.2 h)⟩
 ·rw [if_neg h1]
  by_cases h2:q< p
  ·rw [if_pos h2];exact⟨fun _=>Rat.le_of_lt h2,fun _=>ω⟩
  ·rw [if_neg h2];exact⟨fun _=>Rat.not_lt.1 h1,fun _=>Int.le_refl _⟩
theorem Zeu (p q:Rat):0< cmpQ p q↔q< p:=by
 have:=ZoW p q
 rw [← Rat.not_le,← this];omega
theorem Ztz (p q:Rat):cmpQ p q< 0↔p< q:=by
 have:=ZoX p q
 rw [← Rat.not_le,← this];omega
def minQ (p q:Rat):Rat:=if p≤q then p else q
def maxQ (p q:Rat):Rat:=if q≤p then p else q
theorem ZiO (hx:x.z≤4398046511104) (hy:y.z≤4398046511104) (k:∀ q,q=minQ x.q y.q→(cn q).z≤x.z+y.z+1→K (rat (cn q))):Ask 14 [rat x,rat y] K:=
 use (by have:=ZgU x y hx hy;simp only [ZoW] at this;exact this) rfl (k _ rfl (by have:=x.z1;have:=y.z1;rw [cn_z];unfold minQ;split<;>omega))
theorem ZiP (hx:x.z≤4398046511104) (hy:y.z≤4398046511104) (k:∀ q,q=maxQ x.q y.q→(cn q).z≤x.z+y.z+1→K (rat (cn q))):Ask 15 [rat x,rat y] K:=
 use (by have:=Zm8 x y hx hy;simp only [ZoX] at this;exact this) rfl (k _ rfl (by have:=x.z1;have:=y.z1;rw [cn_z];unfold maxQ;split<;>omega))
theorem Zc7 (hx:x.z≤4398046511104) (hy:y.z≤4398046511104) (k:∀ n,n=cmpQ x.q y.q→K (int n)):Ask 42 [rat x,rat y] K:=
 use (Zna x y hx hy) rfl (k _ rfl)
theorem ZaY (hx:x.z≤4398046511104) (k:∀ n,n=sgnQ x.q→K (int n)):Ask 61 [rat x] K:=
 use (Zlh x hx) rfl (k _ rfl)
theorem Zoa (hx:x.z≤4398046511104) (k:∀ b,b=decide x.good→K (bool b)):Ask 85 [rat x] K:=
 use (Zli x hx) rfl (k _ rfl)
theorem Zhm (hx:x.z≤4398046511104) (hy:y.z≤4398046511104) (h0:y.q≠0) (k:∀ q,q=x.q / y.q→(cn q).z≤x.z+y.z+3→K (two (rat (cn q)) (int 0))):Ask 31 [rat x,rat y] K:=
 use (by have:=ZgV x y hx hy;simp only [quotR,quotE,if_neg h0] at this;exact this) rfl (k _ rfl (by have:=ZaU x.q y.q;have:=x.z1;have:=y.z1;rw [cn_z];omega))
theorem Zvd (hx:x.z≤4398046511104) (hy:y.z≤4398046511104) (h0:y.q=0) (k:K (two (rat z0) (int 12))):Ask 31 [rat x,rat y] K:=
 use (by have:=ZgV x y hx hy;simp only [quotR,quotE,if_pos h0] at this;exact this) rfl k
theorem Zoc (hx:x.z≤4398046511104) (hy:y.z≤4398046511104) (k:y.q≠0→∀ q,q=x.q / y.q→(cn q).z≤x.z+y.z+3→K (two (rat (cn q)) (int 0))) (k0:¬ y.q≠0→K (two (rat z0) (int 12))):Ask 31 [rat x,rat y] K:=by
 by_cases h:y.q=0
 ·exact Zvd hx hy h (k0 (fun e=>e h))
 ·exact Zhm hx hy h (k h)
theorem Zkf (hx:x.z≤4398046511104) (k1:x.good→K (bool true)) (k0:¬ x.good→K (bool false)):Ask 85 [rat x] K:=by
 by_cases h:x.good
 ·exact Zoa hx fun b hb=>by rw [hb,decide_eq_true h];exact k1 h
 ·exact Zoa hx fun b hb=>by rw [hb,decide_eq_false h];exact k0 h
theorem Zvf (hx:x.z≤4398046511104) (hy:y.z≤4398046511104) (k1:x.q< y.q→K (int (-1))) (k2:x.q=y.q→K (int 0)) (k3:y.q< x.q→K (int 1)):Ask 42 [rat x,rat y] K:=by
 refine Zc7 hx hy fun n hn=> ?_
 unfold cmpQ at hn
 by_cases h1:x.q< y.q
 ·rw [if_pos h1] at hn;rw [hn];exact k1 h1
 ·rw [if_neg h1] at hn
  by_cases h2:y.q< x.q
  ·rw [if_pos h2] at hn;rw [hn];exact k3 h2
  ·rw [if_neg h2] at hn;rw [hn];exact k2 (Rat.le_antisymm (Rat.not_lt.1 h2) (Rat.not_lt.1 h1))
theorem ZmQ (q:Rat):q.num< 0↔q< 0:=by
 rw [← Rat.not_le,← Rat.num_nonneg];omega
theorem ZfF (q:Rat):q.num=0↔q=0:=Rat.num_eq_zero
theorem ZpG (q:Rat):0< sgnQ q↔0< q:=by
 unfold sgnQ
 by_cases h1:q.num=0
 ·rw [if_pos h1];have:=(ZfF _).1 h1;subst this;exact⟨fun h=>ω,fun h=>absurd h (Rat.lt_irrefl)⟩
 ·rw [if_neg h1]
  by_cases h2:q.num< 0
  ·rw [if_pos h2];exact⟨fun h=>ω,fun h=>absurd h (Rat.not_lt.2 (Rat.le_of_lt ((ZmQ _).1 h2)))⟩
  ·rw [if_neg h2]
   refine⟨fun _=>Rat.not_le.1 fun h=> ?_,fun _=>ω⟩
   rcases Rat.le_iff_lt_or_eq.1 h with h|h
   ·exact h2 ((ZmQ _).2 h)
   ·exact h1 ((ZfF _).2 h)
abbrev AskB (op:BinOp) (T:TypeId) (ox oy:Operand) (p q:Value) (K:AV→Prop):Prop:=∃ r,(∃ v,r=one v∧flat v=true∧∀ w,(do eqGuard op T ox oy p q;binOp op T p q:Sem Value).run Tryz.prog w= .ok v w)∧K r
theorem useB {op:BinOp} {T:TypeId} {ox oy:Operand} {p q:Value} {K:AV→Prop} {b:Bool} (h:∀ w,(do eqGuard op T ox oy p q;binOp op T p q:Sem Value).run Tryz.prog w= .ok (.bool b) w) (k:K (bool b)):AskB op T ox oy p q K:=
 ⟨_,⟨.bool b,rfl,rfl,h⟩,k⟩
theorem ZiQ {ox oy:Operand} {x:RV} {y:RV} {x':RV} {y':RV} (H:x=x'∧y=y') (k:K (bool true)):AskB .eql 27 ox oy (.agg ⟨[.bool x.s,.string x.a,.string x.d,.bool y.s,.string y.a,.string y.d]⟩) (.agg ⟨[.bool x'.s,.string x'.a,.string x'.d,.bool y'.s,.string y'.a,.string y'.d]⟩) K:=useB (fun w=>by have:=Ztm ox oy x y x' y' w;rw [decide_eq_true H] at this;exact this) k
theorem Zhk {ox oy:Operand} {n:Int} {n2:Int} {n':Int} {n2':Int} (H:n=n'∧n2=n2') (k:K (bool true)):AskB .eql 110 ox oy (.agg ⟨[.int .i64 n,.int .i64 n2]⟩) (.agg ⟨[.int .i64 n',.int .i64 n2']⟩) K:=useB (fun w=>by have:=Zkv ox oy n n2 n' n2' w;rw [decide_eq_true H] at this;exact this) k
theorem Zhl {ox oy:Operand} {n:Int} {n2:Int} {n':Int} {n2':Int} (k1:n=n'∧n2=n2'→K (bool true)) (k0:¬ (n=n'∧n2=n2')→K (bool false)):AskB .eql 110 ox oy (.agg ⟨[.int .i64 n,.int .i64 n2]⟩) (.agg ⟨[.int .i64 n',.int .i64 n2']⟩) K:=by
 by_cases H:n=n'∧n2=n2'
 ·exact Zhk H (k1 H)
 ·exact useB (fun w=>by have:=Zkv ox oy n n2 n' n2' w;rw [decide_eq_false H] at this;exact this) (k0 H)
theorem Zhi {ox oy:Operand} {n:Int} {n2:Int} {n':Int} {n2':Int} (H:n=n'∧n2=n2') (k:K (bool false)):AskB .neq 110 ox oy (.agg ⟨[.int .i64 n,.int .i64 n2]⟩) (.agg ⟨[.int .i64 n',.int .i64 n2']⟩) K:=useB (fun w=>by have:=ZjZ ox oy n n2 n' n2' w;rw [decide_eq_true H] at this;exact this) k
theorem Zhj {ox oy:Operand} {n:Int} {n2:Int} {n':Int} {n2':Int} (k1:n=n'∧n2=n2'→K (bool false)) (k0:¬ (n=n'∧n2=n2')→K (bool true)):AskB .neq 110 ox oy (.agg ⟨[.int .i64 n,.int .i64 n2]⟩) (.agg ⟨[.int .i64 n',.int .i64 n2']⟩) K:=by
 by_cases H:n=n'∧n2=n2'
 ·exact Zhi H (k1 H)
 ·exact useB (fun w=>by have:=ZjZ ox oy n n2 n' n2' w;rw [decide_eq_false H] at this;exact this) (k0 H)
end
theorem Zgf {P:Program} {G:World→Prop} {f:FuncId} {args:List AV} {vals:List Value} {r:AV} {x:Value} (h:Spec P G f args r) (hr:pv r=some x) {w:World} (hG:G w) (hrel:Rel2 (fun y v=>DenAV w (fun _=>False) noBs noMem y v) vals args):
  Calls P f vals.toArray w fun e w'=>e= .returned x∧Below w.heap.size w w':=
 Calls.mono (h.2 w (fun _=>False) vals hG (fun b hb=>hb.elim) hrel) fun e w' ⟨y,he,hd,hb⟩=>⟨by rw [he,(ZgY hr).1 hd],hb⟩
theorem ZeK {P:Program} {G:World→Prop} {f:FuncId} {args:List AV} {vals:List Value} {r:AV} {x:Value} (h:Spec P G f args r) (hr:pv r=some x) {w:World} {I:Nat→Prop} (hG:G w) (hI:∀ b,I b→b< w.heap.size) (hrel:Rel2 (fun y v=>DenAV w I noBs noMem y v) vals args):
  Calls P f vals.toArray w fun e w'=>e= .returned x∧Below w.heap.size w w':=
 Calls.mono (h.2 w I vals hG hI hrel) fun e w' ⟨y,he,hd,hb⟩=>⟨by rw [he,(ZgY hr).1 hd],hb⟩
theorem Zim {w:World} {I:Nat→Prop} {bs:Bs} {mem:Mem}:∀ {vs:List AV} {l:List Value},pvl vs=some l→Rel2 (fun y v=>DenAV w I bs mem y v) l vs
 | [],l,h=>by simp only [pvl,Option.some.injEq] at h;subst h;exact Rel2.nil
 |v :: vs,l,h=>by
  simp only [pvl] at h
  split at h
  ·rename_i x l' hx hl
   obtain rfl:=(Option.some.inj h).symm
   exact(Zim hl).cons ((ZgY hx).2 rfl)
  ·simp at h
