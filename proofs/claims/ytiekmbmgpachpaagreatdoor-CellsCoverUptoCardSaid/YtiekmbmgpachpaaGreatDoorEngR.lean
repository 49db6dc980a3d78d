/- The engine at this program: the contracts of package rat, by data. -/
import Derived.Test.YtiekmbmgpachpaaGreatDoorEngT
import Derived.Test.YtiekmbmgpachpaaGreatDoorGrpJ
namespace Go.Proofs.YtiekmbmgpachpaaGreatDoor.eng
open Go.RowKit num mem seg q held ratA ratB ratC ratD ratE vars ratF
def pvs:List C→Option (List Value)
 | []=>some []
 |c :: r=>match c with
  | .d (.v x)=>bif flat x then (match pvs r with
   |some l=>some (x :: l)
   |none=>none) else none
  |_=>none
def pvS:S→Option Value
 | .one c=>match c with
  | .d (.v x)=>bif flat x then some x else none
  |_=>none
 | .agg cs=>match pvs cs with
  |some l=>some (.agg ⟨l⟩)
  |none=>none
def pvSs:List S→Option (List Value)
 | []=>some []
 |c :: r=>match pvS c,pvSs r with
  |some x,some l=>some (x :: l)
  |_,_=>none
def pv:AV→Option Value
 | .val s=>pvS s
 | .tup l=>match pvSs l with
  |some l=>some (.tuple ⟨l⟩)
  |none=>none
 | .junk=>none
 | .new _ _ _=>none
def pvl:List AV→Option (List Value)
 | []=>some []
 |c :: r=>match pv c,pvl r with
  |some x,some l=>some (x :: l)
  |_,_=>none
section
variable {w : World} {I : Nat → Prop} {bs : Bs} {mem : Mem}
theorem Zez:∀ {cs:List C} {l xs:List Value},pvs cs=some l→(Rel2 (fun y c=>DenC w I bs mem y c) xs cs↔xs=l)
 | [],l,xs,h=>by
  simp only [pvs,Option.some.injEq] at h
  subst h
  exact⟨fun h=>List.eq_nil_of_length_eq_zero h.1,fun h=>by subst h;exact Rel2.nil⟩
 |c :: cs,l,xs,h=>by
  simp only [pvs] at h
  split at h
  ·rename_i x
   cases hf:flat x with
   |false=>rw [hf] at h;simp at h
   |true=>
    rw [hf] at h
    simp only [cond_true] at h
    split at h
    ·rename_i l' hl
     obtain rfl:=(Option.some.inj h).symm
     constructor
     ·intro hr
      cases xs with
      |nil=>have:=hr.1;simp at this
      |cons y ys=>
       obtain⟨h1,h2⟩:=hr.of_cons
       have h1':Den w I y (.v x):=h1
       rw [(Zez hl).1 h2]
       cases h1';rfl
     ·intro hx
      subst hx
      exact((Zez hl).2 rfl).cons (Den.v x hf)
    ·simp at h
  ·simp at h
theorem ZgK {s:S} {v x:Value} (h:pvS s=some v):DenS w I bs mem x s↔x=v:=by
 cases s with
 |one c=>
  simp only [pvS] at h
  split at h
  ·rename_i y
   cases hf:flat y with
   |false=>rw [hf] at h;simp at h
   |true=>
    rw [hf] at h
    obtain rfl:=(Option.some.inj h).symm
    constructor
    ·intro hd
     have hd':Den w I x (.v v):=hd
     cases hd';rfl
    ·intro e
     subst e
     exact Den.v x hf
  ·simp at h
 |agg cs=>
  simp only [pvS] at h
  split at h
  ·rename_i l hl
   obtain rfl:=(Option.some.inj h).symm
   constructor
   ·rintro⟨xs,rfl,h1,h2⟩
    rw [(Zez hl).1 ⟨h1,h2⟩]
   ·intro e
    subst e
    have:=(Zez (w:=w) (I:=I) (bs:=bs) (mem:=mem) hl).2 rfl
    exact⟨l,rfl,this.1,this.2⟩
  ·simp at h
theorem ZcD:∀ {ss:List S} {l xs:List Value},pvSs ss=some l→(Rel2 (fun y s=>DenS w I bs mem y s) xs ss↔xs=l)
 | [],l,xs,h=>by
  simp only [pvSs,Option.some.injEq] at h
  subst h
  exact⟨fun h=>List.eq_nil_of_length_eq_zero h.1,fun h=>by subst h;exact Rel2.nil⟩
 |s :: ss,l,xs,h=>by
  simp only [pvSs] at h
  split at h
  ·rename_i x l' hx hl
   obtain rfl:=(Option.some.inj h).symm
   constructor
   ·intro hr
    cases xs with
    |nil=>have:=hr.1;simp at this
    |cons y ys=>
     obtain⟨h1,h2⟩:=hr.of_cons
     rw [(ZcD hl).1 h2,(ZgK hx).1 h1]
   ·intro e
    subst e
    exact((ZcD hl).2 rfl).cons ((ZgK hx).2 rfl)
  ·simp at h
theorem Zft {v:AV} {x y:Value} (h:pv v=some x):DenAV w I bs mem y v↔y=x:=by
 cases v with
 |val s=>exact ZgK h
 |junk=>simp [pv] at h
 |new _ _ _=>simp [pv] at h
 |tup l=>
  simp only [pv] at h
  split at h
  ·rename_i l' hl
   obtain rfl:=(Option.some.inj h).symm
   constructor
   ·rintro⟨xs,rfl,h1,h2⟩
    rw [(ZcD hl).1 ⟨h1,h2⟩]
   ·intro e
    subst e
    have:=(ZcD (w:=w) (I:=I) (bs:=bs) (mem:=mem) hl).2 rfl
    exact⟨l',rfl,this.1,this.2⟩
  ·simp at h
theorem ZhK:∀ {vs:List AV} {l xs:List Value},pvl vs=some l→Rel2 (fun y v=>DenAV w I bs mem y v) xs vs→xs=l
 | [],l,xs,h,hr=>by
  simp only [pvl,Option.some.injEq] at h
  subst h
  exact List.eq_nil_of_length_eq_zero hr.1
 |v :: vs,l,xs,h,hr=>by
  simp only [pvl] at h
  split at h
  ·rename_i x l' hx hl
   obtain rfl:=(Option.some.inj h).symm
   cases xs with
   |nil=>have:=hr.1;simp at this
   |cons y ys=>
    obtain⟨h1,h2⟩:=hr.of_cons
    rw [ZhK hl h2,(Zft hx).1 h1]
  ·simp at h
end
theorem Zp {P:Program} {G:World→Prop} {f:FuncId} {args:List AV} {vals:List Value} {r:AV} {x:Value} (he:Enters P f) (ha:pvl args=some vals) (hr:pv r=some x)
  (h:∀ w,G w→Calls P f vals.toArray w fun e w'=>e= .returned x∧Below w.heap.size w w'):Spec P G f args r:=by
 refine⟨he,fun w I vs hG _ hrel=> ?_⟩
 obtain rfl:=ZhK ha hrel
 exact Calls.mono (h w hG) fun e w' ⟨h1,h2⟩=>⟨x,h1,(Zft hr).2 rfl,h2⟩
structure RV where
 s:Bool
 a:ByteArray
 d:ByteArray
def RV.q (x:RV):Rat:=qv x.s x.a x.d
def RV.z (x:RV):Nat:=max x.a.size x.d.size
def cn (q:Rat):RV:=⟨decide (q.num< 0),enc q.num.natAbs,enc q.den⟩
theorem cn_q (q:Rat):(cn q).q=q:=Zp5 q
theorem cn_z (q:Rat):(cn q).z=qs q:=rfl
theorem RV.qs_le (x:RV):qs x.q≤max x.z 1:=ZdF x.s x.a x.d
def RV.good (x:RV):Prop:=q.good x.s x.a x.d
instance (x:RV):Decidable x.good:=by unfold RV.good;infer_instance
theorem ZlX (q:Rat):(cn q).good:=Zlu q
theorem RV.good_cn {x:RV} (h:x.good):x=cn x.q:=by
 have:=Zd0 h
 obtain⟨h1,h2,h3⟩:=this
 cases x
 simp only [RV.q,cn,RV.mk.injEq]
 exact⟨h1,h2,h3⟩
def rat (x:RV):AV:= .val (.agg [.d (.v (.bool x.s)),.d (.v (.string x.a)),.d (.v (.string x.d))])
def int (n:Int):AV:= .val (.one (.d (.v (.int .i64 n))))
def bool (b:Bool):AV:= .val (.one (.d (.v (.bool b))))
theorem Zdg {p:Rat} {u:Bool} {c f:ByteArray} (h:Is p u c f):u=(cn p).s∧c=(cn p).a∧f=(cn p).d:=h
section
variable {K : AV → Prop}
theorem ask {P:Program} {G:World→Prop} {f:FuncId} {args:List AV} {r:AV} (hr:r.hs= []) (h:Spec P G f args r) (k:K r):∃ v,(v.hs= []∧Spec P G f args v)∧K v:=⟨r,⟨hr,h⟩,k⟩
theorem ZG {x:RV} {n:Nat} (h:x.z≤n):x.a.size≤n∧x.d.size≤n:=by unfold RV.z at h;omega
theorem ZkB (x y:RV) (hx:x.z≤4398046511104) (hy:y.z≤4398046511104):Spec Tryz.prog Tab 43 [rat x,rat y] (rat (cn (x.q+y.q))):=by
 obtain⟨h1,h2⟩:=ZG hx
 obtain⟨h3,h4⟩:=ZG hy
 refine Zp (Zm Tryz.func43 rfl rfl) rfl rfl fun w hT=> ?_
 refine(ZhG x.s x.a x.d y.s y.a y.d w h1 h2 h3 h4 hT).mono fun e w' ⟨u,c,f,he,hi,hb⟩=> ?_
 obtain⟨rfl,rfl,rfl⟩:=Zdg hi
 exact⟨he,hb⟩
theorem Zkt (x y:RV) (hx:x.z≤4398046511104) (hy:y.z≤4398046511104):Spec Tryz.prog Tab 45 [rat x,rat y] (rat (cn (x.q - y.q))):=by
 obtain⟨h1,h2⟩:=ZG hx
 obtain⟨h3,h4⟩:=ZG hy
 refine Zp (Zm Tryz.func45 rfl rfl) rfl rfl fun w hT=> ?_
 refine(ZmK x.s x.a x.d y.s y.a y.d w h1 h2 h3 h4 hT).mono fun e w' ⟨u,c,f,he,hi,hb⟩=> ?_
 obtain⟨rfl,rfl,rfl⟩:=Zdg hi
 exact⟨he,hb⟩
theorem Zkw (x y:RV) (hx:x.z≤4398046511104) (hy:y.z≤4398046511104):Spec Tryz.prog Tab 44 [rat x,rat y] (rat (cn (x.q*y.q))):=by
 obtain⟨h1,h2⟩:=ZG hx
 obtain⟨h3,h4⟩:=ZG hy
 refine Zp (Zm Tryz.func44 rfl rfl) rfl rfl fun w hT=> ?_
 refine(ZmM x.s x.a x.d y.s y.a y.d w h1 h2 h3 h4 hT).mono fun e w' ⟨u,c,f,he,hi,hb⟩=> ?_
 obtain⟨rfl,rfl,rfl⟩:=Zdg hi
 exact⟨he,hb⟩
theorem Zkv (x:RV) (hx:x.z≤4398046511104):Spec Tryz.prog Tab 74 [rat x] (rat (cn (-x.q))):=by
 obtain⟨h1,h2⟩:=ZG hx
 refine Zp (Zm Tryz.func74 rfl rfl) rfl rfl fun w hT=> ?_
 refine(ZhE x.s x.a x.d w (by omega) (by omega) hT).mono fun e w' ⟨u,c,f,he,hi,hb⟩=> ?_
 obtain⟨rfl,rfl,rfl⟩:=Zdg hi
 exact⟨he,hb⟩
theorem ZmL (n:Int) (h1:-9223372036854775808≤n) (h2:n≤9223372036854775807):Spec Tryz.prog Tab 31 [int n] (rat (cn (n:Rat))):=by
 refine Zp (Zm Tryz.func31 rfl rfl) rfl rfl fun w hT=> ?_
 refine(ZgI n w h1 h2 hT).mono fun e w' ⟨u,c,f,he,hi,hb⟩=> ?_
 obtain⟨rfl,rfl,rfl⟩:=Zdg hi
 exact⟨he,hb⟩
theorem Zfq (x y:RV) (hx:x.z≤4398046511104) (hy:y.z≤4398046511104):Spec Tryz.prog Tab 8 [rat x,rat y] (rat (cn (if cmpQ x.q y.q≤0 then x.q else y.q))):=by
 obtain⟨h1,h2⟩:=ZG hx
 obtain⟨h3,h4⟩:=ZG hy
 refine Zp (Zm Tryz.func8 rfl rfl) rfl rfl fun w hT=> ?_
 refine(ZmN x.s x.a x.d y.s y.a y.d w h1 h2 h3 h4 hT).mono fun e w' ⟨u,c,f,he,hi,hb⟩=> ?_
 obtain⟨rfl,rfl,rfl⟩:=Zdg hi
 exact⟨he,hb⟩
theorem Zkx (x y:RV) (hx:x.z≤4398046511104) (hy:y.z≤4398046511104):Spec Tryz.prog Tab 9 [rat x,rat y] (rat (cn (if 0≤cmpQ x.q y.q then x.q else y.q))):=by
 obtain⟨h1,h2⟩:=ZG hx
 obtain⟨h3,h4⟩:=ZG hy
 refine Zp (Zm Tryz.func9 rfl rfl) rfl rfl fun w hT=> ?_
 refine(ZmO x.s x.a x.d y.s y.a y.d w h1 h2 h3 h4 hT).mono fun e w' ⟨u,c,f,he,hi,hb⟩=> ?_
 obtain⟨rfl,rfl,rfl⟩:=Zdg hi
 exact⟨he,hb⟩
theorem ZkA (x y:RV) (hx:x.z≤4398046511104) (hy:y.z≤4398046511104):Spec Tryz.prog Tab 40 [rat x,rat y] (int (cmpQ x.q y.q)):=by
 obtain⟨h1,h2⟩:=ZG hx
 obtain⟨h3,h4⟩:=ZG hy
 refine Zp (Zm Tryz.func40 rfl rfl) rfl rfl fun w hT=> ?_
 exact ZbY x.s x.a x.d y.s y.a y.d w h1 h2 h3 h4 hT
theorem Zi2 (x:RV) (hx:x.z≤4398046511104):Spec Tryz.prog Tab 103 [rat x] (int (sgnQ x.q)):=by
 obtain⟨h1,h2⟩:=ZG hx
 refine Zp (Zm Tryz.func103 rfl rfl) rfl rfl fun w hT=> ?_
 exact Zku x.s x.a x.d w (by omega) (by omega) hT
theorem Zi4 (x:RV) (hx:x.z≤4398046511104):Spec Tryz.prog Tab 85 [rat x] (bool (decide x.good)):=by
 obtain⟨h1,h2⟩:=ZG hx
 refine Zp (Zm Tryz.func85 rfl rfl) rfl rfl fun w hT=> ?_
 exact Ze4 x.s x.a x.d w (by omega) (by omega) hT
def z0:RV:=⟨false,⟨#[]⟩,⟨#[]⟩⟩
def quotR (p q:Rat):RV:=if q=0 then z0 else cn (p / q)
def quotE (q:Rat):Int:=if q=0 then 12 else 0
def two (s t:AV):AV:=
 match s,t with
 | .val s,.val t=> .tup [s,t]
 |_,_=> .junk
theorem Zkz (x y:RV) (hx:x.z≤4398046511104) (hy:y.z≤4398046511104):Spec Tryz.prog Tab 61 [rat x,rat y] (two (rat (quotR x.q y.q)) (int (quotE y.q))):=by
 obtain⟨h1,h2⟩:=ZG hx
 obtain⟨h3,h4⟩:=ZG hy
 refine Zp (Zm Tryz.func61 rfl rfl) rfl rfl fun w hT=> ?_
 refine(ZhF x.s x.a x.d y.s y.a y.d w h1 h2 h3 h4 hT).mono fun e w' ⟨u,c,f,k,he,hi,hb⟩=> ?_
 refine⟨he.trans ?_,hb⟩
 rcases hi with ⟨h5,rfl,rfl,rfl,rfl⟩|⟨h5,rfl,hi⟩
 ·have e0:y.q=0:=h5
  simp only [quotR,quotE,if_pos e0,z0]
 ·have e0:¬ y.q=0:=h5
  obtain⟨rfl,rfl,rfl⟩:=Zdg hi
  simp only [quotR,quotE,if_neg e0]
  rfl
end
end Go.Proofs.YtiekmbmgpachpaaGreatDoor.eng
