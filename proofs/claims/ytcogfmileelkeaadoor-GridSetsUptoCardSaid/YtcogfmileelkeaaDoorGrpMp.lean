/- Joined by wip/bundle.py: XMap0 XGrdA. -/
import Derived.Test.YtcogfmileelkeaaDoorGrpCa
import Derived.Test.YtcogfmileelkeaaDoorWg
namespace Go.Proofs.YtcogfmileelkeaaDoor.mp
open Go.RowKit num mem seg q held ratA ratB ratC ratD ratE vars ratF eng prf
abbrev EL:=List (KC×Nat)
def kvV (c:KC):Value:= .agg #[.int .i64 c.1,.int .i64 c.2]
def enP (p:KC×Nat):MapEntry:=⟨kvV p.1,.bool true,p.2⟩
def ent (l:EL):Array MapEntry:=(l.map enP).toArray
theorem Zg2 (a b:KC) (w:World):(Op.equal 25 (kvV a) (kvV b)).run Tryd.prog w= .ok (decide (a=b)) w:=by
 obtain⟨n,n2⟩:=a
 obtain⟨n',n2'⟩:=b
 show (Op.equal 25 (.agg #[.int .i64 n,.int .i64 n2]) (.agg #[.int .i64 n',.int .i64 n2'])).run Tryd.prog w=_
 have he:decide ((n,n2)=(n',n2'))=decide (n=n'∧n2=n2'):=by rw [decide_eq_decide];simp
 rw [he]
 have h:=ZdJ (.const undef) (.const undef) n n2 n' n2' w
 have hg:(eqGuard .eql 25 (.const undef) (.const undef) (.agg #[.int .i64 n,.int .i64 n2]) (.agg #[.int .i64 n',.int .i64 n2'])).run Tryd.prog w= .ok () w:=by simp [go_sem]
 simp only [Sem.run_bind,hg,Result.andThen_ok,binOp] at h
 cases hr:(Op.equal 25 (.agg #[.int .i64 n,.int .i64 n2]) (.agg #[.int .i64 n',.int .i64 n2'])).run Tryd.prog w with
 |ok r w'=>
  simp [hr,Result.andThen] at h
  rw [h.1,h.2];simp
 |halt _ _=>simp [hr,Result.andThen] at h
theorem ZeF (e:Bool) (n:Nat) (x y:Int) (w:World):(Instr.checkKey e (n+1+1) 25 (.agg #[.int .i64 x,.int .i64 y])).run Tryd.prog w= .ok () w:=by
 simp [Instr.checkKey,go_sem]
theorem Zdi (e:Bool) (c:KC) (w:World):(Instr.checkKey e 10000 25 (kvV c)).run Tryd.prog w= .ok () w:=ZeF e 9998 c.1 c.2 w
def findE (c:KC):EL→Nat→Option Nat
 | [],_=>none
 |p :: l,i=>if c=p.1 then some i else findE c l (i+1)
theorem Zbw (c:KC) (w:World):∀ (l:EL) (i:Nat),(Instr.findAsking 25 (kvV c) (l.map enP) i).run Tryd.prog w= .ok ((findE c l i).map fun j=>(j,.bool true)) w
 | [],i=>rfl
 |p :: l,i=>by
  have he:=Zg2 c p.1 w
  simp only [List.map_cons,Instr.findAsking,Sem.run_bind]
  have hk:(enP p).key=kvV p.1:=rfl
  rw [hk,he]
  by_cases h:c=p.1
  ·simp [h,findE,Result.andThen,enP]
  ·have:=Zbw c w l (i+1)
   simp [h,findE,Result.andThen,this]
def isStr:Option TypeDesc→Bool
 |some (.struct _)=>true
 |_=>false
theorem Zjj {t:Option TypeDesc} (h:isStr t=true):∃ fs,t=some (.struct fs):=by
 unfold isStr at h
 split at h
 ·exact⟨_,rfl⟩
 ·simp at h
theorem Zj0:∃ fs,Tryd.prog.underlying 25=some (.struct fs):=Zjj (by kernel_rfl)
theorem ZcW:Tryd.prog.underlying 42=some (.map 25 4):=by kernel_rfl
theorem Zdd (c:KC) (l:EL) (w:World):(Instr.findKey 25 (kvV c) (ent l).toList).run Tryd.prog w= .ok ((findE c l 0).map fun j=>(j,.bool true)) w:=by
 obtain⟨fs,hu⟩:=Zj0
 have h0:(ent l).toList=l.map enP:=by simp [ent]
 rw [h0]
 cases l with
 |nil=>simp [Instr.findKey,run_underlying hu,Result.andThen,Instr.findNow,findE]
 |cons p l=>
  have hn:Instr.findNow (.struct fs) (kvV c) ((p :: l).map enP) 0=none:=by simp [Instr.findNow,Instr.sameNow]
  have:=Zbw c w (p :: l) 0
  simp only [Instr.findKey,Sem.run_bind,run_underlying hu,Result.andThen_ok,hn,this]
def Has (l:EL) (c:KC):Prop:=∃ p,p∈l∧p.1=c
theorem Zas {c:KC}:∀ {l:EL} {i j:Nat},findE c l i=some j→i≤j∧∃ p,l[j - i]? =some p∧p.1=c
 | [],i,j,h=>by simp [findE] at h
 |p :: l,i,j,h=>by
  unfold findE at h
  split at h
  ·rename_i e
   obtain rfl:=Option.some.inj h
   exact⟨Nat.le_refl _,p,by simp,e.symm⟩
  ·obtain⟨h1,q,h2,h3⟩:=Zas h
   refine⟨by omega,q,?_,h3⟩
   rw [show j - i=(j - (i+1))+1 by omega]
   simpa using h2
theorem ZbJ {c:KC}:∀ {l:EL} {i:Nat},findE c l i=none→¬ Has l c
 | [],i,_=>fun ⟨p,hp,_⟩=>by simp at hp
 |p :: l,i,h=>by
  unfold findE at h
  split at h
  ·simp at h
  ·rename_i e
   rintro⟨q,hq,he⟩
   rcases List.mem_cons.1 hq with rfl|hq
   ·exact e he.symm
   ·exact ZbJ h ⟨q,hq,he⟩
structure Inv (l:EL) (k:Nat):Prop where
 lt:∀ p,p∈l→p.2< k
 born:(l.map (·.2)).Nodup
 key:(l.map (·.1)).Nodup
theorem Zkh:Inv [] 0:=⟨by simp,by simp,by simp⟩
def addL (l:EL) (k:Nat) (c:KC):EL:=match findE c l 0 with
 |some _=>l
 |none=>l++ [(c,k)]
def addK (l:EL) (k:Nat) (c:KC):Nat:=match findE c l 0 with
 |some _=>k
 |none=>k+1
theorem ZkC {l:EL} {k:Nat} (h:Inv l k) (c:KC):Inv (addL l k c) (addK l k c)∧∀ x,Has (addL l k c) x↔Has l x∨x=c:=by
 unfold addL addK
 cases e:findE c l 0 with
 |some j=>
  obtain⟨_,p,h2,h3⟩:=Zas e
  exact⟨h,fun x=>⟨.inl,fun g=>g.elim id fun g=>⟨p,List.mem_of_getElem? h2,h3.trans g.symm⟩⟩⟩
 |none=>
  have hn:=ZbJ e
  refine⟨⟨fun p hp=> ?_,?_,?_⟩,fun x=>⟨?_,?_⟩⟩
  ·rcases List.mem_append.1 hp with hp|hp
   ·exact Nat.lt_succ_of_lt (h.lt p hp)
   ·rw [List.mem_singleton.1 hp];exact Nat.lt_succ_self _
  ·rw [List.map_append,List.nodup_append]
   refine⟨h.born,by simp,fun a ha b hb=> ?_⟩
   obtain⟨p,hp,rfl⟩:=List.mem_map.1 ha
   have:b=k:=by simpa using hb
   have:=h.lt p hp
   omega
  ·rw [List.map_append,List.nodup_append]
   refine⟨h.key,by simp,fun a ha b hb=> ?_⟩
   obtain⟨p,hp,rfl⟩:=List.mem_map.1 ha
   have:b=c:=by simpa using hb
   exact fun e=>hn ⟨p,hp,e.trans this⟩
  ·rintro⟨p,hp,rfl⟩
   rcases List.mem_append.1 hp with hp|hp
   ·exact .inl ⟨p,hp,rfl⟩
   ·rw [List.mem_singleton.1 hp];exact .inr rfl
  ·rintro(⟨p,hp,rfl⟩|rfl)
   ·exact⟨p,List.mem_append_left _ hp,rfl⟩
   ·exact⟨(x,k),by simp,rfl⟩
theorem Zih (l:EL) (j:Nat):(ent l)[j]? =l[j]?.map enP:=by simp [ent]
theorem Zdw (c:KC):Instr.sameBits 10000 (kvV c) (kvV c)=true:=by
 simp [kvV,Instr.sameBits]
theorem ZiL (l:EL) (k:Nat) (c:KC):MapStep Tryd.prog (fun m=>Instr.mapUpdate 42 m (kvV c) (.bool true)) () (.map (ent l) k) (.map (ent (addL l k c)) (addK l k c)):=by
 intro w b hb
 have h1:=Zdi false c w
 have h2:=Zdd c l w
 unfold addL addK
 cases e:findE c l 0 with
 |none=>
  rw [e] at h2
  have he:(ent l).push { key:=kvV c,val:= .bool true,born:=k }=ent (l++ [(c,k)]):=by simp [ent,enP]
  simp only [Instr.mapUpdate,Sem.run_bind,run_underlying ZcW,Result.andThen_ok,Go.MapKept.run_getObj_map hb,h1,h2,Option.map_none,he]
  simp [Go.MapKept.run_setObj_map _ hb,Go.ChangeMaps.setBlock]
 |some j=>
  rw [e] at h2
  obtain⟨_,p,h3,h4⟩:=Zas e
  simp only [Nat.sub_zero] at h3
  have hg:(((ent l)[j]?).map (·.key)).getD (kvV c)=kvV c:=by rw [Zih,h3];simp [enP,h4]
  have hk:(Instr.keyThatStays (kvV c) (kvV c)).run Tryd.prog w= .ok (kvV c) w:=by simp [Instr.keyThatStays,Zdw]
  have he:((ent l).modify j fun e=>{ e with key:=kvV c,val:= .bool true })=ent l:=by
   apply Array.ext_getElem?
   intro i
   rw [Array.getElem?_modify]
   by_cases hij:j=i
   ·subst hij
    rw [Zih,h3]
    simp [enP,h4]
   ·simp [hij]
  simp only [Instr.mapUpdate,Sem.run_bind,run_underlying ZcW,Result.andThen_ok,Go.MapKept.run_getObj_map hb,h1,h2,Option.map_some,hg,hk,he]
  simp [Go.MapKept.run_setObj_map _ hb,Go.ChangeMaps.setBlock]
def delL (l:EL) (c:KC):EL:=match findE c l 0 with
 |some j=>l.eraseIdx j
 |none=>l
theorem ZbV {α β:Type} (f:α→β):∀ {l:List α} {j:Nat} {x:α},(l.map f).Nodup→l[j]? =some x→∀ y,y∈l.eraseIdx j↔y∈l∧f y≠f x
 | [],j,x,_,h=>by simp at h
 |a :: l,0,x,hn,h=>by
  intro y
  obtain rfl:a=x:=by simpa using h
  have hn:=List.nodup_cons.1 hn
  refine⟨fun hy=>⟨List.mem_cons_of_mem _ hy,fun e=>hn.1 (e ▸ List.mem_map.2 ⟨y,hy,rfl⟩)⟩,fun ⟨hy,he⟩=> ?_⟩
  rcases List.mem_cons.1 hy with rfl|hy
  ·exact absurd rfl he
  ·exact hy
 |a :: l,j+1,x,hn,h=>by
  intro y
  have hn:=List.nodup_cons.1 hn
  have h':l[j]? =some x:=by simpa using h
  have ih:=ZbV f hn.2 h' y
  rw [List.eraseIdx_cons_succ,List.mem_cons,List.mem_cons,ih]
  have hne:f a≠f x:=fun e=>hn.1 (e ▸ List.mem_map.2 ⟨x,List.mem_of_getElem? h',rfl⟩)
  constructor
  ·rintro(rfl|⟨h1,h2⟩)
   ·exact⟨.inl rfl,hne⟩
   ·exact⟨.inr h1,h2⟩
  ·rintro⟨rfl|h1,h2⟩
   ·exact .inl rfl
   ·exact .inr ⟨h1,h2⟩
theorem Zku {l:EL} {k:Nat} (h:Inv l k) (c:KC):Inv (delL l c) k∧(∀ x,Has (delL l c) x↔Has l x∧x≠c)∧(Has l c→(delL l c).length+1=l.length):=by
 unfold delL
 cases e:findE c l 0 with
 |none=>
  have hn:=ZbJ e
  exact⟨h,fun x=>⟨fun g=>⟨g,fun e=>hn (e ▸ g)⟩,fun g=>g.1⟩,fun g=>absurd g hn⟩
 |some j=>
  obtain⟨_,p,h3,h4⟩:=Zas e
  simp only [Nat.sub_zero] at h3
  have hs:=List.eraseIdx_sublist l j
  have hm:=ZbV (fun p:KC×Nat=>p.1) h.key h3
  refine⟨⟨fun q hq=>h.lt q (hs.subset hq),(hs.map _).nodup h.born,(hs.map _).nodup h.key⟩,fun x=>⟨?_,?_⟩,fun _=> ?_⟩
  ·rintro⟨q,hq,rfl⟩
   obtain⟨g1,g2⟩:=(hm q).1 hq
   exact⟨⟨q,g1,rfl⟩,fun e=>g2 (e.trans h4.symm)⟩
  ·rintro⟨⟨q,hq,rfl⟩,hne⟩
   exact⟨q,(hm q).2 ⟨hq,fun e=>hne (e.trans h4)⟩,rfl⟩
  ·have hj:=(List.getElem?_eq_some_iff.1 h3).1
   rw [List.length_eraseIdx_of_lt hj]
   omega
theorem Zev {α β:Type} (f:α→β):∀ (l:List α) (j:Nat),(l.map f).eraseIdx j=(l.eraseIdx j).map f
 | [],_=>rfl
 |_ :: _,0=>rfl
 |a :: l,j+1=>by simp [Zev f l j]
theorem ZiK (l:EL) (k:Nat) (c:KC) (ty:TypeId) (ts:List TypeId):MapStep Tryd.prog (fun m=>Builtin.delete_ ⟨42 :: ts⟩ ty #[m,kvV c]) undef (.map (ent l) k) (.map (ent (delL l c)) k):=by
 intro w b hb
 have h1:=Zdi (ent l).isEmpty c w
 have h2:=Zdd c l w
 unfold delL
 cases e:findE c l 0 with
 |none=>
  rw [e] at h2
  simp [Builtin.delete_,run_underlying ZcW,Result.andThen,Go.MapKept.run_getObj_map hb,h1,h2,Go.MapKept.run_setObj_map _ hb,Go.ChangeMaps.setBlock,undef]
 |some j=>
  rw [e] at h2
  obtain⟨_,p,h3,h4⟩:=Zas e
  simp only [Nat.sub_zero] at h3
  have hj:=(List.getElem?_eq_some_iff.1 h3).1
  have he:(ent l).eraseIdxIfInBounds j=ent (l.eraseIdx j):=by
   apply Array.toList_inj.1
   have hlt:j< (ent l).size:=by simp [ent,hj]
   rw [Array.eraseIdxIfInBounds,dif_pos hlt,Array.toList_eraseIdx]
   rw [show (ent l).toList=l.map enP by simp [ent],Zev]
   simp [ent]
  simp [Builtin.delete_,run_underlying ZcW,Result.andThen,Go.MapKept.run_getObj_map hb,h1,h2,he,Go.MapKept.run_setObj_map _ hb,Go.ChangeMaps.setBlock,undef]
theorem ZdK {l:EL} {e:MapEntry}:e∈(ent l).toList↔∃ p,p∈l∧enP p=e:=by simp [ent]
theorem Zjq (l:EL):(ent l).toList.map (·.born)=l.map (·.2):=by simp [ent,enP,Function.comp_def]
theorem Zjp (l:EL):(ent l).size=l.length:=by simp [ent]
theorem Zla {l:EL} {k:Nat} (h:Inv l k):∀ e,e∈(ent l).toList→e.born< k∧fitsV e.key=true∧fitsV e.val=true:=by
 intro e he
 obtain⟨p,hp,rfl⟩:=ZdK.1 he
 exact⟨h.lt p hp,rfl,rfl⟩
theorem Zkc {l:EL} {seen:Array Nat} {e:MapEntry} (he:e∈(leftOf (ent l) seen).toList):∃ p,p∈l∧e=enP p∧seen.contains p.2=false:=by
 obtain⟨h1,h2⟩:=mem_left he
 obtain⟨p,hp,rfl⟩:=ZdK.1 h1
 exact⟨p,hp,rfl,h2⟩
def Least (l:EL) (seen:Array Nat) (some:Bool) (best:KC):Prop:=
 (some=true→Has l best)∧∀ p,p∈l→seen.contains p.2=true→some=true∧¬ kcLt p.1 best
theorem Zh1 (l:EL) (b:KC):Least l #[] false b:=⟨fun h=>by simp at h,fun p _ h=>by simp at h⟩
theorem Zcq {l:EL} {k:Nat} (hi:Inv l k) {seen:Array Nat} {s:Bool} {b:KC} (h:Least l seen s b) {p:KC×Nat} (hp:p∈l) (hlt:s=true→kcLt p.1 b):Least l (seen.push p.2) true p.1:=by
 refine⟨fun _=>⟨p,hp,rfl⟩,fun q hq hs=>⟨rfl,fun g=> ?_⟩⟩
 rw [contains_push,Bool.or_eq_true] at hs
 rcases hs with hs|hs
 ·obtain⟨h1,h2⟩:=h.2 q hq hs
  exact h2 (Zar g (hlt h1))
 ·have hqp:q=p:=by
   have e:q.2=p.2:=by simpa using hs
   obtain⟨i,hi'⟩:=List.getElem?_of_mem hq
   obtain⟨j,hj'⟩:=List.getElem?_of_mem hp
   have g1:(l.map (·.2))[i]? =some q.2:=by rw [List.getElem?_map,hi'];rfl
   have g2:(l.map (·.2))[j]? =some p.2:=by rw [List.getElem?_map,hj'];rfl
   have hij:i=j:=by
    have hil:=(List.getElem?_eq_some_iff.1 g1).1
    exact(List.getElem?_inj hil hi.born).1 (by rw [g1,g2,e])
   subst hij
   rw [hi'] at hj'
   exact Option.some.inj hj'
  rw [hqp] at g
  exact Zbq g
theorem Zf0 {l:EL} {k:Nat} (hi:Inv l k) {seen:Array Nat} {s:Bool} {b:KC} (h:Least l seen s b) {p:KC×Nat} (hp:p∈l) (hs:s=true) (hlt:¬ kcLt p.1 b):Least l (seen.push p.2) s b:=by
 refine⟨h.1,fun q hq hc=> ?_⟩
 rw [contains_push,Bool.or_eq_true] at hc
 rcases hc with hc|hc
 ·exact h.2 q hq hc
 ·have hqp:q=p:=by
   have e:q.2=p.2:=by simpa using hc
   obtain⟨i,hi'⟩:=List.getElem?_of_mem hq
   obtain⟨j,hj'⟩:=List.getElem?_of_mem hp
   have g1:(l.map (·.2))[i]? =some q.2:=by rw [List.getElem?_map,hi'];rfl
   have g2:(l.map (·.2))[j]? =some p.2:=by rw [List.getElem?_map,hj'];rfl
   have hij:i=j:=by
    have hil:=(List.getElem?_eq_some_iff.1 g1).1
    exact(List.getElem?_inj hil hi.born).1 (by rw [g1,g2,e])
   subst hij
   rw [hi'] at hj'
   exact Option.some.inj hj'
  rw [hqp]
  exact⟨hs,hlt⟩
theorem Zh2 {l:EL} {seen:Array Nat} {s:Bool} {b:KC} (h:Least l seen s b) (h0:(leftOf (ent l) seen).size=0) (hl:0< l.length):s=true∧Has l b∧∀ p,p∈l→¬ kcLt p.1 b:=by
 have ha:=all_seen (ent l) seen h0
 have hc:∀ p,p∈l→seen.contains p.2=true:=fun p hp=>ha (enP p) (ZdK.2 ⟨p,hp,rfl⟩)
 obtain⟨p,hp⟩:∃ p,p∈l:=⟨l[0],List.getElem_mem hl⟩
 have hs:=(h.2 p hp (hc p hp)).1
 exact⟨hs,h.1 hs,fun q hq=>(h.2 q hq (hc q hq)).2⟩
theorem Zje {M:List KC} (hM:M.Pairwise kcLt) {l:EL} {j:Nat} (hm:∀ c,Has l c↔c∈M.drop j) {b:KC} (hb:Has l b) (hlb:∀ p,p∈l→¬ kcLt p.1 b):M[j]? =some b:=by
 cases e:M.drop j with
 |nil=>rw [hm,e] at hb;simp at hb
 |cons x r=>
  have hx:M[j]? =some x:=by
   have:(M.drop j)[0]? =some x:=by rw [e];rfl
   rwa [List.getElem?_drop,Nat.add_zero] at this
  have hbm:=(hm b).1 hb
  rw [e] at hbm
  rcases List.mem_cons.1 hbm with rfl|hr
  ·exact hx
  ·have hxl:Has l x:=(hm x).2 (by rw [e];exact List.mem_cons_self)
   obtain⟨p,hp,rfl⟩:=hxl
   have hs:(M.drop j).Pairwise kcLt:=hM.sublist (List.drop_sublist _ _)
   rw [e] at hs
   exact absurd ((List.pairwise_cons.1 hs).1 b hr) (hlb p hp)
theorem Zgj {M:List KC} (hM:M.Pairwise kcLt) {l:EL} {k j:Nat} (hi:Inv l k) {b:KC} (hm:∀ c,Has l c↔c∈M.drop j) (hb:M[j]? =some b):Inv (delL l b) k∧∀ c,Has (delL l b) c↔c∈M.drop (j+1):=by
 obtain⟨h1,h2,_⟩:=Zku hi b
 refine⟨h1,fun c=> ?_⟩
 have hj:=(List.getElem?_eq_some_iff.1 hb)
 have e:M.drop j=b :: M.drop (j+1):=by rw [List.drop_eq_getElem_cons hj.1,hj.2]
 have hs:(M.drop j).Pairwise kcLt:=hM.sublist (List.drop_sublist _ _)
 rw [e] at hs
 have hs:=(List.pairwise_cons.1 hs).1
 rw [h2,hm,e,List.mem_cons]
 constructor
 ·rintro⟨rfl|h3,h4⟩
  ·exact absurd rfl h4
  ·exact h3
 ·intro h3
  exact⟨.inr h3,fun e=>Zbq (e ▸ hs c h3)⟩
theorem Zkl {M:List KC} {l:EL} {j:Nat} (hm:∀ c,Has l c↔c∈M.drop j):(0< l.length↔j< M.length):=by
 constructor
 ·intro h
  have:Has l l[0].1:=⟨l[0],List.getElem_mem h,rfl⟩
  rw [hm] at this
  have:=List.length_pos_of_mem this
  rw [List.length_drop] at this
  omega
 ·intro h
  have:Has l M[j]:=(hm _).2 (List.mem_of_getElem? (i:=0) (by rw [List.getElem?_drop,Nat.add_zero,List.getElem?_eq_getElem h]))
  obtain⟨p,hp,_⟩:=this
  exact List.length_pos_of_mem hp
end Go.Proofs.YtcogfmileelkeaaDoor.mp
namespace Go.Proofs.YtcogfmileelkeaaDoor.eng
open Go.RowKit num mem seg q held ratA ratB ratC ratD ratE vars ratF prf mp
section
variable {K : AV → Prop}
def FillI (xs:List KC) (p:KC→Bool) (i:Nat) (l:EL) (k:Nat):Prop:=Inv l k∧∀ c,Has l c↔c∈xs.take i∧p c=true
theorem Zjn (xs:List KC) (p:KC→Bool):FillI xs p 0 [] 0:=⟨Zkh,fun c=>⟨fun ⟨_,h,_⟩=>by simp at h,fun h=>by simp at h⟩⟩
theorem Zjm {xs:List KC} {p:KC→Bool} {i:Nat} {l:EL} {k:Nat} (h:FillI xs p i l k) {x:KC} (hx:xs[i]? =some x) (hp:p x=true):FillI xs p (i+1) (addL l k x) (addK l k x):=by
 obtain⟨h1,h2⟩:=ZkC h.1 x
 refine⟨h1,fun c=> ?_⟩
 rw [h2,h.2,List.take_add_one,hx]
 simp only [Option.toList_some,List.mem_append,List.mem_singleton]
 constructor
 ·rintro(⟨g1,g2⟩|rfl)
  ·exact⟨.inl g1,g2⟩
  ·exact⟨.inr rfl,hp⟩
 ·rintro⟨g1|rfl,g2⟩
  ·exact .inl ⟨g1,g2⟩
  ·exact .inr rfl
theorem Zkp {xs:List KC} {p:KC→Bool} {i:Nat} {l:EL} {k:Nat} (h:FillI xs p i l k) {x:KC} (hx:xs[i]? =some x) (hp:¬ p x=true):FillI xs p (i+1) l k:=by
 refine⟨h.1,fun c=> ?_⟩
 rw [h.2,List.take_add_one,hx]
 simp only [Option.toList_some,List.mem_append,List.mem_singleton]
 constructor
 ·rintro⟨g1,g2⟩
  exact⟨.inl g1,g2⟩
 ·rintro⟨g1|rfl,g2⟩
  ·exact⟨g1,g2⟩
  ·exact absurd g2 hp
theorem Zjo {xs:List KC} {p:KC→Bool} {i:Nat} {l:EL} {k:Nat} (h:FillI xs p i l k) (hi:xs.length≤i) {M:List KC} (hM:∀ c,c∈M↔c∈xs∧p c=true):∀ c,Has l c↔c∈M.drop 0:=fun c=>by
 rw [h.2,List.take_of_length_le hi,List.drop_zero,hM]
set_option maxHeartbeats 4000000 in
set_option maxRecDepth 100000 in
theorem Zbi (a b:List KC) (F:Nat) (cp:List (List D)) (p:KC→Bool) (hp:∀ c:KC,Spec Tryd.prog Tab F ([cell c.1 c.2]++cp.map fun cs=> .val (.one (.ref cs))) (bool (p c))) (M:List KC) (hM:M.Pairwise kcLt) (hMm:∀ c,c∈M↔c∈a++b∧p c=true) (ha:a.length≤1048576) (hb:b.length≤1048576) (hMn:M.length≤4194304):Spec Tryd.prog Tab 7 [.val (.one (.d (.list (List.map kcD a)))),.val (.one (.d (.list (List.map kcD b)))),.val (.one (.d (.fn F cp)))] (.val (.one (.d (.list (List.map kcD M))))):=by
 have hal:(List.map kcD a).length=a.length:=List.length_map ..
 have hbl:(List.map kcD b).length=b.length:=List.length_map ..
 have h00:([]:List (List D)).length=0:=rfl
 have h01:([]++List.map kcD a).length=(List.map kcD a).length:=rfl
 refine Zf4 [15] Tryd.func7 rfl rfl Tryd.ntmps7 rfl (by kernel_rfl) rfl rfl ?_
 refine⟨trivial,?_⟩
 refine⟨⟨(Zb4 fun _=>rfl),(by show (([]).length+(List.map kcD a).length)*16≤_;omega),(by show (([]).length+(List.map kcD a).length)≤_;omega)⟩,?_⟩
 refine⟨⟨(Zb4 fun _=>rfl),(by show (([]++List.map kcD a).length+(List.map kcD b).length)*16≤_;omega),(by show (([]++List.map kcD a).length+(List.map kcD b).length)≤_;omega)⟩,?_⟩
 refine⟨Nat×EL×Nat,fun (i,L,k)=> [(2,.val (.one (.d (.fn F cp)))),(7,.val (.one (.mp 14))),(19,.val (.one (.row 15 0))),(20,int ((a++b).length:Int)),(21,int (i:Int))],
  fun (i,L,k)=> [(14,.ext none (.map (ent L) k)),(15,.row 25 2 0 (List.map kcD (a++b)) true)],fun (i,L,k)=>i≤(a++b).length∧FillI (a++b) p i L k,fun (i,L,k)=>(a++b).length - i,(0, [],0),?_,⟨Nat.zero_le _,Zjn _ _⟩,fun s hs=> ?_⟩
 ·constructor<;>(repeat' (first|exact rfl|exact True.intro|exact⟨_,_,rfl⟩|exact(by decide)|apply And.intro))
  all_goals first
   |exact congrArg (fun n:Int=>D.v (.int .i64 n)) (by simp)
   |(simp;done)
   |exact(List.map_append ..)
 obtain⟨i,L,k⟩:=s
 obtain⟨g0,g1⟩:=hs
 have hab:(a++b).length=a.length+b.length:=List.length_append ..
 refine⟨fun e1=> ?_,fun e1=> ?_⟩
 ·have f22:(i:Int)< ((a++b).length:Int):=of_decide_eq_true e1
  refine k_at_own' i (by first|rfl|omega|(rw [wrap64 _ (by omega) (by omega)];omega)|(rw [wrap64 _ (by omega) (by omega)];split<;>omega)) (by first|omega|(simp only [List.length_set];omega)|(simp;omega)) ?_
  refine ZI (l:=(a++b)) (i:=i) (by first|omega|exact Nat.mod_lt _ (by omega)) fun x24 hx24=> ?_
  refine ZcQ [D.v (.int .i64 (x24.1)),D.v (.int .i64 (x24.2))] _ (ZH hx24) rfl rfl ?_
  refine use (hp x24) rfl ?_
  refine⟨fun e2=> ?_,fun e2=> ?_⟩
  ·have f27:p x24=true:=e2
   refine⟨.tup [],.map (ent (addL L k x24)) (addK L k x24),⟨rfl,_,_,rfl,ZiL L k x24⟩,?_⟩
   refine⟨(i+1,addL L k x24,addK L k x24),⟨by have:=(List.getElem?_eq_some_iff.1 hx24).1;omega,Zjm g1 hx24 f27⟩,by have:=(List.getElem?_eq_some_iff.1 hx24).1;show _ - (i+1)< _ - i;omega,?_⟩
   constructor<;>(repeat' (first|exact rfl|exact True.intro|apply And.intro))
   all_goals first
    |exact congrArg (fun n:Int=>D.v (.int .i64 n)) (by rw [wrap64 _ (by omega) (by omega)];omega)
    |exact congrArg (fun n:Int=>D.v (.int .i64 n)) (by omega)
  ·have f27:¬ (p x24=true):=fun hh=>Bool.false_ne_true (e2.symm.trans hh)
   refine⟨(i+1,L,k),⟨by have:=(List.getElem?_eq_some_iff.1 hx24).1;omega,Zkp g1 hx24 f27⟩,by have:=(List.getElem?_eq_some_iff.1 hx24).1;show _ - (i+1)< _ - i;omega,?_⟩
   constructor<;>(repeat' (first|exact rfl|exact True.intro|apply And.intro))
   all_goals first
    |exact congrArg (fun n:Int=>D.v (.int .i64 n)) (by rw [wrap64 _ (by omega) (by omega)];omega)
    |exact congrArg (fun n:Int=>D.v (.int .i64 n)) (by omega)
 ·have f22:¬ ((i:Int)< ((a++b).length:Int)):=of_decide_eq_false e1
  refine⟨Nat×EL×Nat,fun (j,L2,k2)=> [(7,.val (.one (.mp 14))),(10,.val (.one (.row 69 0)))],
   fun (j,L2,k2)=> [(14,.ext none (.map (ent L2) k2)),(69,.row 25 2 0 (List.map kcD (M.take j)) true)],fun (j,L2,k2)=>j≤M.length∧Inv L2 k2∧∀ c,Has L2 c↔c∈M.drop j,fun (j,L2,k2)=>M.length - j,(0,L,k),?_,⟨Nat.zero_le _,g1.1,Zjo g1 (by omega) hMm⟩,fun s hs=> ?_⟩
  ·constructor<;>(repeat' (first|exact rfl|exact True.intro|exact⟨_,_,rfl⟩|exact(by decide)|apply And.intro))
   all_goals first|exact congrArg (fun n:Int=>D.v (.int .i64 n)) (by omega)|exact congrArg (fun n:Int=>D.v (.int .i64 n)) (by rw [wrap64 _ (by omega) (by omega)];omega)|(simp;done)
  obtain⟨j,L2,k2⟩:=s
  obtain⟨q0,q1,q2⟩:=hs
  have hln:=Zkl q2
  have hMt:(List.map kcD (M.take j)).length=j:=by rw [List.length_map,List.length_take];omega
  refine⟨int (L2.length:Int),⟨⟨_,_,ZcW⟩,congrArg (fun n:Nat=>int (n:Int)) (Zjp L2).symm⟩,?_⟩
  refine⟨fun e3=> ?_,fun e3=> ?_⟩
  ·have f33:(L2.length:Int) >0:=of_decide_eq_true e3
   refine⟨⟨_,_,ZcW⟩,?_⟩
   refine⟨Array Nat×Bool×KC,fun (seen,s,u)=> [(7,.val (.one (.mp 14))),(10,.val (.one (.row 69 0))),(11,.val (.one (.ptr 11 0))),(12,bool s),(35,.val (.one (.ptr 35 0)))],
    fun (seen,s,u)=> [(11,.var 25 [.d (.v (.int .i64 (u.1))),.d (.v (.int .i64 (u.2)))]),(14,.ext none (.map (ent L2) k2)),(35,.ext (some 14) (.mapIter none k2 seen k2)),(69,.row 25 2 0 (List.map kcD (M.take j)) true)],fun (seen,s,u)=>Least L2 seen s u,fun (seen,s,u)=>(leftOf (ent L2) seen).size,(#[],false,(0,0)),?_,Zh1 _ _,fun s hs=> ?_⟩
   ·constructor<;>(repeat' (first|exact rfl|exact True.intro|exact⟨_,_,rfl⟩|exact(by decide)|apply And.intro))
    all_goals first|exact congrArg (fun n:Int=>D.v (.int .i64 n)) (by omega)|exact congrArg (fun n:Int=>D.v (.int .i64 n)) (by rw [wrap64 _ (by omega) (by omega)];omega)|(simp;done)
   obtain⟨seen,s,u⟩:=s
   refine⟨⟨Zla q1,Nat.le_refl _⟩,fun v y h=> ?_⟩
   rcases h with ⟨h0,rfl,rfl⟩|⟨e,he,rfl,rfl⟩
   ·obtain⟨hs1,hs2,hs3⟩:=Zh2 hs h0 (by omega)
    have hat:=Zje hM q2 hs2 hs3
    refine⟨fun e=>absurd e (by decide),fun _=> ?_⟩
    refine⟨.tup [],.map (ent (delL L2 u)) k2,⟨rfl,_,_,rfl,ZiK L2 k2 u _ _⟩,?_⟩
    refine⟨⟨row1 rfl,(by show ((List.map kcD (M.take j)).length+1)*16≤_;omega),(by show ((List.map kcD (M.take j)).length+1)≤_;omega)⟩,?_⟩
    refine⟨(j+1,delL L2 u,k2),⟨by have:=(List.getElem?_eq_some_iff.1 hat).1;omega,(Zgj hM q1 q2 hat).1,(Zgj hM q1 q2 hat).2⟩,by have:=(List.getElem?_eq_some_iff.1 hat).1;show _ - (j+1)< _ - j;omega,?_⟩
    constructor<;>(repeat' (first|exact rfl|exact True.intro|apply And.intro))
    all_goals first
     |exact(by rw [List.take_add_one,hat];simp [kcD])
     |exact congrArg (fun n:Int=>D.v (.int .i64 n)) (by rw [wrap64 _ (by omega) (by omega)];omega)
     |exact congrArg (fun n:Int=>D.v (.int .i64 n)) (by omega)
   ·obtain⟨q,hq,rfl,hqs⟩:=Zkc he
    refine⟨fun _=> ?_,fun e=>absurd e (by decide)⟩
    refine⟨_,⟨seen,enP q,rfl,rfl,ZdK.2 ⟨q,hq,rfl⟩,(by rw [Zjq];exact q1.born),rfl,rfl,rfl⟩,?_⟩
    refine fork (fun e4=> ?_) (fun e4=> ?_)
    ·have f42:¬ (s=true):=fun hh=>Bool.false_ne_true ((ZhN e4).symm.trans hh)
     refine⟨fun _=> ?_,fun e=>absurd e (by decide)⟩
     refine⟨(seen.push q.2,true,q.1),Zcq q1 hs hq (fun h=>absurd h f42),left_shrinks (ent L2) seen (enP q) he,?_⟩
     constructor<;>(repeat' (first|exact rfl|exact True.intro|apply And.intro))
     all_goals first
      |exact congrArg (fun n:Int=>D.v (.int .i64 n)) (by rw [wrap64 _ (by omega) (by omega)];omega)
      |exact congrArg (fun n:Int=>D.v (.int .i64 n)) (by omega)
    ·have f42:¬ (¬ (s=true)):=fun hh=>hh ((ZhO e4))
     refine fork (fun e5=> ?_) (fun e5=> ?_)
     ·have f49:q.1.2< u.2:=of_decide_eq_true e5
      refine⟨fun _=> ?_,fun e=>absurd e (by decide)⟩
      refine⟨(seen.push q.2,true,q.1),Zcq q1 hs hq (fun _=> .inl f49),left_shrinks (ent L2) seen (enP q) he,?_⟩
      constructor<;>(repeat' (first|exact rfl|exact True.intro|apply And.intro))
      all_goals first
       |exact congrArg (fun n:Int=>D.v (.int .i64 n)) (by rw [wrap64 _ (by omega) (by omega)];omega)
       |exact congrArg (fun n:Int=>D.v (.int .i64 n)) (by omega)
     ·have f49:¬ (q.1.2< u.2):=of_decide_eq_false e5
      refine fork (fun e6=> ?_) (fun e6=> ?_)
      ·have f55:q.1.2=u.2:=Zix e6
       refine⟨fun e7=> ?_,fun e7=> ?_⟩
       ·have f62:q.1.1< u.1:=of_decide_eq_true e7
        refine⟨(seen.push q.2,true,q.1),Zcq q1 hs hq (fun _=> .inr ⟨f55,f62⟩),left_shrinks (ent L2) seen (enP q) he,?_⟩
        constructor<;>(repeat' (first|exact rfl|exact True.intro|apply And.intro))
        all_goals first
         |exact congrArg (fun n:Int=>D.v (.int .i64 n)) (by rw [wrap64 _ (by omega) (by omega)];omega)
         |exact congrArg (fun n:Int=>D.v (.int .i64 n)) (by omega)
       ·have f62:¬ (q.1.1< u.1):=of_decide_eq_false e7
        refine⟨(seen.push q.2,s,u),Zf0 q1 hs hq (Decidable.byContradiction fun h=>f42 h) (fun h=>h.elim f49 fun h=>f62 h.2),left_shrinks (ent L2) seen (enP q) he,?_⟩
        constructor<;>(repeat' (first|exact rfl|exact True.intro|apply And.intro))
        all_goals first
         |exact congrArg (fun n:Int=>D.v (.int .i64 n)) (by rw [wrap64 _ (by omega) (by omega)];omega)
         |exact congrArg (fun n:Int=>D.v (.int .i64 n)) (by omega)
      ·have f55:¬ (q.1.2=u.2):=Ziy e6
       refine⟨fun e=>absurd e (by decide),fun _=> ?_⟩
       refine⟨(seen.push q.2,s,u),Zf0 q1 hs hq (Decidable.byContradiction fun h=>f42 h) (fun h=>h.elim f49 fun h=>f55 h.1),left_shrinks (ent L2) seen (enP q) he,?_⟩
       constructor<;>(repeat' (first|exact rfl|exact True.intro|apply And.intro))
       all_goals first
        |exact congrArg (fun n:Int=>D.v (.int .i64 n)) (by rw [wrap64 _ (by omega) (by omega)];omega)
        |exact congrArg (fun n:Int=>D.v (.int .i64 n)) (by omega)
  ·have f33:¬ ((L2.length:Int) >0):=of_decide_eq_false e3
   refine Eq.trans (b:= .val (.one (.d (.list (List.map kcD (M.take j)))))) ?_ rfl
   have e:M.take j=M:=List.take_of_length_le (by omega)
   rw [e]
end
end Go.Proofs.YtcogfmileelkeaaDoor.eng
