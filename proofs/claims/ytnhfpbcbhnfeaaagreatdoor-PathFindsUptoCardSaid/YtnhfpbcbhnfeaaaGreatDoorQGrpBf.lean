/- Joined by wip/bundle.py: XBfs0 XBfs1. -/
import Derived.Test.YtnhfpbcbhnfeaaaGreatDoorQRow
open List (mem_append_left mem_append nodup_append length_append)
namespace Go.Proofs.YtnhfpbcbhnfeaaaGreatDoor.bfs
section
variable{α:Type}{lt:α->α->Prop}
def pl(lt:α->α->Prop):List α->List α->Prop
 | [], []=>True
 |a::p,b::q=>lt a b\/(a=b/\pl lt p q)
 |_,_=>False
def plt(lt:α->α->Prop):List α->List α->Prop
 |a::p,b::q=>lt a b\/(a=b/\plt lt p q)
 |_,_=>False
theorem ZdC:∀p:List α,pl lt p p
 | []=>trivial
 |_::p=>.inr ⟨rfl,ZdC p⟩
theorem Zlc(tr:∀a b c,lt a b->lt b c->lt a c):∀{p q r:List α},pl lt p q->pl lt q r->pl lt p r
 | [], [], [],_,_=>trivial
 |a::p,b::q,c::r,h,g=>by
  rcases h with h|⟨rfl,h⟩<;>rcases g with g|⟨rfl,g⟩
  .exact .inl (tr _ _ _ h g)
  .exact .inl h
  .exact .inl g
  .exact .inr ⟨rfl,Zlc tr h g⟩
 | [], [],_::_,_,h=>h.elim
 | [],_::_,_,h,_=>h.elim
 |_::_, [],_,h,_=>h.elim
 |_::_,_::_, [],_,h=>h.elim
theorem Zpo(irr:∀a,¬lt a a)(tr:∀a b c,lt a b->lt b c->lt a c):∀{p q:List α},pl lt p q->pl lt q p->p=q
 | [], [],_,_=>rfl
 |a::p,b::q,h,g=>by
  rcases h with h|⟨rfl,h⟩
  .rcases g with g|⟨rfl,_⟩
   .exact(irr _ (tr _ _ _ h g)).elim
   .exact(irr _ h).elim
  .rcases g with g|⟨_,g⟩
   .exact(irr _ g).elim
   .rw[Zpo irr tr h g]
 | [],_::_,h,_=>h.elim
 |_::_, [],h,_=>h.elim
theorem Zu6{w:α}:∀{p q:List α},pl lt p q->pl lt (p++[w]) (q++[w])
 | [], [],_=>ZdC _
 |_::_,_::_,h=>h.imp id fun ⟨e,h⟩=>⟨e,Zu6 h⟩
 | [],_::_,h=>h.elim
 |_::_, [],h=>h.elim
theorem Zu5:∀{p q:List α},plt lt p q->p.length=q.length->pl lt p q
 |_::_,_::_,h,e=>h.imp id fun ⟨e1,h⟩=>⟨e1,Zu5 h (by simpa using e)⟩
 | [],_,h,_=>h.elim
 |_::_, [],h,_=>h.elim
theorem ZjJ{a b:α}:∀{p q:List α},plt lt p q->plt lt (p++[a]) (q++[b])
 |_::_,_::_,h=>h.imp id fun ⟨e,h⟩=>⟨e,ZjJ h⟩
 | [],_,h=>h.elim
 |_::_, [],h=>h.elim
theorem Zlb{a b:α}(h:lt a b):∀p:List α,plt lt (p++[a]) (p++[b])
 | []=>.inl h
 |_::p=>.inr ⟨rfl,Zlb h p⟩
end
section
variable{α:Type}
inductive Way(E:α->α->Prop):Nat->α->α->List α->Prop
 |nil (x:α):Way E 0 x x [x]
 |cons {d:Nat} {x z y:α} {l:List α}:E x z->Way E d z y l->Way E (d+1) x y (x::l)
variable{E:α->α->Prop}
theorem Way.len{d:Nat}{x y:α}{l:List α}(h:Way E d x y l):l.length=d+1:=by
 induction h with
 |nil x=>rfl
 |cons _ _ ih=>simp[ih]
theorem Way.last{d:Nat}{x y:α}{l:List α}(h:Way E d x y l):l.getLast? =some y:=by
 induction h with
 |nil x=>rfl
 |@cons d x z y l _ h ih=>
  cases l with
  |nil=>simp at ih
  |cons a l=>simpa using ih
theorem Way.snoc{d:Nat}{x y z:α}{l:List α}(h:Way E d x y l)(e:E y z):Way E (d+1) x z (l++[z]):=by
 induction h with
 |nil x=>exact .cons e (.nil z)
 |cons e' _ ih=>exact .cons e' (ih e)
theorem Way.unsnoc:∀{d:Nat}{x z:α}{q:List α},Way E (d+1) x z q->∃y q',Way E d x y q'/\E y z/\q=q'++[z]
 |0,x,z,q,h=>by
  cases h with
  |cons e h=>cases h with
   |nil=>exact⟨x, [x],.nil x,e,rfl⟩
 |d+1,x,z,q,h=>by
  cases h with
  |cons e h=>
   obtain⟨y,q',h1,h2,h3⟩:=Way.unsnoc h;exact⟨y,x::q',.cons e h1,h2,by rw[h3];rfl⟩
def Dst(E:α->α->Prop)(x y:α)(d:Nat):Prop:=(∃l,Way E d x y l)/\∀e l,Way E e x y l->d<=e
theorem Dst.uniq{x y:α}{d e:Nat}(h:Dst E x y d)(g:Dst E x y e):d=e:=by
 obtain⟨l,hl⟩:=h.1;obtain⟨m,hm⟩:=g.1;have:=h.2 e m hm;have:=g.2 d l hl;omega
theorem Dst.self(x:α):Dst E x x 0:=⟨⟨_,.nil x⟩,fun _ _ _=>Nat.zero_le _⟩
theorem Dst.step{x y z:α}{d:Nat}{l:List α}(h:Dst E x y (d+1))(e:E x z)(hw:Way E d z y l):Dst E z y d:=
 ⟨⟨l,hw⟩,fun k m hm=>by have:=h.2 _ _ (Way.cons e hm);omega⟩
theorem Dst.first{x y:α}{d:Nat}(h:Dst E x y (d+1)):∃z,E x z/\Dst E z y d:=by
 obtain⟨l,hl⟩:=h.1
 cases hl with
 |cons e hw=>exact⟨_,e,h.step e hw⟩
end
section
variable{α:Type}[DecidableEq α](nb:α->List α)(fr:α->α->Bool)(V:α->Prop)(src goal:α)
def Egd(x y:α):Prop:=y∈nb x/\fr x y=true
def getF(far:List (α×Nat))(x:α):Option Nat:=(far.find? fun p=>decide (p.1=x)).map (·.2)
def stepF(u:α)(s:List (α×Nat)×List α)(y:α):List (α×Nat)×List α:=
 if (getF s.1 y).isSome=true\/fr y u=false then s else (s.1++[(y,(getF s.1 u).getD 0+1)],s.2++[y])
def rowF(s:List (α×Nat)×List α)(u:α):List (α×Nat)×List α:=(nb u).foldl (stepF fr u) s
inductive Meas:List α->List (α×Nat)->List (α×Nat)->Prop
 |nil (far:List (α×Nat)):Meas [] far far
 |hit (pre post:List α) (far:List (α×Nat)):src ∉ pre->Meas (pre++src::post) far (pre.foldl (rowF nb fr) (far, [])).1
 |step (row:List α) (far F:List (α×Nat)):row≠ []->src ∉ row->Meas (row.foldl (rowF nb fr) (far, [])).2 (row.foldl (rowF nb fr) (far, [])).1 F->Meas row far F
variable{nb fr V src goal}
theorem ZiJ{far:List (α×Nat)}{x:α}(h:getF far x=none):∀e,(x,e) ∉ far:=by
 intro e he;unfold getF at h;rw[Option.map_eq_none_iff,List.find?_eq_none]at h;exact h _ he (by simp)
theorem Zdk{far:List (α×Nat)}{x:α}{e:Nat}(h:getF far x=some e):(x,e)∈far:=by
 unfold getF at h;obtain⟨p,hp,rfl⟩:=Option.map_eq_some_iff.1 h;have h1:=List.find?_some hp;have h2:=List.mem_of_find?_eq_some hp;obtain⟨a,b⟩:=p;obtain rfl:a=x:=by simpa using h1
 exact h2
theorem Zdl{far:List (α×Nat)}(hu:∀x e e',(x,e)∈far->(x,e')∈far->e=e'){x:α}{e:Nat}(h:(x,e)∈far):getF far x=some e:=by
 cases hg:getF far x with
 |none=>exact absurd h (ZiJ hg e)
 |some e'=>rw[hu _ _ _ h (Zdk hg)]
structure Part(E:α->α->Prop)(V:α->Prop)(goal:α)(fr:α->α->Bool)(d:Nat)(far:List (α×Nat))(next:List α)(P:α->α->Prop):Prop where
 ok:∀x e,(x,e)∈far->V x/\Dst E x goal e/\e<=d+1
 all:∀x e,V x->e<=d->Dst E x goal e->(x,e)∈far
 next:∀x,x∈next↔(x,d+1)∈far
 key:(far.map (·.1)).Nodup
 done:∀u y,P u y->V y->fr y u=true->∃e,(y,e)∈far
omit [DecidableEq α] in
theorem Part.uniq{E:α->α->Prop}{d:Nat}{far:List (α×Nat)}{next:List α}{P:α->α->Prop}(h:Part E V goal fr d far next P):∀x e e',(x,e)∈far->(x,e')∈far->e=e':=
 fun x e e' h1 h2=>(h.ok x e h1).2.1.uniq (h.ok x e' h2).2.1
theorem Zpp{d:Nat}{far:List (α×Nat)}{next:List α}{P:α->α->Prop}(hs:∀x y,V x->y∈nb x->V y/\x∈nb y)(h:Part (Egd nb fr) V goal fr d far next P){u y:α}(hu:Dst (Egd nb fr) u goal d)(hV:V u)(hy:y∈nb u):
  Part (Egd nb fr) V goal fr d (stepF fr u (far,next) y).1 (stepF fr u (far,next) y).2 fun a b=>P a b\/(a=u/\b=y):=by
 obtain⟨hVy,huy⟩:=hs u y hV hy;have hgu:getF far u=some d:=Zdl h.uniq (h.all u d hV (Nat.le_refl _) hu);unfold stepF;split
 .rename_i hc;refine⟨h.ok,h.all,h.next,h.key,fun a b hp hVb hf=>?_⟩;rcases hp with hp|⟨rfl,rfl⟩
  .exact h.done a b hp hVb hf
  .rcases hc with hc|hc
   .obtain⟨e,he⟩:=Option.isSome_iff_exists.1 hc;exact⟨e,Zdk he⟩
   .rw[hf]at hc;simp at hc
 .rename_i hc;simp only[not_or,Bool.not_eq_true,Option.isSome_eq_false_iff,Option.isNone_iff_eq_none,Bool.not_eq_false]at hc;obtain⟨hn,hf⟩:=hc;have hn':=ZiJ hn;have hd:Dst (Egd nb fr) y goal (d+1):=by
   obtain⟨l,hl⟩:=hu.1;refine⟨⟨_,Way.cons ⟨huy,hf⟩ hl⟩,fun e l' hl'=> Nat.lt_of_not_le fun hle=>?_⟩;have key:∀e,e<=d->∀l',¬Way (Egd nb fr) e y goal l':=by
    intro e
    induction e using Nat.strongRecOn with
    |ind e ih=>
     intro he l' hl';exact hn' e (h.all y e hVy he ⟨⟨l',hl'⟩,fun k m hm=>Nat.le_of_not_lt fun hk=>ih k hk ω m hm⟩)
   exact key e ω l' hl'
  simp only[hgu,Option.getD_some];refine⟨fun x e hx=>?_,fun x e hx he hde=>mem_append_left _ (h.all x e hx he hde),fun x=>?_,?_,fun a b hp hVb hf'=>?_⟩
  .rcases List.mem_append.1 hx with hx|hx
   .exact h.ok x e hx
   .obtain⟨rfl,rfl⟩:x=y/\e=d+1:=by simpa using hx
    exact⟨hVy,hd,Nat.le_refl _⟩
  .simp only[mem_append,List.mem_singleton,Prod.mk.injEq,and_true,h.next]
  .rw[List.map_append,nodup_append];refine⟨h.key,by simp,fun a ha b hb=>?_⟩;obtain⟨⟨p,e⟩,hp,rfl⟩:=List.mem_map.1 ha;have hb':b=y:=by simpa using hb
   subst hb';rintro rfl;exact hn' e hp
  .rcases hp with hp|⟨rfl,rfl⟩
   .obtain⟨e,he⟩:=h.done a b hp hVb hf';exact⟨e,mem_append_left _ he⟩
   .exact⟨d+1,by simp⟩
theorem ZjL{d:Nat}(hs:∀x y,V x->y∈nb x->V y/\x∈nb y){u:α}(hu:Dst (Egd nb fr) u goal d)(hV:V u):∀(l:List α)(far:List (α×Nat))(next:List α)(P:α->α->Prop),(∀y,y∈l->y∈nb u)->Part (Egd nb fr) V goal fr d far next P->
  Part (Egd nb fr) V goal fr d (l.foldl (stepF fr u) (far,next)).1 (l.foldl (stepF fr u) (far,next)).2 fun a b=>P a b\/(a=u/\b∈l)
 | [],far,next,P,_,h=>⟨h.ok,h.all,h.next,h.key,fun a b hp=>h.done a b (by simpa using hp)⟩
 |y::l,far,next,P,hl,h=>by
  have h1:=Zpp hs h hu hV (hl y (by simp));have h2:=ZjL hs hu hV l _ _ _ (fun z hz=>hl z (List.mem_cons_of_mem _ hz)) h1;refine⟨h2.ok,h2.all,h2.next,h2.key,fun a b hp=>h2.done a b ?_⟩;rcases hp with hp|⟨rfl,hb⟩
  .exact .inl (.inl hp)
  .rcases List.mem_cons.1 hb with rfl|hb
   .exact .inl (.inr ⟨rfl,rfl⟩)
   .exact .inr ⟨rfl,hb⟩
theorem Zek{d:Nat}(hs:∀x y,V x->y∈nb x->V y/\x∈nb y):∀(row:List α)(far:List (α×Nat))(next:List α)(P:α->α->Prop),(∀u,u∈row->Dst (Egd nb fr) u goal d/\V u)->Part (Egd nb fr) V goal fr d far next P->
  Part (Egd nb fr) V goal fr d (row.foldl (rowF nb fr) (far,next)).1 (row.foldl (rowF nb fr) (far,next)).2 fun a b=>P a b\/(a∈row/\b∈nb a)
 | [],far,next,P,_,h=>⟨h.ok,h.all,h.next,h.key,fun a b hp=>h.done a b (by simpa using hp)⟩
 |u::row,far,next,P,hr,h=>by
  obtain⟨h0,hV⟩:=hr u (by simp);have h1:=ZjL hs h0 hV (nb u) far next P (fun y hy=>hy) h
  have h2:=Zek hs row _ _ _ (fun z hz=>hr z (List.mem_cons_of_mem _ hz)) h1;refine⟨h2.ok,h2.all,h2.next,h2.key,fun a b hp=>h2.done a b ?_⟩;rcases hp with hp|⟨ha,hb⟩
  .exact .inl (.inl hp)
  .rcases List.mem_cons.1 ha with rfl|ha
   .exact .inl (.inr ⟨rfl,hb⟩)
   .exact .inr ⟨ha,hb⟩
structure Lvl(E:α->α->Prop)(V:α->Prop)(goal:α)(d:Nat)(far:List (α×Nat))(row:List α):Prop where
 ok:∀x e,(x,e)∈far->V x/\Dst E x goal e/\e<=d
 all:∀x e,V x->e<=d->Dst E x goal e->(x,e)∈far
 row:∀x,x∈row↔(Dst E x goal d/\V x)
 key:(far.map (·.1)).Nodup
theorem Lvl.part{d:Nat}{far:List (α×Nat)}{row:List α}(h:Lvl (Egd nb fr) V goal d far row):Part (Egd nb fr) V goal fr d far [] fun _ _=>False:=
 ⟨fun x e hx=>by obtain⟨a,b,c⟩:=h.ok x e hx;exact⟨a,b,ω⟩,h.all,fun x=>⟨fun hx=>by simp at hx,fun hx=>by have:=(h.ok x _ hx).2.2;omega⟩,h.key,fun _ _ hp=>hp.elim⟩
omit [DecidableEq α] in
theorem Zwv(hg:V goal):Lvl (Egd nb fr) V goal 0 [(goal,0)] [goal]:=by
 refine⟨fun x e hx=>?_,fun x e _ he hd=>?_,fun x=>?_,by simp⟩
 .obtain⟨rfl,rfl⟩:x=goal/\e=0:=by simpa using hx
  exact⟨hg,Dst.self _,Nat.le_refl _⟩
 .obtain rfl:e=0:=ω;obtain⟨l,hl⟩:=hd.1
  cases hl with
  |nil=>simp
 .constructor
  .intro hx;obtain rfl:x=goal:=by simpa using hx
   exact⟨Dst.self _,hg⟩
  .rintro⟨hd,_⟩;obtain⟨l,hl⟩:=hd.1
   cases hl with
   |nil=>simp
theorem Lvl.next{d:Nat}{far:List (α×Nat)}{row:List α}(hs:∀x y,V x->y∈nb x->V y/\x∈nb y)(h:Lvl (Egd nb fr) V goal d far row):
  Lvl (Egd nb fr) V goal (d+1) (row.foldl (rowF nb fr) (far, [])).1 (row.foldl (rowF nb fr) (far, [])).2:=by
 have p:=Zek hs row far [] _ (fun u hu=>(h.row u).1 hu) h.part;have hall:∀x,V x->Dst (Egd nb fr) x goal (d+1)->(x,d+1)∈(row.foldl (rowF nb fr) (far, [])).1:=by
  intro x hV hd;obtain⟨z,ez,hz⟩:=hd.first;obtain⟨hVz,hxz⟩:=hs x z hV ez.1;obtain⟨e,he⟩:=p.done z x (.inr ⟨(h.row z).2 ⟨hz,hVz⟩,hxz⟩) hV ez.2;rw[hd.uniq (p.ok x e he).2.1];exact he
 refine⟨fun x e hx=>p.ok x e hx,fun x e hV he hd=>?_,fun x=>?_,p.key⟩
 .by_cases hle:e<=d
  .exact p.all x e hV hle hd
  .obtain rfl:e=d+1:=ω;exact hall x hV hd
 .rw[p.next];exact⟨fun hx=>⟨(p.ok x _ hx).2.1,(p.ok x _ hx).1⟩,fun ⟨hd,hV⟩=>hall x hV hd⟩
structure Srch(E:α->α->Prop)(V:α->Prop)(src goal:α)(F:List (α×Nat)):Prop where
 ok:∀x e,(x,e)∈F->V x/\Dst E x goal e
 all:∀D,Dst E src goal D->∀x e,V x->e<=D->Dst E x goal e->(x,e)∈F
 key:(F.map (·.1)).Nodup
omit [DecidableEq α] in
theorem Dst.mid(hs:∀x y,V x->y∈nb x->V y/\x∈nb y){d:Nat}:∀{D:Nat}{x:α},V x->Dst (Egd nb fr) x goal D->d<=D->∃z,V z/\Dst (Egd nb fr) z goal d
 |D,x,hV,h,hle=>by
  by_cases e:d=D
  .exact⟨x,hV,e▸h⟩
  .obtain⟨k,rfl⟩:∃k,D=k+1:=⟨D-1,ω⟩;obtain⟨z,ez,hz⟩:=h.first;exact Dst.mid hs (hs x z hV ez.1).1 hz ω
theorem ZpW(hs:∀x y,V x->y∈nb x->V y/\x∈nb y)(hsrc:V src){row:List α}{far F:List (α×Nat)}(h:Meas nb fr src row far F):∀d,Lvl (Egd nb fr) V goal d far row->Srch (Egd nb fr) V src goal F:=by
 induction h with
 |nil far=>
  intro d L;refine⟨fun x e hx=>⟨(L.ok x e hx).1,(L.ok x e hx).2.1⟩,fun D hD x e hV he hd=>?_,L.key⟩;by_cases hle:d<=D
  .obtain⟨z,hz,hzd⟩:=Dst.mid hs hsrc hD hle;have:=(L.row z).2 ⟨hzd,hz⟩;simp at this
  .exact L.all x e hV ω hd
 |hit pre post far hpre=>
  intro d L;have hrow:∀u,u∈pre->Dst (Egd nb fr) u goal d/\V u:=fun u hu=>(L.row u).1 (mem_append_left _ hu);have p:=Zek hs pre far [] _ hrow L.part;have hd:=((L.row src).1 (by simp)).1;refine⟨fun x e hx=>⟨(p.ok x e hx).1,(p.ok x e hx).2.1⟩,fun D hD x e hV he hde=>?_,p.key⟩;obtain rfl:=hD.uniq hd;exact p.all x e hV he hde
 |step row far F _ _ _ ih=>
  intro d L;exact ih (d+1) (L.next hs)
omit [DecidableEq α] in
theorem Srch.uniq{E:α->α->Prop}{F:List (α×Nat)}(h:Srch E V src goal F):∀x e e',(x,e)∈F->(x,e')∈F->e=e':=fun x e e' h1 h2=>(h.ok x e h1).2.uniq (h.ok x e' h2).2
theorem ZhM(u:α)(s:List (α×Nat)×List α)(y:α)(n:Nat)(h:s.1.length=n+s.2.length):(stepF fr u s y).1.length=n+(stepF fr u s y).2.length:=by
 unfold stepF;split
 .exact h
 .simp only[length_append,List.length_singleton];omega
theorem ZsM(s:List (α×Nat)×List α)(u:α)(n:Nat)(h:s.1.length=n+s.2.length):(rowF nb fr s u).1.length=n+(rowF nb fr s u).2.length:=by
 unfold rowF;generalize nb u=l
 induction l generalizing s with
 |nil=>exact h
 |cons y l ih=>exact ih _ (ZhM u s y n h)
theorem ZgN:∀(row:List α)(s:List (α×Nat)×List α)(n:Nat),s.1.length=n+s.2.length->(row.foldl (rowF nb fr) s).1.length=n+(row.foldl (rowF nb fr) s).2.length
 | [],_,_,h=>h
 |u::row,s,n,h=>ZgN row _ n (ZsM s u n h)
theorem ZpX(hs:∀x y,V x->y∈nb x->V y/\x∈nb y){N:Nat}(hN:∀l:List α,l.Nodup->(∀x,x∈l->V x)->l.length<=N):∀(m d:Nat)(row:List α)(far:List (α×Nat)),Lvl (Egd nb fr) V goal d far row->2*(N-far.length)+(if row= [] then 0 else 1)<=m->∃F,Meas nb fr src row far F:=by
 intro m
 induction m with
 |zero=>
  intro d row far L hm;by_cases e:row= []
  .subst e;exact⟨far,.nil far⟩
  .rw[if_neg e]at hm;omega
 |succ m ih=>
  intro d row far L hm;by_cases e:row= []
  .subst e;exact⟨far,.nil far⟩
  .by_cases hsr:src∈row
   .obtain⟨pre,post,h1,h2⟩:=List.append_of_mem hsr|>fun ⟨a,b,h⟩=>(⟨a,b,h,trivial⟩:∃a b,row=a++src::b/\True);have key:∀(l:List α),src∈l->∃p q,l=p++src::q/\src ∉ p:=by
     intro l
     induction l with
     |nil=>intro h;simp at h
     |cons a l ihl=>
      intro h;by_cases ea:a=src
      .exact⟨[],l,by rw[ea];rfl,by simp⟩
      .rcases List.mem_cons.1 h with h|h
       .exact absurd h.symm ea
       .obtain⟨p,q,h3,h4⟩:=ihl h;exact⟨a::p,q,by rw[h3];rfl,fun h5=>by rcases List.mem_cons.1 h5 with h5|h5;exact ea h5.symm;exact h4 h5⟩
    obtain⟨p,q,h3,h4⟩:=key row hsr;rw[h3];exact⟨_,.hit p q far h4⟩
   .have L':=L.next hs;have hlen:=ZgN (nb:=nb) (fr:=fr) row (far, []) far.length rfl;have hkey:=hN _ L'.key (fun x hx=>by obtain⟨⟨a,b⟩,hp,rfl⟩:=List.mem_map.1 hx;exact(L'.ok a b hp).1);rw[List.length_map]at hkey;rw[if_neg e]at hm;obtain⟨F,hF⟩:=ih (d+1) _ _ L' (by
     split
     .omega
     .rename_i hne;have:0<(row.foldl (rowF nb fr) (far, [])).2.length:=List.length_pos_iff.2 hne;omega)
    exact⟨F,.step row far F e hsr hF⟩
end
section
variable{α:Type}[DecidableEq α](nb:α->List α)(fr:α->α->Bool)(lt:α->α->Bool){V:α->Prop}{src goal:α}
def lmnS(F:List (α×Nat))(u:α)(e:Nat)(b:Option α)(v:α):Option α:=
 if getF F v=some e/\(∀c,b=some c->lt v c=true)/\fr u v=true then some v else b
def lmn(F:List (α×Nat))(u:α)(e:Nat):Option α:=(nb u).foldl (lmnS fr lt F u e) none
def wlk(F:List (α×Nat)):Nat->α->List α
 |0,x=>[x]
 |d+1,x=>x::(match lmn nb fr lt F x d with
  |some y=>wlk F d y
  |none=>[])
variable{nb fr lt}
variable(tr:∀ a b c, lt a b=true->lt b c=true->lt a c=true)(tot:∀ a b, lt a b=true\/a=b\/lt b a=true)
def Cand(fr:α->α->Bool)(F:List (α×Nat))(u:α)(e:Nat)(v:α):Prop:=getF F v=some e/\fr u v=true
include tr tot in
theorem Zhb{F:List (α×Nat)}{u:α}{e:Nat}:∀(l:List α)(b:Option α)(seen:List α),(∀c,b=some c->c∈seen/\Cand fr F u e c/\∀v,v∈seen->Cand fr F u e v->c=v\/lt c v=true)->(b=none->∀v,v∈seen->¬Cand fr F u e v)->
  (∀c,l.foldl (lmnS fr lt F u e) b=some c->c∈seen++l/\Cand fr F u e c/\∀v,v∈seen++l->Cand fr F u e v->c=v\/lt c v=true)/\(l.foldl (lmnS fr lt F u e) b=none->∀v,v∈seen++l->¬Cand fr F u e v)
 | [],b,seen,h1,h2=>by simpa using ⟨h1,h2⟩
 |y::l,b,seen,h1,h2=>by
  have h3:=Zhb (F:=F) (u:=u) (e:=e) l (lmnS fr lt F u e b y) (seen++[y]) (fun c hc=>?_) (fun hc v hv hcand=>?_)
  .simpa using h3
  .unfold lmnS at hc;split at hc
   .rename_i hy;obtain rfl:=sI hc;refine⟨by simp,⟨hy.1,hy.2.2⟩,fun v hv hcand=>?_⟩;rcases List.mem_append.1 hv with hv|hv
    .cases hb:b with
     |none=>exact absurd hcand (h2 hb v hv)
     |some c=>
      have:=hy.2.1 c hb;rcases (h1 c hb).2.2 v hv hcand with rfl|h4
      .exact .inr this
      .exact .inr (tr _ _ _ this h4)
    .exact .inl (List.mem_singleton.1 hv).symm
   .rename_i hy;obtain⟨g1,g2,g3⟩:=h1 c hc;refine⟨mem_append_left _ g1,g2,fun v hv hcand=>?_⟩;rcases List.mem_append.1 hv with hv|hv
    .exact g3 v hv hcand
    .obtain rfl:=List.mem_singleton.1 hv;rcases tot c v with h5|h5|h5
     .exact .inr h5
     .exact .inl h5
     .exact absurd ⟨hcand.1,fun c' hc'=>by rw[hc]at hc';obtain rfl:=sI hc';exact h5,hcand.2⟩ hy
  .unfold lmnS at hc;split at hc
   .simp at hc
   .rename_i hy;rcases List.mem_append.1 hv with hv|hv
    .exact h2 hc v hv hcand
    .obtain rfl:=List.mem_singleton.1 hv;exact hy ⟨hcand.1,fun c' hc'=>by rw[hc]at hc';simp at hc',hcand.2⟩
include tr tot in
theorem Zyz{F:List (α×Nat)}{u:α}{e:Nat}:(∀c,lmn nb fr lt F u e=some c->c∈nb u/\Cand fr F u e c/\∀v,v∈nb u->Cand fr F u e v->c=v\/lt c v=true)/\(lmn nb fr lt F u e=none->∀v,v∈nb u->¬Cand fr F u e v):=by
 have:=Zhb (fr:=fr) (F:=F) (u:=u) (e:=e) tr tot (nb u) none [] (fun c hc=>by simp at hc) (fun _ v hv=>by simp at hv);simpa[lmn]using this
include tr tot in
theorem Zlo{F:List (α×Nat)}(hs:∀x y,V x->y∈nb x->V y/\x∈nb y)(P:Srch (Egd nb fr) V src goal F){D:Nat}(hD:Dst (Egd nb fr) src goal D){x:α}{d:Nat}(hV:V x)(hd:Dst (Egd nb fr) x goal (d+1))(hle:d+1<=D):
  ∃c,lmn nb fr lt F x d=some c/\c∈nb x/\getF F c=some d/\fr x c=true/\V c/\Dst (Egd nb fr) c goal d/\∀v,v∈nb x->fr x v=true->Dst (Egd nb fr) v goal d->c=v\/lt c v=true:=by
 obtain⟨h1,h2⟩:=Zyz (nb:=nb) (fr:=fr) (F:=F) (u:=x) (e:=d) tr tot;have hc:∀v,v∈nb x->fr x v=true->Dst (Egd nb fr) v goal d->Cand fr F x d v:=fun v hv hf hdv=>⟨Zdl P.uniq (P.all D hD v d (hs x v hV hv).1 ω hdv),hf⟩;obtain⟨z,ez,hz⟩:=hd.first
 cases hb:lmn nb fr lt F x d with
 |none=>exact absurd (hc z ez.1 ez.2 hz) (h2 hb z ez.1)
 |some c=>
  obtain⟨g1,g2,g3⟩:=h1 c hb;have hcm:=Zdk g2.1;exact⟨c,rfl,g1,g2.1,g2.2,(P.ok c d hcm).1,(P.ok c d hcm).2,fun v hv hf hdv=>g3 v hv (hc v hv hf hdv)⟩
include tr tot in
theorem ZhF{F:List (α×Nat)}(hs:∀x y,V x->y∈nb x->V y/\x∈nb y)(P:Srch (Egd nb fr) V src goal F){D:Nat}(hD:Dst (Egd nb fr) src goal D):∀(d:Nat)(x:α),V x->d<=D->Dst (Egd nb fr) x goal d->
  Way (Egd nb fr) d x goal (wlk nb fr lt F d x)/\∀l,Way (Egd nb fr) d x goal l->pl (fun a b=>lt a b=true) (wlk nb fr lt F d x) l
 |0,x,hV,_,hd=>by
  obtain⟨l,hl⟩:=hd.1
  cases hl with
  |nil=>
   refine⟨.nil _,fun l hl=>?_⟩
   cases hl with
   |nil=>exact ZdC _
 |d+1,x,hV,hle,hd=>by
  obtain⟨c,hb,hc1,hc2,hc3,hc4,hc5,hc6⟩:=Zlo tr tot hs P hD hV hd hle;obtain⟨h1,h2⟩:=ZhF hs P hD d c hc4 ω hc5;have e:wlk nb fr lt F (d+1) x=x::wlk nb fr lt F d c:=by
   show x::_=_;rw[hb]
  rw[e];refine⟨.cons ⟨hc1,hc3⟩ h1,fun l hl=>?_⟩
  cases hl with
  |@cons _ _ z _ l ez hw=>
   refine .inr ⟨rfl,?_⟩;have hz:=hd.step ez hw;rcases hc6 z ez.1 ez.2 hz with rfl|hlt
   .exact h2 l hw
   .have hl1:=h1.len;have hl2:=hw.len;have hh:∃l',wlk nb fr lt F d c=c::l':=by cases d<;>exact⟨_,rfl⟩
    obtain⟨l',hl'⟩:=hh
    cases hw with
    |nil=>rw[hl'];exact .inl hlt
    |cons _ _=>rw[hl'];exact .inl hlt
end
section
variable{α:Type}[DecidableEq α](srt:α->List α)(fr:α->α->Bool)(dflt:α)
def stepR(seen l:List α)(x:α)(s:List (List α)×List α)(w:α):List (List α)×List α:=
 if w∈seen\/w∈s.2\/fr x w=false then s else (s.1++[l++[w]],s.2++[w])
def lstO(l:List α):α:=l.getLast?.getD dflt
def rowG(seen:List α)(s:List (List α)×List α)(l:List α):List (List α)×List α:=(srt (lstO dflt l)).foldl (stepR fr seen l (lstO dflt l)) s
inductive RWay(goal:α):List (List α)->List α->Option (List α)->Prop
 |nil (seen:List α):RWay goal [] seen none
 |hit (pre:List (List α)) (l:List α) (post:List (List α)) (seen:List α):(∀m,m∈pre->lstO dflt m≠goal)->lstO dflt l=goal->RWay goal (pre++l::post) seen (some l)
 |step (lists:List (List α)) (seen:List α) (r:Option (List α)):lists≠ []->(∀m,m∈lists->lstO dflt m≠goal)->
   RWay goal (lists.foldl (rowG srt fr dflt seen) ([], [])).1 (seen++(lists.foldl (rowG srt fr dflt seen) ([], [])).2) r->RWay goal lists seen r
variable{srt fr dflt}{lt:α->α->Prop}{E:α->α->Prop}{u:α}
structure Grow(E:α->α->Prop)(lt:α->α->Prop)(u:α)(k:Nat)(seen:List α)(done:List (List α))(c ws:List α)(next:List (List α))(fresh:List α):Prop where
 of:∀m,m∈next->∃l x w,(l∈done\/(l=c/\w∈ws))/\Way E k u x l/\E x w/\w ∉ seen/\m=l++[w]
 fw:∀w,w∈fresh↔∃m,m∈next/\m.getLast? =some w
 srt:next.Pairwise (plt lt)
 cov:∀l x w,(l∈done\/(l=c/\w∈ws))->Way E k u x l->E x w->w ∉ seen->∃m,m∈next/\m.getLast? =some w/\pl lt m (l++[w])
 one:∀m m',m∈next->m'∈next->m.getLast? =m'.getLast? ->m=m'
 len:fresh.length=next.length
 nd:fresh.Nodup
section
variable(tr:∀ a b c, lt a b->lt b c->lt a c)(tot:∀ a b, lt a b\/a=b\/lt b a)
include tot in
theorem ZqP{k:Nat}{seen:List α}{done next:List (List α)}{c ws fresh:List α}(h:Grow E lt u k seen done c ws next fresh){x w:α}(hc:Way E k u x c)(hd:∀l,l∈done->plt lt l c/\l.length=c.length)(hw:∀a,a∈ws->¬lt w a)(hE:fr x w=true↔E x w):
  Grow E lt u k seen done c (ws++[w]) (stepR fr seen c x (next,fresh) w).1 (stepR fr seen c x (next,fresh) w).2:=by
 have huniq:∀{y:α}{l:List α},Way E k u y l->∀{z:α},Way E k u z l->y=z:=fun h1 _ h2=>sI (h1.last.symm.trans h2.last);unfold stepR;split
 .rename_i hs;refine⟨fun m hm=>?_,h.fw,h.srt,fun l y z hp hl he hz=>?_,h.one,h.len,h.nd⟩
  .obtain⟨l,y,z,hp,h1⟩:=h.of m hm;exact⟨l,y,z,hp.imp id fun ⟨e,hz⟩=>⟨e,mem_append_left _ hz⟩,h1⟩
  .rcases hp with hp|⟨rfl,hp⟩
   .exact h.cov l y z (.inl hp) hl he hz
   .rcases List.mem_append.1 hp with hp|hp
    .exact h.cov l y z (.inr ⟨rfl,hp⟩) hl he hz
    .obtain rfl:=List.mem_singleton.1 hp;obtain rfl:=huniq hl hc;rcases hs with hs|hs|hs
     .exact absurd hs hz
     .obtain⟨m,hm,hml⟩:=(h.fw z).1 hs;refine⟨m,hm,hml,?_⟩;obtain⟨l',y',w',hp',hl',_,_,rfl⟩:=h.of m hm;obtain rfl:w'=z:=by simpa using hml
      rcases hp' with hp'|⟨rfl,_⟩
      .exact Zu5 (ZjJ (hd l' hp').1) (by simp[(hd l' hp').2])
      .exact ZdC _
     .rw[hE.2 he]at hs;simp at hs
 .rename_i hs;simp only[not_or,Bool.not_eq_false]at hs;obtain⟨hs1,hs2,hs3⟩:=hs;have hnew:∀m,m∈next->plt lt m (c++[w]):=by
   intro m hm;obtain⟨l',y',w',hp',_,_,_,rfl⟩:=h.of m hm;rcases hp' with hp'|⟨rfl,hp'⟩
   .exact ZjJ (hd l' hp').1
   .have hne:w'≠w:=fun e=>hs2 ((h.fw w).2 ⟨_,hm,by simp[e]⟩);rcases tot w' w with h1|h1|h1
    .exact Zlb h1 _
    .exact absurd h1 hne
    .exact absurd h1 (hw w' hp')
  refine⟨fun m hm=>?_,fun z=>?_,?_,fun l y z hp hl he hz=>?_,fun m m' hm hm' e=>?_,by simp[h.len],?_⟩
  .rcases List.mem_append.1 hm with hm|hm
   .obtain⟨l,y,z,hp,h1⟩:=h.of m hm;exact⟨l,y,z,hp.imp id fun ⟨e,hz⟩=>⟨e,mem_append_left _ hz⟩,h1⟩
   .exact⟨c,x,w,.inr ⟨rfl,by simp⟩,hc,hE.1 hs3,hs1,List.mem_singleton.1 hm⟩
  .rw[mem_append,h.fw];constructor
   .rintro(⟨m,hm,e⟩|hz)
    .exact⟨m,mem_append_left _ hm,e⟩
    .exact⟨c++[w],by simp,by rw[List.mem_singleton.1 hz];simp⟩
   .rintro⟨m,hm,e⟩;rcases List.mem_append.1 hm with hm|hm
    .exact .inl ⟨m,hm,e⟩
    .rw[List.mem_singleton.1 hm]at e;exact .inr (by
       have:w=z:=by simpa using e
       simp[this])
  .rw[List.pairwise_append];exact⟨h.srt,List.pairwise_singleton _ _,fun m hm m' hm'=>by rw[List.mem_singleton.1 hm'];exact hnew m hm⟩
  .have hold:(l∈done\/(l=c/\z∈ws))->∃m,m∈next++[c++[w]]/\m.getLast? =some z/\pl lt m (l++[z]):=fun hp=>by
    obtain⟨m,hm,h1⟩:=h.cov l y z hp hl he hz;exact⟨m,mem_append_left _ hm,h1⟩
   rcases hp with hp|⟨rfl,hp⟩
   .exact hold (.inl hp)
   .rcases List.mem_append.1 hp with hp|hp
    .exact hold (.inr ⟨rfl,hp⟩)
    .rw[List.mem_singleton.1 hp];exact⟨l++[w],by simp,by simp,ZdC _⟩
  .rcases List.mem_append.1 hm with hm|hm<;>rcases List.mem_append.1 hm' with hm'|hm'
   .exact h.one m m' hm hm' e
   .rw[List.mem_singleton.1 hm']at e;exact absurd ((h.fw w).2 ⟨m,hm,by rw[e];simp⟩) hs2
   .rw[List.mem_singleton.1 hm]at e;exact absurd ((h.fw w).2 ⟨m',hm',by rw[<-e];simp⟩) hs2
   .rw[List.mem_singleton.1 hm,List.mem_singleton.1 hm']
  .rw[nodup_append];refine⟨h.nd,by simp,fun a ha b hb=>?_⟩;rw[List.mem_singleton.1 hb];exact fun e=>hs2 (e▸ha)
include tot in
theorem ZqQ{k:Nat}{seen:List α}{done:List (List α)}{c:List α}{x:α}(hc:Way E k u x c)(hd:∀l,l∈done->plt lt l c/\l.length=c.length):∀(rest ws:List α)(next:List (List α))(fresh:List α),(∀w,w∈rest->(fr x w=true↔E x w))->(ws++rest).Pairwise (fun a b=>¬lt b a)->
  Grow E lt u k seen done c ws next fresh->Grow E lt u k seen done c (ws++rest) (rest.foldl (stepR fr seen c x) (next,fresh)).1 (rest.foldl (stepR fr seen c x) (next,fresh)).2
 | [],ws,next,fresh,_,_,h=>by simpa using h
 |w::rest,ws,next,fresh,hE,hp,h=>by
  have h1:=ZqP (fr:=fr) tot h hc hd (fun a ha=>(List.pairwise_append.1 hp).2.2 a ha w (by simp)) (hE w (by simp));have h2:=ZqQ hc hd rest (ws++[w]) _ _ (fun z hz=>hE z (List.mem_cons_of_mem _ hz)) (by simpa using hp) h1;simpa using h2
structure FL(E:α->α->Prop)(lt:α->α->Prop)(V:α->Prop)(u:α)(k:Nat)(lists:List (List α))(seen:List α):Prop where
 way:∀l,l∈lists->∃x,Way E k u x l/\Dst E u x k/\V x
 cov:∀x,V x->Dst E u x k->∃l,l∈lists/\l.getLast? =some x
 srt:lists.Pairwise (plt lt)
 lst:∀l,l∈lists->∀x q,l.getLast? =some x->Way E k u x q->pl lt l q
 sn:∀x,x∈seen↔∃e,e<=k/\Dst E u x e/\V x
 nd:seen.Nodup
 cnt:lists= []\/k<seen.length
 le:lists.length<=seen.length
omit [DecidableEq α] in
theorem fl_0{V:α->Prop}(hu:V u):FL E lt V u 0 [[u]] [u]:=by
 refine⟨fun l hl=>?_,fun x _ hx=>?_,List.pairwise_singleton _ _,fun l hl x q hx hq=>?_,fun x=>?_,by simp,.inr (by simp),by simp⟩
 .rw[List.mem_singleton.1 hl];exact⟨u,.nil u,Dst.self u,hu⟩
 .obtain⟨l,hl⟩:=hx.1
  cases hl with
  |nil=>exact⟨[u],by simp,rfl⟩
 .rw[List.mem_singleton.1 hl]
  cases hq with
  |nil=>exact ZdC _
 .constructor
  .intro hx;rw[List.mem_singleton.1 hx];exact⟨0,Nat.le_refl _,Dst.self u,hu⟩
  .rintro⟨e,he,hd,_⟩;obtain rfl:e=0:=ω;obtain⟨l,hl⟩:=hd.1
   cases hl with
   |nil=>simp
omit [DecidableEq α] in
theorem Dst.back{z:α}{d:Nat}(h:Dst E u z (d+1)):∃y,E y z/\Dst E u y d:=by
 obtain⟨l,hl⟩:=h.1;obtain⟨y,q,hq,he,_⟩:=hl.unsnoc;exact⟨y,he,⟨q,hq⟩,fun e m hm=>by have:=h.2 _ _ (hm.snoc he);omega⟩
omit [DecidableEq α] in
theorem Zxu{y z:α}{d:Nat}{q:List α}(h:Dst E u z (d+1))(hq:Way E d u y q)(he:E y z):Dst E u y d:=⟨⟨q,hq⟩,fun e m hm=>by have:=h.2 _ _ (hm.snoc he);omega⟩
omit [DecidableEq α] in
theorem Way.inV{V:α->Prop}(hs:∀x y,V x->E x y->V y){d:Nat}{x y:α}{l:List α}(h:Way E d x y l)(hx:V x):V y:=by
 induction h with
 |nil x=>exact hx
 |cons e _ ih=>exact ih (hs _ _ hx e)
omit [DecidableEq α] in
theorem Dst.midF{V:α->Prop}(hu:V u)(hs:∀x y,V x->E x y->V y){d:Nat}:∀{D:Nat}{z:α},Dst E u z D->d<=D->∃x,V x/\Dst E u x d
 |D,z,h,hle=>by
  by_cases e:d=D
  .subst e;obtain⟨l,hl⟩:=h.1;exact⟨z,hl.inV hs hu,h⟩
  .obtain⟨k,rfl⟩:∃k,D=k+1:=⟨D-1,ω⟩;obtain⟨y,_,hy⟩:=h.back;exact Dst.midF hu hs hy ω
include tot in
theorem Ze7{V:α->Prop}{k:Nat}{seen:List α}(hs:∀x w,V x->(w∈srt x->(fr x w=true↔E x w))/\(E x w->w∈srt x))(hp:∀x,V x->(srt x).Pairwise fun a b=>¬lt b a):∀(rest done next:List (List α))(fresh:List α),
  (∀l,l∈done++rest->∃x,Way E k u x l/\V x)->(done++rest).Pairwise (plt lt)->Grow E lt u k seen done [] [] next fresh->Grow E lt u k seen (done++rest) [] [] (rest.foldl (rowG srt fr dflt seen) (next,fresh)).1 (rest.foldl (rowG srt fr dflt seen) (next,fresh)).2
 | [],done,next,fresh,_,_,h=>by simpa using h
 |c::rest,done,next,fresh,hl,hpw,h=>by
  obtain⟨x,hx,hV⟩:=hl c (by simp);have hlo:lstO dflt c=x:=by unfold lstO;rw[hx.last];rfl
  have hd:∀l,l∈done->plt lt l c/\l.length=c.length:=fun l hm=>by
   obtain⟨y,hy,_⟩:=hl l (mem_append_left _ hm);exact⟨(List.pairwise_append.1 hpw).2.2 l hm c (by simp),by rw[hy.len,hx.len]⟩
  have h0:Grow E lt u k seen done c [] next fresh:=⟨fun m hm=>by
    obtain⟨l,y,z,hp',h1⟩:=h.of m hm;exact⟨l,y,z,hp'.elim .inl fun ⟨_,hz⟩=>by simp at hz,h1⟩,h.fw,h.srt,fun l y z hp'=>h.cov l y z (hp'.elim .inl fun ⟨_,hz⟩=>by simp at hz),h.one,h.len,h.nd⟩
  have h1:=ZqQ (fr:=fr) tot hx hd (srt x) [] next fresh (fun w hw=>(hs x w hV).1 hw) (by simpa using hp x hV) h0
  have e:rowG srt fr dflt seen (next,fresh) c=(srt x).foldl (stepR fr seen c x) (next,fresh):=by unfold rowG;rw[hlo]
  have h2:Grow E lt u k seen (done++[c]) [] [] (rowG srt fr dflt seen (next,fresh) c).1 (rowG srt fr dflt seen (next,fresh) c).2:=by
   rw[e];refine⟨fun m hm=>?_,h1.fw,h1.srt,fun l y z hp' hl' he hz=>?_,h1.one,h1.len,h1.nd⟩
   .obtain⟨l,y,z,hp',h3⟩:=h1.of m hm;refine⟨l,y,z,.inl ?_,h3⟩;rcases hp' with hp'|⟨rfl,_⟩
    .exact mem_append_left _ hp'
    .simp
   .rcases hp' with hp'|⟨_,hp'⟩
    .rcases List.mem_append.1 hp' with hp'|hp'
     .exact h1.cov l y z (.inl hp') hl' he hz
     .obtain rfl:=List.mem_singleton.1 hp';obtain rfl:y=x:=sI (hl'.last.symm.trans hx.last);exact h1.cov l y z (.inr ⟨rfl,by simpa using (hs y z hV).2 he⟩) hl' he hz
    .simp at hp'
  have h3:=Ze7 hs hp rest (done++[c]) _ _ (by simpa using hl) (by simpa using hpw) h2;simpa using h3
include tr tot in
theorem FL.next{V:α->Prop}{k:Nat}{lists:List (List α)}{seen:List α}(hs:∀x w,V x->(w∈srt x->(fr x w=true↔E x w))/\(E x w->w∈srt x))(hp:∀x,V x->(srt x).Pairwise fun a b=>¬lt b a)(hV:∀x y,V x->E x y->V y)(hu:V u)(h:FL E lt V u k lists seen):
  FL E lt V u (k+1) (lists.foldl (rowG srt fr dflt seen) ([], [])).1 (seen++(lists.foldl (rowG srt fr dflt seen) ([], [])).2):=by
 have hw:∀l,l∈ []++lists->∃x,Way E k u x l/\V x:=fun l hl=>by obtain⟨x,h1,_,h2⟩:=h.way l (by simpa using hl);exact⟨x,h1,h2⟩
 have g:=Ze7 (dflt:=dflt) (fr:=fr) (seen:=seen) tot hs hp lists [] [] [] hw (by simpa using h.srt) ⟨fun m hm=>by simp at hm,fun w=>by simp,List.Pairwise.nil,fun l x w hp'=>by simp at hp',fun m m' hm=>by simp at hm,rfl,List.nodup_nil⟩;simp only[List.nil_append]at g;generalize (lists.foldl (rowG srt fr dflt seen) ([], [])).1=next at g⊢
 generalize (lists.foldl (rowG srt fr dflt seen) ([], [])).2=fresh at g⊢;have hns:∀x,V x->x ∉ seen->∀e l,Way E e u x l->k+1<=e:=by
  intro x hVx hx e
  induction e using Nat.strongRecOn with
  |ind e ih=>
   intro l hl;refine Nat.lt_of_not_le fun hle=>hx ((h.sn x).2 ⟨e,hle,⟨⟨l,hl⟩,fun e' l' hl'=>Nat.le_of_not_lt fun hlt=>?_⟩,hVx⟩);have:=ih e' hlt l' hl';omega
 have hof:∀m,m∈next->∃l x w,l∈lists/\Way E k u x l/\V x/\E x w/\w ∉ seen/\m=l++[w]:=fun m hm=>by
  obtain⟨l,x,w,hp',h1,h2,h3,h4⟩:=g.of m hm;rcases hp' with hp'|⟨_,hp'⟩
  .exact⟨l,x,w,hp',h1,h1.inV hV hu,h2,h3,h4⟩
  .simp at hp'
 have hdst:∀m,m∈next->∃w,Way E (k+1) u w m/\Dst E u w (k+1)/\V w/\w ∉ seen:=fun m hm=>by
  obtain⟨l,x,w,_,h1,hVx,h2,h3,rfl⟩:=hof m hm;have hVw:=hV x w hVx h2;exact⟨w,h1.snoc h2,⟨⟨_,h1.snoc h2⟩,fun e l' hl'=>hns w hVw h3 e l' hl'⟩,hVw,h3⟩
 have hsd:∀x,V x->Dst E u x (k+1)->x ∉ seen:=fun x _ hd hx=>by
  obtain⟨e,he,hde,_⟩:=(h.sn x).1 hx;have:=hde.uniq hd;omega
 have hcov:∀x,V x->Dst E u x (k+1)->∃m,m∈next/\m.getLast? =some x:=fun x hVx hd=>by
  obtain⟨y,ey,hy⟩:=hd.back;obtain⟨ly,hly⟩:=hy.1;have hVy:=hly.inV hV hu;obtain⟨l,hl,hll⟩:=h.cov y hVy hy;obtain⟨y',hy',_,_⟩:=h.way l hl;obtain rfl:y'=y:=sI (hy'.last.symm.trans hll);obtain⟨m,hm,hml,_⟩:=g.cov l y' x (.inl hl) hy' ey (hsd x hVx hd);exact⟨m,hm,hml⟩
 refine⟨fun m hm=>by obtain⟨w,h1,h2,h3,_⟩:=hdst m hm;exact⟨w,h1,h2,h3⟩,hcov,g.srt,fun m hm w q hw' hq=>?_,fun x=>?_,?_,?_,?_⟩
 .obtain⟨w',h1,h2,h3,h4⟩:=hdst m hm;obtain rfl:w'=w:=sI (h1.last.symm.trans hw');obtain⟨y,q',hq',ey,rfl⟩:=hq.unsnoc;have hy:=Zxu h2 hq' ey;have hVy:=hq'.inV hV hu;obtain⟨l,hl,hll⟩:=h.cov y hVy hy;obtain⟨y',hy',_,_⟩:=h.way l hl;obtain rfl:y'=y:=sI (hy'.last.symm.trans hll);obtain⟨m',hm',hml,hpl⟩:=g.cov l y' w' (.inl hl) hy' ey h4;obtain rfl:=g.one m m' hm hm' (hw'.trans hml.symm);exact Zlc tr hpl (Zu6 (h.lst l hl y' q' hll hq'))
 .rw[mem_append,h.sn,g.fw];constructor
  .rintro(⟨e,he,h1⟩|⟨m,hm,hml⟩)
   .exact⟨e,ω,h1⟩
   .obtain⟨w,h1,h2,h3,_⟩:=hdst m hm;obtain rfl:w=x:=sI (h1.last.symm.trans hml);exact⟨k+1,Nat.le_refl _,h2,h3⟩
  .rintro⟨e,he,hd,hVx⟩;by_cases hle:e<=k
   .exact .inl ⟨e,hle,hd,hVx⟩
   .obtain rfl:e=k+1:=ω;obtain⟨m,hm,hml⟩:=hcov x hVx hd;exact .inr ⟨m,hm,hml⟩
 .rw[nodup_append];refine⟨h.nd,g.nd,fun a ha b hb=>?_⟩;obtain⟨m,hm,hml⟩:=(g.fw b).1 hb;obtain⟨w,h1,_,_,h4⟩:=hdst m hm;obtain rfl:w=b:=sI (h1.last.symm.trans hml);exact fun e=>h4 (e▸ha)
 .by_cases hn:next= []
  .exact .inl hn
  .right;have h1:0<next.length:=List.length_pos_iff.2 hn
   have h2:=g.len;rw[length_append];rcases h.cnt with h3|h3
   .exfalso;obtain⟨m,hm⟩:=List.exists_mem_of_ne_nil _ hn;obtain⟨l,_,_,hl,_⟩:=hof m hm;rw[h3]at hl;simp at hl
   .omega
 .rw[length_append,g.len];omega
include tr tot in
theorem ZoS{V:α->Prop}{goal:α}(hs:∀x w,V x->(w∈srt x->(fr x w=true↔E x w))/\(E x w->w∈srt x))(hp:∀x,V x->(srt x).Pairwise fun a b=>¬lt b a)(hV:∀x y,V x->E x y->V y)(hu:V u){lists:List (List α)}{seen:List α}{r:Option (List α)}
 (h:RWay srt fr dflt goal lists seen r):∀k,FL E lt V u k lists seen->(∀e,e<k->¬Dst E u goal e)->(∃D l,r=some l/\Dst E u goal D/\Way E D u goal l/\∀q,Way E D u goal q->pl lt l q)\/(r=none/\∀D,¬Dst E u goal D):=by
 induction h with
 |nil seen=>
  intro k L hno;refine .inr ⟨rfl,fun D hD=>?_⟩;by_cases hle:k<=D
  .obtain⟨x,hVx,hx⟩:=Dst.midF hu hV hD hle;obtain⟨l,hl,_⟩:=L.cov x hVx hx;simp at hl
  .exact hno D ω hD
 |hit pre l post seen hpre hl=>
  intro k L hno;obtain⟨x,h1,h2,h3⟩:=L.way l (by simp);obtain rfl:x=goal:=by rw[<-hl];unfold lstO;rw[h1.last];rfl
  exact .inl ⟨k,l,rfl,h2,h1,fun q hq=>L.lst l (by simp) x q h1.last hq⟩
 |step lists seen r hne hno' _ ih=>
  intro k L hno;refine ih (k+1) (L.next tr tot hs hp hV hu) fun e he hd=>?_;by_cases hlt:e<k
  .exact hno e hlt hd
  .obtain rfl:e=k:=ω;obtain⟨l0,hl0⟩:=hd.1;obtain⟨l,hl,hll⟩:=L.cov goal (hl0.inV hV hu) hd;exact hno' l hl (by unfold lstO;rw[hll];rfl)
include tr tot in
theorem ZoT{V:α->Prop}{goal:α}(hs:∀x w,V x->(w∈srt x->(fr x w=true↔E x w))/\(E x w->w∈srt x))(hp:∀x,V x->(srt x).Pairwise fun a b=>¬lt b a)(hV:∀x y,V x->E x y->V y)(hu:V u){M:Nat}(hM:∀l:List α,l.Nodup->(∀x,x∈l->V x)->l.length<=M):
  ∀(m k:Nat)(lists:List (List α))(seen:List α),FL E lt V u k lists seen->2*(M-seen.length)+(if lists= [] then 0 else 1)<=m->∃r,RWay srt fr dflt goal lists seen r:=by
 have key:∀(l:List (List α)),(∃m,m∈l/\lstO dflt m=goal)->∃p c q,l=p++c::q/\(∀m,m∈p->lstO dflt m≠goal)/\lstO dflt c=goal:=by
  intro l
  induction l with
  |nil=>rintro⟨m,hm,_⟩;simp at hm
  |cons a l ihl=>
   rintro⟨m,hm,e⟩;by_cases ea:lstO dflt a=goal
   .exact⟨[],a,l,rfl,fun m hm=>by simp at hm,ea⟩
   .rcases List.mem_cons.1 hm with rfl|hm
    .exact absurd e ea
    .obtain⟨p,c,q,h1,h2,h3⟩:=ihl ⟨m,hm,e⟩;exact⟨a::p,c,q,by rw[h1];rfl,fun z hz=>by rcases List.mem_cons.1 hz with rfl|hz;exact ea;exact h2 z hz,h3⟩
 intro m
 induction m with
 |zero=>
  intro k lists seen L hm;by_cases e:lists= []
  .subst e;exact⟨none,.nil seen⟩
  .rw[if_neg e]at hm;omega
 |succ m ih=>
  intro k lists seen L hm;by_cases e:lists= []
  .subst e;exact⟨none,.nil seen⟩
  .by_cases hg:∃m,m∈lists/\lstO dflt m=goal
   .obtain⟨p,c,q,h1,h2,h3⟩:=key lists hg;rw[h1];exact⟨some c,.hit p c q seen h2 h3⟩
   .have L':=L.next (dflt:=dflt) (fr:=fr) tr tot hs hp hV hu;have hkey:=hM _ L'.nd (fun x hx=>by obtain⟨_,_,_,hVx⟩:=(L'.sn x).1 hx;exact hVx);rw[if_neg e]at hm;obtain⟨r,hr⟩:=ih (k+1) _ _ L' (by
     split
     .rw[length_append];omega
     .rename_i hne;have h1:=L'.cnt;have hw:∀l,l∈ []++lists->∃x,Way E k u x l/\V x:=fun l hl=>by obtain⟨x,h1,_,h2⟩:=L.way l (by simpa using hl);exact⟨x,h1,h2⟩
      have g:=Ze7 (dflt:=dflt) (fr:=fr) (seen:=seen) tot hs hp lists [] [] [] hw (by simpa using L.srt) ⟨fun m hm=>by simp at hm,fun w=>by simp,List.Pairwise.nil,fun l x w hp'=>by simp at hp',fun m m' hm=>by simp at hm,rfl,List.nodup_nil⟩;have h2:=g.len;have h3:0<(lists.foldl (rowG srt fr dflt seen) ([], [])).1.length:=List.length_pos_iff.2 hne;rw[length_append]at hkey⊢;omega)
    exact⟨r,.step lists seen r e (fun z hz he=>hg ⟨z,hz,he⟩) hr⟩
end
end
