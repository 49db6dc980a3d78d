/- The engine, no program: code by data. A state of a call is given by data (variables, rows, lists that stay); sp reckons what a piece of code does to it; ZeC: a function whose code does so keeps its contract. Joined by wip/merge_eng.py. -/
import Derived.Test.YtnhfpbcbhnfeaaaGreatDoorQGrpB
import Derived.Great.BuildSlice
import Derived.Laws.Cover3
import Derived.Great.FillDense
import Derived.Laws.AppendOwn
import Derived.Laws.OwnMore
import Derived.Laws.Small
import Derived.Lib.AppendZeros
open List (range mem_of_getElem? getElem?_take getElem?_eq_getElem getElem?_of_mem getElem_mem getElem?_map length_cons getElem?_drop length_take length_drop getElem?_range getElem?_eq_none mem_of_mem_take eq_nil_of_length_eq_zero map_toArray map_cons map_nil length_append ext_getElem? replicate length_modify)
namespace Go.Proofs.YtnhfpbcbhnfeaaaGreatDoor.eng
open Go.RowKit mem
inductive D where
 |v (x:Value)
 |list (xs:List (List D))
 |iface (t:Nat) (cs:List D)
 |fn (f:Nat) (caps:List (List D))
 |map (es:Array MapEntry) (clock:Nat)
def flat:Value->Bool
 | .agg _=>false
 | .tuple _=>false
 |_=>true
inductive Den(w:World)(I:Nat->Prop):Value->D->Prop
 |v (x:Value) (hx:flat x=true):Den w I x (.v x)
 |nil (a:Option Addr) (cap:Nat):Den w I (.slice a 0 cap) (.list [])
 |list (b off cap n:Nat) (xs:List (List D)) (c:Nat->Nat->Value) (hI:I b) (hn:0<n) (hl:∀(r:List D),r∈xs->r.length=n)
   (hc:∀i j,i<xs.length->j<n->w.cell? ⟨b,off+i*n+j,none⟩=some (c i j))
   (hd:∀(i j:Nat)(r:List D)(d:D),xs[i]? =some r->r[j]? =some d->Den w I (c i j) d) (hcap:xs.length<=cap):
   Den w I (.slice (some ⟨b,off,none⟩) xs.length cap) (.list xs)
 |iface (t:Nat) (l:List Value) (cs:List D) (hl:l.length=cs.length) (hd:∀(j:Nat)(d:D)(y:Value),cs[j]? =some d->l[j]? =some y->Den w I y d):Den w I (.iface t (.agg l.toArray)) (.iface t cs)
 |fn (f:Nat) (caps:List (List D)) (pb po:Nat->Nat) (c:Nat->Nat->Value) (hI:∀i,i<caps.length->I (pb i))
   (hc:∀(i j:Nat)(r:List D),caps[i]? =some r->j<r.length->w.cell? ⟨pb i,po i+j,none⟩=some (c i j))
   (hd:∀(i j:Nat)(r:List D)(d:D),caps[i]? =some r->r[j]? =some d->Den w I (c i j) d):
   Den w I (.func (.func f) #[] ((range caps.length).map fun i=>Value.pointer (some ⟨pb i,po i,none⟩)).toArray) (.fn f caps)
 |map (b:Nat) (es:Array MapEntry) (clock:Nat) (hI:I b) (hb:w.heap[b]? =some (.map es clock)):Den w I (.map (some b)) (.map es clock)
inductive C where
 |d (x:D)
 |row (o k:Nat)
 |ptr (o off:Nat)
 |ref (cs:List D)
 |full (xs:List (List D))
 |rp (o k n i off:Nat)
 |rs (o k n i:Nat)
 |mp (o:Nat)
inductive S where
 |one (c:C)
 |agg (cs:List C)
inductive AV where
 |val (x:S)
 |tup (l:List S)
 |junk
 |new (T n:Nat) (xs:List (List D))
inductive Ob where
 |gone
 |var (T:Nat) (cs:List C)
 |row (T n k:Nat) (xs:List (List D)) (own:Bool)
 |ext (lk:Option Nat) (x:Obj)
def link(x:Obj)(b:Nat):Obj:=
 match x with
 | .mapIter _ s n l=>.mapIter (some b) s n l
 |x=>x
abbrev Env:=Nat->AV
abbrev Mem:=Nat->Ob
abbrev Bs:=Nat->Value
def blk:Value->Option Nat
 | .slice (some a) _ _=>some a.block
 | .pointer (some a)=>some a.block
 |_=>none
def Ob.mut:Ob->Bool
 | .gone=>false
 | .var _ _=>true
 | .row _ _ _ _ own=>own
 | .ext _ _=>true
def Ob.live:Ob->Bool
 | .gone=>false
 |_=>true
def Ob.ver:Ob->Nat
 | .row _ _ k _ _=>k
 |_=>0
def okh(mem:Mem)(p:Nat×Nat):Prop:=(mem p.1).live=true/\p.2<=(mem p.1).ver
theorem Den.flat{w:World}{I:Nat->Prop}{x:Value}{d:D}(h:Den w I x d):flat x=true:=by cases h<;>first|assumption|rfl
theorem Den.mono{w w':World}{I I':Nat->Prop}(hI:∀b,I b->I' b/\w'.heap[b]? =w.heap[b]?){x:Value}{d:D}(h:Den w I x d):Den w' I' x d:=by
 induction h with
 |v x hx=>exact .v x hx
 |nil a cap=>exact .nil a cap
 |list b off cap n xs c hb hn hl hc hd hcap ih=>
  refine .list b off cap n xs c (hI b hb).1 hn hl (fun i j hi hj=>?_) ih hcap;rw[World.cell?_of_block (w:=w) (hI b hb).2];exact hc i j hi hj
 |iface t l cs hl hd ih=>exact .iface t l cs hl ih
 |fn f caps pb po c hb hc hd ih=>
  refine .fn f caps pb po c (fun i hi=>(hI _ (hb i hi)).1) (fun i j r hr hj=>?_) ih;rw[World.cell?_of_block (w:=w) (hI _ (hb i (gS hr).1)).2];exact hc i j r hr hj
 |map b es clock hb hh=>exact .map b es clock (hI b hb).1 (by rw[(hI b hb).2];exact hh)
def DenC(w:World)(I:Nat->Prop)(bs:Bs)(mem:Mem)(x:Value):C->Prop
 | .d d=>Den w I x d
 | .row o k=>flat x=true/\∀T n xs own,mem o= .row T n k xs own->x=bs o
 | .ptr o off=>∃b,bs o= .pointer (some ⟨b,0,none⟩)/\x= .pointer (some ⟨b,off,none⟩)
 | .ref cs=>∃b off,I b/\x= .pointer (some ⟨b,off,none⟩)/\∀(j:Nat)(d:D),cs[j]? =some d->∃y,w.cell? ⟨b,off+j,none⟩=some y/\Den w I y d
 | .full xs=>Den w I x (.list xs)/\∃a,x= .slice a xs.length xs.length
 | .rp o k n i off=>flat x=true/\∀T xs own,mem o= .row T n k xs own->∃b m c,bs o= .slice (some ⟨b,0,none⟩) m c/\x= .pointer (some ⟨b,i*n+off,none⟩)
 | .rs o k n i=>flat x=true/\∀T xs own,mem o= .row T n k xs own->∃b m c,bs o= .slice (some ⟨b,0,none⟩) m c/\i<m/\x= .slice (some ⟨b,i*n,none⟩) (m-i) (c-i)
 | .mp o=>∃b,bs o= .pointer (some ⟨b,0,none⟩)/\x= .map (some b)
def DenS(w:World)(I:Nat->Prop)(bs:Bs)(mem:Mem)(x:Value):S->Prop
 | .one c=>DenC w I bs mem x c
 | .agg cs=>∃l:List Value,x= .agg l.toArray/\l.length=cs.length/\∀(j:Nat)(c:C)(y:Value),cs[j]? =some c->l[j]? =some y->DenC w I bs mem y c
def DenAV(w:World)(I:Nat->Prop)(bs:Bs)(mem:Mem)(x:Value):AV->Prop
 | .val s=>DenS w I bs mem x s
 | .tup ss=>∃l:List Value,x= .tuple l.toArray/\l.length=ss.length/\∀(j:Nat)(s:S)(y:Value),ss[j]? =some s->l[j]? =some y->DenS w I bs mem y s
 | .junk=>True
 | .new _ _ _=>False
def C.hs:C->List (Nat×Nat)
 | .row o k=>[(o,k)]
 | .ptr o _=>[(o,0)]
 | .rp o k _ _ _=>[(o,k)]
 | .rs o k _ _=>[(o,k)]
 | .mp o=>[(o,0)]
 |_=>[]
def S.hs:S->List (Nat×Nat)
 | .one c=>c.hs
 | .agg cs=>cs.flatMap C.hs
def AV.hs:AV->List (Nat×Nat)
 | .val s=>s.hs
 | .tup l=>l.flatMap S.hs
 | .junk=>[]
 | .new _ _ _=>[(0,0)]
def AV.isNew:AV->Bool
 | .new _ _ _=>true
 |_=>false
def Ob.hs:Ob->List (Nat×Nat)
 | .var _ cs=>cs.flatMap C.hs
 | .ext lk _=>match lk with
  |some m=>[(m,0)]
  |none=>[]
 |_=>[]
theorem DenC.flat{w:World}{I:Nat->Prop}{bs:Bs}{mem:Mem}{x:Value}{c:C}(h:DenC w I bs mem x c):flat x=true:=by
 cases c with
 |d d=>exact Den.flat h
 |row o k=>exact h.1
 |ptr o off=>obtain⟨b,_,rfl⟩:=h;rfl
 |ref cs=>obtain⟨b,off,_,rfl,_⟩:=h;rfl
 |full xs=>exact Den.flat h.1
 |rp o k n i off=>exact h.1
 |rs o k n i=>exact h.1
 |mp o=>obtain⟨b,_,rfl⟩:=h;rfl
structure Keeps(w:World)(I:Nat->Prop)(bs:Bs)(mem:Mem)(w':World)(I':Nat->Prop)(bs':Bs)(mem':Mem)(H:Nat×Nat->Prop):Prop where
 stay:∀b,I b->I' b/\w'.heap[b]? =w.heap[b]?
 ptr:∀o b,H (o,0)->bs o= .pointer (some ⟨b,0,none⟩)->bs' o=bs o
 row:∀o T n k xs own,H (o,k)->mem' o= .row T n k xs own->∃T' xs' own',mem o= .row T' n k xs' own'/\bs' o=bs o
section
variable{w w':World}{I I':Nat->Prop}{bs bs':Bs}{mem mem':Mem}{H:Nat×Nat->Prop}
theorem Keeps.c(k:Keeps w I bs mem w' I' bs' mem' H){x:Value}{c:C}(hs:∀o,o∈c.hs->H o)(h:DenC w I bs mem x c):DenC w' I' bs' mem' x c:=by
 cases c with
 |d d=>exact Den.mono k.stay h
 |row o v=>
  refine⟨h.1,fun T n xs own hm=>?_⟩;obtain⟨T',xs',own',h1,h2⟩:=k.row o T n v xs own (hs _ (by simp[C.hs])) hm;rw[h2];exact h.2 _ _ _ _ h1
 |ptr o off=>
  obtain⟨b,hb,rfl⟩:=h;exact⟨b,by rw[k.ptr o b (hs _ (by simp[C.hs])) hb];exact hb,rfl⟩
 |ref cs=>
  obtain⟨b,off,hI,rfl,hc⟩:=h;refine⟨b,off,(k.stay b hI).1,rfl,fun j d hj=>?_⟩;obtain⟨y,hy,hd⟩:=hc j d hj;exact⟨y,by rw[World.cell?_of_block (w:=w) (k.stay b hI).2];exact hy,Den.mono k.stay hd⟩
 |full xs=>exact⟨Den.mono k.stay h.1,h.2⟩
 |rp o v n i off=>
  refine⟨h.1,fun T xs own hm=>?_⟩;obtain⟨T',xs',own',h1,h2⟩:=k.row o T n v xs own (hs _ (by simp[C.hs])) hm;rw[h2];exact h.2 _ _ _ h1
 |rs o v n i=>
  refine⟨h.1,fun T xs own hm=>?_⟩;obtain⟨T',xs',own',h1,h2⟩:=k.row o T n v xs own (hs _ (by simp[C.hs])) hm;rw[h2];exact h.2 _ _ _ h1
 |mp o=>
  obtain⟨b,hb,rfl⟩:=h;exact⟨b,by rw[k.ptr o b (hs _ (by simp[C.hs])) hb];exact hb,rfl⟩
theorem Keeps.s(k:Keeps w I bs mem w' I' bs' mem' H){x:Value}{s:S}(hs:∀o,o∈s.hs->H o)(h:DenS w I bs mem x s):DenS w' I' bs' mem' x s:=by
 cases s with
 |one c=>exact k.c hs h
 |agg cs=>
  obtain⟨l,e,hl,hc⟩:=h;exact⟨l,e,hl,fun j c y hj hy=>k.c (fun o ho=>hs o (List.mem_flatMap.2 ⟨c,mG hj,ho⟩)) (hc j c y hj hy)⟩
theorem Keeps.av(k:Keeps w I bs mem w' I' bs' mem' H){x:Value}{s:AV}(hs:∀o,o∈s.hs->H o)(h:DenAV w I bs mem x s):DenAV w' I' bs' mem' x s:=by
 cases s with
 |val s=>exact k.s hs h
 |junk=>trivial
 |new T n xs=>exact h
 |tup cs=>
  obtain⟨l,e,hl,hc⟩:=h;exact⟨l,e,hl,fun j c y hj hy=>k.s (fun o ho=>hs o (List.mem_flatMap.2 ⟨c,mG hj,ho⟩)) (hc j c y hj hy)⟩
end
structure Base where
 w:World
 K:Nat->Prop
 lt:∀b,K b->b<w.heap.size
 pin:Nat->Value
def Base.all(w:World):Base:=⟨w,fun b=>b<w.heap.size,fun _ h=>h,fun _=>undef⟩
structure Shape where
 n:Nat
 pins:List Nat
 marks:Bool
def Marks(S:Nat->Prop)(w:World)(ds:List Deferred):Prop:=
 ds.Pairwise (· ≠ ·)/\∀d,d∈ds->∃D,d={ target:=.collected D,args:=#[] }/\S D/\w.heap[D]? =some (.deferred (some []))
theorem Marks.nil(S:Nat->Prop)(w:World):Marks S w []:=⟨List.Pairwise.nil,fun d hd=>by simp at hd⟩
theorem Marks.mono{S S':Nat->Prop}{w w':World}{ds:List Deferred}(h:Marks S w ds)(k:∀b,S b->S' b/\w'.heap[b]? =w.heap[b]?):Marks S' w' ds:=
 ⟨h.1,fun d hd=>by obtain⟨D,e,h1,h2⟩:=h.2 d hd;exact⟨D,e,(k D h1).1,(k D h1).2.trans h2⟩⟩
structure Bel(K:Nat->Prop)(w w':World):Prop where
 os:w'.os=w.os
 tape:w'.tape=w.tape
 output:w'.output=w.output
 size:w.heap.size<=w'.heap.size
 block:∀k,K k->w'.heap[k]? =w.heap[k]?
theorem Bel.refl(K:Nat->Prop)(w:World):Bel K w w:=⟨rfl,rfl,rfl,Nat.le_refl _,fun _ _=>rfl⟩
theorem Bel.trans{K:Nat->Prop}{a b c:World}(h:Bel K a b)(k:Bel K b c):Bel K a c:=
 ⟨k.os.trans h.os,k.tape.trans h.tape,k.output.trans h.output,Nat.le_trans h.size k.size,fun i hi=>(k.block i hi).trans (h.block i hi)⟩
theorem Bel.of_below{K:Nat->Prop}{n:Nat}{w w':World}(h:Below n w w')(hK:∀b,K b->b<n):Bel K w w':=⟨h.os,h.tape,h.output,h.size,fun k hk=>h.block k (hK k hk)⟩
theorem Bel.to_below{w w':World}(h:Bel (Base.all w).K w w'):Below w.heap.size w w':=⟨h.os,h.tape,h.output,h.size,fun k hk=>h.block k hk⟩
def ownsK(K:Nat->Prop)(w:World)(e:TypeId)(size:Nat)(v:Value)(n:Nat)(xs:List Value):Prop:=
 xs.length=n*size/\
 ((v= .slice none 0 0/\n=0)\/
  ∃g cap cur,v= .slice (some ⟨g,0,none⟩) n cap/\¬K g/\w.heap[g]? =some (.cells cur e (0,0))/\n<=cap/\cap<=maxLen/\cur.size=cap*size/\cur.toList.take (n*size)=xs)
section
variable{K:Nat->Prop}{w:World}{e size n:Nat}{v:Value}{xs:List Value}
theorem Zc8(K:Nat->Prop)(w:World)(e size:Nat):ownsK K w e size (.slice none 0 0) 0 []:=⟨by simp,.inl ⟨rfl,rfl⟩⟩
theorem ownsK.row(h:ownsK K w e size v n xs):w.ownsRow 0 e size v n xs:=by
 refine⟨h.1,?_⟩;rcases h.2 with h|⟨g,cap,cur,h1,_,h3⟩
 .exact .inl h
 .exact .inr ⟨g,cap,cur,h1,Nat.zero_le _,h3⟩
theorem ownsK.not(h:ownsK K w e size v n xs){k:Nat}(hk:v.ownBlock=some k):¬K k:=by
 rcases h.2 with ⟨rfl,_⟩|⟨g,cap,cur,rfl,h2,_⟩
 .simp[Value.ownBlock]at hk
 .simp[Value.ownBlock]at hk;subst hk;exact h2
theorem ownsK.lt(h:ownsK K w e size v n xs){k:Nat}(hk:v.ownBlock=some k):k<w.heap.size:=(h.row.lt k hk).2
theorem ownsK.all{w1:World}(h:ownsK (Base.all w1).K w e size v n xs):w.ownsRow w1.heap.size e size v n xs:=by
 refine⟨h.1,?_⟩;rcases h.2 with h|⟨g,cap,cur,h1,h2,h3⟩
 .exact .inl h
 .exact .inr ⟨g,cap,cur,h1,Nat.le_of_not_lt h2,h3⟩
theorem Zbd{b:Nat}(h:w.ownsRow b e size v n xs)(hk:∀k,v.ownBlock=some k->¬K k):ownsK K w e size v n xs:=by
 refine⟨h.1,?_⟩;rcases h.2 with h|⟨g,cap,cur,rfl,_,h3⟩
 .exact .inl h
 .exact .inr ⟨g,cap,cur,rfl,hk g rfl,h3⟩
end
def Stay(w0:Base)(I0:Nat->Prop)(mem:Mem)(bs:Bs)(w:World)(b:Nat):Prop:=
 (I0 b/\w0.K b)\/(¬w0.K b/\b<w.heap.size/\∀o,(mem o).mut=true->blk (bs o)≠some b)
def ObOk(w0:Base)(w:World)(I:Nat->Prop)(bs:Bs)(mem:Mem)(x:Value):Ob->Prop
 | .gone=>True
 | .var T cs=>∃(b:Nat)(l:List Value),x= .pointer (some ⟨b,0,none⟩)/\¬w0.K b/\Row w b T l/\l.length=cs.length/\∀(j:Nat)(c:C)(y:Value),cs[j]? =some c->l[j]? =some y->DenC w I bs mem y c
 | .row T n _ xs true=>∃ys:List Value,ownsK w0.K w T n x xs.length ys/\0<n/\ys.length=xs.length*n/\(∀r,r∈xs->r.length=n)/\∀(i j:Nat)(r:List D)(d:D),xs[i]? =some r->r[j]? =some d->∃y,ys[i*n+j]? =some y/\Den w I y d
 | .row _ _ _ xs false=>Den w I x (.list xs)
 | .ext lk f=>∃b bm,x= .pointer (some ⟨b,0,none⟩)/\¬w0.K b/\(∀m,lk=some m->bs m= .pointer (some ⟨bm,0,none⟩))/\w.heap[b]? =some (link f bm)
structure St(w0:Base)(I0:Nat->Prop)(nt:Shape)(env:Env)(mem:Mem)(bs:Bs)(a:Act)(w:World):Prop where
 below:Bel w0.K w0.w w
 size:a.tmps.size=nt.n
 defers:nt.marks=false->a.defers= []
 tmp:∀t,env t= .junk\/(t<nt.n/\DenAV w (Stay w0 I0 mem bs w) bs mem (a.tmps.getD t undef) (env t))
 obs:∀o,ObOk w0 w (Stay w0 I0 mem bs w) bs mem (bs o) (mem o)
 sep:∀o o' b,(mem o).mut=true->(mem o').mut=true->blk (bs o)=some b->blk (bs o')=some b->o=o'
 henv:∀t o,o∈(env t).hs->okh mem o
 hmem:∀q o,o∈(mem q).hs->okh mem o
 pin:∀t,t∈nt.pins->a.tmps.getD t undef=w0.pin t
 marks:Marks (fun b=>Stay w0 I0 mem bs w b/\¬w0.K b) w a.defers
theorem ObOk.block{w0:Base}{w:World}{I:Nat->Prop}{bs:Bs}{mem:Mem}{x:Value}{ob:Ob}(h:ObOk w0 w I bs mem x ob)(hm:ob.mut=true):∀b,blk x=some b->¬w0.K b/\b<w.heap.size:=by
 intro b hb
 match ob,hm with
 | .var T cs,_=>
  obtain⟨b',l,rfl,h1,h2,_⟩:=h;obtain rfl:b'=b:=by simpa[blk]using hb
  exact⟨h1,h2.lt⟩
 | .row T n k xs true,_=>
  obtain⟨ys,h1,_⟩:=h;have hb':x.ownBlock=some b:=by
   rcases h1.2 with ⟨rfl,_⟩|⟨g,cap,cur,rfl,_⟩
   .simp[blk]at hb
   .simpa[blk,Value.ownBlock]using hb
  exact⟨h1.not hb',h1.lt hb'⟩
 | .ext lk f,_=>
  obtain⟨b',bm,rfl,h1,_,h2⟩:=h;obtain rfl:b'=b:=by simpa[blk]using hb
  exact⟨h1,(Array.getElem?_eq_some_iff.1 h2).1⟩
theorem St.newK{w0:Base}{I0:Nat->Prop}{nt:Shape}{env:Env}{mem:Mem}{bs:Bs}{a:Act}{w:World}(h:St w0 I0 nt env mem bs a w){b:Nat}(hb:w.heap.size<=b):¬w0.K b:=fun hk=>by
 have:=w0.lt b hk;have:=h.below.size;omega
theorem St.ltK{w0:Base}{I0:Nat->Prop}{nt:Shape}{env:Env}{mem:Mem}{bs:Bs}{a:Act}{w:World}(h:St w0 I0 nt env mem bs a w){b:Nat}(hb:w0.K b):b<w.heap.size:=Nat.lt_of_lt_of_le (w0.lt b hb) h.below.size
theorem St.bel{w0:Base}{I0:Nat->Prop}{nt:Shape}{env:Env}{mem:Mem}{bs:Bs}{a:Act}{w w':World}(h:St w0 I0 nt env mem bs a w)(hb:Below w.heap.size w w'):Bel w0.K w w':=Bel.of_below hb fun _ hk=>h.ltK hk
def upd{α:Type}(f:Nat->α)(i:Nat)(v:α):Nat->α:=fun j=>bif Nat.beq j i then v else f j
theorem Zk{α:Type}(f:Nat->α)(i:Nat)(v:α):upd f i v i=v:=by simp[upd]
theorem ZQ{α:Type}(f:Nat->α){i j:Nat}(v:α)(h:j≠i):upd f i v j=f j:=by
 have:Nat.beq j i=false:=by
  cases e:Nat.beq j i with
  |false=>rfl
  |true=>exact absurd (Nat.eq_of_beq_eq_true e) h
 simp[upd,this]
section
variable{w0:Base}{I0:Nat->Prop}{nt:Shape}{env:Env}{mem:Mem}{bs:Bs}{a:Act}{w w':World}
theorem ObOk.slice{I:Nat->Prop}{x:Value}{T n k:Nat}{xs:List (List D)}{own:Bool}(h:ObOk w0 w I bs mem x (.row T n k xs own)):∃a m c,x= .slice a m c:=by
 cases own with
 |true=>
  obtain⟨ys,h1,_⟩:=h;rcases h1.2 with ⟨rfl,_⟩|⟨g,cap,cur,rfl,_⟩<;>exact⟨_,_,_,rfl⟩
 |false=>
  have h':Den w I x (.list xs):=h;cases h'<;>exact⟨_,_,_,rfl⟩
theorem ObOk.keeps{I I':Nat->Prop}{bs':Bs}{mem':Mem}{x:Value}{ob:Ob}(k:Keeps w I bs mem w' I' bs' mem' (okh mem))(hs:∀o,o∈ob.hs->okh mem o)
 (_hsize:w.heap.size<=w'.heap.size)(hblk:∀b,ob.mut=true->blk x=some b->w'.heap[b]? =w.heap[b]?)(h:ObOk w0 w I bs mem x ob):ObOk w0 w' I' bs' mem' x ob:=by
 match ob,h with
 | .gone,_=>trivial
 | .var T cs,h=>
  obtain⟨b,l,rfl,h1,h2,h3,h4⟩:=h;refine⟨b,l,rfl,h1,?_,h3,fun j c y hj hy=>k.c (fun o ho=>hs o (List.mem_flatMap.2 ⟨c,mG hj,ho⟩)) (h4 j c y hj hy)⟩;unfold Row at h2⊢;rw[hblk b rfl (by simp[blk])];exact h2
 | .row T n v xs true,h=>
  obtain⟨ys,h1,h2,h3,h4,h5⟩:=h;refine⟨ys,?_,h2,h3,h4,fun i j r d hi hj=>?_⟩
  .refine⟨h1.1,?_⟩;rcases h1.2 with hn|⟨g,cap,cur,rfl,hb,hg,rest⟩
   .exact .inl hn
   .exact .inr ⟨g,cap,cur,rfl,hb,by rw[hblk g rfl (by simp[blk])];exact hg,rest⟩
  .obtain⟨y,hy,hd⟩:=h5 i j r d hi hj;exact⟨y,hy,Den.mono k.stay hd⟩
 | .row T n v xs false,h=>exact Den.mono k.stay h
 | .ext lk f,h=>
  obtain⟨b,bm,rfl,h1,h2,h3⟩:=h;refine⟨b,bm,rfl,h1,fun m hm=>?_,by rw[hblk b rfl (by simp[blk])];exact h3⟩;have:=h2 m hm;rw[k.ptr m bm (hs (m,0) (by rw[hm];simp[Ob.hs])) this];exact this
def Turns(mem:Mem)(bs:Bs)(id:Nat)(ob:Ob)(x:Value):Prop:=
 (mem id).live=false\/(x=bs id/\∃T T' cs cs',mem id= .var T cs/\ob= .var T' cs')\/
 (∃T n k xs own T' n' k' xs' own',mem id= .row T n k xs own/\ob= .row T' n' k' xs' own'/\k<=k'/\(k=k'->x=bs id/\n'=n))\/
 (x=bs id/\∃lk f lk' f',mem id= .ext lk f/\ob= .ext lk' f')
theorem St.keeps(h:St w0 I0 nt env mem bs a w)(id:Nat)(ob:Ob)(x:Value)(hb:Bel w0.K w w')
 (hk:∀k,k<w.heap.size->((mem id).mut=true->blk (bs id)≠some k)->w'.heap[k]? =w.heap[k]?)
 (hx:∀b,ob.mut=true->blk x=some b->((mem id).mut=true/\blk (bs id)=some b)\/(w.heap.size<=b/\b<w'.heap.size))
 (hv:Turns mem bs id ob x):
  Keeps w (Stay w0 I0 mem bs w) bs mem w' (Stay w0 I0 (upd mem id ob) (upd bs id x) w') (upd bs id x) (upd mem id ob) (okh mem):=by
 refine⟨?_,?_,?_⟩
 .intro b hs;rcases hs with ⟨h1,h2⟩|⟨h1,h2,h3⟩
  .exact⟨.inl ⟨h1,h2⟩,hb.block b h2⟩
  .refine⟨.inr ⟨h1,Nat.lt_of_lt_of_le h2 hb.size,?_⟩,hk b h2 (fun hm=>h3 id hm)⟩;intro o hm;by_cases e:o=id
   .subst e;rw[Zk]at hm⊢;intro hbx;rcases hx b hm hbx with ⟨h4,h5⟩|⟨h4,_⟩
    .exact h3 o h4 h5
    .omega
   .rw[ZQ _ _ e]at hm⊢;exact h3 o hm
 .intro o b ho hbo;by_cases e:o=id
  .subst e;rw[Zk];rcases hv with h1|⟨h1,_⟩|⟨T,n,k,xs,own,T',n',k',xs',own',h1,_⟩|⟨h1,_⟩
   .have:=ho.1;simp only at this;rw[h1]at this;simp at this
   .exact h1
   .have:=h.obs o;rw[h1]at this;obtain⟨_,_,_,hs⟩:=this.slice;rw[hs]at hbo;simp at hbo
   .exact h1
  .rw[ZQ _ _ e]
 .intro o T n k xs own ho hm;by_cases e:o=id
  .subst e;rw[Zk]at hm⊢;rcases hv with h1|⟨h1,T1,T2,c1,c2,h2,h3⟩|⟨T1,n1,k1,xs1,own1,T',n',k',xs',own',h1,h2,h3,h4⟩|⟨_,lk,f,lk',f',_,h3⟩
   .have:=ho.1;simp only at this;rw[h1]at this;simp at this
   .rw[h3]at hm;simp at hm
   .rw[h2]at hm;have hle:=ho.2;simp only[h1,Ob.ver]at hle;injection hm with e1 e2 e3 e4 e5;subst e3;have:k1=k':=ω;subst this;obtain⟨h5,h6⟩:=h4 rfl;have h7:n1=n:=ω;subst h7;exact⟨_,_,_,h1,h5⟩
   .rw[h3]at hm;simp at hm
  .rw[ZQ _ _ e]at hm⊢;exact⟨T,xs,own,hm,rfl⟩
theorem Turns.okh{id:Nat}{ob:Ob}{x:Value}(hv:Turns mem bs id ob x)(hlive:ob.live=true){p:Nat×Nat}(h:okh mem p):okh (upd mem id ob) p:=by
 obtain⟨o,k⟩:=p;obtain⟨h1,h2⟩:=h;simp only at h1 h2;by_cases e:o=id
 .subst e;refine⟨by simp only[Zk];exact hlive,?_⟩;simp only[Zk];rcases hv with h3|⟨_,T,T',cs,cs',h3,h4⟩|⟨T,n,v,xs,own,T',n',v',xs',own',h3,h4,h5,_⟩|⟨_,lk,f,lk',f',h3,h4⟩
  .rw[h3]at h1;simp at h1
  .rw[h3]at h2;rw[h4];exact h2
  .rw[h3]at h2;rw[h4];simp only[Ob.ver]at h2⊢;omega
  .rw[h3]at h2;rw[h4];exact h2
 .exact⟨by simp only[ZQ _ _ e];exact h1,by simp only[ZQ _ _ e];exact h2⟩
theorem St.update(h:St w0 I0 nt env mem bs a w)(id:Nat)(ob:Ob)(x:Value)(hb:Bel w0.K w w')
 (hk:∀k,k<w.heap.size->((mem id).mut=true->blk (bs id)≠some k)->w'.heap[k]? =w.heap[k]?)
 (hx:∀b,ob.mut=true->blk x=some b->((mem id).mut=true/\blk (bs id)=some b)\/(w.heap.size<=b/\b<w'.heap.size))
 (hv:Turns mem bs id ob x)(hlive:ob.live=true)(hhs:∀o,o∈ob.hs->okh (upd mem id ob) o)
 (hob:ObOk w0 w' (Stay w0 I0 (upd mem id ob) (upd bs id x) w') (upd bs id x) (upd mem id ob) x ob):
  St w0 I0 nt env (upd mem id ob) (upd bs id x) a w':=by
 have K:=h.keeps id ob x hb hk hx hv;refine⟨h.below.trans hb,h.size,h.defers,?_,?_,?_,?_,?_,h.pin,h.marks.mono fun b hb=>⟨⟨(K.stay b hb.1).1,hb.2⟩,(K.stay b hb.1).2⟩⟩
 .intro t;rcases h.tmp t with ht|⟨hlt,hd⟩
  .exact .inl ht
  .exact .inr ⟨hlt,K.av (fun o ho=>h.henv t o ho) hd⟩
 .intro o;by_cases e:o=id
  .subst e;rw[Zk,Zk];exact hob
  .rw[ZQ _ _ e,ZQ _ _ e];refine ObOk.keeps K (fun p hp=>h.hmem o p hp) hb.size ?_ (h.obs o);intro b hm hbo;have hlt:=(h.obs o).block hm b hbo;exact hk b hlt.2 (fun hm' hb'=>e (h.sep o id b hm hm' hbo hb'))
 .intro o o' b hm hm' hbo hbo';by_cases e:o=id<;>by_cases e':o'=id
  .rw[e,e']
  .subst e;rw[Zk]at hm hbo;rw[ZQ _ _ e']at hm' hbo';rcases hx b hm hbo with ⟨h1,h2⟩|⟨h1,_⟩
   .exact h.sep o o' b h1 hm' h2 hbo'
   .have:=((h.obs o').block hm' b hbo').2;omega
  .subst e';rw[Zk]at hm' hbo';rw[ZQ _ _ e]at hm hbo;rcases hx b hm' hbo' with ⟨h1,h2⟩|⟨h1,_⟩
   .exact h.sep o o' b hm h1 hbo h2
   .have:=((h.obs o).block hm b hbo).2;omega
  .rw[ZQ _ _ e]at hm hbo;rw[ZQ _ _ e']at hm' hbo';exact h.sep o o' b hm hm' hbo hbo'
 .intro t o ho;exact hv.okh hlive (h.henv t o ho)
 .intro q o ho;by_cases e:q=id
  .subst e;rw[Zk]at ho;exact hhs o ho
  .rw[ZQ _ _ e]at ho;exact hv.okh hlive (h.hmem q o ho)
theorem St.grow(h:St w0 I0 nt env mem bs a w)(hb:Below w.heap.size w w'):
  Keeps w (Stay w0 I0 mem bs w) bs mem w' (Stay w0 I0 mem bs w') bs mem (okh mem)/\St w0 I0 nt env mem bs a w':=by
 have hlow:Bel w0.K w w':=h.bel hb;have K:Keeps w (Stay w0 I0 mem bs w) bs mem w' (Stay w0 I0 mem bs w') bs mem (okh mem):=by
  refine⟨?_,fun _ _ _ _=>rfl,fun o T n k xs own _ hm=>⟨T,xs,own,hm,rfl⟩⟩;intro b hs;rcases hs with ⟨h1,h2⟩|⟨h1,h2,h3⟩
  .exact⟨.inl ⟨h1,h2⟩,hlow.block b h2⟩
  .exact⟨.inr ⟨h1,Nat.lt_of_lt_of_le h2 hb.size,h3⟩,hb.block b h2⟩
 refine⟨K,h.below.trans hlow,h.size,h.defers,?_,?_,h.sep,h.henv,h.hmem,h.pin,h.marks.mono fun b hb=>⟨⟨(K.stay b hb.1).1,hb.2⟩,(K.stay b hb.1).2⟩⟩
 .intro t;rcases h.tmp t with ht|⟨hlt,hd⟩
  .exact .inl ht
  .exact .inr ⟨hlt,K.av (fun o ho=>h.henv t o ho) hd⟩
 .intro o;refine ObOk.keeps K (fun p hp=>h.hmem o p hp) hb.size ?_ (h.obs o);intro b hm hbo;exact hb.block b ((h.obs o).block hm b hbo).2
theorem St.put(h:St w0 I0 nt env mem bs a w){d:Nat}(hd:d<nt.n)(hp:d ∉ nt.pins){v:Value}{r:AV}(hr:DenAV w (Stay w0 I0 mem bs w) bs mem v r)(hs:∀o,o∈r.hs->okh mem o):
  St w0 I0 nt (upd env d r) mem bs (a.put (some d) v) w:=by
 refine⟨h.below,by simp[Act.put,h.size],h.defers,?_,h.obs,h.sep,?_,h.hmem,fun t ht=>?_,h.marks⟩
 .intro t;by_cases e:t=d
  .subst e;rw[Zk];exact .inr ⟨hd,by simp[Act.put,h.size,hd];exact hr⟩
  .rw[ZQ _ _ e];rcases h.tmp t with ht|⟨hlt,hh⟩
   .exact .inl ht
   .refine .inr ⟨hlt,?_⟩;have:(a.put (some d) v).tmps.getD t undef=a.tmps.getD t undef:=by
     simp[Act.put,Array.getElem?_setIfInBounds_ne (Ne.symm e)]
    rw[this];exact hh
 .intro t o ho;by_cases e:t=d
  .subst e;rw[Zk]at ho;exact hs o ho
  .rw[ZQ _ _ e]at ho;exact h.henv t o ho
 .rw[<-h.pin t ht];have e:d≠t:=fun e=>hp (e▸ht);simp[Act.put,Array.getElem?_setIfInBounds_ne e]
end
theorem Zdo(x:Value):x.oneCell'=flat x:=by cases x<;>rfl
def forceK{α β:Type}:List α->(List α->β)->β
 | [],k=>k []
 |x::xs,k=>forceK xs fun l=>k (x::l)
theorem ZC{α β:Type}(l:List α):∀k:List α->β,forceK l k=k l:=by
 induction l with
 |nil=>intro k;rfl
 |cons x xs ih=>intro k;exact ih _
def repl{α:Type}:List α->Nat->List α->List α
 |l,_, []=>l
 |l,off,v::vs=>repl (l.set off v) (off+1) vs
theorem Za6{α:Type}(vs:List α):∀(l:List α)(off:Nat),(repl l off vs).length=l.length:=by
 induction vs with
 |nil=>intro l off;rfl
 |cons v vs ih=>intro l off;rw[repl,ih,List.length_set]
noncomputable def overF{α:Type}(vs:List α):List α->List α:=
 @List.rec α (fun _=>List α->List α) (fun l=>l) (fun v _ ih l=>@List.rec α (fun _=>List α) [] (fun _ t _=>v::ih t) l) vs
noncomputable def replF{α:Type}(l:List α)(off:Nat)(vs:List α):List α:=
 @Nat.rec (fun _=>List α->List α) (overF vs) (fun _ ih l=>@List.rec α (fun _=>List α) [] (fun a t _=>a::ih t) l) off l
theorem ZgR{α:Type}:∀(vs:List α)(off:Nat),repl ([]:List α) off vs= []
 | [],_=>rfl
 |_::vs,off=>ZgR vs (off+1)
theorem ZeJ{α:Type}(a:α):∀(vs l:List α)(off:Nat),repl (a::l) (off+1) vs=a::repl l off vs
 | [],_,_=>rfl
 |v::vs,l,off=>ZeJ a vs (l.set off v) (off+1)
theorem Zpt{α:Type}:∀(vs l:List α),overF vs l=repl l 0 vs
 | [],_=>rfl
 |v::vs, []=>(ZgR (v::vs) 0).symm
 |v::vs,a::l=>by
  show v::overF vs l=repl (v::l) 1 vs;rw[Zpt vs l];exact(ZeJ v vs l 0).symm
theorem Zeh{α:Type}(vs:List α):∀(off:Nat)(l:List α),replF l off vs=repl l off vs
 |0,l=>Zpt vs l
 |off+1, []=>(ZgR vs (off+1)).symm
 |off+1,a::l=>by
  show a::replF l off vs=_;rw[Zeh vs off l,ZeJ]
def Rel2{α β:Type}(R:α->β->Prop)(l:List α)(cs:List β):Prop:=l.length=cs.length/\∀(j:Nat)(c:β)(y:α),cs[j]? =some c->l[j]? =some y->R y c
section
variable{α β:Type}{R:α->β->Prop}
theorem Rel2.nil:Rel2 R [] []:=⟨rfl,fun j c y h=>by simp at h⟩
theorem Rel2.cons{y:α}{c:β}{l:List α}{cs:List β}(h:R y c)(r:Rel2 R l cs):Rel2 R (y::l) (c::cs):=by
 refine⟨by simp[r.1],fun j d x hd hx=>?_⟩
 match j,hd,hx with
 |0,hd,hx=>simp at hd hx;subst hd;subst hx;exact h
 |j+1,hd,hx=>exact r.2 j d x (by simpa using hd) (by simpa using hx)
theorem Rel2.of_cons{y:α}{c:β}{l:List α}{cs:List β}(r:Rel2 R (y::l) (c::cs)):R y c/\Rel2 R l cs:=
 ⟨r.2 0 c y rfl rfl,by have:=r.1;simpa using this,fun j d x hd hx=>r.2 (j+1) d x (by simpa using hd) (by simpa using hx)⟩
theorem Rel2.set{l:List α}{cs:List β}(r:Rel2 R l cs)(i:Nat){y:α}{c:β}(h:R y c):Rel2 R (l.set i y) (cs.set i c):=by
 refine⟨by simp[r.1],fun j d x hd hx=>?_⟩;by_cases e:i=j
 .subst e;rw[List.getElem?_set]at hd hx;simp only[if_true]at hd hx;split at hd
  .split at hx
   .simp at hd hx;subst hd;subst hx;exact h
   .simp at hx
  .simp at hd
 .rw[List.getElem?_set_ne e]at hd hx;exact r.2 j d x hd hx
theorem Rel2.repl{vs:List α}{ds:List β}:∀{l:List α}{cs:List β}(off:Nat),Rel2 R l cs->Rel2 R vs ds->Rel2 R (repl l off vs) (repl cs off ds):=by
 induction vs generalizing ds with
 |nil=>
  intro l cs off r h
  cases ds with
  |nil=>exact r
  |cons d ds=>have:=h.1;simp at this
 |cons v vs ih=>
  intro l cs off r h
  cases ds with
  |nil=>have:=h.1;simp at this
  |cons d ds=>
   obtain⟨h1,h2⟩:=h.of_cons;exact ih (off+1) (r.set off h1) h2
theorem Rel2.drop{l:List α}{cs:List β}(r:Rel2 R l cs)(n:Nat):Rel2 R (l.drop n) (cs.drop n):=by
 refine⟨by simp[r.1],fun j d x hd hx=>r.2 (n+j) d x (by simpa using hd) (by simpa using hx)⟩
theorem Rel2.take{l:List α}{cs:List β}(r:Rel2 R l cs)(n:Nat):Rel2 R (l.take n) (cs.take n):=by
 refine⟨by simp[r.1],fun j d x hd hx=>?_⟩;rw[getElem?_take]at hd hx;split at hd
 .exact r.2 j d x hd (by simpa[*]using hx)
 .simp at hd
theorem Rel2.mono{R':α->β->Prop}{l:List α}{cs:List β}(r:Rel2 R l cs)(h:∀y c,c∈cs->R y c->R' y c):Rel2 R' l cs:=
 ⟨r.1,fun j c y hc hy=>h y c (mG hc) (r.2 j c y hc hy)⟩
theorem Rel2.get{l:List α}{cs:List β}(r:Rel2 R l cs){j:Nat}{c:β}(h:cs[j]? =some c):∃y,l[j]? =some y/\R y c:=by
 have hj:j<l.length:=by rw[r.1];exact(gS h).1
 exact⟨l[j],gE hj,r.2 j c _ h (gE hj)⟩
theorem Rel2.mem{l:List α}{cs:List β}(r:Rel2 R l cs){y:α}(h:y∈l):∃c,c∈cs/\R y c:=by
 obtain⟨j,hj⟩:=getElem?_of_mem h;have hlt:j<cs.length:=by rw[<-r.1];exact(gS hj).1
 exact⟨cs[j],getElem_mem hlt,r.2 j _ y (gE hlt) hj⟩
end
structure Ty where
 size:Nat
 bytes:Nat
 agg:Bool
 zero:List C
 fields:List (Nat×Nat)
 elem:Option Nat
 str:Bool
 ftypes:List Nat
 arr:Option (Nat×Nat)
def isAggD:TypeDesc->Bool
 | .struct _=>true
 | .array _ _=>true
 |_=>false
def fieldsD(P:Program):TypeDesc->Option (List (Nat×Nat))
 | .struct fs=>fs.toList.mapM fun f=>(P.info? f.type).map fun i=>(f.offset,i.size)
 |_=>some []
def elemD:TypeDesc->Option Nat
 | .slice e=>some e
 |_=>none
def ftypesD:TypeDesc->List Nat
 | .struct fs=>fs.toList.map fun f=>f.type
 |_=>[]
def arrD:TypeDesc->Option (Nat×Nat)
 | .array n e=>some (n,e)
 |_=>none
def strD:TypeDesc->Bool
 | .string=>true
 |_=>false
def tyOf(P:Program)(t:Nat):Option Ty:=
 match P.info? t,P.underlying t with
 |some i,some u=>
  match i.zero,fieldsD P u with
  |some z,some fs=>
   if z.cells.size=i.size&&z.cells.toList.all flat&&fs.all (fun p=>p.2 !=0)&&(isAggD u||i.size==1) then
    some ⟨i.size,i.bytes,isAggD u,z.cells.toList.map fun x=>.d (.v x),fs,elemD u,strD u,ftypesD u,arrD u⟩
   else none
  |_,_=>none
 |_,_=>none
structure TyIs(P:Program)(t:Nat)(ty:Ty)(i:TypeInfo)(u:TypeDesc)(z:Value):Prop where
 info:P.info? t=some i
 und:P.underlying t=some u
 hz:i.zero=some z
 zs:z.cells.size=i.size
 zf:∀x,x∈z.cells.toList->flat x=true
 one:isAggD u=true\/i.size=1
 fz:∀p,p∈ty.fields->p.2≠0
 size:ty.size=i.size
 bytes:ty.bytes=i.bytes
 agg:ty.agg=isAggD u
 zero:ty.zero=z.cells.toList.map fun x=>.d (.v x)
 fs:fieldsD P u=some ty.fields
 elem:ty.elem=elemD u
 str:ty.str=strD u
 fts:ty.ftypes=ftypesD u
 ar:ty.arr=arrD u
theorem Zr{P:Program}{t:Nat}{ty:Ty}(h:tyOf P t=some ty):∃i u z,TyIs P t ty i u z:=by
 unfold tyOf at h;split at h
 .rename_i i u hi hu;split at h
  .rename_i z fs hz hf;split at h
   .rename_i hc;obtain rfl:=(sI h).symm;simp only[Bool.and_eq_true,beq_iff_eq,List.all_eq_true,Bool.or_eq_true,decide_eq_true_eq,bne_iff_ne]at hc;obtain⟨⟨⟨h1,h2⟩,h3⟩,h4⟩:=hc;exact⟨i,u,z,hi,hu,hz,h1,h2,h4,h3,rfl,rfl,rfl,rfl,hf,rfl,rfl,rfl,rfl⟩
   .simp at h
  .simp at h
 .simp at h
section
variable{P:Program}{t:Nat}{ty:Ty}{i:TypeInfo}{u:TypeDesc}{z:Value}
theorem TyIs.run_size(h:TyIs P t ty i u z)(w:World):(sizeOf t).run P w= .ok ty.size w:=by simp[sizeOf,typeInfo,h.info,h.size]
theorem TyIs.run_agg(h:TyIs P t ty i u z)(w:World):(isAgg t).run P w= .ok ty.agg w:=by
 unfold isAgg;rw[Sem.run_bind,run_underlying h.und w,h.agg];cases u<;>rfl
theorem TyIs.run_zero(h:TyIs P t ty i u z)(w:World):(zeroValue t).run P w= .ok z w:=by simp[zeroValue,typeInfo,h.info,h.hz]
theorem TyIs.zrel(h:TyIs P t ty i u z)(w:World)(I:Nat->Prop)(bs:Bs)(mem:Mem):Rel2 (fun x c=>DenC w I bs mem x c) z.cells.toList ty.zero:=by
 rw[h.zero];refine⟨by simp,fun j c y hc hy=>?_⟩;rw[getElem?_map,hy]at hc;obtain rfl:=(sI hc).symm;exact Den.v y (h.zf y (mG hy))
theorem TyIs.slice(h:TyIs P t ty i u z){e:Nat}(he:ty.elem=some e):P.underlying t=some (.slice e):=by
 rw[h.und];have:=h.elem;rw[he]at this;cases u<;>simp[elemD]at this;subst this;rfl
theorem TyIs.array(h:TyIs P t ty i u z){n e:Nat}(he:ty.arr=some (n,e)):P.underlying t=some (.array n e):=by
 rw[h.und];have:=h.ar;rw[he]at this;cases u<;>simp[arrD]at this;obtain⟨rfl,rfl⟩:=this;rfl
theorem TyIs.string(h:TyIs P t ty i u z)(he:ty.str=true):P.underlying t=some .string:=by
 rw[h.und];have:=h.str;rw[he]at this;cases u<;>simp[strD]at this;rfl
theorem TyIs.run_fieldV(h:TyIs P t ty i u z){f off sz ft:Nat}(hf:ty.fields[f]? =some (off,sz))(hft:ty.ftypes[f]? =some ft){fty:Ty}{fi:TypeInfo}{fu:TypeDesc}{fz:Value}(hi:TyIs P ft fty fi fu fz)(l:List Value)(hl:off+fty.size<=l.length)(w:World):
  ∃x,(Instr.field t (.agg l.toArray) f).run P w= .ok x w/\(if fty.agg then x= .agg ((l.drop off).take fty.size).toArray else (l.drop off).take fty.size= [x]):=by
 have hfs:=h.fs;have hts:=h.fts;unfold fieldsD at hfs;split at hfs
 .rename_i fs;have hl1:∀(l:List Field)(r:List (Nat×Nat)),l.mapM (fun f=>(P.info? f.type).map fun i=>(f.offset,i.size))=some r->∀(k:Nat)(p:Nat×Nat),r[k]? =some p->∃(g:Field)(j:TypeInfo),l[k]? =some g/\P.info? g.type=some j/\p=(g.offset,j.size):=by
   intro l
   induction l with
   |nil=>intro r hr k p hp;simp at hr;subst hr;simp at hp
   |cons g l ih=>
    intro r hr k p hp;simp only[List.mapM_cons,Option.bind_eq_bind,Option.pure_def]at hr
    cases hg:P.info? g.type with
    |none=>simp[hg]at hr
    |some j=>
     cases hr':l.mapM (fun f=>(P.info? f.type).map fun i=>(f.offset,i.size)) with
     |none=>simp[hg,hr']at hr
     |some rest=>
      simp[hg,hr']at hr;subst hr
      cases k with
      |zero=>simp at hp;exact⟨g,j,rfl,hg,hp.symm⟩
      |succ k=>obtain⟨g',j',h1,h2,h3⟩:=ih rest hr' k p (by simpa using hp);exact⟨g',j',by simpa using h1,h2,h3⟩
  obtain⟨g,j,h1,h2,h3⟩:=hl1 _ _ hfs f _ hf;simp only[Prod.mk.injEq]at h3;obtain⟨rfl,rfl⟩:=h3;have hgt:g.type=ft:=by
   rw[hts]at hft;simp only[ftypesD,getElem?_map,h1,Option.map_some,Option.some.injEq]at hft;exact hft
  subst hgt;have h1':fs[f]? =some g:=by simpa using h1
  cases ha:fty.agg with
  |true=>
   refine⟨.agg ((l.drop g.offset).take fty.size).toArray,?_,by simp⟩;have e:l.toArray.extract g.offset (g.offset+fty.size)=((l.drop g.offset).take fty.size).toArray:=by
    rw[List.extract_toArray,List.extract_eq_take_drop,Nat.add_sub_cancel_left]
   simp[Instr.field,run_underlying h.und,h1',part,hi.run_agg,ha,hi.run_size,asAgg]
  |false=>
   have hs1:fty.size=1:=by
    rcases hi.one with h4|h4
    .rw[<-hi.agg,ha]at h4;simp at h4
    .rw[hi.size,h4]
   have hlt:g.offset<l.length:=ω;refine⟨l[g.offset],?_,?_⟩
   .simp[Instr.field,run_underlying h.und,h1',part,hi.run_agg,ha,asAgg,gE hlt]
   .simp only[Bool.false_eq_true,if_false];rw[hs1,List.drop_eq_getElem_cons hlt];rfl
 .obtain e:=sI hfs;rw[<-e]at hf;simp at hf
theorem TyIs.run_field(h:TyIs P t ty i u z){f off sz:Nat}(hf:ty.fields[f]? =some (off,sz))(b o:Nat)(w:World):(Instr.fieldAt t (.pointer (some ⟨b,o,none⟩)) f).run P w= .ok (.pointer (some ⟨b,o+off,none⟩)) w:=by
 have hfs:=h.fs;unfold fieldsD at hfs;split at hfs
 .rename_i fs;have hl:∀(l:List Field)(r:List (Nat×Nat)),l.mapM (fun f=>(P.info? f.type).map fun i=>(f.offset,i.size))=some r->∀(k:Nat)(p:Nat×Nat),r[k]? =some p->∃(g:Field)(j:TypeInfo),l[k]? =some g/\P.info? g.type=some j/\p=(g.offset,j.size):=by
   intro l
   induction l with
   |nil=>intro r hr k p hp;simp at hr;subst hr;simp at hp
   |cons g l ih=>
    intro r hr k p hp;simp only[List.mapM_cons,Option.bind_eq_bind,Option.pure_def]at hr
    cases hg:P.info? g.type with
    |none=>simp[hg]at hr
    |some j=>
     cases hr':l.mapM (fun f=>(P.info? f.type).map fun i=>(f.offset,i.size)) with
     |none=>simp[hg,hr']at hr
     |some rest=>
      simp[hg,hr']at hr;subst hr
      cases k with
      |zero=>simp at hp;exact⟨g,j,rfl,hg,hp.symm⟩
      |succ k=>obtain⟨g',j',h1,h2,h3⟩:=ih rest hr' k p (by simpa using hp);exact⟨g',j',by simpa using h1,h2,h3⟩
  obtain⟨g,j,h1,h2,h3⟩:=hl _ _ hfs f _ hf;simp only[Prod.mk.injEq]at h3;obtain⟨rfl,rfl⟩:=h3;have hz:j.size≠0:=h.fz _ (mG hf);have hs:∀w,(sizeOf g.type).run P w= .ok j.size w:=fun w=>by simp[sizeOf,typeInfo,h2]
  have h1':fs[f]? =some g:=by simpa using h1
  simp[Instr.fieldAt,run_underlying h.und,h1',Instr.sureAddr,fieldPlace,hs,hz,Addr.add_lit]
 .obtain e:=sI hfs;rw[<-e]at hf;simp at hf
end
section
variable{P:Program}{w:World}
theorem ZfP{t:Nat}{ty:Ty}{i:TypeInfo}{u:TypeDesc}{z:Value}(h:TyIs P t ty i u z)(b off:Nat)(l:List Value)(hl:l.length=ty.size)(hc:∀(j:Nat)(y:Value),l[j]? =some y->w.cell? ⟨b,off+j,none⟩=some y):
  ∃x,(Instr.loadAt t (.pointer (some ⟨b,off,none⟩))).run P w= .ok x w/\(if ty.agg then x= .agg l.toArray else l= [x]):=by
 have hcells:(loadCells ⟨b,off,none⟩ l.length).run P w= .ok l.toArray w:=run_loadCells_list (P:=P) w ⟨b,off,none⟩ l (fun j v hv=>by rw[Addr.add_lit];exact hc j v hv)
 cases ha:ty.agg with
 |true=>
  refine⟨.agg l.toArray,?_,by simp⟩;rw[hl]at hcells;simp[Instr.loadAt,Instr.sureAddr,loadVar,h.run_agg,ha,h.run_size,hcells]
 |false=>
  have h1:ty.size=1:=by
   rcases h.one with h1|h1
   .rw[<-h.agg,ha]at h1;simp at h1
   .rw[h.size,h1]
  obtain⟨x,rfl⟩:∃x,l= [x]:=by
   match l,hl with
   | [x],_=>exact⟨x,rfl⟩
   | [],hl=>simp[h1]at hl
   |_::_::_,hl=>simp[h1]at hl
  refine⟨x,?_,by simp⟩;have hx:=hc 0 x rfl;simp at hx;simp[Instr.loadAt,Instr.sureAddr,loadVar,h.run_agg,ha,load,Sem.run,hx]
structure But(b:Nat)(w w':World):Prop where
 os:w'.os=w.os
 tape:w'.tape=w.tape
 output:w'.output=w.output
 size:w'.heap.size=w.heap.size
 block:∀k,k≠b->w'.heap[k]? =w.heap[k]?
theorem But.refl(b:Nat)(w:World):But b w w:=⟨rfl,rfl,rfl,rfl,fun _ _=>rfl⟩
theorem But.trans{b:Nat}{w1 w2 w3:World}(h:But b w1 w2)(k:But b w2 w3):But b w1 w3:=⟨k.os.trans h.os,k.tape.trans h.tape,k.output.trans h.output,k.size.trans h.size,fun j hj=>(k.block j hj).trans (h.block j hj)⟩
theorem But.set(b j:Nat)(w:World)(v:Value):But b w (w.setCell ⟨b,j,none⟩ v):=⟨rfl,rfl,rfl,by simp[World.setCell],fun k hk=>Below.heap_setCell _ _ _ _ hk⟩
theorem But.bel{b:Nat}{K:Nat->Prop}{w1 w2:World}(h:But b w1 w2)(hb:¬K b):Bel K w1 w2:=⟨h.os,h.tape,h.output,by rw[h.size];exact Nat.le_refl _,fun k hk=>h.block k (fun e=>hb (e▸hk))⟩
theorem But.below{b B:Nat}{w1 w2:World}(h:But b w1 w2)(hb:B<=b):Below B w1 w2:=⟨h.os,h.tape,h.output,by rw[h.size];exact Nat.le_refl _,fun k hk=>h.block k ω⟩
theorem ZmB{b T j:Nat}{l:List Value}(hr:Row w b T l)(hj:j<l.length)(v:Value)(hv:flat v=true):(store ⟨b,j,none⟩ v).run P w= .ok () (w.setCell ⟨b,j,none⟩ v):=by
 rw[run_store P w _ v .plain (by rw[Zdo];exact hv),hr.cell?,gE hj];simp[hr.frozen]
theorem ZfO(P:Program){b T off:Nat}:∀(vs:List Value)(i:Nat)(w:World)(l:List Value),Row w b T l->off+i+vs.length<=l.length->(∀v,v∈vs->flat v=true)->
  ∃w',(storeCells ⟨b,off,none⟩ vs i).run P w= .ok () w'/\Row w' b T (repl l (off+i) vs)/\But b w w'
 | [],i,w,l,hr,_,_=>⟨w,rfl,hr,But.refl _ _⟩
 |v::vs,i,w,l,hr,hl,hv=>by
  simp only[length_cons]at hl;have h1:=ZmB (P:=P) hr (j:=off+i) ω v (hv v (by simp));obtain⟨w',h2,h3,h4⟩:=ZfO P (b:=b) (T:=T) (off:=off) vs (i+1) (w.setCell ⟨b,off+i,none⟩ v) (l.set (off+i) v) (hr.set _ _) (by simp;omega) (fun x hx=>hv x (by simp[hx]));refine⟨w',?_,h3,(But.set _ _ _ _).trans h4⟩;simp only[storeCells,Sem.run_bind,Addr.add_lit,h1,Result.andThen_ok,h2]
theorem ZeH{t:Nat}{ty:Ty}{i:TypeInfo}{u:TypeDesc}{z:Value}(h:TyIs P t ty i u z){b T off:Nat}{l:List Value}(hr:Row w b T l)(x:Value)(hx:x.cells.size=ty.size)(hl:off+ty.size<=l.length)(hv:∀v,v∈x.cells.toList->flat v=true):
  ∃w',(Instr.storeAt t (.pointer (some ⟨b,off,none⟩)) x).run P w= .ok () w'/\Row w' b T (repl l off x.cells.toList)/\But b w w':=by
 obtain⟨w',h1,h2,h3⟩:=ZfO P (off:=off) x.cells.toList 0 w l hr (by simp;omega) hv;refine⟨w',?_,h2,h3⟩;simp[Instr.storeAt,Instr.sureAddr,storeVar,h.run_size,hx,h1]
end
noncomputable def fillL{α:Type}(place:Nat->Option (Nat×Nat))(cells:List α):List (Nat×List α)->Option (List α)
 | []=>some cells
 |(i,v)::rest=>
  match place i with
  |none=>none
  |some (off,size)=>bif !Nat.beq v.length size|| !Nat.ble (off+v.length) cells.length then none else fillL place (replF cells off v) rest
theorem ZqU(vs:List Value):∀(off k:Nat)(cs:Array Value),((vs.zipIdx k).foldl (fun (cs:Array Value) (x:Value×Nat)=>cs.setIfInBounds (off+x.2) x.1) cs).toList=repl cs.toList (off+k) vs:=by
 induction vs with
 |nil=>intro off k cs;rfl
 |cons v vs ih=>
  intro off k cs;rw[List.zipIdx_cons,List.foldl_cons,ih,repl,Array.toList_setIfInBounds];rfl
theorem ZlN{R:Value->C->Prop}(place:Nat->Option (Nat×Nat)):∀(parts:List (Nat×Value))(ps:List (Nat×List C))(cells:Array Value)(cs out:List C),
  Rel2 (fun (p:Nat×Value) (q:Nat×List C)=>p.1=q.1/\Rel2 R p.2.cells.toList q.2) parts ps->Rel2 R cells.toList cs->fillL place cs ps=some out->
  ∃res,Instr.fill place cells parts=some res/\Rel2 R res.toList out
 | [], [],cells,cs,out,_,hr,h=>⟨cells,rfl,by simp only[fillL,Option.some.injEq]at h;subst h;exact hr⟩
 | [],q::ps,cells,cs,out,hp,_,_=>by have:=hp.1;simp at this
 |p::parts, [],cells,cs,out,hp,_,_=>by have:=hp.1;simp at this
 |(i,v)::parts,(j,l)::ps,cells,cs,out,hp,hr,h=>by
  obtain⟨⟨h1,h2⟩,h3⟩:=hp.of_cons;simp only at h1 h2;subst h1;simp only[fillL,Zeh]at h
  cases hpl:place i with
  |none=>simp[hpl]at h
  |some os=>
   obtain⟨off,size⟩:=os;simp only[hpl]at h
   cases hc:(!Nat.beq l.length size|| !Nat.ble (off+l.length) cs.length) with
   |true=>rw[hc]at h;simp at h
   |false=>
    rw[hc]at h;simp only[cond_false]at h;simp only[Bool.or_eq_false_iff,Bool.not_eq_false']at hc;have e1:=Nat.eq_of_beq_eq_true hc.1;have e2:=Nat.le_of_ble_eq_true hc.2;have hs:v.cells.size=l.length:=by have:=h2.1;simpa using this
    have hsz:cells.size=cs.length:=by have:=hr.1;simpa using this
    simp only[Instr.fill,hpl];have hgood:¬(v.cells.size≠size||decide (off+v.cells.size >cells.size))=true:=by
     simp;omega
    rw[if_neg hgood];refine ZlN place parts ps _ _ out h3 ?_ h;rw[<-Array.foldl_toList,Array.toList_zipIdx,ZqU];exact hr.repl off h2
inductive Plan where
 |ret (v:AV)
 |put (v:AV) (id:Nat) (ob:Ob)
 |putIf (pre:Prop) (v:AV) (id:Nat) (ob:Ob)
 |ask (Φ:AV->Prop)
 |askF (id:Nat) (ob:Ob) (Φ:AV->Prop)
 |askN (d:Option Nat) (Φ:AV->Prop)
 |askT (id k:Nat) (Φ:Nat->Nat->List (List D)->Prop)
 |askS (id T n k:Nat) (Φ:AV->List (List D)->Prop)
 |askV (id T:Nat) (Φ:AV->List D->Prop)
 |askE (id:Nat) (lk:Option Nat) (Φ:AV->Obj->Prop)
 |dem (pre:Prop) (id:Nat) (lk:Option Nat) (Φ:AV->Obj->Prop)
 |bad
def one(x:Value):AV:=.val (.one (.d (.v x)))
def opd(env:Env):Operand->AV
 | .tmp t=>env t
 | .const v=>bif flat v then one v else .junk
 | .func f=>one (.func (.func f) #[] #[])
 | .global _=>.junk
def noBs:Bs:=fun _=>undef
def noMem:Mem:=fun _=>.gone
def Enters(P:Program)(f:FuncId):Prop:=∀(args:Array Value)(w:World),(callFunc f args).run P w= .ok (.enter f args) w
theorem Zn{P : Program}{f : FuncId}{fn : Func}{c : Code}(hf : P.funcs[f]? = some fn)(hb : fn.body = some c)(hn : (fn.name == "runtime.NumGoroutine") = false) : Enters P f := by
 intro args w;have hn' : ¬ fn.name = "runtime.NumGoroutine" := fun e => by rw [e] at hn; simp at hn
 simp[callFunc,program,hf,hb,hn',Sem.run]
def Spec(P:Program)(G:World->Prop)(f:FuncId)(args:List AV)(r:AV):Prop:=
 Enters P f/\∀(w:World)(I:Nat->Prop)(vs:List Value),G w->(∀b,I b->b<w.heap.size)->Rel2 (fun x av=>DenAV w I noBs noMem x av) vs args->
  Calls P f vs.toArray w fun e w'=>∃x,e= .returned x/\DenAV w' (fun b=>I b\/(w.heap.size<=b/\b<w'.heap.size)) noBs noMem x r/\Below w.heap.size w w'
def Fresh(w:World)(I:Nat->Prop)(w':World)(x:Value)(T n:Nat)(xs:List (List D)):Prop:=
 ∃ys:List Value,w'.ownsRow w.heap.size T n x xs.length ys/\0<n/\ys.length=xs.length*n/\(∀r,r∈xs->r.length=n)/\
  ∀(i j:Nat)(r:List D)(d:D),xs[i]? =some r->r[j]? =some d->∃y,ys[i*n+j]? =some y/\Den w' (fun b=>(I b\/(w.heap.size<=b/\b<w'.heap.size))/\blk x≠some b) y d
def SpecR(P:Program)(G:World->Prop)(f:FuncId)(args:List AV)(T n:Nat)(xs:List (List D)):Prop:=
 Enters P f/\∀(w:World)(I:Nat->Prop)(vs:List Value),G w->(∀b,I b->b<w.heap.size)->Rel2 (fun x av=>DenAV w I noBs noMem x av) vs args->
  Calls P f vs.toArray w fun e w'=>∃x,e= .returned x/\Fresh w I w' x T n xs/\Below w.heap.size w w'
def CallR(P:Program)(G:World->Prop)(f:FuncId)(args:List AV):AV->Prop
 | .new T n xs=>SpecR P G f args T n xs
 |r=>r.hs= []/\Spec P G f args r
theorem Zl5{P:Program}{G:World->Prop}{f:FuncId}{args:List AV}{r:AV}(hr:r.hs= [])(h:Spec P G f args r):CallR P G f args r:=by
 cases r with
 |new T n xs=>simp[AV.hs]at hr
 |val s=>exact⟨hr,h⟩
 |tup s=>exact⟨hr,h⟩
 |junk=>exact⟨hr,h⟩
theorem Zl6{P:Program}{G:World->Prop}{f:FuncId}{args:List AV}{r:AV}(h:CallR P G f args r)(hn:r.isNew=false):r.hs= []/\Spec P G f args r:=by
 cases r with
 |new T n xs=>simp[AV.isNew]at hn
 |val s=>exact h
 |tup s=>exact h
 |junk=>exact h
def look:List (Nat×Ty)->Nat->Option Ty
 | [],_=>none
 |p::r,t=>bif Nat.beq p.1 t then some p.2 else look r t
theorem Zl{TB:List (Nat×Ty)}{t:Nat}{ty:Ty}(h:look TB t=some ty):(t,ty)∈TB:=by
 induction TB with
 |nil=>simp[look]at h
 |cons p r ih=>
  rw[look]at h
  cases e:Nat.beq p.1 t with
  |true=>
   rw[e]at h;obtain rfl:=sI h;obtain rfl:=Nat.eq_of_beq_eq_true e;exact List.mem_cons_self
  |false=>rw[e]at h;exact List.mem_cons_of_mem _ (ih h)
def TBok(P:Program)(TB:List (Nat×Ty)):Prop:=∀t ty,(t,ty)∈TB->tyOf P t=some ty
def Does(P:Program)(o:Oper)(a:Act)(w:World)(R:Value->World->Prop):Prop:=
 ∀(K:Act->World->Prop)(Q:Exit->Act->World->Prop),(∀x w',R x w'->K (a.put o.dst x) w')->o.wp P a w K Q
theorem Za{P:Program}{o:Oper}{a:Act}{w w':World}{R:Value->World->Prop}(x:Value)(h:(execOp a.eval o).run P w= .ok (.value x) w')(hR:R x w'):Does P o a w R:=by
 intro K Q hK;unfold Oper.wp;rw[h];exact hK x w' hR
theorem Zfg{P:Program}{o:Oper}{a:Act}{w w':World}{R:Value->World->Prop}(h:(execOp a.eval o).run P w= .ok .skip w')(hR:R undef w'):Does P o a w R:=by
 intro K Q hK;unfold Oper.wp;rw[h];exact hK undef w' hR
theorem Za0{P:Program}{o:Oper}{a:Act}{w w':World}{R:Value->World->Prop}{f:FuncId}{args:Array Value}(h:(execOp a.eval o).run P w= .ok (.enter f args) w')
 (hc:Calls P f args w' fun e w''=>∃x,e= .returned x/\R x w''):Does P o a w R:=by
 intro K Q hK;unfold Oper.wp;rw[h];refine Calls.mono hc fun e w'' ⟨x,he,hx⟩=>?_;subst he;exact hK x w'' hx
def After(w0:Base)(I0:Nat->Prop)(nt:Shape)(env:Env)(mem:Mem)(a:Act)(v:AV)(x:Value)(w:World):Prop:=
 ∃bs,St w0 I0 nt env mem bs a w/\DenAV w (Stay w0 I0 mem bs w) bs mem x v/\∀o,o∈v.hs->okh mem o
def SoundPlan(P:Program)(w0:Base)(I0:Nat->Prop)(nt:Shape)(env:Env)(mem:Mem)(a:Act)(w:World)(o:Oper):Plan->Prop
 | .ret v=>Does P o a w (After w0 I0 nt env mem a v)
 | .put v id ob=>Does P o a w (After w0 I0 nt env (upd mem id ob) a v)
 | .putIf pre v id ob=>pre->Does P o a w (After w0 I0 nt env (upd mem id ob) a v)
 | .ask Φ=>∀r,Φ r->Does P o a w (After w0 I0 nt env mem a r)
 | .askF id ob Φ=>∀r,r.isNew=false->Φ r->Does P o a w (After w0 I0 nt env (upd mem id ob) a r)
 | .askN d Φ=>(∀r,r.isNew=false->Φ r->Does P o a w (After w0 I0 nt env mem a r))/\∀d',d=some d'->∀T n xs,Φ (.new T n xs)->Does P o a w (After w0 I0 nt env (upd mem d' (.row T n 0 xs true)) a (.val (.one (.row d' 0))))
 | .askT id k Φ=>∀T n xs,Φ T n xs->Does P o a w (After w0 I0 nt env (upd mem id (.row T n k xs true)) a (.val (.one (.row id k))))
 | .askS id T n k Φ=>∀r ys,r.isNew=false->Φ r ys->Does P o a w (After w0 I0 nt env (upd mem id (.row T n k ys true)) a r)
 | .askV id T Φ=>∀r ds,r.isNew=false->Φ r ds->Does P o a w (After w0 I0 nt env (upd mem id (.var T (ds.map C.d))) a r)
 | .askE id lk Φ=>∀r y,Φ r y->Does P o a w (After w0 I0 nt env (upd mem id (.ext lk y)) a r)
 | .dem pre id lk Φ=>pre->Does P o a w fun x w'=>∃r y,Φ r y/\r.isNew=false/\After w0 I0 nt env (upd mem id (.ext lk y)) a r x w'
 | .bad=>True
section
variable{P:Program}{G:World->Prop}{w0:Base}{I0:Nat->Prop}{nt:Shape}{env env':Env}{mem mem':Mem}{bs:Bs}{a:Act}{w:World}
theorem Zc(st:St w0 I0 nt env mem bs a w)(hE:∀t,env' t= .junk\/env' t=env t)(x:Operand):
  DenAV w (Stay w0 I0 mem bs w) bs mem (a.eval x) (opd env' x)/\∀o,o∈(opd env' x).hs->okh mem o:=by
 cases x with
 |tmp t=>
  rcases hE t with h|h
  .simp only[opd,h];exact⟨trivial,fun o ho=>by simp[AV.hs]at ho⟩
  .simp only[opd,h];rcases st.tmp t with h'|⟨hlt,h'⟩
   .rw[h'];exact⟨trivial,fun o ho=>by simp[AV.hs]at ho⟩
   .exact⟨h',fun o ho=>st.henv t o ho⟩
 |const v=>
  simp only[opd]
  cases hf:flat v with
  |true=>exact⟨Den.v v hf,fun o ho=>by simp[one,AV.hs,S.hs,C.hs]at ho⟩
  |false=>exact⟨trivial,fun o ho=>by simp[AV.hs]at ho⟩
 |func f=>exact⟨Den.v _ rfl,fun o ho=>by simp[opd,one,AV.hs,S.hs,C.hs]at ho⟩
 |global g=>exact⟨trivial,fun o ho=>by simp[opd,AV.hs]at ho⟩
theorem Zf(st:St w0 I0 nt env mem bs a w){x:Value}{v:AV}(h:DenAV w (Stay w0 I0 mem bs w) bs mem x v)(hs:∀o,o∈v.hs->okh mem o):After w0 I0 nt env mem a v x w:=⟨bs,st,h,hs⟩
theorem Zdx(st:St w0 I0 nt env mem bs a w)(hE:∀t,env' t= .junk\/env' t=env t)(o:Oper)(x:Operand)(ho:o.op= .move x\/o.op= .assign x):SoundPlan P w0 I0 nt env mem a w o (.ret (opd env' x)):=by
 obtain⟨h1,h2⟩:=Zc st hE x;refine Za (a.eval x) ?_ (Zf st h1 h2);rcases ho with ho|ho<;>simp[execOp,ho]
def planPick(env:Env)(c x y:Operand):Plan:=
 match opd env c with
 | .val (.one (.d (.v (.bool b))))=>match b with
  |true=>.ret (opd env x)
  |false=>.ret (opd env y)
 |_=>.bad
theorem Zj{I:Nat->Prop}{x y:Value}(h:DenAV w I bs mem x (.val (.one (.d (.v y))))):x=y:=by
 have h':Den w I x (.v y):=h;cases h';rfl
theorem Zmu(st:St w0 I0 nt env mem bs a w)(hE:∀t,env' t= .junk\/env' t=env t)(o:Oper)(c x y:Operand)(ho:o.op= .pick c x y):SoundPlan P w0 I0 nt env mem a w o (planPick env' c x y):=by
 obtain⟨h1,h2⟩:=Zc st hE c;unfold planPick;split
 .rename_i b hb;rw[hb]at h1;have e:=Zj h1;split
  .obtain⟨g1,g2⟩:=Zc st hE x;exact Za (a.eval x) (by simp[execOp,ho,e,asBool]) (Zf st g1 g2)
  .obtain⟨g1,g2⟩:=Zc st hE y;exact Za (a.eval y) (by simp[execOp,ho,e,asBool]) (Zf st g1 g2)
 .trivial
theorem Zfp(st:St w0 I0 nt env mem bs a w)(d T:Nat)(cs:List C)(l:List Value)(hg:mem d= .gone)(hr:Rel2 (fun y c=>DenC w (Stay w0 I0 mem bs w) bs mem y c) l cs)(hs:∀c o,c∈cs->o∈c.hs->okh mem o):
  After w0 I0 nt env (upd mem d (.var T cs)) a (.val (.one (.ptr d 0))) (.pointer (some ⟨w.heap.size,0,none⟩)) (w.alloc (.cells l.toArray T)):=by
 have hb:Bel w0.K w (w.alloc (.cells l.toArray T)):=st.bel ((Below.refl _ w).alloc (Nat.le_refl _) _);have hx:∀b,(Ob.var T cs).mut=true->blk (.pointer (some ⟨w.heap.size,0,none⟩))=some b->((mem d).mut=true/\blk (bs d)=some b)\/(w.heap.size<=b/\b<(w.alloc (.cells l.toArray T)).heap.size):=by
  intro b _ hbx;simp only[blk,Option.some.injEq]at hbx;subst hbx;exact .inr ⟨Nat.le_refl _,by simp⟩
 have hk:∀k,k<w.heap.size->((mem d).mut=true->blk (bs d)≠some k)->(w.alloc (.cells l.toArray T)).heap[k]? =w.heap[k]? :=fun k hk _=>Below.heap_alloc _ _ _ hk;have hv:Turns mem bs d (.var T cs) (.pointer (some ⟨w.heap.size,0,none⟩)):=.inl (by rw[hg];rfl);have K:=st.keeps d (.var T cs) (.pointer (some ⟨w.heap.size,0,none⟩)) hb hk hx hv;have hok:∀p,okh mem p->okh (upd mem d (.var T cs)) p:=fun p hp=>hv.okh rfl hp;refine⟨upd bs d (.pointer (some ⟨w.heap.size,0,none⟩)),st.update d (.var T cs) _ hb hk hx hv rfl ?_ ?_,?_,?_⟩
 .intro p hp;obtain⟨c,hc,hp⟩:=List.mem_flatMap.1 hp;exact hok p (hs c p hc hp)
 .exact⟨w.heap.size,l,rfl,st.newK (Nat.le_refl _),Row.alloc_new w T l,hr.1,fun j c y hc hy=> K.c (fun p hp=>hs c p (mG hc) hp) (hr.2 j c y hc hy)⟩
 .exact⟨w.heap.size,by rw[Zk],rfl⟩
 .intro p hp;have:p=(d,0):=by simpa[AV.hs,S.hs,C.hs]using hp
  subst this;exact⟨by simp only[Zk];rfl,by simp only[Zk];exact Nat.zero_le _⟩
def planAlloc(TB:List (Nat×Ty))(mem:Mem)(dst:Option Nat)(T:Nat):Plan:=
 match look TB T with
 |some ty=>match dst with
  |some d=>match mem d with
   | .gone=>.put (.val (.one (.ptr d 0))) d (.var T ty.zero)
   |_=>.bad
  |none=>.bad
 |none=>.bad
theorem Zju{TB:List (Nat×Ty)}(hTB:TBok P TB)(st:St w0 I0 nt env mem bs a w)(o:Oper)(T:Nat)(ho:o.op= .alloc T)(hM:∀d,o.dst=some d->mem' d=mem d):SoundPlan P w0 I0 nt env mem a w o (planAlloc TB mem' o.dst T):=by
 unfold planAlloc;split
 .rename_i ty hty;split
  .rename_i d hd;split
   .rename_i hg;rw[hM d hd]at hg;obtain⟨i,u,z,hi⟩:=Zr (hTB T ty (Zl hty));refine Za (.pointer (some ⟨w.heap.size,0,none⟩)) (w':=w.alloc (.cells z.cells T)) ?_ ?_
    .simp[execOp,ho,Instr.alloc,hi.run_zero,newVar,newRow]
    .have:=Zfp st d T ty.zero z.cells.toList hg (hi.zrel w _ bs mem) ?_
     .simpa using this
     .intro c p hc hp;rw[hi.zero]at hc;obtain⟨x,_,rfl⟩:=List.mem_map.1 hc;simp[C.hs]at hp
   .trivial
  .trivial
 .trivial
def planBox(env:Env)(mem:Mem)(dst:Option Nat)(T:Nat)(x:Operand):Plan:=
 match dst with
 |some d=>match mem d with
  | .gone=>match opd env x with
   | .val (.one c)=>.put (.val (.one (.ptr d 0))) d (.var T [c])
   | .val (.agg cs)=>.put (.val (.one (.ptr d 0))) d (.var T cs)
   |_=>.bad
  |_=>.bad
 |none=>.bad
theorem Zgj{x:Value}(h:flat x=true):x.cells=#[x]:=by cases x<;>first|rfl|simp[flat]at h
theorem Zoy(st:St w0 I0 nt env mem bs a w)(hE:∀t,env' t= .junk\/env' t=env t)(o:Oper)(T:Nat)(x:Operand)(ho:o.op= .box T x)(hM:∀d,o.dst=some d->mem' d=mem d):SoundPlan P w0 I0 nt env mem a w o (planBox env' mem' o.dst T x):=by
 obtain⟨h1,h2⟩:=Zc st hE x;unfold planBox;split
 .rename_i d hd;split
  .rename_i hg;rw[hM d hd]at hg;split
   .rename_i c hc;rw[hc]at h1 h2;have hfl:flat (a.eval x)=true:=DenC.flat (show DenC _ _ _ _ _ c from h1);refine Za (.pointer (some ⟨w.heap.size,0,none⟩)) (w':=w.alloc (.cells #[a.eval x] T)) ?_ ?_
    .simp[execOp,ho,Instr.box,newVar,newRow,Zgj hfl]
    .exact Zfp st d T [c] [a.eval x] hg (Rel2.nil.cons h1) (fun c' p hc' hp=>by simp only[List.mem_singleton]at hc';subst hc';exact h2 p (by simpa[AV.hs,S.hs]using hp))
   .rename_i cs hcs;rw[hcs]at h1 h2;obtain⟨l,e,hl,hrel⟩:=h1;refine Za (.pointer (some ⟨w.heap.size,0,none⟩)) (w':=w.alloc (.cells l.toArray T)) ?_ ?_
    .simp[execOp,ho,Instr.box,newVar,newRow,e,Value.cells]
    .exact Zfp st d T cs l hg ⟨hl,hrel⟩ (fun c' p hc' hp=>h2 p (by simpa[AV.hs,S.hs]using ⟨c',hc',hp⟩))
   .trivial
  .trivial
 .trivial
end
section
variable{P:Program}{G:World->Prop}{w0:Base}{I0:Nat->Prop}{nt:Shape}{env env':Env}{mem mem':Mem}{bs:Bs}{a:Act}{w:World}
def planCells(ty:Ty)(cs:List C):Plan:=
 forceK cs fun l=>bif Nat.beq l.length ty.size then (match ty.agg with
  |true=>.ret (.val (.agg l))
  |false=>match l with
   | [c]=>.ret (.val (.one c))
   |_=>.bad) else .bad
def planIs:Plan->AV->Prop
 | .ret v,r=>r=v
 |_,_=>False
def planLoad(TB:List (Nat×Ty))(env:Env)(mem:Mem)(T:Nat)(x:Operand):Plan:=
 match look TB T with
 |some ty=>match opd env x with
  | .val (.one (.ptr b off))=>match mem b with
   | .var _ cs=>planCells ty ((cs.drop off).take ty.size)
   |_=>.bad
  | .val (.one (.ref ds))=>planCells ty ((ds.take ty.size).map .d)
  | .val (.one (.rp b v n i off))=>match mem b with
   | .row _ n' v' xs _=>bif Nat.beq v v'&&Nat.beq n n' then .ask fun r=>∃ds,xs[i]? =some ds/\ds.length=n/\planIs (planCells ty (((ds.drop off).take ty.size).map .d)) r else .bad
   |_=>.bad
  |_=>.bad
 |none=>.bad
theorem ZcG(st:St w0 I0 nt env mem bs a w)(o:Oper)(T:Nat)(x:Operand)(ho:o.op= .load T x){ty:Ty}{i:TypeInfo}{u:TypeDesc}{z:Value}(hi:TyIs P T ty i u z)
 (b off:Nat)(l:List Value)(cs:List C)(he:a.eval x= .pointer (some ⟨b,off,none⟩))(hr:Rel2 (fun y c=>DenC w (Stay w0 I0 mem bs w) bs mem y c) l cs)
 (hc:∀(j:Nat)(y:Value),l[j]? =some y->w.cell? ⟨b,off+j,none⟩=some y)(hs:∀c p,c∈cs->p∈c.hs->okh mem p):SoundPlan P w0 I0 nt env mem a w o (planCells ty cs):=by
 unfold planCells;rw[ZC]
 cases hl:Nat.beq cs.length ty.size with
 |false=>trivial
 |true=>
  have hl':=Nat.eq_of_beq_eq_true hl;obtain⟨v,hv,hagg⟩:=ZfP hi b off l (hr.1.trans hl') hc;have hrun:(execOp a.eval o).run P w= .ok (.value v) w:=by simp[execOp,ho,he,hv]
  simp only[cond_true];split
  .rename_i ha;rw[ha]at hagg;simp only[if_true]at hagg;exact Za v hrun (Zf st ⟨l,hagg,hr.1,hr.2⟩ (fun p hp=>by
    simp only[AV.hs,S.hs]at hp;obtain⟨c,h1,h2⟩:=List.mem_flatMap.1 hp;exact hs c p h1 h2))
  .rename_i ha;rw[ha]at hagg;simp only[Bool.false_eq_true,if_false]at hagg;split
   .rename_i c;subst hagg;exact Za v hrun (Zf st (hr.2 0 c v rfl rfl) (fun p hp=>by
     simp only[AV.hs,S.hs]at hp;exact hs c p (by simp) hp))
   .trivial
theorem Zo1(st:St w0 I0 nt env mem bs a w){b T0 n v:Nat}{xs:List (List D)}{own:Bool}(hb:mem b= .row T0 n v xs own){x:Value}{i off:Nat}
 (h:∀T xs own,mem b= .row T n v xs own->∃g m c,bs b= .slice (some ⟨g,0,none⟩) m c/\x= .pointer (some ⟨g,i*n+off,none⟩)){ds:List D}(hds:xs[i]? =some ds)(hdl:ds.length=n):
  ∃l:List Value,(∀g m c,bs b= .slice (some ⟨g,0,none⟩) m c->∀(j:Nat)(y:Value),l[j]? =some y->w.cell? ⟨g,i*n+j,none⟩=some y)/\Rel2 (fun y d=>Den w (Stay w0 I0 mem bs w) y d) l ds:=by
 obtain⟨g,m,c,e1,_⟩:=h _ _ _ hb;have hob:=st.obs b;rw[hb]at hob;have hlt:i<xs.length:=(gS hds).1
 cases own with
 |true=>
  obtain⟨ys,g1,g2,g3,g4,g5⟩:=hob;have hcells:=g1.row.cells (g:=g) (by rw[e1];rfl);refine⟨(ys.drop (i*n)).take n,?_,?_,?_⟩
  .intro g' m' c' e' j y hj;rw[e1]at e';simp only[Value.slice.injEq,Option.some.injEq,Addr.mk.injEq,and_true]at e';obtain⟨rfl,_⟩:=e';rw[getElem?_take]at hj;split at hj
   .rw[getElem?_drop]at hj;have:=hcells (i*n+j) y hj
    rwa[Addr.add_lit,Nat.zero_add]at this
   .simp at hj
  .rw[length_take,length_drop,g3,hdl];have:(i+1)*n<=xs.length*n:=Nat.mul_le_mul_right _ hlt;rw[Nat.add_mul,Nat.one_mul]at this;omega
  .intro j d y hd hy;rw[getElem?_take]at hy;split at hy
   .rw[getElem?_drop]at hy;obtain⟨y',h1,h2⟩:=g5 i j ds d hds hd;rw[h1]at hy;obtain rfl:=sI hy;exact h2
   .simp at hy
 |false=>
  have key:∀(vx:Value)(d:D),Den w (Stay w0 I0 mem bs w) vx d->d= .list xs->vx= .slice (some ⟨g,0,none⟩) m c->∃l:List Value,(∀(j:Nat)(y:Value),l[j]? =some y->w.cell? ⟨g,i*n+j,none⟩=some y)/\Rel2 (fun y d=>Den w (Stay w0 I0 mem bs w) y d) l ds:=by
   intro vx d hd hdx hvx
   cases hd with
   |v x hx=>simp at hdx
   |iface _ _ _ _ _=>simp at hdx
   |fn _ _ _ _ _ _ _ _=>simp at hdx
   |map _ _ _ _ _=>simp at hdx
   |nil ad cap=>simp only[D.list.injEq]at hdx;subst hdx;simp at hlt
   |list b' off' cap n' ys cf hI hn hl hc hdd hcap=>
    simp only[D.list.injEq]at hdx;subst hdx;simp only[Value.slice.injEq,Option.some.injEq,Addr.mk.injEq,and_true]at hvx;obtain⟨⟨rfl,rfl⟩,_⟩:=hvx;have hn':n'=n:=by rw[<-hdl];exact(hl ds (mG hds)).symm
    subst hn';refine⟨(range n').map fun j=>cf i j,fun j y hj=>?_,by simp[hdl],fun j d y hd hy=>?_⟩
    .rw[getElem?_map]at hj;by_cases hjn:j<n'
     .rw[getElem?_range hjn]at hj;obtain rfl:=(sI hj).symm;have:=hc i j hlt hjn
      rwa[Nat.zero_add]at this
     .rw[getElem?_eq_none (by simp;omega)]at hj;simp at hj
    .have hjn:j<n':=by rw[<-hdl];exact(gS hd).1
     rw[getElem?_map,getElem?_range hjn]at hy;obtain rfl:=(sI hy).symm;exact hdd i j ds d hds hd
  obtain⟨l,h1,h2⟩:=key _ _ hob rfl e1;refine⟨l,fun g' m' c' e'=>?_,h2⟩;rw[e1]at e';simp only[Value.slice.injEq,Option.some.injEq,Addr.mk.injEq,and_true]at e';obtain⟨rfl,_⟩:=e';exact h1
theorem Zmv{TB:List (Nat×Ty)}(hTB:TBok P TB)(st:St w0 I0 nt env mem bs a w)(hE:∀t,env' t= .junk\/env' t=env t)(hM:∀o,mem' o= .gone\/mem' o=mem o)
 (o:Oper)(T:Nat)(x:Operand)(ho:o.op= .load T x):SoundPlan P w0 I0 nt env mem a w o (planLoad TB env' mem' T x):=by
 obtain⟨h1,h2⟩:=Zc st hE x;unfold planLoad;split
 .rename_i ty hty;obtain⟨i,u,z,hi⟩:=Zr (hTB T ty (Zl hty));split
  .rename_i b off hx;rw[hx]at h1;split
   .rename_i T0 cs hb;have hb':mem b= .var T0 cs:=by
     rcases hM b with h|h
     .rw[h]at hb;simp at hb
     .rw[<-h];exact hb
    obtain⟨blk,e1,e2⟩:=h1;have hob:=st.obs b;rw[hb']at hob;obtain⟨blk',l,e3,_,hrow,hl,hrel⟩:=hob;rw[e1]at e3;simp only[Value.pointer.injEq,Option.some.injEq,Addr.mk.injEq,and_true]at e3;subst e3;have hR:Rel2 (fun y c=>DenC w (Stay w0 I0 mem bs w) bs mem y c) l cs:=⟨hl,hrel⟩;refine ZcG st o T x ho hi blk off ((l.drop off).take ty.size) _ e2 ((hR.drop off).take ty.size) ?_ ?_
    .intro j y hj;rw[hrow.cell?];rw[getElem?_take]at hj;split at hj
     .simpa using hj
     .simp at hj
    .intro c p hc hp;exact st.hmem b p (by rw[hb'];exact List.mem_flatMap.2 ⟨c,List.mem_of_mem_drop (mem_of_mem_take hc),hp⟩)
   .trivial
  .rename_i ds hx;rw[hx]at h1;obtain⟨b,off,_,e,hds⟩:=h1;have hget:∀j:Nat,j<ds.length->∃y,w.cell? ⟨b,off+j,none⟩=some y/\∀d,ds[j]? =some d->Den w (Stay w0 I0 mem bs w) y d:=by
    intro j hj;obtain⟨y,h3,h4⟩:=hds j ds[j] (gE hj);exact⟨y,h3,fun d hd=>by rw[gE hj]at hd;obtain rfl:=sI hd;exact h4⟩
   let l:List Value:=(range ds.length).map fun j=>(w.cell? ⟨b,off+j,none⟩).getD undef;have hl:∀(j:Nat)(y:Value),l[j]? =some y->j<ds.length/\w.cell? ⟨b,off+j,none⟩=some y:=by
    intro j y hj;simp only[l,getElem?_map]at hj;by_cases hlt:j<ds.length
    .rw[getElem?_range hlt]at hj;obtain⟨y',h3,_⟩:=hget j hlt;simp only[Option.map_some,h3,Option.getD_some,Option.some.injEq]at hj;subst hj;exact⟨hlt,h3⟩
    .rw[getElem?_eq_none (by simp;omega)]at hj;simp at hj
   have hR:Rel2 (fun y c=>DenC w (Stay w0 I0 mem bs w) bs mem y c) l (ds.map .d):=by
    refine⟨by simp[l],fun j c y hc hy=>?_⟩;obtain⟨hlt,h3⟩:=hl j y hy;obtain⟨y',h4,h5⟩:=hget j hlt;rw[h3]at h4;obtain rfl:=sI h4;rw[getElem?_map,gE hlt]at hc;obtain rfl:=(sI hc).symm;exact h5 _ (gE hlt)
   rw[List.map_take];refine ZcG st o T x ho hi b off (l.take ty.size) _ e (hR.take ty.size) ?_ ?_
   .intro j y hj;rw[getElem?_take]at hj;split at hj
    .exact(hl j y hj).2
    .simp at hj
   .intro c p hc hp;obtain⟨d,_,rfl⟩:=List.mem_map.1 (mem_of_mem_take hc);simp[C.hs]at hp
  .rename_i b v n i' off hx;rw[hx]at h1;split
   .rename_i T0 n' v' xs own hb;have hb':mem b= .row T0 n' v' xs own:=by
     rcases hM b with h|h
     .rw[h]at hb;simp at hb
     .rw[<-h];exact hb
    cases hc:(Nat.beq v v'&&Nat.beq n n') with
    |false=>trivial
    |true=>
     simp only[Bool.and_eq_true]at hc;obtain rfl:=Nat.eq_of_beq_eq_true hc.1;obtain rfl:=Nat.eq_of_beq_eq_true hc.2;intro r ⟨ds,hds,hdl,hpl⟩;obtain⟨l,hcell,hrl⟩:=Zo1 st hb' h1.2 hds hdl;obtain⟨blk,m,c,e1,e2⟩:=h1.2 _ _ _ hb';have hR:Rel2 (fun y c=>DenC w (Stay w0 I0 mem bs w) bs mem y c) ((l.drop off).take ty.size) (((ds.drop off).take ty.size).map .d):=by
      have h5:Rel2 (fun y c=>DenC w (Stay w0 I0 mem bs w) bs mem y c) l (ds.map .d):=by
       refine⟨by rw[hrl.1];simp,fun j c y hc hy=>?_⟩;rw[getElem?_map]at hc
       cases hd:ds[j]? with
       |none=>rw[hd]at hc;simp at hc
       |some d=>
        rw[hd]at hc;obtain rfl:=(sI hc).symm;exact hrl.2 j d y hd hy
      have h6:=(h5.drop off).take ty.size
      rwa[<-List.map_drop,<-List.map_take]at h6
     have h7:=ZcG st o T x ho hi blk (i'*n+off) ((l.drop off).take ty.size) _ e2 hR (by
      intro j y hj;rw[getElem?_take]at hj;split at hj
      .rw[getElem?_drop]at hj;have:=hcell blk m c e1 (off+j) y hj
       rwa[show i'*n+off+j=i'*n+(off+j) by omega]
      .simp at hj) (by
      intro c p hc hp;obtain⟨d,_,rfl⟩:=List.mem_map.1 hc;simp[C.hs]at hp)
     unfold planIs at hpl;split at hpl
     .rename_i v' hv';rw[hv']at h7;rw[hpl];exact h7
     .exact hpl.elim
   .trivial
  .trivial
 .trivial
def cellsK{β:Type}(v:AV)(k:List C->β)(bad:β):β:=
 match v with
 | .val (.one c)=>k [c]
 | .val (.agg cs)=>k cs
 |_=>bad
noncomputable def planStore(TB:List (Nat×Ty))(env:Env)(mem:Mem)(T:Nat)(x y:Operand):Plan:=
 match look TB T with
 |some ty=>match opd env x with
  | .val (.one (.ptr b off))=>match mem b with
   | .var T0 cs=>cellsK (opd env y) (fun vs=>bif Nat.beq vs.length ty.size&&Nat.ble (off+ty.size) cs.length then forceK (replF cs off vs) fun cs'=>.put .junk b (.var T0 cs') else .bad) .bad
   |_=>.bad
  |_=>.bad
 |none=>.bad
theorem Zds{I:Nat->Prop}{x:Value}{v:AV}{vs:List C}(h:DenAV w I bs mem x v)(hv:v= .val (.agg vs)\/∃c,v= .val (.one c)/\vs= [c]):
  Rel2 (fun y c=>DenC w I bs mem y c) x.cells.toList vs:=by
 rcases hv with rfl|⟨c,rfl,rfl⟩
 .obtain⟨l,e,hl,hr⟩:=h;subst e;exact⟨hl,hr⟩
 .have hfl:flat x=true:=DenC.flat (show DenC _ _ _ _ x c from h);rw[Zgj hfl];exact Rel2.nil.cons h
theorem Zg9{α:Type}{c:α}:∀{vs:List α}{l:List α}{off:Nat},c∈repl l off vs->c∈l\/c∈vs
 | [],l,off,h=>.inl h
 |v::vs,l,off,h=>by
  rcases Zg9 (vs:=vs) h with h1|h1
  .rcases List.mem_or_eq_of_mem_set h1 with h2|h2
   .exact .inl h2
   .exact .inr (by rw[h2];exact List.mem_cons_self)
  .exact .inr (List.mem_cons_of_mem _ h1)
theorem Zjm{TB:List (Nat×Ty)}(hTB:TBok P TB)(st:St w0 I0 nt env mem bs a w)(hE:∀t,env' t= .junk\/env' t=env t)(hM:∀o,mem' o= .gone\/mem' o=mem o)
 (o:Oper)(T:Nat)(x y:Operand)(ho:o.op= .store T x y):SoundPlan P w0 I0 nt env mem a w o (planStore TB env' mem' T x y):=by
 obtain⟨h1,h2⟩:=Zc st hE x;obtain⟨g1,g2⟩:=Zc st hE y;unfold planStore;simp only[Zeh];split
 .rename_i ty hty;obtain⟨i,u,z,hi⟩:=Zr (hTB T ty (Zl hty));split
  .rename_i b off hx;rw[hx]at h1;split
   .rename_i T0 cs hb;have hb':mem b= .var T0 cs:=by
     rcases hM b with h|h
     .rw[h]at hb;simp at hb
     .rw[<-h];exact hb
    have key:∀vs,(opd env' y= .val (.agg vs)\/∃c,opd env' y= .val (.one c)/\vs= [c])->SoundPlan P w0 I0 nt env mem a w o (bif Nat.beq vs.length ty.size&&Nat.ble (off+ty.size) cs.length then forceK (repl cs off vs) fun cs'=>.put .junk b (.var T0 cs') else .bad):=by
     intro vs hvs
     cases hcond:(Nat.beq vs.length ty.size&&Nat.ble (off+ty.size) cs.length) with
     |false=>trivial
     |true=>
      simp only[Bool.and_eq_true]at hcond;have e1:=Nat.eq_of_beq_eq_true hcond.1;have e2:=Nat.le_of_ble_eq_true hcond.2;rw[ZC];have hcells:=Zds g1 hvs;have hvshs:∀c p,c∈vs->p∈c.hs->okh mem p:=by
       intro c p hc hp;refine g2 p ?_;rcases hvs with h|⟨c',h,rfl⟩
       .rw[h];exact List.mem_flatMap.2 ⟨c,hc,hp⟩
       .rw[h];simp only[List.mem_singleton]at hc;subst hc;exact hp
      obtain⟨blk',e3,e4⟩:=h1;have hob:=st.obs b;rw[hb']at hob;obtain⟨blk'',l,e5,e6,hrow,hl,hrel⟩:=hob;rw[e3]at e5;simp only[Value.pointer.injEq,Option.some.injEq,Addr.mk.injEq,and_true]at e5;subst e5;obtain⟨w',hrun,hrow',hbut⟩:=ZeH (off:=off) hi hrow (a.eval y) (by have:=hcells.1;simp at this;omega) ω (fun v hv=>by
       obtain⟨c,_,hd⟩:=hcells.mem hv;exact hd.flat)
      refine Zfg (w':=w') (by simp[execOp,ho,e4,hrun]) ?_;have hbel:Bel w0.K w w':=hbut.bel e6;have hk:∀k,k<w.heap.size->((mem b).mut=true->blk (bs b)≠some k)->w'.heap[k]? =w.heap[k]? :=by
       intro k _ hne;refine hbut.block k (fun e=>?_);subst e;exact hne (by rw[hb'];rfl) (by rw[e3];rfl)
      have hxx:∀c,(Ob.var T0 (repl cs off vs)).mut=true->blk (bs b)=some c->((mem b).mut=true/\blk (bs b)=some c)\/(w.heap.size<=c/\c<w'.heap.size):=fun c _ hc=>.inl ⟨by rw[hb'];rfl,hc⟩;have hv:Turns mem bs b (.var T0 (repl cs off vs)) (bs b):=.inr (.inl ⟨rfl,T0,T0,cs,_,hb',rfl⟩);have K:=st.keeps b (.var T0 (repl cs off vs)) (bs b) hbel hk hxx hv;have hcs:∀c p,c∈cs->p∈c.hs->okh mem p:=fun c p hc hp=>st.hmem b p (by rw[hb'];exact List.mem_flatMap.2 ⟨c,hc,hp⟩);have hall:∀c p,c∈repl cs off vs->p∈c.hs->okh mem p:=by
       intro c p hc hp;rcases Zg9 hc with h|h
       .exact hcs c p h hp
       .exact hvshs c p h hp
      refine⟨upd bs b (bs b),st.update b (.var T0 (repl cs off vs)) (bs b) hbel hk hxx hv rfl ?_ ?_,trivial,fun p hp=>by simp[AV.hs]at hp⟩
      .intro p hp;obtain⟨c,hc,hp⟩:=List.mem_flatMap.1 hp;exact hv.okh rfl (hall c p hc hp)
      .have hR:Rel2 (fun y c=>DenC w (Stay w0 I0 mem bs w) bs mem y c) l cs:=⟨hl,hrel⟩;have hR':=hR.repl off hcells;exact⟨blk',_,e3,e6,hrow',hR'.1,fun j c y hc hy=> K.c (fun p hp=>hall c p (mG hc) hp) (hR'.2 j c y hc hy)⟩
    unfold cellsK;split
    .rename_i c hc;exact key [c] (.inr ⟨c,hc,rfl⟩)
    .rename_i vs hc;exact key vs (.inl hc)
    .trivial
   .trivial
  .trivial
 .trivial
def planFieldAddr(TB:List (Nat×Ty))(env:Env)(mem:Mem)(T:Nat)(x:Operand)(f:Nat):Plan:=
 match look TB T with
 |some ty=>match ty.fields[f]? with
  |some p=>match opd env x with
   | .val (.one (.ptr b off))=>.ret (.val (.one (.ptr b (off+p.1))))
   | .val (.one (.ref ds))=>forceK (ds.drop p.1) fun l=>.ret (.val (.one (.ref l)))
   | .val (.one (.rp b v n i off))=>match mem b with
    | .row _ n' v' _ _=>bif Nat.beq v v'&&Nat.beq n n' then .ret (.val (.one (.rp b v n i (off+p.1)))) else .bad
    |_=>.bad
   |_=>.bad
  |none=>.bad
 |none=>.bad
theorem ZeG{TB:List (Nat×Ty)}(hTB:TBok P TB)(st:St w0 I0 nt env mem bs a w)(hE:∀t,env' t= .junk\/env' t=env t)(hM:∀o,mem' o= .gone\/mem' o=mem o)
 (o:Oper)(T f:Nat)(x:Operand)(ho:o.op= .fieldAddr T x f):SoundPlan P w0 I0 nt env mem a w o (planFieldAddr TB env' mem' T x f):=by
 obtain⟨h1,h2⟩:=Zc st hE x;unfold planFieldAddr;split
 .rename_i ty hty;obtain⟨i,u,z,hi⟩:=Zr (hTB T ty (Zl hty));split
  .rename_i p hp;split
   .rename_i b off hx;rw[hx]at h1 h2;obtain⟨blk,e1,e2⟩:=h1;refine Za (.pointer (some ⟨blk,off+p.1,none⟩)) (by simp[execOp,ho,e2,hi.run_field (off:=p.1) (sz:=p.2) hp]) (Zf st ⟨blk,e1,rfl⟩ h2)
   .rename_i ds hx;rw[hx]at h1;rw[ZC];obtain⟨b,off,hI,e,hds⟩:=h1;refine Za (.pointer (some ⟨b,off+p.1,none⟩)) (by simp[execOp,ho,e,hi.run_field (off:=p.1) (sz:=p.2) hp]) (Zf st ⟨b,off+p.1,hI,rfl,fun j d hj=>?_⟩ (fun q hq=>by simp[AV.hs,S.hs,C.hs]at hq));have:=hds (p.1+j) d (by simpa using hj)
    rwa[<-Nat.add_assoc]at this
   .rename_i b v n i' off hx;rw[hx]at h1 h2;split
    .rename_i T0 n' v' xs own hb;have hb':mem b= .row T0 n' v' xs own:=by
      rcases hM b with h|h
      .rw[h]at hb;simp at hb
      .rw[<-h];exact hb
     cases hc:(Nat.beq v v'&&Nat.beq n n') with
     |false=>trivial
     |true=>
      simp only[Bool.and_eq_true]at hc;obtain rfl:=Nat.eq_of_beq_eq_true hc.1;obtain rfl:=Nat.eq_of_beq_eq_true hc.2;obtain⟨blk,m,c,e1,e2⟩:=h1.2 _ _ _ hb';exact Za (.pointer (some ⟨blk,i'*n+off+p.1,none⟩)) (by simp[execOp,ho,e2,hi.run_field (off:=p.1) (sz:=p.2) hp]) (Zf st ⟨rfl,fun T xs own hm=>⟨blk,m,c,e1,by rw[Nat.add_assoc]⟩⟩ h2)
    .trivial
   .trivial
  .trivial
 .trivial
def partsK{β:Type}(env:Env):List (Nat×Operand)->(List (Nat×List C)->β)->β->β
 | [],k,_=>k []
 |p::r,k,bad=>cellsK (opd env p.2) (fun vs=>partsK env r (fun l=>k ((p.1,vs)::l)) bad) bad
noncomputable def planBuildAt(env:Env)(ty:Ty)(place:Nat->Option (Nat×Nat))(parts:List (Nat×Operand)):Plan:=
 partsK env parts (fun ps=>match fillL place ty.zero ps with
  |some cs=>forceK cs fun l=>.ret (.val (.agg l))
  |none=>.bad) .bad
noncomputable def planBuild(TB:List (Nat×Ty))(env:Env)(T:Nat)(parts:List (Nat×Operand)):Plan:=
 match look TB T with
 |some ty=>match ty.fields with
  | []=>match ty.arr with
   |some p=>match look TB p.2 with
    |some te=>planBuildAt env ty (fun i=>some (i*te.size,te.size)) parts
    |none=>.bad
   |none=>.bad
  |_=>planBuildAt env ty (fun i=>ty.fields[i]?) parts
 |none=>.bad
def PartsIs(w0:Base)(I0:Nat->Prop)(mem:Mem)(bs:Bs)(a:Act)(w:World)(parts:List (Nat×Operand))(ps:List (Nat×List C)):Prop:=
 Rel2 (fun (p:Nat×Value) (q:Nat×List C)=>p.1=q.1/\Rel2 (fun y c=>DenC w (Stay w0 I0 mem bs w) bs mem y c) p.2.cells.toList q.2) (parts.map fun p=>(p.1,a.eval p.2)) ps/\
   ∀q c p,q∈ps->c∈q.2->p∈c.hs->okh mem p
theorem ZeL{β:Type}(st:St w0 I0 nt env mem bs a w)(hE:∀t,env' t= .junk\/env' t=env t):∀(parts:List (Nat×Operand))(k:List (Nat×List C)->β)(bad:β),
  (∃ps,partsK env' parts k bad=k ps/\PartsIs w0 I0 mem bs a w parts ps)\/partsK env' parts k bad=bad
 | [],k,bad=>.inl ⟨[],rfl,Rel2.nil,fun q c p h=>by simp at h⟩
 |p::r,k,bad=>by
  obtain⟨h1,h2⟩:=Zc st hE p.2;have step:∀vs,(opd env' p.2= .val (.agg vs)\/∃c,opd env' p.2= .val (.one c)/\vs= [c])->
    (∃ps,partsK env' r (fun l=>k ((p.1,vs)::l)) bad=k ps/\PartsIs w0 I0 mem bs a w (p::r) ps)\/partsK env' r (fun l=>k ((p.1,vs)::l)) bad=bad:=by
   intro vs hvs;rcases ZeL st hE r (fun l=>k ((p.1,vs)::l)) bad with ⟨ps,e1,e2,e3⟩|e
   .refine .inl ⟨(p.1,vs)::ps,e1,e2.cons ⟨rfl,Zds h1 hvs⟩,fun q c p' hq hc hp=>?_⟩;rcases List.mem_cons.1 hq with rfl|hq
    .refine h2 p' ?_;rcases hvs with h|⟨c',h,h3⟩
     .rw[h];exact List.mem_flatMap.2 ⟨c,hc,hp⟩
     .rw[h];simp only at hc;rw[h3]at hc;simp only[List.mem_singleton]at hc;subst hc;exact hp
    .exact e3 q c p' hq hc hp
   .exact .inr e
  simp only[partsK];unfold cellsK;split
  .rename_i c hc;exact step [c] (.inr ⟨c,hc,rfl⟩)
  .rename_i vs hc;exact step vs (.inl hc)
  .exact .inr rfl
theorem Ziq{place:Nat->Option (Nat×Nat)}{c:C}:∀{ps:List (Nat×List C)}{cs out:List C},fillL place cs ps=some out->c∈out->c∈cs\/∃q,q∈ps/\c∈q.2
 | [],cs,out,h,hc=>by simp only[fillL,Option.some.injEq]at h;subst h;exact .inl hc
 |(i,v)::ps,cs,out,h,hc=>by
  simp only[fillL,Zeh]at h
  cases hp:place i with
  |none=>simp[hp]at h
  |some q=>
   obtain⟨off,size⟩:=q;simp only[hp]at h
   cases hcond:(!Nat.beq v.length size|| !Nat.ble (off+v.length) cs.length) with
   |true=>rw[hcond]at h;simp at h
   |false=>
    rw[hcond]at h;rcases Ziq (ps:=ps) h hc with h1|⟨q,hq,h1⟩
    .rcases Zg9 h1 with h2|h2
     .exact .inl h2
     .exact .inr ⟨(i,v),List.mem_cons_self,h2⟩
    .exact .inr ⟨q,List.mem_cons_of_mem _ hq,h1⟩
theorem Zum{t:Nat}{ty:Ty}{i:TypeInfo}{u:TypeDesc}{z:Value}(h:TyIs P t ty i u z)(hne:ty.fields≠ [])(parts:List (Nat×Value)):P.built t parts=Instr.fill (fun j=>ty.fields[j]?) z.cells parts:=by
 have hfs:=h.fs;unfold fieldsD at hfs;unfold Program.built;rw[h.info,h.und];split at hfs
 .simp only[h.hz,hfs];congr 1;funext j;simp
 .obtain e:=sI hfs;exact absurd e.symm hne
theorem Zc5{t:Nat}{ty:Ty}{i:TypeInfo}{u:TypeDesc}{z:Value}(hi:TyIs P t ty i u z)(place:Nat->Option (Nat×Nat))(hb:∀ps,P.built t ps=Instr.fill place z.cells ps)(st:St w0 I0 nt env mem bs a w)(hE:∀t,env' t= .junk\/env' t=env t)
 (o:Oper)(parts:Array (Nat×Operand))(ho:o.op= .build t parts):SoundPlan P w0 I0 nt env mem a w o (planBuildAt env' ty place parts.toList):=by
 unfold planBuildAt;rcases ZeL st hE parts.toList (fun ps=>match fillL place ty.zero ps with
  |some cs=>forceK cs fun l=>Plan.ret (.val (.agg l))
  |none=>Plan.bad) Plan.bad with ⟨ps,e1,e2,e3⟩|e
 .rw[e1];split
  .rename_i cs hcs;rw[ZC];obtain⟨res,hres,hrel⟩:=ZlN (R:=fun y c=>DenC w (Stay w0 I0 mem bs w) bs mem y c) place _ ps z.cells ty.zero cs e2 (hi.zrel w _ bs mem) hcs;have hb:P.built t (parts.map fun (i,x)=>(i,a.eval x)).toList=some res:=by
    rw[hb,<-hres];congr 1;simp
   refine Za (.agg res) (by simp only[execOp,ho,Sem.run_bind,run_build w t _ res hb,Result.andThen_ok];rfl) (Zf st ⟨res.toList,by simp,hrel.1,hrel.2⟩ ?_);intro p hp;obtain⟨c,hc,hp⟩:=List.mem_flatMap.1 hp;rcases Ziq hcs hc with h|⟨q,hq,h⟩
   .rw[hi.zero]at h;obtain⟨x,_,rfl⟩:=List.mem_map.1 h;simp[C.hs]at hp
   .exact e3 q c p hq h hp
  .trivial
 .rw[e];trivial
theorem ZrC{t:Nat}{ty:Ty}{i:TypeInfo}{u:TypeDesc}{z:Value}(h:TyIs P t ty i u z){n e:Nat}(he:ty.arr=some (n,e)){te:Ty}{ei:TypeInfo}{eu:TypeDesc}{ez:Value}(hei:TyIs P e te ei eu ez)(parts:List (Nat×Value)):P.built t parts=Instr.fill (fun i=>some (i*te.size,te.size)) z.cells parts:=by
 have hu:=h.array he;unfold Program.built;rw[h.info,hu];simp only[h.hz,hei.info,hei.size]
theorem Zjt{TB:List (Nat×Ty)}(hTB:TBok P TB)(st:St w0 I0 nt env mem bs a w)(hE:∀t,env' t= .junk\/env' t=env t)
 (o:Oper)(T:Nat)(parts:Array (Nat×Operand))(ho:o.op= .build T parts):SoundPlan P w0 I0 nt env mem a w o (planBuild TB env' T parts.toList):=by
 unfold planBuild;split
 .rename_i ty hty;obtain⟨i,u,z,hi⟩:=Zr (hTB T ty (Zl hty));split
  .split
   .rename_i p hp;split
    .rename_i te hte;obtain⟨ei,eu,ez,hei⟩:=Zr (hTB p.2 te (Zl hte));exact Zc5 hi _ (ZrC hi (n:=p.1) (e:=p.2) hp hei) st hE o parts ho
    .trivial
   .trivial
  .rename_i hne;exact Zc5 hi _ (Zum hi (fun e=>hne e)) st hE o parts ho
 .trivial
def planField(TB:List (Nat×Ty))(env:Env)(T:Nat)(x:Operand)(f:Nat):Plan:=
 match look TB T with
 |some ty=>match ty.fields[f]? with
  |some p=>match ty.ftypes[f]? with
   |some ft=>match look TB ft with
    |some fty=>match opd env x with
     | .val (.agg cs)=>bif Nat.ble (p.1+fty.size) cs.length then planCells fty ((cs.drop p.1).take fty.size) else .bad
     |_=>.bad
    |none=>.bad
   |none=>.bad
  |none=>.bad
 |none=>.bad
theorem Zjo{TB:List (Nat×Ty)}(hTB:TBok P TB)(st:St w0 I0 nt env mem bs a w)(hE:∀t,env' t= .junk\/env' t=env t)
 (o:Oper)(T f:Nat)(x:Operand)(ho:o.op= .field T x f):SoundPlan P w0 I0 nt env mem a w o (planField TB env' T x f):=by
 obtain⟨h1,h2⟩:=Zc st hE x;unfold planField;split
 .rename_i ty hty;obtain⟨i,u,z,hi⟩:=Zr (hTB T ty (Zl hty));split
  .rename_i p hp;split
   .rename_i ft hft;split
    .rename_i fty hfty;obtain⟨fi,fu,fz,hfi⟩:=Zr (hTB ft fty (Zl hfty));split
     .rename_i cs hcs;rw[hcs]at h1 h2;obtain⟨l,e,hl,hr⟩:=h1
      cases hz':Nat.ble (p.1+fty.size) cs.length with
      |false=>trivial
      |true=>
       have hz:p.1+fty.size<=l.length:=by rw[hl];exact Nat.le_of_ble_eq_true hz'
       simp only[cond_true];unfold planCells;rw[ZC]
       cases hb:Nat.beq ((cs.drop p.1).take fty.size).length fty.size with
       |false=>trivial
       |true=>
        have hR:Rel2 (fun y c=>DenC w (Stay w0 I0 mem bs w) bs mem y c) ((l.drop p.1).take fty.size) ((cs.drop p.1).take fty.size):=(Rel2.drop ⟨hl,hr⟩ p.1).take fty.size;have hhs:∀c q,c∈(cs.drop p.1).take fty.size->q∈c.hs->okh mem q:=fun c q hc hq=>h2 q (List.mem_flatMap.2 ⟨c,List.mem_of_mem_drop (mem_of_mem_take hc),hq⟩);simp only[cond_true];obtain⟨v,hv,hagg⟩:=hi.run_fieldV (off:=p.1) (sz:=p.2) hp hft hfi l hz w;have hrun:(execOp a.eval o).run P w= .ok (.value v) w:=by simp[execOp,ho,e,hv]
        split
        .rename_i ha;rw[ha]at hagg;simp only[if_true]at hagg;exact Za v hrun (Zf st ⟨_,hagg,hR.1,hR.2⟩ (fun q hq=>by
          simp only[AV.hs,S.hs]at hq;obtain⟨c,h3,h4⟩:=List.mem_flatMap.1 hq;exact hhs c q h3 h4))
        .rename_i ha;rw[ha]at hagg;simp only[Bool.false_eq_true,if_false]at hagg;split
         .rename_i c hc;rw[hagg,hc]at hR;exact Za v hrun (Zf st (hR.2 0 c v rfl rfl) (fun q hq=>by
           simp only[AV.hs,S.hs]at hq;exact hhs c q (by rw[hc];simp) hq))
         .trivial
     .trivial
    .trivial
   .trivial
  .trivial
 .trivial
def planExtract(env:Env)(x:Operand)(i:Nat):Plan:=
 match opd env x with
 | .tup l=>match l[i]? with
  |some s=>.ret (.val s)
  |none=>.bad
 |_=>.bad
theorem ZgC(st:St w0 I0 nt env mem bs a w)(hE:∀t,env' t= .junk\/env' t=env t)(o:Oper)(x:Operand)(i:Nat)(ho:o.op= .extract x i):SoundPlan P w0 I0 nt env mem a w o (planExtract env' x i):=by
 obtain⟨h1,h2⟩:=Zc st hE x;unfold planExtract;split
 .rename_i l hl;rw[hl]at h1 h2;obtain⟨vs,e,hlen,hr⟩:=h1;split
  .rename_i s hs;obtain⟨y,hy,hd⟩:=Rel2.get (R:=fun y s=>DenS w (Stay w0 I0 mem bs w) bs mem y s) ⟨hlen,hr⟩ hs;refine Za y (by simp[execOp,ho,e,Instr.extract,hy]) (Zf st hd (fun p hp=>h2 p (List.mem_flatMap.2 ⟨s,mG hs,hp⟩)))
  .trivial
 .trivial
end
section
variable{P:Program}{G:World->Prop}{w0:Base}{I0:Nat->Prop}{nt:Shape}{env env':Env}{mem mem':Mem}{bs:Bs}{a:Act}{w:World}
def valsK{β:Type}:List C->(List Value->β)->β->β
 | [],k,_=>k []
 |c::cs,k,bad=>match c with
  | .d (.v x)=>valsK cs (fun l=>k (x::l)) bad
  |_=>bad
def valK{β:Type}(v:AV)(k:Value->β)(bad:β):β:=
 match v with
 | .val (.one (.d (.v x)))=>k x
 | .val (.agg cs)=>valsK cs (fun l=>k (.agg ⟨l⟩)) bad
 |_=>bad
theorem ZfC{β:Type}:∀(cs:List C)(k:List Value->β)(bad:β),(∃l,valsK cs k bad=k l/\∀(w:World)(I:Nat->Prop)(bs:Bs)(mem:Mem)(xs:List Value),Rel2 (fun y c=>DenC w I bs mem y c) xs cs->xs=l)\/valsK cs k bad=bad
 | [],k,bad=>.inl ⟨[],rfl,fun w I bs mem xs h=>eq_nil_of_length_eq_zero h.1⟩
 |c::cs,k,bad=>by
  simp only[valsK];split
  .rename_i x;rcases ZfC cs (fun l=>k (x::l)) bad with ⟨l,e,h⟩|e
   .refine .inl ⟨x::l,e,fun w I bs mem xs hx=>?_⟩
    cases xs with
    |nil=>have:=hx.1;simp at this
    |cons y ys=>
     obtain⟨h1,h2⟩:=hx.of_cons;have h1':Den w I y (.v x):=h1;rw[h w I bs mem ys h2];cases h1';rfl
   .exact .inr e
  .exact .inr rfl
theorem Zb2{β:Type}(v:AV)(k:Value->β)(bad:β):(∃x,valK v k bad=k x/\∀(w:World)(I:Nat->Prop)(bs:Bs)(mem:Mem)(y:Value),DenAV w I bs mem y v->y=x)\/valK v k bad=bad:=by
 unfold valK;split
 .rename_i x;exact .inl ⟨x,rfl,fun w I bs mem y h=>Zj h⟩
 .rename_i cs;rcases ZfC cs (fun l=>k (.agg ⟨l⟩)) bad with ⟨l,e,h⟩|e
  .refine .inl ⟨.agg ⟨l⟩,e,fun w I bs mem y hy=>?_⟩;obtain⟨xs,e1,hl,hr⟩:=hy;rw[e1,h w I bs mem xs ⟨hl,hr⟩]
  .exact .inr e
 .exact .inr rfl
def binInt(op:BinOp)(k:IntKind)(m n:Int):Option Value:=
 match op with
 | .add=>some (.int k (k.wrap (m+n)))
 | .sub=>some (.int k (k.wrap (m-n)))
 | .mul=>some (.int k (k.wrap (m*n)))
 | .eql=>some (.bool (m==n))
 | .neq=>some (.bool (m !=n))
 | .lss=>some (.bool (decide (m<n)))
 | .leq=>some (.bool (decide (m<=n)))
 | .gtr=>some (.bool (decide (m >n)))
 | .geq=>some (.bool (decide (m>=n)))
 |_=>none
def askBin(P:Program)(op:BinOp)(T:TypeId)(x y:Operand)(vx vy:AV):Plan:=
 valK vx (fun p=>valK vy (fun q=>.ask fun r=>∃v,r=one v/\flat v=true/\∀w,(do eqGuard op T x y p q;binOp op T p q:Sem Value).run P w= .ok v w) .bad) .bad
def planBin(P:Program)(env:Env)(op:BinOp)(T:TypeId)(x y:Operand):Plan:=
 match opd env x,opd env y with
 | .val (.one (.d (.v (.int k m)))),.val (.one (.d (.v (.int k' n))))=>match decEq k k' with
  |isTrue _=>match binInt op k m n with
   |some v=>.ret (one v)
   |none=>askBin P op T x y (opd env x) (opd env y)
  |isFalse _=>askBin P op T x y (opd env x) (opd env y)
 | .val (.one (.d (.list xs))),.val (.one (.d (.v (.slice none 0 0))))=>match op with
  | .eql=>.ask fun r=>(∃e,P.underlying T=some (.slice e))/\xs≠ []/\r=one (.bool false)
  | .neq=>.ask fun r=>(∃e,P.underlying T=some (.slice e))/\xs≠ []/\r=one (.bool true)
  |_=>.bad
 | .val (.one (.ref _)),.val (.one (.d (.v (.pointer none))))=>match op with
  | .eql=>.ask fun r=>P.underlying T=some (.pointer (P.pointee T))/\r=one (.bool false)
  | .neq=>.ask fun r=>P.underlying T=some (.pointer (P.pointee T))/\r=one (.bool true)
  |_=>.bad
 |vx,vy=>askBin P op T x y vx vy
theorem ZlW{w:World}{I:Nat->Prop}{v:Value}{xs:List (List D)}(h:Den w I v (.list xs))(hx:xs≠ []):∃b off cap,v= .slice (some ⟨b,off,none⟩) xs.length cap:=by
 cases h with
 |nil _ _=>exact absurd rfl hx
 |list b off cap n _ c _ _ _ _ _ _=>exact⟨b,off,cap,rfl⟩
theorem Zb5(st:St w0 I0 nt env mem bs a w)(o:Oper)(op:BinOp)(T yT:TypeId)(x y:Operand)(ho:o.op= .binOp op T x y yT)(vx vy:AV)
 (hx:DenAV w (Stay w0 I0 mem bs w) bs mem (a.eval x) vx)(hy:DenAV w (Stay w0 I0 mem bs w) bs mem (a.eval y) vy):SoundPlan P w0 I0 nt env mem a w o (askBin P op T x y vx vy):=by
 unfold askBin;rcases Zb2 vx (fun p=>valK vy (fun q=>Plan.ask fun r=>∃v,r=one v/\flat v=true/\∀w,(do eqGuard op T x y p q;binOp op T p q:Sem Value).run P w= .ok v w) .bad) .bad with ⟨p,e1,h1⟩|e1
 .rw[e1];rcases Zb2 vy (fun q=>Plan.ask fun r=>∃v,r=one v/\flat v=true/\∀w,(do eqGuard op T x y p q;binOp op T p q:Sem Value).run P w= .ok v w) .bad with ⟨q,e2,h2⟩|e2
  .rw[e2];intro r ⟨v,hr,hf,hrun⟩;subst hr;have ex:=h1 _ _ _ _ _ hx;have ey:=h2 _ _ _ _ _ hy;refine Za v ?_ (Zf st (Den.v v hf) (fun p hp=>by simp[one,AV.hs,S.hs,C.hs]at hp));have:=hrun w;simp only[execOp,ho,ex,ey];simp only[Sem.run_bind,Sem.run_pure]at this⊢;rw[this];rfl
  .rw[e2];trivial
 .rw[e1];trivial
theorem Zoz(st:St w0 I0 nt env mem bs a w)(hE:∀t,env' t= .junk\/env' t=env t)(o:Oper)(op:BinOp)(T yT:TypeId)(x y:Operand)(ho:o.op= .binOp op T x y yT):SoundPlan P w0 I0 nt env mem a w o (planBin P env' op T x y):=by
 obtain⟨h1,_⟩:=Zc st hE x;obtain⟨g1,_⟩:=Zc st hE y;unfold planBin;split
 .rename_i k m k' n e1 e2;split
  .rename_i hk _;subst hk;split
   .rename_i v hv;rw[e1]at h1;rw[e2]at g1;have ex:=Zj h1;have ey:=Zj g1;have hf:flat v=true:=by unfold binInt at hv;split at hv<;>first|(obtain rfl:=(sI hv).symm;rfl)|simp at hv
    refine Za v ?_ (Zf st (Den.v v hf) (fun p hp=>by simp[one,AV.hs,S.hs,C.hs]at hp));have hg:∀w,(eqGuard op T x y (.int k m) (.int k n)).run P w= .ok () w:=by intro w;unfold eqGuard;cases op<;>rfl
    have hb:∀w,(binOp op T (.int k m) (.int k n)).run P w= .ok v w:=by
     intro w;unfold binInt at hv;split at hv<;>first
      |(obtain rfl:=(sI hv).symm;simp[binOp,Op.intArith,Op.intCmp])
      |simp at hv
    simp only[execOp,ho,ex,ey,Sem.run_bind,hg,hb,Result.andThen_ok,Sem.run_pure]
   .exact Zb5 st o op T yT x y ho _ _ h1 g1
  .exact Zb5 st o op T yT x y ho _ _ h1 g1
 .rename_i xs e1 e2;rw[e1]at h1;rw[e2]at g1;have ey:=Zj g1;split
  .intro r ⟨⟨e,hT⟩,hne,hr⟩;subst hr;obtain⟨b,off,cap,ex⟩:=ZlW h1 hne;refine Za _ ?_ (Zf st (Den.v _ rfl) (fun p hp=>by simp[one,AV.hs,S.hs,C.hs]at hp));simp[execOp,ho,ex,ey,eqGuard,binOp,run_equal_slice_nil w T e _ _ _ hT]
  .intro r ⟨⟨e,hT⟩,hne,hr⟩;subst hr;obtain⟨b,off,cap,ex⟩:=ZlW h1 hne;refine Za _ ?_ (Zf st (Den.v _ rfl) (fun p hp=>by simp[one,AV.hs,S.hs,C.hs]at hp));simp[execOp,ho,ex,ey,eqGuard,binOp,run_equal_slice_nil w T e _ _ _ hT]
  .trivial
 .rename_i cs e1 e2;rw[e1]at h1;rw[e2]at g1;have ey:=Zj g1;obtain⟨b,off,_,ex,_⟩:=h1;split
  .intro r ⟨hT,hr⟩;subst hr;refine Za _ ?_ (Zf st (Den.v _ rfl) (fun p hp=>by simp[one,AV.hs,S.hs,C.hs]at hp));simp[execOp,ho,ex,ey,eqGuard,run_eql_pointer_nil w T _ hT]
  .intro r ⟨hT,hr⟩;subst hr;refine Za _ ?_ (Zf st (Den.v _ rfl) (fun p hp=>by simp[one,AV.hs,S.hs,C.hs]at hp));simp[execOp,ho,ex,ey,eqGuard,run_neq_pointer_nil w T _ hT]
  .trivial
 .exact Zb5 st o op T yT x y ho _ _ h1 g1
def planUn(env:Env)(op:UnOp)(x:Operand):Plan:=
 match opd env x with
 | .val (.one (.d (.v (.bool b))))=>match op with
  | .not=>.ret (one (.bool (!b)))
  |_=>.bad
 | .val (.one (.d (.v (.int k n))))=>match op with
  | .neg=>.ret (one (.int k (k.wrap (0-n))))
  |_=>.bad
 |_=>.bad
theorem Zsr(st:St w0 I0 nt env mem bs a w)(hE:∀t,env' t= .junk\/env' t=env t)(o:Oper)(op:UnOp)(T:TypeId)(x:Operand)(ho:o.op= .unOp op T x):SoundPlan P w0 I0 nt env mem a w o (planUn env' op x):=by
 obtain⟨h1,_⟩:=Zc st hE x;unfold planUn;split
 .rename_i b hb;rw[hb]at h1;have e:=Zj h1;split
  .exact Za (.bool (!b)) (by simp[execOp,ho,e,Op.unary]) (Zf st (Den.v _ rfl) (fun p hp=>by simp[one,AV.hs,S.hs,C.hs]at hp))
  .trivial
 .rename_i k n hb;rw[hb]at h1;have e:=Zj h1;split
  .exact Za (.int k (k.wrap (0-n))) (by simp[execOp,ho,e,Op.unary,Op.intArith]) (Zf st (Den.v _ rfl) (fun p hp=>by simp[one,AV.hs,S.hs,C.hs]at hp))
  .trivial
 .trivial
def listK{β:Type}(mem:Mem)(v:AV)(k:List (List D)->β)(bad:β):β:=
 match v with
 | .val (.one (.d (.list xs)))=>k xs
 | .val (.one (.full xs))=>k xs
 | .val (.one (.row o v))=>match mem o with
  | .row _ _ v' xs false=>bif Nat.beq v v' then k xs else bad
  |_=>bad
 | .val (.one (.d (.v (.slice none 0 0))))=>k []
 |_=>bad
theorem ZaY{β:Type}(st:St w0 I0 nt env mem bs a w)(hM:∀o,mem' o= .gone\/mem' o=mem o)(v:AV)(k:List (List D)->β)(bad:β):
  (∃xs,listK mem' v k bad=k xs/\∀x,DenAV w (Stay w0 I0 mem bs w) bs mem x v->Den w (Stay w0 I0 mem bs w) x (.list xs))\/listK mem' v k bad=bad:=by
 unfold listK;split
 .rename_i xs;exact .inl ⟨xs,rfl,fun x h=>h⟩
 .rename_i xs;exact .inl ⟨xs,rfl,fun x h=>h.1⟩
 .rename_i o v;split
  .rename_i T n v' xs ho;have ho':mem o= .row T n v' xs false:=by
    rcases hM o with h|h
    .rw[h]at ho;simp at ho
    .rw[<-h];exact ho
   cases e:Nat.beq v v' with
   |false=>exact .inr rfl
   |true=>
    obtain rfl:=Nat.eq_of_beq_eq_true e;refine .inl ⟨xs,rfl,fun x h=>?_⟩;have hx:x=bs o:=h.2 _ _ _ _ ho';have:=st.obs o;rw[ho']at this;rw[hx];exact this
  .exact .inr rfl
 .refine .inl ⟨[],rfl,fun x h=>?_⟩;rw[Zj h];exact .nil none 0
 .exact .inr rfl
def planLen(TB:List (Nat×Ty))(env:Env)(mem:Mem)(ts:List TypeId)(xs:List Operand):Plan:=
 match xs,ts with
 | [x],t::_=>match look TB t with
  |some ty=>match ty.str with
   |true=>match opd env x with
    | .val (.one (.d (.v (.string s))))=>.ret (one (.int .i64 (s.size:Int)))
    |_=>.bad
   |false=>match ty.elem with
    |some _=>match opd env x with
     | .val (.one (.row o v))=>match mem o with
      | .row _ _ v' xs _=>bif Nat.beq v v' then .ret (one (.int .i64 (xs.length:Int))) else .bad
      |_=>.bad
     |v=>listK mem v (fun xs=>.ret (one (.int .i64 (xs.length:Int)))) .bad
    |none=>.bad
  |none=>.bad
 |_,_=>.bad
theorem Zfi{I:Nat->Prop}{x:Value}{xs:List (List D)}(h:Den w I x (.list xs)):∃a c,x= .slice a xs.length c:=by cases h<;>exact⟨_,_,rfl⟩
theorem Z1{o:Oper}{b:Builtin}{xs:Array Operand}{ts:Array TypeId}{w w':World}{v:Value}(ho:o.op= .call { callee:=.builtin b,args:=xs,argTypes:=ts })
 (h:(builtin b ts o.type (xs.map fun| .const _=>true|_=>false) (xs.map a.eval)).run P w= .ok (.value v) w'):(execOp a.eval o).run P w= .ok (.value v) w':=by
 simp only[execOp,ho,resolve,invoke,Sem.run_bind,Sem.run_pure,Result.andThen_ok];exact h
theorem Zc6{t e:Nat}{ts:List TypeId}{ty:TypeId}{x:Value}{ad:Option Addr}{n c:Nat}(hu:P.underlying t=some (.slice e))(hx:x= .slice ad n c)(w:World):(Builtin.len_ ⟨t::ts⟩ ty #[x]).run P w= .ok (.int .i64 (n:Int)) w:=by
 subst hx;simp[Builtin.len_,run_underlying hu,goInt]
theorem Zox{TB:List (Nat×Ty)}(hTB:TBok P TB)(st:St w0 I0 nt env mem bs a w)(hE:∀t,env' t= .junk\/env' t=env t)(hM:∀o,mem' o= .gone\/mem' o=mem o)
 (o:Oper)(xs:List Operand)(ts:List TypeId)(ho:o.op= .call { callee:=.builtin .len,args:=⟨xs⟩,argTypes:=⟨ts⟩ }):SoundPlan P w0 I0 nt env mem a w o (planLen TB env' mem' ts xs):=by
 unfold planLen;split
 .rename_i x t ts';obtain⟨h1,_⟩:=Zc st hE x;have fin:∀n:Nat,(Builtin.len_ ⟨t::ts'⟩ o.type #[a.eval x]).run P w= .ok (.int .i64 (n:Int)) w->SoundPlan P w0 I0 nt env mem a w o (.ret (one (.int .i64 (n:Int)))):=by
   intro n hn;refine Za (.int .i64 (n:Int)) (Z1 ho ?_) (Zf st (Den.v _ rfl) (fun p hp=>by simp[one,AV.hs,S.hs,C.hs]at hp));simp only[builtin,Sem.run_bind,map_toArray,map_cons,map_nil,hn,Result.andThen_ok,Sem.run_pure]
  split
  .rename_i ty hty;obtain⟨i,u,z,hi⟩:=Zr (hTB t ty (Zl hty));split
   .rename_i hstr;have hu:=hi.string hstr;split
    .rename_i s hs;rw[hs]at h1;exact fin s.size (by rw[Zj h1];simp[Builtin.len_,run_underlying hu,goInt])
    .trivial
   .split
    .rename_i e he;have hu:=hi.slice he;split
     .rename_i oo v hv;rw[hv]at h1;split
      .rename_i T n v' xs own hrow;have ho':mem oo= .row T n v' xs own:=by
        rcases hM oo with h|h
        .rw[h]at hrow;simp at hrow
        .rw[<-h];exact hrow
       cases hb:Nat.beq v v' with
       |false=>trivial
       |true=>
        obtain rfl:=Nat.eq_of_beq_eq_true hb;have hx:a.eval x=bs oo:=h1.2 _ _ _ _ ho';have hob:=st.obs oo;rw[ho']at hob;have hsl:∃ad c,a.eval x= .slice ad xs.length c:=by
         rw[hx]
         cases own with
         |true=>
          obtain⟨ys,g1,_⟩:=hob;rcases g1.2 with ⟨g2,g3⟩|⟨g,cap,cur,g2,_⟩
          .exact⟨none,0,by rw[g2,g3]⟩
          .exact⟨_,_,g2⟩
         |false=>exact Zfi (show Den w _ (bs oo) (.list xs) from hob)
        obtain⟨ad,c,hsl⟩:=hsl;exact fin xs.length (Zc6 hu hsl w)
      .trivial
     .rcases ZaY st hM (opd env' x) (fun xs=>Plan.ret (one (.int .i64 (xs.length:Int)))) Plan.bad with ⟨xs,e1,h2⟩|e1
      .rw[e1];obtain⟨ad,c,hsl⟩:=Zfi (h2 _ h1);exact fin xs.length (Zc6 hu hsl w)
      .rw[e1];trivial
    .trivial
  .trivial
 .trivial
def planIndexAddr(TB:List (Nat×Ty))(env:Env)(mem:Mem)(T:TypeId)(x i:Operand):Plan:=
 match look TB T with
 |some ty=>match ty.elem with
  |some e=>match look TB e with
   |some te=>match opd env i with
    | .val (.one (.d (.v (.int _ m))))=>listK mem (opd env x) (fun xs=>.ask fun r=>∃cs,0<=m/\xs[m.toNat]? =some cs/\cs.length=te.size/\r= .val (.one (.ref cs))) .bad
    |_=>.bad
   |none=>.bad
  |none=>.bad
 |none=>.bad
theorem ZeF{TB:List (Nat×Ty)}(hTB:TBok P TB)(st:St w0 I0 nt env mem bs a w)(hE:∀t,env' t= .junk\/env' t=env t)(hM:∀o,mem' o= .gone\/mem' o=mem o)
 (o:Oper)(T:TypeId)(x i:Operand)(ho:o.op= .indexAddr T x i):SoundPlan P w0 I0 nt env mem a w o (planIndexAddr TB env' mem' T x i):=by
 obtain⟨h1,_⟩:=Zc st hE x;obtain⟨g1,_⟩:=Zc st hE i;unfold planIndexAddr;split
 .rename_i ty hty;obtain⟨ti,tu,tz,hi⟩:=Zr (hTB T ty (Zl hty));split
  .rename_i e he;split
   .rename_i te hte;obtain⟨ei,eu,ez,hei⟩:=Zr (hTB e te (Zl hte));split
    .rename_i k m hm;rw[hm]at g1;have em:=Zj g1;rcases ZaY st hM (opd env' x) (fun xs=>Plan.ask fun r=>∃cs,0<=m/\xs[m.toNat]? =some cs/\cs.length=te.size/\r= .val (.one (.ref cs))) Plan.bad with ⟨xs,e1,h2⟩|e1
     .rw[e1];intro r ⟨cs,h0,hcs,hlen,hr⟩;subst hr;have hden:=h2 _ h1;have hlt:m.toNat<xs.length:=(gS hcs).1;have key:∀(vx:Value)(d:D),Den w (Stay w0 I0 mem bs w) vx d->d= .list xs->∃b off cap,vx= .slice (some ⟨b,off,none⟩) xs.length cap/\Stay w0 I0 mem bs w b/\∀(j:Nat)(d:D),cs[j]? =some d->∃y,w.cell? ⟨b,off+m.toNat*te.size+j,none⟩=some y/\Den w (Stay w0 I0 mem bs w) y d:=by
       intro vx d hd hdx
       cases hd with
       |v x hx=>simp at hdx
       |iface _ _ _ _ _=>simp at hdx
       |fn _ _ _ _ _ _ _ _=>simp at hdx
       |map _ _ _ _ _=>simp at hdx
       |nil ad cap=>simp only[D.list.injEq]at hdx;subst hdx;simp at hlt
       |list b off cap n ys c hI hn hl hc hdd hcap=>
        simp only[D.list.injEq]at hdx;subst hdx;have hn':n=te.size:=by rw[<-hlen];exact(hl cs (mG hcs)).symm
        subst hn';refine⟨b,off,cap,rfl,hI,fun j d hj=>⟨c m.toNat j,hc _ _ hlt ?_,hdd _ _ _ _ hcs hj⟩⟩;rw[<-hlen];exact(gS hj).1
      obtain⟨b,off,cap,ex,hI,hcell⟩:=key _ _ hden rfl;have hle:0<=m/\m<(xs.length:Int):=ω;refine Za (.pointer (some ⟨b,off+m.toNat*te.size,none⟩)) ?_ (Zf st ⟨b,_,hI,rfl,hcell⟩ (fun p hp=>by simp[AV.hs,S.hs,C.hs]at hp));have hs:∀w,(sizeOf e).run P w= .ok te.size w:=fun w=>hei.run_size w;have hu:=hi.slice he;have hrun:(Instr.indexAt T (.slice (some ⟨b,off,none⟩) xs.length cap) (.int k m)).run P w= .ok (.pointer (some ⟨b,off+m.toNat*te.size,none⟩)) w:=by
       simp only[Instr.indexAt,asIntOf,Sem.run_bind,Sem.run_pure,Result.andThen_ok,run_underlying hu];simp only[hle,and_self,if_true,Sem.run_bind,hs,Result.andThen_ok,Sem.run_pure,Addr.add_lit]
      simp only[execOp,ho,ex,em,Sem.run_bind,hrun,Result.andThen_ok,Sem.run_pure]
     .rw[e1];trivial
    .trivial
   .trivial
  .trivial
 .trivial
def argC{β:Type}(mem:Mem)(c:C)(k:C->β)(bad:β):β:=
 match c with
 | .d (.v (.slice none 0 0))=>k (.d (.list []))
 | .d x=>k (.d x)
 | .full xs=>k (.d (.list xs))
 | .row o v=>match mem o with
  | .row _ _ v' xs false=>bif Nat.beq v v' then k (.d (.list xs)) else bad
  |_=>bad
 | .ref cs=>k (.ref cs)
 | .ptr _ _=>bad
 | .rp _ _ _ _ _=>bad
 | .rs _ _ _ _=>bad
 | .mp _=>bad
def argCs{β:Type}(mem:Mem):List C->(List C->β)->β->β
 | [],k,_=>k []
 |c::cs,k,bad=>argC mem c (fun c'=>argCs mem cs (fun l=>k (c'::l)) bad) bad
def argAV{β:Type}(mem:Mem)(v:AV)(k:AV->β)(bad:β):β:=
 match v with
 | .val (.one c)=>argC mem c (fun c'=>k (.val (.one c'))) bad
 | .val (.agg cs)=>argCs mem cs (fun l=>k (.val (.agg l))) bad
 |_=>bad
def argAVa{β:Type}(keep:Bool)(mem:Mem)(v:AV)(k:AV->β)(bad:β):β:=
 match v with
 | .val (.one (.d (.v (.slice none 0 0))))=>bif keep then k (.val (.one (.d (.v (.slice none 0 0))))) else k (.val (.one (.d (.list []))))
 |v=>argAV mem v k bad
def argAVs{β:Type}(keep:Bool)(mem:Mem)(env:Env):List Operand->(List AV->β)->β->β
 | [],k,_=>k []
 |x::r,k,bad=>argAVa keep mem (opd env x) (fun v=>argAVs keep mem env r (fun l=>k (v::l)) bad) bad
theorem ZdU{β:Type}(st:St w0 I0 nt env mem bs a w)(hM:∀o,mem' o= .gone\/mem' o=mem o)(c:C)(k:C->β)(bad:β):
  (∃c',argC mem' c k bad=k c'/\c'.hs= []/\∀x bs' mem'',DenC w (Stay w0 I0 mem bs w) bs mem x c->DenC w (Stay w0 I0 mem bs w) bs' mem'' x c')\/argC mem' c k bad=bad:=by
 unfold argC;split
 .refine .inl ⟨_,rfl,rfl,fun x bs' mem'' h=>?_⟩;have h':Den w (Stay w0 I0 mem bs w) x (.v (.slice none 0 0)):=h;cases h';exact Den.nil none 0
 .exact .inl ⟨_,rfl,rfl,fun x bs' mem'' h=>h⟩
 .exact .inl ⟨_,rfl,rfl,fun x bs' mem'' h=>h.1⟩
 .rename_i o v;split
  .rename_i T n v' xs ho;have ho':mem o= .row T n v' xs false:=by
    rcases hM o with h|h
    .rw[h]at ho;simp at ho
    .rw[<-h];exact ho
   cases e:Nat.beq v v' with
   |false=>exact .inr rfl
   |true=>
    obtain rfl:=Nat.eq_of_beq_eq_true e;refine .inl ⟨_,rfl,rfl,fun x bs' mem'' h=>?_⟩;have hx:x=bs o:=h.2 _ _ _ _ ho';have:=st.obs o;rw[ho']at this;rw[hx];exact this
  .exact .inr rfl
 .exact .inl ⟨_,rfl,rfl,fun x bs' mem'' h=>h⟩
 .exact .inr rfl
 .exact .inr rfl
 .exact .inr rfl
 .exact .inr rfl
theorem ZcX{β:Type}(st:St w0 I0 nt env mem bs a w)(hM:∀o,mem' o= .gone\/mem' o=mem o):∀(cs:List C)(k:List C->β)(bad:β),
  (∃l,argCs mem' cs k bad=k l/\(∀c,c∈l->c.hs= [])/\∀xs bs' mem'',Rel2 (fun y c=>DenC w (Stay w0 I0 mem bs w) bs mem y c) xs cs->Rel2 (fun y c=>DenC w (Stay w0 I0 mem bs w) bs' mem'' y c) xs l)\/argCs mem' cs k bad=bad
 | [],k,bad=>.inl ⟨[],rfl,fun c h=>by simp at h,fun xs bs' mem'' h=>⟨h.1,fun j c y hc=>by simp at hc⟩⟩
 |c::cs,k,bad=>by
  simp only[argCs];rcases ZdU st hM c (fun c'=>argCs mem' cs (fun l=>k (c'::l)) bad) bad with ⟨c',e,h1,h2⟩|e
  .rcases ZcX st hM cs (fun l=>k (c'::l)) bad with ⟨l,e',g1,g2⟩|e'
   .refine .inl ⟨c'::l,by rw[e,e'],fun d hd=>?_,fun xs bs' mem'' h=>?_⟩
    .rcases List.mem_cons.1 hd with rfl|hd
     .exact h1
     .exact g1 d hd
    .cases xs with
     |nil=>have:=h.1;simp at this
     |cons y ys=>
      obtain⟨f1,f2⟩:=h.of_cons;exact(g2 ys bs' mem'' f2).cons (h2 y bs' mem'' f1)
   .exact .inr (by rw[e,e'])
  .exact .inr e
theorem Zfn{β:Type}(st:St w0 I0 nt env mem bs a w)(hM:∀o,mem' o= .gone\/mem' o=mem o)(v:AV)(k:AV->β)(bad:β):
  (∃v',argAV mem' v k bad=k v'/\v'.hs= []/\∀x bs' mem'',DenAV w (Stay w0 I0 mem bs w) bs mem x v->DenAV w (Stay w0 I0 mem bs w) bs' mem'' x v')\/argAV mem' v k bad=bad:=by
 unfold argAV;split
 .rename_i c;rcases ZdU st hM c (fun c'=>k (.val (.one c'))) bad with ⟨c',e,h1,h2⟩|e
  .exact .inl ⟨_,e,h1,fun x bs' mem'' h=>h2 x bs' mem'' h⟩
  .exact .inr e
 .rename_i cs;rcases ZcX st hM cs (fun l=>k (.val (.agg l))) bad with ⟨l,e,h1,h2⟩|e
  .refine .inl ⟨_,e,?_,fun x bs' mem'' h=>?_⟩
   .simp only[AV.hs,S.hs];exact List.flatMap_eq_nil_iff.2 fun c hc=>h1 c hc
   .obtain⟨xs,ex,hl,hr⟩:=h;have:=h2 xs bs' mem'' ⟨hl,hr⟩;exact⟨xs,ex,this.1,this.2⟩
  .exact .inr e
 .exact .inr rfl
theorem Zbq{β:Type}(keep:Bool)(st:St w0 I0 nt env mem bs a w)(hM:∀o,mem' o= .gone\/mem' o=mem o)(v:AV)(k:AV->β)(bad:β):
  (∃v',argAVa keep mem' v k bad=k v'/\v'.hs= []/\∀x bs' mem'',DenAV w (Stay w0 I0 mem bs w) bs mem x v->DenAV w (Stay w0 I0 mem bs w) bs' mem'' x v')\/argAVa keep mem' v k bad=bad:=by
 unfold argAVa;split
 .cases keep with
  |true=>exact .inl ⟨_,rfl,rfl,fun x bs' mem'' h=>h⟩
  |false=>exact .inl ⟨_,rfl,rfl,fun x bs' mem'' h=>by obtain rfl:=Zj h;exact Den.nil none 0⟩
 .exact Zfn st hM _ k bad
theorem ZaN{β:Type}(keep:Bool)(st:St w0 I0 nt env mem bs a w)(hE:∀t,env' t= .junk\/env' t=env t)(hM:∀o,mem' o= .gone\/mem' o=mem o):∀(xs:List Operand)(k:List AV->β)(bad:β),
  (∃l,argAVs keep mem' env' xs k bad=k l/\∀bs' mem'',Rel2 (fun y v=>DenAV w (Stay w0 I0 mem bs w) bs' mem'' y v) (xs.map a.eval) l)\/argAVs keep mem' env' xs k bad=bad
 | [],k,bad=>.inl ⟨[],rfl,fun bs' mem''=>Rel2.nil⟩
 |x::r,k,bad=>by
  simp only[argAVs];obtain⟨h1,_⟩:=Zc st hE x;rcases Zbq keep st hM (opd env' x) (fun v=>argAVs keep mem' env' r (fun l=>k (v::l)) bad) bad with ⟨v,e,g1,g2⟩|e
  .rcases ZaN keep st hE hM r (fun l=>k (v::l)) bad with ⟨l,e',f2⟩|e'
   .exact .inl ⟨v::l,by rw[e,e'],fun bs' mem''=>(f2 bs' mem'').cons (g2 _ bs' mem'' h1)⟩
   .exact .inr (by rw[e,e'])
  .exact .inr e
def roomOf(mem:Mem):Option Nat->Option Nat
 |some d=>(match mem d with
  | .gone=>some d
  |_=>none)
 |none=>none
def planCallF(keep:Bool)(P:Program)(G:World->Prop)(env:Env)(mem:Mem)(dst:Option Nat)(f:Operand)(xs:List Operand):Plan:=
 match opd env f with
 | .val (.one (.d (.v (.func (.func g) first cap))))=>match first.toList,cap.toList with
  | [], []=>argAVs keep mem env xs (fun az=>.askN (roomOf mem dst) (CallR P G g az)) .bad
  |_,_=>.bad
 | .val (.one (.d (.fn g caps)))=>argAVs keep mem env xs (fun az=>.askN (roomOf mem dst) (CallR P G g (az++caps.map fun cs=>.val (.one (.ref cs))))) .bad
 |_=>.bad
theorem Rel2.app{α β:Type}{R:α->β->Prop}{l l':List α}{cs cs':List β}(h:Rel2 R l cs)(h':Rel2 R l' cs'):Rel2 R (l++l') (cs++cs'):=by
 refine⟨by rw[length_append,length_append,h.1,h'.1],fun j c y hc hy=>?_⟩;by_cases hj:j<cs.length
 .rw[List.getElem?_append_left hj]at hc;rw[List.getElem?_append_left (by rw[h.1];exact hj)]at hy;exact h.2 j c y hc hy
 .rw[List.getElem?_append_right ω]at hc;rw[List.getElem?_append_right (by rw[h.1];omega),h.1]at hy;exact h'.2 _ c y hc hy
theorem ZqZ{I:Nat->Prop}{x:Value}{g:Nat}{caps:List (List D)}(h:Den w I x (.fn g caps)):
  ∃ps:List Value,x= .func (.func g) #[] ps.toArray/\Rel2 (fun y v=>DenAV w I noBs noMem y v) ps (caps.map fun cs=>.val (.one (.ref cs))):=by
 cases h with
 |fn _ _ pb po c hI hc hd=>
  refine⟨_,rfl,by simp,fun j v y hv hy=>?_⟩;rw[getElem?_map]at hv hy
  cases hr:caps[j]? with
  |none=>rw[hr]at hv;simp at hv
  |some r=>
   rw[hr]at hv;obtain rfl:=sI hv;have hj:j<caps.length:=(gS hr).1;rw[getElem?_range hj]at hy;obtain rfl:=sI hy;exact⟨pb j,po j,hI j hj,rfl,fun k d hk=>⟨c j k,hc j k r hr (gS hk).1,hd j k r d hr hk⟩⟩
theorem Zc3{w':World}(hb:Below w.heap.size w w')(st:St w0 I0 nt env mem bs a w):∀b,(Stay w0 I0 mem bs w b\/(w.heap.size<=b/\b<w'.heap.size))->Stay w0 I0 mem bs w' b:=by
 intro b h;rcases h with h|⟨h1,h2⟩
 .rcases h with h|⟨h1,h2,h3⟩
  .exact .inl h
  .exact .inr ⟨h1,Nat.lt_of_lt_of_le h2 hb.size,h3⟩
 .refine .inr ⟨st.newK h1,h2,fun o hm hbo=>?_⟩;have:=((st.obs o).block hm b hbo).2;omega
theorem Zj5(st:St w0 I0 nt env mem bs a w){d T n:Nat}{xs:List (List D)}{x:Value}{w':World}(hgone:mem d= .gone)(hf:Fresh w (Stay w0 I0 mem bs w) w' x T n xs)(hb:Below w.heap.size w w'):
  After w0 I0 nt env (upd mem d (.row T n 0 xs true)) a (.val (.one (.row d 0))) x w':=by
 obtain⟨ys,hown,hn,hyl,hrow,hden⟩:=hf;have hblk:∀b,blk x=some b->w.heap.size<=b/\b<w'.heap.size:=by
  intro b hbx;refine hown.lt b ?_;rcases hown.2 with ⟨rfl,_⟩|⟨g,cap,cur,rfl,_⟩
  .simp[blk]at hbx
  .simpa[blk,Value.ownBlock]using hbx
 have hb0:Bel w0.K w w':=st.bel hb;have hk:∀k,k<w.heap.size->((mem d).mut=true->blk (bs d)≠some k)->w'.heap[k]? =w.heap[k]? :=fun k hk _=>hb.block k hk;have hx:∀b,(Ob.row T n 0 xs true).mut=true->blk x=some b->((mem d).mut=true/\blk (bs d)=some b)\/(w.heap.size<=b/\b<w'.heap.size):=fun b _ hbx=>.inr (hblk b hbx);have hv:Turns mem bs d (.row T n 0 xs true) x:=.inl (by rw[hgone];rfl);have K:=st.keeps d (.row T n 0 xs true) x hb0 hk hx hv;have hst:∀b,(Stay w0 I0 mem bs w b\/(w.heap.size<=b/\b<w'.heap.size))/\blk x≠some b->Stay w0 I0 (upd mem d (.row T n 0 xs true)) (upd bs d x) w' b:=by
  rintro b ⟨h|⟨h1,h2⟩,hne⟩
  .exact(K.stay b h).1
  .refine .inr ⟨st.newK h1,h2,fun o hm hbo=>?_⟩;by_cases e:o=d
   .subst e;rw[Zk]at hbo;exact hne hbo
   .rw[ZQ _ _ e]at hm hbo;have:=((st.obs o).block hm b hbo).2;omega
 refine⟨upd bs d x,st.update d _ x hb0 hk hx hv rfl (fun p hp=>by simp[Ob.hs]at hp) ?_,⟨?_,fun T' n' xs' own hm=>?_⟩,fun p hp=>?_⟩
 .refine⟨ys,⟨hown.1,?_⟩,hn,hyl,hrow,fun i j r dd hi hj=>?_⟩
  .rcases hown.2 with h|⟨g,cap,cur,h1,h2,h3⟩
   .exact .inl h
   .exact .inr ⟨g,cap,cur,h1,st.newK h2,h3⟩
  .obtain⟨y,hy,hd⟩:=hden i j r dd hi hj;exact⟨y,hy,Den.mono (fun b hb'=>⟨hst b hb',rfl⟩) hd⟩
 .rcases hown.2 with ⟨rfl,_⟩|⟨g,cap,cur,rfl,_⟩<;>rfl
 .rw[Zk]
 .have:p=(d,0):=by simpa[AV.hs,S.hs,C.hs]using hp
  subst this;exact⟨by simp only[Zk];rfl,by simp only[Zk];exact Nat.le_refl _⟩
theorem Zgl(hG:G w)(st:St w0 I0 nt env mem bs a w)(o:Oper){g:Nat}{vs:List Value}{l:List AV}(hl:Rel2 (fun y v=>DenAV w (Stay w0 I0 mem bs w) noBs noMem y v) vs l)
 (hrun:Enters P g->(execOp a.eval o).run P w= .ok (.enter g vs.toArray) w){dst:Option Nat}(hD:∀d,dst=some d->mem' d=mem d):
  SoundPlan P w0 I0 nt env mem a w o (.askN (roomOf mem' dst) (CallR P G g l)):=by
 refine⟨?_,?_⟩
 .intro r hn hcall;obtain⟨hr,hspec⟩:=Zl6 hcall hn;have hc:=hspec.2 w (Stay w0 I0 mem bs w) vs hG (fun b hb=>by
   rcases hb with ⟨_,h⟩|⟨_,h,_⟩
   .exact st.ltK h
   .exact h) hl
  refine Za0 (f:=g) (args:=vs.toArray) (w':=w) ?_ ?_
  .exact hrun hspec.1
  .refine Calls.mono hc fun e w' ⟨x,he,hd,hb⟩=>⟨x,he,?_⟩;obtain⟨K,st'⟩:=st.grow hb;refine⟨bs,st',?_,fun p hp=>by rw[hr]at hp;simp at hp⟩;have K2:Keeps w' (fun b=>Stay w0 I0 mem bs w b\/(w.heap.size<=b/\b<w'.heap.size)) noBs noMem w' (Stay w0 I0 mem bs w') bs mem (fun _=>False):=
    ⟨fun b hbb=>⟨Zc3 hb st b hbb,rfl⟩,fun _ _ h=>h.elim,fun _ _ _ _ _ _ h=>h.elim⟩
   exact K2.av (fun p hp=>by rw[hr]at hp;simp at hp) hd
 .intro d hd T n xs' hspec;have hgone:mem d= .gone:=by
   unfold roomOf at hd;split at hd
   .rename_i d';split at hd
    .rename_i hg;obtain rfl:=sI hd;rw[<-hD d' rfl];exact hg
    .simp at hd
   .simp at hd
  have hspec:SpecR P G g l T n xs':=hspec;have hc:=hspec.2 w (Stay w0 I0 mem bs w) vs hG (fun b hb=>by
   rcases hb with ⟨_,h⟩|⟨_,h,_⟩
   .exact st.ltK h
   .exact h) hl
  refine Za0 (f:=g) (args:=vs.toArray) (w':=w) ?_ ?_
  .exact hrun hspec.1
  .exact Calls.mono hc fun e w' ⟨x,he,hf,hb⟩=>⟨x,he,Zj5 st hgone hf hb⟩
theorem ZcH(keep:Bool)(hG:G w)(st:St w0 I0 nt env mem bs a w)(hE:∀t,env' t= .junk\/env' t=env t)(hM:∀o,mem' o= .gone\/mem' o=mem o)
 (o:Oper)(dst:Option Nat)(f:Operand)(xs:List Operand)(ts:Array TypeId)(ho:o.op= .call { callee:=.value f,args:=⟨xs⟩,argTypes:=ts })(hD:∀d,dst=some d->mem' d=mem d):SoundPlan P w0 I0 nt env mem a w o (planCallF keep P G env' mem' dst f xs):=by
 obtain⟨h1,_⟩:=Zc st hE f;unfold planCallF;split
 .rename_i g first cap hf
  rw[hf]at h1;have ef:=Zj h1;split
  .rename_i e1 e2;have e1':first=#[]:=by cases first;simpa using e1
   have e2':cap=#[]:=by cases cap;simpa using e2
   subst e1' e2';rcases ZaN keep st hE hM xs (fun az=>Plan.askN (roomOf mem' dst) (CallR P G g az)) Plan.bad with ⟨l,e,hl⟩|e
   .rw[e];refine Zgl hG st o (hl noBs noMem) (fun hen=>?_) hD;have hrun:=hen (xs.map a.eval).toArray w;simp only[execOp,ho,resolve,ef,Deferred.ofValue,Sem.run_bind,Sem.run_pure,Result.andThen_ok,invoke];simpa using hrun
   .rw[e];trivial
  .trivial
 .rename_i g caps hf;rw[hf]at h1;obtain⟨ps,ef,hps⟩:=ZqZ h1;rcases ZaN keep st hE hM xs (fun az=>Plan.askN (roomOf mem' dst) (CallR P G g (az++caps.map fun cs=>.val (.one (.ref cs))))) Plan.bad with ⟨l,e,hl⟩|e
  .rw[e];refine Zgl hG st o ((hl noBs noMem).app hps) (fun hen=>?_) hD;have hrun:=hen (xs.map a.eval++ps).toArray w;simp only[execOp,ho,resolve,ef,Deferred.ofValue,Sem.run_bind,Sem.run_pure,Result.andThen_ok,invoke];simpa using hrun
  .rw[e];trivial
 .trivial
end
section
variable{P:Program}{G:World->Prop}{w0:Base}{I0:Nat->Prop}{nt:Shape}{env env':Env}{mem mem':Mem}{bs:Bs}{a:Act}{w:World}
def dsK{β:Type}(mem:Mem):List C->(List D->β)->β->β
 | [],k,_=>k []
 |c::cs,k,bad=>argC mem c (fun c'=>match c' with
  | .d x=>dsK mem cs (fun l=>k (x::l)) bad
  |_=>bad) bad
def elemsK{β:Type}(env:Env)(mem:Mem)(size:Nat):List (Nat×Operand)->Nat->(List (List D)->β)->β->β
 | [],_,k,_=>k []
 |p::r,i,k,bad=>bif Nat.beq p.1 i then cellsK (opd env p.2) (fun cs=>bif Nat.beq cs.length size then dsK mem cs (fun ds=>elemsK env mem size r (i+1) (fun l=>k (ds::l)) bad) bad else bad) bad else bad
def planBuildSlice(TB:List (Nat×Ty))(env:Env)(mem:Mem)(T:TypeId)(n:Nat)(parts:List (Nat×Operand)):Plan:=
 match look TB T with
 |some ty=>match ty.elem with
  |some e=>match look TB e with
   |some te=>bif Nat.beq parts.length n&&(Nat.blt 0 te.size&&Nat.ble (n*te.size) 16777216) then elemsK env mem te.size parts 0 (fun xs=>.ret (.val (.one (.full xs)))) .bad else .bad
   |none=>.bad
  |none=>.bad
 |none=>.bad
theorem Zer{β:Type}(st:St w0 I0 nt env mem bs a w)(hM:∀o,mem' o= .gone\/mem' o=mem o):∀(cs:List C)(k:List D->β)(bad:β),
  (∃l,dsK mem' cs k bad=k l/\∀xs,Rel2 (fun y c=>DenC w (Stay w0 I0 mem bs w) bs mem y c) xs cs->Rel2 (fun y d=>Den w (Stay w0 I0 mem bs w) y d) xs l)\/dsK mem' cs k bad=bad
 | [],k,bad=>.inl ⟨[],rfl,fun xs h=>⟨h.1,fun j c y hc=>by simp at hc⟩⟩
 |c::cs,k,bad=>by
  simp only[dsK];rcases ZdU st hM c (fun c'=>match c' with
   | .d x=>dsK mem' cs (fun l=>k (x::l)) bad
   |_=>bad) bad with ⟨c',e,_,h2⟩|e
  .rw[e]
   cases c' with
   |d x=>
    rcases Zer st hM cs (fun l=>k (x::l)) bad with ⟨l,e',g2⟩|e'
    .refine .inl ⟨x::l,e',fun xs h=>?_⟩
     cases xs with
     |nil=>have:=h.1;simp at this
     |cons y ys=>
      obtain⟨f1,f2⟩:=h.of_cons;exact(g2 ys f2).cons (h2 y noBs noMem f1)
    .exact .inr e'
   |row _ _=>exact .inr rfl
   |ptr _ _=>exact .inr rfl
   |ref _=>exact .inr rfl
   |full _=>exact .inr rfl
   |rp _ _ _ _ _=>exact .inr rfl
   |rs _ _ _ _=>exact .inr rfl
   |mp _=>exact .inr rfl
  .exact .inr e
def ElemIs(w:World)(I:Nat->Prop)(size:Nat)(v:Value)(r:List D):Prop:=v.cells.size=size/\r.length=size/\Rel2 (fun y d=>Den w I y d) v.cells.toList r
theorem ZcT{β:Type}{size:Nat}(st:St w0 I0 nt env mem bs a w)(hE:∀t,env' t= .junk\/env' t=env t)(hM:∀o,mem' o= .gone\/mem' o=mem o):∀(parts:List (Nat×Operand))(i:Nat)(k:List (List D)->β)(bad:β),
  (∃xs,elemsK env' mem' size parts i k bad=k xs/\Rel2 (fun v r=>ElemIs w (Stay w0 I0 mem bs w) size v r) (parts.map fun p=>a.eval p.2) xs/\(parts.map fun p=>(p.1,a.eval p.2))=((parts.map fun p=>a.eval p.2).zipIdx i).map fun x=>(x.2,x.1))\/elemsK env' mem' size parts i k bad=bad
 | [],i,k,bad=>.inl ⟨[],rfl,Rel2.nil,rfl⟩
 |p::r,i,k,bad=>by
  simp only[elemsK]
  cases hb:Nat.beq p.1 i with
  |false=>exact .inr rfl
  |true=>
   have hpi:=Nat.eq_of_beq_eq_true hb;obtain⟨h1,_⟩:=Zc st hE p.2;have step:∀vs,(opd env' p.2= .val (.agg vs)\/∃c,opd env' p.2= .val (.one c)/\vs= [c])->
     (∃xs,(bif Nat.beq vs.length size then dsK mem' vs (fun ds=>elemsK env' mem' size r (i+1) (fun l=>k (ds::l)) bad) bad else bad)=k xs/\Rel2 (fun v r=>ElemIs w (Stay w0 I0 mem bs w) size v r) ((p::r).map fun p=>a.eval p.2) xs/\
      ((p::r).map fun p=>(p.1,a.eval p.2))=(((p::r).map fun p=>a.eval p.2).zipIdx i).map fun x=>(x.2,x.1))\/(bif Nat.beq vs.length size then dsK mem' vs (fun ds=>elemsK env' mem' size r (i+1) (fun l=>k (ds::l)) bad) bad else bad)=bad:=by
    intro vs hvs
    cases hl:Nat.beq vs.length size with
    |false=>exact .inr rfl
    |true=>
     have hl':=Nat.eq_of_beq_eq_true hl;simp only[cond_true];have hcells:=Zds h1 hvs;rcases Zer st hM vs (fun ds=>elemsK env' mem' size r (i+1) (fun l=>k (ds::l)) bad) bad with ⟨ds,e,g⟩|e
     .rcases ZcT st hE hM r (i+1) (fun l=>k (ds::l)) bad with ⟨xs,e',g1,g2⟩|e'
      .have hd:=g _ hcells;have hsz:(a.eval p.2).cells.size=size:=by have:=hcells.1;simp at this;omega
       refine .inl ⟨ds::xs,by rw[e,e'],g1.cons ⟨hsz,by rw[<-hd.1];simpa using hsz,hd⟩,?_⟩;simp only[map_cons,List.zipIdx_cons,hpi,g2]
      .exact .inr (by rw[e,e'])
     .exact .inr e
   simp only[cond_true];unfold cellsK;split
   .rename_i c hc;exact step [c] (.inr ⟨c,hc,rfl⟩)
   .rename_i vs hc;exact step vs (.inl hc)
   .exact .inr rfl
theorem ZbW{TB:List (Nat×Ty)}(hTB:TBok P TB)(st:St w0 I0 nt env mem bs a w)(hE:∀t,env' t= .junk\/env' t=env t)(hM:∀o,mem' o= .gone\/mem' o=mem o)
 (o:Oper)(T:TypeId)(n:Nat)(parts:Array (Nat×Operand))(ho:o.op= .buildSlice T n parts):SoundPlan P w0 I0 nt env mem a w o (planBuildSlice TB env' mem' T n parts.toList):=by
 unfold planBuildSlice;split
 .rename_i ty hty;obtain⟨ti,tu,tz,hi⟩:=Zr (hTB T ty (Zl hty));split
  .rename_i e he;split
   .rename_i te hte;obtain⟨ei,eu,ez,hei⟩:=Zr (hTB e te (Zl hte))
    cases hcond:(Nat.beq parts.toList.length n&&(Nat.blt 0 te.size&&Nat.ble (n*te.size) 16777216)) with
    |false=>trivial
    |true=>
     simp only[Bool.and_eq_true]at hcond;have hn:=Nat.eq_of_beq_eq_true hcond.1;have hpos:0<te.size:=Nat.le_of_ble_eq_true hcond.2.1;have hsm:=Nat.le_of_ble_eq_true hcond.2.2;simp only[cond_true];rcases ZcT (size:=te.size) st hE hM parts.toList 0 (fun xs=>Plan.ret (.val (.one (.full xs)))) Plan.bad with ⟨xs,e1,e2,e3⟩|e1
     .rw[e1];have hvl:(parts.toList.map fun p=>a.eval p.2).length=n:=by simpa using hn
      have hxl:xs.length=n:=by rw[<-e2.1,hvl]
      have hsz:∀v,v∈(parts.toList.map fun p=>a.eval p.2)->v.cells.size=te.size:=fun v hv=>by obtain⟨r,_,h⟩:=e2.mem hv;exact h.1
      have hflat:((parts.toList.map fun p=>a.eval p.2).flatMap fun v=>v.cells.toList).length=n*te.size:=by
       have:∀(l:List Value),(∀v,v∈l->v.cells.size=te.size)->(l.flatMap fun v=>v.cells.toList).length=l.length*te.size:=by
        intro l
        induction l with
        |nil=>intro _;simp
        |cons v l ih=>
         intro h;rw[List.flatMap_cons,length_append,ih (fun x hx=>h x (by simp[hx])),length_cons,Nat.add_mul,Nat.one_mul,Nat.add_comm];congr 1;simpa using h v (by simp)
       rw[this _ hsz,hvl]
      have hrun:(Instr.buildSlice T n (parts.map fun (i,x)=>(i,a.eval x))).run P w= .ok (.slice (some ⟨w.heap.size,0,none⟩) n n) (w.alloc (.cells ((parts.toList.map fun p=>a.eval p.2).flatMap fun v=>v.cells.toList).toArray e)):=by
       by_cases h0:n*te.size=0
       .have hn0:n=0:=by rcases Nat.mul_eq_zero.1 h0 with h|h<;>omega
        subst hn0;have hp0:parts=#[]:=by
         have:parts.toList= []:=eq_nil_of_length_eq_zero hn;exact Array.toList_inj.1 (by rw[this])
        subst hp0;have hu:=hi.slice he;simp[Instr.buildSlice,run_underlying hu,hei.run_size,newRow,Instr.fill];rw[Array.eq_empty_of_size_eq_zero (xs:=Array.map _ (Array.range 0)) (by simp)]
       .refine run_buildSlice w T e n _ _ ei ez (hi.slice he) hei.info hei.hz (by rw[<-hei.size];omega) (by rw[<-hei.size];exact h0) ?_;have hp:(parts.map fun (i,x)=>(i,a.eval x)).toList=((parts.toList.map fun p=>a.eval p.2).zipIdx 0).map fun x=>(x.2,x.1):=by
         rw[<-e3];simp
        rw[hp,<-hei.size];exact Great.fill_whole hpos _ _ hsz (by rw[hvl];simp)
      have hb:Below w.heap.size w (w.alloc (.cells ((parts.toList.map fun p=>a.eval p.2).flatMap fun v=>v.cells.toList).toArray e)):=(Below.refl _ w).alloc (Nat.le_refl _) _;obtain⟨K,st'⟩:=st.grow hb;refine Za (.slice (some ⟨w.heap.size,0,none⟩) n n) (by simp only[execOp,ho,Sem.run_bind,hrun,Result.andThen_ok];rfl) ⟨bs,st',?_,fun p hp=>by simp[AV.hs,S.hs,C.hs]at hp⟩;have hrow:=Row.alloc_new w e ((parts.toList.map fun p=>a.eval p.2).flatMap fun v=>v.cells.toList);refine⟨?_,some ⟨w.heap.size,0,none⟩,by rw[hxl]⟩;rw[<-hxl];refine .list w.heap.size 0 xs.length te.size xs (fun i j=>(((parts.toList.map fun p=>a.eval p.2)[i]?).bind fun v=>v.cells[j]?).getD undef) ?_ hpos ?_ ?_ ?_ (Nat.le_refl _)
      .refine Zc3 hb st _ (.inr ⟨Nat.le_refl _,by simp⟩)
      .intro r hr;obtain⟨i,hi'⟩:=getElem?_of_mem hr;obtain⟨v,_,hv⟩:=e2.get hi';exact hv.2.1
      .intro i j hi' hj;rw[hrow.cell?,Nat.zero_add,Great.flat_get hpos _ hsz];have h1:(i*te.size+j)/te.size=i:=by rw[Nat.mul_comm,Nat.mul_add_div hpos,Nat.div_eq_of_lt hj,Nat.add_zero]
       have h2:(i*te.size+j)%te.size=j:=by rw[Nat.mul_comm,Nat.mul_add_mod,Nat.mod_eq_of_lt hj]
       rw[h1,h2];have hi2:i<(parts.toList.map fun p=>a.eval p.2).length:=by rw[hvl,<-hxl];exact hi'
       rw[gE hi2,Option.bind_some];have h3:=hsz _ (getElem_mem hi2);rw[Array.getElem?_eq_getElem (by rw[h3];exact hj)];simp
      .intro i j r d hr hd;obtain⟨v,hv,h1,h2,h3⟩:=e2.get hr;obtain⟨y,hy,hden⟩:=h3.get hd;simp only[hv,Option.bind_some];have:v.cells[j]? =some y:=by simpa using hy
       rw[this,Option.getD_some];exact Den.mono K.stay hden
     .rw[e1];trivial
   .trivial
  .trivial
 .trivial
def intK{β:Type}(v:AV)(k:Int->β)(bad:β):β:=
 match v with
 | .val (.one (.d (.v (.int _ m))))=>k m
 |_=>bad
def planSlice(TB:List (Nat×Ty))(env:Env)(mem:Mem)(T:TypeId)(x:Operand)(lo hi mx:Option Operand):Plan:=
 match look TB T with
 |some ty=>match ty.elem with
  |some e=>match look TB e with
   |some te=>match mx with
    |none=>match lo,hi with
     |some l,none=>intK (opd env l) (fun m=>listK mem (opd env x) (fun xs=>.ask fun r=>0<=m/\m<=(xs.length:Int)/\(∀row,row∈xs->row.length=te.size)/\r= .val (.one (.d (.list (xs.drop m.toNat))))) .bad) .bad
     |none,some h=>intK (opd env h) (fun m=>listK mem (opd env x) (fun xs=>.ask fun r=>0<=m/\m<=(xs.length:Int)/\(∀row,row∈xs->row.length=te.size)/\r= .val (.one (.d (.list (xs.take m.toNat))))) .bad) .bad
     |_,_=>.bad
    |some _=>.bad
   |none=>.bad
  |none=>.bad
 |none=>.bad
theorem Zad{β:Type}(v:AV)(k:Int->β)(bad:β):(∃kd m,v= .val (.one (.d (.v (.int kd m))))/\intK v k bad=k m)\/intK v k bad=bad:=by
 unfold intK;split
 .rename_i kd m;exact .inl ⟨kd,m,rfl,rfl⟩
 .exact .inr rfl
theorem ZlX{I:Nat->Prop}{x:Value}{xs:List (List D)}(h:Den w I x (.list xs))(l m size:Nat)(hlm:l+m<=xs.length)(hn:∀r,r∈xs->r.length=size):
  ∃ad c,x= .slice ad xs.length c/\xs.length<=c/\Den w I (.slice (if c=l then ad else ad.map (·.add (l*size))) m (c-l)) (.list ((xs.drop l).take m)):=by
 generalize hd:(D.list xs)=d at h
 cases h with
 |v x hx=>simp at hd
 |iface _ _ _ _ _=>simp at hd
 |fn _ _ _ _ _ _ _ _=>simp at hd
 |map _ _ _ _ _=>simp at hd
 |nil ad cap=>
  simp only[D.list.injEq]at hd;subst hd;simp only[List.length_nil]at hlm;have hm:m=0:=ω;subst hm;refine⟨ad,cap,rfl,by simp,?_⟩;simp only[List.take_zero];exact .nil _ _
 |list b off cap n ys c hI hpos hl hc hdd hcap=>
  simp only[D.list.injEq]at hd;subst hd;refine⟨some ⟨b,off,none⟩,cap,rfl,hcap,?_⟩;by_cases hm:m=0
  .subst hm;simp only[List.take_zero];exact .nil _ _
  .have hne:¬cap=l:=ω;rw[if_neg hne];have hns:n=size:=by
    have:xs≠ []:=fun e=>by subst e;simp at hlm;omega
    obtain⟨r,hr⟩:=List.exists_mem_of_ne_nil xs this;rw[<-hl r hr,hn r hr]
   subst hns;have hlen:((xs.drop l).take m).length=m:=by rw[length_take,length_drop];omega
   have hg:∀i,i<m->((xs.drop l).take m)[i]? =xs[l+i]? :=fun i hi=>by rw[List.getElem?_take_of_lt hi,getElem?_drop]
   simp only[Option.map_some,Addr.add_lit];have:=Den.list (w:=w) (I:=I) b (off+l*n) (cap-l) n ((xs.drop l).take m) (fun i j=>c (l+i) j) hI hpos (fun r hr=>hl r (List.mem_of_mem_drop (mem_of_mem_take hr)))
    (fun i j hi hj=>by
     rw[hlen]at hi;have:=hc (l+i) j ω hj;rw[Nat.add_mul]at this;rw[Nat.add_assoc off];exact this)
    (fun i j r d hr hd=>by
     have hi:i<m:=by have:=(gS hr).1;rw[hlen]at this;exact this
     rw[hg i hi]at hr;exact hdd (l+i) j r d hr hd) (by rw[hlen];omega)
   rw[hlen]at this;exact this
theorem Zjn{TB:List (Nat×Ty)}(hTB:TBok P TB)(st:St w0 I0 nt env mem bs a w)(hE:∀t,env' t= .junk\/env' t=env t)(hM:∀o,mem' o= .gone\/mem' o=mem o)
 (o:Oper)(T:TypeId)(x:Operand)(lo hi mx:Option Operand)(ho:o.op= .slice T x lo hi mx):SoundPlan P w0 I0 nt env mem a w o (planSlice TB env' mem' T x lo hi mx):=by
 obtain⟨h1,_⟩:=Zc st hE x;unfold planSlice;split
 .rename_i ty hty;obtain⟨ti,tu,tz,hi'⟩:=Zr (hTB T ty (Zl hty));split
  .rename_i e he;split
   .rename_i te hte;obtain⟨ei,eu,ez,hei⟩:=Zr (hTB e te (Zl hte));have hu:=hi'.slice he;split
    .split
     .rename_i l;obtain⟨g1,_⟩:=Zc st hE l;rcases Zad (opd env' l) (fun m=>listK mem' (opd env' x) (fun xs=>Plan.ask fun r=>0<=m/\m<=(xs.length:Int)/\(∀row,row∈xs->row.length=te.size)/\r= .val (.one (.d (.list (xs.drop m.toNat))))) .bad) .bad with ⟨kd,m,ev,e1⟩|e1
      .rw[e1];rw[ev]at g1;have em:=Zj g1;rcases ZaY st hM (opd env' x) (fun xs=>Plan.ask fun r=>0<=m/\m<=(xs.length:Int)/\(∀row,row∈xs->row.length=te.size)/\r= .val (.one (.d (.list (xs.drop m.toNat))))) Plan.bad with ⟨xs,e2,hx⟩|e2
       .rw[e2];intro r ⟨b1,b2,b3,hr⟩;subst hr;obtain⟨ad,c,ex,hc,hden⟩:=ZlX (hx _ h1) m.toNat (xs.length-m.toNat) te.size ω b3;have hpart:(xs.drop m.toNat).take (xs.length-m.toNat)=xs.drop m.toNat:=List.take_of_length_le (by rw[length_drop];exact Nat.le_refl _);rw[hpart]at hden;refine Za _ ?_ (Zf st hden (fun p hp=>by simp[AV.hs,S.hs,C.hs]at hp));have hle:0<=m/\m<=(xs.length:Int):=⟨b1,b2⟩;have hrun:(Instr.sliceAt T (.slice ad xs.length c) (some (.int kd m)) none none).run P w= .ok (.slice (if c=m.toNat then ad else ad.map (·.add (m.toNat*te.size))) (xs.length-m.toNat) (c-m.toNat)) w:=by
         simp[Instr.sliceAt,Instr.slice,run_underlying hu,Instr.sliceBounds,Instr.sliceBound,asIntOf,hle,hei.run_size]
        simp only[execOp,ho,ex,em,Option.map_some,Option.map_none,Sem.run_bind,hrun,Result.andThen_ok,Sem.run_pure]
       .rw[e2];trivial
      .rw[e1];trivial
     .rename_i l;obtain⟨g1,_⟩:=Zc st hE l;rcases Zad (opd env' l) (fun m=>listK mem' (opd env' x) (fun xs=>Plan.ask fun r=>0<=m/\m<=(xs.length:Int)/\(∀row,row∈xs->row.length=te.size)/\r= .val (.one (.d (.list (xs.take m.toNat))))) .bad) .bad with ⟨kd,m,ev,e1⟩|e1
      .rw[e1];rw[ev]at g1;have em:=Zj g1;rcases ZaY st hM (opd env' x) (fun xs=>Plan.ask fun r=>0<=m/\m<=(xs.length:Int)/\(∀row,row∈xs->row.length=te.size)/\r= .val (.one (.d (.list (xs.take m.toNat))))) Plan.bad with ⟨xs,e2,hx⟩|e2
       .rw[e2];intro r ⟨b1,b2,b3,hr⟩;subst hr;obtain⟨ad,c,ex,hc,hden⟩:=ZlX (hx _ h1) 0 m.toNat te.size ω b3;rw[List.drop_zero]at hden;have had:(if c=0 then ad else ad.map (·.add (0*te.size)))=ad:=by
         have h0:∀q:Addr,q.add 0=q:=fun q=>by simp[Addr.add]
         cases ad with
         |none=>split<;>rfl
         |some q=>split<;>simp[h0]
        rw[had,Nat.sub_zero]at hden;refine Za _ ?_ (Zf st hden (fun p hp=>by simp[AV.hs,S.hs,C.hs]at hp));have hle:0<=m/\m<=(c:Int):=⟨b1,ω⟩;have hrun:(Instr.sliceAt T (.slice ad xs.length c) none (some (.int kd m)) none).run P w= .ok (.slice ad m.toNat c) w:=by
         simp[Instr.sliceAt,Instr.slice,run_underlying hu,Instr.sliceBounds,Instr.sliceBound,asIntOf,hle,hei.run_size];have:=had;simpa using this
        simp only[execOp,ho,ex,em,Option.map_some,Option.map_none,Sem.run_bind,hrun,Result.andThen_ok,Sem.run_pure]
       .rw[e2];trivial
      .rw[e1];trivial
     .trivial
    .trivial
   .trivial
  .trivial
 .trivial
def planAppendTo(te:Ty)(e:Nat)(env:Env)(mem:Mem)(dst:Option Nat)(s:Operand)(ys:List (List D)):Plan:=
 match opd env s with
 | .val (.one (.row o v))=>match mem o with
  | .row T n v' xs true=>bif Nat.beq v v'&&(Nat.beq T e&&Nat.beq n te.size) then .putIf ((∀row,row∈ys->row.length=te.size)/\(xs.length+ys.length)*te.bytes<=140737488355328/\xs.length+ys.length<=140737488355328) (.val (.one (.row o (v+1)))) o (.row T n (v+1) (xs++ys) true) else .bad
  |_=>.bad
 | .val (.one (.full xs))=>match dst with
  |some d=>match mem d with
   | .gone=>bif Nat.blt 0 te.size then .putIf (0<ys.length/\(∀row,row∈xs->row.length=te.size)/\(∀row,row∈ys->row.length=te.size)/\(xs.length+ys.length)*te.bytes<=140737488355328/\xs.length+ys.length<=140737488355328) (.val (.one (.row d 0))) d (.row e te.size 0 (xs++ys) true) else .bad
   |_=>.bad
  |none=>.bad
 | .val (.one (.d (.v (.slice none 0 0))))=>match dst with
  |some d=>match mem d with
   | .gone=>bif Nat.blt 0 te.size then .putIf ((∀row,row∈ys->row.length=te.size)/\ys.length*te.bytes<=140737488355328/\ys.length<=140737488355328) (.val (.one (.row d 0))) d (.row e te.size 0 ys true) else .bad
   |_=>.bad
  |none=>.bad
 |_=>.bad
def planAppend(TB:List (Nat×Ty))(env:Env)(mem:Mem)(dst:Option Nat)(ts:List TypeId)(xs:List Operand):Plan:=
 match xs,ts with
 | [s,x], [t,t']=>bif Nat.beq t t' then (match look TB t with
  |some ty=>match ty.elem with
   |some e=>match look TB e with
    |some te=>listK mem (opd env x) (fun ys=>planAppendTo te e env mem dst s ys) .bad
    |none=>.bad
   |none=>.bad
  |none=>.bad) else .bad
 |_,_=>.bad
theorem Zhs{I:Nat->Prop}{x:Value}{ys:List (List D)}{size:Nat}(h:Den w I x (.list ys))(hn:∀r,r∈ys->r.length=size)(hpos:0<size):
  ∃(ad:Option Addr)(c:Nat)(l:List Value),x= .slice ad ys.length c/\l.length=ys.length*size/\(ys.length≠0->∃q,ad=some q/\∀(j:Nat)(y:Value),l[j]? =some y->w.cell? (q.add j)=some y)/\(∀y,y∈l->flat y=true)/\
   ∀(i j:Nat)(r:List D)(d:D),ys[i]? =some r->r[j]? =some d->∃y,l[i*size+j]? =some y/\Den w I y d:=by
 generalize hd:(D.list ys)=d at h
 cases h with
 |v x hx=>simp at hd
 |iface _ _ _ _ _=>simp at hd
 |fn _ _ _ _ _ _ _ _=>simp at hd
 |map _ _ _ _ _=>simp at hd
 |nil ad cap=>
  simp only[D.list.injEq]at hd;subst hd;exact⟨ad,cap, [],rfl,by simp,fun h=>absurd rfl h,fun y hy=>by simp at hy,fun i j r d hr=>by simp at hr⟩
 |list b off cap n zs c hI hp hl hc hdd hcap=>
  simp only[D.list.injEq]at hd;subst hd;by_cases h0:ys= []
  .subst h0;exact⟨_,_, [],rfl,by simp,fun h=>absurd rfl h,fun y hy=>by simp at hy,fun i j r d hr=>by simp at hr⟩
  .have hns:n=size:=by
    obtain⟨r,hr⟩:=List.exists_mem_of_ne_nil ys h0;rw[<-hl r hr,hn r hr]
   subst hns;refine⟨some ⟨b,off,none⟩,cap,(range (ys.length*n)).map fun k=>c (k/n) (k%n),rfl,by simp,fun _=>⟨_,rfl,fun j y hj=>?_⟩,fun y hy=>?_,fun i j r d hr hdj=>?_⟩
   .have hj':j<ys.length*n:=by have:=(gS hj).1;simpa using this
    rw[getElem?_map,getElem?_range hj']at hj;simp only[Option.map_some,Option.some.injEq]at hj;subst hj;rw[Addr.add_lit];have h1:j/n<ys.length:=Nat.div_lt_of_lt_mul (by rw[Nat.mul_comm];exact hj');have h2:=Nat.mod_lt j hp;have:=hc (j/n) (j%n) h1 h2;have e:off+j/n*n+j%n=off+j:=by rw[Nat.add_assoc,Nat.mul_comm,Nat.div_add_mod]
    rw[e]at this;exact this
   .obtain⟨k,hk,rfl⟩:=List.mem_map.1 hy;have hk':k<ys.length*n:=List.mem_range.1 hk;have h1:k/n<ys.length:=Nat.div_lt_of_lt_mul (by rw[Nat.mul_comm];exact hk');have h2:=Nat.mod_lt k hp;have h3:=hl _ (getElem_mem h1);exact(hdd (k/n) (k%n) ys[k/n] (ys[k/n][k%n]'(by rw[h3];exact h2)) (gE h1) (gE (by rw[h3];exact h2))).flat
   .have hi:i<ys.length:=(gS hr).1;have hj:j<n:=by rw[<-hl r (mG hr)];exact(gS hdj).1
    have hlt:i*n+j<ys.length*n:=by
     have:(i+1)*n<=ys.length*n:=Nat.mul_le_mul_right _ hi;rw[Nat.add_mul,Nat.one_mul]at this;omega
    refine⟨c i j,?_,hdd i j r d hr hdj⟩;rw[getElem?_map,getElem?_range hlt];have h1:(i*n+j)/n=i:=by rw[Nat.mul_comm,Nat.mul_add_div hp,Nat.div_eq_of_lt hj,Nat.add_zero]
    have h2:(i*n+j)%n=j:=by rw[Nat.mul_comm,Nat.mul_add_mod,Nat.mod_eq_of_lt hj]
    simp only[Option.map_some,h1,h2]
theorem Zgm(t ty e:TypeId)(i:TypeInfo)(z:Value)(ht:P.underlying t=some (.slice e))(hi:P.info? e=some i)(hz:i.zero=some z)
 {base:Nat}(v:Value)(n:Nat)(xs:List Value)(hown:w.ownsRow base e i.size v n xs)
 (a:Addr)(m c:Nat)(news:List Value)(hl:news.length=m*i.size)(hnews:∀(j:Nat)(u:Value),news[j]? =some u->w.cell? (a.add j)=some u)(h1:∀u∈news,u.oneCell'=true)
 (h63:n+m<=maxLen)(hbytes:(n+m)*i.bytes<=140737488355328){v':Value}{w':World}(hr:(Builtin.append_ #[t,t] ty #[v,.slice (some a) m c]).run P w= .ok v' w'):
  v'.ownBlock=v.ownBlock\/v'.ownBlock=some w.heap.size:=by
 have hsmall:n+m<=9223372036854775807:=by simp only[maxLen]at h63;omega
 rcases hown.2 with ⟨rfl,rfl⟩|⟨g,cap,cur,rfl,hbg,hg,hnc,hcm,hcs,htake⟩
 .by_cases hm:m=0
  .subst hm;have hn:news= []:=eq_nil_of_length_eq_zero (by simpa using hl);subst hn;have he:(Builtin.append_ #[t,t] ty #[.slice none 0 0,.slice (some a) 0 c]).run P w= .ok (.slice none 0 0) w:=by
    simp[Builtin.append_,run_underlying ht,sizeOf,typeInfo,hi,Builtin.lenOf,Builtin.firstCells,loadCells,loadCellsFrom]
   rw[he]at hr;cases hr;exact .inl rfl
  .rw[run_append_nil (P:=P) w t ty e i z ht hi hz a m c news hl hnews ω ω (by have hb:=hbytes;simp only[Nat.zero_add]at hb;omega)]at hr;cases hr;exact .inr rfl
 .by_cases hroom:n+m<=cap
  .have hfit:n*i.size+news.length<=cur.size:=by rw[hl,hcs,<-Nat.add_mul];exact Nat.mul_le_mul_right _ hroom
   rw[run_append_room (P:=P) w t ty e i ht hi g n cap cur hg a m c news hl hnews h1 hroom hfit]at hr;cases hr;exact .inl rfl
  .have holds:∀(j:Nat)(u:Value),xs[j]? =some u->w.cell? ((⟨g,0,none⟩:Addr).add j)=some u:=hown.cells (g:=g) rfl;rw[run_append_grow (P:=P) w t ty e i z ht hi hz ⟨g,0,none⟩ n cap xs hown.1 holds a m c news hl hnews ω ω (growslice_fits ω hbytes)]at hr;cases hr;exact .inr rfl
theorem Zkj(t ty e:TypeId)(ht:P.underlying t=some (.slice e))(i:TypeInfo)(hi:P.info? e=some i){base:Nat}(v:Value)(n:Nat)(xs:List Value)(hown:w.ownsRow base e i.size v n xs)(c:Nat):
  (Builtin.append_ #[t,t] ty #[v,.slice none 0 c]).run P w= .ok v w:=by
 rcases hown.2 with ⟨rfl,rfl⟩|⟨g,cap,cur,rfl,_,_,hnc,_⟩
 .simp[Builtin.append_,run_underlying ht,sizeOf,typeInfo,hi,Builtin.lenOf,Builtin.firstCells]
 .simp[Builtin.append_,run_underlying ht,sizeOf,typeInfo,hi,Builtin.lenOf,Builtin.firstCells,hnc,storeCells]
theorem ZrD{w:World}{base e size:Nat}{v:Value}{n:Nat}{xs:List Value}(h:w.ownsRow base e size v n xs):blk v=v.ownBlock:=by
 rcases h.2 with ⟨rfl,_⟩|⟨g,cap,cur,rfl,_⟩<;>rfl
theorem Zb9:maxLen=140737488355328\/140737488355328<=maxLen:=by unfold maxLen;omega
theorem Zkk(t ty e:TypeId)(i:TypeInfo)(z:Value)(size bytes base:Nat)(ht:P.underlying t=some (.slice e))(hi:P.info? e=some i)(hz:i.zero=some z)
 (hsize:i.size=size)(hby:i.bytes=bytes)(hzs:z.cells.size=size)(b:Addr)(n:Nat)(xs:List Value)(hxl:xs.length=n*size)(holds:∀(j:Nat)(u:Value),xs[j]? =some u->w.cell? (b.add j)=some u)
 (a:Addr)(m c:Nat)(news:List Value)(hl:news.length=m*size)(hnews:∀(j:Nat)(u:Value),news[j]? =some u->w.cell? (a.add j)=some u)
 (hm:0<m)(h63:n+m<=maxLen)(hbytes:(n+m)*bytes<=140737488355328)(hbase:base<=w.heap.size):
  ∃v' w',(Builtin.append_ #[t,t] ty #[.slice (some b) n n,.slice (some a) m c]).run P w= .ok v' w'/\w'.ownsRow base e size v' (n+m) (xs++news)/\w.grownBy w' none/\v'.ownBlock=some w.heap.size:=by
 subst hsize;subst hby;have hsmall:n+m<=9223372036854775807:=by simp only[maxLen]at h63;omega
 have hlen:(xs++news).length=(n+m)*i.size:=by rw[length_append,hxl,hl,Nat.add_mul]
 refine⟨_,_,run_append_grow (P:=P) w t ty e i z ht hi hz b n n xs hxl holds a m c news hl hnews ω ω (growslice_fits ω hbytes),?_,?_,rfl⟩
 .have hge:=grownCap_ge w (n+m) n e;have hcm:grownCap w (n+m) n e<=maxLen:=grownCap_le_maxLen w (n+m) n e h63;refine⟨hlen,.inr ⟨w.heap.size,_,_,rfl,hbase,heap_alloc_new w.drew _,hge,hcm,?_,?_⟩⟩
  .simp only[Array.size_append,List.size_toArray,size_zeroCells,hzs,hxl,hl,<-Nat.add_mul];congr 1;omega
  .simp only[Array.toList_append,List.append_assoc];rw[<-List.append_assoc,<-hlen];exact List.take_left
 .exact⟨rfl,rfl,rfl,by simp,fun k hk _=>heap_alloc_old w.drew _ hk⟩
theorem Zar(st:St w0 I0 nt env mem bs a w){o:Oper}(e size:Nat)(hpos:0<size)(id k:Nat)(xs ys:List (List D))(zs l:List Value)(row:Option Nat)(hzl:zs.length=xs.length*size)(hl:l.length=ys.length*size)
 (hxl:∀r,r∈xs->r.length=size)(b1:∀r,r∈ys->r.length=size)
 (hxd:∀(i j:Nat)(r:List D)(d:D),xs[i]? =some r->r[j]? =some d->∃y,zs[i*size+j]? =some y/\Den w (Stay w0 I0 mem bs w) y d)
 (hld:∀(i j:Nat)(r:List D)(d:D),ys[i]? =some r->r[j]? =some d->∃y,l[i*size+j]? =some y/\Den w (Stay w0 I0 mem bs w) y d)
 (hturn:∀x':Value,Turns mem bs id (.row e size k (xs++ys) true) x')(hm1:(mem id).mut=true->blk (bs id)=row)(hm0:(mem id).mut=false->row=none)(hrow:∀k,row=some k->¬w0.K k)
 {v':Value}{w':World}(hr:(execOp a.eval o).run P w= .ok (.value v') w')(hown':ownsK w0.K w' e size v' (xs.length+ys.length) (zs++l))(hgrow:w.grownBy w' row)(hblk:v'.ownBlock=row\/v'.ownBlock=some w.heap.size):
  Does P o a w (After w0 I0 nt env (upd mem id (.row e size k (xs++ys) true)) a (.val (.one (.row id k)))):=by
 refine Za v' (w':=w') hr ?_;have hb:Bel w0.K w w':=⟨hgrow.os,hgrow.tape,hgrow.output,hgrow.size,fun k hk=>hgrow.block k (st.ltK hk) (fun e=>hrow k e.symm hk)⟩;have hk:∀k',k'<w.heap.size->((mem id).mut=true->blk (bs id)≠some k')->w'.heap[k']? =w.heap[k']? :=by
  intro k' hk' hne;refine hgrow.block k' hk' (fun e=>?_)
  cases hm:(mem id).mut with
  |true=>exact hne hm (by rw[hm1 hm];exact e.symm)
  |false=>rw[hm0 hm]at e;simp at e
 have hx:∀b,(Ob.row e size k (xs++ys) true).mut=true->blk v'=some b->((mem id).mut=true/\blk (bs id)=some b)\/(w.heap.size<=b/\b<w'.heap.size):=by
  intro b _ hbv;rw[ZrD hown'.row]at hbv;rcases hblk with h|h
  .rw[h]at hbv
   cases hm:(mem id).mut with
   |true=>exact .inl ⟨rfl,by rw[hm1 hm];exact hbv⟩
   |false=>rw[hm0 hm]at hbv;simp at hbv
  .rw[h]at hbv;obtain rfl:=sI hbv;exact .inr ⟨Nat.le_refl _,hown'.lt h⟩
 have K:=st.keeps id (.row e size k (xs++ys) true) v' hb hk hx (hturn v');refine⟨upd bs id v',st.update id _ v' hb hk hx (hturn v') rfl (fun p hp=>by simp[Ob.hs]at hp) ?_,⟨?_,fun T n xs' own hrow'=>?_⟩,fun p hp=>?_⟩
 .refine⟨zs++l,by rw[length_append];exact hown',hpos,by rw[length_append,length_append,hl,hzl,Nat.add_mul],fun r hr=>?_,fun i j r d hi' hj=>?_⟩
  .rcases List.mem_append.1 hr with h|h
   .exact hxl r h
   .exact b1 r h
  .by_cases hlt:i<xs.length
   .rw[List.getElem?_append_left hlt]at hi';obtain⟨y,hy,hdy⟩:=hxd i j r d hi' hj;have hlt2:i*size+j<zs.length:=(gS hy).1;exact⟨y,by rw[List.getElem?_append_left hlt2];exact hy,Den.mono K.stay hdy⟩
   .rw[List.getElem?_append_right ω]at hi';obtain⟨y,hy,hdy⟩:=hld (i-xs.length) j r d hi' hj;have hge:zs.length<=i*size+j:=by
     rw[hzl];have:=Nat.mul_le_mul_right size (Nat.le_of_not_lt hlt);omega
    refine⟨y,?_,Den.mono K.stay hdy⟩;rw[List.getElem?_append_right hge,hzl];have:i*size+j-xs.length*size=(i-xs.length)*size+j:=by
     rw[Nat.sub_mul];have:=Nat.mul_le_mul_right size (Nat.le_of_not_lt hlt);omega
    rw[this];exact hy
 .rcases hown'.2 with ⟨rfl,_⟩|⟨g,cap,cur,rfl,_⟩<;>rfl
 .rw[Zk]
 .have:p=(id,k):=by simpa[AV.hs,S.hs,C.hs]using hp
  subst this;exact⟨by simp only[Zk];rfl,by simp only[Zk];exact Nat.le_refl _⟩
theorem Zh0{TB:List (Nat×Ty)}(hTB:TBok P TB)(st:St w0 I0 nt env mem bs a w)(hE:∀t,env' t= .junk\/env' t=env t)(hM:∀o,mem' o= .gone\/mem' o=mem o)
 (o:Oper)(xs:List Operand)(ts:List TypeId)(ho:o.op= .call { callee:=.builtin .append,args:=⟨xs⟩,argTypes:=⟨ts⟩ })(hD:∀d,o.dst=some d->mem' d=mem d):SoundPlan P w0 I0 nt env mem a w o (planAppend TB env' mem' o.dst ts xs):=by
 unfold planAppend;split
 .rename_i s x t t'
  cases htt:Nat.beq t t' with
  |false=>trivial
  |true=>
   obtain rfl:=Nat.eq_of_beq_eq_true htt;simp only[cond_true];split
   .rename_i ty hty;obtain⟨ti,tu,tz,hi⟩:=Zr (hTB t ty (Zl hty));split
    .rename_i e he;split
     .rename_i te hte;obtain⟨ei,eu,ez,hei⟩:=Zr (hTB e te (Zl hte));obtain⟨h1,_⟩:=Zc st hE x;obtain⟨g1,_⟩:=Zc st hE s;have key:∀(v:Value)(id k:Nat)(xs:List (List D))(ys:List (List D))(zs:List Value),a.eval s=v->Den w (Stay w0 I0 mem bs w) (a.eval x) (.list ys)->ownsK w0.K w e te.size v xs.length zs->0<te.size->
        (∀r,r∈xs->r.length=te.size)->(∀(i j:Nat)(r:List D)(d:D),xs[i]? =some r->r[j]? =some d->∃y,zs[i*te.size+j]? =some y/\Den w (Stay w0 I0 mem bs w) y d)->
        ((∀row,row∈ys->row.length=te.size)/\(xs.length+ys.length)*te.bytes<=140737488355328/\xs.length+ys.length<=140737488355328)->
        (∀x':Value,Turns mem bs id (.row e te.size k (xs++ys) true) x')->((mem id).mut=true->blk (bs id)=v.ownBlock)->((mem id).mut=false->v.ownBlock=none)->
        Does P o a w (After w0 I0 nt env (upd mem id (.row e te.size k (xs++ys) true)) a (.val (.one (.row id k)))):=by
       intro v id k xs ys zs hev hdx hown hpos hxl hxd hpre hturn hm1 hm0;obtain⟨b1,b2,b3⟩:=hpre;obtain⟨ad,c,l,ex,hl,hcell,hlf,hld⟩:=Zhs hdx b1 hpos;have hmx:xs.length+ys.length<=maxLen:=by have:=Zb9;omega
       have hsz:ei.size=te.size:=hei.size.symm;have hby:ei.bytes=te.bytes:=hei.bytes.symm;have hown1:w.ownsRow 0 e ei.size v xs.length zs:=by rw[hsz];exact hown.row
       have hrun:∃v' w',(Builtin.append_ #[t,t] o.type #[v,.slice ad ys.length c]).run P w= .ok v' w'/\w'.ownsRow 0 e te.size v' (xs.length+ys.length) (zs++l)/\w.grownBy w' v.ownBlock/\(v'.ownBlock=v.ownBlock\/v'.ownBlock=some w.heap.size):=by
        by_cases h0:ys.length=0
        .have hl0:l= []:=eq_nil_of_length_eq_zero (by rw[hl,h0,Nat.zero_mul])
         cases ad with
         |none=>
          refine⟨v,w,by rw[h0];exact Zkj t _ e (hi.slice he) ei hei.info v xs.length zs hown1 c,?_,⟨rfl,rfl,rfl,Nat.le_refl _,fun _ _ _=>rfl⟩,.inl rfl⟩;rw[h0,hl0,List.append_nil];exact hown.row
         |some q=>
          obtain⟨v',w',hr,h2,h3,_⟩:=run_append_own (P:=P) w 0 t o.type e ei ez te.size te.bytes (hi.slice he) hei.info hei.hz hsz hby (by rw[hei.zs,hsz]) hpos v xs.length zs hown.row q ys.length c l hl
           (fun j u hj=>by rw[hl0]at hj;simp at hj) (fun u hu=>by rw[Zdo];exact hlf u hu) hmx b2 (Nat.zero_le _)
          exact⟨v',w',hr,h2,h3,Zgm t _ e ei ez (hi.slice he) hei.info hei.hz v xs.length zs hown1 q ys.length c l (by rw[hsz];exact hl) (fun j u hj=>by rw[hl0]at hj;simp at hj) (fun u hu=>by rw[Zdo];exact hlf u hu) hmx (by rw[hby];exact b2) hr⟩
        .obtain⟨q,rfl,hcq⟩:=hcell h0;obtain⟨v',w',hr,h2,h3,_⟩:=run_append_own (P:=P) w 0 t o.type e ei ez te.size te.bytes (hi.slice he) hei.info hei.hz hsz hby (by rw[hei.zs,hsz]) hpos v xs.length zs hown.row q ys.length c l hl
          hcq (fun u hu=>by rw[Zdo];exact hlf u hu) hmx b2 (Nat.zero_le _)
         exact⟨v',w',hr,h2,h3,Zgm t _ e ei ez (hi.slice he) hei.info hei.hz v xs.length zs hown1 q ys.length c l (by rw[hsz];exact hl) hcq (fun u hu=>by rw[Zdo];exact hlf u hu) hmx (by rw[hby];exact b2) hr⟩
       obtain⟨v',w',hr,hown',hgrow,hblk⟩:=hrun;exact Zar st e te.size hpos id k xs ys zs l v.ownBlock hown.1 hl hxl b1 hxd hld hturn hm1 hm0 (fun k hk=>hown.not hk) (Z1 ho (by
        simp only[builtin,Sem.run_bind,map_toArray,map_cons,map_nil,hev,ex,hr,Result.andThen_ok,Sem.run_pure])) (Zbd hown' fun k hk=>by
        rcases hblk with h|h
        .exact hown.not (by rw[<-h];exact hk)
        .rw[h]at hk;obtain rfl:=sI hk;exact st.newK (Nat.le_refl _)) hgrow hblk
      rcases ZaY st hM (opd env' x) (fun ys=>planAppendTo te e env' mem' o.dst s ys) Plan.bad with ⟨ys,e1,hx⟩|e1
      .rw[e1];have hdx:=hx _ h1;unfold planAppendTo;split
       .rename_i ob v hs;rw[hs]at g1;split
        .rename_i T n v' xs hrow;have hrow':mem ob= .row T n v' xs true:=by
          rcases hM ob with h|h
          .rw[h]at hrow;simp at hrow
          .rw[<-h];exact hrow
         cases hb:(Nat.beq v v'&&(Nat.beq T e&&Nat.beq n te.size)) with
         |false=>trivial
         |true=>
          simp only[Bool.and_eq_true]at hb;obtain rfl:=Nat.eq_of_beq_eq_true hb.1;obtain rfl:=Nat.eq_of_beq_eq_true hb.2.1;obtain rfl:=Nat.eq_of_beq_eq_true hb.2.2;intro hpre;have hev:a.eval s=bs ob:=g1.2 _ _ _ _ hrow';have hob:=st.obs ob;rw[hrow']at hob;obtain⟨zs,f1,f2,f3,f4,f5⟩:=hob;exact key (bs ob) ob (v+1) xs ys zs hev hdx f1 f2 f4 f5 hpre (fun x'=>.inr (.inr (.inl ⟨T,te.size,v,xs,true,T,te.size,v+1,xs++ys,true,hrow',rfl,Nat.le_succ _,fun h=>absurd h ω⟩)))
           (fun _=>ZrD f1.row) (fun h=>by rw[hrow']at h;simp[Ob.mut]at h)
        .trivial
       .rename_i xs hs;rw[hs]at g1;split
        .rename_i d hd;split
         .rename_i hg;rw[hD d hd]at hg
          cases hb:Nat.blt 0 te.size with
          |false=>trivial
          |true=>
           have hpos:0<te.size:=Nat.le_of_ble_eq_true hb;intro hpre;obtain⟨b0,bx,b1,b2,b3⟩:=hpre;obtain⟨hden,ad0,hfull⟩:=(g1:Den w (Stay w0 I0 mem bs w) (a.eval s) (.list xs)/\∃a',a.eval s= .slice a' xs.length xs.length);obtain⟨adx,cx,zs,ezs,hzl,hzc,hzf,hzd⟩:=Zhs hden bx hpos;obtain⟨ad,c,l,ex,hl,hcell,hlf,hld⟩:=Zhs hdx b1 hpos;have hmx:xs.length+ys.length<=maxLen:=by have:=Zb9;omega
           have hturn:∀x':Value,Turns mem bs d (.row e te.size 0 (xs++ys) true) x':=fun x'=>.inl (by rw[hg];rfl);obtain⟨q,rfl,hcq⟩:=hcell ω;have hadx:ad0=adx:=by rw[hfull]at ezs;injection ezs
           subst hadx;have hcx:cx=xs.length:=by rw[hfull]at ezs;injection ezs with _ _ h3;exact h3.symm
           subst hcx
           cases ad0 with
           |none=>
            have hx0:xs= []:=by
             cases xs with
             |nil=>rfl
             |cons r rs=>obtain⟨q',h,_⟩:=hzc (by simp);cases h
            subst hx0;have:=key (.slice none 0 0) d 0 [] ys [] hfull hdx (Zc8 _ w _ _) hpos (fun r hr=>by simp at hr) (fun i j r d hi'=>by simp at hi') ⟨b1,b2,b3⟩ hturn (fun h=>by rw[hg]at h;simp[Ob.mut]at h) (fun _=>rfl);simpa using this
           |some qx=>
            have hzc':∀(j:Nat)(u:Value),zs[j]? =some u->w.cell? (qx.add j)=some u:=by
             by_cases h0:xs.length=0
             .intro j u hj;have:zs= []:=eq_nil_of_length_eq_zero (by rw[hzl,h0,Nat.zero_mul]);rw[this]at hj;simp at hj
             .obtain⟨q',h,hc⟩:=hzc h0;cases h;exact hc
            obtain⟨v',w',hr,hown',hgrow,hblk⟩:=Zkk (P:=P) (w:=w) t o.type e ei ez te.size te.bytes 0 (hi.slice he) hei.info hei.hz hei.size.symm hei.bytes.symm (by rw[hei.zs,hei.size.symm]) qx xs.length zs hzl hzc' q ys.length c l hl hcq b0 hmx b2 (Nat.zero_le _);exact Zar st e te.size hpos d 0 xs ys zs l none hzl hl bx b1 hzd hld hturn (fun h=>by rw[hg]at h;simp[Ob.mut]at h) (fun _=>rfl) (fun k hk=>by simp at hk) (Z1 ho (by
             simp only[builtin,Sem.run_bind,map_toArray,map_cons,map_nil,hfull,ex,hr,Result.andThen_ok,Sem.run_pure])) (Zbd hown' fun k hk=>by rw[hblk]at hk;obtain rfl:=sI hk;exact st.newK (Nat.le_refl _)) hgrow (.inr hblk)
         .trivial
        .trivial
       .rename_i hs;rw[hs]at g1;have hev:=Zj g1;split
        .rename_i d hd;split
         .rename_i hg;rw[hD d hd]at hg
          cases hb:Nat.blt 0 te.size with
          |false=>trivial
          |true=>
           have hpos:0<te.size:=Nat.le_of_ble_eq_true hb;intro hpre;have:=key (.slice none 0 0) d 0 [] ys [] hev hdx (Zc8 _ w _ _) hpos (fun r hr=>by simp at hr) (fun i j r d hi'=>by simp at hi') (by simpa using hpre) (fun x'=>.inl (by rw[hg];rfl)) (fun h=>by rw[hg]at h;simp[Ob.mut]at h) (fun _=>rfl);simpa using this
         .trivial
        .trivial
       .trivial
      .rw[e1];trivial
     .trivial
    .trivial
   .trivial
 .trivial
end
theorem Zcv{α:Type}:∀(vs l:List α)(off k:Nat),(repl l off vs)[k]? =if off<=k/\k<off+vs.length/\k<l.length then vs[k-off]? else l[k]?
 | [],l,off,k=>by
  have:¬(off<=k/\k<off+([]:List α).length/\k<l.length):=by simp only[List.length_nil];omega
  rw[if_neg this];rfl
 |v::vs,l,off,k=>by
  rw[repl,Zcv vs (l.set off v) (off+1) k];simp only[List.length_set,length_cons];by_cases h1:off+1<=k/\k<off+1+vs.length/\k<l.length
  .rw[if_pos h1,if_pos ω];have:k-off=(k-(off+1))+1:=ω;rw[this];rfl
  .rw[if_neg h1];by_cases h2:off=k
   .subst h2;by_cases h3:off<l.length
    .rw[if_pos ω,List.getElem?_set_self h3];simp
    .rw[if_neg ω,getElem?_eq_none (by simp;omega),getElem?_eq_none ω]
   .rw[List.getElem?_set_ne h2];rw[if_neg ω]
theorem ZsN{α:Type}{vs l:List α}(h:vs.length=l.length):repl l 0 vs=vs:=by
 apply ext_getElem?;intro k;rw[Zcv];by_cases hk:k<l.length
 .rw[if_pos ω];rfl
 .rw[if_neg ω,getElem?_eq_none ω,getElem?_eq_none ω]
theorem Zog{α:Type}(vs l:List α)(off k:Nat)(h:off+vs.length<=k):(repl l off vs).take k=repl (l.take k) off vs:=by
 apply ext_getElem?;intro j;rw[getElem?_take,Zcv,Zcv];simp only[length_take];by_cases hj:j<k
 .rw[if_pos hj,List.getElem?_take_of_lt hj];by_cases h1:off<=j/\j<off+vs.length/\j<l.length
  .rw[if_pos h1,if_pos ω]
  .rw[if_neg h1,if_neg ω]
 .rw[if_neg hj];have:¬(off<=j/\j<off+vs.length/\j<min k l.length):=ω;rw[if_neg this,getElem?_eq_none (by simp;omega)]
section
variable{P:Program}{G:World->Prop}{w0:Base}{I0:Nat->Prop}{nt:Shape}{env env':Env}{mem mem':Mem}{bs:Bs}{a:Act}{w:World}
def planIndexOwn(TB:List (Nat×Ty))(env:Env)(T:TypeId)(i:Operand)(o v n v':Nat)(xs:List (List D)):Plan:=
 match look TB T with
 |some ty=>match ty.elem with
  |some e=>match look TB e with
   |some te=>bif Nat.beq v v'&&Nat.beq n te.size then intK (opd env i) (fun m=>.ask fun r=>0<=m/\m<(xs.length:Int)/\r= .val (.one (.rp o v n m.toNat 0))) .bad else .bad
   |none=>.bad
  |none=>.bad
 |none=>.bad
def planIndexArr(TB:List (Nat×Ty))(env:Env)(n e:Nat)(x i:Operand):Plan:=
 match look TB e with
 |some te=>match opd env i with
  | .val (.one (.d (.v (.int _ (.ofNat m)))))=>bif Nat.blt m n then (match opd env x with
   | .val (.one (.ptr b off))=>.ret (.val (.one (.ptr b (off+m*te.size))))
   | .val (.one (.ref ds))=>forceK (ds.drop (m*te.size)) fun l=>.ret (.val (.one (.ref l)))
   |_=>.bad) else .bad
  |_=>.bad
 |none=>.bad
def planIndexAddrS(TB:List (Nat×Ty))(env:Env)(mem:Mem)(T:TypeId)(x i:Operand):Plan:=
 match opd env x with
 | .val (.one (.row o v))=>match mem o with
  | .row _ n v' xs true=>planIndexOwn TB env T i o v n v' xs
  |_=>planIndexAddr TB env mem T x i
 |_=>planIndexAddr TB env mem T x i
def planIndexAddrG(TB:List (Nat×Ty))(env:Env)(mem:Mem)(T:TypeId)(x i:Operand):Plan:=
 match look TB T with
 |some ty=>match ty.arr with
  |some p=>planIndexArr TB env p.1 p.2 x i
  |none=>planIndexAddrS TB env mem T x i
 |none=>.bad
theorem Zft{TB:List (Nat×Ty)}(hTB:TBok P TB)(st:St w0 I0 nt env mem bs a w)(hE:∀t,env' t= .junk\/env' t=env t){ty:Ty}{n e:Nat}{ti:TypeInfo}{tu:TypeDesc}{tz:Value}
 (o:Oper)(T:TypeId)(x i:Operand)(ho:o.op= .indexAddr T x i)(hi:TyIs P T ty ti tu tz)(he:ty.arr=some (n,e)):SoundPlan P w0 I0 nt env mem a w o (planIndexArr TB env' n e x i):=by
 obtain⟨h1,h2⟩:=Zc st hE x;obtain⟨g1,_⟩:=Zc st hE i;unfold planIndexArr;split
 .rename_i te hte;obtain⟨ei,eu,ez,hei⟩:=Zr (hTB e te (Zl hte));split
  .rename_i k m hm;rw[hm]at g1;have em:=Zj g1
   cases hb:Nat.blt m n with
   |false=>trivial
   |true=>
    have hlt:m<n:=Nat.le_of_ble_eq_true hb;have hle:(0:Int)<=Int.ofNat m/\Int.ofNat m<(n:Int):=⟨Int.natCast_nonneg m,Int.ofNat_lt.2 hlt⟩;have hs:∀w,(sizeOf e).run P w= .ok te.size w:=fun w=>hei.run_size w;have hu:=hi.array he;have hrun:∀b off,(Instr.indexAt T (.pointer (some ⟨b,off,none⟩)) (.int k (Int.ofNat m))).run P w= .ok (.pointer (some ⟨b,off+m*te.size,none⟩)) w:=by
     intro b off;simp only[Instr.indexAt,asIntOf,Sem.run_bind,Sem.run_pure,Result.andThen_ok,run_underlying hu,Instr.sureAddr];simp only[hle,and_self,if_true,Sem.run_bind,hs,Result.andThen_ok,Sem.run_pure,Addr.add_lit];rfl
    simp only[cond_true];split
    .rename_i b off hx;rw[hx]at h1 h2;obtain⟨blk,e1,e2⟩:=h1;refine Za (.pointer (some ⟨blk,off+m*te.size,none⟩)) (by simp only[execOp,ho,e2,em,Sem.run_bind,hrun,Result.andThen_ok,Sem.run_pure]) (Zf st ⟨blk,e1,rfl⟩ h2)
    .rename_i ds hx;rw[hx]at h1;rw[ZC];obtain⟨b,off,hI,e2,hds⟩:=h1;refine Za (.pointer (some ⟨b,off+m*te.size,none⟩)) (by simp only[execOp,ho,e2,em,Sem.run_bind,hrun,Result.andThen_ok,Sem.run_pure]) (Zf st ⟨b,off+m*te.size,hI,rfl,fun j d hj=>?_⟩ (fun q hq=>by simp[AV.hs,S.hs,C.hs]at hq));have:=hds (m*te.size+j) d (by simpa using hj)
     rwa[<-Nat.add_assoc]at this
    .trivial
  .trivial
 .trivial
theorem Zd5{TB:List (Nat×Ty)}(hTB:TBok P TB)(st:St w0 I0 nt env mem bs a w)(hE:∀t,env' t= .junk\/env' t=env t)(hM:∀o,mem' o= .gone\/mem' o=mem o)
 (o:Oper)(T:TypeId)(x i:Operand)(ho:o.op= .indexAddr T x i):SoundPlan P w0 I0 nt env mem a w o (planIndexAddrS TB env' mem' T x i):=by
 have base:=ZeF (P:=P) hTB st hE hM o T x i ho;unfold planIndexAddrS;split
 .rename_i ob v hx;split
  .rename_i T0 n v' xs hb;obtain⟨h1,h2⟩:=Zc st hE x;rw[hx]at h1 h2;have hb':mem ob= .row T0 n v' xs true:=by
    rcases hM ob with h|h
    .rw[h]at hb;simp at hb
    .rw[<-h];exact hb
   unfold planIndexOwn;split
   .rename_i ty hty;obtain⟨ti,tu,tz,hi⟩:=Zr (hTB T ty (Zl hty));split
    .rename_i e he;split
     .rename_i te hte;obtain⟨ei,eu,ez,hei⟩:=Zr (hTB e te (Zl hte))
      cases hc:(Nat.beq v v'&&Nat.beq n te.size) with
      |false=>trivial
      |true=>
       simp only[Bool.and_eq_true]at hc;obtain rfl:=Nat.eq_of_beq_eq_true hc.1;have hn:=Nat.eq_of_beq_eq_true hc.2;simp only[cond_true];rcases Zad (opd env' i) (fun m=>Plan.ask fun r=>0<=m/\m<(xs.length:Int)/\r= .val (.one (.rp ob v n m.toNat 0))) Plan.bad with ⟨kd,m,g1,g2⟩|g2
       .rw[g2];intro r ⟨h0,hm,hr⟩;subst hr;obtain⟨f1,_⟩:=Zc st hE i;rw[g1]at f1;have em:=Zj f1;have ex:a.eval x=bs ob:=h1.2 _ _ _ _ hb';have hob:=st.obs ob;rw[hb']at hob;obtain⟨ys,hown,hn0,hyl,hxl,hdd⟩:=hob;rcases hown.2 with ⟨e1,e2⟩|⟨g,cap,cur,e1,e3,e4,e5,e6,e7,e8⟩
        .omega
        .have hle:0<=m/\m<(xs.length:Int):=⟨h0,hm⟩;refine Za (.pointer (some ⟨g,m.toNat*n,none⟩)) ?_ (Zf st ⟨rfl,fun T xs' own hm'=>⟨g,xs.length,cap,e1,by simp⟩⟩ (fun p hp=>?_))
         .have hs:∀w,(sizeOf e).run P w= .ok te.size w:=fun w=>hei.run_size w;have hu:=hi.slice he;have hrun:(Instr.indexAt T (.slice (some ⟨g,0,none⟩) xs.length cap) (.int kd m)).run P w= .ok (.pointer (some ⟨g,m.toNat*n,none⟩)) w:=by
           simp only[Instr.indexAt,asIntOf,Sem.run_bind,Sem.run_pure,Result.andThen_ok,run_underlying hu];simp only[hle,and_self,if_true,Sem.run_bind,hs,Result.andThen_ok,Sem.run_pure,Addr.add_lit,Nat.zero_add,hn]
          simp only[execOp,ho,ex,em,e1,Sem.run_bind,hrun,Result.andThen_ok,Sem.run_pure]
         .exact h2 p (by simpa[AV.hs,S.hs,C.hs]using hp)
       .rw[g2];trivial
     .trivial
    .trivial
   .trivial
  .exact base
 .exact base
theorem Zd6{TB:List (Nat×Ty)}(hTB:TBok P TB)(st:St w0 I0 nt env mem bs a w)(hE:∀t,env' t= .junk\/env' t=env t)(hM:∀o,mem' o= .gone\/mem' o=mem o)
 (o:Oper)(T:TypeId)(x i:Operand)(ho:o.op= .indexAddr T x i):SoundPlan P w0 I0 nt env mem a w o (planIndexAddrG TB env' mem' T x i):=by
 unfold planIndexAddrG;split
 .rename_i ty hty;obtain⟨ti,tu,tz,hi⟩:=Zr (hTB T ty (Zl hty));split
  .rename_i p hp;exact Zft hTB st hE o T x i ho hi (n:=p.1) (e:=p.2) hp
  .exact Zd5 hTB st hE hM o T x i ho
 .trivial
def cD:C->D
 | .d x=>x
 |_=>.list []
def planMakeSlice(TB:List (Nat×Ty))(env:Env)(mem:Mem)(dst:Option Nat)(T:TypeId)(l c:Operand):Plan:=
 match look TB T with
 |some ty=>match ty.elem with
  |some e=>match look TB e with
   |some te=>match dst with
    |some d=>match mem d with
     | .gone=>bif Nat.blt 0 te.size then intK (opd env l) (fun m=>intK (opd env c) (fun m'=>
       .putIf (0<=m/\m'=m/\m*te.bytes<=140737488355328/\m<=140737488355328) (.val (.one (.row d 0))) d (.row e te.size 0 (replicate m.toNat (te.zero.map cD)) true)) .bad) .bad else .bad
     |_=>.bad
    |none=>.bad
   |none=>.bad
  |none=>.bad
 |none=>.bad
theorem ZeD{TB:List (Nat×Ty)}(hTB:TBok P TB)(st:St w0 I0 nt env mem bs a w)(hE:∀t,env' t= .junk\/env' t=env t)
 (o:Oper)(T:TypeId)(l c:Operand)(ho:o.op= .makeSlice T l c)(hD:∀d,o.dst=some d->mem' d=mem d):SoundPlan P w0 I0 nt env mem a w o (planMakeSlice TB env' mem' o.dst T l c):=by
 unfold planMakeSlice;split
 .rename_i ty hty;obtain⟨ti,tu,tz,hi⟩:=Zr (hTB T ty (Zl hty));split
  .rename_i e he;split
   .rename_i te hte;obtain⟨ei,eu,ez,hei⟩:=Zr (hTB e te (Zl hte));split
    .rename_i d hd;split
     .rename_i hg;rw[hD d hd]at hg
      cases hb:Nat.blt 0 te.size with
      |false=>trivial
      |true=>
       have hpos:0<te.size:=Nat.le_of_ble_eq_true hb;simp only[cond_true];obtain⟨h1,_⟩:=Zc st hE l;obtain⟨h2,_⟩:=Zc st hE c;rcases Zad (opd env' l) (fun m=>intK (opd env' c) (fun m'=>Plan.putIf (0<=m/\m'=m/\m*te.bytes<=140737488355328/\m<=140737488355328) (.val (.one (.row d 0))) d (.row e te.size 0 (replicate m.toNat (te.zero.map cD)) true)) .bad) Plan.bad with ⟨kd,m,g1,g2⟩|g2
       .rw[g2];rcases Zad (opd env' c) (fun m'=>Plan.putIf (0<=m/\m'=m/\m*te.bytes<=140737488355328/\m<=140737488355328) (.val (.one (.row d 0))) d (.row e te.size 0 (replicate m.toNat (te.zero.map cD)) true)) Plan.bad with ⟨kd',m',f1,f2⟩|f2
        .rw[f2];intro ⟨h0,hmm,hby,hmx⟩;subst hmm;rw[g1]at h1;rw[f1]at h2;have el:=Zj h1;have ec:=Zj h2;obtain⟨n,rfl⟩:∃n:Nat,m'=n:=⟨m'.toNat,ω⟩;have hby':ei.bytes*n<=281474976710656:=by
          rw[<-hei.bytes,Nat.mul_comm];have:((n*te.bytes:Nat):Int)<=140737488355328:=by simpa using hby
          omega
         have hlen:n<=maxLen:=by have:=Zb9;omega
         have h63':(n:Int)<=9223372036854775807:=ω;have hb':(ei.bytes:Int)*(n:Int)<=281474976710656:=by
          have h:((ei.bytes*n:Nat):Int)<=281474976710656:=ω
          rwa[Int.natCast_mul]at h
         have hr:=run_make (P:=P) w T e ei ez (hi.slice he) hei.info hei.hz kd kd' n n ω (Int.le_refl _) hb' h63';simp only[Int.toNat_natCast]at hr;have hown:ownsK w0.K (w.alloc (.cells (madeCells ez.cells (n*ei.size)) e)) e ei.size (.slice (some ⟨w.heap.size,0,none⟩) n n) n (madeCells ez.cells (n*ei.size)).toList:=
          Zbd (World.ownsRow_lit w _ n (Nat.zero_le _) hlen (size_madeCells _ _)) fun k hk=>by obtain rfl:=sI hk;exact st.newK (Nat.le_refl _)
         rw[<-hei.size]at hr hown;have hcell:∀k,k<n*te.size->(madeCells ez.cells (n*te.size)).toList[k]? =ez.cells.toList[k%te.size]? :=by
          intro k hk;have h5:k%te.size<ez.cells.size:=by rw[hei.zs,<-hei.size];exact Nat.mod_lt _ hpos
          rw[Array.getElem?_toList,Array.getElem?_toList];unfold madeCells;rw[Array.getElem?_map,Array.getElem?_range,if_pos hk];have h6:ez.cells.size=te.size:=by rw[hei.zs,<-hei.size]
          rw[h6]at h5⊢;simp only[Option.map_some];rw[Array.getElem?_eq_getElem (by rw[h6];exact h5),getElem!_pos ez.cells (k%te.size) (by rw[h6];exact h5)]
         have hzl:(te.zero.map cD).length=te.size:=by rw[hei.zero];simp[hei.zs,hei.size]
         have hld:∀(i j:Nat)(r:List D)(d:D),(replicate n (te.zero.map cD))[i]? =some r->r[j]? =some d->∃y,(madeCells ez.cells (n*te.size)).toList[i*te.size+j]? =some y/\Den w (Stay w0 I0 mem bs w) y d:=by
          intro i j r dd hi' hj;have hin:i<n:=by have:=(gS hi').1;simpa using this
          rw[List.getElem?_replicate,if_pos hin]at hi';obtain rfl:=(sI hi').symm;have hjn:j<te.size:=by rw[<-hzl];exact(gS hj).1
          have hk:i*te.size+j<n*te.size:=by
           have:(i+1)*te.size<=n*te.size:=Nat.mul_le_mul_right _ hin;rw[Nat.add_mul,Nat.one_mul]at this;omega
          rw[hcell _ hk];have h2:(i*te.size+j)%te.size=j:=by rw[Nat.mul_comm,Nat.mul_add_mod,Nat.mod_eq_of_lt hjn]
          rw[h2];rw[getElem?_map,hei.zero,getElem?_map]at hj
          cases hz:ez.cells.toList[j]? with
          |none=>rw[hz]at hj;simp at hj
          |some y=>
           rw[hz]at hj;simp only[Option.map_some,cD,Option.some.injEq]at hj;subst hj;exact⟨y,rfl,Den.v y (hei.zf y (mG hz))⟩
         have key:=Zar (P:=P) st (o:=o) e te.size hpos d 0 [] (replicate n (te.zero.map cD)) [] (madeCells ez.cells (n*te.size)).toList none (by simp) (by rw[List.length_replicate];simp[size_madeCells])
          (fun r hr=>by simp at hr) (fun r hr=>by rw[(List.mem_replicate.1 hr).2];exact hzl) (fun i j r d hi'=>by simp at hi') hld (fun x'=>.inl (by rw[hg];rfl)) (fun h=>by rw[hg]at h;simp[Ob.mut]at h) (fun _=>rfl) (fun k hk=>by simp at hk)
          (v':=.slice (some ⟨w.heap.size,0,none⟩) n n) (w':=w.alloc (.cells (madeCells ez.cells (n*te.size)) e)) (by
           simp only[execOp,ho,el,ec,Sem.run_bind,hr,Result.andThen_ok,Sem.run_pure]) (by simpa using hown) (World.grownBy_alloc w _ none) (.inr rfl)
         exact key
        .rw[f2];trivial
       .rw[g2];trivial
     .trivial
    .trivial
   .trivial
  .trivial
 .trivial
noncomputable def planStoreRow(ty:Ty)(mem:Mem)(b v n i off:Nat)(y:AV):Plan:=
 match mem b with
 | .row T0 n' v' xs true=>bif Nat.beq v v'&&Nat.beq n n' then cellsK y (fun vs=>bif Nat.beq vs.length ty.size&&Nat.ble (off+ty.size) n then dsK mem vs (fun ds=>
   bif Nat.beq off 0&&Nat.beq ty.size n then .putIf (i<xs.length) .junk b (.row T0 n v (xs.set i ds) true)
   else .putIf (i<xs.length) .junk b (.row T0 n v (xs.modify i fun r=>repl r off ds) true)) .bad else .bad) .bad else .bad
 |_=>.bad
noncomputable def planStoreG(TB:List (Nat×Ty))(env:Env)(mem:Mem)(T:Nat)(x y:Operand):Plan:=
 match opd env x with
 | .val (.one (.rp b v n i off))=>match look TB T with
  |some ty=>planStoreRow ty mem b v n i off (opd env y)
  |none=>.bad
 |_=>planStore TB env mem T x y
theorem ZmF{g e:Nat}{cur:Array Value}(h:w.heap[g]? =some (.cells cur e (0,0))):Row w g e cur.toList:=by
 unfold Row;rw[h]
theorem ZhT{TB:List (Nat×Ty)}(hTB:TBok P TB)(st:St w0 I0 nt env mem bs a w)(hE:∀t,env' t= .junk\/env' t=env t)(hM:∀o,mem' o= .gone\/mem' o=mem o)
 (o:Oper)(T:Nat)(x y:Operand)(ho:o.op= .store T x y):SoundPlan P w0 I0 nt env mem a w o (planStoreG TB env' mem' T x y):=by
 have base:=Zjm (P:=P) hTB st hE hM o T x y ho;unfold planStoreG;split
 .rename_i b v n i off hx;split
  .rename_i ty hty;obtain⟨ti,tu,tz,hi⟩:=Zr (hTB T ty (Zl hty));obtain⟨h1,_⟩:=Zc st hE x;obtain⟨g1,_⟩:=Zc st hE y;rw[hx]at h1;unfold planStoreRow;split
   .rename_i T0 n' v' xs hb;have hb':mem b= .row T0 n' v' xs true:=by
     rcases hM b with h|h
     .rw[h]at hb;simp at hb
     .rw[<-h];exact hb
    cases hc:(Nat.beq v v'&&Nat.beq n n') with
    |false=>trivial
    |true=>
     simp only[Bool.and_eq_true]at hc;obtain rfl:=Nat.eq_of_beq_eq_true hc.1;obtain rfl:=Nat.eq_of_beq_eq_true hc.2;simp only[cond_true];have step:∀vs,(opd env' y= .val (.agg vs)\/∃c,opd env' y= .val (.one c)/\vs= [c])->
       SoundPlan P w0 I0 nt env mem a w o (bif Nat.beq vs.length ty.size&&Nat.ble (off+ty.size) n then dsK mem' vs (fun ds=>
        bif Nat.beq off 0&&Nat.beq ty.size n then .putIf (i<xs.length) .junk b (.row T0 n v (xs.set i ds) true)
        else .putIf (i<xs.length) .junk b (.row T0 n v (xs.modify i fun r=>repl r off ds) true)) .bad else .bad):=by
      intro vs hvs
      cases hcond:(Nat.beq vs.length ty.size&&Nat.ble (off+ty.size) n) with
      |false=>trivial
      |true=>
       simp only[Bool.and_eq_true]at hcond;have e1:=Nat.eq_of_beq_eq_true hcond.1;have e2:=Nat.le_of_ble_eq_true hcond.2;simp only[cond_true];rcases Zer st hM vs (fun ds=>bif Nat.beq off 0&&Nat.beq ty.size n then Plan.putIf (i<xs.length) .junk b (.row T0 n v (xs.set i ds) true)
        else .putIf (i<xs.length) .junk b (.row T0 n v (xs.modify i fun r=>repl r off ds) true)) Plan.bad with ⟨ds,f1,f2⟩|f1
       .rw[f1];have hcells:=Zds g1 hvs;have hR:=f2 _ hcells;have hob:=st.obs b;rw[hb']at hob;obtain⟨ys,hown,hn0,hyl,hxl,hdd⟩:=hob;have hcl:(a.eval y).cells.toList.length=ty.size:=by rw[hcells.1,e1]
        have hdl:ds.length=ty.size:=by rw[<-hR.1,hcl]
        have main:i<xs.length->Does P o a w (After w0 I0 nt env (upd mem b (.row T0 n v (xs.modify i fun r=>repl r off ds) true)) a .junk):=by
         intro hlt;obtain⟨g,m,c,e3,e4⟩:=h1.2 _ _ _ hb';rcases hown.2 with ⟨e5,_⟩|⟨g',cap,cur,e5,e6,e7,e8,e9,e10,e11⟩
         .rw[e3]at e5;simp at e5
         .rw[e3]at e5;simp only[Value.slice.injEq,Option.some.injEq,Addr.mk.injEq,and_true]at e5;obtain⟨rfl,rfl,rfl⟩:=e5;have hin:i*n+n<=xs.length*n:=by
           have:(i+1)*n<=xs.length*n:=Nat.mul_le_mul_right _ hlt
           rwa[Nat.add_mul,Nat.one_mul]at this
          have hcap:xs.length*n<=c*n:=Nat.mul_le_mul_right _ e8;have hcsz:cur.toList.length=c*n:=by simp[e10]
          have hrow:=ZmF (w:=w) e7;obtain⟨w',hrun,hrow',hbut⟩:=ZeH (P:=P) (off:=i*n+off) hi hrow (a.eval y) (by simpa using hcl) (by rw[hcsz];omega) (fun u hu=>by
           obtain⟨c',_,hd⟩:=hcells.mem hu;exact hd.flat)
          refine Zfg (w':=w') (by simp[execOp,ho,e4,hrun]) ?_;have hgb:¬w0.K g:=e6;have hbel:Bel w0.K w w':=hbut.bel hgb;have hblkb:blk (bs b)=some g:=by rw[e3];rfl
          have hk:∀k,k<w.heap.size->((mem b).mut=true->blk (bs b)≠some k)->w'.heap[k]? =w.heap[k]? :=by
           intro k _ hne;refine hbut.block k (fun e=>?_);subst e;exact hne (by rw[hb'];rfl) hblkb
          have hxx:∀q,(Ob.row T0 n v (xs.modify i fun r=>repl r off ds) true).mut=true->blk (bs b)=some q->((mem b).mut=true/\blk (bs b)=some q)\/(w.heap.size<=q/\q<w'.heap.size):=fun q _ hq=>.inl ⟨by rw[hb'];rfl,hq⟩;have hv:Turns mem bs b (.row T0 n v (xs.modify i fun r=>repl r off ds) true) (bs b):=.inr (.inr (.inl ⟨T0,n,v,xs,true,T0,n,v,_,true,hb',rfl,Nat.le_refl _,fun _=>⟨rfl,rfl⟩⟩));have K:=st.keeps b (.row T0 n v (xs.modify i fun r=>repl r off ds) true) (bs b) hbel hk hxx hv;refine⟨upd bs b (bs b),st.update b _ (bs b) hbel hk hxx hv rfl (fun p hp=>by simp[Ob.hs]at hp) ⟨repl ys (i*n+off) (a.eval y).cells.toList,⟨?_,.inr ⟨g,c,(repl cur.toList (i*n+off) (a.eval y).cells.toList).toArray,?_,hgb,?_,?_,e9,?_,?_⟩⟩,hn0,?_,?_,?_⟩,trivial,fun p hp=>by simp[AV.hs]at hp⟩
          .rw[Za6,length_modify];exact hyl
          .rw[e3,length_modify]
          .unfold Row at hrow';exact hrow'
          .rw[length_modify];exact e8
          .simp[Za6,e10]
          .simp only[length_modify];rw[Zog _ _ _ _ (by rw[hcl];omega),e11]
          .rw[Za6,length_modify];exact hyl
          .intro r hr;obtain⟨k,hk'⟩:=getElem?_of_mem hr;rw[List.getElem?_modify]at hk'
           cases hq:xs[k]? with
           |none=>rw[hq]at hk';simp at hk'
           |some r0=>
            rw[hq]at hk';simp only[Option.map_eq_map,Option.map_some,Option.some.injEq]at hk';subst hk';have:=hxl r0 (mG hq);split
            .rw[Za6];exact this
            .exact this
          .intro k j r d hk' hj;rw[List.getElem?_modify]at hk'
           cases hq:xs[k]? with
           |none=>rw[hq]at hk';simp at hk'
           |some r0=>
            rw[hq]at hk';simp only[Option.map_eq_map,Option.map_some,Option.some.injEq]at hk';have hr0:=hxl r0 (mG hq);have hkl:k<xs.length:=(gS hq).1;have hjn:j<n:=by
             have:=(gS hj).1;rw[<-hk']at this;split at this
             .rw[Za6]at this;omega
             .omega
            have hkin:k*n+j<ys.length:=by
             have:(k+1)*n<=xs.length*n:=Nat.mul_le_mul_right _ hkl;rw[Nat.add_mul,Nat.one_mul]at this;omega
            rw[Zcv,hcl];by_cases hik:i=k
            .subst hik;simp only[if_true]at hk';subst hk';rw[Zcv,hdl]at hj;by_cases hrange:off<=j/\j<off+ty.size
             .rw[if_pos ω]at hj;rw[if_pos ω];obtain⟨u,hu,hden⟩:=hR.get hj;refine⟨u,?_,Den.mono K.stay hden⟩;rw[<-hu];congr 1;omega
             .rw[if_neg ω]at hj;rw[if_neg ω];obtain⟨u,hu,hden⟩:=hdd i j r0 d hq hj;exact⟨u,hu,Den.mono K.stay hden⟩
            .rw[if_neg hik]at hk';subst hk';have hne:¬(i*n+off<=k*n+j/\k*n+j<i*n+off+ty.size/\k*n+j<ys.length):=by
              rintro⟨h3,h4,_⟩;rcases Nat.lt_or_ge i k with h5|h5
              .have:(i+1)*n<=k*n:=Nat.mul_le_mul_right _ h5;rw[Nat.add_mul,Nat.one_mul]at this;omega
              .have:(k+1)*n<=i*n:=Nat.mul_le_mul_right _ ω;rw[Nat.add_mul,Nat.one_mul]at this;omega
             rw[if_neg hne];obtain⟨u,hu,hden⟩:=hdd k j r0 d hq hj;exact⟨u,hu,Den.mono K.stay hden⟩
        cases hwhole:(Nat.beq off 0&&Nat.beq ty.size n) with
        |false=>exact main
        |true=>
         simp only[Bool.and_eq_true]at hwhole;have w1:=Nat.eq_of_beq_eq_true hwhole.1;have w2:=Nat.eq_of_beq_eq_true hwhole.2;intro hlt;have:=main hlt;have e:(xs.modify i fun r=>repl r off ds)=xs.set i ds:=by
          apply ext_getElem?;intro k;rw[List.getElem?_modify,List.getElem?_set]
          cases hq:xs[k]? with
          |none=>
           have hkl:xs.length<=k:=by simpa using hq
           by_cases hik:i=k
           .omega
           .simp[hik]
          |some r0=>
           have hkl:k<xs.length:=(gS hq).1;by_cases hik:i=k
           .subst hik;have h3:=hxl r0 (mG hq);simp only[if_true,Option.map_eq_map,Option.map_some,hkl];rw[w1,ZsN ω]
           .simp[hik]
         rw[e]at this;exact this
       .rw[f1];trivial
     unfold cellsK;split
     .rename_i c hc;exact step [c] (.inr ⟨c,hc,rfl⟩)
     .rename_i vs hc;exact step vs (.inl hc)
     .trivial
   .trivial
  .trivial
 .exact base
def mx2(m n:Int):Int:=if n >m then n else m
def planMM(env:Env)(mx:Bool)(xs:List Operand):Plan:=
 match xs with
 | [x,y]=>match opd env x with
  | .val (.one (.d (.v (.int k m))))=>match opd env y with
   | .val (.one (.d (.v (.int _ n))))=>match mx with
    |true=>.ret (one (.int k (if n >m then n else m)))
    |false=>.ret (one (.int k (if n<m then n else m)))
   |_=>.bad
  |_=>.bad
 | [x,y,z,u]=>match mx with
  |true=>match opd env x with
   | .val (.one (.d (.v (.int k m))))=>match opd env y with
    | .val (.one (.d (.v (.int _ n))))=>match opd env z with
     | .val (.one (.d (.v (.int _ i))))=>match opd env u with
      | .val (.one (.d (.v (.int _ j))))=>.ret (one (.int k (mx2 (mx2 (mx2 m n) i) j)))
      |_=>.bad
     |_=>.bad
    |_=>.bad
   |_=>.bad
  |false=>.bad
 |_=>.bad
theorem Zh9{P:Program}{w:World}(ts:Array TypeId)(t:TypeId)(k k' k'' k3:IntKind)(m n i j:Int):(Builtin.max_ ts t #[.int k m,.int k' n,.int k'' i,.int k3 j]).run P w= .ok (.int k (mx2 (mx2 (mx2 m n) i) j)) w:=by
 simp[Builtin.max_,Builtin.max2,mx2]
theorem ZkR(st:St w0 I0 nt env mem bs a w)(hE:∀t,env' t= .junk\/env' t=env t)(o:Oper)(mx:Bool)(xs:List Operand)(ts:Array TypeId)
 (ho:o.op= .call { callee:=.builtin (if mx then .max else .min),args:=⟨xs⟩,argTypes:=ts }):SoundPlan P w0 I0 nt env mem a w o (planMM env' mx xs):=by
 unfold planMM;split
 .rename_i x y;obtain⟨h1,_⟩:=Zc st hE x;obtain⟨g1,_⟩:=Zc st hE y;split
  .rename_i k m hm;rw[hm]at h1;have e1:=Zj h1;split
   .rename_i k' n hn;rw[hn]at g1;have e2:=Zj g1;split
    .exact Za _ (Z1 ho (by simp[builtin,e1,e2,run_max_int2])) (Zf st (Den.v _ rfl) (fun p hp=>by simp[one,AV.hs,S.hs,C.hs]at hp))
    .exact Za _ (Z1 ho (by simp[builtin,e1,e2,run_min_int2])) (Zf st (Den.v _ rfl) (fun p hp=>by simp[one,AV.hs,S.hs,C.hs]at hp))
   .trivial
  .trivial
 .rename_i x y z u;obtain⟨h1,_⟩:=Zc st hE x;obtain⟨g1,_⟩:=Zc st hE y;obtain⟨f1,_⟩:=Zc st hE z;obtain⟨d1,_⟩:=Zc st hE u;split
  .split
   .rename_i k m hm;rw[hm]at h1;have e1:=Zj h1;split
    .rename_i k' n hn;rw[hn]at g1;have e2:=Zj g1;split
     .rename_i k3 i hi;rw[hi]at f1;have e3:=Zj f1;split
      .rename_i k4 j hj;rw[hj]at d1;have e4:=Zj d1;exact Za _ (Z1 ho (by simp[builtin,e1,e2,e3,e4,Zh9])) (Zf st (Den.v _ rfl) (fun p hp=>by simp[one,AV.hs,S.hs,C.hs]at hp))
      .trivial
     .trivial
    .trivial
   .trivial
  .trivial
 .trivial
end
section
variable{P:Program}{G:World->Prop}{w0:Base}{I0:Nat->Prop}{nt:Shape}{env env':Env}{mem mem':Mem}{bs:Bs}{a:Act}{w:World}
def planSliceOwn(TB:List (Nat×Ty))(env:Env)(T:TypeId)(h:Operand)(o v T0 n v':Nat)(xs:List (List D)):Plan:=
 match look TB T with
 |some ty=>match ty.elem with
  |some e=>match look TB e with
   |some te=>bif Nat.beq v v'&&(Nat.beq T0 e&&Nat.beq n te.size) then intK (opd env h) (fun m=>.putIf (0<=m/\m<=(xs.length:Int)) (.val (.one (.row o (v+1)))) o (.row T0 n (v+1) (xs.take m.toNat) true)) .bad else .bad
   |none=>.bad
  |none=>.bad
 |none=>.bad
def planSliceZ(TB:List (Nat×Ty))(env:Env)(mem:Mem)(T:TypeId)(x h k:Operand):Plan:=
 match look TB T with
 |some ty=>match ty.elem with
  |some e=>match look TB e with
   |some _=>intK (opd env h) (fun m=>intK (opd env k) (fun m'=>listK mem (opd env x) (fun _=>.ask fun r=>m=0/\m'=0/\r= .val (.one (.full []))) .bad) .bad) .bad
   |none=>.bad
  |none=>.bad
 |none=>.bad
theorem ZhU{TB:List (Nat×Ty)}(hTB:TBok P TB)(st:St w0 I0 nt env mem bs a w)(hE:∀t,env' t= .junk\/env' t=env t)(hM:∀o,mem' o= .gone\/mem' o=mem o)
 (o:Oper)(T:TypeId)(x h k:Operand)(ho:o.op= .slice T x none (some h) (some k)):SoundPlan P w0 I0 nt env mem a w o (planSliceZ TB env' mem' T x h k):=by
 obtain⟨h1,_⟩:=Zc st hE x;unfold planSliceZ;split
 .rename_i ty hty;obtain⟨ti,tu,tz,hi⟩:=Zr (hTB T ty (Zl hty));split
  .rename_i e he;split
   .rename_i te hte;obtain⟨ei,eu,ez,hei⟩:=Zr (hTB e te (Zl hte));have hu:=hi.slice he;rcases Zad (opd env' h) (fun m=>intK (opd env' k) (fun m'=>listK mem' (opd env' x) (fun _=>Plan.ask fun r=>m=0/\m'=0/\r= .val (.one (.full []))) .bad) .bad) Plan.bad with ⟨kd,m,ev,e1⟩|e1
    .rw[e1];rcases Zad (opd env' k) (fun m'=>listK mem' (opd env' x) (fun _=>Plan.ask fun r=>m=0/\m'=0/\r= .val (.one (.full []))) .bad) Plan.bad with ⟨kd',m',ev',e1'⟩|e1'
     .rw[e1'];rcases ZaY st hM (opd env' x) (fun _=>Plan.ask fun r=>m=0/\m'=0/\r= .val (.one (.full []))) Plan.bad with ⟨xs,e2,hx⟩|e2
      .rw[e2];intro r ⟨b1,b2,hr⟩;subst hr b1 b2;obtain⟨g1,_⟩:=Zc st hE h;obtain⟨g2,_⟩:=Zc st hE k;rw[ev]at g1;rw[ev']at g2;have em:=Zj g1;have em':=Zj g2;obtain⟨ad,c,ex⟩:=Zfi (hx _ h1);refine Za (.slice ad 0 0) ?_ (Zf st ⟨Den.nil ad 0,ad,rfl⟩ (fun p hp=>by simp[AV.hs,S.hs,C.hs]at hp));have hrun:(Instr.sliceAt T (.slice ad xs.length c) none (some (.int kd 0)) (some (.int kd' 0))).run P w= .ok (.slice ad 0 0) w:=by
        simp[Instr.sliceAt,Instr.slice,run_underlying hu,Instr.sliceBounds,Instr.sliceBound,asIntOf,hei.run_size]
       simp only[execOp,ho,ex,em,em',Option.map_some,Option.map_none,Sem.run_bind,hrun,Result.andThen_ok,Sem.run_pure]
      .rw[e2];trivial
     .rw[e1'];trivial
    .rw[e1];trivial
   .trivial
  .trivial
 .trivial
def planSliceH(TB:List (Nat×Ty))(env:Env)(mem:Mem)(T:TypeId)(x:Operand)(lo hi mx:Option Operand):Plan:=
 match lo,hi,mx with
 |none,some h,some k=>planSliceZ TB env mem T x h k
 |_,_,_=>planSlice TB env mem T x lo hi mx
theorem ZhV{TB:List (Nat×Ty)}(hTB:TBok P TB)(st:St w0 I0 nt env mem bs a w)(hE:∀t,env' t= .junk\/env' t=env t)(hM:∀o,mem' o= .gone\/mem' o=mem o)
 (o:Oper)(T:TypeId)(x:Operand)(lo hi mx:Option Operand)(ho:o.op= .slice T x lo hi mx):SoundPlan P w0 I0 nt env mem a w o (planSliceH TB env' mem' T x lo hi mx):=by
 unfold planSliceH;split
 .exact ZhU hTB st hE hM o T x _ _ ho
 .exact Zjn hTB st hE hM o T x lo hi mx ho
def planSliceG(TB:List (Nat×Ty))(env:Env)(mem:Mem)(T:TypeId)(x:Operand)(lo hi mx:Option Operand):Plan:=
 match opd env x with
 | .val (.one (.row o v))=>match mem o with
  | .row T0 n v' xs true=>match lo,hi,mx with
   |none,some h,none=>planSliceOwn TB env T h o v T0 n v' xs
   |_,_,_=>.bad
  |_=>planSliceH TB env mem T x lo hi mx
 |_=>planSliceH TB env mem T x lo hi mx
theorem ZhW{TB:List (Nat×Ty)}(hTB:TBok P TB)(st:St w0 I0 nt env mem bs a w)(hE:∀t,env' t= .junk\/env' t=env t)(hM:∀o,mem' o= .gone\/mem' o=mem o)
 (o:Oper)(T:TypeId)(x:Operand)(lo hi mx:Option Operand)(ho:o.op= .slice T x lo hi mx):SoundPlan P w0 I0 nt env mem a w o (planSliceG TB env' mem' T x lo hi mx):=by
 have base:=ZhV hTB st hE hM o T x lo hi mx ho;unfold planSliceG;split
 .rename_i ob v hx;split
  .rename_i T0 n v' xs hb;obtain⟨h1,h2⟩:=Zc st hE x;rw[hx]at h1 h2;have hb':mem ob= .row T0 n v' xs true:=by
    rcases hM ob with h|h
    .rw[h]at hb;simp at hb
    .rw[<-h];exact hb
   split
   .rename_i h;unfold planSliceOwn;split
    .rename_i ty hty;obtain⟨ti,tu,tz,hi⟩:=Zr (hTB T ty (Zl hty));split
     .rename_i e he;split
      .rename_i te hte;obtain⟨ei,eu,ez,hei⟩:=Zr (hTB e te (Zl hte));have hu:=hi.slice he
       cases hc:(Nat.beq v v'&&(Nat.beq T0 e&&Nat.beq n te.size)) with
       |false=>trivial
       |true=>
        simp only[Bool.and_eq_true]at hc;obtain rfl:=Nat.eq_of_beq_eq_true hc.1;obtain rfl:=Nat.eq_of_beq_eq_true hc.2.1;have hn:=Nat.eq_of_beq_eq_true hc.2.2;simp only[cond_true];rcases Zad (opd env' h) (fun m=>Plan.putIf (0<=m/\m<=(xs.length:Int)) (.val (.one (.row ob (v+1)))) ob (.row T0 n (v+1) (xs.take m.toNat) true)) Plan.bad with ⟨kd,m,ev,e1⟩|e1
        .rw[e1];intro ⟨b1,b2⟩;obtain⟨g1,_⟩:=Zc st hE h;rw[ev]at g1;have em:=Zj g1;have ex:a.eval x=bs ob:=h1.2 _ _ _ _ hb';have hob:=st.obs ob;rw[hb']at hob;obtain⟨ys,hown,hn0,hyl,hxl,hdd⟩:=hob;have hmx:m.toNat<=xs.length:=ω;have hmn:m.toNat*n<=xs.length*n:=Nat.mul_le_mul_right _ hmx;obtain⟨x',hrun,hown',hblk⟩:∃x',(Instr.sliceAt T (bs ob) none (some (.int kd m)) none).run P w= .ok x' w/\ownsK w0.K w T0 n x' m.toNat (ys.take (m.toNat*n))/\x'.ownBlock=(bs ob).ownBlock:=by
          rcases hown.2 with ⟨e2,e3⟩|⟨g,cap,cur,e2,e3,e4,e5,e6,e7,e8⟩
          .have hm0:m=0:=ω;subst hm0;refine⟨.slice none 0 0,?_,?_,by rw[e2]⟩
           .rw[e2];simp[Instr.sliceAt,Instr.slice,run_underlying hu,Instr.sliceBounds,Instr.sliceBound,asIntOf,hei.run_size]
           .simpa using Zc8 w0.K w T0 n
          .have hle:0<=m/\m<=(cap:Int):=⟨b1,ω⟩;refine⟨.slice (some ⟨g,0,none⟩) m.toNat cap,?_,⟨by rw[length_take];omega,.inr ⟨g,cap,cur,rfl,e3,e4,ω,e6,e7,?_⟩⟩,by rw[e2];rfl⟩
           .rw[e2];simp[Instr.sliceAt,Instr.slice,run_underlying hu,Instr.sliceBounds,Instr.sliceBound,asIntOf,hle,hei.run_size];intro _;simp[Addr.add]
           .rw[<-e8,List.take_take,Nat.min_eq_left hmn]
         have key:=Zar (P:=P) st (o:=o) T0 n hn0 ob (v+1) (xs.take m.toNat) [] (ys.take (m.toNat*n)) [] (bs ob).ownBlock (by rw[length_take,length_take,Nat.min_eq_left hmx,Nat.min_eq_left ω]) (by simp)
          (fun r hr=>hxl r (mem_of_mem_take hr)) (fun r hr=>by simp at hr) (fun i j r d hi' hj=>by
           have him:i<m.toNat:=by have:=(gS hi').1;rw[length_take]at this;omega
           rw[List.getElem?_take_of_lt him]at hi';have hjn:j<n:=by rw[<-hxl r (mG hi')];exact(gS hj).1
           obtain⟨y,hy,hd⟩:=hdd i j r d hi' hj;have hk:i*n+j<m.toNat*n:=by
            have:(i+1)*n<=m.toNat*n:=Nat.mul_le_mul_right _ him;rw[Nat.add_mul,Nat.one_mul]at this;omega
           exact⟨y,by rw[List.getElem?_take_of_lt hk];exact hy,hd⟩) (fun i j r d hi'=>by simp at hi')
          (fun x'=>.inr (.inr (.inl ⟨T0,n,v,xs,true,T0,n,v+1,_,true,hb',rfl,Nat.le_succ _,fun e=>ω⟩)))
          (fun _=>?_) (fun hm=>by rw[hb']at hm;simp[Ob.mut]at hm) (fun k hk=>hown.not hk)
          (v':=x') (w':=w) (by simp only[execOp,ho,ex,em,Option.map_some,Option.map_none,Sem.run_bind,hrun,Result.andThen_ok,Sem.run_pure])
          (by rw[length_take,Nat.min_eq_left hmx,List.append_nil];exact hown') ⟨rfl,rfl,rfl,Nat.le_refl _,fun _ _ _=>rfl⟩ (.inl hblk)
         .simpa using key
         .rcases hown.2 with ⟨e2,_⟩|⟨g,cap,cur,e2,_⟩<;>rw[e2]<;>rfl
        .rw[e1];trivial
      .trivial
     .trivial
    .trivial
   .trivial
  .exact base
 .exact base
end
section
variable{P:Program}{G:World->Prop}{w0:Base}{I0:Nat->Prop}{nt:Shape}{env env':Env}{mem mem':Mem}{bs:Bs}{a:Act}{w:World}
def planAppendZ(P:Program)(TB:List (Nat×Ty))(env:Env)(mem:Mem)(dst:Option Nat)(t t':TypeId)(s x:Operand):Plan:=
 match opd env s with
 | .val (.one (.d (.v (.slice none 0 0))))=>match look TB t with
  |some ty=>match ty.elem with
   |some e=>match look TB e with
    |some te=>match dst with
     |some d=>match mem d with
      | .gone=>bif Nat.blt 0 te.size then intK (opd env x) (fun m=>.putIf ((∃kn,P.underlying t'=some (.int kn))/\0<m/\m*te.bytes<=140737488355328/\m<=140737488355328) (.val (.one (.row d 0))) d (.row e te.size 0 (replicate m.toNat (te.zero.map cD)) true)) .bad else .bad
      |_=>.bad
     |none=>.bad
    |none=>.bad
   |none=>.bad
  |none=>.bad
 |_=>.bad
def planAppendG(P:Program)(TB:List (Nat×Ty))(env:Env)(mem:Mem)(dst:Option Nat)(ts:List TypeId)(xs:List Operand):Plan:=
 match xs,ts with
 | [s,x], [t,t']=>bif Nat.beq t t' then planAppend TB env mem dst [t,t'] [s,x] else planAppendZ P TB env mem dst t t' s x
 |_,_=>.bad
theorem ZgF{TB:List (Nat×Ty)}(hTB:TBok P TB)(st:St w0 I0 nt env mem bs a w)(hE:∀t,env' t= .junk\/env' t=env t)(hM:∀o,mem' o= .gone\/mem' o=mem o)
 (o:Oper)(xs:List Operand)(ts:List TypeId)(ho:o.op= .call { callee:=.builtin .append,args:=⟨xs⟩,argTypes:=⟨ts⟩ })(hD:∀d,o.dst=some d->mem' d=mem d):SoundPlan P w0 I0 nt env mem a w o (planAppendG P TB env' mem' o.dst ts xs):=by
 unfold planAppendG;split
 .rename_i s x t t'
  cases htt:Nat.beq t t' with
  |true=>exact Zh0 hTB st hE hM o [s,x] [t,t'] ho hD
  |false=>
   simp only[cond_false];unfold planAppendZ;split
   .rename_i hs;split
    .rename_i ty hty;obtain⟨ti,tu,tz,hi⟩:=Zr (hTB t ty (Zl hty));split
     .rename_i e he;split
      .rename_i te hte;obtain⟨ei,eu,ez,hei⟩:=Zr (hTB e te (Zl hte));split
       .rename_i d hd;split
        .rename_i hg;rw[hD d hd]at hg
         cases hb:Nat.blt 0 te.size with
         |false=>trivial
         |true=>
          have hpos:0<te.size:=Nat.le_of_ble_eq_true hb;simp only[cond_true];obtain⟨h1,_⟩:=Zc st hE s;obtain⟨h2,_⟩:=Zc st hE x;rw[hs]at h1;have es:=Zj h1;rcases Zad (opd env' x) (fun m=>Plan.putIf ((∃kn,P.underlying t'=some (.int kn))/\0<m/\m*te.bytes<=140737488355328/\m<=140737488355328) (.val (.one (.row d 0))) d (.row e te.size 0 (replicate m.toNat (te.zero.map cD)) true)) Plan.bad with ⟨kd,m,g1,g2⟩|g2
          .rw[g2];intro ⟨⟨kn,htn⟩,h0,hby,hmx⟩;rw[g1]at h2;have ex:=Zj h2;obtain⟨n,rfl⟩:∃n:Nat,m=n:=⟨m.toNat,ω⟩;simp only[Int.toNat_natCast];have hby':n*ei.bytes<=140737488355328:=by
            rw[<-hei.bytes];have:((n*te.bytes:Nat):Int)<=140737488355328:=by simpa using hby
            omega
           have hlen:n<=maxLen:=by have:=Zb9;omega
           have hr:=Go.Lib.run_append_nil_zeros (P:=P) w t t' o.type e ei ez kd kn (hi.slice he) htn hei.info hei.hz n ω (by rw[<-hei.size];exact hpos) ω ω;have hzs:ez.cells.size=te.size:=by rw[hei.zs,<-hei.size]
           have hzlen:(Builtin.zeroCells ez.cells n).toList.length=n*te.size:=by rw[Array.length_toList,size_zeroCells,hzs]
           have hown:ownsK w0.K (w.drew.alloc (.cells (Builtin.zeroCells ez.cells n++Builtin.zeroCells ez.cells (grownCap w n 0 e-n)) e)) e te.size (.slice (some ⟨w.heap.size,0,none⟩) n (grownCap w n 0 e)) n (Builtin.zeroCells ez.cells n).toList:=by
            have hge:=grownCap_ge w n 0 e;have hcm:grownCap w n 0 e<=maxLen:=grownCap_le_maxLen w n 0 e hlen;refine⟨hzlen,.inr ⟨w.heap.size,_,_,rfl,st.newK (Nat.le_refl _),heap_alloc_new w.drew _,hge,hcm,?_,?_⟩⟩
            .simp only[Array.size_append,size_zeroCells,hzs,<-Nat.add_mul];congr 1;omega
            .simp only[Array.toList_append];rw[<-hzlen];exact List.take_left
           have hgrow:w.grownBy (w.drew.alloc (.cells (Builtin.zeroCells ez.cells n++Builtin.zeroCells ez.cells (grownCap w n 0 e-n)) e)) none:=
            ⟨rfl,rfl,rfl,by simp,fun k hk _=>heap_alloc_old w.drew _ hk⟩
           have hcell:∀k,k<n*te.size->(Builtin.zeroCells ez.cells n).toList[k]? =ez.cells.toList[k%te.size]? :=by
            intro k hk;have h5:k%te.size<ez.cells.size:=by rw[hzs];exact Nat.mod_lt _ hpos
            rw[Array.getElem?_toList,Array.getElem?_toList];unfold Builtin.zeroCells;rw[hzs];rw[Array.getElem?_map,Array.getElem?_range,if_pos hk];simp only[Option.map_some];rw[Array.getElem?_eq_getElem h5,getElem!_pos ez.cells (k%te.size) h5]
           have hzl:(te.zero.map cD).length=te.size:=by rw[hei.zero];simp[hei.zs,hei.size]
           have hld:∀(i j:Nat)(r:List D)(d:D),(replicate n (te.zero.map cD))[i]? =some r->r[j]? =some d->∃y,(Builtin.zeroCells ez.cells n).toList[i*te.size+j]? =some y/\Den w (Stay w0 I0 mem bs w) y d:=by
            intro i j r dd hi' hj;have hin:i<n:=by have:=(gS hi').1;simpa using this
            rw[List.getElem?_replicate,if_pos hin]at hi';obtain rfl:=(sI hi').symm;have hjn:j<te.size:=by rw[<-hzl];exact(gS hj).1
            have hk:i*te.size+j<n*te.size:=by
             have:(i+1)*te.size<=n*te.size:=Nat.mul_le_mul_right _ hin;rw[Nat.add_mul,Nat.one_mul]at this;omega
            rw[hcell _ hk];have h2:(i*te.size+j)%te.size=j:=by rw[Nat.mul_comm,Nat.mul_add_mod,Nat.mod_eq_of_lt hjn]
            rw[h2];rw[getElem?_map,hei.zero,getElem?_map]at hj
            cases hz:ez.cells.toList[j]? with
            |none=>rw[hz]at hj;simp at hj
            |some y=>
             rw[hz]at hj;simp only[Option.map_some,cD,Option.some.injEq]at hj;subst hj;exact⟨y,rfl,Den.v y (hei.zf y (mG hz))⟩
           have key:=Zar (P:=P) st (o:=o) e te.size hpos d 0 [] (replicate n (te.zero.map cD)) [] (Builtin.zeroCells ez.cells n).toList none (by simp) (by rw[List.length_replicate,hzlen])
            (fun r hr=>by simp at hr) (fun r hr=>by rw[(List.mem_replicate.1 hr).2];exact hzl) (fun i j r d hi'=>by simp at hi') hld (fun x'=>.inl (by rw[hg];rfl)) (fun h=>by rw[hg]at h;simp[Ob.mut]at h) (fun _=>rfl) (fun k hk=>by simp at hk)
            (v':=.slice (some ⟨w.heap.size,0,none⟩) n (grownCap w n 0 e)) (w':=w.drew.alloc (.cells (Builtin.zeroCells ez.cells n++Builtin.zeroCells ez.cells (grownCap w n 0 e-n)) e)) (Z1 ho (by simp only[builtin,Sem.run_bind,map_toArray,map_cons,map_nil,es,ex,hr,Result.andThen_ok,Sem.run_pure])) (by simpa using hown) hgrow (.inr rfl)
           exact key
          .rw[g2];trivial
        .trivial
       .trivial
      .trivial
     .trivial
    .trivial
   .trivial
 .trivial
end
section
variable{P:Program}{G:World->Prop}{w0:Base}{I0:Nat->Prop}{nt:Shape}{env env':Env}{mem mem':Mem}{bs:Bs}{a:Act}{w:World}
def ownT:List Nat->Option Nat->Bool
 | [],_=>false
 |x::r,some d=>bif Nat.beq x d then true else ownT r (some d)
 |_,none=>false
def planBuildOwn(TB:List (Nat×Ty))(env:Env)(mem:Mem)(dst:Option Nat)(T:TypeId)(n:Nat)(parts:List (Nat×Operand)):Plan:=
 match look TB T with
 |some ty=>match ty.elem with
  |some e=>match look TB e with
   |some te=>match dst with
    |some d=>match mem d with
     | .gone=>bif Nat.beq parts.length n&&(Nat.blt 0 te.size&&Nat.ble (n*te.size) 16777216) then elemsK env mem te.size parts 0 (fun xs=>.putIf True (.val (.one (.row d 0))) d (.row e te.size 0 xs true)) .bad else .bad
     |_=>.bad
    |none=>.bad
   |none=>.bad
  |none=>.bad
 |none=>.bad
theorem Zfu{TB:List (Nat×Ty)}(hTB:TBok P TB)(st:St w0 I0 nt env mem bs a w)(hE:∀t,env' t= .junk\/env' t=env t)(hM:∀o,mem' o= .gone\/mem' o=mem o)
 (o:Oper)(T:TypeId)(n:Nat)(parts:Array (Nat×Operand))(ho:o.op= .buildSlice T n parts)(hD:∀d,o.dst=some d->mem' d=mem d):SoundPlan P w0 I0 nt env mem a w o (planBuildOwn TB env' mem' o.dst T n parts.toList):=by
 unfold planBuildOwn;split
 .rename_i ty hty;obtain⟨ti,tu,tz,hi⟩:=Zr (hTB T ty (Zl hty));split
  .rename_i e he;split
   .rename_i te hte;obtain⟨ei,eu,ez,hei⟩:=Zr (hTB e te (Zl hte));split
    .rename_i d hd;split
     .rename_i hg;rw[hD d hd]at hg
      cases hcond:(Nat.beq parts.toList.length n&&(Nat.blt 0 te.size&&Nat.ble (n*te.size) 16777216)) with
      |false=>trivial
      |true=>
       simp only[Bool.and_eq_true]at hcond;have hn:=Nat.eq_of_beq_eq_true hcond.1;have hpos:0<te.size:=Nat.le_of_ble_eq_true hcond.2.1;have hsm:=Nat.le_of_ble_eq_true hcond.2.2;simp only[cond_true];rcases ZcT (size:=te.size) st hE hM parts.toList 0 (fun xs=>Plan.putIf True (.val (.one (.row d 0))) d (.row e te.size 0 xs true)) Plan.bad with ⟨xs,e1,e2,e3⟩|e1
       .rw[e1];intro _;have hvl:(parts.toList.map fun p=>a.eval p.2).length=n:=by simpa using hn
        have hxl:xs.length=n:=by rw[<-e2.1,hvl]
        have hsz:∀v,v∈(parts.toList.map fun p=>a.eval p.2)->v.cells.size=te.size:=fun v hv=>by obtain⟨r,_,h⟩:=e2.mem hv;exact h.1
        have hflat:((parts.toList.map fun p=>a.eval p.2).flatMap fun v=>v.cells.toList).length=n*te.size:=by
         have:∀(l:List Value),(∀v,v∈l->v.cells.size=te.size)->(l.flatMap fun v=>v.cells.toList).length=l.length*te.size:=by
          intro l
          induction l with
          |nil=>intro _;simp
          |cons v l ih=>
           intro h;rw[List.flatMap_cons,length_append,ih (fun x hx=>h x (by simp[hx])),length_cons,Nat.add_mul,Nat.one_mul,Nat.add_comm];congr 1;simpa using h v (by simp)
         rw[this _ hsz,hvl]
        have hrun:(Instr.buildSlice T n (parts.map fun (i,x)=>(i,a.eval x))).run P w= .ok (.slice (some ⟨w.heap.size,0,none⟩) n n) (w.alloc (.cells ((parts.toList.map fun p=>a.eval p.2).flatMap fun v=>v.cells.toList).toArray e)):=by
         by_cases h0:n*te.size=0
         .have hn0:n=0:=by rcases Nat.mul_eq_zero.1 h0 with h|h<;>omega
          subst hn0;have hp0:parts=#[]:=by
           have:parts.toList= []:=eq_nil_of_length_eq_zero hn;exact Array.toList_inj.1 (by rw[this])
          subst hp0;have hu:=hi.slice he;simp[Instr.buildSlice,run_underlying hu,hei.run_size,newRow,Instr.fill];rw[Array.eq_empty_of_size_eq_zero (xs:=Array.map _ (Array.range 0)) (by simp)]
         .refine run_buildSlice w T e n _ _ ei ez (hi.slice he) hei.info hei.hz (by rw[<-hei.size];omega) (by rw[<-hei.size];exact h0) ?_;have hp:(parts.map fun (i,x)=>(i,a.eval x)).toList=((parts.toList.map fun p=>a.eval p.2).zipIdx 0).map fun x=>(x.2,x.1):=by
           rw[<-e3];simp
          rw[hp,<-hei.size];exact Great.fill_whole hpos _ _ hsz (by rw[hvl];simp)
        have hnl:n<=maxLen:=by
         have h1:n*1<=n*te.size:=Nat.mul_le_mul_left _ hpos;have:=Zb9;omega
        have hown:ownsK w0.K (w.alloc (.cells ((parts.toList.map fun p=>a.eval p.2).flatMap fun v=>v.cells.toList).toArray e)) e te.size (.slice (some ⟨w.heap.size,0,none⟩) n n) n ((parts.toList.map fun p=>a.eval p.2).flatMap fun v=>v.cells.toList):=by
         have:=World.ownsRow_lit w (((parts.toList.map fun p=>a.eval p.2).flatMap fun v=>v.cells.toList).toArray) n (base:=0) (e:=e) (size:=te.size) (Nat.zero_le _) hnl (by simpa using hflat);exact Zbd (by simpa using this) fun k hk=>by obtain rfl:=sI hk;exact st.newK (Nat.le_refl _)
        have hld:∀(i j:Nat)(r:List D)(dd:D),xs[i]? =some r->r[j]? =some dd->∃y,((parts.toList.map fun p=>a.eval p.2).flatMap fun v=>v.cells.toList)[i*te.size+j]? =some y/\Den w (Stay w0 I0 mem bs w) y dd:=by
         intro i j r dd hr hj';obtain⟨v,hv,h1,h2,h3⟩:=e2.get hr;obtain⟨y,hy,hden⟩:=h3.get hj';have hj:j<te.size:=by rw[<-h2];exact(gS hj').1
         refine⟨y,?_,hden⟩;rw[Great.flat_get hpos _ hsz];have h4:(i*te.size+j)/te.size=i:=by rw[Nat.mul_comm,Nat.mul_add_div hpos,Nat.div_eq_of_lt hj,Nat.add_zero]
         have h5:(i*te.size+j)%te.size=j:=by rw[Nat.mul_comm,Nat.mul_add_mod,Nat.mod_eq_of_lt hj]
         rw[h4,h5,hv,Option.bind_some];simpa using hy
        have key:=Zar (P:=P) st (o:=o) e te.size hpos d 0 [] xs [] ((parts.toList.map fun p=>a.eval p.2).flatMap fun v=>v.cells.toList) none (by simp) (by rw[hflat,hxl])
         (fun r hr=>by simp at hr) (fun r hr=>by obtain⟨i,hi'⟩:=getElem?_of_mem hr;obtain⟨v,_,hv⟩:=e2.get hi';exact hv.2.1) (fun i j r d hi'=>by simp at hi') hld (fun x'=>.inl (by rw[hg];rfl)) (fun h=>by rw[hg]at h;simp[Ob.mut]at h) (fun _=>rfl) (fun k hk=>by simp at hk)
         (v':=.slice (some ⟨w.heap.size,0,none⟩) n n) (w':=w.alloc (.cells ((parts.toList.map fun p=>a.eval p.2).flatMap fun v=>v.cells.toList).toArray e)) (by
          simp only[execOp,ho,Sem.run_bind,hrun,Result.andThen_ok];rfl) (by simpa[hxl]using hown) (World.grownBy_alloc w _ none) (.inr rfl)
        exact key
       .rw[e1];trivial
     .trivial
    .trivial
   .trivial
  .trivial
 .trivial
end
