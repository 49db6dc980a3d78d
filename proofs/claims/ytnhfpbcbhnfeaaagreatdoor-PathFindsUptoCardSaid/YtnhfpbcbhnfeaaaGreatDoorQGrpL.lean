/- Joined by wip/bundle.py: XAbs XTck0 XWay0. -/
import Derived.Test.YtnhfpbcbhnfeaaaGreatDoorQFore0
namespace Go.Proofs.YtnhfpbcbhnfeaaaGreatDoor.eng
open Go.RowKit num mem seg q held ratA ratB ratC ratD ratE vars ratF natC natD natI
section
variable{K:AV->Prop}{x:RV}{q:Rat}
def absV(p:Rat):Rat:=if p.num<0 then -p else p
theorem Zwb(p:Rat):qs (absV p)=qs p:=by
 unfold absV;split
 .exact ZbY p
 .rfl
theorem Zwd(p:Rat):q3 (absV p)= .val (.agg [.d (.v (.bool false)),.d (.list (W (w32 p.num.natAbs))),.d (.list (W (w32 p.den)))]):=by
 unfold q3 absV;split
 .rename_i h;rw[Rat.neg_num,Rat.neg_den,Int.natAbs_neg,decide_eq_false ω]
 .rename_i h;rw[decide_eq_false h]
theorem ZwP(k:∀r,r=absV q->qs r<=qs q->K (q3 r)):Ask 72 [q3 q] K:=by
 refine use (r:=q3 (absV q)) (Zb Tryz.func72 Tryz.ntmps72 ?_) rfl (k _ rfl (Nat.le_of_eq (Zwb q)));refine Eq.trans (b:=.val (.agg [.d (.v (.bool false)),.d (.list (W (w32 q.num.natAbs))),.d (.list (W (w32 q.den)))])) ?_ rfl;rw[Zwd]
end
def firstE(f:Nat->Int):Nat->Int
 |0=>0
 |n+1=>if firstE f n=0 then f n else firstE f n
theorem Zhn{f:Nat->Int}:∀{n:Nat},(∀j,j<n->f j=0)->firstE f n=0
 |0,_=>rfl
 |n+1,h=>by
  unfold firstE;rw[if_pos (Zhn fun j hj=>h j ω),h n ω]
theorem ZiK{f:Nat->Int}{i:Nat}(h:∀j,j<i->f j=0)(hi:f i≠0):∀{n:Nat},i<n->firstE f n=f i
 |0,hn=>absurd hn ω
 |n+1,hn=>by
  unfold firstE;by_cases e:i=n
  .subst e;rw[if_pos (Zhn h)]
  .rw[ZiK h hi (n:=n) ω,if_neg hi]
theorem ZI{A:ArmV}{q:List RV}(h:fitsE A q=0):q.length=A.links.length/\armE A=0:=by
 unfold fitsE at h;by_cases g:hasE A (q.length:Int)=0
 .obtain⟨h1,h2⟩:=ZaG.1 g;exact⟨ω,h1⟩
 .rw[if_neg g]at h;exact absurd h g
def farU(a:ArmV)(q:List RV)(n:Nat):Prop:=∃(i:Nat)(l:LinkV)(x:RV),i<n/\a.links[i]? =some l/\q[i]? =some x/\(x.q<l.low.q\/l.high.q<x.q)
open Classical in
noncomputable def ffE(a:ArmV)(q:List RV)(n:Nat):Int:=if hasE a (q.length:Int)=0 then (if farU a q n then 17 else 0) else hasE a (q.length:Int)
theorem ZzY(a:ArmV)(q:List RV):ffE a q 0=hasE a (q.length:Int):=by
 unfold ffE;by_cases h:hasE a (q.length:Int)=0
 .rw[if_pos h,if_neg (by rintro⟨i,_,_,hi,_⟩;omega),h]
 .rw[if_neg h]
theorem Zw5{a:ArmV}{q:List RV}{n:Nat}(hn:q.length<=n):ffE a q n=fitsE a q:=by
 have:farU a q n↔farQ a q:=⟨fun ⟨i,l,x,_,h⟩=>⟨i,l,x,h⟩,fun ⟨i,l,x,h1,h2,h3⟩=>⟨i,l,x,by have:=(gS h2).1;omega,h1,h2,h3⟩⟩;unfold ffE fitsE;by_cases h:hasE a (q.length:Int)=0
 .rw[if_pos h,if_pos h];by_cases g:farQ a q
  .rw[if_pos (this.2 g),if_pos g]
  .rw[if_neg (fun e=>g (this.1 e)),if_neg g]
 .rw[if_neg h,if_neg h]
theorem Zq1{a:ArmV}{q:List RV}{n:Nat}(h:ffE a q n=0):hasE a (q.length:Int)=0/\¬farU a q n:=by
 unfold ffE at h;by_cases g:hasE a (q.length:Int)=0
 .rw[if_pos g]at h;refine⟨g,fun f=>?_⟩;rw[if_pos f]at h;exact absurd h ωd
 .rw[if_neg g]at h;exact absurd h g
theorem Zy7{a:ArmV}{q:List RV}{n:Nat}(h:¬ffE a q n=0):ffE a q (n+1)=ffE a q n:=by
 unfold ffE at h⊢;by_cases g:hasE a (q.length:Int)=0
 .rw[if_pos g]at h⊢;rw[if_pos g];by_cases f:farU a q n
  .obtain⟨i,l,x,hi,hh⟩:=f;rw[if_pos ⟨i,l,x,ω,hh⟩,if_pos ⟨i,l,x,hi,hh⟩]
  .rw[if_neg f]at h;exact absurd rfl h
 .rw[if_neg g,if_neg g]
theorem Zw4{a:ArmV}{q:List RV}{n:Nat}{l:LinkV}{x:RV}(h:ffE a q n=0)(hl:a.links[n]? =some l)(hx:q[n]? =some x)(hf:x.q<l.low.q\/l.high.q<x.q):ffE a q (n+1)=17:=by
 have g:=(Zq1 h).1;unfold ffE;rw[if_pos g,if_pos ⟨n,l,x,ω,hl,hx,hf⟩]
theorem Zt9{a:ArmV}{q:List RV}{n:Nat}{l:LinkV}{x:RV}(h:ffE a q n=0)(hl:a.links[n]? =some l)(hx:q[n]? =some x)(hf:¬(x.q<l.low.q\/l.high.q<x.q)):ffE a q (n+1)=0:=by
 obtain⟨g,f⟩:=Zq1 h;unfold ffE;rw[if_pos g,if_neg];rintro⟨i,l',x',hi,h1,h2,h3⟩;by_cases e:i=n
 .subst e;obtain rfl:=sI (hl.symm.trans h1);obtain rfl:=sI (hx.symm.trans h2);exact hf h3
 .exact f ⟨i,l',x',ω,h1,h2,h3⟩
def rdrs(q:List RV):List D:=[D.list (q.map rd)]
def rdcs(q:List Rat):List D:=[D.list (q.map rdc)]
def gdL(l:List RV):List Rat:=l.map RV.q
theorem Zhk(l:List RV):(gdL l).length=l.length:=List.length_map ..
theorem ZlI{α:Type}(g:Rat->α){l:List RV}{i:Nat}{x:RV}(h:l[i]? =some x):List.map g (gdL (l.take (i+1)))=List.map g (gdL (l.take i))++[g x.q]:=by
 rw[List.take_add_one,h];simp[gdL]
