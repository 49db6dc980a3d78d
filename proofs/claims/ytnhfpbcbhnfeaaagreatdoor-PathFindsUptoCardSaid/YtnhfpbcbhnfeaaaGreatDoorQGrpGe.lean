/- Joined by wip/bundle.py: XGeo XGeo2 XGeo3. -/
import Derived.Test.YtnhfpbcbhnfeaaaGreatDoorQGrpP
namespace Go.Proofs.YtnhfpbcbhnfeaaaGreatDoor.poly
def crs(u v:Pt):Rat:=u.1*v.2-u.2*v.1
def dt(u v:Pt):Rat:=u.1*v.1+u.2*v.2
def sb(u v:Pt):Pt:=(u.1-v.1,u.2-v.2)
theorem crs_anti(u v:Pt):crs u v=- crs v u:=by unfold crs;grind
theorem Zez(a:Rat):0<=a*a:=by
 rcases Rat.le_total (a:=0) (b:=a) with h|h
 .exact Rat.mul_nonneg h h
 .have:=Rat.mul_nonneg (a:=-a) (b:=-a) (by grind) (by grind)
  grind
theorem ZuN{a:Rat}(h:a≠0):0<a*a:=by
 have:=Zez a;have h2:a*a≠0:=fun e=>h (by rcases Rat.mul_eq_zero.1 e with h|h<;>exact h)
 grind
theorem Zy9{u:Pt}(h:¬(u.1=0/\u.2=0)):0<dt u u:=by
 unfold dt;have h1:=Zez u.1;have h2:=Zez u.2;by_cases e:u.1=0
 .have:=ZuN (a:=u.2) (fun e2=>h ⟨e,e2⟩);grind
 .have:=ZuN e;grind
theorem Znn{a b:Rat}(h:0<=a)(g:0<b):0<=a/b:=by
 rw[Rat.div_def];exact Rat.mul_nonneg h (Rat.le_of_lt (Rat.inv_pos.2 g))
theorem div_pos{a b:Rat}(h:0<a)(g:0<b):0<a/b:=by
 rw[Rat.div_def];exact Rat.mul_pos h (Rat.inv_pos.2 g)
theorem Zhc{p:Nat->Prop}(f:Nat->Rat):∀n,(∃i,i<n/\p i)->∃i,i<n/\p i/\∀j,j<n->p j->f i<=f j:=by
 intro n
 induction n with
 |zero=>rintro⟨i,h,_⟩;omega
 |succ n ih=>
  rintro⟨i,hi,hp⟩;by_cases h:∃i,i<n/\p i
  .obtain⟨k,h1,h2,h3⟩:=ih h;by_cases hn:p n/\f n<f k
   .refine⟨n,ω,hn.1,fun j hj hpj=>?_⟩;by_cases e:j=n
    .subst e;exact Rat.le_refl
    .exact Rat.le_trans (Rat.le_of_lt hn.2) (h3 j ω hpj)
   .refine⟨k,ω,h2,fun j hj hpj=>?_⟩;by_cases e:j=n
    .subst e;exact Rat.not_lt.1 fun hh=>hn ⟨hpj,hh⟩
    .exact h3 j ω hpj
  .have e:i=n:=by
    by_cases e:i=n
    .exact e
    .exact absurd ⟨i,ω,hp⟩ h
   subst e;refine⟨i,ω,hp,fun j hj hpj=>?_⟩;by_cases e:j=i
   .subst e;exact Rat.le_refl
   .exact absurd ⟨j,ω,hpj⟩ h
theorem Zss{N v w:Pt}(hv:0<dt N v)(hw:0<dt N w)(h:crs N v/dt N v<=crs N w/dt N w):0<=crs v w:=by
 have hN:0<dt N N:=Zy9 fun ⟨h1,h2⟩=>by unfold dt at hv;rw[h1,h2]at hv;grind
 have key:dt N N*crs v w=dt N v*crs N w-crs N v*dt N w:=by unfold dt crs;grind
 have h2:0<=dt N v*crs N w-crs N v*dt N w:=by
  have e:dt N v*crs N w-crs N v*dt N w=dt N v*dt N w*(crs N w/dt N w-crs N v/dt N v):=by
   have a:=Rat.ne_of_gt hv;have b:=Rat.ne_of_gt hw;grind
  rw[e];exact Rat.mul_nonneg (Rat.le_of_lt (Rat.mul_pos hv hw)) (by grind)
 rw[<-key]at h2;exact ZaS hN h2
def Weigh(l:List Pt):Prop:=∃a b c,a∈l/\b∈l/\c∈l/\∃x y z:Rat,0<=x/\0<=y/\0<=z/\0<x+y+z/\x*a.1+y*b.1+z*c.1=0/\x*a.2+y*b.2+z*c.2=0
theorem Weigh.mono{l m:List Pt}(h:Weigh l)(hs:∀a,a∈l->a∈m):Weigh m:=by
 obtain⟨a,b,c,h1,h2,h3,r⟩:=h;exact⟨a,b,c,hs a h1,hs b h2,hs c h3,r⟩
section
variable{P Q:Nat->Pt}{n m:Nat}
def Beyond(P:Nat->Pt)(n:Nat)(Q:Nat->Pt)(m:Nat):Prop:=∃i,i<n/\∀j,j<m->ori (P i) (P ((i+1)%n)) (Q j)<0
def prev(n i:Nat):Nat:=(i+(n-1))%n
theorem ZaP(hn:0<n)(i:Nat):prev n i<n:=Nat.mod_lt _ hn
theorem Za2{i:Nat}(hi:i<n):(prev n i+1)%n=i:=by
 unfold prev;rw[Nat.mod_add_mod,show i+(n-1)+1=i+n by omega,Nat.add_mod_right,Nat.mod_eq_of_lt hi]
theorem Zgt(h:Edges P n)(hn:3<=n){i:Nat}(hi:i<n):0<ori (P (prev n i)) (P i) (P ((i+1)%n)):=by
 have:=h (prev n i) 2 (ZaP ω i) ω ω;rw[Za2 hi]at this
 rwa[show (prev n i+2)%n=((prev n i+1)%n+1)%n by rw[Nat.mod_add_mod],Za2 hi]at this
theorem Zp7(h:Edges P n){i j:Nat}(hi:i<n)(hj:j<n):0<=ori (P i) (P ((i+1)%n)) (P j):=Zrb h hi hj
theorem ZiM{N:Pt}(hn:0<n)(hm:0<m)(hN:∀i j,i<n->j<m->0<dt N (sb (Q j) (P i))):
  ∃i0 j0,i0<n/\j0<m/\∀i j,i<n->j<m->0<=crs (sb (Q j0) (P i0)) (sb (Q j) (P i))/\(crs (sb (Q j0) (P i0)) (sb (Q j) (P i))=0->dt N (sb (Q j0) (P i0))<=dt N (sb (Q j) (P i))):=by
 let w:Nat->Pt:=fun k=>sb (Q (k%m)) (P (k/m));have hk:∀k,k<n*m->k/m<n/\k%m<m:=fun k hk=>⟨(Nat.div_lt_iff_lt_mul hm).2 hk,Nat.mod_lt _ hm⟩;have hw:∀k,k<n*m->0<dt N (w k):=fun k h=>hN _ _ (hk k h).1 (hk k h).2;have hpos:0<n*m:=Nat.mul_pos hn hm;obtain⟨a,a1,_,a3⟩:=Zhc (p:=fun _=>True) (fun k=>crs N (w k)/dt N (w k)) (n*m) ⟨0,hpos,trivial⟩;obtain⟨b,b1,b2,b3⟩:=Zhc (p:=fun k=>crs N (w k)/dt N (w k)<=crs N (w a)/dt N (w a)) (fun k=>dt N (w k)) (n*m) ⟨a,a1,Rat.le_refl⟩;refine⟨b/m,b%m,(hk b b1).1,(hk b b1).2,fun i j hi hj=>?_⟩;obtain⟨c,hc,ec⟩:∃c,c<n*m/\w c=sb (Q j) (P i):=by
  refine⟨i*m+j,?_,?_⟩
  .calc i*m+j<i*m+m:=ω
    _=(i+1)*m:=by rw[Nat.add_mul,Nat.one_mul]
    _<=n*m:=Nat.mul_le_mul_right _ hi
  .show sb (Q ((i*m+j)%m)) (P ((i*m+j)/m))=_;rw[Nat.mul_comm i m,Nat.mul_add_mod,Nat.mod_eq_of_lt hj,Nat.mul_add_div hm,Nat.div_eq_of_lt hj,Nat.add_zero]
 rw[<-ec];have hle:crs N (w b)/dt N (w b)<=crs N (w c)/dt N (w c):=Rat.le_trans b2 (a3 c hc trivial);have h1:=Zss (hw b b1) (hw c hc) hle;refine⟨h1,fun h0=>b3 c hc ?_⟩;have key:dt N N*crs (w b) (w c)=dt N (w b)*crs N (w c)-crs N (w b)*dt N (w c):=by unfold dt crs;grind
 have h0':crs (w b) (w c)=0:=h0;rw[h0',Rat.mul_zero]at key;have e:crs N (w c)/dt N (w c)=crs N (w b)/dt N (w b):=by
  have p1:=Rat.ne_of_gt (hw b b1);have p2:=Rat.ne_of_gt (hw c hc);grind
 rw[e];exact b2
theorem beyond_of_line{N:Pt}(hP:Edges P n)(hQ:Edges Q m)(hn:3<=n)(hm:3<=m)(hN:∀i j,i<n->j<m->0<dt N (sb (Q j) (P i))):Beyond P n Q m\/Beyond Q m P n:=by
 obtain⟨i0,j0,hi0,hj0,hx⟩:=ZiM ω ω hN;have tP:=Zgt hP hn hi0;have tQ:=Zgt hQ hm hj0;have eP:∀i,i<n->0<=ori (P (prev n i0)) (P i0) (P i):=fun i hi=>by have:=Zp7 hP (ZaP ω i0) hi;rwa[Za2 hi0]at this
 have eQ:∀j,j<m->0<=ori (Q (prev m j0)) (Q j0) (Q j):=fun j hj=>by have:=Zp7 hQ (ZaP ω j0) hj;rwa[Za2 hj0]at this
 have hvN:=hN i0 j0 hi0 hj0;have xB:=hx i0 (prev m j0) hi0 (ZaP ω j0);have xA:=hx (prev n i0) j0 (ZaP ω i0) hj0;have xP:∀i,i<n->0<=crs (sb (Q j0) (P i0)) (sb (P i0) (P i)):=fun i hi=>by
  have:=(hx i j0 hi hj0).1;have e:crs (sb (Q j0) (P i0)) (sb (Q j0) (P i))=crs (sb (Q j0) (P i0)) (sb (P i0) (P i)):=by unfold crs sb;grind
  rwa[e]at this
 have xQ:∀j,j<m->0<=crs (sb (Q j0) (P i0)) (sb (Q j) (Q j0)):=fun j hj=>by
  have:=(hx i0 j hi0 hj).1;have e:crs (sb (Q j0) (P i0)) (sb (Q j) (P i0))=crs (sb (Q j0) (P i0)) (sb (Q j) (Q j0)):=by unfold crs sb;grind
  rwa[e]at this
 have step:∀(v d e:Pt),0<dt N v->0<=crs d v->(crs d v=0->dt N d<=0)->0<=crs e v->(crs e v=0->dt N e<=0)->¬(e.1=0/\e.2=0)->¬(d.1=0/\d.2=0)->0<=crs e d->
   (∃u,0<=crs v u/\0<=crs e u/\¬crs v u=0)->0<crs d v/\∀u,0<=crs v u->0<=crs e u->0<=crs d u:=by
  intro v d e hv h1 h2 h3 h4 he hd h5 hu;rcases Rat.le_iff_lt_or_eq.1 h3 with h3|h3
  .have hpos:0<crs d v:=by
    rcases Rat.le_iff_lt_or_eq.1 h1 with h1|h1
    .exact h1
    .exfalso;have k:=h2 h1.symm;have e1:crs e v*d.1=crs e d*v.1+crs d v*e.1:=by unfold crs;grind
     have e2:crs e v*d.2=crs e d*v.2+crs d v*e.2:=by unfold crs;grind
     rw[<-h1]at e1 e2;have e3:crs e v*dt N d=crs e d*dt N v:=by unfold dt;grind
     have e4:crs e d*dt N v<=0:=by rw[<-e3];have:=Rat.mul_nonneg (Rat.le_of_lt h3) (show 0<=- dt N d by grind);grind
     have e5:crs e d=0:=by
      rcases Rat.le_iff_lt_or_eq.1 h5 with h5|h5
      .have:=Rat.mul_pos h5 hv;grind
      .exact h5.symm
     rw[e5]at e1 e2;refine hd ⟨?_,?_⟩
     .have:crs e v*d.1=0:=by rw[e1];grind
      rcases Rat.mul_eq_zero.1 this with h|h
      .exact absurd h (Rat.ne_of_gt h3)
      .exact h
     .have:crs e v*d.2=0:=by rw[e2];grind
      rcases Rat.mul_eq_zero.1 this with h|h
      .exact absurd h (Rat.ne_of_gt h3)
      .exact h
   refine⟨hpos,fun u g1 g2=>?_⟩;have key:crs e v*crs d u=crs d v*crs e u+crs e d*crs v u:=by unfold crs;grind
   refine ZaS h3 ?_;rw[key];have:=Rat.mul_nonneg h1 g2;have:=Rat.mul_nonneg h5 g1;grind
  .exfalso;have k:=h4 h3.symm;obtain⟨u,g1,g2,g3⟩:=hu;have key:dt N v*crs e u=dt N e*crs v u+dt N u*crs e v:=by unfold dt crs;grind
   rw[<-h3,Rat.mul_zero,Rat.add_zero]at key;have hvu:0<crs v u:=by rcases Rat.le_iff_lt_or_eq.1 g1 with h|h;exact h;exact absurd h.symm g3
   have hle:dt N e*crs v u<=0:=by have:=Rat.mul_nonneg (show 0<=- dt N e by grind) g1;grind
   have h0:dt N v*crs e u=0:=by have:=Rat.mul_nonneg (Rat.le_of_lt hv) g2;grind
   have h6:dt N e*crs v u=0:=by rw[<-key];exact h0
   have h7:dt N e=0:=by
    rcases Rat.mul_eq_zero.1 h6 with h|h
    .exact h
    .exact absurd h g3
   have a1:dt N v*e.1=dt N e*v.1+N.2*crs e v:=by unfold dt crs;grind
   have a2:dt N v*e.2=dt N e*v.2-N.1*crs e v:=by unfold dt crs;grind
   rw[h7,<-h3]at a1 a2;refine he ⟨?_,?_⟩
   .have:dt N v*e.1=0:=by rw[a1];grind
    rcases Rat.mul_eq_zero.1 this with h|h
    .exact absurd h (Rat.ne_of_gt hv)
    .exact h
   .have:dt N v*e.2=0:=by rw[a2];grind
    rcases Rat.mul_eq_zero.1 this with h|h
    .exact absurd h (Rat.ne_of_gt hv)
    .exact h
 have b1:0<=crs (sb (Q j0) (Q (prev m j0))) (sb (Q j0) (P i0)):=by
  have:=xB.1;have e:crs (sb (Q j0) (P i0)) (sb (Q (prev m j0)) (P i0))=crs (sb (Q j0) (Q (prev m j0))) (sb (Q j0) (P i0)):=by unfold crs sb;grind
  rwa[e]at this
 have b2:crs (sb (Q j0) (Q (prev m j0))) (sb (Q j0) (P i0))=0->dt N (sb (Q j0) (Q (prev m j0)))<=0:=fun h=>by
  have e:crs (sb (Q j0) (P i0)) (sb (Q (prev m j0)) (P i0))=crs (sb (Q j0) (Q (prev m j0))) (sb (Q j0) (P i0)):=by unfold crs sb;grind
  have:=xB.2 (by rw[e];exact h);unfold dt sb at this⊢;grind
 have a1:0<=crs (sb (P (prev n i0)) (P i0)) (sb (Q j0) (P i0)):=by
  have:=xA.1;have e:crs (sb (Q j0) (P i0)) (sb (Q j0) (P (prev n i0)))=crs (sb (P (prev n i0)) (P i0)) (sb (Q j0) (P i0)):=by unfold crs sb;grind
  rwa[e]at this
 have a2:crs (sb (P (prev n i0)) (P i0)) (sb (Q j0) (P i0))=0->dt N (sb (P (prev n i0)) (P i0))<=0:=fun h=>by
  have e:crs (sb (Q j0) (P i0)) (sb (Q j0) (P (prev n i0)))=crs (sb (P (prev n i0)) (P i0)) (sb (Q j0) (P i0)):=by unfold crs sb;grind
  have:=xA.2 (by rw[e];exact h);unfold dt sb at this⊢;grind
 have neB:¬((sb (Q j0) (Q (prev m j0))).1=0/\(sb (Q j0) (Q (prev m j0))).2=0):=fun ⟨g1,g2⟩=>by
  have:ori (Q (prev m j0)) (Q j0) (Q ((j0+1)%m))=0:=by unfold ori;unfold sb at g1 g2;simp only at g1 g2;rw[g1,g2];grind
  rw[this]at tQ;exact Rat.lt_irrefl tQ
 have neA:¬((sb (P (prev n i0)) (P i0)).1=0/\(sb (P (prev n i0)) (P i0)).2=0):=fun ⟨g1,g2⟩=>by
  have:ori (P (prev n i0)) (P i0) (P ((i0+1)%n))=0:=by
   have h1:(P i0).1-(P (prev n i0)).1=0:=by unfold sb at g1;simp only at g1;grind
   have h2:(P i0).2-(P (prev n i0)).2=0:=by unfold sb at g2;simp only at g2;grind
   unfold ori;rw[h1,h2];grind
  rw[this]at tP;exact Rat.lt_irrefl tP
 have lQ:∀j,j<m->0<=crs (sb (Q j0) (Q (prev m j0))) (sb (Q j) (Q j0)):=fun j hj=>by
  have:=eQ j hj;have e:ori (Q (prev m j0)) (Q j0) (Q j)=crs (sb (Q j0) (Q (prev m j0))) (sb (Q j) (Q j0)):=by unfold ori crs sb;grind
  rwa[e]at this
 have lP:∀i,i<n->0<=crs (sb (P (prev n i0)) (P i0)) (sb (P i0) (P i)):=fun i hi=>by
  have:=eP i hi;have e:ori (P (prev n i0)) (P i0) (P i)=crs (sb (P (prev n i0)) (P i0)) (sb (P i0) (P i)):=by unfold ori crs sb;grind
  rwa[e]at this
 rcases Rat.le_total (a:=0) (b:=crs (sb (P (prev n i0)) (P i0)) (sb (Q j0) (Q (prev m j0)))) with hc|hc
 .refine .inr ⟨prev m j0,ZaP ω j0,?_⟩;rw[Za2 hj0];obtain⟨s1,s2⟩:=step (sb (Q j0) (P i0)) (sb (Q j0) (Q (prev m j0))) (sb (P (prev n i0)) (P i0)) hvN b1 b2 a1 a2 neA neB hc (by
   by_cases h1:crs (sb (Q j0) (P i0)) (sb (P i0) (P (prev n i0)))=0
   .refine⟨sb (P i0) (P ((i0+1)%n)),xP _ (Nat.mod_lt _ ω),lP _ (Nat.mod_lt _ ω),fun h2=>?_⟩;have key:dt N (sb (Q j0) (P i0))*crs (sb (P i0) (P (prev n i0))) (sb (P i0) (P ((i0+1)%n)))=dt N (sb (P i0) (P (prev n i0)))*crs (sb (Q j0) (P i0)) (sb (P i0) (P ((i0+1)%n)))-dt N (sb (P i0) (P ((i0+1)%n)))*crs (sb (Q j0) (P i0)) (sb (P i0) (P (prev n i0))):=by
     generalize sb (Q j0) (P i0)=v;generalize sb (P i0) (P (prev n i0))=a;generalize sb (P i0) (P ((i0+1)%n))=b;unfold dt crs;grind
    rw[h1,h2]at key;have e:ori (P (prev n i0)) (P i0) (P ((i0+1)%n))=- crs (sb (P i0) (P (prev n i0))) (sb (P i0) (P ((i0+1)%n))):=by unfold ori crs sb;grind
    rw[e]at tP;have h3:dt N (sb (Q j0) (P i0))*crs (sb (P i0) (P (prev n i0))) (sb (P i0) (P ((i0+1)%n)))=0:=by rw[key];grind
    rcases Rat.mul_eq_zero.1 h3 with h|h
    .exact absurd h (Rat.ne_of_gt hvN)
    .rw[h]at tP;exact absurd tP ωk
   .exact⟨sb (P i0) (P (prev n i0)),xP _ (ZaP ω i0),lP _ (ZaP ω i0),h1⟩)
  intro i hi;have h1:=s2 _ (xP i hi) (lP i hi);have e:ori (Q (prev m j0)) (Q j0) (P i)=- crs (sb (Q j0) (Q (prev m j0))) (sb (Q j0) (P i0))-crs (sb (Q j0) (Q (prev m j0))) (sb (P i0) (P i)):=by unfold ori crs sb;grind
  rw[e];grind
 .refine .inl ⟨prev n i0,ZaP ω i0,?_⟩;rw[Za2 hi0];obtain⟨s1,s2⟩:=step (sb (Q j0) (P i0)) (sb (P (prev n i0)) (P i0)) (sb (Q j0) (Q (prev m j0))) hvN a1 a2 b1 b2 neB neA (by rw[crs_anti];grind) (by
   by_cases h1:crs (sb (Q j0) (P i0)) (sb (Q (prev m j0)) (Q j0))=0
   .refine⟨sb (Q ((j0+1)%m)) (Q j0),xQ _ (Nat.mod_lt _ ω),lQ _ (Nat.mod_lt _ ω),fun h2=>?_⟩;have key:dt N (sb (Q j0) (P i0))*crs (sb (Q (prev m j0)) (Q j0)) (sb (Q ((j0+1)%m)) (Q j0))=dt N (sb (Q (prev m j0)) (Q j0))*crs (sb (Q j0) (P i0)) (sb (Q ((j0+1)%m)) (Q j0))-dt N (sb (Q ((j0+1)%m)) (Q j0))*crs (sb (Q j0) (P i0)) (sb (Q (prev m j0)) (Q j0)):=by
     generalize sb (Q j0) (P i0)=v;generalize sb (Q (prev m j0)) (Q j0)=a;generalize sb (Q ((j0+1)%m)) (Q j0)=b;unfold dt crs;grind
    rw[h1,h2]at key;have e:ori (Q (prev m j0)) (Q j0) (Q ((j0+1)%m))=- crs (sb (Q (prev m j0)) (Q j0)) (sb (Q ((j0+1)%m)) (Q j0)):=by unfold ori crs sb;grind
    rw[e]at tQ;have h3:dt N (sb (Q j0) (P i0))*crs (sb (Q (prev m j0)) (Q j0)) (sb (Q ((j0+1)%m)) (Q j0))=0:=by rw[key];grind
    rcases Rat.mul_eq_zero.1 h3 with h|h
    .exact absurd h (Rat.ne_of_gt hvN)
    .rw[h]at tQ;exact absurd tQ ωk
   .exact⟨sb (Q (prev m j0)) (Q j0),xQ _ (ZaP ω j0),lQ _ (ZaP ω j0),h1⟩)
  intro j hj;have h1:=s2 _ (xQ j hj) (lQ j hj);have e:ori (P (prev n i0)) (P i0) (Q j)=- crs (sb (P (prev n i0)) (P i0)) (sb (Q j0) (P i0))-crs (sb (P (prev n i0)) (P i0)) (sb (Q j) (Q j0)):=by unfold ori crs sb;grind
  rw[e];grind
end
section
variable{P Q:Nat->Pt}{n m:Nat}
def at_(u v:Pt)(t:Rat):Pt:=(u.1+t*(v.1-u.1),u.2+t*(v.2-u.2))
theorem Zld(a b u v:Pt)(t:Rat):ori a b (at_ u v t)=(1-t)*ori a b u+t*ori a b v:=by unfold ori at_;grind
def On(a b z:Pt):Prop:=∃s:Rat,0<=s/\s<=1/\z=at_ a b s
theorem ZpH{a b c:Pt}(h:ori a b c≠0):¬(b.1-a.1=0/\b.2-a.2=0):=fun ⟨h1,h2⟩=>h (by unfold ori;rw[h1,h2];grind)
theorem Zwk{a b z:Pt}(hab:¬(b.1-a.1=0/\b.2-a.2=0))(h:ori a b z=0):∃s:Rat,z=at_ a b s:=by
 unfold ori at h;by_cases h1:b.1-a.1=0
 .have h2:b.2-a.2≠0:=fun h2=>hab ⟨h1,h2⟩;refine⟨(z.2-a.2)/(b.2-a.2),?_⟩;rw[h1]at h;have h3:(b.2-a.2)*(z.1-a.1)=0:=by grind
  have h4:z.1-a.1=0:=by
   rcases Rat.mul_eq_zero.1 h3 with h|h
   .exact absurd h h2
   .exact h
  unfold at_;rw[h1];ext
  .show z.1=a.1+_*0;grind
  .show z.2=a.2+(z.2-a.2)/(b.2-a.2)*(b.2-a.2);grind
 .refine⟨(z.1-a.1)/(b.1-a.1),?_⟩;unfold at_;ext
  .show z.1=a.1+(z.1-a.1)/(b.1-a.1)*(b.1-a.1);grind
  .show z.2=a.2+(z.1-a.1)/(b.1-a.1)*(b.2-a.2);grind
theorem Zw8(h:Edges P n)(hn:3<=n){i:Nat}(hi:i<n):¬((P ((i+1)%n)).1-(P i).1=0/\(P ((i+1)%n)).2-(P i).2=0):=
 ZpH (c:=P ((i+2)%n)) (Rat.ne_of_gt (h i 2 hi ω ω))
theorem Zwl(h:Edges P n)(hn:3<=n){i:Nat}(hi:i<n){z:Pt}(hz:Inside P n z)(h0:ori (P i) (P ((i+1)%n)) z=0):On (P i) (P ((i+1)%n)) z:=by
 obtain⟨s,rfl⟩:=Zwk (Zw8 h hn hi) h0;refine⟨s,?_,?_,rfl⟩
 .have h1:=hz (prev n i) (ZaP ω i);rw[Za2 hi]at h1;have h2:=Zgt h hn hi;have e:ori (P (prev n i)) (P i) (at_ (P i) (P ((i+1)%n)) s)=ori (P (prev n i)) (P i) (P ((i+1)%n))*s:=by
   rw[Zld,Zu7];grind
  rw[e]at h1;exact ZaS h2 h1
 .have h1:=hz ((i+1)%n) (Nat.mod_lt _ ω);have h2:0<ori (P ((i+1)%n)) (P (((i+1)%n+1)%n)) (P i):=by
   have:=Zgt h hn (Nat.mod_lt (i+1) (show 0<n by omega));have e:prev n ((i+1)%n)=i:=by
    unfold prev;rw[Nat.mod_add_mod,show i+1+(n-1)=i+n by omega,Nat.add_mod_right,Nat.mod_eq_of_lt hi]
   rw[e]at this
   rwa[Zwh]at this
  have e:ori (P ((i+1)%n)) (P (((i+1)%n+1)%n)) (at_ (P i) (P ((i+1)%n)) s)=ori (P ((i+1)%n)) (P (((i+1)%n+1)%n)) (P i)*(1-s):=by
   rw[Zld,Zu8];grind
  rw[e]at h1;have:=ZaS h2 h1
  grind
theorem leave(h:Edges P n)(hn:3<=n){u v:Pt}(hu:Inside P n u)(hv:¬Inside P n v):∃i z,i<n/\On (P i) (P ((i+1)%n)) z/\On u v z/\Inside P n z:=by
 have hex:∃k,k<n/\ori (P k) (P ((k+1)%n)) v<0:=by
  refine Classical.byContradiction fun hc=>hv fun k hk=>Rat.not_lt.1 fun hh=>hc ⟨k,hk,hh⟩
 obtain⟨i,hi,hiv,hmin⟩:=Zhc (p:=fun k=>ori (P k) (P ((k+1)%n)) v<0) (fun k=>ori (P k) (P ((k+1)%n)) u/(ori (P k) (P ((k+1)%n)) u-ori (P k) (P ((k+1)%n)) v)) n hex;let t:Rat:=ori (P i) (P ((i+1)%n)) u/(ori (P i) (P ((i+1)%n)) u-ori (P i) (P ((i+1)%n)) v);have hiu:=hu i hi;have hd:0<ori (P i) (P ((i+1)%n)) u-ori (P i) (P ((i+1)%n)) v:=by grind
 have t0:0<=t:=Znn hiu hd;have et:t*(ori (P i) (P ((i+1)%n)) u-ori (P i) (P ((i+1)%n)) v)=ori (P i) (P ((i+1)%n)) u:=by
  have:=Rat.ne_of_gt hd;show _/_*_=_;grind
 have t1:t<=1:=by
  refine Rat.not_lt.1 fun hh=>?_;have:=Rat.mul_pos (show 0<t-1 by grind) hd
  grind
 have hz:Inside P n (at_ u v t):=by
  intro k hk;rw[Zld];have hku:=hu k hk;by_cases hkv:ori (P k) (P ((k+1)%n)) v<0
  .have hle:=hmin k hk hkv;have hdk:0<ori (P k) (P ((k+1)%n)) u-ori (P k) (P ((k+1)%n)) v:=by grind
   have ek:ori (P k) (P ((k+1)%n)) u/(ori (P k) (P ((k+1)%n)) u-ori (P k) (P ((k+1)%n)) v)*(ori (P k) (P ((k+1)%n)) u-ori (P k) (P ((k+1)%n)) v)=ori (P k) (P ((k+1)%n)) u:=by
    have:=Rat.ne_of_gt hdk;grind
   have:=Rat.mul_nonneg (show 0<=ori (P k) (P ((k+1)%n)) u/(ori (P k) (P ((k+1)%n)) u-ori (P k) (P ((k+1)%n)) v)-t by show 0<=_-(_/_);grind) (Rat.le_of_lt hdk)
   grind
  .have hkv:=Rat.not_lt.1 hkv;have:=Rat.mul_nonneg (show 0<=1-t by grind) hku;have:=Rat.mul_nonneg t0 hkv
   grind
 refine⟨i,at_ u v t,hi,Zwl h hn hi hz ?_,⟨t,t0,t1,rfl⟩,hz⟩;rw[Zld];grind
end
