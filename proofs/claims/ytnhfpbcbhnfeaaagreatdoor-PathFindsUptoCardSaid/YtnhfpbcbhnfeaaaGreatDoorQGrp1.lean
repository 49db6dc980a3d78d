/- Joined by wip/bundle.py: XPlc0 XMot0 XEngH3c XMot1. -/
import Derived.Test.YtnhfpbcbhnfeaaaGreatDoorQWide
import Derived.Test.YtnhfpbcbhnfeaaaGreatDoorQGrpL
import Derived.Test.YtnhfpbcbhnfeaaaGreatDoorQGrpV
set_option maxHeartbeats 4000000
set_option maxRecDepth 100000
open List (getElem?_eq_getElem mem_of_getElem? take_add_one range take_length map_map all_map length_take)
namespace Go.Proofs.YtnhfpbcbhnfeaaaGreatDoor.eng
open Go.RowKit num mem seg q held ratA ratB ratC ratD ratE vars ratF trq
def putQ(f:RF)(x y:Rat):Rat×Rat:=(f.x+f.c*x-f.s*y,f.y+f.s*x+f.c*y)
theorem ZsY{f:RF}(hu:f.u)(a b c:poly.Pt):poly.ori (putQ f a.1 a.2) (putQ f b.1 b.2) (putQ f c.1 c.2)=poly.ori a b c:=by
 unfold RF.u unitC at hu;unfold poly.ori putQ;simp only
 grind
theorem Zxe{l:List (RV×RV)}(h:convE 8 l=0):convE 64 l=0:=by
 obtain⟨h1,h2,h3⟩:=ZaV.1 h;exact ZaV.2 ⟨ω,h2,h3⟩
def sepB(a b:List (RV×RV)):Bool:=(bey a b).isSome||(bey b a).isSome
theorem ZkY{a b:List (RV×RV)}:sepB a b=true↔poly.Beyond (pts a) a.length (pts b) b.length\/poly.Beyond (pts b) b.length (pts a) a.length:=by
 unfold sepB;rw[Bool.or_eq_true,Zl8,Zl8]
theorem ZeS{a b:List (RV×RV)}(ha:convE 64 a=0)(hb:convE 64 b=0):bothE a b=0/\meetB a b= !sepB a b:=by
 have h:=Zuo.2 ⟨ha,hb⟩;refine⟨h,?_⟩;unfold meetB sepB;rw[h];cases bey a b<;>cases bey b a<;>rfl
theorem Zp1{q:Rat}{l:List Rat}{a:Rat}(h:a=q\/a∈l):lowL q l<=a:=by
 rcases h with rfl|h
 .exact(Zcc _ _).1
 .exact(Zcc _ _).2 _ h
theorem ZlH{q:Rat}{l:List Rat}{a:Rat}(h:a=q\/a∈l):a<=highL q l:=by
 rcases h with rfl|h
 .exact(ZaU _ _).1
 .exact(ZaU _ _).2 _ h
theorem Zfy{l:List (RV×RV)}{p:RV×RV}(h:p∈l):(bx1 l<=p.1.q/\p.1.q<=bx3 l)/\(bx2 l<=p.2.q/\p.2.q<=bx4 l):=by
 cases l with
 |nil=>simp at h
 |cons a r=>
  have hx:p.1.q=a.1.q\/p.1.q∈xsQ r:=by
   rcases List.mem_cons.1 h with rfl|h
   .exact .inl rfl
   .exact .inr (List.mem_map.2 ⟨p,h,rfl⟩)
  have hy:p.2.q=a.2.q\/p.2.q∈ysQ r:=by
   rcases List.mem_cons.1 h with rfl|h
   .exact .inl rfl
   .exact .inr (List.mem_map.2 ⟨p,h,rfl⟩)
  exact⟨⟨Zp1 hx,ZlH hx⟩,⟨Zp1 hy,ZlH hy⟩⟩
theorem bx_z{l:List (RV×RV)}{B:Nat}(hl:∀p,p∈l->p.1.z<=B/\p.2.z<=B):(qs (bx1 l)<=B+1/\qs (bx2 l)<=B+1)/\qs (bx3 l)<=B+1/\qs (bx4 l)<=B+1:=by
 cases l with
 |nil=>exact⟨⟨Nat.le_trans (by decide+kernel:qs 0<=1) ω,Nat.le_trans (by decide+kernel:qs 0<=1) ω⟩,Nat.le_trans (by decide+kernel:qs 0<=1) ω,Nat.le_trans (by decide+kernel:qs 0<=1) ω⟩
 |cons a r=>
  have h0:=hl a (by simp);have ha:=a.1.z1;have hb:=a.2.z1;have hx:∀q,q∈a.1.q::xsQ r->qs q<=B+1:=by
   intro q hq;rcases List.mem_cons.1 hq with rfl|hq
   .omega
   .obtain⟨p,hp,rfl⟩:=List.mem_map.1 hq;have:=hl p (List.mem_cons_of_mem _ hp);have:=p.1.z1;omega
  have hy:∀q,q∈a.2.q::ysQ r->qs q<=B+1:=by
   intro q hq;rcases List.mem_cons.1 hq with rfl|hq
   .omega
   .obtain⟨p,hp,rfl⟩:=List.mem_map.1 hq;have:=hl p (List.mem_cons_of_mem _ hp);have:=p.2.z1;omega
  exact⟨⟨ZbR hx,ZbR hy⟩,ZaT hx,ZaT hy⟩
theorem ZgV{l:List (RV×RV)}{i:Nat}(hi:i<l.length):∃p,p∈l/\pts l i=(p.1.q,p.2.q):=by
 obtain⟨v,hv⟩:∃v,l[i]? =some v:=⟨_,gE hi⟩;exact⟨v,mG hv,Zat hv⟩
theorem Zh7{a b:List (RV×RV)}(ca:convE 64 a=0)(cb:convE 64 b=0)(h:¬bxMeet (cn (bx1 a)) (cn (bx2 a)) (cn (bx3 a)) (cn (bx4 a)) (cn (bx1 b)) (cn (bx2 b)) (cn (bx3 b)) (cn (bx4 b))):sepB a b=true:=by
 obtain⟨_,a3,aE⟩:=ZaV.1 ca;obtain⟨_,b3,bE⟩:=ZaV.1 cb;have line:∀N:poly.Pt,(∀p q,p∈a->q∈b->0<N.1*(q.1.q-p.1.q)+N.2*(q.2.q-p.2.q))->sepB a b=true:=by
  intro N hN;refine ZkY.2 (poly.beyond_of_line (N:=N) aE bE ω ω fun i j hi hj=>?_);obtain⟨p,hp,ep⟩:=ZgV hi;obtain⟨q,hq,eq⟩:=ZgV hj;rw[ep,eq];exact hN p q hp hq
 have line':∀N:poly.Pt,(∀p q,p∈a->q∈b->0<N.1*(p.1.q-q.1.q)+N.2*(p.2.q-q.2.q))->sepB a b=true:=by
  intro N hN;refine line (-N.1,-N.2) fun p q hp hq=>?_;have:=hN p q hp hq;simp only;grind
 obtain⟨p0,hp0,_⟩:=ZgV (l:=a) (i:=0) ω;obtain⟨q0,hq0,_⟩:=ZgV (l:=b) (i:=0) ω;have oka:bxOk (cn (bx1 a)) (cn (bx2 a)) (cn (bx3 a)) (cn (bx4 a)):=by
  obtain⟨⟨h1,h2⟩,h3,h4⟩:=Zfy hp0;unfold bxOk;simp only[cn_q];exact⟨Rat.le_trans h1 h2,Rat.le_trans h3 h4⟩
 have okb:bxOk (cn (bx1 b)) (cn (bx2 b)) (cn (bx3 b)) (cn (bx4 b)):=by
  obtain⟨⟨h1,h2⟩,h3,h4⟩:=Zfy hq0;unfold bxOk;simp only[cn_q];exact⟨Rat.le_trans h1 h2,Rat.le_trans h3 h4⟩
 unfold bxMeet at h;simp only[cn_q]at h;by_cases c1:bx1 a<=bx3 b
 .by_cases c2:bx1 b<=bx3 a
  .by_cases c3:bx2 a<=bx4 b
   .by_cases c4:bx2 b<=bx4 a
    .exact absurd ⟨oka,okb,c1,c2,c3,c4⟩ h
    .refine line (0,1) fun p q hp hq=>?_;have:=(Zfy hp).2.2;have:=(Zfy hq).2.1;have:=Rat.not_le.1 c4;simp only;grind
   .refine line' (0,1) fun p q hp hq=>?_;have:=(Zfy hp).2.1;have:=(Zfy hq).2.2;have:=Rat.not_le.1 c3;simp only;grind
  .refine line (1,0) fun p q hp hq=>?_;have:=(Zfy hp).1.2;have:=(Zfy hq).1.1;have:=Rat.not_le.1 c2;simp only;grind
 .refine line' (1,0) fun p q hp hq=>?_;have:=(Zfy hp).1.1;have:=(Zfy hq).1.2;have:=Rat.not_le.1 c1;simp only;grind
def freeB(L M:List (List (RV×RV))):Bool:=L.all fun a=>M.all fun b=>sepB a b
theorem ZaK{α:Type}{l:List α}{f:α->Bool}{i:Nat}{x:α}(h:l[i]? =some x):(l.take (i+1)).all f=((l.take i).all f&&f x):=by
 rw[take_add_one,h];simp
theorem Za8{α:Type}{l:List α}{f:α->Bool}{i:Nat}{x:α}(h:l[i]? =some x)(hf:f x=false):l.all f=false:=by
 rw[List.all_eq_false];exact⟨x,mG h,by simp[hf]⟩
def rdvs(m:List (RV×RV)):List D:=[D.list (m.map rdv)]
def rqps(m:List (Rat×Rat)):List D:=[D.list (m.map rqP)]
def okP(m:List (Rat×Rat)):Prop:=m.length<=8/\∀p,p∈m->qs p.1<=215000000/\qs p.2<=215000000
def okV(a:List (RV×RV)):Prop:=(a.length<=8/\convE 64 a=0)/\∀p,p∈a->p.1.z<=215000000/\p.2.z<=215000000
noncomputable def wallsE(l:List (List (RV×RV))):Int:=if 20<l.length then 2 else firstE (fun i=>convE 8 ((l[i]?).getD [])) l.length
theorem ZkG{l:List (List (RV×RV))}(h:20<l.length):wallsE l=2:=if_pos h
theorem ZhH{l:List (List (RV×RV))}{i:Nat}{a:List (RV×RV)}(h:¬20<l.length)(ha:l[i]? =some a)(hb:∀j,j<i->convE 8 ((l[j]?).getD [])=0)(he:convE 8 a≠0):wallsE l=convE 8 a:=by
 unfold wallsE;rw[if_neg h,ZiK hb (by simp only[ha,Option.getD_some];exact he) (gS ha).1];simp only[ha,Option.getD_some]
theorem Zgq{l:List (List (RV×RV))}(h:¬20<l.length)(hb:∀j,j<l.length->convE 8 ((l[j]?).getD [])=0):wallsE l=0:=by
 unfold wallsE;rw[if_neg h,Zhn hb]
theorem ZnX{l:List (List (RV×RV))}(h:wallsE l=0):l.length<=20/\∀a,a∈l->convE 8 a=0:=by
 unfold wallsE at h;by_cases g:20<l.length
 .rw[if_pos g]at h;exact absurd h ωd
 .rw[if_neg g]at h;refine⟨ω,fun a ha=>?_⟩;obtain⟨i,hi⟩:=List.mem_iff_getElem?.1 ha;have hlt:=(gS hi).1;refine Classical.byContradiction fun hc=>?_;have key:∀n,firstE (fun i=>convE 8 ((l[i]?).getD [])) n=0->∀j,j<n->convE 8 ((l[j]?).getD [])=0:=by
   intro n
   induction n with
   |zero=>intro _ j hj;omega
   |succ n ih=>
    intro e j hj;unfold firstE at e;by_cases z:firstE (fun i=>convE 8 ((l[i]?).getD [])) n=0
    .rw[if_pos z]at e;by_cases hjn:j=n
     .rw[hjn];exact e
     .exact ih z j ω
    .rw[if_neg z]at e;exact absurd e z
  have:=key l.length h i hlt;rw[hi,Option.getD_some]at this;exact hc this
def ptQ(m:List (Rat×Rat))(i:Nat):poly.Pt:=(m[i]?).getD (0,0)
theorem Zla{m:List (Rat×Rat)}{i:Nat}{p:Rat×Rat}(h:m[i]? =some p):ptQ m i=p:=by simp[ptQ,h]
def sdU(m n:List (Rat×Rat))(i k:Nat):Bool:=(n.take k).all fun q=>decide (poly.ori (ptQ m i) (ptQ m ((i+1)%m.length)) q<0)
def bydB(m n:List (Rat×Rat)):Bool:=(range m.length).any fun i=>sdU m n i n.length
def meetR(m n:List (Rat×Rat)):Bool:= !bydB m n&& !bydB n m
theorem ZoK{m n:List (Rat×Rat)}{i:Nat}:sdU m n i n.length=true↔∀j,j<n.length->poly.ori (ptQ m i) (ptQ m ((i+1)%m.length)) (ptQ n j)<0:=by
 unfold sdU;rw[take_length,List.all_eq_true];constructor
 .intro h j hj;obtain⟨q,hq⟩:∃q,n[j]? =some q:=⟨_,gE hj⟩;rw[Zla hq];exact oT (h q (mG hq))
 .intro h q hq;obtain⟨j,hj⟩:=List.mem_iff_getElem?.1 hq;have:=h j (gS hj).1;rw[Zla hj]at this;exact decide_eq_true this
theorem Zl7{m n:List (Rat×Rat)}:bydB m n=true↔poly.Beyond (ptQ m) m.length (ptQ n) n.length:=by
 unfold bydB poly.Beyond;rw[List.any_eq_true];constructor
 .rintro⟨i,hi,h⟩;exact⟨i,List.mem_range.1 hi,ZoK.1 h⟩
 .rintro⟨i,hi,h⟩;exact⟨i,List.mem_range.2 hi,ZoK.2 h⟩
theorem Zxr{m n:List (Rat×Rat)}{i:Nat}(hi:i<m.length)(h:sdU m n i n.length=true):bydB m n=true:=by
 unfold bydB;rw[List.any_eq_true];exact⟨i,List.mem_range.2 hi,h⟩
theorem Zzl{m n:List (Rat×Rat)}(h:∀i,i<m.length->sdU m n i n.length=false):bydB m n=false:=by
 unfold bydB;rw[List.any_eq_false];intro i hi;rw[h i (List.mem_range.1 hi)];exact Bool.false_ne_true
def ptsQ(w:List (RV×RV)):List (Rat×Rat):=w.map fun p=>(p.1.q,p.2.q)
theorem ZgW(w:List (RV×RV)):(ptsQ w).length=w.length:=by simp[ptsQ]
theorem ZsJ(w:List (RV×RV)):List.map rqv w=List.map rqP (ptsQ w):=by
 unfold ptsQ;rw[map_map];rfl
theorem Zk9(w:List (RV×RV)):ptQ (ptsQ w)=pts w:=by
 funext i;unfold ptQ ptsQ pts;rw[List.getElem?_map]
 cases w[i]? with
 |none=>exact Prod.ext z0q.symm z0q.symm
 |some p=>rfl
theorem ZsZ(m:List (Rat×Rat)):ptsQ (cvl m)=m:=by
 unfold ptsQ cvl;rw[map_map];refine(List.map_congr_left fun p _=>?_).trans (List.map_id _);show ((cn p.1).q,(cn p.2).q)=p;rw[cn_q,cn_q]
theorem Zsx(a b:List (RV×RV)):sepB a b= !meetR (ptsQ a) (ptsQ b):=by
 have h1:=ZkY (a:=a) (b:=b);have e1:=Zl7 (m:=ptsQ a) (n:=ptsQ b);have e2:=Zl7 (m:=ptsQ b) (n:=ptsQ a);rw[Zk9,Zk9,ZgW,ZgW]at e1 e2;rw[<-e1,<-e2]at h1;unfold meetR;cases hs:sepB a b
 .rw[hs]at h1;cases hx:bydB (ptsQ a) (ptsQ b)
  .cases hy:bydB (ptsQ b) (ptsQ a)
   .rfl
   .rw[hx,hy]at h1;simp at h1
  .rw[hx]at h1;simp at h1
 .rw[hs]at h1;rcases h1.1 rfl with h|h
  .rw[h];rfl
  .rw[h];cases bydB (ptsQ a) (ptsQ b)<;>rfl
def clearB(L:List (List (Rat×Rat)))(W:List (List (RV×RV))):Bool:=L.all fun a=>W.all fun w=> !meetR a (ptsQ w)
theorem Zng(L:List (List (Rat×Rat)))(W:List (List (RV×RV))):freeB (L.map cvl) W=clearB L W:=by
 unfold freeB clearB;rw[all_map];congr 1;funext a;show (W.all fun b=>sepB (cvl a) b)=_;congr 1;funext b;rw[Zsx,ZsZ]
theorem ZpT(a b:Rat):minQ a b<=a/\minQ a b<=b:=by unfold minQ;split<;>grind
theorem ZpZ(a b:Rat):a<=maxQ a b/\b<=maxQ a b:=by unfold maxQ;split<;>grind
def B4.holds(b:B4)(p:Rat×Rat):Prop:=(b.xl<=p.1/\p.1<=b.xh)/\b.yl<=p.2/\p.2<=b.yh
theorem ZrM{f:LF}{g:RF}(h:f.has g)(v:RV×RV):(atB f v).holds (putQ g v.1.q v.2.q):=by
 obtain⟨⟨a1,a2⟩,⟨a3,a4⟩,⟨a5,a6⟩,a7,a8⟩:=h;have k1:=Zbe (Rat.le_refl:v.1.q<=v.1.q) Rat.le_refl a5 a6;have k2:=Zbe (Rat.le_refl:v.2.q<=v.2.q) Rat.le_refl a7 a8;have k3:=Zbe (Rat.le_refl:v.1.q<=v.1.q) Rat.le_refl a7 a8;have k4:=Zbe (Rat.le_refl:v.2.q<=v.2.q) Rat.le_refl a5 a6;unfold B4.holds atB putQ;simp only;refine⟨⟨?_,?_⟩,?_,?_⟩<;>grind
theorem Ze1{a b:B4}{p:Rat×Rat}(h:a.holds p\/b.holds p):(joinB a b).holds p:=by
 have m1:=ZpT a.xl b.xl;have m2:=ZpZ a.xh b.xh;have m3:=ZpT a.yl b.yl;have m4:=ZpZ a.yh b.yh;unfold B4.holds joinB at*;simp only;refine⟨⟨?_,?_⟩,?_,?_⟩<;>grind
theorem Zdv{f:LF}{g:RF}(h:f.has g)(l:List (RV×RV)):∀k i,i<=k->(bxF f l k).holds (putQ g (vAt l i).1.q (vAt l i).2.q)
 |0,i,hi=>by
  obtain rfl:i=0:=ω;exact ZrM h _
 |k+1,i,hi=>by
  by_cases e:i=k+1
  .subst e;exact Ze1 (.inr (ZrM h _))
  .exact Ze1 (.inl (Zdv h l k i ω))
theorem Zwf{l:List (RV×RV)}{i:Nat}(hi:i<l.length):pts l i=((vAt l i).1.q,(vAt l i).2.q):=by
 rw[Zat (gE hi),ZhI (gE hi)]
theorem Zzm{f:LF}{g:RF}(h:f.has g)(hu:g.u){l:List (RV×RV)}(hc:convE 8 l=0):(bxF f l (l.length-1)).xl<(bxF f l (l.length-1)).xh/\(bxF f l (l.length-1)).yl<(bxF f l (l.length-1)).yh:=by
 obtain⟨_,h3,he⟩:=ZaV.1 hc;have e:=he 0 2 ω ω ω;rw[Nat.zero_add,Nat.zero_add,Nat.mod_eq_of_lt (by omega:1<l.length),Nat.mod_eq_of_lt (by omega:2<l.length)]at e;rw[<-ZsY hu,Zwf ω,Zwf ω,Zwf ω]at e;obtain⟨⟨a1,a2⟩,a3,a4⟩:=Zdv h l (l.length-1) 0 ω;obtain⟨⟨b1,b2⟩,b3,b4⟩:=Zdv h l (l.length-1) 1 ω;obtain⟨⟨c1,c2⟩,c3,c4⟩:=Zdv h l (l.length-1) 2 ω;simp only at e;generalize bxF f l (l.length-1)=b at*;generalize putQ g (vAt l 0).1.q (vAt l 0).2.q=p at*;generalize putQ g (vAt l 1).1.q (vAt l 1).2.q=q at*;generalize putQ g (vAt l 2).1.q (vAt l 2).2.q=r at*;obtain⟨p1,p2⟩:=p;obtain⟨q1,q2⟩:=q;obtain⟨r1,r2⟩:=r;simp only[poly.ori]at*;refine⟨Rat.not_le.1 fun hle=>?_,Rat.not_le.1 fun hle=>?_⟩
 .obtain rfl:q1=p1:=by grind
  obtain rfl:r1=q1:=by grind
  grind
 .obtain rfl:q2=p2:=by grind
  obtain rfl:r2=q2:=by grind
  grind
def cnr(b:B4):List (Rat×Rat):=[(b.xl,b.yl),(b.xh,b.yl),(b.xh,b.yh),(b.xl,b.yh)]
theorem Zug{b:B4}(h:b.xl<b.xh/\b.yl<b.yh):convE 64 (cvl (cnr b))=0:=by
 refine ZaV.2 ⟨by show ¬(64:Int)<((4:Nat):Int);omega,by show ¬(4:Nat)<3;omega,?_⟩;have p0:pts (cvl (cnr b)) 0=(b.xl,b.yl):=by rw[Zat (p:=(cn b.xl,cn b.yl)) rfl,cn_q,cn_q]
 have p1:pts (cvl (cnr b)) 1=(b.xh,b.yl):=by rw[Zat (p:=(cn b.xh,cn b.yl)) rfl,cn_q,cn_q]
 have p2:pts (cvl (cnr b)) 2=(b.xh,b.yh):=by rw[Zat (p:=(cn b.xh,cn b.yh)) rfl,cn_q,cn_q]
 have p3:pts (cvl (cnr b)) 3=(b.xl,b.yh):=by rw[Zat (p:=(cn b.xl,cn b.yh)) rfl,cn_q,cn_q]
 have hp:=Rat.mul_pos (by grind:0<b.xh-b.xl) (by grind:0<b.yh-b.yl);intro i k hi h2 hk;have hi:i<4:=hi;have hk:k<4:=hk;show 0<poly.ori (pts (cvl (cnr b)) i) (pts (cvl (cnr b)) ((i+1)%4)) (pts (cvl (cnr b)) ((i+k)%4));rcases (show (i=0\/i=1\/i=2\/i=3) from by omega) with rfl|rfl|rfl|rfl<;>rcases (show (k=2\/k=3) from by omega) with rfl|rfl<;>
  simp only[Nat.reduceAdd,Nat.reduceMod,p0,p1,p2,p3,poly.ori]<;>grind
theorem Zv0{A:ArmV}(hA:armE A=0)(Q:List (RV×RV)):∀b,b∈shbL A Q A.links.length->b.xl<b.xh/\b.yl<b.yh:=fun b hb=>by
 obtain⟨i,hi,rfl⟩:=List.mem_map.1 (show b∈List.map _ _ from hb);have hi:i<A.links.length:=by simpa using hi
 have hl:=gE hi;have hs:shOf A i=A.links[i].shape:=Zjv hl;exact Zzm (Zdc A Q i) (Zgu (ZlS A Q i) _) (by rw[hs];exact(ZK hA (mG hl)).2.2.2.2.2.2.2.2.2.1)
theorem Zxg{b:B4}(h:b.xl<b.xh/\b.yl<b.yh)(hz:b.z 400):okV (cvl (cnr b)):=by
 obtain⟨⟨z1,z2⟩,z3,z4⟩:=hz;refine⟨⟨by show 4<=8;omega,Zug h⟩,fun p hp=>?_⟩;have hp:p=(cn b.xl,cn b.yl)\/p=(cn b.xh,cn b.yl)\/p=(cn b.xh,cn b.yh)\/p=(cn b.xl,cn b.yh):=by simpa[cvl,cnr]using hp
 rcases hp with rfl|rfl|rfl|rfl<;>(simp only[cn_z];omega)
theorem Znh(L:List B4)(W:List (List (RV×RV))):freeB (L.map fun b=>cvl (cnr b)) W=L.all fun b=>clearB [cnr b] W:=by
 rw[show (L.map fun b=>cvl (cnr b))=(L.map cnr).map cvl from by rw[map_map];rfl,Zng];unfold clearB;rw[all_map];congr 1;funext b;simp
def provedB(A:ArmV)(R:List (List (RV×RV)))(W:List (List (RV×RV))):Bool:=R.all fun row=>(shbL A row A.links.length).all fun b=>clearB [cnr b] W
open Go.RowKit num mem seg q held ratA ratB ratC ratD ratE vars ratF natC natD natI sub32
section
variable{K:AV->Prop}{x y:RV}
theorem ZpU(p o:Int)(a b:Rat):midQ p o a b=if o=0 then a else a+(b-a)*(p:Rat)/(o:Rat):=by
 unfold midQ;split
 .rename_i h;subst h;rw[show ((0:Int):Rat)=0 from rfl,Rat.div_def,Rat.inv_zero,Rat.mul_zero,Rat.zero_mul,Rat.add_zero]
 .rw[Rat.div_def,Rat.div_def,Rat.mul_comm (p:Rat),Rat.mul_assoc,Rat.mul_comm ((o:Rat)⁻¹),Rat.mul_comm (p:Rat)]
theorem ZuB(l m:List RV)(p o:Int)(hp1:-9223372036854775808<=p)(hp2:p<=9223372036854775807)(ho1:-9223372036854775808<=o)(ho2:o<=9223372036854775807)(hl:∀x,x∈l->x.z<=16777216)(hm:∀x,x∈m->x.z<=16777216)(hn:l.length<=1073741824)(hn':m.length<=1073741824):
  Spec Tryz.prog Tab 118 [.val (.one (.d (.list (vr l)))),.val (.one (.d (.list (vr m)))),int p,int o] (.val (.one (.d (.list (QL (midL l m p o)))))):=by
 have hll:=ZdY l;have hml:=ZdY m;have hlen:=Zau l m p o;refine Zb Tryz.func118 Tryz.ntmps118 ?_;have hmn:(if (((vr m).length:Nat):Int)<(((vr l).length:Nat):Int) then (((vr m).length:Nat):Int) else (((vr l).length:Nat):Int))=(((midL l m p o).length:Nat):Int):=by
  rw[hll,hml,hlen];split<;>omega
 refine⟨Nat,fun i=>[(0,.val (.one (.d (.list (vr l))))),(1,.val (.one (.d (.list (vr m))))),(2,int p),(3,int o),(9,.val (.one (.row 47 0))),(17,int (((midL l m p o).length:Nat):Int)),(18,int (i:Int))],
  fun i=>[(47,.row 52 3 0 (QL ((midL l m p o).take i)) true)],fun i=>i<=(midL l m p o).length,fun i=>(midL l m p o).length-i,0,?_,Nat.zero_le _,fun i hi=>?_⟩
 .constructor<;>(repeat' (first|exact rfl|exact True.intro|exact⟨_,_,rfl⟩|exact(by decide:0<3)|apply And.intro))
  all_goals exact congrArg (fun n:Int=>D.v (.int .i64 n)) hmn.symm
 refine⟨fun e=>?_,fun e=>?_⟩
 .have hlt:i<(midL l m p o).length:=by have:=oT e;omega
  obtain⟨x,hx⟩:∃a,l[i]? =some a:=⟨_,gE ω⟩;obtain⟨y,hy⟩:∃a,m[i]? =some a:=⟨_,gE ω⟩;have hxz:=hl x (mG hx);have hyz:=hm y (mG hy);have hlt2:(QL ((midL l m p o).take i)).length<=1099511627776:=by simp[QL];omega
  have hat:=ZjV (p:=p) (o:=o) hx hy;have hq:∀q,q=midQ p o x.q y.q->QL ((midL l m p o).take (i+1))=QL ((midL l m p o).take i)++[q3d q]:=by
   intro q hq;rw[take_add_one,hat,hq];simp[QL]
  refine k_at (rd x) (Int.natCast_nonneg _) (by rw[Int.toNat_natCast];exact ZnZ hx) rfl<|Zq (x:=x) ω fun q1 h1 z1=> k_at (rd y) (Int.natCast_nonneg _) (by rw[Int.toNat_natCast];exact ZnZ hy) rfl<|Zq (x:=y) ω fun q2 h2 z2=>⟨ωr,⟨fun e2=>?_,fun e2=>?_⟩⟩
  .have ho:o≠0:=by
    have:(o !=0)=true:=e2;simpa using this
   refine Zci (p:=q2) (q:=q1) ω ω fun q3 h3 z3=> k_N3 p hp1 hp2 fun q4 h4 z4=> Zbj (p:=q3) (q:=q4) ω ω fun q5 h5 z5=> k_N3 o ho1 ho2 fun q6 h6 z6=> ZeZ (p:=q5) (q:=q6) ω ω (by rw[h6];exact fun h=>ho (Rat.intCast_eq_zero_iff.1 h)) fun q7 h7 z7=> Ze0 (p:=q1) (q:=q7) ω ω fun q8 h8 z8=>?_;have hq8:=hq q8 (by rw[ZpU,if_neg ho,h8,h7,h6,h5,h4,h3,h2,h1]);refine⟨ωr,⟨⟨Zr1 [q8],?_,?_⟩,?_⟩⟩
   .show ((QL ((midL l m p o).take i)).length+1)*56<=_;omega
   .show (QL ((midL l m p o).take i)).length+1<=_;omega
   refine⟨i+1,hlt,by simp only;omega,?_⟩;constructor<;>(repeat' apply And.intro)<;>first|exact ωq|exact congrArg (fun n:Int=>D.v (.int .i64 n)) (show ((i+1:Nat):Int)=IntKind.i64.wrap ((i:Int)+1) by rw[wrap64 _ ω ω];omega)|(rw[hq8];exact rfl)
  .have ho:o=0:=by
    have:(o !=0)=false:=e2;simpa using this
   have hq8:=hq q1 (by rw[ZpU,if_pos ho,h1]);refine⟨⟨Zr1 [q1],?_,?_⟩,?_⟩
   .show ((QL ((midL l m p o).take i)).length+1)*56<=_;omega
   .show (QL ((midL l m p o).take i)).length+1<=_;omega
   refine⟨i+1,hlt,by simp only;omega,?_⟩;constructor<;>(repeat' apply And.intro)<;>first|exact ωq|exact congrArg (fun n:Int=>D.v (.int .i64 n)) (show ((i+1:Nat):Int)=IntKind.i64.wrap ((i:Int)+1) by rw[wrap64 _ ω ω];omega)|(rw[hq8];exact rfl)
 .have hge:i=(midL l m p o).length:=by have:=oF e;omega
  subst hge;refine Eq.trans (b:=.val (.one (.d (.list (QL ((midL l m p o).take (midL l m p o).length)))))) ?_ rfl;rw[take_length]
def s3(p q:Rat):AV:=.val (.agg [.d (.v (.bool (decide (p.num<0)))),.d (.list (W (w32 p.num.natAbs))),.d (.list (W (w32 p.den))),.d (.v (.bool (decide (q.num<0)))),.d (.list (W (w32 q.num.natAbs))),.d (.list (W (w32 q.den)))])
theorem Zux(p q:Rat)(hp:qs p<=8589934592)(hq:qs q<=8589934592):Spec Tryz.prog Tab 121 [s3 p q] (pair (cn p) (cn q)):=by
 refine Zb Tryz.func121 Tryz.ntmps121 ?_;exact ZtG (q:=p) hp<|ZtG (q:=q) hq ⟨ωr,rfl⟩
def stepL(l m:List RV)(o:Int)(k:Nat):List (Rat×Rat):=List.zipWith (fun a b=>(minQ a b,maxQ a b)) (midL l m (k:Int) o) (midL l m ((k:Int)+1) o)
def partsL(l m:List RV)(o:Int):List (List (Rat×Rat)):=(range o.toNat).map (stepL l m o)
def SL(r:List (Rat×Rat)):List (List D):=r.map fun p=>rd (cn p.1)++rd (cn p.2)
def PL(rows:List (List (Rat×Rat))):List (List D):=rows.map fun r=>[D.list (SL r)]
theorem ZvJ(r:List (Rat×Rat)):(SL r).length=r.length:=by simp[SL]
theorem ZvK(r:List (List (Rat×Rat))):(PL r).length=r.length:=by simp[PL]
theorem ZrV(l:List (Rat×Rat)):∀row,row∈SL l->row.length=6:=by
 intro row hr;obtain⟨q,_,rfl⟩:=List.mem_map.1 hr;rfl
theorem Zc2(l m:List RV)(o:Int)(k:Nat):(stepL l m o k).length=min l.length m.length:=by simp[stepL,Zau]
theorem Zgw{l m:List RV}{o:Int}{k i:Nat}{a b:Rat}(h1:(midL l m (k:Int) o)[i]? =some a)(h2:(midL l m ((k:Int)+1) o)[i]? =some b):(stepL l m o k)[i]? =some (minQ a b,maxQ a b):=by
 simp[stepL,List.getElem?_zipWith,h1,h2]
theorem ZdD(l m:List RV)(o:Int):(partsL l m o).length=o.toNat:=by simp[partsL]
theorem Zij{l m:List RV}{o:Int}{k:Nat}(h:k<o.toNat):(partsL l m o)[k]? =some (stepL l m o k):=by simp[partsL,h]
theorem ZrU{r:List (Rat×Rat)}{i:Nat}{p:Rat×Rat}(h:r[i]? =some p):SL (r.take (i+1))=SL (r.take i)++[rd (cn p.1)++rd (cn p.2)]:=by
 rw[take_add_one,h];simp[SL]
theorem Zr3{rows:List (List (Rat×Rat))}{i:Nat}{p:List (Rat×Rat)}(h:rows[i]? =some p):PL (rows.take (i+1))=PL (rows.take i)++[[D.list (SL p)]]:=by
 rw[take_add_one,h];simp[PL]
def splitBad(l m:List RV)(o:Int):Prop:=l.length≠m.length\/3<l.length\/o<1\/50<o
instance (l m:List RV)(o:Int):Decidable (splitBad l m o):=by unfold splitBad;infer_instance
theorem ZyY(l m:List RV)(p o:Int){u v:List (List D)}(hu:u=vr l)(hv:v=vr m){p':Int}(hp:p'=p)(hp1:-9223372036854775808<=p)(hp2:p<=9223372036854775807)(ho1:-9223372036854775808<=o)(ho2:o<=9223372036854775807)(hl:∀x,x∈l->x.z<=16777216)(hm:∀x,x∈m->x.z<=16777216)(hn:l.length<=1073741824)(hn':m.length<=1073741824)
 (k:K (.val (.one (.d (.list (RL (midL l m p o))))))):Ask 100 [.val (.one (.d (.list u))),.val (.one (.d (.list v))),int p',int o] K:=by
 subst hu hv hp;exact use (ZuD l m p' o hp1 hp2 ho1 ho2 hl hm hn hn') rfl k
theorem ZyX(l m:List RV)(p o:Int){u v:List (List D)}(hu:u=vr l)(hv:v=vr m){p':Int}(hp:p'=p)(hp1:-9223372036854775808<=p)(hp2:p<=9223372036854775807)(ho1:-9223372036854775808<=o)(ho2:o<=9223372036854775807)(hl:∀x,x∈l->x.z<=16777216)(hm:∀x,x∈m->x.z<=16777216)(hn:l.length<=1073741824)(hn':m.length<=1073741824)
 (k:K (.val (.one (.d (.list (QL (midL l m p o))))))):Ask 118 [.val (.one (.d (.list u))),.val (.one (.d (.list v))),int p',int o] K:=by
 subst hu hv hp;exact use (ZuB l m p' o hp1 hp2 ho1 ho2 hl hm hn hn') rfl k
theorem Znx(l m:List RV)(o:Int)(ho1:-9223372036854775808<=o)(ho2:o<=9223372036854775807)(hl:∀x,x∈l->x.z<=16777216)(hm:∀x,x∈m->x.z<=16777216)(hn:l.length<=1073741824)(hn':m.length<=1073741824):
  Spec Tryz.prog Tab 59 [.val (.one (.d (.list (vr l)))),.val (.one (.d (.list (vr m)))),int o] (if splitBad l m o then two (.val (.one (.d (.list [])))) (int 1) else two (.val (.one (.d (.list (PL (partsL l m o)))))) (int 0)):=by
 have hll:=ZdY l;have hml:=ZdY m;have bad:splitBad l m o->(if splitBad l m o then two (.val (.one (.d (.list [])))) (int 1) else two (.val (.one (.d (.list (PL (partsL l m o)))))) (int 0))=two (.val (.one (.d (.list [])))) (int 1):=fun h=>if_pos h;refine Zb Tryz.func59 Tryz.ntmps59 ?_;refine fork (fun e1=>?_) (fun e1=>?_)
 .refine⟨fun _=> bad (.inl fun h=>?_),fun e=>by simp at e⟩;have:((((vr l).length:Nat):Int) !=(((vr m).length:Nat):Int))=true:=e1;rw[hll,hml,h]at this;simp at this
 have c1:l.length=m.length:=by
  have:((((vr l).length:Nat):Int) !=(((vr m).length:Nat):Int))=false:=e1;rw[hll,hml]at this;simp at this;omega
 refine fork (fun e2=>?_) (fun e2=>?_)
 .exact⟨fun _=> bad (.inr (.inl (by have:=oT e2;omega))),fun e=>by simp at e⟩
 have c2:l.length<=3:=by have:=oF e2;omega
 refine fork (fun e3=>?_) (fun e3=>?_)
 .exact⟨fun _=> bad (.inr (.inr (.inl (oT e3)))),fun e=>by simp at e⟩
 have c3:1<=o:=by have:=oF e3;omega
 refine⟨fun e4=>?_,fun e4=>?_⟩
 .exact bad (.inr (.inr (.inr (oT e4))))
 have c4:o<=50:=by have:=oF e4;omega
 have good:¬splitBad l m o:=by
  rintro(h|h|h|h)
  .exact h c1
  .omega
  .omega
  .omega
 refine ZyY l m 0 o rfl rfl rfl ω ω ho1 ho2 hl hm hn hn' ?_;have hpl:=ZdD l m o;refine⟨Nat,fun k=>[(0,.val (.one (.d (.list (vr l))))),(1,.val (.one (.d (.list (vr m))))),(2,int o),(8,.val (.one (.row 77 0))),(9,.val (.one (.d (.list (RL (midL l m (k:Int) o)))))),(36,int o),(37,int (k:Int))],
  fun k=>[(77,.row 121 1 0 (PL ((partsL l m o).take k)) true)],fun k=>k<=o.toNat,fun k=>o.toNat-k,0,?_,Nat.zero_le _,fun k hk=>?_⟩
 .constructor<;>(repeat' (first|exact rfl|exact True.intro|exact⟨_,_,rfl⟩|exact(by decide:0<1)|apply And.intro))
 refine⟨fun e=>?_,fun e=>?_⟩
 .have hlt:k<o.toNat:=by have:=oT e;omega
  have hw1:IntKind.i64.wrap ((k:Int)+1)=(k:Int)+1:=wrap64 _ ω ω;refine ZyY l m ((k:Int)+1) o rfl rfl hw1 ω ω ho1 ho2 hl hm hn hn' ?_;have la:=Zau l m (k:Int) o;have lb:=Zau l m ((k:Int)+1) o;have ls:=Zc2 l m o k;have za:=ZdH (l:=l) (m:=m) (p:=(k:Int)) (o:=o) (Z:=16777216) ω ω ho1 ho2 hl hm;have zb:=ZdH (l:=l) (m:=m) (p:=(k:Int)+1) (o:=o) (Z:=16777216) ω ω ho1 ho2 hl hm;refine⟨Nat,fun i=>[(0,.val (.one (.d (.list (vr l))))),(1,.val (.one (.d (.list (vr m))))),(2,int o),(8,.val (.one (.row 77 0))),(9,.val (.one (.d (.list (RL (midL l m (k:Int) o)))))),(11,.val (.one (.d (.list (RL (midL l m ((k:Int)+1) o)))))),(12,.val (.one (.row 72 0))),(36,int o),(37,int (k:Int)),(47,int ((stepL l m o k).length:Int)),(48,int (i:Int))],
   fun i=>[(77,.row 121 1 0 (PL ((partsL l m o).take k)) true),(72,.row 165 6 0 (SL ((stepL l m o k).take i)) true)],fun i=>i<=(stepL l m o k).length,fun i=>(stepL l m o k).length-i,0,?_,Nat.zero_le _,fun i hi=>?_⟩
  .constructor<;>(repeat' (first|exact rfl|exact True.intro|exact⟨_,_,rfl⟩|exact(by decide:0<6)|apply And.intro))
   all_goals exact congrArg (fun n:Nat=>D.v (.int .i64 (n:Int))) (show (stepL l m o k).length=(RL (midL l m (k:Int) o)).length by rw[ZrZ];omega)
  refine⟨fun e5=>?_,fun e5=>?_⟩
  .have hil:i<(stepL l m o k).length:=by have:=oT e5;omega
   obtain⟨a,ha⟩:∃a,(midL l m (k:Int) o)[i]? =some a:=⟨_,gE ω⟩;obtain⟨b,hb⟩:∃b,(midL l m ((k:Int)+1) o)[i]? =some b:=⟨_,gE ω⟩;have hza:=za a (mG ha);have hzb:=zb b (mG hb);have hs:=Zgw ha hb;refine k_at (rd (cn a)) (Int.natCast_nonneg _) (by rw[Int.toNat_natCast];exact ZnH ha) rfl<|k_at (rd (cn b)) (Int.natCast_nonneg _) (by rw[Int.toNat_natCast];exact ZnH hb) rfl<|Zm7 (x:=cn a) (y:=cn b) ωn ωn fun q1 h1 z1=> k_at (rd (cn a)) (Int.natCast_nonneg _) (by rw[Int.toNat_natCast];exact ZnH ha) rfl<|k_at (rd (cn b)) (Int.natCast_nonneg _) (by rw[Int.toNat_natCast];exact ZnH hb) rfl<|Zm8 (x:=cn a) (y:=cn b) ωn ωn fun q2 h2 z2=>?_;simp only[cn_q]at h1 h2;have hq:SL ((stepL l m o k).take (i+1))=SL ((stepL l m o k).take i)++[rd (cn q1)++rd (cn q2)]:=by
    rw[ZrU hs,h1,h2]
   have hlt2:(SL ((stepL l m o k).take i)).length<=4:=by rw[ZvJ,length_take];omega
   refine⟨⟨ZrV [(q1,q2)],?_,?_⟩,?_⟩
   .show ((SL ((stepL l m o k).take i)).length+1)*80<=_;omega
   .show (SL ((stepL l m o k).take i)).length+1<=_;omega
   refine⟨ωr,⟨i+1,hil,by simp only;omega,?_⟩⟩;constructor<;>(repeat' apply And.intro)<;>first|exact ωq|exact congrArg (fun n:Int=>D.v (.int .i64 n)) (show ((i+1:Nat):Int)=IntKind.i64.wrap ((i:Int)+1) by rw[wrap64 _ ω ω];omega)|(rw[hq];exact rfl)
  .have hil:i=(stepL l m o k).length:=by have:=oF e5;omega
   subst hil;have hq:PL ((partsL l m o).take (k+1))=PL ((partsL l m o).take k)++[[D.list (SL ((stepL l m o k).take (stepL l m o k).length))]]:=by
    rw[Zr3 (Zij hlt),take_length]
   have hlt2:(PL ((partsL l m o).take k)).length<=50:=by rw[ZvK,length_take];omega
   refine⟨⟨fun row hrow=>by rw[List.mem_singleton.1 hrow];rfl,?_,?_⟩,?_⟩
   .show ((PL ((partsL l m o).take k)).length+1)*24<=_;omega
   .show (PL ((partsL l m o).take k)).length+1<=_;omega
   refine⟨k+1,hlt,by simp only;omega,?_⟩;constructor<;>(repeat' apply And.intro)<;>first|exact ωq|exact congrArg (fun n:Int=>D.v (.int .i64 n)) (show ((k+1:Nat):Int)=IntKind.i64.wrap ((k:Int)+1) by rw[wrap64 _ ω ω];omega)|(rw[hq];exact rfl)|rw[hq]
 .have hge:k=o.toNat:=by have:=oF e;omega
  subst hge;refine Eq.trans (if_neg good)<|Eq.trans (b:=two (.val (.one (.d (.list (PL ((partsL l m o).take o.toNat)))))) (int 0)) ?_ rfl;rw[List.take_of_length_le ω]
theorem ZnJ(l m:List RV)(o:Int)(ho1:1<=o)(ho2:o<=50)(hl:∀x,x∈l->x.z<=16777216)(hm:∀x,x∈m->x.z<=16777216)(hn:l.length<=1073741824)(hn':m.length<=1073741824):
  Spec Tryz.prog Tab 73 [.val (.one (.d (.list (vr l)))),.val (.one (.d (.list (vr m)))),int o] (.val (.one (.d (.list (PL (partsL l m o)))))):=by
 have hll:=ZdY l;have hml:=ZdY m;refine Zb Tryz.func73 Tryz.ntmps73 ?_;have hpl:=ZdD l m o;refine⟨Nat,fun k=>[(0,.val (.one (.d (.list (vr l))))),(1,.val (.one (.d (.list (vr m))))),(2,int o),(7,.val (.one (.row 60 0))),(13,int o),(14,int (k:Int))],
  fun k=>[(60,.row 121 1 0 (PL ((partsL l m o).take k)) true)],fun k=>k<=o.toNat,fun k=>o.toNat-k,0,?_,Nat.zero_le _,fun k hk=>?_⟩
 .constructor<;>(repeat' (first|exact rfl|exact True.intro|exact⟨_,_,rfl⟩|exact(by decide:0<1)|apply And.intro))
 refine⟨fun e=>?_,fun e=>?_⟩
 .have hlt:k<o.toNat:=by have:=oT e;omega
  have hw1:IntKind.i64.wrap ((k:Int)+1)=(k:Int)+1:=wrap64 _ ω ω;refine ZyX l m (k:Int) o rfl rfl rfl ω ω ω ω hl hm hn hn' ?_;refine ZyX l m ((k:Int)+1) o rfl rfl hw1 ω ω ω ω hl hm hn hn' ?_;have la:=Zau l m (k:Int) o;have lb:=Zau l m ((k:Int)+1) o;have ls:=Zc2 l m o k;have za:=ZdH (l:=l) (m:=m) (p:=(k:Int)) (o:=o) (Z:=16777216) ω ω ω ω hl hm;have zb:=ZdH (l:=l) (m:=m) (p:=(k:Int)+1) (o:=o) (Z:=16777216) ω ω ω ω hl hm;refine⟨Nat,fun i=>[(0,.val (.one (.d (.list (vr l))))),(1,.val (.one (.d (.list (vr m))))),(2,int o),(7,.val (.one (.row 60 0))),(9,.val (.one (.d (.list (QL (midL l m (k:Int) o)))))),(10,.val (.one (.d (.list (QL (midL l m ((k:Int)+1) o)))))),(11,.val (.one (.row 55 0))),(13,int o),(14,int (k:Int)),(29,int ((stepL l m o k).length:Int)),(30,int (i:Int))],
   fun i=>[(60,.row 121 1 0 (PL ((partsL l m o).take k)) true),(55,.row 165 6 0 (SL ((stepL l m o k).take i)) true)],fun i=>i<=(stepL l m o k).length,fun i=>(stepL l m o k).length-i,0,?_,Nat.zero_le _,fun i hi=>?_⟩
  .constructor<;>(repeat' (first|exact rfl|exact True.intro|exact⟨_,_,rfl⟩|exact(by decide:0<6)|apply And.intro))
   all_goals exact congrArg (fun n:Nat=>D.v (.int .i64 (n:Int))) (show (stepL l m o k).length=(QL (midL l m (k:Int) o)).length by rw[Zzv];omega)
  refine⟨fun e5=>?_,fun e5=>?_⟩
  .have hil:i<(stepL l m o k).length:=by have:=oT e5;omega
   obtain⟨a,ha⟩:∃a,(midL l m (k:Int) o)[i]? =some a:=⟨_,gE ω⟩;obtain⟨b,hb⟩:∃b,(midL l m ((k:Int)+1) o)[i]? =some b:=⟨_,gE ω⟩;have hza:=za a (mG ha);have hzb:=zb b (mG hb);have hs:=Zgw ha hb;refine k_at (q3d a) (Int.natCast_nonneg _) (by rw[Int.toNat_natCast];exact Zuz ha) rfl<|k_at (q3d b) (Int.natCast_nonneg _) (by rw[Int.toNat_natCast];exact Zuz hb) rfl<|Z8 (p:=a) (q:=b) ω ω fun q1 h1 z1=> k_at (q3d a) (Int.natCast_nonneg _) (by rw[Int.toNat_natCast];exact Zuz ha) rfl<|k_at (q3d b) (Int.natCast_nonneg _) (by rw[Int.toNat_natCast];exact Zuz hb) rfl<|ZaF (p:=a) (q:=b) ω ω fun q2 h2 z2=> use (Zux q1 q2 ω ω) rfl ?_;have hq:SL ((stepL l m o k).take (i+1))=SL ((stepL l m o k).take i)++[rd (cn q1)++rd (cn q2)]:=by
    rw[ZrU hs,h1,h2]
   have hlt2:(SL ((stepL l m o k).take i)).length<=1073741824:=by rw[ZvJ,length_take];omega
   refine⟨⟨ZrV [(q1,q2)],?_,?_⟩,?_⟩
   .show ((SL ((stepL l m o k).take i)).length+1)*80<=_;omega
   .show (SL ((stepL l m o k).take i)).length+1<=_;omega
   refine⟨ωr,⟨i+1,hil,by simp only;omega,?_⟩⟩;constructor<;>(repeat' apply And.intro)<;>first|exact ωq|exact congrArg (fun n:Int=>D.v (.int .i64 n)) (show ((i+1:Nat):Int)=IntKind.i64.wrap ((i:Int)+1) by rw[wrap64 _ ω ω];omega)|(rw[hq];exact rfl)
  .have hil:i=(stepL l m o k).length:=by have:=oF e5;omega
   subst hil;have hq:PL ((partsL l m o).take (k+1))=PL ((partsL l m o).take k)++[[D.list (SL ((stepL l m o k).take (stepL l m o k).length))]]:=by
    rw[Zr3 (Zij hlt),take_length]
   have hlt2:(PL ((partsL l m o).take k)).length<=50:=by rw[ZvK,length_take];omega
   refine⟨⟨fun row hrow=>by rw[List.mem_singleton.1 hrow];rfl,?_,?_⟩,?_⟩
   .show ((PL ((partsL l m o).take k)).length+1)*24<=_;omega
   .show (PL ((partsL l m o).take k)).length+1<=_;omega
   refine⟨k+1,hlt,by simp only;omega,?_⟩;constructor<;>(repeat' apply And.intro)<;>first|exact ωq|exact congrArg (fun n:Int=>D.v (.int .i64 n)) (show ((k+1:Nat):Int)=IntKind.i64.wrap ((k:Int)+1) by rw[wrap64 _ ω ω];omega)|(rw[hq];exact rfl)|rw[hq]
 .have hge:k=o.toNat:=by have:=oF e;omega
  subst hge;refine Eq.trans (b:=.val (.one (.d (.list (PL ((partsL l m o).take o.toNat)))))) ?_ rfl;rw[List.take_of_length_le ω]
end
theorem Zv5(r:List (Rat×Rat)):List.map rdv (cvl r)=SL r:=by
 unfold cvl SL;rw[map_map];rfl
theorem Zo8(rows:List (List (Rat×Rat))):List.map rdvs (rows.map cvl)=PL rows:=by
 unfold PL;rw[map_map];congr 1;funext r;show [D.list ((cvl r).map rdv)]=_;rw[Zv5]
def rowsL(l m:List RV)(o:Int):List (List (RV×RV)):=(partsL l m o).map cvl
theorem Zia(l m:List RV)(o:Int):(rowsL l m o).length=o.toNat:=by rw[rowsL,List.length_map,ZdD]
open Classical in
noncomputable def splitE(l m:List RV)(o:Int):Int:=if splitBad l m o then 1 else 0
open Classical in
noncomputable def splitV(l m:List RV)(o:Int):List (List (RV×RV)):=if splitBad l m o then [] else rowsL l m o
theorem Zed{l m:List RV}{o:Int}(h:splitBad l m o):splitE l m o=1:=if_pos h
theorem Zee{l m:List RV}{o:Int}(h:¬splitBad l m o):splitE l m o=0:=if_neg h
theorem Zsp{l m:List RV}{o:Int}(h:splitBad l m o):splitV l m o= []:=if_pos h
theorem ZkP{l m:List RV}{o:Int}(h:¬splitBad l m o):splitV l m o=rowsL l m o:=if_neg h
theorem ZhR{l m:List RV}{o:Int}:splitE l m o=0↔¬splitBad l m o:=by
 by_cases h:splitBad l m o
 .rw[Zed h];simp[h]
 .rw[Zee h];simp[h]
theorem ZgA{l m:List RV}{o:Int}(h:¬splitBad l m o):l.length=m.length/\l.length<=3/\1<=o/\o<=50:=by
 unfold splitBad at h;omega
theorem ZoZ{l m:List RV}{o:Int}(h:¬splitBad l m o)(hl:∀x,x∈l->x.z<=1048576)(hm:∀x,x∈m->x.z<=1048576):∀row,row∈rowsL l m o->row.length=l.length/\∀p,p∈row->p.1.z<=3145760/\p.2.z<=3145760:=fun row hr=>by
 obtain⟨h1,h2,h3,h4⟩:=ZgA h;obtain⟨r,hr2,rfl⟩:=List.mem_map.1 (show row∈List.map _ _ from hr);obtain⟨k,hk,rfl⟩:=List.mem_map.1 (show r∈List.map _ _ from hr2);have hk:k<o.toNat:=by simpa using hk
 have za:=ZdH (l:=l) (m:=m) (p:=(k:Int)) (o:=o) (Z:=1048576) ω ω ω ω hl hm;have zb:=ZdH (l:=l) (m:=m) (p:=(k:Int)+1) (o:=o) (Z:=1048576) ω ω ω ω hl hm;refine⟨by rw[Zxa,Zc2];omega,fun p hp=>?_⟩;obtain⟨q,hq,rfl⟩:=List.mem_map.1 (show p∈List.map _ _ from hp);obtain⟨i,hi⟩:=List.mem_iff_getElem?.1 hq;have hi2:i<(stepL l m o k).length:=(gS hi).1;rw[Zc2]at hi2;have ha:(midL l m (k:Int) o)[i]? =some _:=gE (by rw[Zau];exact hi2);have hb:(midL l m ((k:Int)+1) o)[i]? =some _:=gE (by rw[Zau];exact hi2);have e:=Zgw ha hb;obtain rfl:=sI (e.symm.trans hi);have ga:=za _ (mG ha);have gb:=zb _ (mG hb);simp only[cn_z];exact⟨ZpS ω ω,ZpY ω ω⟩
noncomputable def motE(A:ArmV)(l m:List RV)(W:List (List (RV×RV)))(o:Int):Int:=
 if hasE A (l.length:Int)=0 then (if splitE l m o=0 then wallsE W else 1) else hasE A (l.length:Int)
noncomputable def motB(A:ArmV)(l m:List RV)(W:List (List (RV×RV)))(o:Int):Bool:=
 if motE A l m W o=0 then provedB A (rowsL l m o) W else false
section
variable{A:ArmV}{l m:List RV}{W:List (List (RV×RV))}{o:Int}
theorem Zlk(h:¬hasE A (l.length:Int)=0):motE A l m W o=hasE A (l.length:Int):=if_neg h
theorem Zll(h:hasE A (l.length:Int)=0)(g:splitBad l m o):motE A l m W o=1:=by
 unfold motE;rw[if_pos h,if_neg (by rw[Zed g];decide)]
theorem Zg6(h:hasE A (l.length:Int)=0)(g:¬splitBad l m o):motE A l m W o=wallsE W:=by
 unfold motE;rw[if_pos h,if_pos (Zee g)]
theorem ZdG:motE A l m W o=0↔hasE A (l.length:Int)=0/\¬splitBad l m o/\wallsE W=0:=by
 by_cases h:hasE A (l.length:Int)=0
 .by_cases g:splitBad l m o
  .rw[Zll h g];simp[g]
  .rw[Zg6 h g];simp[h,g]
 .rw[Zlk h];simp[h]
theorem ZeQ(h:motE A l m W o=0):motB A l m W o=provedB A (rowsL l m o) W:=if_pos h
theorem ZjT(h:¬motE A l m W o=0):motB A l m W o=false:=if_neg h
end
def cnrs(L:List B4):List (List (RV×RV)):=L.map fun b=>cvl (cnr b)
theorem Zrt{L:List B4}{k:Nat}{b:B4}(h:L[k]? =some b):List.map rdvs (cnrs (L.take (k+1)))=List.map rdvs (cnrs (L.take k))++[rdvs (cvl (cnr b))]:=by
 have e:L.take (k+1)=L.take k++[b]:=by rw[take_add_one,h];rfl
 rw[e];simp[cnrs]
theorem Zl3(L:List B4):(cnrs L).length=L.length:=List.length_map ..
theorem Zxf{A:ArmV}(hA:armE A=0)(Q:List (RV×RV)):∀a,a∈cnrs (shbL A Q A.links.length)->okV a:=fun a ha=>by
 obtain⟨b,hb,rfl⟩:=List.mem_map.1 (show a∈List.map _ _ from ha);exact Zxg (Zv0 hA Q b hb) (Zx0 hA Q b hb)
theorem ZiW(A:ArmV)(Q:List (RV×RV))(W:List (List (RV×RV))):freeB (cnrs (shbL A Q A.links.length)) W=(shbL A Q A.links.length).all fun b=>clearB [cnr b] W:=Znh _ _
theorem Zxh{b:B4}(hz:b.z 400):∀a,a∈ [cnr b]->okP a:=fun a ha=>by
 obtain rfl:=List.mem_singleton.1 ha;obtain⟨⟨z1,z2⟩,z3,z4⟩:=hz;refine⟨by show 4<=8;omega,fun p hp=>?_⟩;have hp:p=(b.xl,b.yl)\/p=(b.xh,b.yl)\/p=(b.xh,b.yh)\/p=(b.xl,b.yh):=by simpa[cnr]using hp
 rcases hp with rfl|rfl|rfl|rfl<;>(simp only;omega)
section
variable{A:ArmV}{L:List (List RV)}{W:List (List (RV×RV))}{o:Int}{i:Nat}
end
section
variable{A:ArmV}{L:List (List RV)}{W:List (List (RV×RV))}{o:Int}
end
