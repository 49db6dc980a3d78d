/- Joined by wip/bundle.py: XSpr0 XSprA XSprR. -/
import Derived.Test.YtnhfpbcbhnfeaaaGreatDoorQGrpQ
import Derived.Test.YtnhfpbcbhnfeaaaGreatDoorQForeA
set_option maxHeartbeats 4000000
set_option maxRecDepth 100000
open List (foldl_cons foldl_nil map_nil mem_cons not_mem_nil length_map mem_of_getElem? length_cons)
namespace Go.Proofs.YtnhfpbcbhnfeaaaGreatDoor.eng
open Go.RowKit num mem seg q held ratA ratB ratC ratD ratE vars ratF trq
theorem qi_1:((1:Int):Rat)=1:=rfl
theorem Zpl:((-1:Int):Rat)=-1:=by decide+kernel
theorem qi_0:((0:Int):Rat)=0:=rfl
def sle(p q:Rat):Prop:=p<=q
theorem Zjf{c s:Rat}(h:unitC c s):(-1<=c/\c<=1)/\(-1<=s/\s<=1):=by
 unfold unitC at h;have sq:∀a:Rat,0<=a*a:=fun a=>by
  by_cases h:0<=a
  .exact Rat.mul_nonneg h h
  .have:=Rat.mul_nonneg (by grind:0<=-a) (by grind:0<=-a);grind
 have key:∀a b:Rat,a*a+b*b=1->a<=1:=fun a b e=>by
  refine Rat.not_lt.1 fun hlt=>?_;have:=Rat.mul_nonneg (by grind:0<=a-1) (by grind:0<=a-1);have:=sq b
  grind
 have n1:=key c s h;have n2:=key (-c) s (by grind);have n3:=key s c (by grind);have n4:=key (-s) c (by grind);exact⟨⟨by grind,n1⟩,⟨by grind,n3⟩⟩
theorem Zl1(t:Rat):(-1<=cosq false t/\cosq false t<=1)/\(-1<=sinq t/\sinq t<=1):=by
 have h:=Zjg false t;rw[ZcZ]at h;exact Zjf h
theorem ZdE(t:Rat):0<1+t*t:=by
 have:0<=t*t:=by
  by_cases h:0<=t
  .exact Rat.mul_nonneg h h
  .have:=Rat.mul_nonneg (by grind:0<=-t) (by grind:0<=-t);grind
 grind
theorem Zhq{a b:Rat}(hb:0<b){x:Rat}(h:x*b=a):(0<=a->0<=x)/\(a<=0->x<=0):=by
 constructor
 .intro ha;refine Rat.not_lt.1 fun hx=>?_;have:=Rat.mul_pos (by grind:0< -x) hb
  grind
 .intro ha;refine Rat.not_lt.1 fun hx=>?_;have:=Rat.mul_pos hx hb
  grind
theorem ZkT(t:Rat):(0<=t->0<=sinq t)/\(t<=0->sinq t<=0):=by
 obtain⟨_,h,_⟩:=Zes t;obtain⟨a,b⟩:=Zhq (ZdE t) h;exact⟨fun g=>a (by grind),fun g=>b (by grind)⟩
theorem Zrn{t:Rat}(h:t<=-1\/1<=t):cosq false t<=0:=by
 obtain⟨e,_,_⟩:=Zes t;refine(Zhq (ZdE t) e).2 ?_;rcases h with h|h
 .have:=Rat.mul_nonneg (by grind:0<=-t-1) (by grind:0<=-t+1);grind
 .have:=Rat.mul_nonneg (by grind:0<=t-1) (by grind:0<=t+1);grind
theorem Zl0{t:Rat}(h1:-1<=t)(h2:t<=1):0<=cosq false t:=by
 obtain⟨e,_,_⟩:=Zes t;refine(Zhq (ZdE t) e).1 ?_;have:=Rat.mul_nonneg (by grind:0<=1-t) (by grind:0<=1+t)
 grind
def ext3(l h:Rat):List Rat:=([-1,0,1]:List Int).foldl (ext l h) [l,h]
def cs3(l h:Rat):Rat×Rat:=(lowL (cosq false l) ((ext3 l h).map (cosq false)),highL (cosq false l) ((ext3 l h).map (cosq false)))
def sn3(l h:Rat):Rat×Rat:=(lowL (sinq l) ((ext3 l h).map sinq),highL (sinq l) ((ext3 l h).map sinq))
theorem Zbk{l h a:Rat}:hasQ l h a=true↔l<=a/\a<=h:=by
 unfold hasQ;rw[Bool.and_eq_true,decide_eq_true_iff,decide_eq_true_iff]
theorem Zua{l h t:Rat}(ht:t∈ext3 l h):t=l\/t=h\/t=-1\/t=0\/t=1:=by
 unfold ext3 ext at ht;simp only[foldl_cons,foldl_nil,qi_1,Zpl,qi_0]at ht
 (repeat' split at ht)<;>simp at ht<;>grind
theorem ZlO(l h:Rat):(ext3 l h).length<=5:=by
 unfold ext3 ext;simp only[foldl_cons,foldl_nil]
 (repeat' split)<;>simp
theorem Zoc:cosq false (-1)=0/\cosq false 0=1/\cosq false 1=0/\sinq (-1)=-1/\sinq 0=0/\sinq 1=1:=by decide+kernel
theorem Zxd{l h:Rat}(_:l<=h):(cosF (sqHi l h),cosF (sqLo l h))=cs3 l h:=by
 obtain⟨e1,e2,e3,_⟩:=Zoc;rw[Zxc,Zue];unfold cosL cosH;rw[Zhu,Zhu];obtain⟨⟨a1,a2⟩,_⟩:=Zl1 l;obtain⟨⟨b1,b2⟩,_⟩:=Zl1 h;have f1:hasQ l h 1=true->cosq false h<=0:=fun e=>Zrn (.inr (Zbk.1 e).2);have fm:hasQ l h (-1)=true->cosq false l<=0:=fun e=>Zrn (.inl (Zbk.1 e).1);have g1:hasQ l h 1=true->¬hasQ l h 0=true->0<=cosq false l:=fun e e0=>by
  rw[Zbk]at e e0;exact Zl0 (by grind) e.1
 have gm:hasQ l h (-1)=true->¬hasQ l h 0=true->0<=cosq false h:=fun e e0=>by
  rw[Zbk]at e e0;exact Zl0 e.2 (by grind)
 unfold cs3 ext3 ext;simp only[foldl_cons,foldl_nil,qi_1,Zpl,qi_0];generalize ha:cosq false l=a at*;generalize hb:cosq false h=b at*;by_cases c1:hasQ l h 1=true<;>by_cases c0:hasQ l h 0=true<;>by_cases cm:hasQ l h (-1)=true<;>
  simp only[c1,c0,cm,if_true,if_false,Bool.false_eq_true,List.cons_append,List.nil_append,List.map_cons,map_nil,ha,hb,e1,e2,e3,lowL,highL,foldl_cons,foldl_nil]<;>
  try simp only[c1,c0,cm,true_implies,false_implies,not_true_eq_false,not_false_eq_true,Bool.false_eq_true]at f1 fm g1 gm<;>
  unfold lowF highF<;>(refine Prod.ext ?_ ?_)<;>grind
theorem ZvZ{l h:Rat}(_:l<=h):sinS l h=sn3 l h:=by
 obtain⟨_,_,_,e1,e2,e3⟩:=Zoc;obtain⟨_,a1,a2⟩:=Zl1 l;obtain⟨_,b1,b2⟩:=Zl1 h;have f0:hasQ l h 0=true->sinq l<=0/\0<=sinq h:=fun e=>⟨(ZkT l).2 (Zbk.1 e).1,(ZkT h).1 (Zbk.1 e).2⟩;unfold sinS sn3 ext3 ext stp;simp only[foldl_cons,foldl_nil,qi_1,Zpl,qi_0];generalize ha:sinq l=a at*;generalize hb:sinq h=b at*;by_cases c1:hasQ l h 1=true<;>by_cases c0:hasQ l h 0=true<;>by_cases cm:hasQ l h (-1)=true<;>
  simp only[c1,c0,cm,if_true,if_false,Bool.false_eq_true,List.cons_append,List.nil_append,List.map_cons,map_nil,ha,hb,e1,e2,e3,lowL,highL,foldl_cons,foldl_nil]<;>
  try simp only[c0,true_implies,false_implies,Bool.false_eq_true]at f0<;>
  unfold lowF highF minQ maxQ<;>(refine Prod.ext ?_ ?_)<;>grind
theorem ZlZ(l h:Rat):(cs3 l h).1<=cosq false l/\cosq false l<=(cs3 l h).2:=⟨(Zcc _ _).1,(ZaU _ _).1⟩
theorem ZkS(l h:Rat):(sn3 l h).1<=sinq l/\sinq l<=(sn3 l h).2:=⟨(Zcc _ _).1,(ZaU _ _).1⟩
theorem ZiN{l h:Rat}{B:Nat}(hl:qs l<=B)(hh:qs h<=B)(hB:1<=B):∀t,t∈ext3 l h->qs t<=B:=by
 intro t ht;have z1:qs (-1:Rat)<=1:=by decide+kernel
 have z2:qs (0:Rat)<=1:=by decide+kernel
 have z3:qs (1:Rat)<=1:=by decide+kernel
 rcases Zua ht with rfl|rfl|rfl|rfl|rfl<;>omega
theorem Zxb{l h:Rat}{B:Nat}(hl:qs l<=B)(hh:qs h<=B)(hB:1<=B):qs (cs3 l h).1<=4*B+34/\qs (cs3 l h).2<=4*B+34:=by
 have k:∀q,q∈cosq false l::(ext3 l h).map (cosq false)->qs q<=4*B+34:=by
  intro q hq;rcases List.mem_cons.1 hq with rfl|hq
  .have:=(ZgT l).1;omega
  .obtain⟨t,ht,rfl⟩:=List.mem_map.1 hq;have:=ZiN hl hh hB t ht;have:=(ZgT t).1;omega
 exact⟨ZbR k,ZaT k⟩
theorem ZvY{l h:Rat}{B:Nat}(hl:qs l<=B)(hh:qs h<=B)(hB:1<=B):qs (sn3 l h).1<=4*B+34/\qs (sn3 l h).2<=4*B+34:=by
 have k:∀q,q∈sinq l::(ext3 l h).map sinq->qs q<=4*B+34:=by
  intro q hq;rcases List.mem_cons.1 hq with rfl|hq
  .have:=(ZgT l).2;omega
  .obtain⟨t,ht,rfl⟩:=List.mem_map.1 hq;have:=ZiN hl hh hB t ht;have:=(ZgT t).2;omega
 exact⟨ZbR k,ZaT k⟩
theorem Zwo(a b c d:Rat):minQ (minQ (a*c) (a*d)) (minQ (b*c) (b*d))=mulLo a b c d:=by
 unfold mulLo lowL;simp only[foldl_cons,foldl_nil];generalize a*c=x;generalize a*d=y;generalize b*c=z;generalize b*d=u;unfold minQ lowF;grind
theorem Zwp(a b c d:Rat):maxQ (maxQ (a*c) (a*d)) (maxQ (b*c) (b*d))=mulHi a b c d:=by
 unfold mulHi highL;simp only[foldl_cons,foldl_nil];generalize a*c=x;generalize a*d=y;generalize b*c=z;generalize b*d=u;unfold maxQ highF;grind
theorem Zp4{a b x y m:Rat}(h1:a<=x)(h2:x<=b)(e1:m<=a*y)(e2:m<=b*y):m<=x*y:=by
 by_cases h:0<=y
 .have:=Rat.mul_nonneg (by grind:0<=x-a) h;grind
 .have:=Rat.mul_nonneg (by grind:0<=b-x) (by grind:0<=-y);grind
theorem Zbe{a b c d x y:Rat}(h1:a<=x)(h2:x<=b)(h3:c<=y)(h4:y<=d):mulLo a b c d<=x*y/\x*y<=mulHi a b c d:=by
 obtain⟨l1,l2⟩:=Zcc [a*d,b*c,b*d] (a*c);obtain⟨g1,g2⟩:=ZaU [a*d,b*c,b*d] (a*c);have l3:=l2 (a*d) (by simp);have l4:=l2 (b*c) (by simp);have l5:=l2 (b*d) (by simp);have g3:=g2 (a*d) (by simp);have g4:=g2 (b*c) (by simp);have g5:=g2 (b*d) (by simp);change mulLo a b c d<=_ at l1 l3 l4 l5;change _<=mulHi a b c d at g1 g3 g4 g5;have m1:∀p:Rat,∀m,m<=p*c->m<=p*d->m<=p*y:=fun p m e1 e2=>by
  have:=Zp4 h3 h4 (m:=m) (y:=p) (by grind) (by grind);grind
 constructor
 .exact Zp4 h1 h2 (m1 a _ l1 l3) (m1 b _ l4 l5)
 .have:=Zp4 (m:=-mulHi a b c d) (y:=-y) h1 h2 (by have:=m1 (-a) (-mulHi a b c d) (by grind) (by grind);grind) (by have:=m1 (-b) (-mulHi a b c d) (by grind) (by grind);grind)
  grind
theorem ZpM{a b c d:Rat}{B C:Nat}(h1:qs a<=B)(h2:qs b<=B)(h3:qs c<=C)(h4:qs d<=C):qs (mulLo a b c d)<=B+C/\qs (mulHi a b c d)<=B+C:=by
 have k:∀q,q∈a*c::[a*d,b*c,b*d]->qs q<=B+C:=by
  intro q hq;simp only[mem_cons,not_mem_nil,or_false]at hq;rcases hq with rfl|rfl|rfl|rfl
  .have:=ZX a c;omega
  .have:=ZX a d;omega
  .have:=ZX b c;omega
  .have:=ZX b d;omega
 exact⟨ZbR k,ZaT k⟩
def mill:Rat:=((1000000:Int):Rat)
def cutLo(q:Rat):Rat:=maxQ (downQ q 1000000) ((-1:Int):Rat)
def cutHi(q:Rat):Rat:=minQ (upQ q 1000000) ((1:Int):Rat)
theorem ZdQ(q:Rat):downQ q 1000000=((q*mill).floor:Rat)/mill:=by
 unfold downQ;rw[show dnN 1000000=1000000 from rfl,Rat.mkRat_eq_div];rfl
theorem Zg8:(0:Rat)<mill:=by decide+kernel
theorem ZjU:mill≠0:=by decide+kernel
theorem Zrf(q:Rat):downQ q 1000000<=q:=by
 rw[ZdQ];have h:=Rat.floor_le (a:=q*mill);refine Rat.not_lt.1 fun hlt=>?_;rw[Rat.lt_div_iff Zg8]at hlt;exact absurd h (Rat.not_le.2 hlt)
theorem Zzy(q:Rat):q<=upQ q 1000000:=by
 have:=Zrf (-q);unfold upQ;grind
theorem Zgg{q c:Rat}(h1:-1<=c)(h2:c<=1):(q<=c->cutLo q<=c)/\(c<=q->c<=cutHi q):=by
 have a:=Zrf q;have b:=Zzy q;unfold cutLo cutHi maxQ minQ;rw[qi_1,Zpl];constructor<;>intro h<;>split<;>grind
theorem Zvd{n:Int}(h1:-1<=(n:Rat)/mill)(h2:(n:Rat)/mill<=1):qs ((n:Rat)/mill)<=3:=by
 have e:(n:Rat)/mill=mkRat n 1000000:=by rw[Rat.mkRat_eq_div];rfl
 have hm:(n:Rat)=(n:Rat)/mill*mill:=(Rat.div_mul_cancel ZjU).symm;have p:=Rat.mul_nonneg (by grind:0<=1-(n:Rat)/mill) (Rat.le_of_lt Zg8);have q:=Rat.mul_nonneg (by grind:0<=1+(n:Rat)/mill) (Rat.le_of_lt Zg8);have a1:(n:Rat)<=((1000000:Int):Rat):=by show _<=mill;grind
 have a2:((-1000000:Int):Rat)<=(n:Rat):=by
  have:((-1000000:Int):Rat)=-mill:=by decide+kernel
  rw[this];grind
 have b1:=Rat.intCast_le_intCast.1 a1;have b2:=Rat.intCast_le_intCast.1 a2;rw[e];exact Zei ωd ω ωd
theorem Zrl{q c:Rat}(h1:-1<=c)(h2:c<=1)(h:q<=c):qs (cutLo q)<=3:=by
 have a:=(Zgg (q:=q) h1 h2).1 h;have z:qs ((-1:Int):Rat)<=3:=by decide+kernel
 unfold cutLo maxQ at*;rw[Zpl]at*;split at a
 .rename_i g;rw[if_pos g,ZdQ];rw[ZdQ]at a g;exact Zvd g (Rat.le_trans a h2)
 .rename_i g;rw[if_neg g];exact z
theorem neg_div'(n:Int):-((n:Rat)/mill)=((-n:Int):Rat)/mill:=by
 rw[Rat.intCast_neg,Rat.div_def,Rat.div_def];grind
theorem Zrm{q c:Rat}(h1:-1<=c)(h2:c<=1)(h:c<=q):qs (cutHi q)<=3:=by
 have a:=(Zgg (q:=q) h1 h2).2 h;have z:qs ((1:Int):Rat)<=3:=by decide+kernel
 unfold cutHi minQ at*;rw[qi_1]at*;split at a
 .rename_i g;rw[if_pos g];unfold upQ at*;rw[ZdQ,neg_div']at*;exact Zvd (Rat.le_trans h1 a) g
 .rename_i g;rw[if_neg g];exact z
structure LF where
 xl:Rat
 xh:Rat
 yl:Rat
 yh:Rat
 cl:Rat
 ch:Rat
 sl:Rat
 sh:Rat
def LF.has(f:LF)(g:RF):Prop:=(f.xl<=g.x/\g.x<=f.xh)/\(f.yl<=g.y/\g.y<=f.yh)/\(f.cl<=g.c/\g.c<=f.ch)/\(f.sl<=g.s/\g.s<=f.sh)
def tightL(g:RF):LF:=⟨g.x,g.x,g.y,g.y,g.c,g.c,g.s,g.s⟩
theorem Zmp(g:RF):(tightL g).has g:=⟨⟨Rat.le_refl,Rat.le_refl⟩,⟨Rat.le_refl,Rat.le_refl⟩,⟨Rat.le_refl,Rat.le_refl⟩,⟨Rat.le_refl,Rat.le_refl⟩⟩
def turnCl(f:LF)(c s:Rat×Rat):Rat:=mulLo f.cl f.ch c.1 c.2-mulHi f.sl f.sh s.1 s.2
def turnCh(f:LF)(c s:Rat×Rat):Rat:=mulHi f.cl f.ch c.1 c.2-mulLo f.sl f.sh s.1 s.2
def turnSl(f:LF)(c s:Rat×Rat):Rat:=mulLo f.sl f.sh c.1 c.2+mulLo f.cl f.ch s.1 s.2
def turnSh(f:LF)(c s:Rat×Rat):Rat:=mulHi f.sl f.sh c.1 c.2+mulHi f.cl f.ch s.1 s.2
def turnL(f:LF)(c s:Rat×Rat):LF:=⟨f.xl,f.xh,f.yl,f.yh,cutLo (turnCl f c s),cutHi (turnCh f c s),cutLo (turnSl f c s),cutHi (turnSh f c s)⟩
def longL(f:LF)(n:Rat):LF:=⟨f.xl+mulLo n n f.cl f.ch,f.xh+mulHi n n f.cl f.ch,f.yl+mulLo n n f.sl f.sh,f.yh+mulHi n n f.sl f.sh,f.cl,f.ch,f.sl,f.sh⟩
theorem Zn5{f:LF}{g:RF}(h:f.has g){c s:Rat×Rat}{t:Rat}(hc:c.1<=cosq false t/\cosq false t<=c.2)(hs:s.1<=sinq t/\sinq t<=s.2):
  (turnCl f c s<=(turnF g t).c/\(turnF g t).c<=turnCh f c s)/\(turnSl f c s<=(turnF g t).s/\(turnF g t).s<=turnSh f c s):=by
 obtain⟨_,_,⟨c1,c2⟩,s1,s2⟩:=h;have a:=Zbe c1 c2 hc.1 hc.2;have b:=Zbe s1 s2 hs.1 hs.2;have d:=Zbe s1 s2 hc.1 hc.2;have e:=Zbe c1 c2 hs.1 hs.2;unfold turnCl turnCh turnSl turnSh turnF;simp only;exact⟨⟨by grind,by grind⟩,⟨by grind,by grind⟩⟩
theorem Zn6{f:LF}{g:RF}(h:f.has g)(hu:g.u){c s:Rat×Rat}{t:Rat}(hc:c.1<=cosq false t/\cosq false t<=c.2)(hs:s.1<=sinq t/\sinq t<=s.2):(turnL f c s).has (turnF g t):=by
 obtain⟨⟨a1,a2⟩,a3,a4⟩:=Zn5 h hc hs;obtain⟨⟨u1,u2⟩,u3,u4⟩:=Zjf (Zgu hu t);exact⟨h.1,h.2.1,⟨(Zgg u1 u2).1 a1,(Zgg u1 u2).2 a2⟩,(Zgg u3 u4).1 a3,(Zgg u3 u4).2 a4⟩
theorem Zp2{f:LF}{g:RF}(h:f.has g)(n:Rat):(longL f n).has (longF g n):=by
 obtain⟨⟨x1,x2⟩,⟨y1,y2⟩,⟨c1,c2⟩,s1,s2⟩:=h;have a:=Zbe (Rat.le_refl (a:=n)) Rat.le_refl c1 c2;have b:=Zbe (Rat.le_refl (a:=n)) Rat.le_refl s1 s2;refine⟨⟨?_,?_⟩,⟨?_,?_⟩,⟨c1,c2⟩,s1,s2⟩
 .show f.xl+mulLo n n f.cl f.ch<=g.x+g.c*n;grind
 .show g.x+g.c*n<=f.xh+mulHi n n f.cl f.ch;grind
 .show f.yl+mulLo n n f.sl f.sh<=g.y+g.s*n;grind
 .show g.y+g.s*n<=f.yh+mulHi n n f.sl f.sh;grind
def LF.le(f:LF):Prop:=sle f.xl f.xh/\sle f.yl f.yh/\sle f.cl f.ch/\sle f.sl f.sh
theorem LF.has_le{f:LF}{g:RF}(h:f.has g):f.le:=⟨Rat.le_trans h.1.1 h.1.2,Rat.le_trans h.2.1.1 h.2.1.2,Rat.le_trans h.2.2.1.1 h.2.2.1.2,Rat.le_trans h.2.2.2.1 h.2.2.2.2⟩
def spAt(Q:List (RV×RV))(i:Nat):RV×RV:=(Q[i]?).getD (z0,z0)
def loAt(Q:List (RV×RV))(i:Nat):Rat:=slo (spAt Q i).1 (spAt Q i).2
def hiAt(Q:List (RV×RV))(i:Nat):Rat:=shi (spAt Q i).1 (spAt Q i).2
theorem Zow{Q:List (RV×RV)}{i:Nat}{x:RV×RV}(h:Q[i]? =some x):loAt Q i=slo x.1 x.2/\hiAt Q i=shi x.1 x.2:=by simp[loAt,hiAt,spAt,h]
def endL(A:ArmV)(Q:List (RV×RV)):Nat->LF
 |0=>tightL (baseF A)
 |i+1=>longL (turnL (endL A Q i) (cs3 (loAt Q i) (hiAt Q i)) (sn3 (loAt Q i) (hiAt Q i))) (lenAt A i)
def linkL(A:ArmV)(Q:List (RV×RV))(i:Nat):LF:=turnL (endL A Q i) (cs3 (loAt Q i) (hiAt Q i)) (sn3 (loAt Q i) (hiAt Q i))
def endX(A:ArmV)(Q:List (RV×RV)):Nat->RF
 |0=>baseF A
 |i+1=>longF (turnF (endX A Q i) (loAt Q i)) (lenAt A i)
theorem ZlS(A:ArmV)(Q:List (RV×RV)):∀i,(endX A Q i).u
 |0=>Zjg _ _
 |i+1=>Zww (Zgu (ZlS A Q i) _) _
theorem linkL_has'{A:ArmV}{Q:List (RV×RV)}{i:Nat}(h:(endL A Q i).has (endX A Q i)):(linkL A Q i).has (turnF (endX A Q i) (loAt Q i)):=Zn6 h (ZlS A Q i) (ZlZ _ _) (ZkS _ _)
theorem Zdp(A:ArmV)(Q:List (RV×RV)):∀i,(endL A Q i).has (endX A Q i)
 |0=>Zmp _
 |i+1=>Zp2 (linkL_has' (Zdp A Q i)) _
theorem Zdc(A:ArmV)(Q:List (RV×RV))(i:Nat):(linkL A Q i).has (turnF (endX A Q i) (loAt Q i)):=linkL_has' (Zdp A Q i)
def linksL(A:ArmV)(Q:List (RV×RV))(n:Nat):List LF:=(List.range n).map (linkL A Q)
def spreadL(A:ArmV)(Q:List (RV×RV)):List LF:=linksL A Q A.links.length++[endL A Q A.links.length]
theorem ZfZ(A:ArmV)(Q:List (RV×RV))(n:Nat):(linksL A Q n).length=n:=by simp[linksL]
theorem ZcF(A:ArmV)(Q:List (RV×RV)):(spreadL A Q).length=A.links.length+1:=by simp[spreadL,linksL]
theorem ZeU{α:Type}(g:LF->α)(A:ArmV)(Q:List (RV×RV))(i:Nat):List.map g (linksL A Q (i+1))=List.map g (linksL A Q i)++[g (linkL A Q i)]:=by
 simp[linksL,List.range_succ]
def LF.zc(f:LF)(B:Nat):Prop:=(qs f.cl<=B/\qs f.ch<=B)/\(qs f.sl<=B/\qs f.sh<=B)
def LF.zx(f:LF)(B:Nat):Prop:=(qs f.xl<=B/\qs f.xh<=B)/\(qs f.yl<=B/\qs f.yh<=B)
theorem Zse{f:LF}{g:RF}(h:f.has g)(hu:g.u){c s:Rat×Rat}{t:Rat}(hc:c.1<=cosq false t/\cosq false t<=c.2)(hs:s.1<=sinq t/\sinq t<=s.2):(turnL f c s).zc 3:=by
 obtain⟨⟨a1,a2⟩,a3,a4⟩:=Zn5 h hc hs;obtain⟨⟨u1,u2⟩,u3,u4⟩:=Zjf (Zgu hu t);exact⟨⟨Zrl u1 u2 a1,Zrm u1 u2 a2⟩,Zrl u3 u4 a3,Zrm u3 u4 a4⟩
theorem ZbS(A:ArmV)(Q:List (RV×RV))(i:Nat):(linkL A Q i).zc 3:=Zse (Zdp A Q i) (ZlS A Q i) (ZlZ _ _) (ZkS _ _)
theorem Zq9{A:ArmV}(hA:armE A=0)(Q:List (RV×RV)):∀i,(endL A Q i).zc 66
 |0=>by obtain⟨_,_,b3,b4⟩:=ZrJ hA;exact⟨⟨b3,b3⟩,b4,b4⟩
 |i+1=>by
  obtain⟨⟨a1,a2⟩,a3,a4⟩:=ZbS A Q i;exact⟨⟨Nat.le_trans a1 ωd,Nat.le_trans a2 ωd⟩,Nat.le_trans a3 ωd,Nat.le_trans a4 ωd⟩
theorem Zho{A:ArmV}(hA:armE A=0)(Q:List (RV×RV)):∀i,(endL A Q i).zx (4+8*i)
 |0=>by obtain⟨b1,b2,_⟩:=ZrJ hA;exact⟨⟨b1,b1⟩,b2,b2⟩
 |i+1=>by
  obtain⟨⟨x1,x2⟩,y1,y2⟩:=Zho hA Q i;obtain⟨⟨c1,c2⟩,s1,s2⟩:=ZbS A Q i;have hl:=Zwy hA i;obtain⟨m1,m2⟩:=ZpM hl hl c1 c2;obtain⟨m3,m4⟩:=ZpM hl hl s1 s2;have e1:=ZR (endL A Q i).xl (mulLo (lenAt A i) (lenAt A i) (linkL A Q i).cl (linkL A Q i).ch);have e2:=ZR (endL A Q i).xh (mulHi (lenAt A i) (lenAt A i) (linkL A Q i).cl (linkL A Q i).ch);have e3:=ZR (endL A Q i).yl (mulLo (lenAt A i) (lenAt A i) (linkL A Q i).sl (linkL A Q i).sh);have e4:=ZR (endL A Q i).yh (mulHi (lenAt A i) (lenAt A i) (linkL A Q i).sl (linkL A Q i).sh);exact⟨⟨by show qs ((endL A Q i).xl+mulLo (lenAt A i) (lenAt A i) (linkL A Q i).cl (linkL A Q i).ch)<=_;omega,by show qs ((endL A Q i).xh+mulHi (lenAt A i) (lenAt A i) (linkL A Q i).cl (linkL A Q i).ch)<=_;omega⟩,
   by show qs ((endL A Q i).yl+mulLo (lenAt A i) (lenAt A i) (linkL A Q i).sl (linkL A Q i).sh)<=_;omega,by show qs ((endL A Q i).yh+mulHi (lenAt A i) (lenAt A i) (linkL A Q i).sl (linkL A Q i).sh)<=_;omega⟩
theorem Ztq{A:ArmV}(hA:armE A=0)(Q:List (RV×RV))(i:Nat):(linkL A Q i).zx (4+8*i):=Zho hA Q i
def rdL(f:LF):List D:=rd (cn f.xl)++rd (cn f.xh)++rd (cn f.yl)++rd (cn f.yh)++rd (cn f.cl)++rd (cn f.ch)++rd (cn f.sl)++rd (cn f.sh)
def rqL(f:LF):List D:=q3d f.xl++q3d f.xh++q3d f.yl++q3d f.yh++q3d f.cl++q3d f.ch++q3d f.sl++q3d f.sh
def foLo(f:Rat->Rat)(p:Rat)(L:List Rat)(j:Nat):Rat:=lowL (f p) ((L.take j).map f)
def foHi(f:Rat->Rat)(p:Rat)(L:List Rat)(j:Nat):Rat:=highL (f p) ((L.take j).map f)
theorem fo_s{f:Rat->Rat}{p:Rat}{L:List Rat}{j:Nat}{x:Rat}(h:L[j]? =some x):foLo f p L (j+1)=minQ (foLo f p L j) (f x)/\foHi f p L (j+1)=maxQ (foHi f p L j) (f x):=by
 unfold foLo foHi lowL highL;rw[List.take_add_one,h,ZpR,Zlm];simp
theorem fo_z{f:Rat->Rat}{p:Rat}{L:List Rat}{B:Nat}(h:∀t,t∈p::L->qs (f t)<=B)(j:Nat):qs (foLo f p L j)<=B/\qs (foHi f p L j)<=B:=by
 have k:∀q,q∈f p::(L.take j).map f->qs q<=B:=by
  intro q hq;rcases List.mem_cons.1 hq with rfl|hq
  .exact h _ (by simp)
  .obtain⟨t,ht,rfl⟩:=List.mem_map.1 hq;exact h t (List.mem_cons_of_mem _ (List.mem_of_mem_take ht))
 exact⟨ZbR k,ZaT k⟩
theorem Zvz{p q:Rat}{L:List Rat}(h:L=ext3 p q){j:Nat}(hj:j=L.length):foLo (cosq false) p L j=(cs3 p q).1/\foHi (cosq false) p L j=(cs3 p q).2/\foLo sinq p L j=(sn3 p q).1/\foHi sinq p L j=(sn3 p q).2:=by
 subst h hj;unfold foLo foHi;rw[List.take_length];exact⟨rfl,rfl,rfl,rfl⟩
theorem Zq3{p q:Rat}{B:Nat}(hp:qs p<=B)(hq:qs q<=B)(hB:1<=B):(∀t,t∈p::ext3 p q->qs (cosq false t)<=4*B+34)/\∀t,t∈p::ext3 p q->qs (sinq t)<=4*B+34:=by
 have k:∀t,t∈p::ext3 p q->qs t<=B:=by
  intro t ht;rcases List.mem_cons.1 ht with rfl|ht
  .exact hp
  .exact ZiN hp hq hB t ht
 exact⟨fun t ht=>by have:=k t ht;have:=(ZgT t).1;omega,fun t ht=>by have:=k t ht;have:=(ZgT t).2;omega⟩
theorem ZfY(p q r u:Rat):qs (mulLo p q r u)<=qs p+qs q+qs r+qs u/\qs (mulHi p q r u)<=qs p+qs q+qs r+qs u:=by
 obtain⟨h1,h2⟩:=ZpM (a:=p) (b:=q) (c:=r) (d:=u) (B:=qs p+qs q) (C:=qs r+qs u) ω ω ω ω;omega
theorem ZvD(q:Rat):qs (cutLo q)<=qs q+60/\qs (cutHi q)<=qs q+60:=by
 have h1:=ZdA q 1000000 ωd;have h2:=ZdA (-q) 1000000 ωd;have h3:=ZbY q;have h4:=ZbY (downQ (-q) 1000000);have z:qs ((-1:Int):Rat)<=3:=by decide+kernel
 have z':qs ((1:Int):Rat)<=3:=by decide+kernel
 unfold cutLo cutHi maxQ minQ upQ;constructor<;>split<;>omega
open Classical in
noncomputable def spreadV(A:ArmV)(Q:List (RV×RV)):List LF:=if hasE A (Q.length:Int)=0 then spreadL A Q else []
theorem Zco{A:ArmV}{Q:List (RV×RV)}(h:hasE A (Q.length:Int)=0):spreadV A Q=spreadL A Q:=if_pos h
theorem Zms{A:ArmV}{Q:List (RV×RV)}(h:¬hasE A (Q.length:Int)=0):spreadV A Q= []:=if_neg h
section
variable{K:AV->Prop}
theorem Zmy(x y:RV)(n:Int)(hx:x.z<=268435456)(hy:y.z<=268435456)(hn:n<=9223372036854775807):Spec Tryz.prog Tab 205 [pair x y,int n] (pair (cn (downQ (slo x y) n)) (cn (upQ (shi x y) n))):=by
 refine Zb Tryz.func205 Tryz.ntmps205 ?_;refine Zcg (x:=x) (y:=y) ω ω (fun p6 q6 hk_6_2 hk_6_3 a0 a1=>?_);simp only[cn_z]at a0;simp only[cn_z]at a1;refine Zvv (den:=n) (x:=cn p6) ωz ω (fun q10 a2 a3=>?_)
 try simp only[cn_q]at a2
 simp only[cn_z]at a3;refine k_up (den:=n) (x:=cn q6) ωz ω (fun q14 a4 a5=>?_)
 try simp only[cn_q]at a4
 simp only[cn_z]at a5;refine⟨ωr,Eq.trans (b:=pair (cn q10) (cn q14)) ?_ rfl⟩
 subst_vars;rfl
theorem ZwD{x y:RV}{n:Int}(hx:x.z<=268435456)(hy:y.z<=268435456)(hn:n<=9223372036854775807)(k:∀ya yb,ya=downQ (slo x y) n->yb=upQ (shi x y) n->(cn ya).z<=x.z+100->(cn yb).z<=y.z+100->K (pair (cn ya) (cn yb))):Ask 205 [pair x y,int n] K:=use (Zmy x y n hx hy hn) rfl (k _ _ rfl rfl (by have:=ZbJ x y;have:=ZdA (slo x y) n hn;rw[cn_z]at*;omega) (by have:=ZbK x y;have:=ZdA (-shi x y) n hn;have:=ZbY (shi x y);have:=ZbY (downQ (-shi x y) n);rw[cn_z]at*;show qs (-downQ (-shi x y) n)<=_;omega))
theorem Zs4  :Spec Tryz.prog Tab 206 [] (pair (cn ((-1:Int):Rat)) (cn ((1:Int):Rat))):=by
 refine Zb Tryz.func206 Tryz.ntmps206 ?_;refine k_of (-1) ω ω fun q1 h1 z1=>?_;simp only[cn_z]at z1;refine k_of (1) ω ω fun q2 h2 z2=>?_;simp only[cn_z]at z2;refine Eq.trans (b:=pair (cn q1) (cn q2)) ?_ rfl
 subst_vars;rfl
theorem ZyL(k:∀ya yb,ya=((-1:Int):Rat)->yb=((1:Int):Rat)->(cn ya).z<=8->(cn yb).z<=8->K (pair (cn ya) (cn yb))):Ask 206 [] K:=use Zs4 rfl (k _ _ rfl rfl Zye Zk5)
theorem Zud(x y:RV)(hx:x.z<=268435456)(hy:y.z<=268435456):Spec Tryz.prog Tab 164 [pair x y] (pair (cn (cutLo (slo x y))) (cn (cutHi (shi x y)))):=by
 refine Zb Tryz.func164 Tryz.ntmps164 ?_;refine ZwD (x:=x) (y:=y) (n:=1000000) ω ω ω (fun a0 a1 hk_4_2 hk_4_3 a2 a3=>?_);simp only[cn_z]at a2;simp only[cn_z]at a3;refine ZyL   (fun a4 yb7 hk_7_2 hk_7_3 a5 a6=>?_);simp only[cn_z]at a5;simp only[cn_z]at a6;refine Zm8 (x:=cn a0) (y:=cn a4) ωz ωz fun q9 h9 z9=>?_;simp only[cn_z]at z9;simp only[cn_q]at h9;refine ZyL   (fun ya12 a7 hk_12_2 hk_12_3 a8 a9=>?_);simp only[cn_z]at a8;simp only[cn_z]at a9;refine Zm7 (x:=cn a1) (y:=cn a7) ωz ωz fun q14 h14 z14=>?_;simp only[cn_z]at z14;simp only[cn_q]at h14;refine⟨ωr,Eq.trans (b:=pair (cn q9) (cn q14)) ?_ rfl⟩
 subst_vars;rfl
theorem ZwL{a b c d e f g h:RV}(k:K (box a c b d)):Ask 107 [loose a b c d e f g h] K:=use2 k (by
 refine Zb Tryz.func107 Tryz.ntmps107 ?_;refine Eq.trans (b:=box a c b d) ?_ rfl;rfl
 ) rfl
theorem ZcB{p q r u:Rat}(h1:sle p q)(h2:sle r u)(hp:qs p<=268435456)(hq:qs q<=268435456)(hr:qs r<=268435456)(hu:qs u<=268435456)(k:∀ya yb,ya=mulLo p q r u->yb=mulHi p q r u->sle ya yb->qs ya<=qs p+qs q+qs r+qs u+20->qs yb<=qs p+qs q+qs r+qs u+20->K (pair (cn ya) (cn yb))):Ask 166 [pair (cn p) (cn q),pair (cn r) (cn u)] K:=by
 refine ZyG ωn ωn ωn ωn fun ya yb ha hb z1 z2=>?_;simp only[Zaz h1,ZaA h1,Zaz h2,ZaA h2]at ha hb;simp only[cn_z]at z1 z2;exact k ya yb ha hb (by rw[ha,hb];exact Rat.le_trans (Zbe Rat.le_refl h1 Rat.le_refl h2).1 (Zbe Rat.le_refl h1 Rat.le_refl h2).2) ω ω
theorem Zf4{p q r u:Rat}(h1:sle p q)(h2:sle r u)(hp:qs p<=268435456)(hq:qs q<=268435456)(hr:qs r<=268435456)(hu:qs u<=268435456)(k:∀ya yb,ya=p+r->yb=q+u->sle ya yb->qs ya<=qs p+qs q+qs r+qs u+20->qs yb<=qs p+qs q+qs r+qs u+20->K (pair (cn ya) (cn yb))):Ask 167 [pair (cn p) (cn q),pair (cn r) (cn u)] K:=by
 refine ZyH ωn ωn ωn ωn fun ya yb ha hb z1 z2=>?_;simp only[Zaz h1,ZaA h1,Zaz h2,ZaA h2]at ha hb;simp only[cn_z]at z1 z2;exact k ya yb ha hb (by rw[ha,hb];unfold sle at*;grind) ω ω
theorem Zvp{p q r u:Rat}(h1:sle p q)(h2:sle r u)(hp:qs p<=268435456)(hq:qs q<=268435456)(hr:qs r<=268435456)(hu:qs u<=268435456)(k:∀ya yb,ya=p-u->yb=q-r->sle ya yb->qs ya<=qs p+qs q+qs r+qs u+20->qs yb<=qs p+qs q+qs r+qs u+20->K (pair (cn ya) (cn yb))):Ask 165 [pair (cn p) (cn q),pair (cn r) (cn u)] K:=by
 refine ZyF ωn ωn ωn ωn fun ya yb ha hb z1 z2=>?_;simp only[Zaz h1,ZaA h1,Zaz h2,ZaA h2]at ha hb;simp only[cn_z]at z1 z2;exact k ya yb ha hb (by rw[ha,hb];unfold sle at*;grind) ω ω
theorem Zqo{p q r u:Rat}(h1:sle p q)(h2:sle r u)(hp:qs p<=268435456)(hq:qs q<=268435456)(hr:qs r<=268435456)(hu:qs u<=268435456)(k:∀ya yb,ya=minQ p r->yb=maxQ q u->sle ya yb->qs ya<=qs p+qs q+qs r+qs u+20->qs yb<=qs p+qs q+qs r+qs u+20->K (pair (cn ya) (cn yb))):Ask 106 [pair (cn p) (cn q),pair (cn r) (cn u)] K:=by
 refine ZeW ωn ωn ωn ωn fun ya yb ha hb z1 z2=>?_;simp only[Zaz h1,ZaA h1,Zaz h2,ZaA h2]at ha hb;simp only[cn_z]at z1 z2;exact k ya yb ha hb (by rw[ha,hb];unfold sle minQ maxQ at*;grind) ω ω
theorem Zvq{p q:Rat}(h1:sle p q)(hp:qs p<=268435456)(hq:qs q<=268435456)(k:∀ya yb,ya=cutLo p->yb=cutHi q->K (pair (cn ya) (cn yb))):Ask 164 [pair (cn p) (cn q)] K:=by
 have e1:slo (cn p) (cn q)=p:=Zaz h1;have e2:shi (cn p) (cn q)=q:=ZaA h1;exact use (Zud (cn p) (cn q) (by rw[cn_z];exact hp) (by rw[cn_z];exact hq)) rfl (k _ _ (by rw[e1]) (by rw[e2]))
theorem ZyN{x y:RV}(hx:x.z<=3145760)(hy:y.z<=3145760)(k:∀ya yb,ya=(cs3 (slo x y) (shi x y)).1->yb=(cs3 (slo x y) (shi x y)).2->sle ya yb->qs ya<=4*(x.z+y.z+8)+34->qs yb<=4*(x.z+y.z+8)+34->K (pair (cn ya) (cn yb))):Ask 162 [pair x y] K:=by
 refine Zqs ω ω fun ya yb ha hb=>?_;have hz1:=ZbJ x y;have hz2:=ZbK x y;rw[cn_z]at hz1 hz2;obtain⟨z1,z2⟩:=Zxb (l:=slo x y) (h:=shi x y) (B:=x.z+y.z+8) ω ω ω;have e:=Zxd (ZfK x y);have ha:ya=(cs3 (slo x y) (shi x y)).1:=by rw[<-e];exact ha
 have hb:yb=(cs3 (slo x y) (shi x y)).2:=by rw[<-e];exact hb
 have hle:sle (cs3 (slo x y) (shi x y)).1 (cs3 (slo x y) (shi x y)).2:=Rat.le_trans (ZlZ _ _).1 (ZlZ _ _).2;exact k ya yb ha hb (by rw[ha,hb];exact hle) (by rw[ha];exact z1) (by rw[hb];exact z2)
theorem ZyM{x y:RV}(hx:x.z<=3145760)(hy:y.z<=3145760)(k:∀ya yb,ya=(sn3 (slo x y) (shi x y)).1->yb=(sn3 (slo x y) (shi x y)).2->sle ya yb->qs ya<=4*(x.z+y.z+8)+34->qs yb<=4*(x.z+y.z+8)+34->K (pair (cn ya) (cn yb))):Ask 163 [pair x y] K:=by
 refine Zqg ω ω fun ya yb ha hb=>?_;have hz1:=ZbJ x y;have hz2:=ZbK x y;rw[cn_z]at hz1 hz2;obtain⟨z1,z2⟩:=ZvY (l:=slo x y) (h:=shi x y) (B:=x.z+y.z+8) ω ω ω;have e:=ZvZ (ZfK x y);rw[e]at ha hb;have hle:sle (sn3 (slo x y) (shi x y)).1 (sn3 (slo x y) (shi x y)).2:=Rat.le_trans (ZkS _ _).1 (ZkS _ _).2;exact k ya yb ha hb (by rw[ha,hb];exact hle) (by rw[ha];exact z1) (by rw[hb];exact z2)
theorem ZtH{A:ArmV}{Q:List (RV×RV)}(hA:A.ok)(hQ:∀p,p∈Q->p.1.z<=3145760/\p.2.z<=3145760)(k:∀n,n=hasE A (Q.length:Int)->K (.tup [.one (.d (.list ((spreadV A Q).map rdL))),.one (.d (.v (.int .i64 n)))])):Ask 104 [arm A,Xl rdv Q] K:=use2 (k _ rfl) (by
 have hA2:=hA;obtain⟨z1,z2,z3,z4,z5,z6⟩:=hA;have hL:(A.links.map lk).length=A.links.length:=length_map ..;have hLq:(Q.map rdv).length=Q.length:=length_map ..;refine Zb Tryz.func104 Tryz.ntmps104 ?_;refine ZqE (A:=A) (n:=((Q.map rdv).length:Int)) ωs fun n19 hk_19_1=>?_;rw[length_map]at hk_19_1;refine⟨fun e1=>?_,fun e1=>?_⟩
 .have f21:n19≠0:=ZO e1;refine Eq.trans (b:=.tup [.one (.d (.list ([]))),.one (.d (.v (.int .i64 (n19))))]) ?_ rfl;rw[Zms (by rw[<-hk_19_1];exact f21),<-hk_19_1]
  all_goals rfl
 .have f21:¬(n19≠0):=fun hh=>hh (ZP e1);have h0:hasE A (Q.length:Int)=0:=by rw[<-hk_19_1];exact nN f21
  obtain⟨hA0,hlen0⟩:=ZaG.1 h0;have hlen:Q.length=A.links.length:=ω;obtain⟨hn3,hnz,hsb1,hsb2,hsb3,_⟩:=Zy hA0;have hb1:=ZM hsb1;have hb2:=ZM hsb2;have hb3:=ZM hsb3;refine ZdJ (x:=A.bx) ω (fun q28 ai aj=>?_);simp only[cn_z]at aj;refine ZdJ (x:=A.by') ω (fun q32 ak al=>?_);simp only[cn_z]at al;refine ZyE (h:=A.bh) (x:=A.bt) ω (fun q35 am an=>?_);simp only[cn_z]at an;refine ZdJ (x:=cn q35) ωz (fun q36 ac ao=>?_)
  try simp only[cn_q]at ac
  simp only[cn_z]at ao;refine Zqe (h:=A.bh) (x:=A.bt) ω (fun q39 ap aq=>?_);simp only[cn_z]at aq;refine ZdJ (x:=cn q39) ωz (fun q40 ad ar=>?_)
  try simp only[cn_q]at ad
  simp only[cn_z]at ar;refine⟨ωr,?_⟩;have b28:q28=(endL A Q 0).xl:=ai;have b32:q32=(endL A Q 0).yl:=ak;have b36:q36=(endL A Q 0).cl:=ac.trans am;have b40:q40=(endL A Q 0).sl:=ad.trans ap;refine⟨Nat,fun i=>[(1,Xl rdv Q),(8,.val (.one (.ptr 8 0))),(9,.val (.one (.row 86 0))),(43,Xl lk A.links),(44,int ((A.links.map lk).length:Int)),(45,int (i:Int))],
   fun i=>[(8,.var 172 (X1 (cn (endL A Q i).xl)<|X1 (cn (endL A Q i).xh)<|X1 (cn (endL A Q i).yl)<|X1 (cn (endL A Q i).yh)<|X1 (cn (endL A Q i).cl)<|X1 (cn (endL A Q i).ch)<|X1 (cn (endL A Q i).sl)<|X1 (cn (endL A Q i).sh) [])),(86,.row 172 24 0 ((linksL A Q i).map rdL) true)],fun i=>i<=A.links.length,fun i=>A.links.length-i,0,?_,Nat.zero_le _,fun i hs=>?_⟩
  .constructor<;>(repeat' apply And.intro)<;>first|exact ωq|exact congrArg (fun q:Rat=>D.v (.bool (cn q).s)) b28|exact congrArg (fun q:Rat=>D.v (.bool (cn q).s)) b28.symm|exact congrArg (fun q:Rat=>D.v (.string (cn q).a)) b28|exact congrArg (fun q:Rat=>D.v (.string (cn q).a)) b28.symm|exact congrArg (fun q:Rat=>D.v (.string (cn q).d)) b28|exact congrArg (fun q:Rat=>D.v (.string (cn q).d)) b28.symm|exact congrArg (fun q:Rat=>D.v (.bool (cn q).s)) b32|exact congrArg (fun q:Rat=>D.v (.bool (cn q).s)) b32.symm|exact congrArg (fun q:Rat=>D.v (.string (cn q).a)) b32|exact congrArg (fun q:Rat=>D.v (.string (cn q).a)) b32.symm|exact congrArg (fun q:Rat=>D.v (.string (cn q).d)) b32|exact congrArg (fun q:Rat=>D.v (.string (cn q).d)) b32.symm|exact congrArg (fun q:Rat=>D.v (.bool (cn q).s)) b36|exact congrArg (fun q:Rat=>D.v (.bool (cn q).s)) b36.symm|exact congrArg (fun q:Rat=>D.v (.string (cn q).a)) b36|exact congrArg (fun q:Rat=>D.v (.string (cn q).a)) b36.symm|exact congrArg (fun q:Rat=>D.v (.string (cn q).d)) b36|exact congrArg (fun q:Rat=>D.v (.string (cn q).d)) b36.symm|exact congrArg (fun q:Rat=>D.v (.bool (cn q).s)) b40|exact congrArg (fun q:Rat=>D.v (.bool (cn q).s)) b40.symm|exact congrArg (fun q:Rat=>D.v (.string (cn q).a)) b40|exact congrArg (fun q:Rat=>D.v (.string (cn q).a)) b40.symm|exact congrArg (fun q:Rat=>D.v (.string (cn q).d)) b40|exact congrArg (fun q:Rat=>D.v (.string (cn q).d)) b40.symm|(simp;done)
  obtain⟨⟨zc1,zc2⟩,zc3,zc4⟩:=Zq9 hA0 Q i;obtain⟨⟨zx1,zx2⟩,zx3,zx4⟩:=Zho hA0 Q i;obtain⟨ol1,ol2,ol3,ol4⟩:=LF.has_le (Zdp A Q i);obtain⟨⟨zl1,zl2⟩,zl3,zl4⟩:=ZbS A Q i;obtain⟨ol7,ol8,ol9,ol10⟩:=LF.has_le (Zdc A Q i);have hT:((linksL A Q i).map rdL).length<=3:=by rw[length_map,ZfZ];omega
  refine⟨fun e2=>?_,fun e2=>?_⟩
  .have au:(i:Int)<((A.links.map lk).length:Int):=oT e2;refine Zm (l:=A.links) (i:=i) ωm fun x48 a2=>?_;obtain⟨hs1,hs2,hs3,hs4,hs5,hs6,hs7⟩:=z6 x48 (mG a2);have hlx48:=Zls a2;have hsmx48:=ZM (ZK hA0 (mG a2)).1;refine k_ix i _ ωh (Zd a2) rfl<|Zm (l:=Q) (i:=i) ωm fun x52 a3=>?_;obtain⟨hzx52,hyx52⟩:=hQ x52 (mG a3);have hqx52:=Zow a3;refine k_ix i _ ωh (Zd a3) rfl<|ZyN (x:=x52.1) (y:=x52.2) ω ω (fun ae af a4 a5 hk_54_4 hk_54_5 hk_54_6=> k_ix i _ ωh (Zd a3) rfl<|ZyM (x:=x52.1) (y:=x52.2) ω ω (fun ag ah a6 a7 hk_59_4 hk_59_5 hk_59_6=>⟨ωr,ZcB (p:=(endL A Q i).cl) (q:=(endL A Q i).ch) (r:=ae) (u:=af) ωs ωs ω ω ω ω (fun av aw ax ay hk_64_4 hk_64_5 hk_64_6=> ZcB (p:=(endL A Q i).sl) (q:=(endL A Q i).sh) (r:=ag) (u:=ah) ωs ωs ω ω ω ω (fun az b0 b1 b2 hk_68_4 hk_68_5 hk_68_6=> Zvp (p:=av) (q:=aw) (r:=az) (u:=b0) ωs ωs ω ω ω ω (fun b3 b4 b5 b6 hk_69_4 hk_69_5 hk_69_6=> Zvq (p:=b3) (q:=b4) ωs ω ω (fun a8 a9 b7 b8=>⟨ωr,ZcB (p:=(endL A Q i).sl) (q:=(endL A Q i).sh) (r:=ae) (u:=af) ωs ωs ω ω ω ω (fun b9 ba bb bc hk_75_4 hk_75_5 hk_75_6=> ZcB (p:=(endL A Q i).cl) (q:=(endL A Q i).ch) (r:=ag) (u:=ah) ωs ωs ω ω ω ω (fun bd be bf bg hk_79_4 hk_79_5 hk_79_6=> Zf4 (p:=b9) (q:=ba) (r:=bd) (u:=be) ωs ωs ω ω ω ω (fun bi bj bk bl hk_80_4 hk_80_5 hk_80_6=> Zvq (p:=bi) (q:=bj) ωs ω ω (fun aa ab bm bn=>?_))))⟩))))⟩));have e70:a8=(linkL A Q i).cl:=by rw[b7,b5,ax,b2,a4,a5,a6,a7,<-hqx52.1,<-hqx52.2];rfl
   have a0:a9=(linkL A Q i).ch:=by rw[b8,b6,ay,b1,a4,a5,a6,a7,<-hqx52.1,<-hqx52.2];rfl
   have e81:aa=(linkL A Q i).sl:=by rw[bm,bk,bb,bf,a4,a5,a6,a7,<-hqx52.1,<-hqx52.2];rfl
   have a1:ab=(linkL A Q i).sh:=by rw[bn,bl,bc,bg,a4,a5,a6,a7,<-hqx52.1,<-hqx52.2];rfl
   have ol5:sle a8 a9:=by rw[e70,a0];exact ol9
   have ol6:sle aa ab:=by rw[e81,a1];exact ol10
   have zl5:qs a8<=3:=by rw[e70];exact zl1
   have zl6:qs a9<=3:=by rw[a0];exact zl2
   have zl7:qs aa<=3:=by rw[e81];exact zl3
   have zl8:qs ab<=3:=by rw[a1];exact zl4
   refine⟨ωr,⟨⟨row1 rfl,(by show (((linksL A Q i).map rdL).length+1)*320<=_;omega),(by show (((linksL A Q i).map rdL).length+1)<=_;omega)⟩,ZdJ (x:=x48.len) ω (fun q89 bo bp=>?_)⟩⟩;simp only[cn_z]at bp;have hs89:sle q89 q89:=Rat.le_refl;refine ZcB (p:=q89) (q:=q89) (r:=a8) (u:=a9) ωs ωs ω ω ω ω (fun bq br bs bu hk_95_4 hk_95_5 hk_95_6=> Zf4 (p:=(endL A Q i).xl) (q:=(endL A Q i).xh) (r:=bq) (u:=br) ωs ωs ω ω ω ω (fun bv bw bz c0 hk_96_4 hk_96_5 hk_96_6=>⟨ωr,ZcB (p:=q89) (q:=q89) (r:=aa) (u:=ab) ωs ωs ω ω ω ω (fun c1 c2 c3 c4 hk_103_4 hk_103_5 hk_103_6=> Zf4 (p:=(endL A Q i).yl) (q:=(endL A Q i).yh) (r:=c1) (u:=c2) ωs ωs ω ω ω ω (fun c5 c6 c7 c8 hk_104_4 hk_104_5 hk_104_6=>⟨ωr,?_⟩))⟩));have hl:q89=lenAt A i:=bo.trans hlx48.symm;have ex:bv=(endL A Q (i+1)).xl:=by rw[bz,bs,hl,e70,a0];rfl
   have ex2:bw=(endL A Q (i+1)).xh:=by rw[c0,bu,hl,e70,a0];rfl
   have ey:c5=(endL A Q (i+1)).yl:=by rw[c7,c3,hl,e81,a1];rfl
   have ey2:c6=(endL A Q (i+1)).yh:=by rw[c8,c4,hl,e81,a1];rfl
   subst ex ex2 ey ey2 e70 a0 e81 a1;refine⟨i+1,ω,by simp only;omega,?_⟩;constructor<;>(repeat' apply And.intro)<;>first|exact ωq|(rw[ZeU];rfl)
  .have au:¬((i:Int)<((A.links.map lk).length:Int)):=oF e2;refine⟨⟨row1 rfl,(by show (((linksL A Q i).map rdL).length+1)*320<=_;omega),(by show (((linksL A Q i).map rdL).length+1)<=_;omega)⟩,Eq.trans (b:=.tup [.one (.d (.list (List.map rdL (linksL A Q i)++[Y1 (cn (endL A Q i).xl)<|Y1 (cn (endL A Q i).xh)<|Y1 (cn (endL A Q i).yl)<|Y1 (cn (endL A Q i).yh)<|Y1 (cn (endL A Q i).cl)<|Y1 (cn (endL A Q i).ch)<|Y1 (cn (endL A Q i).sl)<|Y1 (cn (endL A Q i).sh) []]))),.one (.d (.v (.int .i64 (0))))]) ?_ rfl⟩;obtain rfl:i=A.links.length:=ω;rw[Zco h0,h0,spreadL,List.map_append]
   all_goals rfl
 ) rfl
end
section
variable{K:AV->Prop}
theorem ZaR{q:Rat}(k:K (q3p q q)):Ask 123 [q3 q] K:=use2 k (by
 refine Zb Tryz.func123 Tryz.ntmps123 ?_;refine Eq.trans (b:=q3p q q) ?_ rfl;rfl
 ) rfl
theorem ZnD (p q r u:Rat)(hp:qs p<=536870912)(hq:qs q<=536870912)(hr:qs r<=536870912)(hu:qs u<=536870912):Spec Tryz.prog Tab 124 [q3p p q,q3p r u] (q3p (p+r) (q+u)):=by
 refine Zb Tryz.func124 Tryz.ntmps124 ?_;refine Ze0 (p:=p) (q:=r) ω ω fun q9 h9 z9=> Ze0 (p:=q) (q:=u) ω ω fun q14 h14 z14=>⟨ωr,Eq.trans (b:=q3p q9 q14) ?_ rfl⟩
 subst_vars;rfl
section
variable{p q r u:Rat}
theorem ZbT(hp:qs p<=536870912)(hq:qs q<=536870912)(hr:qs r<=536870912)(hu:qs u<=536870912)(k:∀ya yb,ya=p+r->yb=q+u->qs ya<=qs p+qs r+1->qs yb<=qs q+qs u+1->K (q3p ya yb)):Ask 124 [q3p p q,q3p r u] K:=
 use (ZnD  p q r u hp hq hr hu) rfl (k _ _ rfl rfl (by have:=ZR p r;omega) (by have:=ZR q u;omega))
end
theorem Znz (p q r u:Rat)(hp:qs p<=536870912)(hq:qs q<=536870912)(hr:qs r<=536870912)(hu:qs u<=536870912):Spec Tryz.prog Tab 126 [q3p p q,q3p r u] (q3p (p-u) (q-r)):=by
 refine Zb Tryz.func126 Tryz.ntmps126 ?_;refine Zci (p:=p) (q:=u) ω ω fun q9 h9 z9=> Zci (p:=q) (q:=r) ω ω fun q14 h14 z14=>⟨ωr,Eq.trans (b:=q3p q9 q14) ?_ rfl⟩
 subst_vars;rfl
section
variable{p q r u:Rat}
theorem Zj3(hp:qs p<=536870912)(hq:qs q<=536870912)(hr:qs r<=536870912)(hu:qs u<=536870912)(k:∀ya yb,ya=p-u->yb=q-r->qs ya<=qs p+qs u+1->qs yb<=qs q+qs r+1->K (q3p ya yb)):Ask 126 [q3p p q,q3p r u] K:=
 use (Znz  p q r u hp hq hr hu) rfl (k _ _ rfl rfl (by have:=Zac p u;omega) (by have:=Zac q r;omega))
end
theorem ZnA (p q r u:Rat)(hp:qs p<=134217728)(hq:qs q<=134217728)(hr:qs r<=134217728)(hu:qs u<=134217728):Spec Tryz.prog Tab 125 [q3p p q,q3p r u] (q3p (mulLo p q r u) (mulHi p q r u)):=by
 refine Zb Tryz.func125 Tryz.ntmps125 ?_;refine Zbj (p:=p) (q:=r) ω ω fun q13 h13 z13=> Zbj (p:=p) (q:=u) ω ω fun q18 h18 z18=> Zbj (p:=q) (q:=r) ω ω fun q23 h23 z23=> Zbj (p:=q) (q:=u) ω ω fun q28 h28 z28=>⟨ωr,Z8 (p:=q13) (q:=q18) ω ω fun q31 h31 z31=> Z8 (p:=q23) (q:=q28) ω ω fun q34 h34 z34=> Z8 (p:=q31) (q:=q34) ω ω fun q35 h35 z35=> ZaF (p:=q13) (q:=q18) ω ω fun q38 h38 z38=> ZaF (p:=q23) (q:=q28) ω ω fun q41 h41 z41=> ZaF (p:=q38) (q:=q41) ω ω fun q42 h42 z42=>⟨ωr,Eq.trans (b:=q3p q35 q42) ?_ rfl⟩⟩;rw[<-Zwo,<-Zwp]
 subst_vars;rfl
section
variable{p q r u:Rat}
theorem Zav(hp:qs p<=134217728)(hq:qs q<=134217728)(hr:qs r<=134217728)(hu:qs u<=134217728)(k:∀ya yb,ya=mulLo p q r u->yb=mulHi p q r u->qs ya<=qs p+qs q+qs r+qs u+0->qs yb<=qs p+qs q+qs r+qs u+0->K (q3p ya yb)):Ask 125 [q3p p q,q3p r u] K:=
 use (ZnA  p q r u hp hq hr hu) rfl (k _ _ rfl rfl (by have hm1:=(ZfY p q r u).1;omega) (by have hm2:=(ZfY p q r u).2;omega))
end
theorem k_addN3'(a b:Nat){vb:List (List D)}(hv:vb=W (w32 b))(ha:wlen 4 a<=549755813888)(hb:wlen 4 b<=549755813888)(k:K (n3 (a+b))):Ask 114 [n3 a,.val (.one (.d (.list vb)))] K:=by
 subst hv;exact Zj2 ha hb k
theorem Znm(q:Rat)(hq:qs q<=4294967296):Spec Tryz.prog Tab 214 [q3 q] (q3 ((q.floor:Int):Rat)):=by
 have h1:=ZdW q;have h2:=ZdX q;have hone:wlen 4 1<=1:=by rw[<-Zi,ZaO];decide
 have hdiv:wlen 4 (q.num.natAbs/q.den)<=qs q:=Z3 (Nat.div_le_self _ _) h1;have hup:wlen 4 (q.num.natAbs/q.den+1)<=8589934592:=by
  have h3:=Zgs true q.num.natAbs q.den;have h4:=Zmg (q.num.natAbs/q.den+1);have h5:(enc (q.num.natAbs/q.den+1)).size<=qs q+2:=by
   by_cases hr:q.num.natAbs%q.den=0
   .have h6:q.num.natAbs/q.den+1<=q.num.natAbs+1:=by have:=Nat.div_le_self q.num.natAbs q.den;omega
    have h7:=(ZmK q).1;exact Zh.2 (by rw[show (256:Nat)^(qs q+2)=256^qs q*65536 from by rw[Nat.pow_add]];omega)
   .rw[upN,if_pos ⟨rfl,hr⟩]at h3;have:(enc q.num.natAbs).size<=qs q:=by unfold qs;omega
    omega
  omega
 have hn3:=Zan (q.num.natAbs%q.den);refine Zb Tryz.func214 Tryz.ntmps214 ?_;refine ZdK (a:=q.num.natAbs) (b:=q.den) q.den_pos ω ω<|fork (fun e1=>?_) (fun e1=>?_)
 .refine⟨fun e2=>?_,fun e2=>?_⟩
  .have hr:¬q.num.natAbs%q.den=0:=by
    intro h;have h3:=oT e2;rw[hn3,(ZL _).2 h]at h3;exact absurd h3 ωd
   refine k_addN3' (q.num.natAbs/q.den) 1 (by rw[ZaO];rfl) ω ω<|Zby (q.num.natAbs/q.den+1) 1 (by rw[ZaO];rfl) Nat.one_pos hup ω<|Eq.trans (b:=q3 (mkRat (sg (decide (q.num<0)) (q.num.natAbs/q.den+1)) 1)) ?_ rfl;rw[<-Zdn,upN,if_pos ⟨e1,hr⟩]
  .have hr:q.num.natAbs%q.den=0:=by
    have h3:=oF e2;rw[hn3]at h3;exact(ZL _).1 ω
   refine Zby (q.num.natAbs/q.den) 1 (by rw[ZaO];rfl) Nat.one_pos ω ω<|Eq.trans (b:=q3 (mkRat (sg (decide (q.num<0)) (q.num.natAbs/q.den)) 1)) ?_ rfl;rw[<-Zdn,upN,if_neg (fun h=>h.2 hr)]
 .refine⟨fun e=>absurd e ωd,fun _=> Zby (q.num.natAbs/q.den) 1 (by rw[ZaO];rfl) Nat.one_pos ω ω<|Eq.trans (b:=q3 (mkRat (sg (decide (q.num<0)) (q.num.natAbs/q.den)) 1)) ?_ rfl⟩;rw[<-Zdn,upN,if_neg (fun h=>by rw[e1]at h;exact absurd h.1 ωd)]
theorem Zqr{q:Rat}(hq:qs q<=4294967296)(k:∀ya,ya=((q.floor:Int):Rat)->qs ya<=qs q+2->K (q3 ya)):Ask 214 [q3 q] K:=use (Znm q hq) rfl (k _ rfl (ZgS q))
theorem ZnC(p q:Rat)(hp:qs p<=268435456)(hq:qs q<=268435456):Spec Tryz.prog Tab 178 [q3p p q] (q3p (cutLo p) (cutHi q)):=by
 refine Zb Tryz.func178 Tryz.ntmps178 ?_;refine k_N3 (1000000) ω ω fun q6 h6 z6=> Zbj (p:=p) (q:=q6) ω ω fun q10 h10 z10=> Zqr (q:=q10) ω (fun a0 a1 hk_11_2=> ZeZ (p:=a0) (q:=q6) ω ω (by subst_vars;exact ZjU) fun q13 h13 z13=>⟨ωr,ZqA (q:=q)  fun q16 h16 z16=> Zbj (p:=q16) (q:=q6) ω ω fun q18 h18 z18=> Zqr (q:=q18) ω (fun a2 a3 hk_19_2=> ZeZ (p:=a2) (q:=q6) ω ω (by subst_vars;exact ZjU) fun q21 h21 z21=> ZqA (q:=q21)  fun q22 h22 z22=>⟨ωr,k_N3 (-1) ω ω fun q24 h24 z24=> ZaF (p:=q13) (q:=q24) ω ω fun q25 h25 z25=> k_N3 (1) ω ω fun q27 h27 z27=> Z8 (p:=q22) (q:=q27) ω ω fun q28 h28 z28=>⟨ωr,Eq.trans (b:=q3p q25 q28) ?_ rfl⟩⟩)⟩);rw[show cutLo p=q25 from by rw[h25,h13,a1,h10,h24,h6,cutLo,ZdQ];rfl,show cutHi q=q28 from by rw[h28,h22,h21,a3,h18,h16,h27,h6,cutHi,upQ,ZdQ];rfl]
theorem Zqv{p q:Rat}(hp:qs p<=268435456)(hq:qs q<=268435456)(k:∀ya yb,ya=cutLo p->yb=cutHi q->qs ya<=qs p+60->qs yb<=qs q+60->K (q3p ya yb)):Ask 178 [q3p p q] K:=use (ZnC p q hp hq) rfl (k _ _ rfl rfl (ZvD p).1 (ZvD q).2)
theorem ZnE(x y:RV)(hx:x.z<=268435456)(hy:y.z<=268435456):Spec Tryz.prog Tab 177 [pair x y] (q3p (slo x y) (shi x y)):=by
 refine Zb Tryz.func177 Tryz.ntmps177 ?_;refine Zq (x:=x) ω fun q7 h7 z7=> Zq (x:=y) ω fun q10 h10 z10=>⟨ωr,Zdh (x:=x) ω (fun a0=>?_) (fun a0=>?_)⟩
 .refine Zdh (x:=y) ω (fun a1=>?_) (fun a1=>?_)
  .refine Zd4 (p:=q7) (q:=q10) ω ω fun n24 h24=>⟨fun e1=>?_,fun e1=>?_⟩
   .have a2:q10<q7:=(Zzk h24).1 (oT e1);refine k_N3 (0) ω ω fun q27 h27 z27=> ZaR (q:=q27)<|Eq.trans (b:=q3p q27 q27) ?_ rfl;have hng:¬sgd x y:=fun hh=>absurd hh.2.2 (Rat.not_le.2 (by rw[<-h7,<-h10];exact a2));rw[Zst hng,Zsw hng,<-h27]
   .have a2:¬(q10<q7):=fun hh=>oF e1 ((Zzk h24).2 hh);refine Eq.trans (b:=q3p q7 q10) ?_ rfl;have hg:sgd x y:=⟨a0,a1,by rw[<-h7,<-h10];exact Rat.not_lt.1 a2⟩;rw[show slo x y=q7 from by rw[slo,if_pos hg,h7],show shi x y=q10 from by rw[shi,if_pos hg,h10]]
  .refine⟨fun _=> k_N3 (0) ω ω fun q27 h27 z27=> ZaR (q:=q27)  (Eq.trans (b:=q3p q27 q27) ?_ rfl),fun e=>absurd e ωd⟩;have hng:¬sgd x y:=fun hh=>a1 hh.2.1;rw[Zst hng,Zsw hng,<-h27]
 .refine⟨fun _=> k_N3 (0) ω ω fun q27 h27 z27=> ZaR (q:=q27)  (Eq.trans (b:=q3p q27 q27) ?_ rfl),fun e=>absurd e ωd⟩;have hng:¬sgd x y:=fun hh=>a0 hh.1;rw[Zst hng,Zsw hng,<-h27]
theorem ZwS{x y:RV}(hx:x.z<=268435456)(hy:y.z<=268435456)(k:∀ya yb,ya=slo x y->yb=shi x y->sle ya yb->qs ya<=x.z+8->qs yb<=y.z+8->K (q3p ya yb)):Ask 177 [pair x y] K:=use (ZnE x y hx hy) rfl (k _ _ rfl rfl (ZfK x y) (by have:=ZbJ x y;rw[cn_z]at this;exact this) (by have:=ZbK x y;rw[cn_z]at this;exact this))
theorem ZdM{p q a:Rat}(hp:qs p<=536870912)(hq:qs q<=536870912)(ha:qs a<=536870912)(k:∀b,b=hasQ p q a->K (bool b)):Ask 14 [q3p p q,q3 a] K:=use2 (k _ rfl) (by
 refine Zb Tryz.func14 Tryz.ntmps14 ?_;refine Zd4 (p:=p) (q:=a) ω ω fun n8 h8=> fork (fun e1=>?_) (fun e1=>?_)
 .have f10:p<=a:=(Zxq h8).1 (oT e1);refine Zd4 (p:=a) (q:=q) ω ω fun n14 h14=> Eq.trans (b:=bool (decide (n14<=0))) ?_ rfl;rw[show hasQ p q a=decide (n14<=0) from by unfold hasQ;rw[decide_eq_true f10,Bool.true_and];exact decide_eq_decide.2 (Zxq h14).symm]
 .have f10:¬(p<=a):=fun hh=>oF e1 ((Zxq h8).2 hh);refine Eq.trans (b:=bool false) ?_ rfl;rw[show hasQ p q a=false from by unfold hasQ;rw[decide_eq_false f10];rfl]
 ) rfl
def cos4(p q:Rat):List Rat->AV
 | []=>.val (.one (.full [q3d p,q3d q]))
 |_::_=>.val (.one (.row 35 0))
def cosO(p q:Rat):List Rat->List (Nat×Ob)
 | []=>[]
 |c::r=>[(35,.row 52 3 0 ((p::q::c::r).map q3d) true)]
theorem Zr0(p q:Rat)(hp:qs p<=33554432)(hq:qs q<=33554432):Spec Tryz.prog Tab 176 [q3p p q] (.tup [.agg (Q1 ((cs3 p q).1)<|Q1 ((cs3 p q).2) []),.agg (Q1 ((sn3 p q).1)<|Q1 ((sn3 p q).2) [])]):=by
 refine Zb Tryz.func176 Tryz.ntmps176 ?_;refine k_N3 (-1) ω ω fun q20 h20 z20=>?_;refine k_N3 (0) ω ω fun q21 h21 z21=>?_;refine k_N3 (1) ω ω fun q22 h22 z22=>?_;refine⟨Nat×List Rat,fun (i,e)=>[(1,.val (.one (.ptr 1 0))),(2,.val (.one (.ptr 2 0))),(3,.val (.one (.ptr 3 0))),(4,cos4 p q e),(23,.val (.one (.full ([P1 q20 [], P1 q21 [], P1 q22 []])))),(24,int 3),(25,int (i:Int))],
  fun (i,e)=>[(1,.var 58 (Q1 p<|Q1 q [])),(2,.var 58 [.d (.v (.bool false)),.d (.v (.slice none 0 0)),.d (.v (.slice none 0 0)),.d (.v (.bool false)),.d (.v (.slice none 0 0)),.d (.v (.slice none 0 0))]),(3,.var 58 [.d (.v (.bool false)),.d (.v (.slice none 0 0)),.d (.v (.slice none 0 0)),.d (.v (.bool false)),.d (.v (.slice none 0 0)),.d (.v (.slice none 0 0))])]++cosO p q e,fun (i,e)=>i<=3/\e.length<=i/\(∀t,t∈e->qs t<=8)/\(([-1,0,1]:List Int).drop i).foldl (ext p q) (p::q::e)=ext3 p q,fun (i,e)=>3-i,(0, []),?_,⟨Nat.zero_le _,Nat.zero_le _,fun t ht=>by simp at ht,rfl⟩,fun s hs=>?_⟩
 .exact ωe
 obtain⟨i,e⟩:=s;obtain⟨g1,g2,g3,g5⟩:=hs
 try simp only at g1 g2 g3 g5
 refine⟨fun e1=>?_,fun e1=>?_⟩
 .have a7:(i:Int)<3:=oT e1;obtain rfl|rfl|rfl:i=0\/i=1\/i=2:=ω
  .obtain rfl:e= []:=List.eq_nil_of_length_eq_zero ω;refine k_ix 0 _ ωh rfl rfl<|ZdM (p:=p) (q:=q) (a:=q20) ω ω ω (fun b31 a1=>⟨fun e2=>?_,fun e2=>?_⟩)
   .have a0:hasQ p q q20=true:=a1.symm.trans e2;refine⟨⟨Nat.zero_lt_succ _,rown rfl,row1 rfl,(by show (2+1)*56<=_;omega),(by show 2+1<=_;omega)⟩,?_⟩;have hst:ext p q (p::q::[]) (-1)=p::q::[q20]:=by unfold ext;rw[if_pos (by rw[<-h20];exact a0)];rw[<-h20];rfl
    have hsz:∀t,t∈ [q20]->qs t<=8:=fun t ht=>by
     simp only[mem_cons,not_mem_nil,or_false]at ht;subst ht;omega
    refine⟨(1, [q20]),⟨by first|omega|(simp only;omega),(by show 1<=_;omega),hsz,by rw[<-hst];exact g5⟩,by first|omega|(simp only;omega),?_⟩;constructor<;>(repeat' apply And.intro)<;>first|exact ωq|(simp[q3d];done)
   .have a0:¬(hasQ p q q20=true):=fun hh=>absurd (hh.symm.trans (a1.symm.trans e2)) ωd;have hst:ext p q (p::q::[]) (-1)=p::q::[]:=by unfold ext;rw[if_neg (by rw[<-h20];exact a0)]
    have hsz:∀t,t∈ []->qs t<=8:=g3;refine⟨(1, []),⟨by first|omega|(simp only;omega),Nat.zero_le _,hsz,by rw[<-hst];exact g5⟩,by first|omega|(simp only;omega),?_⟩;constructor<;>(repeat' apply And.intro)<;>first|exact ωq|(simp[q3d];done)
  .rcases e with _|⟨c,r⟩
   .skip
    refine k_ix 1 _ ωh rfl rfl<|ZdM (p:=p) (q:=q) (a:=q21) ω ω ω (fun b31 a1=>⟨fun e3=>?_,fun e3=>?_⟩)
    .have a0:hasQ p q q21=true:=a1.symm.trans e3;refine⟨⟨Nat.zero_lt_succ _,rown rfl,row1 rfl,(by show (2+1)*56<=_;omega),(by show 2+1<=_;omega)⟩,?_⟩;have hst:ext p q (p::q::[]) (0)=p::q::[q21]:=by unfold ext;rw[if_pos (by rw[<-h21];exact a0)];rw[<-h21];rfl
     have hsz:∀t,t∈ [q21]->qs t<=8:=fun t ht=>by
      simp only[mem_cons,not_mem_nil,or_false]at ht;subst ht;omega
     refine⟨(2, [q21]),⟨by first|omega|(simp only;omega),(by show 1<=_;omega),hsz,by rw[<-hst];exact g5⟩,by first|omega|(simp only;omega),?_⟩;constructor<;>(repeat' apply And.intro)<;>first|exact ωq|(simp[q3d];done)
    .have a0:¬(hasQ p q q21=true):=fun hh=>absurd (hh.symm.trans (a1.symm.trans e3)) ωd;have hst:ext p q (p::q::[]) (0)=p::q::[]:=by unfold ext;rw[if_neg (by rw[<-h21];exact a0)]
     have hsz:∀t,t∈ []->qs t<=8:=g3;refine⟨(2, []),⟨by first|omega|(simp only;omega),Nat.zero_le _,hsz,by rw[<-hst];exact g5⟩,by first|omega|(simp only;omega),?_⟩;constructor<;>(repeat' apply And.intro)<;>first|exact ωq|(simp[q3d];done)
   .have hT:((p::q::c::r).map q3d).length<=5:=by simp only[length_map,length_cons]at g2⊢;omega
    refine k_ix 1 _ ωh rfl rfl<|ZdM (p:=p) (q:=q) (a:=q21) ω ω ω (fun b31 a1=>⟨fun e4=>?_,fun e4=>?_⟩)
    .have a0:hasQ p q q21=true:=a1.symm.trans e4;refine⟨⟨row1 rfl,(by show (((p::q::c::r).map q3d).length+1)*56<=_;omega),(by show (((p::q::c::r).map q3d).length+1)<=_;omega)⟩,?_⟩;have hst:ext p q (p::q::(c::r)) (0)=p::q::(c::(r++[q21])):=by unfold ext;rw[if_pos (by rw[<-h21];exact a0)];rw[<-h21];rfl
     have hsz:∀t,t∈(c::(r++[q21]))->qs t<=8:=fun t ht=>by
      simp only[mem_cons,List.mem_append,not_mem_nil,or_false]at ht;rcases ht with rfl|ht|rfl
      .exact g3 _ (by simp)
      .exact g3 _ (by simp[ht])
      .omega
     refine⟨(2,(c::(r++[q21]))),⟨by first|omega|(simp only;omega),(by simp only[length_cons,List.length_append,List.length_nil]at g2⊢;omega),hsz,by rw[<-hst];exact g5⟩,by first|omega|(simp only;omega),?_⟩;constructor<;>(repeat' apply And.intro)<;>first|exact ωq|(simp[q3d];done)
    .have a0:¬(hasQ p q q21=true):=fun hh=>absurd (hh.symm.trans (a1.symm.trans e4)) ωd;have hst:ext p q (p::q::(c::r)) (0)=p::q::(c::r):=by unfold ext;rw[if_neg (by rw[<-h21];exact a0)]
     have hsz:∀t,t∈(c::r)->qs t<=8:=g3;refine⟨(2,(c::r)),⟨by first|omega|(simp only;omega),(by simp only[length_cons]at g2⊢;omega),hsz,by rw[<-hst];exact g5⟩,by first|omega|(simp only;omega),?_⟩;constructor<;>(repeat' apply And.intro)<;>first|exact ωq|(simp[q3d];done)
  .rcases e with _|⟨c,r⟩
   .skip
    refine k_ix 2 _ ωh rfl rfl<|ZdM (p:=p) (q:=q) (a:=q22) ω ω ω (fun b31 a1=>⟨fun e5=>?_,fun e5=>?_⟩)
    .have a0:hasQ p q q22=true:=a1.symm.trans e5;refine⟨⟨Nat.zero_lt_succ _,rown rfl,row1 rfl,(by show (2+1)*56<=_;omega),(by show 2+1<=_;omega)⟩,?_⟩;have hst:ext p q (p::q::[]) (1)=p::q::[q22]:=by unfold ext;rw[if_pos (by rw[<-h22];exact a0)];rw[<-h22];rfl
     have hsz:∀t,t∈ [q22]->qs t<=8:=fun t ht=>by
      simp only[mem_cons,not_mem_nil,or_false]at ht;subst ht;omega
     refine⟨(3, [q22]),⟨by first|omega|(simp only;omega),(by show 1<=_;omega),hsz,by rw[<-hst];exact g5⟩,by first|omega|(simp only;omega),?_⟩;constructor<;>(repeat' apply And.intro)<;>first|exact ωq|(simp[q3d];done)
    .have a0:¬(hasQ p q q22=true):=fun hh=>absurd (hh.symm.trans (a1.symm.trans e5)) ωd;have hst:ext p q (p::q::[]) (1)=p::q::[]:=by unfold ext;rw[if_neg (by rw[<-h22];exact a0)]
     have hsz:∀t,t∈ []->qs t<=8:=g3;refine⟨(3, []),⟨by first|omega|(simp only;omega),Nat.zero_le _,hsz,by rw[<-hst];exact g5⟩,by first|omega|(simp only;omega),?_⟩;constructor<;>(repeat' apply And.intro)<;>first|exact ωq|(simp[q3d];done)
   .have hT:((p::q::c::r).map q3d).length<=5:=by simp only[length_map,length_cons]at g2⊢;omega
    refine k_ix 2 _ ωh rfl rfl<|ZdM (p:=p) (q:=q) (a:=q22) ω ω ω (fun b31 a1=>⟨fun e6=>?_,fun e6=>?_⟩)
    .have a0:hasQ p q q22=true:=a1.symm.trans e6;refine⟨⟨row1 rfl,(by show (((p::q::c::r).map q3d).length+1)*56<=_;omega),(by show (((p::q::c::r).map q3d).length+1)<=_;omega)⟩,?_⟩;have hst:ext p q (p::q::(c::r)) (1)=p::q::(c::(r++[q22])):=by unfold ext;rw[if_pos (by rw[<-h22];exact a0)];rw[<-h22];rfl
     have hsz:∀t,t∈(c::(r++[q22]))->qs t<=8:=fun t ht=>by
      simp only[mem_cons,List.mem_append,not_mem_nil,or_false]at ht;rcases ht with rfl|ht|rfl
      .exact g3 _ (by simp)
      .exact g3 _ (by simp[ht])
      .omega
     refine⟨(3,(c::(r++[q22]))),⟨by first|omega|(simp only;omega),(by simp only[length_cons,List.length_append,List.length_nil]at g2⊢;omega),hsz,by rw[<-hst];exact g5⟩,by first|omega|(simp only;omega),?_⟩;constructor<;>(repeat' apply And.intro)<;>first|exact ωq|(simp[q3d];done)
    .have a0:¬(hasQ p q q22=true):=fun hh=>absurd (hh.symm.trans (a1.symm.trans e6)) ωd;have hst:ext p q (p::q::(c::r)) (1)=p::q::(c::r):=by unfold ext;rw[if_neg (by rw[<-h22];exact a0)]
     have hsz:∀t,t∈(c::r)->qs t<=8:=g3;refine⟨(3,(c::r)),⟨by first|omega|(simp only;omega),(by simp only[length_cons]at g2⊢;omega),hsz,by rw[<-hst];exact g5⟩,by first|omega|(simp only;omega),?_⟩;constructor<;>(repeat' apply And.intro)<;>first|exact ωq|(simp[q3d];done)
 .have a7:¬((i:Int)<3):=oF e1;obtain rfl:i=3:=ω;rcases e with _|⟨c,r⟩
  .have hx: [p,q]=ext3 p q:=g5;have hLL:(List.map q3d [p,q]).length= [p,q].length:=length_map ..;have hL5: [p,q].length<=5:=by rw[hx];exact ZlO p q
   obtain⟨fz1,fz2⟩:=Zq3 (p:=p) (q:=q) (B:=qs p+qs q+1) ω ω ω;rw[<-hx]at fz1 fz2;have hLz:∀t,t∈ [p,q]->qs t<=qs p+qs q+1:=by rw[hx];exact ZiN ω ω ω
   refine Zdf (t:=p) ω (fun p40 q40 a8 a9 aa ab=>?_);refine ZaR (q:=p40)  ?_;refine ZaR (q:=q40)  ?_;refine⟨ωr,?_⟩;refine⟨Nat,fun j=>[(2,.val (.one (.ptr 2 0))),(3,.val (.one (.ptr 3 0))),(9,.val (.one (.ptr 9 0))),(10,.val (.one (.ptr 10 0))),(47,.val (.one (.full (List.map q3d [p,q])))),(48,int ((List.map q3d [p,q]).length:Int)),(49,int (j:Int))],
    fun j=>[(2,.var 58 [.d (.v (.bool false)),.d (.v (.slice none 0 0)),.d (.v (.slice none 0 0)),.d (.v (.bool false)),.d (.v (.slice none 0 0)),.d (.v (.slice none 0 0))]),(3,.var 58 [.d (.v (.bool false)),.d (.v (.slice none 0 0)),.d (.v (.slice none 0 0)),.d (.v (.bool false)),.d (.v (.slice none 0 0)),.d (.v (.slice none 0 0))]),(9,.var 58 (Q1 (foLo (cosq false) p [p,q] j)<|Q1 (foHi (cosq false) p [p,q] j) [])),(10,.var 58 (Q1 (foLo sinq p [p,q] j)<|Q1 (foHi sinq p [p,q] j) []))],fun j=>j<= [p,q].length,fun j=>[p,q].length-j,0,?_,Nat.zero_le _,fun j hs=>?_⟩
   .exact ηF
   obtain⟨fa1,fa2⟩:=fo_z fz1 j;obtain⟨fb1,fb2⟩:=fo_z fz2 j;refine⟨fun e7=>?_,fun e7=>?_⟩
   .have a4:(j:Int)<((List.map q3d [p,q]).length:Int):=oT e7;refine Zm (l:=[p,q]) (i:=j) ωm fun x51 a5=>?_;have hj51:=a5;have hzx51:=hLz x51 (mG a5);refine k_ix j _ ωh (Zd a5) rfl<|Zdf (t:=x51) ω (fun p55 q55 a2 a3 ac ad=> Z8 (p:=(foLo (cosq false) p [p,q] j)) (q:=p55) ω ω fun q61 h61 z61=> ZaF (p:=(foHi (cosq false) p [p,q] j)) (q:=p55) ω ω fun q65 h65 z65=> Z8 (p:=(foLo sinq p [p,q] j)) (q:=q55) ω ω fun q70 h70 z70=> ZaF (p:=(foHi sinq p [p,q] j)) (q:=q55) ω ω fun q74 h74 z74=>⟨ωr,?_⟩);have c1:q61=foLo (cosq false) p [p,q] (j+1):=by rw[h61,(fo_s hj51).1,a2]
    have c2:q65=foHi (cosq false) p [p,q] (j+1):=by rw[h65,(fo_s hj51).2,a2]
    have c3:q70=foLo sinq p [p,q] (j+1):=by rw[h70,(fo_s hj51).1,a3]
    have c4:q74=foHi sinq p [p,q] (j+1):=by rw[h74,(fo_s hj51).2,a3]
    exact⟨j+1,ω,by simp only;omega,ηE⟩
   .have a4:¬((j:Int)<((List.map q3d [p,q]).length:Int)):=oF e7;refine⟨ωr,Eq.trans (b:=.tup [.agg (Q1 (foLo (cosq false) p [p,q] j)<|Q1 (foHi (cosq false) p [p,q] j) []),.agg (Q1 (foLo sinq p [p,q] j)<|Q1 (foHi sinq p [p,q] j) [])]) ?_ rfl⟩;obtain⟨k1,k2,k3,k4⟩:=Zvz (p:=p) (q:=q) hx (j:=j) ω;rw[k1,k2,k3,k4]
    all_goals rfl
  .have hx:(p::q::c::r)=ext3 p q:=g5;have hLL:((p::q::c::r).map q3d).length=(p::q::c::r).length:=length_map ..;have hL5:(p::q::c::r).length<=5:=by rw[hx];exact ZlO p q
   obtain⟨fz1,fz2⟩:=Zq3 (p:=p) (q:=q) (B:=qs p+qs q+1) ω ω ω;rw[<-hx]at fz1 fz2;have hLz:∀t,t∈(p::q::c::r)->qs t<=qs p+qs q+1:=by rw[hx];exact ZiN ω ω ω
   refine Zdf (t:=p) ω (fun p40 q40 a8 a9 aa ab=>?_);refine ZaR (q:=p40)  ?_;refine ZaR (q:=q40)  ?_;refine⟨ωr,?_⟩;refine⟨Nat,fun j=>[(2,.val (.one (.ptr 2 0))),(3,.val (.one (.ptr 3 0))),(9,.val (.one (.ptr 9 0))),(10,.val (.one (.ptr 10 0))),(47,.val (.one (.row 35 0))),(48,int (((p::q::c::r).map q3d).length:Int)),(49,int (j:Int))],
    fun j=>[(2,.var 58 [.d (.v (.bool false)),.d (.v (.slice none 0 0)),.d (.v (.slice none 0 0)),.d (.v (.bool false)),.d (.v (.slice none 0 0)),.d (.v (.slice none 0 0))]),(3,.var 58 [.d (.v (.bool false)),.d (.v (.slice none 0 0)),.d (.v (.slice none 0 0)),.d (.v (.bool false)),.d (.v (.slice none 0 0)),.d (.v (.slice none 0 0))]),(9,.var 58 (Q1 (foLo (cosq false) p (p::q::c::r) j)<|Q1 (foHi (cosq false) p (p::q::c::r) j) [])),(10,.var 58 (Q1 (foLo sinq p (p::q::c::r) j)<|Q1 (foHi sinq p (p::q::c::r) j) [])),(35,.row 52 3 0 ((p::q::c::r).map q3d) true)],fun j=>j<=(p::q::c::r).length,fun j=>(p::q::c::r).length-j,0,?_,Nat.zero_le _,fun j hs=>?_⟩
   .exact ηF
   obtain⟨fa1,fa2⟩:=fo_z fz1 j;obtain⟨fb1,fb2⟩:=fo_z fz2 j;refine⟨fun e8=>?_,fun e8=>?_⟩
   .have a4:(j:Int)<(((p::q::c::r).map q3d).length:Int):=oT e8;refine k_at_own' j ωh (by first|omega|(simp;omega))<|Zm (l:=(p::q::c::r)) (i:=j) ωm fun x52 a6=>?_;have hj51:=a6;have hzx52:=hLz x52 (mG a6);refine ZeY (P1 x52 []) _ (Zd a6) rfl rfl<|Zdf (t:=x52) ω (fun p55 q55 a2 a3 ac ad=> Z8 (p:=(foLo (cosq false) p (p::q::c::r) j)) (q:=p55) ω ω fun q61 h61 z61=> ZaF (p:=(foHi (cosq false) p (p::q::c::r) j)) (q:=p55) ω ω fun q65 h65 z65=> Z8 (p:=(foLo sinq p (p::q::c::r) j)) (q:=q55) ω ω fun q70 h70 z70=> ZaF (p:=(foHi sinq p (p::q::c::r) j)) (q:=q55) ω ω fun q74 h74 z74=>⟨ωr,?_⟩);have c1:q61=foLo (cosq false) p (p::q::c::r) (j+1):=by rw[h61,(fo_s hj51).1,a2]
    have c2:q65=foHi (cosq false) p (p::q::c::r) (j+1):=by rw[h65,(fo_s hj51).2,a2]
    have c3:q70=foLo sinq p (p::q::c::r) (j+1):=by rw[h70,(fo_s hj51).1,a3]
    have c4:q74=foHi sinq p (p::q::c::r) (j+1):=by rw[h74,(fo_s hj51).2,a3]
    exact⟨j+1,ω,by simp only;omega,ηE⟩
   .have a4:¬((j:Int)<(((p::q::c::r).map q3d).length:Int)):=oF e8;refine⟨ωr,Eq.trans (b:=.tup [.agg (Q1 (foLo (cosq false) p (p::q::c::r) j)<|Q1 (foHi (cosq false) p (p::q::c::r) j) []),.agg (Q1 (foLo sinq p (p::q::c::r) j)<|Q1 (foHi sinq p (p::q::c::r) j) [])]) ?_ rfl⟩;obtain⟨k1,k2,k3,k4⟩:=Zvz (p:=p) (q:=q) hx (j:=j) ω;rw[k1,k2,k3,k4]
    all_goals rfl
theorem ZyU{p q:Rat}(_h:sle p q)(hp:qs p<=33554432)(hq:qs q<=33554432)(k:∀ya yb yc ye,ya=(cs3 p q).1->yb=(cs3 p q).2->yc=(sn3 p q).1->ye=(sn3 p q).2->qs ya<=4*(qs p+qs q+1)+34->qs yb<=4*(qs p+qs q+1)+34->qs yc<=4*(qs p+qs q+1)+34->qs ye<=4*(qs p+qs q+1)+34->K (two (q3p ya yb) (q3p yc ye))):Ask 176 [q3p p q] K:=use (Zr0 p q hp hq) rfl (k _ _ _ _ rfl rfl rfl rfl (Zxb ω ω ω).1 (Zxb ω ω ω).2 (ZvY ω ω ω).1 (ZvY ω ω ω).2)
theorem Zqw{A:ArmV}{Q:List (RV×RV)}(hA:A.ok)(hA0:armE A=0)(hlen:Q.length=A.links.length)(hQ:∀p,p∈Q->p.1.z<=3145760/\p.2.z<=3145760)(k:K (Xl rqL (spreadL A Q))):Ask 122 [arm A,Xl rdv Q] K:=use2 k (by
 have hA2:=hA;obtain⟨z1,z2,z3,z4,z5,z6⟩:=hA;have hL:(A.links.map lk).length=A.links.length:=length_map ..;have hLq:(Q.map rdv).length=Q.length:=length_map ..;obtain⟨hn3,hnz,hsb1,hsb2,hsb3,_⟩:=Zy hA0;have hb1:=ZM hsb1;have hb2:=ZM hsb2;have hb3:=ZM hsb3;obtain⟨hb4,hb5,hb6,hb7⟩:=ZrJ hA0;refine Zb Tryz.func122 Tryz.ntmps122 ?_;refine ZtL (x:=A.bx) (y:=A.by') (h:=A.bh) (z:=A.bt) ω ω ω ?_;refine ZaR (q:=A.bx.q)  ?_;refine ZaR (q:=A.by'.q)  ?_;refine ZaR (q:=cosq A.bh A.bt.q)  ?_;refine ZaR (q:=sinq (tq A.bh A.bt.q))  ?_;refine⟨ωr,?_⟩;refine⟨Nat,fun i=>[(1,Xl rdv Q),(6,.val (.one (.ptr 6 0))),(7,.val (.one (.row 71 0))),(30,Xl lk A.links),(31,int ((A.links.map lk).length:Int)),(32,int (i:Int))],
  fun i=>[(6,.var 188 (Q1 ((endL A Q i).xl)<|Q1 ((endL A Q i).xh)<|Q1 ((endL A Q i).yl)<|Q1 ((endL A Q i).yh)<|Q1 ((endL A Q i).cl)<|Q1 ((endL A Q i).ch)<|Q1 ((endL A Q i).sl)<|Q1 ((endL A Q i).sh) [])),(71,.row 188 24 0 ((linksL A Q i).map rqL) true)],fun i=>i<=A.links.length,fun i=>A.links.length-i,0,?_,Nat.zero_le _,fun i hs=>?_⟩
 .exact ωe
 obtain⟨⟨zc1,zc2⟩,zc3,zc4⟩:=Zq9 hA0 Q i;obtain⟨⟨zx1,zx2⟩,zx3,zx4⟩:=Zho hA0 Q i;obtain⟨ol1,ol2,ol3,ol4⟩:=LF.has_le (Zdp A Q i);obtain⟨⟨zl1,zl2⟩,zl3,zl4⟩:=ZbS A Q i;obtain⟨ol7,ol8,ol9,ol10⟩:=LF.has_le (Zdc A Q i);have hT:((linksL A Q i).map rqL).length<=3:=by rw[length_map,ZfZ];omega
 refine⟨fun e1=>?_,fun e1=>?_⟩
 .have ag:(i:Int)<((A.links.map lk).length:Int):=oT e1;refine Zm (l:=A.links) (i:=i) ωm fun x35 a0=>?_;obtain⟨hs1,hs2,hs3,hs4,hs5,hs6,hs7⟩:=z6 x35 (mG a0);have hlx35:=Zls a0;have hsmx35:=ZM (ZK hA0 (mG a0)).1;refine k_ix i _ ωh (Zd a0) rfl<|Zm (l:=Q) (i:=i) ωm fun x40 a9=>?_;obtain⟨hzx40,hyx40⟩:=hQ x40 (mG a9);have hqx40:=Zow a9;refine k_ix i _ ωh (Zd a9) rfl<|ZwS (x:=x40.1) (y:=x40.2) ω ω (fun ah ai a1 a2 hk_42_4 hk_42_5 hk_42_6=> ZyU (p:=ah) (q:=ai) ωs ω ω (fun ae af yc43 ye43 a3 a4 a5 a6 hk_43_8 hk_43_9 hk_43_10 hk_43_11=> Zav (p:=(endL A Q i).cl) (q:=(endL A Q i).ch) (r:=ae) (u:=af) ω ω ω ω (fun aj ak al am hk_49_4 hk_49_5=> Zav (p:=(endL A Q i).sl) (q:=(endL A Q i).sh) (r:=yc43) (u:=ye43) ω ω ω ω (fun an ao ap aq hk_53_4 hk_53_5=> Zj3 (p:=aj) (q:=ak) (r:=an) (u:=ao) ω ω ω ω (fun ar au av aw hk_54_4 hk_54_5=> Zqv (p:=ar) (q:=au) ω ω (fun aa ab ax ay hk_55_4 hk_55_5=> Zav (p:=(endL A Q i).sl) (q:=(endL A Q i).sh) (r:=ae) (u:=af) ω ω ω ω (fun az b0 b1 b2 hk_59_4 hk_59_5=> Zav (p:=(endL A Q i).cl) (q:=(endL A Q i).ch) (r:=yc43) (u:=ye43) ω ω ω ω (fun b3 b4 b5 b6 hk_63_4 hk_63_5=> ZbT (p:=az) (q:=b0) (r:=b3) (u:=b4) ω ω ω ω (fun b7 b8 b9 ba hk_64_4 hk_64_5=> Zqv (p:=b7) (q:=b8) ω ω (fun ac ad bb bc hk_65_4 hk_65_5=>?_))))))))));have e55:aa=(linkL A Q i).cl:=by rw[ax,av,al,aq,a3,a4,a5,a6,a1,a2,<-hqx40.1,<-hqx40.2];rfl
  have a7:ab=(linkL A Q i).ch:=by rw[ay,aw,am,ap,a3,a4,a5,a6,a1,a2,<-hqx40.1,<-hqx40.2];rfl
  have e65:ac=(linkL A Q i).sl:=by rw[bb,b9,b1,b5,a3,a4,a5,a6,a1,a2,<-hqx40.1,<-hqx40.2];rfl
  have a8:ad=(linkL A Q i).sh:=by rw[bc,ba,b2,b6,a3,a4,a5,a6,a1,a2,<-hqx40.1,<-hqx40.2];rfl
  have zl5:qs aa<=3:=by rw[e55];exact zl1
  have zl6:qs ab<=3:=by rw[a7];exact zl2
  have zl7:qs ac<=3:=by rw[e65];exact zl3
  have zl8:qs ad<=3:=by rw[a8];exact zl4
  refine⟨ωr,⟨⟨row1 rfl,(by show (((linksL A Q i).map rqL).length+1)*448<=_;omega),(by show (((linksL A Q i).map rqL).length+1)<=_;omega)⟩,Zq (x:=x35.len) ω fun q74 h74 z74=> ZaR (q:=q74)<|Zav (p:=q74) (q:=q74) (r:=aa) (u:=ab) ω ω ω ω (fun bd be bf bg hk_81_4 hk_81_5=> ZbT (p:=(endL A Q i).xl) (q:=(endL A Q i).xh) (r:=bd) (u:=be) ω ω ω ω (fun bi bj bk bl hk_82_4 hk_82_5=> Zav (p:=q74) (q:=q74) (r:=ac) (u:=ad) ω ω ω ω (fun bm bn bo bp hk_88_4 hk_88_5=> ZbT (p:=(endL A Q i).yl) (q:=(endL A Q i).yh) (r:=bm) (u:=bn) ω ω ω ω (fun bq br bs bu hk_89_4 hk_89_5=>⟨ωr,?_⟩))))⟩⟩;have hl:q74=lenAt A i:=h74.trans hlx35.symm;have ex:bi=(endL A Q (i+1)).xl:=by rw[bk,bf,hl,e55,a7];rfl
  have ex2:bj=(endL A Q (i+1)).xh:=by rw[bl,bg,hl,e55,a7];rfl
  have ey:bq=(endL A Q (i+1)).yl:=by rw[bs,bo,hl,e65,a8];rfl
  have ey2:br=(endL A Q (i+1)).yh:=by rw[bu,bp,hl,e65,a8];rfl
  subst ex ex2 ey ey2 e55 a7 e65 a8;refine⟨i+1,ω,by simp only;omega,?_⟩;constructor<;>(repeat' apply And.intro)<;>first|exact ωq|(rw[ZeU];rfl)
 .have ag:¬((i:Int)<((A.links.map lk).length:Int)):=oF e1;refine⟨⟨row1 rfl,(by show (((linksL A Q i).map rqL).length+1)*448<=_;omega),(by show (((linksL A Q i).map rqL).length+1)<=_;omega)⟩,Eq.trans (b:=.val (.one (.d (.list (List.map rqL (linksL A Q i)++[P1 ((endL A Q i).xl)<|P1 ((endL A Q i).xh)<|P1 ((endL A Q i).yl)<|P1 ((endL A Q i).yh)<|P1 ((endL A Q i).cl)<|P1 ((endL A Q i).ch)<|P1 ((endL A Q i).sl)<|P1 ((endL A Q i).sh) []]))))) ?_ rfl⟩;obtain rfl:i=A.links.length:=ω;rw[spreadL];show AV.val (.one (.d (.list (List.map rqL (_++_)))))=_;rw[List.map_append]
  all_goals rfl
 ) rfl
end
