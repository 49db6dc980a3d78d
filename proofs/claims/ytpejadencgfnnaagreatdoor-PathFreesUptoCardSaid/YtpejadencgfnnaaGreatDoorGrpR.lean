/- Joined by wip/bundle.py: XSpr0 XSprA XSprR. -/
import Derived.Test.YtpejadencgfnnaaGreatDoorFore0
import Derived.Test.YtpejadencgfnnaaGreatDoorGrpQ
import Derived.Test.YtpejadencgfnnaaGreatDoorGrpA
import Derived.Test.YtpejadencgfnnaaGreatDoorForeA
import Derived.Test.YtpejadencgfnnaaGreatDoorWg
import Derived.Test.YtpejadencgfnnaaGreatDoorGrpZ
namespace Go.Proofs.YtpejadencgfnnaaGreatDoor.eng
open Go.RowKit num mem seg q held ratA ratB ratC ratD ratE vars ratF trq
theorem qi_1:((1:Int):Rat)=1:=rfl
theorem Zl8:((-1:Int):Rat)=-1:=by decide+kernel
theorem qi_0:((0:Int):Rat)=0:=rfl
def sle (p q:Rat):Prop:=p≤q
theorem Zht {c s:Rat} (h:unitC c s):(-1≤c∧c≤1)∧(-1≤s∧s≤1):=by
 unfold unitC at h
 have sq:∀ a:Rat,0≤a*a:=fun a=>by
  by_cases h:0≤a
  ·exact Rat.mul_nonneg h h
  ·have:=Rat.mul_nonneg (by grind:0≤-a) (by grind:0≤-a);grind
 have key:∀ a b:Rat,a*a+b*b=1→a≤1:=fun a b e=>by
  refine Rat.not_lt.1 fun hlt=> ?_
  have:=Rat.mul_nonneg (by grind:0≤a - 1) (by grind:0≤a - 1)
  have:=sq b
  grind
 have n1:=key c s h
 have n2:=key (-c) s (by grind)
 have n3:=key s c (by grind)
 have n4:=key (-s) c (by grind)
 exact⟨⟨by grind,n1⟩,⟨by grind,n3⟩⟩
theorem Zjx (t:Rat):(-1≤cosq false t∧cosq false t≤1)∧(-1≤sinq t∧sinq t≤1):=by
 have h:=Zhu false t
 rw [Zcr] at h
 exact Zht h
theorem Zc0 (t:Rat):0< 1+t*t:=by
 have:0≤t*t:=by
  by_cases h:0≤t
  ·exact Rat.mul_nonneg h h
  ·have:=Rat.mul_nonneg (by grind:0≤-t) (by grind:0≤-t);grind
 grind
theorem ZfY {a b:Rat} (hb:0< b) {x:Rat} (h:x*b=a):(0≤a→0≤x)∧(a≤0→x≤0):=by
 constructor
 ·intro ha
  refine Rat.not_lt.1 fun hx=> ?_
  have:=Rat.mul_pos (by grind:0< -x) hb
  grind
 ·intro ha
  refine Rat.not_lt.1 fun hx=> ?_
  have:=Rat.mul_pos hx hb
  grind
theorem ZiL (t:Rat):(0≤t→0≤sinq t)∧(t≤0→sinq t≤0):=by
 obtain⟨_,h,_⟩:=ZdF t
 obtain⟨a,b⟩:=ZfY (Zc0 t) h
 exact⟨fun g=>a (by grind),fun g=>b (by grind)⟩
theorem Znx {t:Rat} (h:t≤-1∨1≤t):cosq false t≤0:=by
 obtain⟨e,_,_⟩:=ZdF t
 refine(ZfY (Zc0 t) e).2 ?_
 rcases h with h|h
 ·have:=Rat.mul_nonneg (by grind:0≤-t - 1) (by grind:0≤-t+1);grind
 ·have:=Rat.mul_nonneg (by grind:0≤t - 1) (by grind:0≤t+1);grind
theorem Zjw {t:Rat} (h1:-1≤t) (h2:t≤1):0≤cosq false t:=by
 obtain⟨e,_,_⟩:=ZdF t
 refine(ZfY (Zc0 t) e).1 ?_
 have:=Rat.mul_nonneg (by grind:0≤1 - t) (by grind:0≤1+t)
 grind
def ext3 (l h:Rat):List Rat:=([-1,0,1]:List Int).foldl (ext l h) [l,h]
def cs3 (l h:Rat):Rat×Rat:=(lowL (cosq false l) ((ext3 l h).map (cosq false)),highL (cosq false l) ((ext3 l h).map (cosq false)))
def sn3 (l h:Rat):Rat×Rat:=(lowL (sinq l) ((ext3 l h).map sinq),highL (sinq l) ((ext3 l h).map sinq))
theorem Zb1 {l h a:Rat}:hasQ l h a=true↔l≤a∧a≤h:=by
 unfold hasQ;rw [Bool.and_eq_true,decide_eq_true_iff,decide_eq_true_iff]
theorem Zpm {l h t:Rat} (ht:t∈ext3 l h):t=l∨t=h∨t=-1∨t=0∨t=1:=by
 unfold ext3 ext at ht
 simp only [List.foldl_cons,List.foldl_nil,qi_1,Zl8,qi_0] at ht
 (repeat' split at ht)<;>simp at ht<;>grind
theorem Zjn (l h:Rat):(ext3 l h).length≤5:=by
 unfold ext3 ext
 simp only [List.foldl_cons,List.foldl_nil]
 (repeat' split)<;>simp
theorem Zlh:cosq false (-1)=0∧cosq false 0=1∧cosq false 1=0∧sinq (-1)=-1∧sinq 0=0∧sinq 1=1:=by decide+kernel
theorem Zrp {l h:Rat} (_:l≤h):(cosF (sqHi l h),cosF (sqLo l h))=cs3 l h:=by
 obtain⟨e1,e2,e3,_⟩:=Zlh
 rw [Zro,Zpq]
 unfold cosL cosH
 rw [Zf4,Zf4]
 obtain⟨⟨a1,a2⟩,_⟩:=Zjx l
 obtain⟨⟨b1,b2⟩,_⟩:=Zjx h
 have f1:hasQ l h 1=true→cosq false h≤0:=fun e=>Znx (.inr (Zb1.1 e).2)
 have fm:hasQ l h (-1)=true→cosq false l≤0:=fun e=>Znx (.inl (Zb1.1 e).1)
 have g1:hasQ l h 1=true→¬ hasQ l h 0=true→0≤cosq false l:=fun e e0=>by
  rw [Zb1] at e e0
  exact Zjw (by grind) e.1
 have gm:hasQ l h (-1)=true→¬ hasQ l h 0=true→0≤cosq false h:=fun e e0=>by
  rw [Zb1] at e e0
  exact Zjw e.2 (by grind)
 unfold cs3 ext3 ext
 simp only [List.foldl_cons,List.foldl_nil,qi_1,Zl8,qi_0]
 generalize ha:cosq false l=a at*
 generalize hb:cosq false h=b at*
 by_cases c1:hasQ l h 1=true<;>by_cases c0:hasQ l h 0=true<;>by_cases cm:hasQ l h (-1)=true<;>
  simp only [c1,c0,cm,if_true,if_false,Bool.false_eq_true,List.cons_append,List.nil_append,List.map_cons,List.map_nil,ha,hb,e1,e2,e3,lowL,highL,List.foldl_cons,List.foldl_nil]<;>
  try simp only [c1,c0,cm,true_implies,false_implies,not_true_eq_false,not_false_eq_true,Bool.false_eq_true] at f1 fm g1 gm<;>
  unfold lowF highF<;>(refine Prod.ext ?_ ?_)<;>grind
theorem Zqy {l h:Rat} (_:l≤h):sinS l h=sn3 l h:=by
 obtain⟨_,_,_,e1,e2,e3⟩:=Zlh
 obtain⟨_,a1,a2⟩:=Zjx l
 obtain⟨_,b1,b2⟩:=Zjx h
 have f0:hasQ l h 0=true→sinq l≤0∧0≤sinq h:=fun e=>⟨(ZiL l).2 (Zb1.1 e).1,(ZiL h).1 (Zb1.1 e).2⟩
 unfold sinS sn3 ext3 ext stp
 simp only [List.foldl_cons,List.foldl_nil,qi_1,Zl8,qi_0]
 generalize ha:sinq l=a at*
 generalize hb:sinq h=b at*
 by_cases c1:hasQ l h 1=true<;>by_cases c0:hasQ l h 0=true<;>by_cases cm:hasQ l h (-1)=true<;>
  simp only [c1,c0,cm,if_true,if_false,Bool.false_eq_true,List.cons_append,List.nil_append,List.map_cons,List.map_nil,ha,hb,e1,e2,e3,lowL,highL,List.foldl_cons,List.foldl_nil]<;>
  try simp only [c0,true_implies,false_implies,Bool.false_eq_true] at f0<;>
  unfold lowF highF minQ maxQ<;>(refine Prod.ext ?_ ?_)<;>grind
theorem Zjv (l h:Rat):(cs3 l h).1≤cosq false l∧cosq false l≤(cs3 l h).2:=⟨(ZbP _ _).1,(ZaO _ _).1⟩
theorem ZiK (l h:Rat):(sn3 l h).1≤sinq l∧sinq l≤(sn3 l h).2:=⟨(ZbP _ _).1,(ZaO _ _).1⟩
theorem Zg5 {l h:Rat} {B:Nat} (hl:qs l≤B) (hh:qs h≤B) (hB:1≤B):∀ t,t∈ext3 l h→qs t≤B:=by
 intro t ht
 have z1:qs (-1:Rat)≤1:=by decide+kernel
 have z2:qs (0:Rat)≤1:=by decide+kernel
 have z3:qs (1:Rat)≤1:=by decide+kernel
 rcases Zpm ht with rfl|rfl|rfl|rfl|rfl<;>omega
theorem Zrn {l h:Rat} {B:Nat} (hl:qs l≤B) (hh:qs h≤B) (hB:1≤B):qs (cs3 l h).1≤4*B+34∧qs (cs3 l h).2≤4*B+34:=by
 have k:∀ q,q∈cosq false l :: (ext3 l h).map (cosq false)→qs q≤4*B+34:=by
  intro q hq
  rcases List.mem_cons.1 hq with rfl|hq
  ·have:=(Zfz l).1;omega
  ·obtain⟨t,ht,rfl⟩:=List.mem_map.1 hq
   have:=Zg5 hl hh hB t ht
   have:=(Zfz t).1;omega
 exact⟨ZbA k,ZaN k⟩
theorem Zqw {l h:Rat} {B:Nat} (hl:qs l≤B) (hh:qs h≤B) (hB:1≤B):qs (sn3 l h).1≤4*B+34∧qs (sn3 l h).2≤4*B+34:=by
 have k:∀ q,q∈sinq l :: (ext3 l h).map sinq→qs q≤4*B+34:=by
  intro q hq
  rcases List.mem_cons.1 hq with rfl|hq
  ·have:=(Zfz l).2;omega
  ·obtain⟨t,ht,rfl⟩:=List.mem_map.1 hq
   have:=Zg5 hl hh hB t ht
   have:=(Zfz t).2;omega
 exact⟨ZbA k,ZaN k⟩
theorem ZqP (a b c d:Rat):minQ (minQ (a*c) (a*d)) (minQ (b*c) (b*d))=mulLo a b c d:=by
 unfold mulLo lowL
 simp only [List.foldl_cons,List.foldl_nil]
 generalize a*c=x;generalize a*d=y;generalize b*c=z;generalize b*d=u
 unfold minQ lowF;grind
theorem ZqQ (a b c d:Rat):maxQ (maxQ (a*c) (a*d)) (maxQ (b*c) (b*d))=mulHi a b c d:=by
 unfold mulHi highL
 simp only [List.foldl_cons,List.foldl_nil]
 generalize a*c=x;generalize a*d=y;generalize b*c=z;generalize b*d=u
 unfold maxQ highF;grind
theorem ZmD {a b x y m:Rat} (h1:a≤x) (h2:x≤b) (e1:m≤a*y) (e2:m≤b*y):m≤x*y:=by
 by_cases h:0≤y
 ·have:=Rat.mul_nonneg (by grind:0≤x - a) h;grind
 ·have:=Rat.mul_nonneg (by grind:0≤b - x) (by grind:0≤-y);grind
theorem Za3 {a b c d x y:Rat} (h1:a≤x) (h2:x≤b) (h3:c≤y) (h4:y≤d):mulLo a b c d≤x*y∧x*y≤mulHi a b c d:=by
 obtain⟨l1,l2⟩:=ZbP [a*d,b*c,b*d] (a*c)
 obtain⟨g1,g2⟩:=ZaO [a*d,b*c,b*d] (a*c)
 have l3:=l2 (a*d) (by simp);have l4:=l2 (b*c) (by simp);have l5:=l2 (b*d) (by simp)
 have g3:=g2 (a*d) (by simp);have g4:=g2 (b*c) (by simp);have g5:=g2 (b*d) (by simp)
 change mulLo a b c d≤_ at l1 l3 l4 l5
 change _≤mulHi a b c d at g1 g3 g4 g5
 have m1:∀ p:Rat,∀ m,m≤p*c→m≤p*d→m≤p*y:=fun p m e1 e2=>by
  have:=ZmD h3 h4 (m:=m) (y:=p) (by grind) (by grind);grind
 constructor
 ·exact ZmD h1 h2 (m1 a _ l1 l3) (m1 b _ l4 l5)
 ·have:=ZmD (m:=-mulHi a b c d) (y:=-y) h1 h2 (by have:=m1 (-a) (-mulHi a b c d) (by grind) (by grind);grind) (by have:=m1 (-b) (-mulHi a b c d) (by grind) (by grind);grind)
  grind
theorem Zmp {a b c d:Rat} {B C:Nat} (h1:qs a≤B) (h2:qs b≤B) (h3:qs c≤C) (h4:qs d≤C):qs (mulLo a b c d)≤B+C∧qs (mulHi a b c d)≤B+C:=by
 have k:∀ q,q∈a*c :: [a*d,b*c,b*d]→qs q≤B+C:=by
  intro q hq
  simp only [List.mem_cons,List.not_mem_nil,or_false] at hq
  rcases hq with rfl|rfl|rfl|rfl
  ·have:=ZT a c;omega
  ·have:=ZT a d;omega
  ·have:=ZT b c;omega
  ·have:=ZT b d;omega
 exact⟨ZbA k,ZaN k⟩
def mill:Rat:=((1000000:Int):Rat)
def cutLo (q:Rat):Rat:=maxQ (downQ q 1000000) ((-1:Int):Rat)
def cutHi (q:Rat):Rat:=minQ (upQ q 1000000) ((1:Int):Rat)
theorem Zda (q:Rat):downQ q 1000000=((q*mill).floor:Rat) / mill:=by
 unfold downQ
 rw [show dnN 1000000=1000000 from rfl,Rat.mkRat_eq_div];rfl
theorem ZfM:(0:Rat)< mill:=by decide+kernel
theorem ZhV:mill≠0:=by decide+kernel
theorem Znp (q:Rat):downQ q 1000000≤q:=by
 rw [Zda]
 have h:=Rat.floor_le (a:=q*mill)
 refine Rat.not_lt.1 fun hlt=> ?_
 rw [Rat.lt_div_iff ZfM] at hlt
 exact absurd h (Rat.not_le.2 hlt)
theorem ZsX (q:Rat):q≤upQ q 1000000:=by
 have:=Znp (-q)
 unfold upQ;grind
theorem Zfb {q c:Rat} (h1:-1≤c) (h2:c≤1):(q≤c→cutLo q≤c)∧(c≤q→c≤cutHi q):=by
 have a:=Znp q
 have b:=ZsX q
 unfold cutLo cutHi maxQ minQ
 rw [qi_1,Zl8]
 constructor<;>intro h<;>split<;>grind
theorem ZpW {n:Int} (h1:-1≤(n:Rat) / mill) (h2:(n:Rat) / mill≤1):qs ((n:Rat) / mill)≤3:=by
 have e:(n:Rat) / mill=mkRat n 1000000:=by rw [Rat.mkRat_eq_div];rfl
 have hm:(n:Rat)=(n:Rat) / mill*mill:=(Rat.div_mul_cancel ZhV).symm
 have p:=Rat.mul_nonneg (by grind:0≤1 - (n:Rat) / mill) (Rat.le_of_lt ZfM)
 have q:=Rat.mul_nonneg (by grind:0≤1+(n:Rat) / mill) (Rat.le_of_lt ZfM)
 have a1:(n:Rat)≤((1000000:Int):Rat):=by show _≤mill;grind
 have a2:((-1000000:Int):Rat)≤(n:Rat):=by
  have:((-1000000:Int):Rat)=-mill:=by decide+kernel
  rw [this];grind
 have b1:=Rat.intCast_le_intCast.1 a1
 have b2:=Rat.intCast_le_intCast.1 a2
 rw [e]
 exact Zdz (by decide) (by omega) (by decide)
theorem Znv {q c:Rat} (h1:-1≤c) (h2:c≤1) (h:q≤c):qs (cutLo q)≤3:=by
 have a:=(Zfb (q:=q) h1 h2).1 h
 have z:qs ((-1:Int):Rat)≤3:=by decide+kernel
 unfold cutLo maxQ at*
 rw [Zl8] at*
 split at a
 ·rename_i g;rw [if_pos g,Zda];rw [Zda] at a g;exact ZpW g (Rat.le_trans a h2)
 ·rename_i g;rw [if_neg g];exact z
theorem neg_div' (n:Int):-((n:Rat) / mill)=((-n:Int):Rat) / mill:=by
 rw [Rat.intCast_neg,Rat.div_def,Rat.div_def];grind
theorem Znw {q c:Rat} (h1:-1≤c) (h2:c≤1) (h:c≤q):qs (cutHi q)≤3:=by
 have a:=(Zfb (q:=q) h1 h2).2 h
 have z:qs ((1:Int):Rat)≤3:=by decide+kernel
 unfold cutHi minQ at*
 rw [qi_1] at*
 split at a
 ·rename_i g;rw [if_pos g];unfold upQ at*;rw [Zda,neg_div'] at*;exact ZpW (Rat.le_trans h1 a) g
 ·rename_i g;rw [if_neg g];exact z
structure LF where
 xl:Rat
 xh:Rat
 yl:Rat
 yh:Rat
 cl:Rat
 ch:Rat
 sl:Rat
 sh:Rat
def LF.has (f:LF) (g:RF):Prop:=(f.xl≤g.x∧g.x≤f.xh)∧(f.yl≤g.y∧g.y≤f.yh)∧(f.cl≤g.c∧g.c≤f.ch)∧(f.sl≤g.s∧g.s≤f.sh)
def tightL (g:RF):LF:=⟨g.x,g.x,g.y,g.y,g.c,g.c,g.s,g.s⟩
theorem ZjP (g:RF):(tightL g).has g:=⟨⟨Rat.le_refl,Rat.le_refl⟩,⟨Rat.le_refl,Rat.le_refl⟩,⟨Rat.le_refl,Rat.le_refl⟩,⟨Rat.le_refl,Rat.le_refl⟩⟩
def turnCl (f:LF) (c s:Rat×Rat):Rat:=mulLo f.cl f.ch c.1 c.2 - mulHi f.sl f.sh s.1 s.2
def turnCh (f:LF) (c s:Rat×Rat):Rat:=mulHi f.cl f.ch c.1 c.2 - mulLo f.sl f.sh s.1 s.2
def turnSl (f:LF) (c s:Rat×Rat):Rat:=mulLo f.sl f.sh c.1 c.2+mulLo f.cl f.ch s.1 s.2
def turnSh (f:LF) (c s:Rat×Rat):Rat:=mulHi f.sl f.sh c.1 c.2+mulHi f.cl f.ch s.1 s.2
def turnL (f:LF) (c s:Rat×Rat):LF:=⟨f.xl,f.xh,f.yl,f.yh,cutLo (turnCl f c s),cutHi (turnCh f c s),cutLo (turnSl f c s),cutHi (turnSh f c s)⟩
def longL (f:LF) (n:Rat):LF:=⟨f.xl+mulLo n n f.cl f.ch,f.xh+mulHi n n f.cl f.ch,f.yl+mulLo n n f.sl f.sh,f.yh+mulHi n n f.sl f.sh,f.cl,f.ch,f.sl,f.sh⟩
theorem Zk9 {f:LF} {g:RF} (h:f.has g) {c s:Rat×Rat} {t:Rat} (hc:c.1≤cosq false t∧cosq false t≤c.2) (hs:s.1≤sinq t∧sinq t≤s.2):
  (turnCl f c s≤(turnF g t).c∧(turnF g t).c≤turnCh f c s)∧(turnSl f c s≤(turnF g t).s∧(turnF g t).s≤turnSh f c s):=by
 obtain⟨_,_,⟨c1,c2⟩,s1,s2⟩:=h
 have a:=Za3 c1 c2 hc.1 hc.2
 have b:=Za3 s1 s2 hs.1 hs.2
 have d:=Za3 s1 s2 hc.1 hc.2
 have e:=Za3 c1 c2 hs.1 hs.2
 unfold turnCl turnCh turnSl turnSh turnF
 simp only
 exact⟨⟨by grind,by grind⟩,⟨by grind,by grind⟩⟩
theorem Zlb {f:LF} {g:RF} (h:f.has g) (hu:g.u) {c s:Rat×Rat} {t:Rat} (hc:c.1≤cosq false t∧cosq false t≤c.2) (hs:s.1≤sinq t∧sinq t≤s.2):(turnL f c s).has (turnF g t):=by
 obtain⟨⟨a1,a2⟩,a3,a4⟩:=Zk9 h hc hs
 obtain⟨⟨u1,u2⟩,u3,u4⟩:=Zht (Zfl hu t)
 exact⟨h.1,h.2.1,⟨(Zfb u1 u2).1 a1,(Zfb u1 u2).2 a2⟩,(Zfb u3 u4).1 a3,(Zfb u3 u4).2 a4⟩
theorem ZmC {f:LF} {g:RF} (h:f.has g) (n:Rat):(longL f n).has (longF g n):=by
 obtain⟨⟨x1,x2⟩,⟨y1,y2⟩,⟨c1,c2⟩,s1,s2⟩:=h
 have a:=Za3 (Rat.le_refl (a:=n)) Rat.le_refl c1 c2
 have b:=Za3 (Rat.le_refl (a:=n)) Rat.le_refl s1 s2
 refine⟨⟨?_,?_⟩,⟨?_,?_⟩,⟨c1,c2⟩,s1,s2⟩
 ·show f.xl+mulLo n n f.cl f.ch≤g.x+g.c*n;grind
 ·show g.x+g.c*n≤f.xh+mulHi n n f.cl f.ch;grind
 ·show f.yl+mulLo n n f.sl f.sh≤g.y+g.s*n;grind
 ·show g.y+g.s*n≤f.yh+mulHi n n f.sl f.sh;grind
def LF.le (f:LF):Prop:=sle f.xl f.xh∧sle f.yl f.yh∧sle f.cl f.ch∧sle f.sl f.sh
theorem LF.has_le {f:LF} {g:RF} (h:f.has g):f.le:=⟨Rat.le_trans h.1.1 h.1.2,Rat.le_trans h.2.1.1 h.2.1.2,Rat.le_trans h.2.2.1.1 h.2.2.1.2,Rat.le_trans h.2.2.2.1 h.2.2.2.2⟩
def spAt (Q:List (RV×RV)) (i:Nat):RV×RV:=(Q[i]?).getD (z0,z0)
def loAt (Q:List (RV×RV)) (i:Nat):Rat:=slo (spAt Q i).1 (spAt Q i).2
def hiAt (Q:List (RV×RV)) (i:Nat):Rat:=shi (spAt Q i).1 (spAt Q i).2
theorem Zlt {Q:List (RV×RV)} {i:Nat} {x:RV×RV} (h:Q[i]? =some x):loAt Q i=slo x.1 x.2∧hiAt Q i=shi x.1 x.2:=by simp [loAt,hiAt,spAt,h]
def endL (A:ArmV) (Q:List (RV×RV)):Nat→LF
 |0=>tightL (baseF A)
 |i+1=>longL (turnL (endL A Q i) (cs3 (loAt Q i) (hiAt Q i)) (sn3 (loAt Q i) (hiAt Q i))) (lenAt A i)
def linkL (A:ArmV) (Q:List (RV×RV)) (i:Nat):LF:=turnL (endL A Q i) (cs3 (loAt Q i) (hiAt Q i)) (sn3 (loAt Q i) (hiAt Q i))
def endX (A:ArmV) (Q:List (RV×RV)):Nat→RF
 |0=>baseF A
 |i+1=>longF (turnF (endX A Q i) (loAt Q i)) (lenAt A i)
theorem Zjr (A:ArmV) (Q:List (RV×RV)):∀ i,(endX A Q i).u
 |0=>Zhu _ _
 |i+1=>ZqW (Zfl (Zjr A Q i) _) _
theorem linkL_has' {A:ArmV} {Q:List (RV×RV)} {i:Nat} (h:(endL A Q i).has (endX A Q i)):(linkL A Q i).has (turnF (endX A Q i) (loAt Q i)):=Zlb h (Zjr A Q i) (Zjv _ _) (ZiK _ _)
theorem ZcN (A:ArmV) (Q:List (RV×RV)):∀ i,(endL A Q i).has (endX A Q i)
 |0=>ZjP _
 |i+1=>ZmC (linkL_has' (ZcN A Q i)) _
theorem ZcB (A:ArmV) (Q:List (RV×RV)) (i:Nat):(linkL A Q i).has (turnF (endX A Q i) (loAt Q i)):=linkL_has' (ZcN A Q i)
def linksL (A:ArmV) (Q:List (RV×RV)) (n:Nat):List LF:=(List.range n).map (linkL A Q)
def spreadL (A:ArmV) (Q:List (RV×RV)):List LF:=linksL A Q A.links.length++ [endL A Q A.links.length]
theorem ZeT (A:ArmV) (Q:List (RV×RV)) (n:Nat):(linksL A Q n).length=n:=by simp [linksL]
theorem Zcb (A:ArmV) (Q:List (RV×RV)):(spreadL A Q).length=A.links.length+1:=by simp [spreadL,linksL]
theorem Zd5 {α:Type} (g:LF→α) (A:ArmV) (Q:List (RV×RV)) (i:Nat):List.map g (linksL A Q (i+1))=List.map g (linksL A Q i)++ [g (linkL A Q i)]:=by
 simp [linksL,List.range_succ]
def LF.zc (f:LF) (B:Nat):Prop:=(qs f.cl≤B∧qs f.ch≤B)∧(qs f.sl≤B∧qs f.sh≤B)
def LF.zx (f:LF) (B:Nat):Prop:=(qs f.xl≤B∧qs f.xh≤B)∧(qs f.yl≤B∧qs f.yh≤B)
theorem Zob {f:LF} {g:RF} (h:f.has g) (hu:g.u) {c s:Rat×Rat} {t:Rat} (hc:c.1≤cosq false t∧cosq false t≤c.2) (hs:s.1≤sinq t∧sinq t≤s.2):(turnL f c s).zc 3:=by
 obtain⟨⟨a1,a2⟩,a3,a4⟩:=Zk9 h hc hs
 obtain⟨⟨u1,u2⟩,u3,u4⟩:=Zht (Zfl hu t)
 exact⟨⟨Znv u1 u2 a1,Znw u1 u2 a2⟩,Znv u3 u4 a3,Znw u3 u4 a4⟩
theorem ZbB (A:ArmV) (Q:List (RV×RV)) (i:Nat):(linkL A Q i).zc 3:=Zob (ZcN A Q i) (Zjr A Q i) (Zjv _ _) (ZiK _ _)
theorem Znk {A:ArmV} (hA:armE A=0) (Q:List (RV×RV)):∀ i,(endL A Q i).zc 66
 |0=>by obtain⟨_,_,b3,b4⟩:=ZnJ hA;exact⟨⟨b3,b3⟩,b4,b4⟩
 |i+1=>by
  obtain⟨⟨a1,a2⟩,a3,a4⟩:=ZbB A Q i
  exact⟨⟨Nat.le_trans a1 (by decide),Nat.le_trans a2 (by decide)⟩,Nat.le_trans a3 (by decide),Nat.le_trans a4 (by decide)⟩
theorem ZfV {A:ArmV} (hA:armE A=0) (Q:List (RV×RV)):∀ i,(endL A Q i).zx (4+8*i)
 |0=>by obtain⟨b1,b2,_⟩:=ZnJ hA;exact⟨⟨b1,b1⟩,b2,b2⟩
 |i+1=>by
  obtain⟨⟨x1,x2⟩,y1,y2⟩:=ZfV hA Q i
  obtain⟨⟨c1,c2⟩,s1,s2⟩:=ZbB A Q i
  have hl:=ZqX hA i
  obtain⟨m1,m2⟩:=Zmp hl hl c1 c2
  obtain⟨m3,m4⟩:=Zmp hl hl s1 s2
  have e1:=ZL (endL A Q i).xl (mulLo (lenAt A i) (lenAt A i) (linkL A Q i).cl (linkL A Q i).ch)
  have e2:=ZL (endL A Q i).xh (mulHi (lenAt A i) (lenAt A i) (linkL A Q i).cl (linkL A Q i).ch)
  have e3:=ZL (endL A Q i).yl (mulLo (lenAt A i) (lenAt A i) (linkL A Q i).sl (linkL A Q i).sh)
  have e4:=ZL (endL A Q i).yh (mulHi (lenAt A i) (lenAt A i) (linkL A Q i).sl (linkL A Q i).sh)
  exact⟨⟨by show qs ((endL A Q i).xl+mulLo (lenAt A i) (lenAt A i) (linkL A Q i).cl (linkL A Q i).ch)≤_;omega,by show qs ((endL A Q i).xh+mulHi (lenAt A i) (lenAt A i) (linkL A Q i).cl (linkL A Q i).ch)≤_;omega⟩,
   by show qs ((endL A Q i).yl+mulLo (lenAt A i) (lenAt A i) (linkL A Q i).sl (linkL A Q i).sh)≤_;omega,by show qs ((endL A Q i).yh+mulHi (lenAt A i) (lenAt A i) (linkL A Q i).sl (linkL A Q i).sh)≤_;omega⟩
theorem Zo1 {A:ArmV} (hA:armE A=0) (Q:List (RV×RV)) (i:Nat):(linkL A Q i).zx (4+8*i):=ZfV hA Q i
def rdL (f:LF):List D:=rd (cn f.xl)++rd (cn f.xh)++rd (cn f.yl)++rd (cn f.yh)++rd (cn f.cl)++rd (cn f.ch)++rd (cn f.sl)++rd (cn f.sh)
def rqL (f:LF):List D:=q3d f.xl++q3d f.xh++q3d f.yl++q3d f.yh++q3d f.cl++q3d f.ch++q3d f.sl++q3d f.sh
def foLo (f:Rat→Rat) (p:Rat) (L:List Rat) (j:Nat):Rat:=lowL (f p) ((L.take j).map f)
def foHi (f:Rat→Rat) (p:Rat) (L:List Rat) (j:Nat):Rat:=highL (f p) ((L.take j).map f)
theorem fo_s {f:Rat→Rat} {p:Rat} {L:List Rat} {j:Nat} {x:Rat} (h:L[j]? =some x):foLo f p L (j+1)=minQ (foLo f p L j) (f x)∧foHi f p L (j+1)=maxQ (foHi f p L j) (f x):=by
 unfold foLo foHi lowL highL
 rw [List.take_add_one,h,Zmu,Zi5]
 simp
theorem fo_z {f:Rat→Rat} {p:Rat} {L:List Rat} {B:Nat} (h:∀ t,t∈p :: L→qs (f t)≤B) (j:Nat):qs (foLo f p L j)≤B∧qs (foHi f p L j)≤B:=by
 have k:∀ q,q∈f p :: (L.take j).map f→qs q≤B:=by
  intro q hq
  rcases List.mem_cons.1 hq with rfl|hq
  ·exact h _ (by simp)
  ·obtain⟨t,ht,rfl⟩:=List.mem_map.1 hq
   exact h t (List.mem_cons_of_mem _ (List.mem_of_mem_take ht))
 exact⟨ZbA k,ZaN k⟩
theorem Zqd {p q:Rat} {L:List Rat} (h:L=ext3 p q) {j:Nat} (hj:j=L.length):foLo (cosq false) p L j=(cs3 p q).1∧foHi (cosq false) p L j=(cs3 p q).2∧foLo sinq p L j=(sn3 p q).1∧foHi sinq p L j=(sn3 p q).2:=by
 subst h hj
 unfold foLo foHi
 rw [List.take_length]
 exact⟨rfl,rfl,rfl,rfl⟩
theorem Znh {p q:Rat} {B:Nat} (hp:qs p≤B) (hq:qs q≤B) (hB:1≤B):(∀ t,t∈p :: ext3 p q→qs (cosq false t)≤4*B+34)∧∀ t,t∈p :: ext3 p q→qs (sinq t)≤4*B+34:=by
 have k:∀ t,t∈p :: ext3 p q→qs t≤B:=by
  intro t ht
  rcases List.mem_cons.1 ht with rfl|ht
  ·exact hp
  ·exact Zg5 hp hq hB t ht
 exact⟨fun t ht=>by have:=k t ht;have:=(Zfz t).1;omega,fun t ht=>by have:=k t ht;have:=(Zfz t).2;omega⟩
theorem ZeS (p q r u:Rat):qs (mulLo p q r u)≤qs p+qs q+qs r+qs u∧qs (mulHi p q r u)≤qs p+qs q+qs r+qs u:=by
 obtain⟨h1,h2⟩:=Zmp (a:=p) (b:=q) (c:=r) (d:=u) (B:=qs p+qs q) (C:=qs r+qs u) (by omega) (by omega) (by omega) (by omega)
 omega
theorem Zqf (q:Rat):qs (cutLo q)≤qs q+60∧qs (cutHi q)≤qs q+60:=by
 have h1:=ZcX q 1000000 (by decide)
 have h2:=ZcX (-q) 1000000 (by decide)
 have h3:=ZbO q
 have h4:=ZbO (downQ (-q) 1000000)
 have z:qs ((-1:Int):Rat)≤3:=by decide+kernel
 have z':qs ((1:Int):Rat)≤3:=by decide+kernel
 unfold cutLo cutHi maxQ minQ upQ
 constructor<;>split<;>omega
open Classical in
noncomputable def spreadV (A:ArmV) (Q:List (RV×RV)):List LF:=if hasE A (Q.length:Int)=0 then spreadL A Q else []
theorem ZbU {A:ArmV} {Q:List (RV×RV)} (h:hasE A (Q.length:Int)=0):spreadV A Q=spreadL A Q:=if_pos h
theorem ZjS {A:ArmV} {Q:List (RV×RV)} (h:¬ hasE A (Q.length:Int)=0):spreadV A Q= []:=if_neg h
end Go.Proofs.YtpejadencgfnnaaGreatDoor.eng
namespace Go.Proofs.YtpejadencgfnnaaGreatDoor.eng
open Go.RowKit num mem seg q held ratA ratB ratC ratD ratE vars ratF trq
section
variable {K : AV → Prop}
set_option maxRecDepth 100000 in
theorem ZjX (x y:RV) (n:Int) (hx:x.z≤268435456) (hy:y.z≤268435456) (hn:n≤9223372036854775807):Spec Tryz.prog Tab 253 [pair x y,int n] (pair (cn (downQ (slo x y) n)) (cn (upQ (shi x y) n))):=by
 refine Za Tryz.func253 rfl rfl Tryz.ntmps253 rfl (by kernel_rfl) rfl rfl ?_
 refine ZbQ (x:=x) (y:=y) (by omega) (by omega) (fun p6 q6 hk_6_2 hk_6_3 hk_6_4 hk_6_5=> ?_)
 simp only [cn_z] at hk_6_4
 simp only [cn_z] at hk_6_5
 refine Zp9 (den:=n) (x:=cn p6) (by simp only [cn_z];omega) (by omega) (fun q10 hk_10_1 hk_10_2=> ?_)
 try simp only [cn_q] at hk_10_1
 simp only [cn_z] at hk_10_2
 refine k_up (den:=n) (x:=cn q6) (by simp only [cn_z];omega) (by omega) (fun q14 hk_14_1 hk_14_2=> ?_)
 try simp only [cn_q] at hk_14_1
 simp only [cn_z] at hk_14_2
 refine⟨by kernel_rfl,?_⟩
 refine Eq.trans (b:=pair (cn q10) (cn q14)) ?_ rfl
 subst_vars;rfl
theorem Zq3 {x y:RV} {n:Int} (hx:x.z≤268435456) (hy:y.z≤268435456) (hn:n≤9223372036854775807) (k:∀ ya yb,ya=downQ (slo x y) n→yb=upQ (shi x y) n→(cn ya).z≤x.z+100→(cn yb).z≤y.z+100→K (pair (cn ya) (cn yb))):Ask 253 [pair x y,int n] K:=use (ZjX x y n hx hy hn) rfl (k _ _ rfl rfl (by have:=Zbr x y;have:=ZcX (slo x y) n hn;rw [cn_z] at*;omega) (by have:=Zbs x y;have:=ZcX (-shi x y) n hn;have:=ZbO (shi x y);have:=ZbO (downQ (-shi x y) n);rw [cn_z] at*;show qs (-downQ (-shi x y) n)≤_;omega))
set_option maxRecDepth 100000 in
theorem ZoM  :Spec Tryz.prog Tab 254 [] (pair (cn ((-1:Int):Rat)) (cn ((1:Int):Rat))):=by
 refine Za Tryz.func254 rfl rfl Tryz.ntmps254 rfl (by kernel_rfl) rfl rfl ?_
 refine k_of (-1) (by omega) (by omega) fun q1 h1 z1=> ?_
 simp only [cn_z] at z1
 refine k_of (1) (by omega) (by omega) fun q2 h2 z2=> ?_
 simp only [cn_z] at z2
 refine Eq.trans (b:=pair (cn q1) (cn q2)) ?_ rfl
 subst_vars;rfl
theorem Zsp (k:∀ ya yb,ya=((-1:Int):Rat)→yb=((1:Int):Rat)→(cn ya).z≤8→(cn yb).z≤8→K (pair (cn ya) (cn yb))):Ask 254 [] K:=use ZoM rfl (k _ _ rfl rfl ZrZ ZiX)
set_option maxRecDepth 100000 in
theorem Zpp (x y:RV) (hx:x.z≤268435456) (hy:y.z≤268435456):Spec Tryz.prog Tab 192 [pair x y] (pair (cn (cutLo (slo x y))) (cn (cutHi (shi x y)))):=by
 refine Za Tryz.func192 rfl rfl Tryz.ntmps192 rfl (by kernel_rfl) rfl rfl ?_
 refine Zq3 (x:=x) (y:=y) (n:=1000000) (by omega) (by omega) (by omega) (fun ya4 yb4 hk_4_2 hk_4_3 hk_4_4 hk_4_5=> ?_)
 simp only [cn_z] at hk_4_4
 simp only [cn_z] at hk_4_5
 refine Zsp   (fun ya7 yb7 hk_7_2 hk_7_3 hk_7_4 hk_7_5=> ?_)
 simp only [cn_z] at hk_7_4
 simp only [cn_z] at hk_7_5
 refine Zks (x:=cn ya4) (y:=cn ya7) (by simp only [cn_z];omega) (by simp only [cn_z];omega) fun q9 h9 z9=> ?_
 simp only [cn_z] at z9
 simp only [cn_q] at h9
 refine Zsp   (fun ya12 yb12 hk_12_2 hk_12_3 hk_12_4 hk_12_5=> ?_)
 simp only [cn_z] at hk_12_4
 simp only [cn_z] at hk_12_5
 refine Zkr (x:=cn yb4) (y:=cn yb12) (by simp only [cn_z];omega) (by simp only [cn_z];omega) fun q14 h14 z14=> ?_
 simp only [cn_z] at z14
 simp only [cn_q] at h14
 refine⟨by kernel_rfl,?_⟩
 refine Eq.trans (b:=pair (cn q9) (cn q14)) ?_ rfl
 subst_vars;rfl
set_option maxRecDepth 100000 in
theorem ZkA (a b c d e f g h:RV):Spec Tryz.prog Tab 99 [loose a b c d e f g h] (box a c b d):=by
 refine Za Tryz.func99 rfl rfl Tryz.ntmps99 rfl (by kernel_rfl) rfl rfl ?_
 refine Eq.trans (b:=box a c b d) ?_ rfl
 rfl
theorem Zrc {a b c d e f g h:RV} (k:K (box a c b d)):Ask 99 [loose a b c d e f g h] K:=use (ZkA a b c d e f g h) rfl k
theorem Zb7 {p q r u:Rat} (h1:sle p q) (h2:sle r u) (hp:qs p≤268435456) (hq:qs q≤268435456) (hr:qs r≤268435456) (hu:qs u≤268435456) (k:∀ ya yb,ya=mulLo p q r u→yb=mulHi p q r u→sle ya yb→qs ya≤qs p+qs q+qs r+qs u+20→qs yb≤qs p+qs q+qs r+qs u+20→K (pair (cn ya) (cn yb))):Ask 194 [pair (cn p) (cn q),pair (cn r) (cn u)] K:=by
 refine Zsl (by rw [cn_z];omega) (by rw [cn_z];omega) (by rw [cn_z];omega) (by rw [cn_z];omega) fun ya yb ha hb z1 z2=> ?_
 simp only [Zat h1,Zau h1,Zat h2,Zau h2] at ha hb
 simp only [cn_z] at z1 z2
 exact k ya yb ha hb (by rw [ha,hb];exact Rat.le_trans (Za3 Rat.le_refl h1 Rat.le_refl h2).1 (Za3 Rat.le_refl h1 Rat.le_refl h2).2) (by omega) (by omega)
theorem ZeX {p q r u:Rat} (h1:sle p q) (h2:sle r u) (hp:qs p≤268435456) (hq:qs q≤268435456) (hr:qs r≤268435456) (hu:qs u≤268435456) (k:∀ ya yb,ya=p+r→yb=q+u→sle ya yb→qs ya≤qs p+qs q+qs r+qs u+20→qs yb≤qs p+qs q+qs r+qs u+20→K (pair (cn ya) (cn yb))):Ask 195 [pair (cn p) (cn q),pair (cn r) (cn u)] K:=by
 refine Zsm (by rw [cn_z];omega) (by rw [cn_z];omega) (by rw [cn_z];omega) (by rw [cn_z];omega) fun ya yb ha hb z1 z2=> ?_
 simp only [Zat h1,Zau h1,Zat h2,Zau h2] at ha hb
 simp only [cn_z] at z1 z2
 exact k ya yb ha hb (by rw [ha,hb];unfold sle at*;grind) (by omega) (by omega)
theorem Zp4 {p q r u:Rat} (h1:sle p q) (h2:sle r u) (hp:qs p≤268435456) (hq:qs q≤268435456) (hr:qs r≤268435456) (hu:qs u≤268435456) (k:∀ ya yb,ya=p - u→yb=q - r→sle ya yb→qs ya≤qs p+qs q+qs r+qs u+20→qs yb≤qs p+qs q+qs r+qs u+20→K (pair (cn ya) (cn yb))):Ask 193 [pair (cn p) (cn q),pair (cn r) (cn u)] K:=by
 refine Zsk (by rw [cn_z];omega) (by rw [cn_z];omega) (by rw [cn_z];omega) (by rw [cn_z];omega) fun ya yb ha hb z1 z2=> ?_
 simp only [Zat h1,Zau h1,Zat h2,Zau h2] at ha hb
 simp only [cn_z] at z1 z2
 exact k ya yb ha hb (by rw [ha,hb];unfold sle at*;grind) (by omega) (by omega)
theorem ZmV {p q r u:Rat} (h1:sle p q) (h2:sle r u) (hp:qs p≤268435456) (hq:qs q≤268435456) (hr:qs r≤268435456) (hu:qs u≤268435456) (k:∀ ya yb,ya=minQ p r→yb=maxQ q u→sle ya yb→qs ya≤qs p+qs q+qs r+qs u+20→qs yb≤qs p+qs q+qs r+qs u+20→K (pair (cn ya) (cn yb))):Ask 98 [pair (cn p) (cn q),pair (cn r) (cn u)] K:=by
 refine Zd8 (by rw [cn_z];omega) (by rw [cn_z];omega) (by rw [cn_z];omega) (by rw [cn_z];omega) fun ya yb ha hb z1 z2=> ?_
 simp only [Zat h1,Zau h1,Zat h2,Zau h2] at ha hb
 simp only [cn_z] at z1 z2
 exact k ya yb ha hb (by rw [ha,hb];unfold sle minQ maxQ at*;grind) (by omega) (by omega)
theorem Zp5 {p q:Rat} (h1:sle p q) (hp:qs p≤268435456) (hq:qs q≤268435456) (k:∀ ya yb,ya=cutLo p→yb=cutHi q→K (pair (cn ya) (cn yb))):Ask 192 [pair (cn p) (cn q)] K:=by
 have e1:slo (cn p) (cn q)=p:=Zat h1
 have e2:shi (cn p) (cn q)=q:=Zau h1
 exact use (Zpp (cn p) (cn q) (by rw [cn_z];exact hp) (by rw [cn_z];exact hq)) rfl (k _ _ (by rw [e1]) (by rw [e2]))
theorem Zsr {x y:RV} (hx:x.z≤3145760) (hy:y.z≤3145760) (k:∀ ya yb,ya=(cs3 (slo x y) (shi x y)).1→yb=(cs3 (slo x y) (shi x y)).2→sle ya yb→qs ya≤4*(x.z+y.z+8)+34→qs yb≤4*(x.z+y.z+8)+34→K (pair (cn ya) (cn yb))):Ask 190 [pair x y] K:=by
 refine Zm0 (by omega) (by omega) fun ya yb ha hb=> ?_
 have hz1:=Zbr x y
 have hz2:=Zbs x y
 rw [cn_z] at hz1 hz2
 obtain⟨z1,z2⟩:=Zrn (l:=slo x y) (h:=shi x y) (B:=x.z+y.z+8) (by omega) (by omega) (by omega)
 have e:=Zrp (ZeI x y)
 have ha:ya=(cs3 (slo x y) (shi x y)).1:=by rw [← e];exact ha
 have hb:yb=(cs3 (slo x y) (shi x y)).2:=by rw [← e];exact hb
 have hle:sle (cs3 (slo x y) (shi x y)).1 (cs3 (slo x y) (shi x y)).2:=Rat.le_trans (Zjv _ _).1 (Zjv _ _).2
 exact k ya yb ha hb (by rw [ha,hb];exact hle) (by rw [ha];exact z1) (by rw [hb];exact z2)
theorem Zsq {x y:RV} (hx:x.z≤3145760) (hy:y.z≤3145760) (k:∀ ya yb,ya=(sn3 (slo x y) (shi x y)).1→yb=(sn3 (slo x y) (shi x y)).2→sle ya yb→qs ya≤4*(x.z+y.z+8)+34→qs yb≤4*(x.z+y.z+8)+34→K (pair (cn ya) (cn yb))):Ask 191 [pair x y] K:=by
 refine ZmO (by omega) (by omega) fun ya yb ha hb=> ?_
 have hz1:=Zbr x y
 have hz2:=Zbs x y
 rw [cn_z] at hz1 hz2
 obtain⟨z1,z2⟩:=Zqw (l:=slo x y) (h:=shi x y) (B:=x.z+y.z+8) (by omega) (by omega) (by omega)
 have e:=Zqy (ZeI x y)
 rw [e] at ha hb
 have hle:sle (sn3 (slo x y) (shi x y)).1 (sn3 (slo x y) (shi x y)).2:=Rat.le_trans (ZiK _ _).1 (ZiK _ _).2
 exact k ya yb ha hb (by rw [ha,hb];exact hle) (by rw [ha];exact z1) (by rw [hb];exact z2)
set_option maxHeartbeats 4000000 in
set_option maxRecDepth 100000 in
theorem Zio (A:ArmV) (Q:List (RV×RV)) (hA:A.ok) (hQ:∀ p,p∈Q→p.1.z≤3145760∧p.2.z≤3145760):Spec Tryz.prog Tab 96 [.val (.agg [.d (.v (.string A.name)),.d (.v (.bool A.bx.s)),.d (.v (.string A.bx.a)),.d (.v (.string A.bx.d)),.d (.v (.bool A.by'.s)),.d (.v (.string A.by'.a)),.d (.v (.string A.by'.d)),.d (.v (.bool (A.bh))),.d (.v (.bool A.bt.s)),.d (.v (.string A.bt.a)),.d (.v (.string A.bt.d)),.d (.list (List.map lk A.links))]),.val (.one (.d (.list (List.map rdv Q))))] (.tup [.one (.d (.list (List.map rdL (spreadV A Q)))),.one (.d (.v (.int .i64 (hasE A (Q.length:Int)))))]):=by
 have hA2:=hA
 obtain⟨z1,z2,z3,z4,z5,z6⟩:=hA
 have hL:(List.map lk A.links).length=A.links.length:=List.length_map ..
 have hLq:(List.map rdv Q).length=Q.length:=List.length_map ..
 refine Za Tryz.func96 rfl rfl Tryz.ntmps96 rfl (by kernel_rfl) rfl rfl ?_
 refine Zqb (A:=A) (n:=((List.map rdv Q).length:Int)) (by assumption) fun n19 hk_19_1=> ?_
 rw [List.length_map] at hk_19_1
 refine⟨fun e1=> ?_,fun e1=> ?_⟩
 ·have f21:n19≠0:=ZaF e1
  refine Eq.trans (b:= .tup [.one (.d (.list ([]))),.one (.d (.v (.int .i64 (n19))))]) ?_ rfl
  rw [ZjS (by rw [← hk_19_1];exact f21),← hk_19_1]
  all_goals rfl
 ·have f21:¬ (n19≠0):=fun hh=>hh (ZaG e1)
  have h0:hasE A (Q.length:Int)=0:=by rw [← hk_19_1];exact Classical.not_not.1 f21
  obtain⟨hA0,hlen0⟩:=ZaY.1 h0
  have hlen:Q.length=A.links.length:=by omega
  obtain⟨hn3,hnz,hsb1,hsb2,hsb3,_⟩:=ZaB hA0
  have hb1:=ZK hsb1
  have hb2:=ZK hsb2
  have hb3:=ZK hsb3
  refine Zc5 (x:=A.bx) (by omega) (fun q28 hk_28_1 hk_28_2=> ?_)
  simp only [cn_z] at hk_28_2
  refine Zc5 (x:=A.by') (by omega) (fun q32 hk_32_1 hk_32_2=> ?_)
  simp only [cn_z] at hk_32_2
  refine Zsj (h:=A.bh) (x:=A.bt) (by omega) (fun q35 hk_35_1 hk_35_2=> ?_)
  simp only [cn_z] at hk_35_2
  refine Zc5 (x:=cn q35) (by simp only [cn_z];omega) (fun q36 hk_36_1 hk_36_2=> ?_)
  try simp only [cn_q] at hk_36_1
  simp only [cn_z] at hk_36_2
  refine ZmM (h:=A.bh) (x:=A.bt) (by omega) (fun q39 hk_39_1 hk_39_2=> ?_)
  simp only [cn_z] at hk_39_2
  refine Zc5 (x:=cn q39) (by simp only [cn_z];omega) (fun q40 hk_40_1 hk_40_2=> ?_)
  try simp only [cn_q] at hk_40_1
  simp only [cn_z] at hk_40_2
  refine⟨by kernel_rfl,?_⟩
  have b28:q28=(endL A Q 0).xl:=hk_28_1
  have b32:q32=(endL A Q 0).yl:=hk_32_1
  have b36:q36=(endL A Q 0).cl:=hk_36_1.trans hk_35_1
  have b40:q40=(endL A Q 0).sl:=hk_40_1.trans hk_39_1
  refine⟨Nat,fun i=> [(1,.val (.one (.d (.list (List.map rdv Q))))),(8,.val (.one (.ptr 8 0))),(9,.val (.one (.row 86 0))),(43,.val (.one (.d (.list (List.map lk A.links))))),(44,int ((List.map lk A.links).length:Int)),(45,int (i:Int))],
   fun i=> [(8,.var 163 [.d (.v (.bool (cn (endL A Q i).xl).s)),.d (.v (.string (cn (endL A Q i).xl).a)),.d (.v (.string (cn (endL A Q i).xl).d)),.d (.v (.bool (cn (endL A Q i).xh).s)),.d (.v (.string (cn (endL A Q i).xh).a)),.d (.v (.string (cn (endL A Q i).xh).d)),.d (.v (.bool (cn (endL A Q i).yl).s)),.d (.v (.string (cn (endL A Q i).yl).a)),.d (.v (.string (cn (endL A Q i).yl).d)),.d (.v (.bool (cn (endL A Q i).yh).s)),.d (.v (.string (cn (endL A Q i).yh).a)),.d (.v (.string (cn (endL A Q i).yh).d)),.d (.v (.bool (cn (endL A Q i).cl).s)),.d (.v (.string (cn (endL A Q i).cl).a)),.d (.v (.string (cn (endL A Q i).cl).d)),.d (.v (.bool (cn (endL A Q i).ch).s)),.d (.v (.string (cn (endL A Q i).ch).a)),.d (.v (.string (cn (endL A Q i).ch).d)),.d (.v (.bool (cn (endL A Q i).sl).s)),.d (.v (.string (cn (endL A Q i).sl).a)),.d (.v (.string (cn (endL A Q i).sl).d)),.d (.v (.bool (cn (endL A Q i).sh).s)),.d (.v (.string (cn (endL A Q i).sh).a)),.d (.v (.string (cn (endL A Q i).sh).d))]),(86,.row 163 24 0 (List.map rdL (linksL A Q i)) true)],fun i=>i≤A.links.length,fun i=>A.links.length - i,0,?_,Nat.zero_le _,fun i hs=> ?_⟩
  ·constructor<;>(repeat' (first|exact rfl|exact True.intro|exact⟨_,_,rfl⟩|exact(by decide)|apply And.intro))
   all_goals first
    |exact congrArg (fun q:Rat=>D.v (.bool (cn q).s)) b28
    |exact congrArg (fun q:Rat=>D.v (.bool (cn q).s)) b28.symm
    |exact congrArg (fun q:Rat=>D.v (.string (cn q).a)) b28
    |exact congrArg (fun q:Rat=>D.v (.string (cn q).a)) b28.symm
    |exact congrArg (fun q:Rat=>D.v (.string (cn q).d)) b28
    |exact congrArg (fun q:Rat=>D.v (.string (cn q).d)) b28.symm
    |exact congrArg (fun q:Rat=>D.v (.bool (cn q).s)) b32
    |exact congrArg (fun q:Rat=>D.v (.bool (cn q).s)) b32.symm
    |exact congrArg (fun q:Rat=>D.v (.string (cn q).a)) b32
    |exact congrArg (fun q:Rat=>D.v (.string (cn q).a)) b32.symm
    |exact congrArg (fun q:Rat=>D.v (.string (cn q).d)) b32
    |exact congrArg (fun q:Rat=>D.v (.string (cn q).d)) b32.symm
    |exact congrArg (fun q:Rat=>D.v (.bool (cn q).s)) b36
    |exact congrArg (fun q:Rat=>D.v (.bool (cn q).s)) b36.symm
    |exact congrArg (fun q:Rat=>D.v (.string (cn q).a)) b36
    |exact congrArg (fun q:Rat=>D.v (.string (cn q).a)) b36.symm
    |exact congrArg (fun q:Rat=>D.v (.string (cn q).d)) b36
    |exact congrArg (fun q:Rat=>D.v (.string (cn q).d)) b36.symm
    |exact congrArg (fun q:Rat=>D.v (.bool (cn q).s)) b40
    |exact congrArg (fun q:Rat=>D.v (.bool (cn q).s)) b40.symm
    |exact congrArg (fun q:Rat=>D.v (.string (cn q).a)) b40
    |exact congrArg (fun q:Rat=>D.v (.string (cn q).a)) b40.symm
    |exact congrArg (fun q:Rat=>D.v (.string (cn q).d)) b40
    |exact congrArg (fun q:Rat=>D.v (.string (cn q).d)) b40.symm
    |exact congrArg (fun n:Int=>D.v (.int .i64 n)) (by omega)
    |(simp;done)
  obtain⟨⟨zc1,zc2⟩,zc3,zc4⟩:=Znk hA0 Q i
  obtain⟨⟨zx1,zx2⟩,zx3,zx4⟩:=ZfV hA0 Q i
  obtain⟨ol1,ol2,ol3,ol4⟩:=LF.has_le (ZcN A Q i)
  obtain⟨⟨zl1,zl2⟩,zl3,zl4⟩:=ZbB A Q i
  obtain⟨ol7,ol8,ol9,ol10⟩:=LF.has_le (ZcB A Q i)
  have hT:(List.map rdL (linksL A Q i)).length≤3:=by rw [List.length_map,ZeT];omega
  refine⟨fun e2=> ?_,fun e2=> ?_⟩
  ·have f46:(i:Int)< ((List.map lk A.links).length:Int):=of_decide_eq_true e2
   refine Zx (l:=A.links) (i:=i) (by first|omega|exact Nat.mod_lt _ (by omega)) fun x48 hx48=> ?_
   obtain⟨hs1,hs2,hs3,hs4,hs5,hs6,hs7⟩:=z6 x48 (List.mem_of_getElem? hx48)
   have hlx48:=Zi9 hx48
   have hsmx48:=ZK (ZaR hA0 (List.mem_of_getElem? hx48)).1
   refine k_ix i [D.v (.bool x48.len.s),D.v (.string x48.len.a),D.v (.string x48.len.d),D.v (.bool x48.low.s),D.v (.string x48.low.a),D.v (.string x48.low.d),D.v (.bool x48.high.s),D.v (.string x48.high.a),D.v (.string x48.high.d),D.v (.bool x48.speed.s),D.v (.string x48.speed.a),D.v (.string x48.speed.d),D.v (.bool x48.brake.s),D.v (.string x48.brake.a),D.v (.string x48.brake.d),D.list (List.map rdv x48.shape)] (by first|rfl|omega|(rw [wrap64 _ (by omega) (by omega)];omega)) (Ze hx48) rfl ?_
   refine Zx (l:=Q) (i:=i) (by first|omega|exact Nat.mod_lt _ (by omega)) fun x52 hx52=> ?_
   obtain⟨hzx52,hyx52⟩:=hQ x52 (List.mem_of_getElem? hx52)
   have hqx52:=Zlt hx52
   refine k_ix i [D.v (.bool x52.1.s),D.v (.string x52.1.a),D.v (.string x52.1.d),D.v (.bool x52.2.s),D.v (.string x52.2.a),D.v (.string x52.2.d)] (by first|rfl|omega|(rw [wrap64 _ (by omega) (by omega)];omega)) (Ze hx52) rfl ?_
   refine Zsr (x:=x52.1) (y:=x52.2) (by omega) (by omega) (fun ya54 yb54 hk_54_2 hk_54_3 hk_54_4 hk_54_5 hk_54_6=> ?_)
   refine k_ix i [D.v (.bool x52.1.s),D.v (.string x52.1.a),D.v (.string x52.1.d),D.v (.bool x52.2.s),D.v (.string x52.2.a),D.v (.string x52.2.d)] (by first|rfl|omega|(rw [wrap64 _ (by omega) (by omega)];omega)) (Ze hx52) rfl ?_
   refine Zsq (x:=x52.1) (y:=x52.2) (by omega) (by omega) (fun ya59 yb59 hk_59_2 hk_59_3 hk_59_4 hk_59_5 hk_59_6=> ?_)
   refine⟨by kernel_rfl,?_⟩
   refine Zb7 (p:=(endL A Q i).cl) (q:=(endL A Q i).ch) (r:=ya54) (u:=yb54) (by assumption) (by assumption) (by omega) (by omega) (by omega) (by omega) (fun ya64 yb64 hk_64_2 hk_64_3 hk_64_4 hk_64_5 hk_64_6=> ?_)
   refine Zb7 (p:=(endL A Q i).sl) (q:=(endL A Q i).sh) (r:=ya59) (u:=yb59) (by assumption) (by assumption) (by omega) (by omega) (by omega) (by omega) (fun ya68 yb68 hk_68_2 hk_68_3 hk_68_4 hk_68_5 hk_68_6=> ?_)
   refine Zp4 (p:=ya64) (q:=yb64) (r:=ya68) (u:=yb68) (by assumption) (by assumption) (by omega) (by omega) (by omega) (by omega) (fun ya69 yb69 hk_69_2 hk_69_3 hk_69_4 hk_69_5 hk_69_6=> ?_)
   refine Zp5 (p:=ya69) (q:=yb69) (by assumption) (by omega) (by omega) (fun ya70 yb70 hk_70_2 hk_70_3=> ?_)
   refine⟨by kernel_rfl,?_⟩
   refine Zb7 (p:=(endL A Q i).sl) (q:=(endL A Q i).sh) (r:=ya54) (u:=yb54) (by assumption) (by assumption) (by omega) (by omega) (by omega) (by omega) (fun ya75 yb75 hk_75_2 hk_75_3 hk_75_4 hk_75_5 hk_75_6=> ?_)
   refine Zb7 (p:=(endL A Q i).cl) (q:=(endL A Q i).ch) (r:=ya59) (u:=yb59) (by assumption) (by assumption) (by omega) (by omega) (by omega) (by omega) (fun ya79 yb79 hk_79_2 hk_79_3 hk_79_4 hk_79_5 hk_79_6=> ?_)
   refine ZeX (p:=ya75) (q:=yb75) (r:=ya79) (u:=yb79) (by assumption) (by assumption) (by omega) (by omega) (by omega) (by omega) (fun ya80 yb80 hk_80_2 hk_80_3 hk_80_4 hk_80_5 hk_80_6=> ?_)
   refine Zp5 (p:=ya80) (q:=yb80) (by assumption) (by omega) (by omega) (fun ya81 yb81 hk_81_2 hk_81_3=> ?_)
   have e70:ya70=(linkL A Q i).cl:=by rw [hk_70_2,hk_69_2,hk_64_2,hk_68_3,hk_54_2,hk_54_3,hk_59_2,hk_59_3,← hqx52.1,← hqx52.2];rfl
   have f70:yb70=(linkL A Q i).ch:=by rw [hk_70_3,hk_69_3,hk_64_3,hk_68_2,hk_54_2,hk_54_3,hk_59_2,hk_59_3,← hqx52.1,← hqx52.2];rfl
   have e81:ya81=(linkL A Q i).sl:=by rw [hk_81_2,hk_80_2,hk_75_2,hk_79_2,hk_54_2,hk_54_3,hk_59_2,hk_59_3,← hqx52.1,← hqx52.2];rfl
   have f81:yb81=(linkL A Q i).sh:=by rw [hk_81_3,hk_80_3,hk_75_3,hk_79_3,hk_54_2,hk_54_3,hk_59_2,hk_59_3,← hqx52.1,← hqx52.2];rfl
   have ol5:sle ya70 yb70:=by rw [e70,f70];exact ol9
   have ol6:sle ya81 yb81:=by rw [e81,f81];exact ol10
   have zl5:qs ya70≤3:=by rw [e70];exact zl1
   have zl6:qs yb70≤3:=by rw [f70];exact zl2
   have zl7:qs ya81≤3:=by rw [e81];exact zl3
   have zl8:qs yb81≤3:=by rw [f81];exact zl4
   refine⟨by kernel_rfl,?_⟩
   refine⟨⟨row1 rfl,(by show ((List.map rdL (linksL A Q i)).length+1)*320≤_;omega),(by show ((List.map rdL (linksL A Q i)).length+1)≤_;omega)⟩,?_⟩
   refine Zc5 (x:=x48.len) (by omega) (fun q89 hk_89_1 hk_89_2=> ?_)
   simp only [cn_z] at hk_89_2
   have hs89:sle q89 q89:=Rat.le_refl
   refine Zb7 (p:=q89) (q:=q89) (r:=ya70) (u:=yb70) (by assumption) (by assumption) (by omega) (by omega) (by omega) (by omega) (fun ya95 yb95 hk_95_2 hk_95_3 hk_95_4 hk_95_5 hk_95_6=> ?_)
   refine ZeX (p:=(endL A Q i).xl) (q:=(endL A Q i).xh) (r:=ya95) (u:=yb95) (by assumption) (by assumption) (by omega) (by omega) (by omega) (by omega) (fun ya96 yb96 hk_96_2 hk_96_3 hk_96_4 hk_96_5 hk_96_6=> ?_)
   refine⟨by kernel_rfl,?_⟩
   refine Zb7 (p:=q89) (q:=q89) (r:=ya81) (u:=yb81) (by assumption) (by assumption) (by omega) (by omega) (by omega) (by omega) (fun ya103 yb103 hk_103_2 hk_103_3 hk_103_4 hk_103_5 hk_103_6=> ?_)
   refine ZeX (p:=(endL A Q i).yl) (q:=(endL A Q i).yh) (r:=ya103) (u:=yb103) (by assumption) (by assumption) (by omega) (by omega) (by omega) (by omega) (fun ya104 yb104 hk_104_2 hk_104_3 hk_104_4 hk_104_5 hk_104_6=> ?_)
   refine⟨by kernel_rfl,?_⟩
   have hl:q89=lenAt A i:=hk_89_1.trans hlx48.symm
   have ex:ya96=(endL A Q (i+1)).xl:=by rw [hk_96_2,hk_95_2,hl,e70,f70];rfl
   have ex2:yb96=(endL A Q (i+1)).xh:=by rw [hk_96_3,hk_95_3,hl,e70,f70];rfl
   have ey:ya104=(endL A Q (i+1)).yl:=by rw [hk_104_2,hk_103_2,hl,e81,f81];rfl
   have ey2:yb104=(endL A Q (i+1)).yh:=by rw [hk_104_3,hk_103_3,hl,e81,f81];rfl
   subst ex ex2 ey ey2 e70 f70 e81 f81
   refine⟨i+1,by omega,by simp only;omega,?_⟩
   constructor<;>(repeat' (first|exact rfl|exact True.intro|apply And.intro))
   all_goals first
    |(rw [Zd5];rfl)
    |exact congrArg (fun n:Int=>D.v (.int .i64 n)) (by rw [wrap64 _ (by omega) (by omega)];omega)
    |exact congrArg (fun n:Int=>D.v (.int .i64 n)) (by omega)
  ·have f46:¬ ((i:Int)< ((List.map lk A.links).length:Int)):=of_decide_eq_false e2
   refine⟨⟨row1 rfl,(by show ((List.map rdL (linksL A Q i)).length+1)*320≤_;omega),(by show ((List.map rdL (linksL A Q i)).length+1)≤_;omega)⟩,?_⟩
   refine Eq.trans (b:= .tup [.one (.d (.list (List.map rdL (linksL A Q i)++ [[D.v (.bool (cn (endL A Q i).xl).s),D.v (.string (cn (endL A Q i).xl).a),D.v (.string (cn (endL A Q i).xl).d),D.v (.bool (cn (endL A Q i).xh).s),D.v (.string (cn (endL A Q i).xh).a),D.v (.string (cn (endL A Q i).xh).d),D.v (.bool (cn (endL A Q i).yl).s),D.v (.string (cn (endL A Q i).yl).a),D.v (.string (cn (endL A Q i).yl).d),D.v (.bool (cn (endL A Q i).yh).s),D.v (.string (cn (endL A Q i).yh).a),D.v (.string (cn (endL A Q i).yh).d),D.v (.bool (cn (endL A Q i).cl).s),D.v (.string (cn (endL A Q i).cl).a),D.v (.string (cn (endL A Q i).cl).d),D.v (.bool (cn (endL A Q i).ch).s),D.v (.string (cn (endL A Q i).ch).a),D.v (.string (cn (endL A Q i).ch).d),D.v (.bool (cn (endL A Q i).sl).s),D.v (.string (cn (endL A Q i).sl).a),D.v (.string (cn (endL A Q i).sl).d),D.v (.bool (cn (endL A Q i).sh).s),D.v (.string (cn (endL A Q i).sh).a),D.v (.string (cn (endL A Q i).sh).d)]]))),.one (.d (.v (.int .i64 (0))))]) ?_ rfl
   obtain rfl:i=A.links.length:=by omega
   rw [ZbU h0,h0,spreadL,List.map_append]
   all_goals rfl
theorem Zpb {A:ArmV} {Q:List (RV×RV)} (hA:A.ok) (hQ:∀ p,p∈Q→p.1.z≤3145760∧p.2.z≤3145760) (k:∀ n,n=hasE A (Q.length:Int)→K (.tup [.one (.d (.list (List.map rdL (spreadV A Q)))),.one (.d (.v (.int .i64 n)))])):Ask 96 [.val (.agg [.d (.v (.string A.name)),.d (.v (.bool A.bx.s)),.d (.v (.string A.bx.a)),.d (.v (.string A.bx.d)),.d (.v (.bool A.by'.s)),.d (.v (.string A.by'.a)),.d (.v (.string A.by'.d)),.d (.v (.bool (A.bh))),.d (.v (.bool A.bt.s)),.d (.v (.string A.bt.a)),.d (.v (.string A.bt.d)),.d (.list (List.map lk A.links))]),.val (.one (.d (.list (List.map rdv Q))))] K:=use (Zio A Q hA hQ) rfl (k _ rfl)
end
end Go.Proofs.YtpejadencgfnnaaGreatDoor.eng
namespace Go.Proofs.YtpejadencgfnnaaGreatDoor.eng
open Go.RowKit num mem seg q held ratA ratB ratC ratD ratE vars ratF trq
section
variable {K : AV → Prop}
set_option maxRecDepth 100000 in
theorem ZnU (q:Rat):Spec Tryz.prog Tab 102 [q3 q] (q3p q q):=by
 refine Za Tryz.func102 rfl rfl Tryz.ntmps102 rfl (by kernel_rfl) rfl rfl ?_
 refine Eq.trans (b:=q3p q q) ?_ rfl
 rfl
theorem ZaM {q:Rat} (k:K (q3p q q)):Ask 102 [q3 q] K:=use (ZnU q) rfl k
set_option maxRecDepth 100000 in
theorem ZkR  (p q r u:Rat) (hp:qs p≤536870912) (hq:qs q≤536870912) (hr:qs r≤536870912) (hu:qs u≤536870912):Spec Tryz.prog Tab 103 [q3p p q,q3p r u] (q3p (p+r) (q+u)):=by
 refine Za Tryz.func103 rfl rfl Tryz.ntmps103 rfl (by kernel_rfl) rfl rfl ?_
 refine Zg2 (p:=p) (q:=r) (by omega) (by omega) fun q9 h9 z9=> ?_
 refine Zg2 (p:=q) (q:=u) (by omega) (by omega) fun q14 h14 z14=> ?_
 refine⟨by kernel_rfl,?_⟩
 refine Eq.trans (b:=q3p q9 q14) ?_ rfl
 subst_vars;rfl
section
variable  {p q r u : Rat}
theorem ZbC (hp:qs p≤536870912) (hq:qs q≤536870912) (hr:qs r≤536870912) (hu:qs u≤536870912) (k:∀ ya yb,ya=p+r→yb=q+u→qs ya≤qs p+qs r+1→qs yb≤qs q+qs u+1→K (q3p ya yb)):Ask 103 [q3p p q,q3p r u] K:=
 use (ZkR  p q r u hp hq hr hu) rfl (k _ _ rfl rfl (by have:=ZL p r;omega) (by have:=ZL q u;omega))
end
set_option maxRecDepth 100000 in
theorem ZkN  (p q r u:Rat) (hp:qs p≤536870912) (hq:qs q≤536870912) (hr:qs r≤536870912) (hu:qs u≤536870912):Spec Tryz.prog Tab 105 [q3p p q,q3p r u] (q3p (p - u) (q - r)):=by
 refine Za Tryz.func105 rfl rfl Tryz.ntmps105 rfl (by kernel_rfl) rfl rfl ?_
 refine Zdn (p:=p) (q:=u) (by omega) (by omega) fun q9 h9 z9=> ?_
 refine Zdn (p:=q) (q:=r) (by omega) (by omega) fun q14 h14 z14=> ?_
 refine⟨by kernel_rfl,?_⟩
 refine Eq.trans (b:=q3p q9 q14) ?_ rfl
 subst_vars;rfl
section
variable  {p q r u : Rat}
theorem Zh2 (hp:qs p≤536870912) (hq:qs q≤536870912) (hr:qs r≤536870912) (hu:qs u≤536870912) (k:∀ ya yb,ya=p - u→yb=q - r→qs ya≤qs p+qs u+1→qs yb≤qs q+qs r+1→K (q3p ya yb)):Ask 105 [q3p p q,q3p r u] K:=
 use (ZkN  p q r u hp hq hr hu) rfl (k _ _ rfl rfl (by have:=Zaf p u;omega) (by have:=Zaf q r;omega))
end
set_option maxRecDepth 100000 in
theorem ZkO  (p q r u:Rat) (hp:qs p≤134217728) (hq:qs q≤134217728) (hr:qs r≤134217728) (hu:qs u≤134217728):Spec Tryz.prog Tab 104 [q3p p q,q3p r u] (q3p (mulLo p q r u) (mulHi p q r u)):=by
 refine Za Tryz.func104 rfl rfl Tryz.ntmps104 rfl (by kernel_rfl) rfl rfl ?_
 refine ZbH (p:=p) (q:=r) (by omega) (by omega) fun q13 h13 z13=> ?_
 refine ZbH (p:=p) (q:=u) (by omega) (by omega) fun q18 h18 z18=> ?_
 refine ZbH (p:=q) (q:=r) (by omega) (by omega) fun q23 h23 z23=> ?_
 refine ZbH (p:=q) (q:=u) (by omega) (by omega) fun q28 h28 z28=> ?_
 refine⟨by kernel_rfl,?_⟩
 refine Z1 (p:=q13) (q:=q18) (by omega) (by omega) fun q31 h31 z31=> ?_
 refine Z1 (p:=q23) (q:=q28) (by omega) (by omega) fun q34 h34 z34=> ?_
 refine Z1 (p:=q31) (q:=q34) (by omega) (by omega) fun q35 h35 z35=> ?_
 refine Zay (p:=q13) (q:=q18) (by omega) (by omega) fun q38 h38 z38=> ?_
 refine Zay (p:=q23) (q:=q28) (by omega) (by omega) fun q41 h41 z41=> ?_
 refine Zay (p:=q38) (q:=q41) (by omega) (by omega) fun q42 h42 z42=> ?_
 refine⟨by kernel_rfl,?_⟩
 refine Eq.trans (b:=q3p q35 q42) ?_ rfl
 rw [← ZqP,← ZqQ]
 subst_vars;rfl
section
variable  {p q r u : Rat}
theorem Zao (hp:qs p≤134217728) (hq:qs q≤134217728) (hr:qs r≤134217728) (hu:qs u≤134217728) (k:∀ ya yb,ya=mulLo p q r u→yb=mulHi p q r u→qs ya≤qs p+qs q+qs r+qs u+0→qs yb≤qs p+qs q+qs r+qs u+0→K (q3p ya yb)):Ask 104 [q3p p q,q3p r u] K:=
 use (ZkO  p q r u hp hq hr hu) rfl (k _ _ rfl rfl (by have hm1:=(ZeS p q r u).1;omega) (by have hm2:=(ZeS p q r u).2;omega))
end
theorem k_addN3' (a b:Nat) {vb:List (List D)} (hv:vb=W (w32 b)) (ha:wlen 4 a≤549755813888) (hb:wlen 4 b≤549755813888) (k:K (n3 (a+b))):Ask 159 [n3 a,.val (.one (.d (.list vb)))] K:=by
 subst hv;exact Zh1 ha hb k
set_option maxRecDepth 100000 in
theorem ZkD (q:Rat) (hq:qs q≤4294967296):Spec Tryz.prog Tab 129 [q3 q] (q3 ((q.floor:Int):Rat)):=by
 have h1:=Zdf q
 have h2:=Zdg q
 have hone:wlen 4 1≤1:=by rw [← Zf,ZaJ];decide
 have hdiv:wlen 4 (q.num.natAbs / q.den)≤qs q:=ZX (Nat.div_le_self _ _) h1
 have hup:wlen 4 (q.num.natAbs / q.den+1)≤8589934592:=by
  have h3:=Zfk true q.num.natAbs q.den
  have h4:=ZjG (q.num.natAbs / q.den+1)
  have h5:(enc (q.num.natAbs / q.den+1)).size≤qs q+2:=by
   by_cases hr:q.num.natAbs % q.den=0
   ·have h6:q.num.natAbs / q.den+1≤q.num.natAbs+1:=by have:=Nat.div_le_self q.num.natAbs q.den;omega
    have h7:=(Zj8 q).1
    exact Zg.2 (by rw [show (256:Nat) ^ (qs q+2)=256 ^ qs q*65536 from by rw [Nat.pow_add]];omega)
   ·rw [upN,if_pos ⟨rfl,hr⟩] at h3
    have:(enc q.num.natAbs).size≤qs q:=by unfold qs;omega
    omega
  omega
 have hn3:=Zah (q.num.natAbs % q.den)
 refine Za Tryz.func129 rfl rfl Tryz.ntmps129 rfl (by kernel_rfl) rfl rfl ?_
 refine Zc6 (a:=q.num.natAbs) (b:=q.den) q.den_pos (by omega) (by omega) ?_
 refine fork (fun e1=> ?_) (fun e1=> ?_)
 ·refine⟨fun e2=> ?_,fun e2=> ?_⟩
  ·have hr:¬ q.num.natAbs % q.den=0:=by
    intro h
    have h3:=of_decide_eq_true e2
    rw [hn3,(ZG _).2 h] at h3
    exact absurd h3 (by decide)
   refine k_addN3' (q.num.natAbs / q.den) 1 (by rw [ZaJ];rfl) (by omega) (by omega) ?_
   refine Zbe (q.num.natAbs / q.den+1) 1 (by rw [ZaJ];rfl) Nat.one_pos hup (by omega) ?_
   refine Eq.trans (b:=q3 (mkRat (sg (decide (q.num< 0)) (q.num.natAbs / q.den+1)) 1)) ?_ rfl
   rw [← ZcL,upN,if_pos ⟨e1,hr⟩]
  ·have hr:q.num.natAbs % q.den=0:=by
    have h3:=of_decide_eq_false e2
    rw [hn3] at h3
    exact(ZG _).1 (by omega)
   refine Zbe (q.num.natAbs / q.den) 1 (by rw [ZaJ];rfl) Nat.one_pos (by omega) (by omega) ?_
   refine Eq.trans (b:=q3 (mkRat (sg (decide (q.num< 0)) (q.num.natAbs / q.den)) 1)) ?_ rfl
   rw [← ZcL,upN,if_neg (fun h=>h.2 hr)]
 ·refine⟨fun e=>absurd e (by decide),fun _=> ?_⟩
  refine Zbe (q.num.natAbs / q.den) 1 (by rw [ZaJ];rfl) Nat.one_pos (by omega) (by omega) ?_
  refine Eq.trans (b:=q3 (mkRat (sg (decide (q.num< 0)) (q.num.natAbs / q.den)) 1)) ?_ rfl
  rw [← ZcL,upN,if_neg (fun h=>by rw [e1] at h;exact absurd h.1 (by decide))]
theorem ZmZ {q:Rat} (hq:qs q≤4294967296) (k:∀ ya,ya=((q.floor:Int):Rat)→qs ya≤qs q+2→K (q3 ya)):Ask 129 [q3 q] K:=use (ZkD q hq) rfl (k _ rfl (Zfy q))
set_option maxRecDepth 100000 in
theorem ZkQ (p q:Rat) (hp:qs p≤268435456) (hq:qs q≤268435456):Spec Tryz.prog Tab 201 [q3p p q] (q3p (cutLo p) (cutHi q)):=by
 refine Za Tryz.func201 rfl rfl Tryz.ntmps201 rfl (by kernel_rfl) rfl rfl ?_
 refine k_N3 (1000000) (by omega) (by omega) fun q6 h6 z6=> ?_
 refine ZbH (p:=p) (q:=q6) (by omega) (by omega) fun q10 h10 z10=> ?_
 refine ZmZ (q:=q10) (by omega) (fun ya11 hk_11_1 hk_11_2=> ?_)
 refine Zg0 (p:=ya11) (q:=q6) (by omega) (by omega) (by subst_vars;exact ZhV) fun q13 h13 z13=> ?_
 refine⟨by kernel_rfl,?_⟩
 refine Zm5 (q:=q)  fun q16 h16 z16=> ?_
 refine ZbH (p:=q16) (q:=q6) (by omega) (by omega) fun q18 h18 z18=> ?_
 refine ZmZ (q:=q18) (by omega) (fun ya19 hk_19_1 hk_19_2=> ?_)
 refine Zg0 (p:=ya19) (q:=q6) (by omega) (by omega) (by subst_vars;exact ZhV) fun q21 h21 z21=> ?_
 refine Zm5 (q:=q21)  fun q22 h22 z22=> ?_
 refine⟨by kernel_rfl,?_⟩
 refine k_N3 (-1) (by omega) (by omega) fun q24 h24 z24=> ?_
 refine Zay (p:=q13) (q:=q24) (by omega) (by omega) fun q25 h25 z25=> ?_
 refine k_N3 (1) (by omega) (by omega) fun q27 h27 z27=> ?_
 refine Z1 (p:=q22) (q:=q27) (by omega) (by omega) fun q28 h28 z28=> ?_
 refine⟨by kernel_rfl,?_⟩
 refine Eq.trans (b:=q3p q25 q28) ?_ rfl
 rw [show cutLo p=q25 from by rw [h25,h13,hk_11_1,h10,h24,h6,cutLo,Zda];rfl,show cutHi q=q28 from by rw [h28,h22,h21,hk_19_1,h18,h16,h27,h6,cutHi,upQ,Zda];rfl]
theorem Zm3 {p q:Rat} (hp:qs p≤268435456) (hq:qs q≤268435456) (k:∀ ya yb,ya=cutLo p→yb=cutHi q→qs ya≤qs p+60→qs yb≤qs q+60→K (q3p ya yb)):Ask 201 [q3p p q] K:=use (ZkQ p q hp hq) rfl (k _ _ rfl rfl (Zqf p).1 (Zqf q).2)
set_option maxRecDepth 100000 in
theorem ZkS (x y:RV) (hx:x.z≤268435456) (hy:y.z≤268435456):Spec Tryz.prog Tab 200 [pair x y] (q3p (slo x y) (shi x y)):=by
 refine Za Tryz.func200 rfl rfl Tryz.ntmps200 rfl (by kernel_rfl) rfl rfl ?_
 refine Zy (x:=x) (by omega) fun q7 h7 z7=> ?_
 refine Zy (x:=y) (by omega) fun q10 h10 z10=> ?_
 refine⟨by kernel_rfl,?_⟩
 refine ZcH (x:=x) (by omega) (fun f13=> ?_) (fun f13=> ?_)
 ·refine ZcH (x:=y) (by omega) (fun f18=> ?_) (fun f18=> ?_)
  ·refine Zeb (p:=q7) (q:=q10) (by omega) (by omega) fun n24 h24=> ?_
   refine⟨fun e1=> ?_,fun e1=> ?_⟩
   ·have f26:q10< q7:=(ZsN h24).1 (of_decide_eq_true e1)
    refine k_N3 (0) (by omega) (by omega) fun q27 h27 z27=> ?_
    refine ZaM (q:=q27)  ?_
    refine Eq.trans (b:=q3p q27 q27) ?_ rfl
    have hng:¬ sgd x y:=fun hh=>absurd hh.2.2 (Rat.not_le.2 (by rw [← h7,← h10];exact f26))
    rw [Zoj hng,Zom hng,← h27]
   ·have f26:¬ (q10< q7):=fun hh=>of_decide_eq_false e1 ((ZsN h24).2 hh)
    refine Eq.trans (b:=q3p q7 q10) ?_ rfl
    have hg:sgd x y:=⟨f13,f18,by rw [← h7,← h10];exact Rat.not_lt.1 f26⟩
    rw [show slo x y=q7 from by rw [slo,if_pos hg,h7],show shi x y=q10 from by rw [shi,if_pos hg,h10]]
  ·refine⟨fun _=> ?_,fun e=>absurd e (by decide)⟩
   refine k_N3 (0) (by omega) (by omega) fun q27 h27 z27=> ?_
   refine ZaM (q:=q27)  ?_
   refine Eq.trans (b:=q3p q27 q27) ?_ rfl
   have hng:¬ sgd x y:=fun hh=>f18 hh.2.1
   rw [Zoj hng,Zom hng,← h27]
 ·refine⟨fun _=> ?_,fun e=>absurd e (by decide)⟩
  refine k_N3 (0) (by omega) (by omega) fun q27 h27 z27=> ?_
  refine ZaM (q:=q27)  ?_
  refine Eq.trans (b:=q3p q27 q27) ?_ rfl
  have hng:¬ sgd x y:=fun hh=>f13 hh.1
  rw [Zoj hng,Zom hng,← h27]
theorem Zrh {x y:RV} (hx:x.z≤268435456) (hy:y.z≤268435456) (k:∀ ya yb,ya=slo x y→yb=shi x y→sle ya yb→qs ya≤x.z+8→qs yb≤y.z+8→K (q3p ya yb)):Ask 200 [pair x y] K:=use (ZkS x y hx hy) rfl (k _ _ rfl rfl (ZeI x y) (by have:=Zbr x y;rw [cn_z] at this;exact this) (by have:=Zbs x y;rw [cn_z] at this;exact this))
set_option maxRecDepth 100000 in
theorem ZkP (p q a:Rat) (hp:qs p≤536870912) (hq:qs q≤536870912) (ha:qs a≤536870912):Spec Tryz.prog Tab 125 [q3p p q,q3 a] (bool (hasQ p q a)):=by
 refine Za Tryz.func125 rfl rfl Tryz.ntmps125 rfl (by kernel_rfl) rfl rfl ?_
 refine Zeb (p:=p) (q:=a) (by omega) (by omega) fun n8 h8=> ?_
 refine fork (fun e1=> ?_) (fun e1=> ?_)
 ·have f10:p≤a:=(Zrw h8).1 (of_decide_eq_true e1)
  refine Zeb (p:=a) (q:=q) (by omega) (by omega) fun n14 h14=> ?_
  refine Eq.trans (b:=bool (decide (n14≤0))) ?_ rfl
  rw [show hasQ p q a=decide (n14≤0) from by unfold hasQ;rw [decide_eq_true f10,Bool.true_and];exact decide_eq_decide.2 (Zrw h14).symm]
 ·have f10:¬ (p≤a):=fun hh=>of_decide_eq_false e1 ((Zrw h8).2 hh)
  refine Eq.trans (b:=bool false) ?_ rfl
  rw [show hasQ p q a=false from by unfold hasQ;rw [decide_eq_false f10];rfl]
theorem Zea {p q a:Rat} (hp:qs p≤536870912) (hq:qs q≤536870912) (ha:qs a≤536870912) (k:∀ b,b=hasQ p q a→K (bool b)):Ask 125 [q3p p q,q3 a] K:=use (ZkP p q a hp hq ha) rfl (k _ rfl)
def cos4 (p q:Rat):List Rat→AV
 | []=> .val (.one (.full [q3d p,q3d q]))
 |_ :: _=> .val (.one (.row 35 0))
def cosO (p q:Rat):List Rat→List (Nat×Ob)
 | []=> []
 |c :: r=> [(35,.row 51 3 0 (List.map q3d (p :: q :: c :: r)) true)]
set_option maxHeartbeats 4000000 in
set_option maxRecDepth 100000 in
theorem ZnW (p q:Rat) (hp:qs p≤33554432) (hq:qs q≤33554432):Spec Tryz.prog Tab 199 [q3p p q] (.tup [.agg [.d (.v (.bool (decide (((cs3 p q).1).num< 0)))),.d (.list (W (w32 ((cs3 p q).1).num.natAbs))),.d (.list (W (w32 ((cs3 p q).1).den))),.d (.v (.bool (decide (((cs3 p q).2).num< 0)))),.d (.list (W (w32 ((cs3 p q).2).num.natAbs))),.d (.list (W (w32 ((cs3 p q).2).den)))],.agg [.d (.v (.bool (decide (((sn3 p q).1).num< 0)))),.d (.list (W (w32 ((sn3 p q).1).num.natAbs))),.d (.list (W (w32 ((sn3 p q).1).den))),.d (.v (.bool (decide (((sn3 p q).2).num< 0)))),.d (.list (W (w32 ((sn3 p q).2).num.natAbs))),.d (.list (W (w32 ((sn3 p q).2).den)))]]):=by
 refine Za Tryz.func199 rfl rfl Tryz.ntmps199 rfl (by kernel_rfl) rfl rfl ?_
 refine k_N3 (-1) (by omega) (by omega) fun q20 h20 z20=> ?_
 refine k_N3 (0) (by omega) (by omega) fun q21 h21 z21=> ?_
 refine k_N3 (1) (by omega) (by omega) fun q22 h22 z22=> ?_
 refine⟨Nat×List Rat,fun (i,e)=> [(1,.val (.one (.ptr 1 0))),(2,.val (.one (.ptr 2 0))),(3,.val (.one (.ptr 3 0))),(4,cos4 p q e),(23,.val (.one (.full ([[D.v (.bool (decide (q20.num< 0))),D.list (W (w32 q20.num.natAbs)),D.list (W (w32 q20.den))], [D.v (.bool (decide (q21.num< 0))),D.list (W (w32 q21.num.natAbs)),D.list (W (w32 q21.den))], [D.v (.bool (decide (q22.num< 0))),D.list (W (w32 q22.num.natAbs)),D.list (W (w32 q22.den))]])))),(24,int 3),(25,int (i:Int))],
  fun (i,e)=> [(1,.var 53 [.d (.v (.bool (decide (p.num< 0)))),.d (.list (W (w32 p.num.natAbs))),.d (.list (W (w32 p.den))),.d (.v (.bool (decide (q.num< 0)))),.d (.list (W (w32 q.num.natAbs))),.d (.list (W (w32 q.den)))]),(2,.var 53 [.d (.v (.bool false)),.d (.v (.slice none 0 0)),.d (.v (.slice none 0 0)),.d (.v (.bool false)),.d (.v (.slice none 0 0)),.d (.v (.slice none 0 0))]),(3,.var 53 [.d (.v (.bool false)),.d (.v (.slice none 0 0)),.d (.v (.slice none 0 0)),.d (.v (.bool false)),.d (.v (.slice none 0 0)),.d (.v (.slice none 0 0))])]++cosO p q e,fun (i,e)=>i≤3∧e.length≤i∧(∀ t,t∈e→qs t≤8)∧(([-1,0,1]:List Int).drop i).foldl (ext p q) (p :: q :: e)=ext3 p q,fun (i,e)=>3 - i,(0, []),?_,⟨Nat.zero_le _,Nat.zero_le _,fun t ht=>by simp at ht,rfl⟩,fun s hs=> ?_⟩
 ·constructor<;>(repeat' (first|exact rfl|exact True.intro|exact⟨_,_,rfl⟩|exact(by decide)|apply And.intro))
  all_goals first|exact congrArg (fun n:Int=>D.v (.int .i64 n)) (by omega)|exact congrArg (fun n:Int=>D.v (.int .i64 n)) (by rw [wrap64 _ (by omega) (by omega)];omega)|(simp;done)
 obtain⟨i,e⟩:=s
 obtain⟨g1,g2,g3,g5⟩:=hs
 try simp only at g1 g2 g3 g5
 refine⟨fun e1=> ?_,fun e1=> ?_⟩
 ·have f26:(i:Int)< 3:=of_decide_eq_true e1
  obtain rfl|rfl|rfl:i=0∨i=1∨i=2:=by omega
  ·obtain rfl:e= []:=List.eq_nil_of_length_eq_zero (by omega)
   refine k_ix 0 [D.v (.bool (decide (q20.num< 0))),D.list (W (w32 q20.num.natAbs)),D.list (W (w32 q20.den))] (by first|rfl|omega|(rw [wrap64 _ (by omega) (by omega)];omega)) rfl rfl ?_
   refine Zea (p:=p) (q:=q) (a:=q20) (by omega) (by omega) (by omega) (fun b31 hk_31_1=> ?_)
   refine⟨fun e2=> ?_,fun e2=> ?_⟩
   ·have f31:hasQ p q q20=true:=hk_31_1.symm.trans e2
    refine⟨⟨Nat.zero_lt_succ _,rown rfl,row1 rfl,(by show (2+1)*56≤_;omega),(by show 2+1≤_;omega)⟩,?_⟩
    have hst:ext p q (p :: q :: []) (-1)=p :: q :: [q20]:=by unfold ext;rw [if_pos (by rw [← h20];exact f31)];rw [← h20];rfl
    have hsz:∀ t,t∈ [q20]→qs t≤8:=fun t ht=>by
     simp only [List.mem_cons,List.not_mem_nil,or_false] at ht
     subst ht;omega
    refine⟨(1, [q20]),⟨by first|omega|(simp only;omega),(by show 1≤_;omega),hsz,by rw [← hst];exact g5⟩,by first|omega|(simp only;omega),?_⟩
    constructor<;>(repeat' (first|exact rfl|exact True.intro|apply And.intro))
    all_goals first
     |(simp [q3d];done)
     |exact congrArg (fun n:Int=>D.v (.int .i64 n)) (by rw [wrap64 _ (by omega) (by omega)];omega)
     |exact congrArg (fun n:Int=>D.v (.int .i64 n)) (by omega)
   ·have f31:¬ (hasQ p q q20=true):=fun hh=>absurd (hh.symm.trans (hk_31_1.symm.trans e2)) (by decide)
    have hst:ext p q (p :: q :: []) (-1)=p :: q :: []:=by unfold ext;rw [if_neg (by rw [← h20];exact f31)]
    have hsz:∀ t,t∈ []→qs t≤8:=g3
    refine⟨(1, []),⟨by first|omega|(simp only;omega),Nat.zero_le _,hsz,by rw [← hst];exact g5⟩,by first|omega|(simp only;omega),?_⟩
    constructor<;>(repeat' (first|exact rfl|exact True.intro|apply And.intro))
    all_goals first
     |(simp [q3d];done)
     |exact congrArg (fun n:Int=>D.v (.int .i64 n)) (by rw [wrap64 _ (by omega) (by omega)];omega)
     |exact congrArg (fun n:Int=>D.v (.int .i64 n)) (by omega)
  ·rcases e with _|⟨c,r⟩
   ·skip
    refine k_ix 1 [D.v (.bool (decide (q21.num< 0))),D.list (W (w32 q21.num.natAbs)),D.list (W (w32 q21.den))] (by first|rfl|omega|(rw [wrap64 _ (by omega) (by omega)];omega)) rfl rfl ?_
    refine Zea (p:=p) (q:=q) (a:=q21) (by omega) (by omega) (by omega) (fun b31 hk_31_1=> ?_)
    refine⟨fun e3=> ?_,fun e3=> ?_⟩
    ·have f31:hasQ p q q21=true:=hk_31_1.symm.trans e3
     refine⟨⟨Nat.zero_lt_succ _,rown rfl,row1 rfl,(by show (2+1)*56≤_;omega),(by show 2+1≤_;omega)⟩,?_⟩
     have hst:ext p q (p :: q :: []) (0)=p :: q :: [q21]:=by unfold ext;rw [if_pos (by rw [← h21];exact f31)];rw [← h21];rfl
     have hsz:∀ t,t∈ [q21]→qs t≤8:=fun t ht=>by
      simp only [List.mem_cons,List.not_mem_nil,or_false] at ht
      subst ht;omega
     refine⟨(2, [q21]),⟨by first|omega|(simp only;omega),(by show 1≤_;omega),hsz,by rw [← hst];exact g5⟩,by first|omega|(simp only;omega),?_⟩
     constructor<;>(repeat' (first|exact rfl|exact True.intro|apply And.intro))
     all_goals first
      |(simp [q3d];done)
      |exact congrArg (fun n:Int=>D.v (.int .i64 n)) (by rw [wrap64 _ (by omega) (by omega)];omega)
      |exact congrArg (fun n:Int=>D.v (.int .i64 n)) (by omega)
    ·have f31:¬ (hasQ p q q21=true):=fun hh=>absurd (hh.symm.trans (hk_31_1.symm.trans e3)) (by decide)
     have hst:ext p q (p :: q :: []) (0)=p :: q :: []:=by unfold ext;rw [if_neg (by rw [← h21];exact f31)]
     have hsz:∀ t,t∈ []→qs t≤8:=g3
     refine⟨(2, []),⟨by first|omega|(simp only;omega),Nat.zero_le _,hsz,by rw [← hst];exact g5⟩,by first|omega|(simp only;omega),?_⟩
     constructor<;>(repeat' (first|exact rfl|exact True.intro|apply And.intro))
     all_goals first
      |(simp [q3d];done)
      |exact congrArg (fun n:Int=>D.v (.int .i64 n)) (by rw [wrap64 _ (by omega) (by omega)];omega)
      |exact congrArg (fun n:Int=>D.v (.int .i64 n)) (by omega)
   ·have hT:(List.map q3d (p :: q :: c :: r)).length≤5:=by simp only [List.length_map,List.length_cons] at g2 ⊢;omega
    refine k_ix 1 [D.v (.bool (decide (q21.num< 0))),D.list (W (w32 q21.num.natAbs)),D.list (W (w32 q21.den))] (by first|rfl|omega|(rw [wrap64 _ (by omega) (by omega)];omega)) rfl rfl ?_
    refine Zea (p:=p) (q:=q) (a:=q21) (by omega) (by omega) (by omega) (fun b31 hk_31_1=> ?_)
    refine⟨fun e4=> ?_,fun e4=> ?_⟩
    ·have f31:hasQ p q q21=true:=hk_31_1.symm.trans e4
     refine⟨⟨row1 rfl,(by show ((List.map q3d (p :: q :: c :: r)).length+1)*56≤_;omega),(by show ((List.map q3d (p :: q :: c :: r)).length+1)≤_;omega)⟩,?_⟩
     have hst:ext p q (p :: q :: (c :: r)) (0)=p :: q :: (c :: (r++ [q21])):=by unfold ext;rw [if_pos (by rw [← h21];exact f31)];rw [← h21];rfl
     have hsz:∀ t,t∈(c :: (r++ [q21]))→qs t≤8:=fun t ht=>by
      simp only [List.mem_cons,List.mem_append,List.not_mem_nil,or_false] at ht
      rcases ht with rfl|ht|rfl
      ·exact g3 _ (by simp)
      ·exact g3 _ (by simp [ht])
      ·omega
     refine⟨(2,(c :: (r++ [q21]))),⟨by first|omega|(simp only;omega),(by simp only [List.length_cons,List.length_append,List.length_nil] at g2 ⊢;omega),hsz,by rw [← hst];exact g5⟩,by first|omega|(simp only;omega),?_⟩
     constructor<;>(repeat' (first|exact rfl|exact True.intro|apply And.intro))
     all_goals first
      |(simp [q3d];done)
      |exact congrArg (fun n:Int=>D.v (.int .i64 n)) (by rw [wrap64 _ (by omega) (by omega)];omega)
      |exact congrArg (fun n:Int=>D.v (.int .i64 n)) (by omega)
    ·have f31:¬ (hasQ p q q21=true):=fun hh=>absurd (hh.symm.trans (hk_31_1.symm.trans e4)) (by decide)
     have hst:ext p q (p :: q :: (c :: r)) (0)=p :: q :: (c :: r):=by unfold ext;rw [if_neg (by rw [← h21];exact f31)]
     have hsz:∀ t,t∈(c :: r)→qs t≤8:=g3
     refine⟨(2,(c :: r)),⟨by first|omega|(simp only;omega),(by simp only [List.length_cons] at g2 ⊢;omega),hsz,by rw [← hst];exact g5⟩,by first|omega|(simp only;omega),?_⟩
     constructor<;>(repeat' (first|exact rfl|exact True.intro|apply And.intro))
     all_goals first
      |(simp [q3d];done)
      |exact congrArg (fun n:Int=>D.v (.int .i64 n)) (by rw [wrap64 _ (by omega) (by omega)];omega)
      |exact congrArg (fun n:Int=>D.v (.int .i64 n)) (by omega)
  ·rcases e with _|⟨c,r⟩
   ·skip
    refine k_ix 2 [D.v (.bool (decide (q22.num< 0))),D.list (W (w32 q22.num.natAbs)),D.list (W (w32 q22.den))] (by first|rfl|omega|(rw [wrap64 _ (by omega) (by omega)];omega)) rfl rfl ?_
    refine Zea (p:=p) (q:=q) (a:=q22) (by omega) (by omega) (by omega) (fun b31 hk_31_1=> ?_)
    refine⟨fun e5=> ?_,fun e5=> ?_⟩
    ·have f31:hasQ p q q22=true:=hk_31_1.symm.trans e5
     refine⟨⟨Nat.zero_lt_succ _,rown rfl,row1 rfl,(by show (2+1)*56≤_;omega),(by show 2+1≤_;omega)⟩,?_⟩
     have hst:ext p q (p :: q :: []) (1)=p :: q :: [q22]:=by unfold ext;rw [if_pos (by rw [← h22];exact f31)];rw [← h22];rfl
     have hsz:∀ t,t∈ [q22]→qs t≤8:=fun t ht=>by
      simp only [List.mem_cons,List.not_mem_nil,or_false] at ht
      subst ht;omega
     refine⟨(3, [q22]),⟨by first|omega|(simp only;omega),(by show 1≤_;omega),hsz,by rw [← hst];exact g5⟩,by first|omega|(simp only;omega),?_⟩
     constructor<;>(repeat' (first|exact rfl|exact True.intro|apply And.intro))
     all_goals first
      |(simp [q3d];done)
      |exact congrArg (fun n:Int=>D.v (.int .i64 n)) (by rw [wrap64 _ (by omega) (by omega)];omega)
      |exact congrArg (fun n:Int=>D.v (.int .i64 n)) (by omega)
    ·have f31:¬ (hasQ p q q22=true):=fun hh=>absurd (hh.symm.trans (hk_31_1.symm.trans e5)) (by decide)
     have hst:ext p q (p :: q :: []) (1)=p :: q :: []:=by unfold ext;rw [if_neg (by rw [← h22];exact f31)]
     have hsz:∀ t,t∈ []→qs t≤8:=g3
     refine⟨(3, []),⟨by first|omega|(simp only;omega),Nat.zero_le _,hsz,by rw [← hst];exact g5⟩,by first|omega|(simp only;omega),?_⟩
     constructor<;>(repeat' (first|exact rfl|exact True.intro|apply And.intro))
     all_goals first
      |(simp [q3d];done)
      |exact congrArg (fun n:Int=>D.v (.int .i64 n)) (by rw [wrap64 _ (by omega) (by omega)];omega)
      |exact congrArg (fun n:Int=>D.v (.int .i64 n)) (by omega)
   ·have hT:(List.map q3d (p :: q :: c :: r)).length≤5:=by simp only [List.length_map,List.length_cons] at g2 ⊢;omega
    refine k_ix 2 [D.v (.bool (decide (q22.num< 0))),D.list (W (w32 q22.num.natAbs)),D.list (W (w32 q22.den))] (by first|rfl|omega|(rw [wrap64 _ (by omega) (by omega)];omega)) rfl rfl ?_
    refine Zea (p:=p) (q:=q) (a:=q22) (by omega) (by omega) (by omega) (fun b31 hk_31_1=> ?_)
    refine⟨fun e6=> ?_,fun e6=> ?_⟩
    ·have f31:hasQ p q q22=true:=hk_31_1.symm.trans e6
     refine⟨⟨row1 rfl,(by show ((List.map q3d (p :: q :: c :: r)).length+1)*56≤_;omega),(by show ((List.map q3d (p :: q :: c :: r)).length+1)≤_;omega)⟩,?_⟩
     have hst:ext p q (p :: q :: (c :: r)) (1)=p :: q :: (c :: (r++ [q22])):=by unfold ext;rw [if_pos (by rw [← h22];exact f31)];rw [← h22];rfl
     have hsz:∀ t,t∈(c :: (r++ [q22]))→qs t≤8:=fun t ht=>by
      simp only [List.mem_cons,List.mem_append,List.not_mem_nil,or_false] at ht
      rcases ht with rfl|ht|rfl
      ·exact g3 _ (by simp)
      ·exact g3 _ (by simp [ht])
      ·omega
     refine⟨(3,(c :: (r++ [q22]))),⟨by first|omega|(simp only;omega),(by simp only [List.length_cons,List.length_append,List.length_nil] at g2 ⊢;omega),hsz,by rw [← hst];exact g5⟩,by first|omega|(simp only;omega),?_⟩
     constructor<;>(repeat' (first|exact rfl|exact True.intro|apply And.intro))
     all_goals first
      |(simp [q3d];done)
      |exact congrArg (fun n:Int=>D.v (.int .i64 n)) (by rw [wrap64 _ (by omega) (by omega)];omega)
      |exact congrArg (fun n:Int=>D.v (.int .i64 n)) (by omega)
    ·have f31:¬ (hasQ p q q22=true):=fun hh=>absurd (hh.symm.trans (hk_31_1.symm.trans e6)) (by decide)
     have hst:ext p q (p :: q :: (c :: r)) (1)=p :: q :: (c :: r):=by unfold ext;rw [if_neg (by rw [← h22];exact f31)]
     have hsz:∀ t,t∈(c :: r)→qs t≤8:=g3
     refine⟨(3,(c :: r)),⟨by first|omega|(simp only;omega),(by simp only [List.length_cons] at g2 ⊢;omega),hsz,by rw [← hst];exact g5⟩,by first|omega|(simp only;omega),?_⟩
     constructor<;>(repeat' (first|exact rfl|exact True.intro|apply And.intro))
     all_goals first
      |(simp [q3d];done)
      |exact congrArg (fun n:Int=>D.v (.int .i64 n)) (by rw [wrap64 _ (by omega) (by omega)];omega)
      |exact congrArg (fun n:Int=>D.v (.int .i64 n)) (by omega)
 ·have f26:¬ ((i:Int)< 3):=of_decide_eq_false e1
  obtain rfl:i=3:=by omega
  rcases e with _|⟨c,r⟩
  ·have hx: [p,q]=ext3 p q:=g5
   have hLL:(List.map q3d [p,q]).length= [p,q].length:=List.length_map ..
   have hL5: [p,q].length≤5:=by rw [hx];exact Zjn p q
   obtain⟨fz1,fz2⟩:=Znh (p:=p) (q:=q) (B:=qs p+qs q+1) (by omega) (by omega) (by omega)
   rw [← hx] at fz1 fz2
   have hLz:∀ t,t∈ [p,q]→qs t≤qs p+qs q+1:=by rw [hx];exact Zg5 (by omega) (by omega) (by omega)
   refine ZcE (t:=p) (by omega) (fun p40 q40 hk_40_2 hk_40_3 hk_40_4 hk_40_5=> ?_)
   refine ZaM (q:=p40)  ?_
   refine ZaM (q:=q40)  ?_
   refine⟨by kernel_rfl,?_⟩
   refine⟨Nat,fun j=> [(2,.val (.one (.ptr 2 0))),(3,.val (.one (.ptr 3 0))),(9,.val (.one (.ptr 9 0))),(10,.val (.one (.ptr 10 0))),(47,.val (.one (.full (List.map q3d [p,q])))),(48,int ((List.map q3d [p,q]).length:Int)),(49,int (j:Int))],
    fun j=> [(2,.var 53 [.d (.v (.bool false)),.d (.v (.slice none 0 0)),.d (.v (.slice none 0 0)),.d (.v (.bool false)),.d (.v (.slice none 0 0)),.d (.v (.slice none 0 0))]),(3,.var 53 [.d (.v (.bool false)),.d (.v (.slice none 0 0)),.d (.v (.slice none 0 0)),.d (.v (.bool false)),.d (.v (.slice none 0 0)),.d (.v (.slice none 0 0))]),(9,.var 53 [.d (.v (.bool (decide ((foLo (cosq false) p [p,q] j).num< 0)))),.d (.list (W (w32 (foLo (cosq false) p [p,q] j).num.natAbs))),.d (.list (W (w32 (foLo (cosq false) p [p,q] j).den))),.d (.v (.bool (decide ((foHi (cosq false) p [p,q] j).num< 0)))),.d (.list (W (w32 (foHi (cosq false) p [p,q] j).num.natAbs))),.d (.list (W (w32 (foHi (cosq false) p [p,q] j).den)))]),(10,.var 53 [.d (.v (.bool (decide ((foLo sinq p [p,q] j).num< 0)))),.d (.list (W (w32 (foLo sinq p [p,q] j).num.natAbs))),.d (.list (W (w32 (foLo sinq p [p,q] j).den))),.d (.v (.bool (decide ((foHi sinq p [p,q] j).num< 0)))),.d (.list (W (w32 (foHi sinq p [p,q] j).num.natAbs))),.d (.list (W (w32 (foHi sinq p [p,q] j).den)))])],fun j=>j≤ [p,q].length,fun j=> [p,q].length - j,0,?_,Nat.zero_le _,fun j hs=> ?_⟩
   ·constructor<;>(repeat' (first|exact rfl|exact True.intro|exact⟨_,_,rfl⟩|exact(by decide)|apply And.intro))
    all_goals first
     |exact congrArg (fun q:Rat=>D.v (.bool (decide (q.num< 0)))) hk_40_2
     |exact congrArg (fun q:Rat=>D.v (.bool (decide (q.num< 0)))) hk_40_2.symm
     |exact congrArg (fun q:Rat=>D.list (W (w32 q.num.natAbs))) hk_40_2
     |exact congrArg (fun q:Rat=>D.list (W (w32 q.num.natAbs))) hk_40_2.symm
     |exact congrArg (fun q:Rat=>D.list (W (w32 q.den))) hk_40_2
     |exact congrArg (fun q:Rat=>D.list (W (w32 q.den))) hk_40_2.symm
     |exact congrArg (fun q:Rat=>D.v (.bool (decide (q.num< 0)))) hk_40_3
     |exact congrArg (fun q:Rat=>D.v (.bool (decide (q.num< 0)))) hk_40_3.symm
     |exact congrArg (fun q:Rat=>D.list (W (w32 q.num.natAbs))) hk_40_3
     |exact congrArg (fun q:Rat=>D.list (W (w32 q.num.natAbs))) hk_40_3.symm
     |exact congrArg (fun q:Rat=>D.list (W (w32 q.den))) hk_40_3
     |exact congrArg (fun q:Rat=>D.list (W (w32 q.den))) hk_40_3.symm
     |exact congrArg (fun n:Int=>D.v (.int .i64 n)) (by omega)
     |(simp;done)
   obtain⟨fa1,fa2⟩:=fo_z fz1 j
   obtain⟨fb1,fb2⟩:=fo_z fz2 j
   refine⟨fun e7=> ?_,fun e7=> ?_⟩
   ·have f50:(j:Int)< ((List.map q3d [p,q]).length:Int):=of_decide_eq_true e7
    refine Zx (l:= [p,q]) (i:=j) (by first|omega|exact Nat.mod_lt _ (by omega)) fun x51 hx51=> ?_
    have hj51:=hx51
    have hzx51:=hLz x51 (List.mem_of_getElem? hx51)
    refine k_ix j [D.v (.bool (decide (x51.num< 0))),D.list (W (w32 x51.num.natAbs)),D.list (W (w32 x51.den))] (by first|rfl|omega|(rw [wrap64 _ (by omega) (by omega)];omega)) (Ze hx51) rfl ?_
    refine ZcE (t:=x51) (by omega) (fun p55 q55 hk_55_2 hk_55_3 hk_55_4 hk_55_5=> ?_)
    refine Z1 (p:=(foLo (cosq false) p [p,q] j)) (q:=p55) (by omega) (by omega) fun q61 h61 z61=> ?_
    refine Zay (p:=(foHi (cosq false) p [p,q] j)) (q:=p55) (by omega) (by omega) fun q65 h65 z65=> ?_
    refine Z1 (p:=(foLo sinq p [p,q] j)) (q:=q55) (by omega) (by omega) fun q70 h70 z70=> ?_
    refine Zay (p:=(foHi sinq p [p,q] j)) (q:=q55) (by omega) (by omega) fun q74 h74 z74=> ?_
    refine⟨by kernel_rfl,?_⟩
    have c1:q61=foLo (cosq false) p [p,q] (j+1):=by rw [h61,(fo_s hj51).1,hk_55_2]
    have c2:q65=foHi (cosq false) p [p,q] (j+1):=by rw [h65,(fo_s hj51).2,hk_55_2]
    have c3:q70=foLo sinq p [p,q] (j+1):=by rw [h70,(fo_s hj51).1,hk_55_3]
    have c4:q74=foHi sinq p [p,q] (j+1):=by rw [h74,(fo_s hj51).2,hk_55_3]
    refine⟨j+1,by omega,by simp only;omega,?_⟩
    constructor<;>(repeat' (first|exact rfl|exact True.intro|apply And.intro))
    all_goals first
     |exact congrArg (fun q:Rat=>D.v (.bool (decide (q.num< 0)))) c1
     |exact congrArg (fun q:Rat=>D.v (.bool (decide (q.num< 0)))) c1.symm
     |exact congrArg (fun q:Rat=>D.list (W (w32 q.num.natAbs))) c1
     |exact congrArg (fun q:Rat=>D.list (W (w32 q.num.natAbs))) c1.symm
     |exact congrArg (fun q:Rat=>D.list (W (w32 q.den))) c1
     |exact congrArg (fun q:Rat=>D.list (W (w32 q.den))) c1.symm
     |exact congrArg (fun q:Rat=>D.v (.bool (decide (q.num< 0)))) c2
     |exact congrArg (fun q:Rat=>D.v (.bool (decide (q.num< 0)))) c2.symm
     |exact congrArg (fun q:Rat=>D.list (W (w32 q.num.natAbs))) c2
     |exact congrArg (fun q:Rat=>D.list (W (w32 q.num.natAbs))) c2.symm
     |exact congrArg (fun q:Rat=>D.list (W (w32 q.den))) c2
     |exact congrArg (fun q:Rat=>D.list (W (w32 q.den))) c2.symm
     |exact congrArg (fun q:Rat=>D.v (.bool (decide (q.num< 0)))) c3
     |exact congrArg (fun q:Rat=>D.v (.bool (decide (q.num< 0)))) c3.symm
     |exact congrArg (fun q:Rat=>D.list (W (w32 q.num.natAbs))) c3
     |exact congrArg (fun q:Rat=>D.list (W (w32 q.num.natAbs))) c3.symm
     |exact congrArg (fun q:Rat=>D.list (W (w32 q.den))) c3
     |exact congrArg (fun q:Rat=>D.list (W (w32 q.den))) c3.symm
     |exact congrArg (fun q:Rat=>D.v (.bool (decide (q.num< 0)))) c4
     |exact congrArg (fun q:Rat=>D.v (.bool (decide (q.num< 0)))) c4.symm
     |exact congrArg (fun q:Rat=>D.list (W (w32 q.num.natAbs))) c4
     |exact congrArg (fun q:Rat=>D.list (W (w32 q.num.natAbs))) c4.symm
     |exact congrArg (fun q:Rat=>D.list (W (w32 q.den))) c4
     |exact congrArg (fun q:Rat=>D.list (W (w32 q.den))) c4.symm
     |exact congrArg (fun n:Int=>D.v (.int .i64 n)) (by rw [wrap64 _ (by omega) (by omega)];omega)
     |exact congrArg (fun n:Int=>D.v (.int .i64 n)) (by omega)
   ·have f50:¬ ((j:Int)< ((List.map q3d [p,q]).length:Int)):=of_decide_eq_false e7
    refine⟨by kernel_rfl,?_⟩
    refine Eq.trans (b:= .tup [.agg [.d (.v (.bool (decide ((foLo (cosq false) p [p,q] j).num< 0)))),.d (.list (W (w32 (foLo (cosq false) p [p,q] j).num.natAbs))),.d (.list (W (w32 (foLo (cosq false) p [p,q] j).den))),.d (.v (.bool (decide ((foHi (cosq false) p [p,q] j).num< 0)))),.d (.list (W (w32 (foHi (cosq false) p [p,q] j).num.natAbs))),.d (.list (W (w32 (foHi (cosq false) p [p,q] j).den)))],.agg [.d (.v (.bool (decide ((foLo sinq p [p,q] j).num< 0)))),.d (.list (W (w32 (foLo sinq p [p,q] j).num.natAbs))),.d (.list (W (w32 (foLo sinq p [p,q] j).den))),.d (.v (.bool (decide ((foHi sinq p [p,q] j).num< 0)))),.d (.list (W (w32 (foHi sinq p [p,q] j).num.natAbs))),.d (.list (W (w32 (foHi sinq p [p,q] j).den)))]]) ?_ rfl
    obtain⟨k1,k2,k3,k4⟩:=Zqd (p:=p) (q:=q) hx (j:=j) (by omega)
    rw [k1,k2,k3,k4]
    all_goals rfl
  ·have hx:(p :: q :: c :: r)=ext3 p q:=g5
   have hLL:(List.map q3d (p :: q :: c :: r)).length=(p :: q :: c :: r).length:=List.length_map ..
   have hL5:(p :: q :: c :: r).length≤5:=by rw [hx];exact Zjn p q
   obtain⟨fz1,fz2⟩:=Znh (p:=p) (q:=q) (B:=qs p+qs q+1) (by omega) (by omega) (by omega)
   rw [← hx] at fz1 fz2
   have hLz:∀ t,t∈(p :: q :: c :: r)→qs t≤qs p+qs q+1:=by rw [hx];exact Zg5 (by omega) (by omega) (by omega)
   refine ZcE (t:=p) (by omega) (fun p40 q40 hk_40_2 hk_40_3 hk_40_4 hk_40_5=> ?_)
   refine ZaM (q:=p40)  ?_
   refine ZaM (q:=q40)  ?_
   refine⟨by kernel_rfl,?_⟩
   refine⟨Nat,fun j=> [(2,.val (.one (.ptr 2 0))),(3,.val (.one (.ptr 3 0))),(9,.val (.one (.ptr 9 0))),(10,.val (.one (.ptr 10 0))),(47,.val (.one (.row 35 0))),(48,int ((List.map q3d (p :: q :: c :: r)).length:Int)),(49,int (j:Int))],
    fun j=> [(2,.var 53 [.d (.v (.bool false)),.d (.v (.slice none 0 0)),.d (.v (.slice none 0 0)),.d (.v (.bool false)),.d (.v (.slice none 0 0)),.d (.v (.slice none 0 0))]),(3,.var 53 [.d (.v (.bool false)),.d (.v (.slice none 0 0)),.d (.v (.slice none 0 0)),.d (.v (.bool false)),.d (.v (.slice none 0 0)),.d (.v (.slice none 0 0))]),(9,.var 53 [.d (.v (.bool (decide ((foLo (cosq false) p (p :: q :: c :: r) j).num< 0)))),.d (.list (W (w32 (foLo (cosq false) p (p :: q :: c :: r) j).num.natAbs))),.d (.list (W (w32 (foLo (cosq false) p (p :: q :: c :: r) j).den))),.d (.v (.bool (decide ((foHi (cosq false) p (p :: q :: c :: r) j).num< 0)))),.d (.list (W (w32 (foHi (cosq false) p (p :: q :: c :: r) j).num.natAbs))),.d (.list (W (w32 (foHi (cosq false) p (p :: q :: c :: r) j).den)))]),(10,.var 53 [.d (.v (.bool (decide ((foLo sinq p (p :: q :: c :: r) j).num< 0)))),.d (.list (W (w32 (foLo sinq p (p :: q :: c :: r) j).num.natAbs))),.d (.list (W (w32 (foLo sinq p (p :: q :: c :: r) j).den))),.d (.v (.bool (decide ((foHi sinq p (p :: q :: c :: r) j).num< 0)))),.d (.list (W (w32 (foHi sinq p (p :: q :: c :: r) j).num.natAbs))),.d (.list (W (w32 (foHi sinq p (p :: q :: c :: r) j).den)))]),(35,.row 51 3 0 (List.map q3d (p :: q :: c :: r)) true)],fun j=>j≤(p :: q :: c :: r).length,fun j=>(p :: q :: c :: r).length - j,0,?_,Nat.zero_le _,fun j hs=> ?_⟩
   ·constructor<;>(repeat' (first|exact rfl|exact True.intro|exact⟨_,_,rfl⟩|exact(by decide)|apply And.intro))
    all_goals first
     |exact congrArg (fun q:Rat=>D.v (.bool (decide (q.num< 0)))) hk_40_2
     |exact congrArg (fun q:Rat=>D.v (.bool (decide (q.num< 0)))) hk_40_2.symm
     |exact congrArg (fun q:Rat=>D.list (W (w32 q.num.natAbs))) hk_40_2
     |exact congrArg (fun q:Rat=>D.list (W (w32 q.num.natAbs))) hk_40_2.symm
     |exact congrArg (fun q:Rat=>D.list (W (w32 q.den))) hk_40_2
     |exact congrArg (fun q:Rat=>D.list (W (w32 q.den))) hk_40_2.symm
     |exact congrArg (fun q:Rat=>D.v (.bool (decide (q.num< 0)))) hk_40_3
     |exact congrArg (fun q:Rat=>D.v (.bool (decide (q.num< 0)))) hk_40_3.symm
     |exact congrArg (fun q:Rat=>D.list (W (w32 q.num.natAbs))) hk_40_3
     |exact congrArg (fun q:Rat=>D.list (W (w32 q.num.natAbs))) hk_40_3.symm
     |exact congrArg (fun q:Rat=>D.list (W (w32 q.den))) hk_40_3
     |exact congrArg (fun q:Rat=>D.list (W (w32 q.den))) hk_40_3.symm
     |exact congrArg (fun n:Int=>D.v (.int .i64 n)) (by omega)
     |(simp;done)
   obtain⟨fa1,fa2⟩:=fo_z fz1 j
   obtain⟨fb1,fb2⟩:=fo_z fz2 j
   refine⟨fun e8=> ?_,fun e8=> ?_⟩
   ·have f50:(j:Int)< ((List.map q3d (p :: q :: c :: r)).length:Int):=of_decide_eq_true e8
    refine k_at_own' j (by first|rfl|omega|(rw [wrap64 _ (by omega) (by omega)];omega)) (by first|omega|(simp;omega)) ?_
    refine Zx (l:=(p :: q :: c :: r)) (i:=j) (by first|omega|exact Nat.mod_lt _ (by omega)) fun x52 hx52=> ?_
    have hj51:=hx52
    have hzx52:=hLz x52 (List.mem_of_getElem? hx52)
    refine ZmX [D.v (.bool (decide (x52.num< 0))),D.list (W (w32 x52.num.natAbs)),D.list (W (w32 x52.den))] _ (Ze hx52) rfl rfl ?_
    refine ZcE (t:=x52) (by omega) (fun p55 q55 hk_55_2 hk_55_3 hk_55_4 hk_55_5=> ?_)
    refine Z1 (p:=(foLo (cosq false) p (p :: q :: c :: r) j)) (q:=p55) (by omega) (by omega) fun q61 h61 z61=> ?_
    refine Zay (p:=(foHi (cosq false) p (p :: q :: c :: r) j)) (q:=p55) (by omega) (by omega) fun q65 h65 z65=> ?_
    refine Z1 (p:=(foLo sinq p (p :: q :: c :: r) j)) (q:=q55) (by omega) (by omega) fun q70 h70 z70=> ?_
    refine Zay (p:=(foHi sinq p (p :: q :: c :: r) j)) (q:=q55) (by omega) (by omega) fun q74 h74 z74=> ?_
    refine⟨by kernel_rfl,?_⟩
    have c1:q61=foLo (cosq false) p (p :: q :: c :: r) (j+1):=by rw [h61,(fo_s hj51).1,hk_55_2]
    have c2:q65=foHi (cosq false) p (p :: q :: c :: r) (j+1):=by rw [h65,(fo_s hj51).2,hk_55_2]
    have c3:q70=foLo sinq p (p :: q :: c :: r) (j+1):=by rw [h70,(fo_s hj51).1,hk_55_3]
    have c4:q74=foHi sinq p (p :: q :: c :: r) (j+1):=by rw [h74,(fo_s hj51).2,hk_55_3]
    refine⟨j+1,by omega,by simp only;omega,?_⟩
    constructor<;>(repeat' (first|exact rfl|exact True.intro|apply And.intro))
    all_goals first
     |exact congrArg (fun q:Rat=>D.v (.bool (decide (q.num< 0)))) c1
     |exact congrArg (fun q:Rat=>D.v (.bool (decide (q.num< 0)))) c1.symm
     |exact congrArg (fun q:Rat=>D.list (W (w32 q.num.natAbs))) c1
     |exact congrArg (fun q:Rat=>D.list (W (w32 q.num.natAbs))) c1.symm
     |exact congrArg (fun q:Rat=>D.list (W (w32 q.den))) c1
     |exact congrArg (fun q:Rat=>D.list (W (w32 q.den))) c1.symm
     |exact congrArg (fun q:Rat=>D.v (.bool (decide (q.num< 0)))) c2
     |exact congrArg (fun q:Rat=>D.v (.bool (decide (q.num< 0)))) c2.symm
     |exact congrArg (fun q:Rat=>D.list (W (w32 q.num.natAbs))) c2
     |exact congrArg (fun q:Rat=>D.list (W (w32 q.num.natAbs))) c2.symm
     |exact congrArg (fun q:Rat=>D.list (W (w32 q.den))) c2
     |exact congrArg (fun q:Rat=>D.list (W (w32 q.den))) c2.symm
     |exact congrArg (fun q:Rat=>D.v (.bool (decide (q.num< 0)))) c3
     |exact congrArg (fun q:Rat=>D.v (.bool (decide (q.num< 0)))) c3.symm
     |exact congrArg (fun q:Rat=>D.list (W (w32 q.num.natAbs))) c3
     |exact congrArg (fun q:Rat=>D.list (W (w32 q.num.natAbs))) c3.symm
     |exact congrArg (fun q:Rat=>D.list (W (w32 q.den))) c3
     |exact congrArg (fun q:Rat=>D.list (W (w32 q.den))) c3.symm
     |exact congrArg (fun q:Rat=>D.v (.bool (decide (q.num< 0)))) c4
     |exact congrArg (fun q:Rat=>D.v (.bool (decide (q.num< 0)))) c4.symm
     |exact congrArg (fun q:Rat=>D.list (W (w32 q.num.natAbs))) c4
     |exact congrArg (fun q:Rat=>D.list (W (w32 q.num.natAbs))) c4.symm
     |exact congrArg (fun q:Rat=>D.list (W (w32 q.den))) c4
     |exact congrArg (fun q:Rat=>D.list (W (w32 q.den))) c4.symm
     |exact congrArg (fun n:Int=>D.v (.int .i64 n)) (by rw [wrap64 _ (by omega) (by omega)];omega)
     |exact congrArg (fun n:Int=>D.v (.int .i64 n)) (by omega)
   ·have f50:¬ ((j:Int)< ((List.map q3d (p :: q :: c :: r)).length:Int)):=of_decide_eq_false e8
    refine⟨by kernel_rfl,?_⟩
    refine Eq.trans (b:= .tup [.agg [.d (.v (.bool (decide ((foLo (cosq false) p (p :: q :: c :: r) j).num< 0)))),.d (.list (W (w32 (foLo (cosq false) p (p :: q :: c :: r) j).num.natAbs))),.d (.list (W (w32 (foLo (cosq false) p (p :: q :: c :: r) j).den))),.d (.v (.bool (decide ((foHi (cosq false) p (p :: q :: c :: r) j).num< 0)))),.d (.list (W (w32 (foHi (cosq false) p (p :: q :: c :: r) j).num.natAbs))),.d (.list (W (w32 (foHi (cosq false) p (p :: q :: c :: r) j).den)))],.agg [.d (.v (.bool (decide ((foLo sinq p (p :: q :: c :: r) j).num< 0)))),.d (.list (W (w32 (foLo sinq p (p :: q :: c :: r) j).num.natAbs))),.d (.list (W (w32 (foLo sinq p (p :: q :: c :: r) j).den))),.d (.v (.bool (decide ((foHi sinq p (p :: q :: c :: r) j).num< 0)))),.d (.list (W (w32 (foHi sinq p (p :: q :: c :: r) j).num.natAbs))),.d (.list (W (w32 (foHi sinq p (p :: q :: c :: r) j).den)))]]) ?_ rfl
    obtain⟨k1,k2,k3,k4⟩:=Zqd (p:=p) (q:=q) hx (j:=j) (by omega)
    rw [k1,k2,k3,k4]
    all_goals rfl
theorem Zsz {p q:Rat} (_h:sle p q) (hp:qs p≤33554432) (hq:qs q≤33554432) (k:∀ ya yb yc ye,ya=(cs3 p q).1→yb=(cs3 p q).2→yc=(sn3 p q).1→ye=(sn3 p q).2→qs ya≤4*(qs p+qs q+1)+34→qs yb≤4*(qs p+qs q+1)+34→qs yc≤4*(qs p+qs q+1)+34→qs ye≤4*(qs p+qs q+1)+34→K (two (q3p ya yb) (q3p yc ye))):Ask 199 [q3p p q] K:=use (ZnW p q hp hq) rfl (k _ _ _ _ rfl rfl rfl rfl (Zrn (by omega) (by omega) (by omega)).1 (Zrn (by omega) (by omega) (by omega)).2 (Zqw (by omega) (by omega) (by omega)).1 (Zqw (by omega) (by omega) (by omega)).2)
set_option maxHeartbeats 4000000 in
set_option maxRecDepth 100000 in
theorem Zho (A:ArmV) (Q:List (RV×RV)) (hA:A.ok) (hA0:armE A=0) (hlen:Q.length=A.links.length) (hQ:∀ p,p∈Q→p.1.z≤3145760∧p.2.z≤3145760):Spec Tryz.prog Tab 101 [.val (.agg [.d (.v (.string A.name)),.d (.v (.bool A.bx.s)),.d (.v (.string A.bx.a)),.d (.v (.string A.bx.d)),.d (.v (.bool A.by'.s)),.d (.v (.string A.by'.a)),.d (.v (.string A.by'.d)),.d (.v (.bool (A.bh))),.d (.v (.bool A.bt.s)),.d (.v (.string A.bt.a)),.d (.v (.string A.bt.d)),.d (.list (List.map lk A.links))]),.val (.one (.d (.list (List.map rdv Q))))] (.val (.one (.d (.list (List.map rqL (spreadL A Q)))))):=by
 have hA2:=hA
 obtain⟨z1,z2,z3,z4,z5,z6⟩:=hA
 have hL:(List.map lk A.links).length=A.links.length:=List.length_map ..
 have hLq:(List.map rdv Q).length=Q.length:=List.length_map ..
 obtain⟨hn3,hnz,hsb1,hsb2,hsb3,_⟩:=ZaB hA0
 have hb1:=ZK hsb1
 have hb2:=ZK hsb2
 have hb3:=ZK hsb3
 obtain⟨hb4,hb5,hb6,hb7⟩:=ZnJ hA0
 refine Za Tryz.func101 rfl rfl Tryz.ntmps101 rfl (by kernel_rfl) rfl rfl ?_
 refine Zpf (x:=A.bx) (y:=A.by') (h:=A.bh) (z:=A.bt) (by omega) (by omega) (by omega) ?_
 refine ZaM (q:=A.bx.q)  ?_
 refine ZaM (q:=A.by'.q)  ?_
 refine ZaM (q:=cosq A.bh A.bt.q)  ?_
 refine ZaM (q:=sinq (tq A.bh A.bt.q))  ?_
 refine⟨by kernel_rfl,?_⟩
 refine⟨Nat,fun i=> [(1,.val (.one (.d (.list (List.map rdv Q))))),(6,.val (.one (.ptr 6 0))),(7,.val (.one (.row 71 0))),(30,.val (.one (.d (.list (List.map lk A.links))))),(31,int ((List.map lk A.links).length:Int)),(32,int (i:Int))],
  fun i=> [(6,.var 170 [.d (.v (.bool (decide (((endL A Q i).xl).num< 0)))),.d (.list (W (w32 ((endL A Q i).xl).num.natAbs))),.d (.list (W (w32 ((endL A Q i).xl).den))),.d (.v (.bool (decide (((endL A Q i).xh).num< 0)))),.d (.list (W (w32 ((endL A Q i).xh).num.natAbs))),.d (.list (W (w32 ((endL A Q i).xh).den))),.d (.v (.bool (decide (((endL A Q i).yl).num< 0)))),.d (.list (W (w32 ((endL A Q i).yl).num.natAbs))),.d (.list (W (w32 ((endL A Q i).yl).den))),.d (.v (.bool (decide (((endL A Q i).yh).num< 0)))),.d (.list (W (w32 ((endL A Q i).yh).num.natAbs))),.d (.list (W (w32 ((endL A Q i).yh).den))),.d (.v (.bool (decide (((endL A Q i).cl).num< 0)))),.d (.list (W (w32 ((endL A Q i).cl).num.natAbs))),.d (.list (W (w32 ((endL A Q i).cl).den))),.d (.v (.bool (decide (((endL A Q i).ch).num< 0)))),.d (.list (W (w32 ((endL A Q i).ch).num.natAbs))),.d (.list (W (w32 ((endL A Q i).ch).den))),.d (.v (.bool (decide (((endL A Q i).sl).num< 0)))),.d (.list (W (w32 ((endL A Q i).sl).num.natAbs))),.d (.list (W (w32 ((endL A Q i).sl).den))),.d (.v (.bool (decide (((endL A Q i).sh).num< 0)))),.d (.list (W (w32 ((endL A Q i).sh).num.natAbs))),.d (.list (W (w32 ((endL A Q i).sh).den)))]),(71,.row 170 24 0 (List.map rqL (linksL A Q i)) true)],fun i=>i≤A.links.length,fun i=>A.links.length - i,0,?_,Nat.zero_le _,fun i hs=> ?_⟩
 ·constructor<;>(repeat' (first|exact rfl|exact True.intro|exact⟨_,_,rfl⟩|exact(by decide)|apply And.intro))
  all_goals first|exact congrArg (fun n:Int=>D.v (.int .i64 n)) (by omega)|exact congrArg (fun n:Int=>D.v (.int .i64 n)) (by rw [wrap64 _ (by omega) (by omega)];omega)|(simp;done)
 obtain⟨⟨zc1,zc2⟩,zc3,zc4⟩:=Znk hA0 Q i
 obtain⟨⟨zx1,zx2⟩,zx3,zx4⟩:=ZfV hA0 Q i
 obtain⟨ol1,ol2,ol3,ol4⟩:=LF.has_le (ZcN A Q i)
 obtain⟨⟨zl1,zl2⟩,zl3,zl4⟩:=ZbB A Q i
 obtain⟨ol7,ol8,ol9,ol10⟩:=LF.has_le (ZcB A Q i)
 have hT:(List.map rqL (linksL A Q i)).length≤3:=by rw [List.length_map,ZeT];omega
 refine⟨fun e1=> ?_,fun e1=> ?_⟩
 ·have f33:(i:Int)< ((List.map lk A.links).length:Int):=of_decide_eq_true e1
  refine Zx (l:=A.links) (i:=i) (by first|omega|exact Nat.mod_lt _ (by omega)) fun x35 hx35=> ?_
  obtain⟨hs1,hs2,hs3,hs4,hs5,hs6,hs7⟩:=z6 x35 (List.mem_of_getElem? hx35)
  have hlx35:=Zi9 hx35
  have hsmx35:=ZK (ZaR hA0 (List.mem_of_getElem? hx35)).1
  refine k_ix i [D.v (.bool x35.len.s),D.v (.string x35.len.a),D.v (.string x35.len.d),D.v (.bool x35.low.s),D.v (.string x35.low.a),D.v (.string x35.low.d),D.v (.bool x35.high.s),D.v (.string x35.high.a),D.v (.string x35.high.d),D.v (.bool x35.speed.s),D.v (.string x35.speed.a),D.v (.string x35.speed.d),D.v (.bool x35.brake.s),D.v (.string x35.brake.a),D.v (.string x35.brake.d),D.list (List.map rdv x35.shape)] (by first|rfl|omega|(rw [wrap64 _ (by omega) (by omega)];omega)) (Ze hx35) rfl ?_
  refine Zx (l:=Q) (i:=i) (by first|omega|exact Nat.mod_lt _ (by omega)) fun x40 hx40=> ?_
  obtain⟨hzx40,hyx40⟩:=hQ x40 (List.mem_of_getElem? hx40)
  have hqx40:=Zlt hx40
  refine k_ix i [D.v (.bool x40.1.s),D.v (.string x40.1.a),D.v (.string x40.1.d),D.v (.bool x40.2.s),D.v (.string x40.2.a),D.v (.string x40.2.d)] (by first|rfl|omega|(rw [wrap64 _ (by omega) (by omega)];omega)) (Ze hx40) rfl ?_
  refine Zrh (x:=x40.1) (y:=x40.2) (by omega) (by omega) (fun ya42 yb42 hk_42_2 hk_42_3 hk_42_4 hk_42_5 hk_42_6=> ?_)
  refine Zsz (p:=ya42) (q:=yb42) (by assumption) (by omega) (by omega) (fun ya43 yb43 yc43 ye43 hk_43_4 hk_43_5 hk_43_6 hk_43_7 hk_43_8 hk_43_9 hk_43_10 hk_43_11=> ?_)
  refine Zao (p:=(endL A Q i).cl) (q:=(endL A Q i).ch) (r:=ya43) (u:=yb43) (by omega) (by omega) (by omega) (by omega) (fun ya49 yb49 hk_49_2 hk_49_3 hk_49_4 hk_49_5=> ?_)
  refine Zao (p:=(endL A Q i).sl) (q:=(endL A Q i).sh) (r:=yc43) (u:=ye43) (by omega) (by omega) (by omega) (by omega) (fun ya53 yb53 hk_53_2 hk_53_3 hk_53_4 hk_53_5=> ?_)
  refine Zh2 (p:=ya49) (q:=yb49) (r:=ya53) (u:=yb53) (by omega) (by omega) (by omega) (by omega) (fun ya54 yb54 hk_54_2 hk_54_3 hk_54_4 hk_54_5=> ?_)
  refine Zm3 (p:=ya54) (q:=yb54) (by omega) (by omega) (fun ya55 yb55 hk_55_2 hk_55_3 hk_55_4 hk_55_5=> ?_)
  refine Zao (p:=(endL A Q i).sl) (q:=(endL A Q i).sh) (r:=ya43) (u:=yb43) (by omega) (by omega) (by omega) (by omega) (fun ya59 yb59 hk_59_2 hk_59_3 hk_59_4 hk_59_5=> ?_)
  refine Zao (p:=(endL A Q i).cl) (q:=(endL A Q i).ch) (r:=yc43) (u:=ye43) (by omega) (by omega) (by omega) (by omega) (fun ya63 yb63 hk_63_2 hk_63_3 hk_63_4 hk_63_5=> ?_)
  refine ZbC (p:=ya59) (q:=yb59) (r:=ya63) (u:=yb63) (by omega) (by omega) (by omega) (by omega) (fun ya64 yb64 hk_64_2 hk_64_3 hk_64_4 hk_64_5=> ?_)
  refine Zm3 (p:=ya64) (q:=yb64) (by omega) (by omega) (fun ya65 yb65 hk_65_2 hk_65_3 hk_65_4 hk_65_5=> ?_)
  have e55:ya55=(linkL A Q i).cl:=by rw [hk_55_2,hk_54_2,hk_49_2,hk_53_3,hk_43_4,hk_43_5,hk_43_6,hk_43_7,hk_42_2,hk_42_3,← hqx40.1,← hqx40.2];rfl
  have f55:yb55=(linkL A Q i).ch:=by rw [hk_55_3,hk_54_3,hk_49_3,hk_53_2,hk_43_4,hk_43_5,hk_43_6,hk_43_7,hk_42_2,hk_42_3,← hqx40.1,← hqx40.2];rfl
  have e65:ya65=(linkL A Q i).sl:=by rw [hk_65_2,hk_64_2,hk_59_2,hk_63_2,hk_43_4,hk_43_5,hk_43_6,hk_43_7,hk_42_2,hk_42_3,← hqx40.1,← hqx40.2];rfl
  have f65:yb65=(linkL A Q i).sh:=by rw [hk_65_3,hk_64_3,hk_59_3,hk_63_3,hk_43_4,hk_43_5,hk_43_6,hk_43_7,hk_42_2,hk_42_3,← hqx40.1,← hqx40.2];rfl
  have zl5:qs ya55≤3:=by rw [e55];exact zl1
  have zl6:qs yb55≤3:=by rw [f55];exact zl2
  have zl7:qs ya65≤3:=by rw [e65];exact zl3
  have zl8:qs yb65≤3:=by rw [f65];exact zl4
  refine⟨by kernel_rfl,?_⟩
  refine⟨⟨row1 rfl,(by show ((List.map rqL (linksL A Q i)).length+1)*448≤_;omega),(by show ((List.map rqL (linksL A Q i)).length+1)≤_;omega)⟩,?_⟩
  refine Zy (x:=x35.len) (by omega) fun q74 h74 z74=> ?_
  refine ZaM (q:=q74)  ?_
  refine Zao (p:=q74) (q:=q74) (r:=ya55) (u:=yb55) (by omega) (by omega) (by omega) (by omega) (fun ya81 yb81 hk_81_2 hk_81_3 hk_81_4 hk_81_5=> ?_)
  refine ZbC (p:=(endL A Q i).xl) (q:=(endL A Q i).xh) (r:=ya81) (u:=yb81) (by omega) (by omega) (by omega) (by omega) (fun ya82 yb82 hk_82_2 hk_82_3 hk_82_4 hk_82_5=> ?_)
  refine Zao (p:=q74) (q:=q74) (r:=ya65) (u:=yb65) (by omega) (by omega) (by omega) (by omega) (fun ya88 yb88 hk_88_2 hk_88_3 hk_88_4 hk_88_5=> ?_)
  refine ZbC (p:=(endL A Q i).yl) (q:=(endL A Q i).yh) (r:=ya88) (u:=yb88) (by omega) (by omega) (by omega) (by omega) (fun ya89 yb89 hk_89_2 hk_89_3 hk_89_4 hk_89_5=> ?_)
  refine⟨by kernel_rfl,?_⟩
  have hl:q74=lenAt A i:=h74.trans hlx35.symm
  have ex:ya82=(endL A Q (i+1)).xl:=by rw [hk_82_2,hk_81_2,hl,e55,f55];rfl
  have ex2:yb82=(endL A Q (i+1)).xh:=by rw [hk_82_3,hk_81_3,hl,e55,f55];rfl
  have ey:ya89=(endL A Q (i+1)).yl:=by rw [hk_89_2,hk_88_2,hl,e65,f65];rfl
  have ey2:yb89=(endL A Q (i+1)).yh:=by rw [hk_89_3,hk_88_3,hl,e65,f65];rfl
  subst ex ex2 ey ey2 e55 f55 e65 f65
  refine⟨i+1,by omega,by simp only;omega,?_⟩
  constructor<;>(repeat' (first|exact rfl|exact True.intro|apply And.intro))
  all_goals first
   |(rw [Zd5];rfl)
   |exact congrArg (fun n:Int=>D.v (.int .i64 n)) (by rw [wrap64 _ (by omega) (by omega)];omega)
   |exact congrArg (fun n:Int=>D.v (.int .i64 n)) (by omega)
 ·have f33:¬ ((i:Int)< ((List.map lk A.links).length:Int)):=of_decide_eq_false e1
  refine⟨⟨row1 rfl,(by show ((List.map rqL (linksL A Q i)).length+1)*448≤_;omega),(by show ((List.map rqL (linksL A Q i)).length+1)≤_;omega)⟩,?_⟩
  refine Eq.trans (b:= .val (.one (.d (.list (List.map rqL (linksL A Q i)++ [[D.v (.bool (decide (((endL A Q i).xl).num< 0))),D.list (W (w32 ((endL A Q i).xl).num.natAbs)),D.list (W (w32 ((endL A Q i).xl).den)),D.v (.bool (decide (((endL A Q i).xh).num< 0))),D.list (W (w32 ((endL A Q i).xh).num.natAbs)),D.list (W (w32 ((endL A Q i).xh).den)),D.v (.bool (decide (((endL A Q i).yl).num< 0))),D.list (W (w32 ((endL A Q i).yl).num.natAbs)),D.list (W (w32 ((endL A Q i).yl).den)),D.v (.bool (decide (((endL A Q i).yh).num< 0))),D.list (W (w32 ((endL A Q i).yh).num.natAbs)),D.list (W (w32 ((endL A Q i).yh).den)),D.v (.bool (decide (((endL A Q i).cl).num< 0))),D.list (W (w32 ((endL A Q i).cl).num.natAbs)),D.list (W (w32 ((endL A Q i).cl).den)),D.v (.bool (decide (((endL A Q i).ch).num< 0))),D.list (W (w32 ((endL A Q i).ch).num.natAbs)),D.list (W (w32 ((endL A Q i).ch).den)),D.v (.bool (decide (((endL A Q i).sl).num< 0))),D.list (W (w32 ((endL A Q i).sl).num.natAbs)),D.list (W (w32 ((endL A Q i).sl).den)),D.v (.bool (decide (((endL A Q i).sh).num< 0))),D.list (W (w32 ((endL A Q i).sh).num.natAbs)),D.list (W (w32 ((endL A Q i).sh).den))]]))))) ?_ rfl
  obtain rfl:i=A.links.length:=by omega
  rw [spreadL,List.map_append]
  all_goals rfl
theorem Zm4 {A:ArmV} {Q:List (RV×RV)} (hA:A.ok) (hA0:armE A=0) (hlen:Q.length=A.links.length) (hQ:∀ p,p∈Q→p.1.z≤3145760∧p.2.z≤3145760) (k:K (.val (.one (.d (.list (List.map rqL (spreadL A Q))))))):Ask 101 [.val (.agg [.d (.v (.string A.name)),.d (.v (.bool A.bx.s)),.d (.v (.string A.bx.a)),.d (.v (.string A.bx.d)),.d (.v (.bool A.by'.s)),.d (.v (.string A.by'.a)),.d (.v (.string A.by'.d)),.d (.v (.bool (A.bh))),.d (.v (.bool A.bt.s)),.d (.v (.string A.bt.a)),.d (.v (.string A.bt.d)),.d (.list (List.map lk A.links))]),.val (.one (.d (.list (List.map rdv Q))))] K:=use (Zho A Q hA hA0 hlen hQ) rfl k
end
end Go.Proofs.YtpejadencgfnnaaGreatDoor.eng
