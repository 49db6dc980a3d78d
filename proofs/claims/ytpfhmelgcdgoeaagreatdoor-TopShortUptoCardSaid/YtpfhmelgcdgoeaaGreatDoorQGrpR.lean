/- Joined by wip/bundle.py: XSpr0 XSprA XSprR. -/
import Derived.Test.YtpfhmelgcdgoeaaGreatDoorQGrpQ
import Derived.Test.YtpfhmelgcdgoeaaGreatDoorQForeA
set_option maxRecDepth 100000
open List (foldl_cons foldl_nil map_nil map length_map)
namespace Go.Proofs.YtpfhmelgcdgoeaaGreatDoor.eng
open Go.RowKit num mem seg q held ratA ratB ratC ratD ratE vars ratF trq
theorem qi_1:((1:Int):Rat)=1:=rfl
theorem ZnM:((-1:Int):Rat)=-1:=by decide+kernel
theorem qi_0:((0:Int):Rat)=0:=rfl
def sle (p q:Rat):Prop:=p≤q
theorem Zh1 {c s:Rat} (h:unitC c s):(-1≤c∧c≤1)∧(-1≤s∧s≤1):=by
 unfold unitC at h
 have sq:∀ a:Rat,0≤a*a:=fun a=>by
  by_cases h:0≤a
  ·exact Rat.mul_nonneg h h
  ·have:=Rat.mul_nonneg (by grind:0≤-a) (by grind:0≤-a);grind
 have key:∀ a b:Rat,a*a+b*b=1→a≤1:=fun a b e=>by
  refine Rat.not_lt.1 fun hlt=> ?_
  have:=Rat.mul_nonneg (by grind:0≤a - 1) (by grind:0≤a - 1)
  have:=sq b
  grind
 have n1:=key c s h
 have n2:=key (-c) s (by grind)
 have n3:=key s c (by grind)
 have n4:=key (-s) c (by grind)
 exact⟨⟨by grind,n1⟩,⟨by grind,n3⟩⟩
theorem ZkT (t:Rat):(-1≤cosq false t∧cosq false t≤1)∧(-1≤sinq t∧sinq t≤1):=by
 have h:=ZfK false t
 rw [ZaV] at h
 exact Zh1 h
theorem Zc4 (t:Rat):0< 1+t*t:=by
 have:0≤t*t:=by
  by_cases h:0≤t
  ·exact Rat.mul_nonneg h h
  ·have:=Rat.mul_nonneg (by grind:0≤-t) (by grind:0≤-t);grind
 grind
theorem Zgr {a b:Rat} (hb:0< b) {x:Rat} (h:x*b=a):(0≤a→0≤x)∧(a≤0→x≤0):=by
 constructor
 ·intro ha
  refine Rat.not_lt.1 fun hx=> ?_
  have:=Rat.mul_pos (by grind:0< -x) hb
  grind
 ·intro ha
  refine Rat.not_lt.1 fun hx=> ?_
  have:=Rat.mul_pos hx hb
  grind
theorem ZjJ (t:Rat):(0≤t→0≤sinq t)∧(t≤0→sinq t≤0):=by
 obtain⟨_,h,_⟩:=Za3 t
 obtain⟨a,b⟩:=Zgr (Zc4 t) h
 exact⟨fun g=>a (by grind),fun g=>b (by grind)⟩
theorem Zpy {t:Rat} (h:t≤-1∨1≤t):cosq false t≤0:=by
 obtain⟨e,_,_⟩:=Za3 t
 refine(Zgr (Zc4 t) e).2 ?_
 rcases h with h|h
 ·have:=Rat.mul_nonneg (by grind:0≤-t - 1) (by grind:0≤-t+1);grind
 ·have:=Rat.mul_nonneg (by grind:0≤t - 1) (by grind:0≤t+1);grind
theorem ZkS {t:Rat} (h1:-1≤t) (h2:t≤1):0≤cosq false t:=by
 obtain⟨e,_,_⟩:=Za3 t
 refine(Zgr (Zc4 t) e).1 ?_
 have:=Rat.mul_nonneg (by grind:0≤1 - t) (by grind:0≤1+t)
 grind
def ext3 (l h:Rat):List Rat:=([-1,0,1]:List Int).foldl (ext l h) [l,h]
def cs3 (l h:Rat):Rat×Rat:=(lowL (cosq false l) ((ext3 l h).map (cosq false)),highL (cosq false l) ((ext3 l h).map (cosq false)))
def sn3 (l h:Rat):Rat×Rat:=(lowL (sinq l) ((ext3 l h).map sinq),highL (sinq l) ((ext3 l h).map sinq))
theorem Zb4 {l h a:Rat}:hasQ l h a=true↔l≤a∧a≤h:=by
 unfold hasQ;rw [Bool.and_eq_true,decide_eq_true_iff,decide_eq_true_iff]
theorem Zrm {l h t:Rat} (ht:t∈ext3 l h):t=l∨t=h∨t=-1∨t=0∨t=1:=by
 unfold ext3 ext at ht
 simp only [foldl_cons,foldl_nil,qi_1,ZnM,qi_0] at ht
 (repeat' split at ht)<;>simp at ht<;>grind
theorem ZmI:cosq false (-1)=0∧cosq false 0=1∧cosq false 1=0∧sinq (-1)=-1∧sinq 0=0∧sinq 1=1:=by decide+kernel
theorem Zuf {l h:Rat} (_:l≤h):(cosF (sqHi l h),cosF (sqLo l h))=cs3 l h:=by
 obtain⟨e1,e2,e3,_⟩:=ZmI
 rw [Zue,Zrt]
 unfold cosL cosH
 rw [Zgw,Zgw]
 obtain⟨⟨a1,a2⟩,_⟩:=ZkT l
 obtain⟨⟨b1,b2⟩,_⟩:=ZkT h
 have f1:hasQ l h 1=true→cosq false h≤0:=fun e=>Zpy (.inr (Zb4.1 e).2)
 have fm:hasQ l h (-1)=true→cosq false l≤0:=fun e=>Zpy (.inl (Zb4.1 e).1)
 have g1:hasQ l h 1=true→¬ hasQ l h 0=true→0≤cosq false l:=fun e e0=>by
  rw [Zb4] at e e0
  exact ZkS (by grind) e.1
 have gm:hasQ l h (-1)=true→¬ hasQ l h 0=true→0≤cosq false h:=fun e e0=>by
  rw [Zb4] at e e0
  exact ZkS e.2 (by grind)
 unfold cs3 ext3 ext
 simp only [foldl_cons,foldl_nil,qi_1,ZnM,qi_0]
 generalize ha:cosq false l=a at*
 generalize hb:cosq false h=b at*
 by_cases c1:hasQ l h 1=true<;>by_cases c0:hasQ l h 0=true<;>by_cases cm:hasQ l h (-1)=true<;>
  simp only [c1,c0,cm,if_true,if_false,Bool.false_eq_true,List.cons_append,List.nil_append,List.map_cons,map_nil,ha,hb,e1,e2,e3,lowL,highL,foldl_cons,foldl_nil]<;>
  try simp only [c1,c0,cm,true_implies,false_implies,not_true_eq_false,not_false_eq_true,Bool.false_eq_true] at f1 fm g1 gm<;>
  unfold lowF highF<;>(refine Prod.ext ?_ ?_)<;>grind
theorem Zta {l h:Rat} (_:l≤h):sinS l h=sn3 l h:=by
 obtain⟨_,_,_,e1,e2,e3⟩:=ZmI
 obtain⟨_,a1,a2⟩:=ZkT l
 obtain⟨_,b1,b2⟩:=ZkT h
 have f0:hasQ l h 0=true→sinq l≤0∧0≤sinq h:=fun e=>⟨(ZjJ l).2 (Zb4.1 e).1,(ZjJ h).1 (Zb4.1 e).2⟩
 unfold sinS sn3 ext3 ext stp
 simp only [foldl_cons,foldl_nil,qi_1,ZnM,qi_0]
 generalize ha:sinq l=a at*
 generalize hb:sinq h=b at*
 by_cases c1:hasQ l h 1=true<;>by_cases c0:hasQ l h 0=true<;>by_cases cm:hasQ l h (-1)=true<;>
  simp only [c1,c0,cm,if_true,if_false,Bool.false_eq_true,List.cons_append,List.nil_append,List.map_cons,map_nil,ha,hb,e1,e2,e3,lowL,highL,foldl_cons,foldl_nil]<;>
  try simp only [c0,true_implies,false_implies,Bool.false_eq_true] at f0<;>
  unfold lowF highF minQ maxQ<;>(refine Prod.ext ?_ ?_)<;>grind
theorem ZkQ (l h:Rat):(cs3 l h).1≤cosq false l∧cosq false l≤(cs3 l h).2:=⟨(ZbL _ _).1,(ZaI _ _).1⟩
theorem ZjI (l h:Rat):(sn3 l h).1≤sinq l∧sinq l≤(sn3 l h).2:=⟨(ZbL _ _).1,(ZaI _ _).1⟩
theorem ZsJ {l h:Rat} {B:Nat} (hl:qs l≤B) (hh:qs h≤B) (hB:1≤B):∀ t,t∈ext3 l h→qs t≤B:=by
 intro t ht
 have z1:qs (-1:Rat)≤1:=by decide+kernel
 have z2:qs (0:Rat)≤1:=by decide+kernel
 have z3:qs (1:Rat)≤1:=by decide+kernel
 rcases Zrm ht with rfl|rfl|rfl|rfl|rfl<;>omega
theorem ZwT {l h:Rat} {B:Nat} (hl:qs l≤B) (hh:qs h≤B) (hB:1≤B):qs (cs3 l h).1≤4*B+34∧qs (cs3 l h).2≤4*B+34:=by
 have k:∀ q,q∈cosq false l :: (ext3 l h).map (cosq false)→qs q≤4*B+34:=by
  intro q hq
  rcases List.mem_cons.1 hq with rfl|hq
  ·have:=(ZlC l).1;omega
  ·obtain⟨t,ht,rfl⟩:=List.mem_map.1 hq
   have:=ZsJ hl hh hB t ht
   have:=(ZlC t).1;omega
 exact⟨ZbK k,Za1 k⟩
theorem ZwB {l h:Rat} {B:Nat} (hl:qs l≤B) (hh:qs h≤B) (hB:1≤B):qs (sn3 l h).1≤4*B+34∧qs (sn3 l h).2≤4*B+34:=by
 have k:∀ q,q∈sinq l :: (ext3 l h).map sinq→qs q≤4*B+34:=by
  intro q hq
  rcases List.mem_cons.1 hq with rfl|hq
  ·have:=(ZlC l).2;omega
  ·obtain⟨t,ht,rfl⟩:=List.mem_map.1 hq
   have:=ZsJ hl hh hB t ht
   have:=(ZlC t).2;omega
 exact⟨ZbK k,Za1 k⟩
theorem Zot {a b x y m:Rat} (h1:a≤x) (h2:x≤b) (e1:m≤a*y) (e2:m≤b*y):m≤x*y:=by
 by_cases h:0≤y
 ·have:=Rat.mul_nonneg (by grind:0≤x - a) h;grind
 ·have:=Rat.mul_nonneg (by grind:0≤b - x) (by grind:0≤-y);grind
theorem ZaX {a b c d x y:Rat} (h1:a≤x) (h2:x≤b) (h3:c≤y) (h4:y≤d):mulLo a b c d≤x*y∧x*y≤mulHi a b c d:=by
 obtain⟨l1,l2⟩:=ZbL [a*d,b*c,b*d] (a*c)
 obtain⟨g1,g2⟩:=ZaI [a*d,b*c,b*d] (a*c)
 have l3:=l2 (a*d) (by simp);have l4:=l2 (b*c) (by simp);have l5:=l2 (b*d) (by simp)
 have g3:=g2 (a*d) (by simp);have g4:=g2 (b*c) (by simp);have g5:=g2 (b*d) (by simp)
 change mulLo a b c d≤_ at l1 l3 l4 l5
 change _≤mulHi a b c d at g1 g3 g4 g5
 have m1:∀ p:Rat,∀ m,m≤p*c→m≤p*d→m≤p*y:=fun p m e1 e2=>by
  have:=Zot h3 h4 (m:=m) (y:=p) (by grind) (by grind);grind
 constructor
 ·exact Zot h1 h2 (m1 a _ l1 l3) (m1 b _ l4 l5)
 ·have:=Zot (m:=-mulHi a b c d) (y:=-y) h1 h2 (by have:=m1 (-a) (-mulHi a b c d) (by grind) (by grind);grind) (by have:=m1 (-b) (-mulHi a b c d) (by grind) (by grind);grind)
  grind
theorem Zoc {a b c d:Rat} {B C:Nat} (h1:qs a≤B) (h2:qs b≤B) (h3:qs c≤C) (h4:qs d≤C):qs (mulLo a b c d)≤B+C∧qs (mulHi a b c d)≤B+C:=by
 have k:∀ q,q∈a*c :: [a*d,b*c,b*d]→qs q≤B+C:=by
  intro q hq
  simp only [List.mem_cons,List.not_mem_nil,or_false] at hq
  rcases hq with rfl|rfl|rfl|rfl
  ·have:=Zx a c;omega
  ·have:=Zx a d;omega
  ·have:=Zx b c;omega
  ·have:=Zx b d;omega
 exact⟨ZbK k,Za1 k⟩
def mill:Rat:=((1000000:Int):Rat)
def cutLo (q:Rat):Rat:=maxQ (downQ q 1000000) ((-1:Int):Rat)
def cutHi (q:Rat):Rat:=minQ (upQ q 1000000) ((1:Int):Rat)
theorem Zgq (q:Rat):downQ q 1000000=((q*mill).floor:Rat) / mill:=by
 unfold downQ
 rw [show dnN 1000000=1000000 from rfl,Rat.mkRat_eq_div];rfl
theorem Zgd:(0:Rat)< mill:=by decide+kernel
theorem ZtB:mill≠0:=by decide+kernel
theorem Zpn (q:Rat):downQ q 1000000≤q:=by
 rw [Zgq]
 have h:=Rat.floor_le (a:=q*mill)
 refine Rat.not_lt.1 fun hlt=> ?_
 rw [Rat.lt_div_iff Zgd] at hlt
 exact absurd h (Rat.not_le.2 hlt)
theorem Zwx (q:Rat):q≤upQ q 1000000:=by
 have:=Zpn (-q)
 unfold upQ;grind
theorem Zfy {q c:Rat} (h1:-1≤c) (h2:c≤1):(q≤c→cutLo q≤c)∧(c≤q→c≤cutHi q):=by
 have a:=Zpn q
 have b:=Zwx q
 unfold cutLo cutHi maxQ minQ
 rw [qi_1,ZnM]
 constructor<;>intro h<;>split<;>grind
theorem Zsi {n:Int} (h1:-1≤(n:Rat) / mill) (h2:(n:Rat) / mill≤1):qs ((n:Rat) / mill)≤3:=by
 have e:(n:Rat) / mill=mkRat n 1000000:=by rw [Rat.mkRat_eq_div];rfl
 have hm:(n:Rat)=(n:Rat) / mill*mill:=(Rat.div_mul_cancel ZtB).symm
 have p:=Rat.mul_nonneg (by grind:0≤1 - (n:Rat) / mill) (Rat.le_of_lt Zgd)
 have q:=Rat.mul_nonneg (by grind:0≤1+(n:Rat) / mill) (Rat.le_of_lt Zgd)
 have a1:(n:Rat)≤((1000000:Int):Rat):=by show _≤mill;grind
 have a2:((-1000000:Int):Rat)≤(n:Rat):=by
  have:((-1000000:Int):Rat)=-mill:=by decide+kernel
  rw [this];grind
 have b1:=Rat.intCast_le_intCast.1 a1
 have b2:=Rat.intCast_le_intCast.1 a2
 rw [e]
 exact ZdA ωd ω ωd
theorem Zpu {q c:Rat} (h1:-1≤c) (h2:c≤1) (h:q≤c):qs (cutLo q)≤3:=by
 have a:=(Zfy (q:=q) h1 h2).1 h
 have z:qs ((-1:Int):Rat)≤3:=by decide+kernel
 unfold cutLo maxQ at*
 rw [ZnM] at*
 split at a
 ·rename_i g;rw [if_pos g,Zgq];rw [Zgq] at a g;exact Zsi g (Rat.le_trans a h2)
 ·rename_i g;rw [if_neg g];exact z
theorem neg_div' (n:Int):-((n:Rat) / mill)=((-n:Int):Rat) / mill:=by
 rw [Rat.intCast_neg,Rat.div_def,Rat.div_def];grind
theorem Zpv {q c:Rat} (h1:-1≤c) (h2:c≤1) (h:c≤q):qs (cutHi q)≤3:=by
 have a:=(Zfy (q:=q) h1 h2).2 h
 have z:qs ((1:Int):Rat)≤3:=by decide+kernel
 unfold cutHi minQ at*
 rw [qi_1] at*
 split at a
 ·rename_i g;rw [if_pos g];unfold upQ at*;rw [Zgq,neg_div'] at*;exact Zsi (Rat.le_trans h1 a) g
 ·rename_i g;rw [if_neg g];exact z
structure LF where
 xl:Rat
 xh:Rat
 yl:Rat
 yh:Rat
 cl:Rat
 ch:Rat
 sl:Rat
 sh:Rat
def LF.has (f:LF) (g:RF):Prop:=(f.xl≤g.x∧g.x≤f.xh)∧(f.yl≤g.y∧g.y≤f.yh)∧(f.cl≤g.c∧g.c≤f.ch)∧(f.sl≤g.s∧g.s≤f.sh)
def tightL (g:RF):LF:=⟨g.x,g.x,g.y,g.y,g.c,g.c,g.s,g.s⟩
theorem Zlf (g:RF):(tightL g).has g:=⟨⟨Rat.le_refl,Rat.le_refl⟩,⟨Rat.le_refl,Rat.le_refl⟩,⟨Rat.le_refl,Rat.le_refl⟩,⟨Rat.le_refl,Rat.le_refl⟩⟩
def turnCl (f:LF) (c s:Rat×Rat):Rat:=mulLo f.cl f.ch c.1 c.2 - mulHi f.sl f.sh s.1 s.2
def turnCh (f:LF) (c s:Rat×Rat):Rat:=mulHi f.cl f.ch c.1 c.2 - mulLo f.sl f.sh s.1 s.2
def turnSl (f:LF) (c s:Rat×Rat):Rat:=mulLo f.sl f.sh c.1 c.2+mulLo f.cl f.ch s.1 s.2
def turnSh (f:LF) (c s:Rat×Rat):Rat:=mulHi f.sl f.sh c.1 c.2+mulHi f.cl f.ch s.1 s.2
def turnL (f:LF) (c s:Rat×Rat):LF:=⟨f.xl,f.xh,f.yl,f.yh,cutLo (turnCl f c s),cutHi (turnCh f c s),cutLo (turnSl f c s),cutHi (turnSh f c s)⟩
def longL (f:LF) (n:Rat):LF:=⟨f.xl+mulLo n n f.cl f.ch,f.xh+mulHi n n f.cl f.ch,f.yl+mulLo n n f.sl f.sh,f.yh+mulHi n n f.sl f.sh,f.cl,f.ch,f.sl,f.sh⟩
theorem ZmD {f:LF} {g:RF} (h:f.has g) {c s:Rat×Rat} {t:Rat} (hc:c.1≤cosq false t∧cosq false t≤c.2) (hs:s.1≤sinq t∧sinq t≤s.2):
  (turnCl f c s≤(turnF g t).c∧(turnF g t).c≤turnCh f c s)∧(turnSl f c s≤(turnF g t).s∧(turnF g t).s≤turnSh f c s):=by
 obtain⟨_,_,⟨c1,c2⟩,s1,s2⟩:=h
 have a:=ZaX c1 c2 hc.1 hc.2
 have b:=ZaX s1 s2 hs.1 hs.2
 have d:=ZaX s1 s2 hc.1 hc.2
 have e:=ZaX c1 c2 hs.1 hs.2
 unfold turnCl turnCh turnSl turnSh turnF
 simp only
 exact⟨⟨by grind,by grind⟩,⟨by grind,by grind⟩⟩
theorem ZmF {f:LF} {g:RF} (h:f.has g) (hu:g.u) {c s:Rat×Rat} {t:Rat} (hc:c.1≤cosq false t∧cosq false t≤c.2) (hs:s.1≤sinq t∧sinq t≤s.2):(turnL f c s).has (turnF g t):=by
 obtain⟨⟨a1,a2⟩,a3,a4⟩:=ZmD h hc hs
 obtain⟨⟨u1,u2⟩,u3,u4⟩:=Zh1 (ZcX hu t)
 exact⟨h.1,h.2.1,⟨(Zfy u1 u2).1 a1,(Zfy u1 u2).2 a2⟩,(Zfy u3 u4).1 a3,(Zfy u3 u4).2 a4⟩
theorem Zor {f:LF} {g:RF} (h:f.has g) (n:Rat):(longL f n).has (longF g n):=by
 obtain⟨⟨x1,x2⟩,⟨y1,y2⟩,⟨c1,c2⟩,s1,s2⟩:=h
 have a:=ZaX (Rat.le_refl (a:=n)) Rat.le_refl c1 c2
 have b:=ZaX (Rat.le_refl (a:=n)) Rat.le_refl s1 s2
 refine⟨⟨?_,?_⟩,⟨?_,?_⟩,⟨c1,c2⟩,s1,s2⟩
 ·show f.xl+mulLo n n f.cl f.ch≤g.x+g.c*n;grind
 ·show g.x+g.c*n≤f.xh+mulHi n n f.cl f.ch;grind
 ·show f.yl+mulLo n n f.sl f.sh≤g.y+g.s*n;grind
 ·show g.y+g.s*n≤f.yh+mulHi n n f.sl f.sh;grind
def LF.le (f:LF):Prop:=sle f.xl f.xh∧sle f.yl f.yh∧sle f.cl f.ch∧sle f.sl f.sh
theorem LF.has_le {f:LF} {g:RF} (h:f.has g):f.le:=⟨Rat.le_trans h.1.1 h.1.2,Rat.le_trans h.2.1.1 h.2.1.2,Rat.le_trans h.2.2.1.1 h.2.2.1.2,Rat.le_trans h.2.2.2.1 h.2.2.2.2⟩
def spAt (Q:List (RV×RV)) (i:Nat):RV×RV:=(Q[i]?).getD (z0,z0)
def loAt (Q:List (RV×RV)) (i:Nat):Rat:=slo (spAt Q i).1 (spAt Q i).2
def hiAt (Q:List (RV×RV)) (i:Nat):Rat:=shi (spAt Q i).1 (spAt Q i).2
theorem Zs9 {Q:List (RV×RV)} {i:Nat} {x:RV×RV} (h:Q[i]? =some x):loAt Q i=slo x.1 x.2∧hiAt Q i=shi x.1 x.2:=by simp [loAt,hiAt,spAt,h]
def endL (A:ArmV) (Q:List (RV×RV)):Nat→LF
 |0=>tightL (baseF A)
 |i+1=>longL (turnL (endL A Q i) (cs3 (loAt Q i) (hiAt Q i)) (sn3 (loAt Q i) (hiAt Q i))) (lenAt A i)
def linkL (A:ArmV) (Q:List (RV×RV)) (i:Nat):LF:=turnL (endL A Q i) (cs3 (loAt Q i) (hiAt Q i)) (sn3 (loAt Q i) (hiAt Q i))
def endX (A:ArmV) (Q:List (RV×RV)):Nat→RF
 |0=>baseF A
 |i+1=>longF (turnF (endX A Q i) (loAt Q i)) (lenAt A i)
theorem ZkI (A:ArmV) (Q:List (RV×RV)):∀ i,(endX A Q i).u
 |0=>ZfK _ _
 |i+1=>Zos (ZcX (ZkI A Q i) _) _
theorem linkL_has' {A:ArmV} {Q:List (RV×RV)} {i:Nat} (h:(endL A Q i).has (endX A Q i)):(linkL A Q i).has (turnF (endX A Q i) (loAt Q i)):=ZmF h (ZkI A Q i) (ZkQ _ _) (ZjI _ _)
theorem ZdK (A:ArmV) (Q:List (RV×RV)):∀ i,(endL A Q i).has (endX A Q i)
 |0=>Zlf _
 |i+1=>Zor (linkL_has' (ZdK A Q i)) _
theorem Zem (A:ArmV) (Q:List (RV×RV)) (i:Nat):(linkL A Q i).has (turnF (endX A Q i) (loAt Q i)):=linkL_has' (ZdK A Q i)
def linksL (A:ArmV) (Q:List (RV×RV)) (n:Nat):List LF:=(List.range n).map (linkL A Q)
def spreadL (A:ArmV) (Q:List (RV×RV)):List LF:=linksL A Q A.links.length++ [endL A Q A.links.length]
theorem ZlK (A:ArmV) (Q:List (RV×RV)) (n:Nat):(linksL A Q n).length=n:=by simp [linksL]
theorem Zd3 (A:ArmV) (Q:List (RV×RV)):(spreadL A Q).length=A.links.length+1:=by simp [spreadL,linksL]
theorem ZiN {α:Type} (g:LF→α) (A:ArmV) (Q:List (RV×RV)) (i:Nat):map g (linksL A Q (i+1))=map g (linksL A Q i)++ [g (linkL A Q i)]:=by
 simp [linksL,List.range_succ]
def LF.zc (f:LF) (B:Nat):Prop:=(qs f.cl≤B∧qs f.ch≤B)∧(qs f.sl≤B∧qs f.sh≤B)
def LF.zx (f:LF) (B:Nat):Prop:=(qs f.xl≤B∧qs f.xh≤B)∧(qs f.yl≤B∧qs f.yh≤B)
theorem Zqb {f:LF} {g:RF} (h:f.has g) (hu:g.u) {c s:Rat×Rat} {t:Rat} (hc:c.1≤cosq false t∧cosq false t≤c.2) (hs:s.1≤sinq t∧sinq t≤s.2):(turnL f c s).zc 3:=by
 obtain⟨⟨a1,a2⟩,a3,a4⟩:=ZmD h hc hs
 obtain⟨⟨u1,u2⟩,u3,u4⟩:=Zh1 (ZcX hu t)
 exact⟨⟨Zpu u1 u2 a1,Zpv u1 u2 a2⟩,Zpu u3 u4 a3,Zpv u3 u4 a4⟩
theorem ZcI (A:ArmV) (Q:List (RV×RV)) (i:Nat):(linkL A Q i).zc 3:=Zqb (ZdK A Q i) (ZkI A Q i) (ZkQ _ _) (ZjI _ _)
theorem Zua {A:ArmV} (hA:armE A=0) (Q:List (RV×RV)):∀ i,(endL A Q i).zc 66
 |0=>by obtain⟨_,_,b3,b4⟩:=ZpT hA;exact⟨⟨b3,b3⟩,b4,b4⟩
 |i+1=>by
  obtain⟨⟨a1,a2⟩,a3,a4⟩:=ZcI A Q i
  exact⟨⟨Nat.le_trans a1 ωd,Nat.le_trans a2 ωd⟩,Nat.le_trans a3 ωd,Nat.le_trans a4 ωd⟩
theorem Zi3 {A:ArmV} (hA:armE A=0) (Q:List (RV×RV)):∀ i,(endL A Q i).zx (4+8*i)
 |0=>by obtain⟨b1,b2,_⟩:=ZpT hA;exact⟨⟨b1,b1⟩,b2,b2⟩
 |i+1=>by
  obtain⟨⟨x1,x2⟩,y1,y2⟩:=Zi3 hA Q i
  obtain⟨⟨c1,c2⟩,s1,s2⟩:=ZcI A Q i
  have hl:=Zgi hA i
  obtain⟨m1,m2⟩:=Zoc hl hl c1 c2
  obtain⟨m3,m4⟩:=Zoc hl hl s1 s2
  have e1:=Zy (endL A Q i).xl (mulLo (lenAt A i) (lenAt A i) (linkL A Q i).cl (linkL A Q i).ch)
  have e2:=Zy (endL A Q i).xh (mulHi (lenAt A i) (lenAt A i) (linkL A Q i).cl (linkL A Q i).ch)
  have e3:=Zy (endL A Q i).yl (mulLo (lenAt A i) (lenAt A i) (linkL A Q i).sl (linkL A Q i).sh)
  have e4:=Zy (endL A Q i).yh (mulHi (lenAt A i) (lenAt A i) (linkL A Q i).sl (linkL A Q i).sh)
  exact⟨⟨by show qs ((endL A Q i).xl+mulLo (lenAt A i) (lenAt A i) (linkL A Q i).cl (linkL A Q i).ch)≤_;omega,by show qs ((endL A Q i).xh+mulHi (lenAt A i) (lenAt A i) (linkL A Q i).cl (linkL A Q i).ch)≤_;omega⟩,
   by show qs ((endL A Q i).yl+mulLo (lenAt A i) (lenAt A i) (linkL A Q i).sl (linkL A Q i).sh)≤_;omega,by show qs ((endL A Q i).yh+mulHi (lenAt A i) (lenAt A i) (linkL A Q i).sl (linkL A Q i).sh)≤_;omega⟩
theorem Zq8 {A:ArmV} (hA:armE A=0) (Q:List (RV×RV)) (i:Nat):(linkL A Q i).zx (4+8*i):=Zi3 hA Q i
def rdL (f:LF):List D:=rd (cn f.xl)++rd (cn f.xh)++rd (cn f.yl)++rd (cn f.yh)++rd (cn f.cl)++rd (cn f.ch)++rd (cn f.sl)++rd (cn f.sh)
theorem Zkd (p q r u:Rat):qs (mulLo p q r u)≤qs p+qs q+qs r+qs u∧qs (mulHi p q r u)≤qs p+qs q+qs r+qs u:=by
 obtain⟨h1,h2⟩:=Zoc (a:=p) (b:=q) (c:=r) (d:=u) (B:=qs p+qs q) (C:=qs r+qs u) ω ω ω ω
 omega
open Classical in
noncomputable def spreadV (A:ArmV) (Q:List (RV×RV)):List LF:=if hasE A (Q.length:Int)=0 then spreadL A Q else []
theorem ZbW {A:ArmV} {Q:List (RV×RV)} (h:hasE A (Q.length:Int)=0):spreadV A Q=spreadL A Q:=if_pos h
theorem Zll {A:ArmV} {Q:List (RV×RV)} (h:¬ hasE A (Q.length:Int)=0):spreadV A Q= []:=if_neg h
section
variable {K : AV → Prop}
theorem Zlu (x y:RV) (n:Int) (hx:x.z≤268435456) (hy:y.z≤268435456) (hn:n≤9223372036854775807):Spec Tryz.prog Tab 150 [pair x y,int n] (pair (cn (downQ (slo x y) n)) (cn (upQ (shi x y) n))):=by
 refine Za Tryz.func150 rfl rfl Tryz.ntmps150 rfl ωr rfl rfl ?_
 refine ZbN (x:=x) (y:=y) ω ω (fun p6 q6 hk_6_2 hk_6_3 hk_6_4 hk_6_5=> ?_)
 simp only [cn_z] at hk_6_4
 simp only [cn_z] at hk_6_5
 refine ZsA (den:=n) (x:=cn p6) ωz ω (fun q10 hk_10_1 hk_10_2=> ?_)
 try simp only [cn_q] at hk_10_1
 simp only [cn_z] at hk_10_2
 refine k_up (den:=n) (x:=cn q6) ωz ω (fun q14 hk_14_1 hk_14_2=> ?_)
 try simp only [cn_q] at hk_14_1
 simp only [cn_z] at hk_14_2
 refine⟨ωr,?_⟩
 refine Eq.trans (b:=pair (cn q10) (cn q14)) ?_ rfl
 subst_vars;rfl
theorem ZtK {x y:RV} {n:Int} (hx:x.z≤268435456) (hy:y.z≤268435456) (hn:n≤9223372036854775807) (k:∀ ya yb,ya=downQ (slo x y) n→yb=upQ (shi x y) n→(cn ya).z≤x.z+100→(cn yb).z≤y.z+100→K (pair (cn ya) (cn yb))):Ask 150 [pair x y,int n] K:=use (Zlu x y n hx hy hn) rfl (k _ _ rfl rfl (by have:=ZbA x y;have:=Zf4 (slo x y) n hn;rw [cn_z] at*;omega) (by have:=ZbB x y;have:=Zf4 (-shi x y) n hn;have:=Zb6 (shi x y);have:=Zb6 (downQ (-shi x y) n);rw [cn_z] at*;show qs (-downQ (-shi x y) n)≤_;omega))
theorem ZqS  :Spec Tryz.prog Tab 151 [] (pair (cn ((-1:Int):Rat)) (cn ((1:Int):Rat))):=by
 refine Za Tryz.func151 rfl rfl Tryz.ntmps151 rfl ωr rfl rfl ?_
 refine k_of (-1) ω ω fun q1 h1 z1=> ?_
 simp only [cn_z] at z1
 refine k_of (1) ω ω fun q2 h2 z2=> ?_
 simp only [cn_z] at z2
 refine Eq.trans (b:=pair (cn q1) (cn q2)) ?_ rfl
 subst_vars;rfl
theorem ZvS (k:∀ ya yb,ya=((-1:Int):Rat)→yb=((1:Int):Rat)→(cn ya).z≤8→(cn yb).z≤8→K (pair (cn ya) (cn yb))):Ask 151 [] K:=use ZqS rfl (k _ _ rfl rfl Ztn Zhd)
theorem Zrr (x y:RV) (hx:x.z≤268435456) (hy:y.z≤268435456):Spec Tryz.prog Tab 120 [pair x y] (pair (cn (cutLo (slo x y))) (cn (cutHi (shi x y)))):=by
 refine Za Tryz.func120 rfl rfl Tryz.ntmps120 rfl ωr rfl rfl ?_
 refine ZtK (x:=x) (y:=y) (n:=1000000) ω ω ω (fun ya4 yb4 hk_4_2 hk_4_3 hk_4_4 hk_4_5=> ?_)
 simp only [cn_z] at hk_4_4
 simp only [cn_z] at hk_4_5
 refine ZvS   (fun ya7 yb7 hk_7_2 hk_7_3 hk_7_4 hk_7_5=> ?_)
 simp only [cn_z] at hk_7_4
 simp only [cn_z] at hk_7_5
 refine Zhu (x:=cn ya4) (y:=cn ya7) ωz ωz fun q9 h9 z9=> ?_
 simp only [cn_z] at z9
 simp only [cn_q] at h9
 refine ZvS   (fun ya12 yb12 hk_12_2 hk_12_3 hk_12_4 hk_12_5=> ?_)
 simp only [cn_z] at hk_12_4
 simp only [cn_z] at hk_12_5
 refine Zht (x:=cn yb4) (y:=cn yb12) ωz ωz fun q14 h14 z14=> ?_
 simp only [cn_z] at z14
 simp only [cn_q] at h14
 refine⟨ωr,?_⟩
 refine Eq.trans (b:=pair (cn q9) (cn q14)) ?_ rfl
 subst_vars;rfl
theorem Zl4 (a b c d e f g h:RV):Spec Tryz.prog Tab 93 [loose a b c d e f g h] (box a c b d):=by
 refine Za Tryz.func93 rfl rfl Tryz.ntmps93 rfl ωr rfl rfl ?_
 refine Eq.trans (b:=box a c b d) ?_ rfl
 rfl
theorem ZtU {a b c d e f g h:RV} (k:K (box a c b d)):Ask 93 [loose a b c d e f g h] K:=use (Zl4 a b c d e f g h) rfl k
theorem Zb7 {p q r u:Rat} (h1:sle p q) (h2:sle r u) (hp:qs p≤268435456) (hq:qs q≤268435456) (hr:qs r≤268435456) (hu:qs u≤268435456) (k:∀ ya yb,ya=mulLo p q r u→yb=mulHi p q r u→sle ya yb→qs ya≤qs p+qs q+qs r+qs u+20→qs yb≤qs p+qs q+qs r+qs u+20→K (pair (cn ya) (cn yb))):Ask 122 [pair (cn p) (cn q),pair (cn r) (cn u)] K:=by
 refine ZvJ ωn ωn ωn ωn fun ya yb ha hb z1 z2=> ?_
 simp only [Zag h1,Zah h1,Zag h2,Zah h2] at ha hb
 simp only [cn_z] at z1 z2
 exact k ya yb ha hb (by rw [ha,hb];exact Rat.le_trans (ZaX Rat.le_refl h1 Rat.le_refl h2).1 (ZaX Rat.le_refl h1 Rat.le_refl h2).2) ω ω
theorem Zfm {p q r u:Rat} (h1:sle p q) (h2:sle r u) (hp:qs p≤268435456) (hq:qs q≤268435456) (hr:qs r≤268435456) (hu:qs u≤268435456) (k:∀ ya yb,ya=p+r→yb=q+u→sle ya yb→qs ya≤qs p+qs q+qs r+qs u+20→qs yb≤qs p+qs q+qs r+qs u+20→K (pair (cn ya) (cn yb))):Ask 123 [pair (cn p) (cn q),pair (cn r) (cn u)] K:=by
 refine ZvK ωn ωn ωn ωn fun ya yb ha hb z1 z2=> ?_
 simp only [Zag h1,Zah h1,Zag h2,Zah h2] at ha hb
 simp only [cn_z] at z1 z2
 exact k ya yb ha hb (by rw [ha,hb];unfold sle at*;grind) ω ω
theorem Zsv {p q r u:Rat} (h1:sle p q) (h2:sle r u) (hp:qs p≤268435456) (hq:qs q≤268435456) (hr:qs r≤268435456) (hu:qs u≤268435456) (k:∀ ya yb,ya=p - u→yb=q - r→sle ya yb→qs ya≤qs p+qs q+qs r+qs u+20→qs yb≤qs p+qs q+qs r+qs u+20→K (pair (cn ya) (cn yb))):Ask 121 [pair (cn p) (cn q),pair (cn r) (cn u)] K:=by
 refine ZvI ωn ωn ωn ωn fun ya yb ha hb z1 z2=> ?_
 simp only [Zag h1,Zah h1,Zag h2,Zah h2] at ha hb
 simp only [cn_z] at z1 z2
 exact k ya yb ha hb (by rw [ha,hb];unfold sle at*;grind) ω ω
theorem ZoM {p q r u:Rat} (h1:sle p q) (h2:sle r u) (hp:qs p≤268435456) (hq:qs q≤268435456) (hr:qs r≤268435456) (hu:qs u≤268435456) (k:∀ ya yb,ya=minQ p r→yb=maxQ q u→sle ya yb→qs ya≤qs p+qs q+qs r+qs u+20→qs yb≤qs p+qs q+qs r+qs u+20→K (pair (cn ya) (cn yb))):Ask 92 [pair (cn p) (cn q),pair (cn r) (cn u)] K:=by
 refine Zc9 ωn ωn ωn ωn fun ya yb ha hb z1 z2=> ?_
 simp only [Zag h1,Zah h1,Zag h2,Zah h2] at ha hb
 simp only [cn_z] at z1 z2
 exact k ya yb ha hb (by rw [ha,hb];unfold sle minQ maxQ at*;grind) ω ω
theorem Zsw {p q:Rat} (h1:sle p q) (hp:qs p≤268435456) (hq:qs q≤268435456) (k:∀ ya yb,ya=cutLo p→yb=cutHi q→K (pair (cn ya) (cn yb))):Ask 120 [pair (cn p) (cn q)] K:=by
 have e1:slo (cn p) (cn q)=p:=Zag h1
 have e2:shi (cn p) (cn q)=q:=Zah h1
 exact use (Zrr (cn p) (cn q) (by rw [cn_z];exact hp) (by rw [cn_z];exact hq)) rfl (k _ _ (by rw [e1]) (by rw [e2]))
theorem ZvU {x y:RV} (hx:x.z≤3145760) (hy:y.z≤3145760) (k:∀ ya yb,ya=(cs3 (slo x y) (shi x y)).1→yb=(cs3 (slo x y) (shi x y)).2→sle ya yb→qs ya≤4*(x.z+y.z+8)+34→qs yb≤4*(x.z+y.z+8)+34→K (pair (cn ya) (cn yb))):Ask 118 [pair x y] K:=by
 refine ZoT ω ω fun ya yb ha hb=> ?_
 have hz1:=ZbA x y
 have hz2:=ZbB x y
 rw [cn_z] at hz1 hz2
 obtain⟨z1,z2⟩:=ZwT (l:=slo x y) (h:=shi x y) (B:=x.z+y.z+8) ω ω ω
 have e:=Zuf (ZgY x y)
 have ha:ya=(cs3 (slo x y) (shi x y)).1:=by rw [← e];exact ha
 have hb:yb=(cs3 (slo x y) (shi x y)).2:=by rw [← e];exact hb
 have hle:sle (cs3 (slo x y) (shi x y)).1 (cs3 (slo x y) (shi x y)).2:=Rat.le_trans (ZkQ _ _).1 (ZkQ _ _).2
 exact k ya yb ha hb (by rw [ha,hb];exact hle) (by rw [ha];exact z1) (by rw [hb];exact z2)
theorem ZvT {x y:RV} (hx:x.z≤3145760) (hy:y.z≤3145760) (k:∀ ya yb,ya=(sn3 (slo x y) (shi x y)).1→yb=(sn3 (slo x y) (shi x y)).2→sle ya yb→qs ya≤4*(x.z+y.z+8)+34→qs yb≤4*(x.z+y.z+8)+34→K (pair (cn ya) (cn yb))):Ask 119 [pair x y] K:=by
 refine ZoG ω ω fun ya yb ha hb=> ?_
 have hz1:=ZbA x y
 have hz2:=ZbB x y
 rw [cn_z] at hz1 hz2
 obtain⟨z1,z2⟩:=ZwB (l:=slo x y) (h:=shi x y) (B:=x.z+y.z+8) ω ω ω
 have e:=Zta (ZgY x y)
 rw [e] at ha hb
 have hle:sle (sn3 (slo x y) (shi x y)).1 (sn3 (slo x y) (shi x y)).2:=Rat.le_trans (ZjI _ _).1 (ZjI _ _).2
 exact k ya yb ha hb (by rw [ha,hb];exact hle) (by rw [ha];exact z1) (by rw [hb];exact z2)
set_option maxHeartbeats 4000000 in
theorem Zjk (A:ArmV) (Q:List (RV×RV)) (hA:A.ok) (hQ:∀ p,p∈Q→p.1.z≤3145760∧p.2.z≤3145760):Spec Tryz.prog Tab 90 [arm A,Xl rdv Q] (.tup [.one (.d (.list (map rdL (spreadV A Q)))),.one (.d (.v (.int .i64 (hasE A (Q.length:Int)))))]):=by
 have hA2:=hA
 obtain⟨z1,z2,z3,z4,z5,z6⟩:=hA
 have hL:(map lk A.links).length=A.links.length:=length_map ..
 have hLq:(map rdv Q).length=Q.length:=length_map ..
 refine Za Tryz.func90 rfl rfl Tryz.ntmps90 rfl ωr rfl rfl ?_
 refine Zfo (A:=A) (n:=((map rdv Q).length:Int)) ωs fun n19 hk_19_1=> ?_
 rw [length_map] at hk_19_1
 refine⟨fun e1=> ?_,fun e1=> ?_⟩
 ·have f21:n19≠0:=ZU e1
  refine Eq.trans (b:= .tup [.one (.d (.list ([]))),.one (.d (.v (.int .i64 (n19))))]) ?_ rfl
  rw [Zll (by rw [← hk_19_1];exact f21),← hk_19_1]
  all_goals rfl
 ·have f21:¬ (n19≠0):=fun hh=>hh (ZV e1)
  have h0:hasE A (Q.length:Int)=0:=by rw [← hk_19_1];exact Classical.not_not.1 f21
  obtain⟨hA0,hlen0⟩:=Z3.1 h0
  have hlen:Q.length=A.links.length:=ω
  obtain⟨hn3,hnz,hsb1,hsb2,hsb3,_⟩:=Zad hA0
  have hb1:=ZT hsb1
  have hb2:=ZT hsb2
  have hb3:=ZT hsb3
  refine Zc8 (x:=A.bx) ω (fun q28 hk_28_1 hk_28_2=> ?_)
  simp only [cn_z] at hk_28_2
  refine Zc8 (x:=A.by') ω (fun q32 hk_32_1 hk_32_2=> ?_)
  simp only [cn_z] at hk_32_2
  refine Zsr (h:=A.bh) (x:=A.bt) ω (fun q35 hk_35_1 hk_35_2=> ?_)
  simp only [cn_z] at hk_35_2
  refine Zc8 (x:=cn q35) ωz (fun q36 hk_36_1 hk_36_2=> ?_)
  try simp only [cn_q] at hk_36_1
  simp only [cn_z] at hk_36_2
  refine Zkr (h:=A.bh) (x:=A.bt) ω (fun q39 hk_39_1 hk_39_2=> ?_)
  simp only [cn_z] at hk_39_2
  refine Zc8 (x:=cn q39) ωz (fun q40 hk_40_1 hk_40_2=> ?_)
  try simp only [cn_q] at hk_40_1
  simp only [cn_z] at hk_40_2
  refine⟨ωr,?_⟩
  have b28:q28=(endL A Q 0).xl:=hk_28_1
  have b32:q32=(endL A Q 0).yl:=hk_32_1
  have b36:q36=(endL A Q 0).cl:=hk_36_1.trans hk_35_1
  have b40:q40=(endL A Q 0).sl:=hk_40_1.trans hk_39_1
  refine⟨Nat,fun i=> [(1,Xl rdv Q),(8,.val (.one (.ptr 8 0))),(9,.val (.one (.row 86 0))),(43,Xl lk A.links),(44,int ((map lk A.links).length:Int)),(45,int (i:Int))],
   fun i=> [(8,.var 158 [Xb (cn (endL A Q i).xl),Xs (cn (endL A Q i).xl),Xt (cn (endL A Q i).xl),Xb (cn (endL A Q i).xh),Xs (cn (endL A Q i).xh),Xt (cn (endL A Q i).xh),Xb (cn (endL A Q i).yl),Xs (cn (endL A Q i).yl),Xt (cn (endL A Q i).yl),Xb (cn (endL A Q i).yh),Xs (cn (endL A Q i).yh),Xt (cn (endL A Q i).yh),Xb (cn (endL A Q i).cl),Xs (cn (endL A Q i).cl),Xt (cn (endL A Q i).cl),Xb (cn (endL A Q i).ch),Xs (cn (endL A Q i).ch),Xt (cn (endL A Q i).ch),Xb (cn (endL A Q i).sl),Xs (cn (endL A Q i).sl),Xt (cn (endL A Q i).sl),Xb (cn (endL A Q i).sh),Xs (cn (endL A Q i).sh),Xt (cn (endL A Q i).sh)]),(86,.row 158 24 0 (map rdL (linksL A Q i)) true)],fun i=>i≤A.links.length,fun i=>A.links.length - i,0,?_,Nat.zero_le _,fun i hs=> ?_⟩
  ·constructor<;>(repeat' (first|exact rfl|exact True.intro|exact⟨_,_,rfl⟩|exact ωd|apply And.intro))
   all_goals first
    |exact congrArg (fun q:Rat=>D.v (.bool (cn q).s)) b28
    |exact congrArg (fun q:Rat=>D.v (.bool (cn q).s)) b28.symm
    |exact congrArg (fun q:Rat=>D.v (.string (cn q).a)) b28
    |exact congrArg (fun q:Rat=>D.v (.string (cn q).a)) b28.symm
    |exact congrArg (fun q:Rat=>D.v (.string (cn q).d)) b28
    |exact congrArg (fun q:Rat=>D.v (.string (cn q).d)) b28.symm
    |exact congrArg (fun q:Rat=>D.v (.bool (cn q).s)) b32
    |exact congrArg (fun q:Rat=>D.v (.bool (cn q).s)) b32.symm
    |exact congrArg (fun q:Rat=>D.v (.string (cn q).a)) b32
    |exact congrArg (fun q:Rat=>D.v (.string (cn q).a)) b32.symm
    |exact congrArg (fun q:Rat=>D.v (.string (cn q).d)) b32
    |exact congrArg (fun q:Rat=>D.v (.string (cn q).d)) b32.symm
    |exact congrArg (fun q:Rat=>D.v (.bool (cn q).s)) b36
    |exact congrArg (fun q:Rat=>D.v (.bool (cn q).s)) b36.symm
    |exact congrArg (fun q:Rat=>D.v (.string (cn q).a)) b36
    |exact congrArg (fun q:Rat=>D.v (.string (cn q).a)) b36.symm
    |exact congrArg (fun q:Rat=>D.v (.string (cn q).d)) b36
    |exact congrArg (fun q:Rat=>D.v (.string (cn q).d)) b36.symm
    |exact congrArg (fun q:Rat=>D.v (.bool (cn q).s)) b40
    |exact congrArg (fun q:Rat=>D.v (.bool (cn q).s)) b40.symm
    |exact congrArg (fun q:Rat=>D.v (.string (cn q).a)) b40
    |exact congrArg (fun q:Rat=>D.v (.string (cn q).a)) b40.symm
    |exact congrArg (fun q:Rat=>D.v (.string (cn q).d)) b40
    |exact congrArg (fun q:Rat=>D.v (.string (cn q).d)) b40.symm
    |exact ωa
    |(simp;done)
  obtain⟨⟨zc1,zc2⟩,zc3,zc4⟩:=Zua hA0 Q i
  obtain⟨⟨zx1,zx2⟩,zx3,zx4⟩:=Zi3 hA0 Q i
  obtain⟨ol1,ol2,ol3,ol4⟩:=LF.has_le (ZdK A Q i)
  obtain⟨⟨zl1,zl2⟩,zl3,zl4⟩:=ZcI A Q i
  obtain⟨ol7,ol8,ol9,ol10⟩:=LF.has_le (Zem A Q i)
  have hT:(map rdL (linksL A Q i)).length≤3:=by rw [length_map,ZlK];omega
  refine⟨fun e2=> ?_,fun e2=> ?_⟩
  ·have f46:(i:Int)< ((map lk A.links).length:Int):=of_decide_eq_true e2
   refine get_ex (l:=A.links) (i:=i) ωm fun x48 hx48=> ?_
   obtain⟨hs1,hs2,hs3,hs4,hs5,hs6,hs7⟩:=z6 x48 (List.mem_of_getElem? hx48)
   have hlx48:=Zkm hx48
   have hsmx48:=ZT (ZR hA0 (List.mem_of_getElem? hx48)).1
   refine k_ix i [Yb x48.len,Ys x48.len,Yt x48.len,Yb x48.low,Ys x48.low,Yt x48.low,Yb x48.high,Ys x48.high,Yt x48.high,Yb x48.speed,Ys x48.speed,Yt x48.speed,Yb x48.brake,Ys x48.brake,Yt x48.brake,D.list (map rdv x48.shape)] ωh (Zc hx48) rfl ?_
   refine get_ex (l:=Q) (i:=i) ωm fun x52 hx52=> ?_
   obtain⟨hzx52,hyx52⟩:=hQ x52 (List.mem_of_getElem? hx52)
   have hqx52:=Zs9 hx52
   refine k_ix i [Yb x52.1,Ys x52.1,Yt x52.1,Yb x52.2,Ys x52.2,Yt x52.2] ωh (Zc hx52) rfl ?_
   refine ZvU (x:=x52.1) (y:=x52.2) ω ω (fun ya54 yb54 hk_54_2 hk_54_3 hk_54_4 hk_54_5 hk_54_6=> ?_)
   refine k_ix i [Yb x52.1,Ys x52.1,Yt x52.1,Yb x52.2,Ys x52.2,Yt x52.2] ωh (Zc hx52) rfl ?_
   refine ZvT (x:=x52.1) (y:=x52.2) ω ω (fun ya59 yb59 hk_59_2 hk_59_3 hk_59_4 hk_59_5 hk_59_6=> ?_)
   refine⟨ωr,?_⟩
   refine Zb7 (p:=(endL A Q i).cl) (q:=(endL A Q i).ch) (r:=ya54) (u:=yb54) ωs ωs ω ω ω ω (fun ya64 yb64 hk_64_2 hk_64_3 hk_64_4 hk_64_5 hk_64_6=> ?_)
   refine Zb7 (p:=(endL A Q i).sl) (q:=(endL A Q i).sh) (r:=ya59) (u:=yb59) ωs ωs ω ω ω ω (fun ya68 yb68 hk_68_2 hk_68_3 hk_68_4 hk_68_5 hk_68_6=> ?_)
   refine Zsv (p:=ya64) (q:=yb64) (r:=ya68) (u:=yb68) ωs ωs ω ω ω ω (fun ya69 yb69 hk_69_2 hk_69_3 hk_69_4 hk_69_5 hk_69_6=> ?_)
   refine Zsw (p:=ya69) (q:=yb69) ωs ω ω (fun ya70 yb70 hk_70_2 hk_70_3=> ?_)
   refine⟨ωr,?_⟩
   refine Zb7 (p:=(endL A Q i).sl) (q:=(endL A Q i).sh) (r:=ya54) (u:=yb54) ωs ωs ω ω ω ω (fun ya75 yb75 hk_75_2 hk_75_3 hk_75_4 hk_75_5 hk_75_6=> ?_)
   refine Zb7 (p:=(endL A Q i).cl) (q:=(endL A Q i).ch) (r:=ya59) (u:=yb59) ωs ωs ω ω ω ω (fun ya79 yb79 hk_79_2 hk_79_3 hk_79_4 hk_79_5 hk_79_6=> ?_)
   refine Zfm (p:=ya75) (q:=yb75) (r:=ya79) (u:=yb79) ωs ωs ω ω ω ω (fun ya80 yb80 hk_80_2 hk_80_3 hk_80_4 hk_80_5 hk_80_6=> ?_)
   refine Zsw (p:=ya80) (q:=yb80) ωs ω ω (fun ya81 yb81 hk_81_2 hk_81_3=> ?_)
   have e70:ya70=(linkL A Q i).cl:=by rw [hk_70_2,hk_69_2,hk_64_2,hk_68_3,hk_54_2,hk_54_3,hk_59_2,hk_59_3,← hqx52.1,← hqx52.2];rfl
   have f70:yb70=(linkL A Q i).ch:=by rw [hk_70_3,hk_69_3,hk_64_3,hk_68_2,hk_54_2,hk_54_3,hk_59_2,hk_59_3,← hqx52.1,← hqx52.2];rfl
   have e81:ya81=(linkL A Q i).sl:=by rw [hk_81_2,hk_80_2,hk_75_2,hk_79_2,hk_54_2,hk_54_3,hk_59_2,hk_59_3,← hqx52.1,← hqx52.2];rfl
   have f81:yb81=(linkL A Q i).sh:=by rw [hk_81_3,hk_80_3,hk_75_3,hk_79_3,hk_54_2,hk_54_3,hk_59_2,hk_59_3,← hqx52.1,← hqx52.2];rfl
   have ol5:sle ya70 yb70:=by rw [e70,f70];exact ol9
   have ol6:sle ya81 yb81:=by rw [e81,f81];exact ol10
   have zl5:qs ya70≤3:=by rw [e70];exact zl1
   have zl6:qs yb70≤3:=by rw [f70];exact zl2
   have zl7:qs ya81≤3:=by rw [e81];exact zl3
   have zl8:qs yb81≤3:=by rw [f81];exact zl4
   refine⟨ωr,?_⟩
   refine⟨⟨row1 rfl,(by show ((map rdL (linksL A Q i)).length+1)*320≤_;omega),(by show ((map rdL (linksL A Q i)).length+1)≤_;omega)⟩,?_⟩
   refine Zc8 (x:=x48.len) ω (fun q89 hk_89_1 hk_89_2=> ?_)
   simp only [cn_z] at hk_89_2
   have hs89:sle q89 q89:=Rat.le_refl
   refine Zb7 (p:=q89) (q:=q89) (r:=ya70) (u:=yb70) ωs ωs ω ω ω ω (fun ya95 yb95 hk_95_2 hk_95_3 hk_95_4 hk_95_5 hk_95_6=> ?_)
   refine Zfm (p:=(endL A Q i).xl) (q:=(endL A Q i).xh) (r:=ya95) (u:=yb95) ωs ωs ω ω ω ω (fun ya96 yb96 hk_96_2 hk_96_3 hk_96_4 hk_96_5 hk_96_6=> ?_)
   refine⟨ωr,?_⟩
   refine Zb7 (p:=q89) (q:=q89) (r:=ya81) (u:=yb81) ωs ωs ω ω ω ω (fun ya103 yb103 hk_103_2 hk_103_3 hk_103_4 hk_103_5 hk_103_6=> ?_)
   refine Zfm (p:=(endL A Q i).yl) (q:=(endL A Q i).yh) (r:=ya103) (u:=yb103) ωs ωs ω ω ω ω (fun ya104 yb104 hk_104_2 hk_104_3 hk_104_4 hk_104_5 hk_104_6=> ?_)
   refine⟨ωr,?_⟩
   have hl:q89=lenAt A i:=hk_89_1.trans hlx48.symm
   have ex:ya96=(endL A Q (i+1)).xl:=by rw [hk_96_2,hk_95_2,hl,e70,f70];rfl
   have ex2:yb96=(endL A Q (i+1)).xh:=by rw [hk_96_3,hk_95_3,hl,e70,f70];rfl
   have ey:ya104=(endL A Q (i+1)).yl:=by rw [hk_104_2,hk_103_2,hl,e81,f81];rfl
   have ey2:yb104=(endL A Q (i+1)).yh:=by rw [hk_104_3,hk_103_3,hl,e81,f81];rfl
   subst ex ex2 ey ey2 e70 f70 e81 f81
   refine⟨i+1,ω,by simp only;omega,?_⟩
   constructor<;>(repeat' (first|exact rfl|exact True.intro|apply And.intro))
   all_goals first
    |(rw [ZiN];rfl)
    |exact ωb
    |exact ωa
  ·have f46:¬ ((i:Int)< ((map lk A.links).length:Int)):=of_decide_eq_false e2
   refine⟨⟨row1 rfl,(by show ((map rdL (linksL A Q i)).length+1)*320≤_;omega),(by show ((map rdL (linksL A Q i)).length+1)≤_;omega)⟩,?_⟩
   refine Eq.trans (b:= .tup [.one (.d (.list (map rdL (linksL A Q i)++ [[Yb (cn (endL A Q i).xl),Ys (cn (endL A Q i).xl),Yt (cn (endL A Q i).xl),Yb (cn (endL A Q i).xh),Ys (cn (endL A Q i).xh),Yt (cn (endL A Q i).xh),Yb (cn (endL A Q i).yl),Ys (cn (endL A Q i).yl),Yt (cn (endL A Q i).yl),Yb (cn (endL A Q i).yh),Ys (cn (endL A Q i).yh),Yt (cn (endL A Q i).yh),Yb (cn (endL A Q i).cl),Ys (cn (endL A Q i).cl),Yt (cn (endL A Q i).cl),Yb (cn (endL A Q i).ch),Ys (cn (endL A Q i).ch),Yt (cn (endL A Q i).ch),Yb (cn (endL A Q i).sl),Ys (cn (endL A Q i).sl),Yt (cn (endL A Q i).sl),Yb (cn (endL A Q i).sh),Ys (cn (endL A Q i).sh),Yt (cn (endL A Q i).sh)]]))),.one (.d (.v (.int .i64 (0))))]) ?_ rfl
   obtain rfl:i=A.links.length:=ω
   rw [ZbW h0,h0,spreadL,List.map_append]
   all_goals rfl
theorem Zrg {A:ArmV} {Q:List (RV×RV)} (hA:A.ok) (hQ:∀ p,p∈Q→p.1.z≤3145760∧p.2.z≤3145760) (k:∀ n,n=hasE A (Q.length:Int)→K (.tup [.one (.d (.list (map rdL (spreadV A Q)))),.one (.d (.v (.int .i64 n)))])):Ask 90 [arm A,Xl rdv Q] K:=use (Zjk A Q hA hQ) rfl (k _ rfl)
end
section
variable {K : AV → Prop}
section
variable  {p q r u : Rat}
end
section
variable  {p q r u : Rat}
end
section
variable  {p q r u : Rat}
end
end
