/- Joined by wip/bundle.py: XSpr0 XSprA XSprR. -/
import Derived.Test.YtgmkgfdjolchdaaGreatDoorQGrpQ
import Derived.Test.YtgmkgfdjolchdaaGreatDoorQForeA
set_option maxRecDepth 100000
namespace Go.Proofs.YtgmkgfdjolchdaaGreatDoor.eng
open Go.RowKit num mem seg q held ratA ratB ratC ratD ratE vars ratF trq
theorem qi_1:((1:Int):Rat)=1:=rfl
theorem Zlj:((-1:Int):Rat)=-1:=by decide+kernel
theorem qi_0:((0:Int):Rat)=0:=rfl
def sle (p q:Rat):Prop:=p≤q
theorem ZhR {c s:Rat} (h:unitC c s):(-1≤c∧c≤1)∧(-1≤s∧s≤1):=by
 unfold unitC at h
 have sq:∀ a:Rat,0≤a*a:=fun a=>by
  by_cases h:0≤a
  ·exact Rat.mul_nonneg h h
  ·have:=Rat.mul_nonneg (by grind:0≤-a) (by grind:0≤-a);grind
 have key:∀ a b:Rat,a*a+b*b=1→a≤1:=fun a b e=>by
  refine Rat.not_lt.1 fun hlt=> ?_
  have:=Rat.mul_nonneg (by grind:0≤a - 1) (by grind:0≤a - 1)
  have:=sq b
  grind
 have n1:=key c s h
 have n2:=key (-c) s (by grind)
 have n3:=key s c (by grind)
 have n4:=key (-s) c (by grind)
 exact⟨⟨by grind,n1⟩,⟨by grind,n3⟩⟩
theorem Zfh (t:Rat):(-1≤cosq false t∧cosq false t≤1)∧(-1≤sinq t∧sinq t≤1):=by
 have h:=Zft false t
 rw [ZaT] at h
 exact ZhR h
theorem Zbc (t:Rat):0< 1+t*t:=by
 have:0≤t*t:=by
  by_cases h:0≤t
  ·exact Rat.mul_nonneg h h
  ·have:=Rat.mul_nonneg (by grind:0≤-t) (by grind:0≤-t);grind
 grind
theorem ZdF {a b:Rat} (hb:0< b) {x:Rat} (h:x*b=a):(0≤a→0≤x)∧(a≤0→x≤0):=by
 constructor
 ·intro ha
  refine Rat.not_lt.1 fun hx=> ?_
  have:=Rat.mul_pos (by grind:0< -x) hb
  grind
 ·intro ha
  refine Rat.not_lt.1 fun hx=> ?_
  have:=Rat.mul_pos hx hb
  grind
theorem ZjA (t:Rat):(0≤t→0≤sinq t)∧(t≤0→sinq t≤0):=by
 obtain⟨_,h,_⟩:=Zau t
 obtain⟨a,b⟩:=ZdF (Zbc t) h
 exact⟨fun g=>a (by grind),fun g=>b (by grind)⟩
theorem ZoQ {t:Rat} (h:t≤-1∨1≤t):cosq false t≤0:=by
 obtain⟨e,_,_⟩:=Zau t
 refine(ZdF (Zbc t) e).2 ?_
 rcases h with h|h
 ·have:=Rat.mul_nonneg (by grind:0≤-t - 1) (by grind:0≤-t+1);grind
 ·have:=Rat.mul_nonneg (by grind:0≤t - 1) (by grind:0≤t+1);grind
theorem ZkH {t:Rat} (h1:-1≤t) (h2:t≤1):0≤cosq false t:=by
 obtain⟨e,_,_⟩:=Zau t
 refine(ZdF (Zbc t) e).1 ?_
 have:=Rat.mul_nonneg (by grind:0≤1 - t) (by grind:0≤1+t)
 grind
def ext3 (l h:Rat):List Rat:=([-1,0,1]:List Int).foldl (ext l h) [l,h]
def cs3 (l h:Rat):Rat×Rat:=(lowL (cosq false l) ((ext3 l h).map (cosq false)),highL (cosq false l) ((ext3 l h).map (cosq false)))
def sn3 (l h:Rat):Rat×Rat:=(lowL (sinq l) ((ext3 l h).map sinq),highL (sinq l) ((ext3 l h).map sinq))
theorem Zas {l h a:Rat}:hasQ l h a=true↔l≤a∧a≤h:=by
 unfold hasQ;rw [Bool.and_eq_true,decide_eq_true_iff,decide_eq_true_iff]
theorem ZqO {l h t:Rat} (ht:t∈ext3 l h):t=l∨t=h∨t=-1∨t=0∨t=1:=by
 unfold ext3 ext at ht
 simp only [List.foldl_cons,List.foldl_nil,qi_1,Zlj,qi_0] at ht
 (repeat' split at ht)<;>simp at ht<;>grind
theorem Zfv:cosq false (-1)=0∧cosq false 0=1∧cosq false 1=0∧sinq (-1)=-1∧sinq 0=0∧sinq 1=1:=by decide+kernel
theorem ZoP {l h:Rat} (_:l≤h):(cosF (sqHi l h),cosF (sqLo l h))=cs3 l h:=by
 obtain⟨e1,e2,e3,_⟩:=Zfv
 rw [Ztr,ZqZ]
 unfold cosL cosH
 rw [ZdI,ZdI]
 obtain⟨⟨a1,a2⟩,_⟩:=Zfh l
 obtain⟨⟨b1,b2⟩,_⟩:=Zfh h
 have f1:hasQ l h 1=true→cosq false h≤0:=fun e=>ZoQ (.inr (Zas.1 e).2)
 have fm:hasQ l h (-1)=true→cosq false l≤0:=fun e=>ZoQ (.inl (Zas.1 e).1)
 have g1:hasQ l h 1=true→¬ hasQ l h 0=true→0≤cosq false l:=fun e e0=>by
  rw [Zas] at e e0
  exact ZkH (by grind) e.1
 have gm:hasQ l h (-1)=true→¬ hasQ l h 0=true→0≤cosq false h:=fun e e0=>by
  rw [Zas] at e e0
  exact ZkH e.2 (by grind)
 unfold cs3 ext3 ext
 simp only [List.foldl_cons,List.foldl_nil,qi_1,Zlj,qi_0]
 generalize ha:cosq false l=a at*
 generalize hb:cosq false h=b at*
 by_cases c1:hasQ l h 1=true<;>by_cases c0:hasQ l h 0=true<;>by_cases cm:hasQ l h (-1)=true<;>
  simp only [c1,c0,cm,if_true,if_false,Bool.false_eq_true,List.cons_append,List.nil_append,List.map_cons,List.map_nil,ha,hb,e1,e2,e3,lowL,highL,List.foldl_cons,List.foldl_nil]<;>
  try simp only [c1,c0,cm,true_implies,false_implies,not_true_eq_false,not_false_eq_true,Bool.false_eq_true] at f1 fm g1 gm<;>
  unfold lowF highF<;>(refine Prod.ext ?_ ?_)<;>grind
theorem Zsr {l h:Rat} (_:l≤h):sinS l h=sn3 l h:=by
 obtain⟨_,_,_,e1,e2,e3⟩:=Zfv
 obtain⟨_,a1,a2⟩:=Zfh l
 obtain⟨_,b1,b2⟩:=Zfh h
 have f0:hasQ l h 0=true→sinq l≤0∧0≤sinq h:=fun e=>⟨(ZjA l).2 (Zas.1 e).1,(ZjA h).1 (Zas.1 e).2⟩
 unfold sinS sn3 ext3 ext stp
 simp only [List.foldl_cons,List.foldl_nil,qi_1,Zlj,qi_0]
 generalize ha:sinq l=a at*
 generalize hb:sinq h=b at*
 by_cases c1:hasQ l h 1=true<;>by_cases c0:hasQ l h 0=true<;>by_cases cm:hasQ l h (-1)=true<;>
  simp only [c1,c0,cm,if_true,if_false,Bool.false_eq_true,List.cons_append,List.nil_append,List.map_cons,List.map_nil,ha,hb,e1,e2,e3,lowL,highL,List.foldl_cons,List.foldl_nil]<;>
  try simp only [c0,true_implies,false_implies,Bool.false_eq_true] at f0<;>
  unfold lowF highF minQ maxQ<;>(refine Prod.ext ?_ ?_)<;>grind
theorem ZkF (l h:Rat):(cs3 l h).1≤cosq false l∧cosq false l≤(cs3 l h).2:=⟨(Za6 _ _).1,(Zaf _ _).1⟩
theorem Zjy (l h:Rat):(sn3 l h).1≤sinq l∧sinq l≤(sn3 l h).2:=⟨(Za6 _ _).1,(Zaf _ _).1⟩
theorem Zr0 {l h:Rat} {B:Nat} (hl:qs l≤B) (hh:qs h≤B) (hB:1≤B):∀ t,t∈ext3 l h→qs t≤B:=by
 intro t ht
 have z1:qs (-1:Rat)≤1:=by decide+kernel
 have z2:qs (0:Rat)≤1:=by decide+kernel
 have z3:qs (1:Rat)≤1:=by decide+kernel
 rcases ZqO ht with rfl|rfl|rfl|rfl|rfl<;>omega
theorem Zwf {l h:Rat} {B:Nat} (hl:qs l≤B) (hh:qs h≤B) (hB:1≤B):qs (cs3 l h).1≤4*B+34∧qs (cs3 l h).2≤4*B+34:=by
 have k:∀ q,q∈cosq false l :: (ext3 l h).map (cosq false)→qs q≤4*B+34:=by
  intro q hq
  rcases List.mem_cons.1 hq with rfl|hq
  ·have:=(Zil l).1;omega
  ·obtain⟨t,ht,rfl⟩:=List.mem_map.1 hq
   have:=Zr0 hl hh hB t ht
   have:=(Zil t).1;omega
 exact⟨ZbI k,ZaZ k⟩
theorem ZvU {l h:Rat} {B:Nat} (hl:qs l≤B) (hh:qs h≤B) (hB:1≤B):qs (sn3 l h).1≤4*B+34∧qs (sn3 l h).2≤4*B+34:=by
 have k:∀ q,q∈sinq l :: (ext3 l h).map sinq→qs q≤4*B+34:=by
  intro q hq
  rcases List.mem_cons.1 hq with rfl|hq
  ·have:=(Zil l).2;omega
  ·obtain⟨t,ht,rfl⟩:=List.mem_map.1 hq
   have:=Zr0 hl hh hB t ht
   have:=(Zil t).2;omega
 exact⟨ZbI k,ZaZ k⟩
theorem ZnR {a b x y m:Rat} (h1:a≤x) (h2:x≤b) (e1:m≤a*y) (e2:m≤b*y):m≤x*y:=by
 by_cases h:0≤y
 ·have:=Rat.mul_nonneg (by grind:0≤x - a) h;grind
 ·have:=Rat.mul_nonneg (by grind:0≤b - x) (by grind:0≤-y);grind
theorem ZaV {a b c d x y:Rat} (h1:a≤x) (h2:x≤b) (h3:c≤y) (h4:y≤d):mulLo a b c d≤x*y∧x*y≤mulHi a b c d:=by
 obtain⟨l1,l2⟩:=Za6 [a*d,b*c,b*d] (a*c)
 obtain⟨g1,g2⟩:=Zaf [a*d,b*c,b*d] (a*c)
 have l3:=l2 (a*d) (by simp);have l4:=l2 (b*c) (by simp);have l5:=l2 (b*d) (by simp)
 have g3:=g2 (a*d) (by simp);have g4:=g2 (b*c) (by simp);have g5:=g2 (b*d) (by simp)
 change mulLo a b c d≤_ at l1 l3 l4 l5
 change _≤mulHi a b c d at g1 g3 g4 g5
 have m1:∀ p:Rat,∀ m,m≤p*c→m≤p*d→m≤p*y:=fun p m e1 e2=>by
  have:=ZnR h3 h4 (m:=m) (y:=p) (by grind) (by grind);grind
 constructor
 ·exact ZnR h1 h2 (m1 a _ l1 l3) (m1 b _ l4 l5)
 ·have:=ZnR (m:=-mulHi a b c d) (y:=-y) h1 h2 (by have:=m1 (-a) (-mulHi a b c d) (by grind) (by grind);grind) (by have:=m1 (-b) (-mulHi a b c d) (by grind) (by grind);grind)
  grind
theorem ZnE {a b c d:Rat} {B C:Nat} (h1:qs a≤B) (h2:qs b≤B) (h3:qs c≤C) (h4:qs d≤C):qs (mulLo a b c d)≤B+C∧qs (mulHi a b c d)≤B+C:=by
 have k:∀ q,q∈a*c :: [a*d,b*c,b*d]→qs q≤B+C:=by
  intro q hq
  simp only [List.mem_cons,List.not_mem_nil,or_false] at hq
  rcases hq with rfl|rfl|rfl|rfl
  ·have:=Zp a c;omega
  ·have:=Zp a d;omega
  ·have:=Zp b c;omega
  ·have:=Zp b d;omega
 exact⟨ZbI k,ZaZ k⟩
def mill:Rat:=((1000000:Int):Rat)
def cutLo (q:Rat):Rat:=maxQ (downQ q 1000000) ((-1:Int):Rat)
def cutHi (q:Rat):Rat:=minQ (upQ q 1000000) ((1:Int):Rat)
theorem Zga (q:Rat):downQ q 1000000=((q*mill).floor:Rat) / mill:=by
 unfold downQ
 rw [show dnN 1000000=1000000 from rfl,Rat.mkRat_eq_div];rfl
theorem ZfX:(0:Rat)< mill:=by decide+kernel
theorem ZsV:mill≠0:=by decide+kernel
theorem ZoG (q:Rat):downQ q 1000000≤q:=by
 rw [Zga]
 have h:=Rat.floor_le (a:=q*mill)
 refine Rat.not_lt.1 fun hlt=> ?_
 rw [Rat.lt_div_iff ZfX] at hlt
 exact absurd h (Rat.not_le.2 hlt)
theorem ZvP (q:Rat):q≤upQ q 1000000:=by
 have:=ZoG (-q)
 unfold upQ;grind
theorem Zfg {q c:Rat} (h1:-1≤c) (h2:c≤1):(q≤c→cutLo q≤c)∧(c≤q→c≤cutHi q):=by
 have a:=ZoG q
 have b:=ZvP q
 unfold cutLo cutHi maxQ minQ
 rw [qi_1,Zlj]
 constructor<;>intro h<;>split<;>grind
theorem ZrC {n:Int} (h1:-1≤(n:Rat) / mill) (h2:(n:Rat) / mill≤1):qs ((n:Rat) / mill)≤3:=by
 have e:(n:Rat) / mill=mkRat n 1000000:=by rw [Rat.mkRat_eq_div];rfl
 have hm:(n:Rat)=(n:Rat) / mill*mill:=(Rat.div_mul_cancel ZsV).symm
 have p:=Rat.mul_nonneg (by grind:0≤1 - (n:Rat) / mill) (Rat.le_of_lt ZfX)
 have q:=Rat.mul_nonneg (by grind:0≤1+(n:Rat) / mill) (Rat.le_of_lt ZfX)
 have a1:(n:Rat)≤((1000000:Int):Rat):=by show _≤mill;grind
 have a2:((-1000000:Int):Rat)≤(n:Rat):=by
  have:((-1000000:Int):Rat)=-mill:=by decide+kernel
  rw [this];grind
 have b1:=Rat.intCast_le_intCast.1 a1
 have b2:=Rat.intCast_le_intCast.1 a2
 rw [e]
 exact Zdu ωd ω ωd
theorem ZoM {q c:Rat} (h1:-1≤c) (h2:c≤1) (h:q≤c):qs (cutLo q)≤3:=by
 have a:=(Zfg (q:=q) h1 h2).1 h
 have z:qs ((-1:Int):Rat)≤3:=by decide+kernel
 unfold cutLo maxQ at*
 rw [Zlj] at*
 split at a
 ·rename_i g;rw [if_pos g,Zga];rw [Zga] at a g;exact ZrC g (Rat.le_trans a h2)
 ·rename_i g;rw [if_neg g];exact z
theorem neg_div' (n:Int):-((n:Rat) / mill)=((-n:Int):Rat) / mill:=by
 rw [Rat.intCast_neg,Rat.div_def,Rat.div_def];grind
theorem ZoN {q c:Rat} (h1:-1≤c) (h2:c≤1) (h:c≤q):qs (cutHi q)≤3:=by
 have a:=(Zfg (q:=q) h1 h2).2 h
 have z:qs ((1:Int):Rat)≤3:=by decide+kernel
 unfold cutHi minQ at*
 rw [qi_1] at*
 split at a
 ·rename_i g;rw [if_pos g];unfold upQ at*;rw [Zga,neg_div'] at*;exact ZrC (Rat.le_trans h1 a) g
 ·rename_i g;rw [if_neg g];exact z
structure LF where
 xl:Rat
 xh:Rat
 yl:Rat
 yh:Rat
 cl:Rat
 ch:Rat
 sl:Rat
 sh:Rat
def LF.has (f:LF) (g:RF):Prop:=(f.xl≤g.x∧g.x≤f.xh)∧(f.yl≤g.y∧g.y≤f.yh)∧(f.cl≤g.c∧g.c≤f.ch)∧(f.sl≤g.s∧g.s≤f.sh)
def tightL (g:RF):LF:=⟨g.x,g.x,g.y,g.y,g.c,g.c,g.s,g.s⟩
theorem ZeO (g:RF):(tightL g).has g:=⟨⟨Rat.le_refl,Rat.le_refl⟩,⟨Rat.le_refl,Rat.le_refl⟩,⟨Rat.le_refl,Rat.le_refl⟩,⟨Rat.le_refl,Rat.le_refl⟩⟩
def turnCl (f:LF) (c s:Rat×Rat):Rat:=mulLo f.cl f.ch c.1 c.2 - mulHi f.sl f.sh s.1 s.2
def turnCh (f:LF) (c s:Rat×Rat):Rat:=mulHi f.cl f.ch c.1 c.2 - mulLo f.sl f.sh s.1 s.2
def turnSl (f:LF) (c s:Rat×Rat):Rat:=mulLo f.sl f.sh c.1 c.2+mulLo f.cl f.ch s.1 s.2
def turnSh (f:LF) (c s:Rat×Rat):Rat:=mulHi f.sl f.sh c.1 c.2+mulHi f.cl f.ch s.1 s.2
def turnL (f:LF) (c s:Rat×Rat):LF:=⟨f.xl,f.xh,f.yl,f.yh,cutLo (turnCl f c s),cutHi (turnCh f c s),cutLo (turnSl f c s),cutHi (turnSh f c s)⟩
def longL (f:LF) (n:Rat):LF:=⟨f.xl+mulLo n n f.cl f.ch,f.xh+mulHi n n f.cl f.ch,f.yl+mulLo n n f.sl f.sh,f.yh+mulHi n n f.sl f.sh,f.cl,f.ch,f.sl,f.sh⟩
theorem Zmd {f:LF} {g:RF} (h:f.has g) {c s:Rat×Rat} {t:Rat} (hc:c.1≤cosq false t∧cosq false t≤c.2) (hs:s.1≤sinq t∧sinq t≤s.2):
  (turnCl f c s≤(turnF g t).c∧(turnF g t).c≤turnCh f c s)∧(turnSl f c s≤(turnF g t).s∧(turnF g t).s≤turnSh f c s):=by
 obtain⟨_,_,⟨c1,c2⟩,s1,s2⟩:=h
 have a:=ZaV c1 c2 hc.1 hc.2
 have b:=ZaV s1 s2 hs.1 hs.2
 have d:=ZaV s1 s2 hc.1 hc.2
 have e:=ZaV c1 c2 hs.1 hs.2
 unfold turnCl turnCh turnSl turnSh turnF
 simp only
 exact⟨⟨by grind,by grind⟩,⟨by grind,by grind⟩⟩
theorem ZdK {f:LF} {g:RF} (h:f.has g) (hu:g.u) {c s:Rat×Rat} {t:Rat} (hc:c.1≤cosq false t∧cosq false t≤c.2) (hs:s.1≤sinq t∧sinq t≤s.2):(turnL f c s).has (turnF g t):=by
 obtain⟨⟨a1,a2⟩,a3,a4⟩:=Zmd h hc hs
 obtain⟨⟨u1,u2⟩,u3,u4⟩:=ZhR (ZdL hu t)
 exact⟨h.1,h.2.1,⟨(Zfg u1 u2).1 a1,(Zfg u1 u2).2 a2⟩,(Zfg u3 u4).1 a3,(Zfg u3 u4).2 a4⟩
theorem Zg8 {f:LF} {g:RF} (h:f.has g) (n:Rat):(longL f n).has (longF g n):=by
 obtain⟨⟨x1,x2⟩,⟨y1,y2⟩,⟨c1,c2⟩,s1,s2⟩:=h
 have a:=ZaV (Rat.le_refl (a:=n)) Rat.le_refl c1 c2
 have b:=ZaV (Rat.le_refl (a:=n)) Rat.le_refl s1 s2
 refine⟨⟨?_,?_⟩,⟨?_,?_⟩,⟨c1,c2⟩,s1,s2⟩
 ·show f.xl+mulLo n n f.cl f.ch≤g.x+g.c*n;grind
 ·show g.x+g.c*n≤f.xh+mulHi n n f.cl f.ch;grind
 ·show f.yl+mulLo n n f.sl f.sh≤g.y+g.s*n;grind
 ·show g.y+g.s*n≤f.yh+mulHi n n f.sl f.sh;grind
def LF.le (f:LF):Prop:=sle f.xl f.xh∧sle f.yl f.yh∧sle f.cl f.ch∧sle f.sl f.sh
theorem LF.has_le {f:LF} {g:RF} (h:f.has g):f.le:=⟨Rat.le_trans h.1.1 h.1.2,Rat.le_trans h.2.1.1 h.2.1.2,Rat.le_trans h.2.2.1.1 h.2.2.1.2,Rat.le_trans h.2.2.2.1 h.2.2.2.2⟩
def spAt (Q:List (RV×RV)) (i:Nat):RV×RV:=(Q[i]?).getD (z0,z0)
def loAt (Q:List (RV×RV)) (i:Nat):Rat:=slo (spAt Q i).1 (spAt Q i).2
def hiAt (Q:List (RV×RV)) (i:Nat):Rat:=shi (spAt Q i).1 (spAt Q i).2
theorem Zmz {Q:List (RV×RV)} {i:Nat} {x:RV×RV} (h:Q[i]? =some x):loAt Q i=slo x.1 x.2∧hiAt Q i=shi x.1 x.2:=by simp [loAt,hiAt,spAt,h]
def endL (A:ArmV) (Q:List (RV×RV)):Nat→LF
 |0=>tightL (baseF A)
 |i+1=>longL (turnL (endL A Q i) (cs3 (loAt Q i) (hiAt Q i)) (sn3 (loAt Q i) (hiAt Q i))) (lenAt A i)
def linkL (A:ArmV) (Q:List (RV×RV)) (i:Nat):LF:=turnL (endL A Q i) (cs3 (loAt Q i) (hiAt Q i)) (sn3 (loAt Q i) (hiAt Q i))
def endX (A:ArmV) (Q:List (RV×RV)):Nat→RF
 |0=>baseF A
 |i+1=>longF (turnF (endX A Q i) (loAt Q i)) (lenAt A i)
theorem Zoz (A:ArmV) (Q:List (RV×RV)):∀ i,(endX A Q i).u
 |0=>Zft _ _
 |i+1=>ZnO (ZdL (Zoz A Q i) _) _
theorem linkL_has' {A:ArmV} {Q:List (RV×RV)} {i:Nat} (h:(endL A Q i).has (endX A Q i)):(linkL A Q i).has (turnF (endX A Q i) (loAt Q i)):=ZdK h (Zoz A Q i) (ZkF _ _) (Zjy _ _)
theorem ZdD (A:ArmV) (Q:List (RV×RV)):∀ i,(endL A Q i).has (endX A Q i)
 |0=>ZeO _
 |i+1=>Zg8 (linkL_has' (ZdD A Q i)) _
theorem Zha (A:ArmV) (Q:List (RV×RV)) (i:Nat):(linkL A Q i).has (turnF (endX A Q i) (loAt Q i)):=linkL_has' (ZdD A Q i)
def linksL (A:ArmV) (Q:List (RV×RV)) (n:Nat):List LF:=(List.range n).map (linkL A Q)
def spreadL (A:ArmV) (Q:List (RV×RV)):List LF:=linksL A Q A.links.length++ [endL A Q A.links.length]
theorem Zlp (A:ArmV) (Q:List (RV×RV)) (n:Nat):(linksL A Q n).length=n:=by simp [linksL]
theorem ZdR (A:ArmV) (Q:List (RV×RV)):(spreadL A Q).length=A.links.length+1:=by simp [spreadL,linksL]
theorem ZiH {α:Type} (g:LF→α) (A:ArmV) (Q:List (RV×RV)) (i:Nat):List.map g (linksL A Q (i+1))=List.map g (linksL A Q i)++ [g (linkL A Q i)]:=by
 simp [linksL,List.range_succ]
def LF.zc (f:LF) (B:Nat):Prop:=(qs f.cl≤B∧qs f.ch≤B)∧(qs f.sl≤B∧qs f.sh≤B)
def LF.zx (f:LF) (B:Nat):Prop:=(qs f.xl≤B∧qs f.xh≤B)∧(qs f.yl≤B∧qs f.yh≤B)
theorem Zpr {f:LF} {g:RF} (h:f.has g) (hu:g.u) {c s:Rat×Rat} {t:Rat} (hc:c.1≤cosq false t∧cosq false t≤c.2) (hs:s.1≤sinq t∧sinq t≤s.2):(turnL f c s).zc 3:=by
 obtain⟨⟨a1,a2⟩,a3,a4⟩:=Zmd h hc hs
 obtain⟨⟨u1,u2⟩,u3,u4⟩:=ZhR (ZdL hu t)
 exact⟨⟨ZoM u1 u2 a1,ZoN u1 u2 a2⟩,ZoM u3 u4 a3,ZoN u3 u4 a4⟩
theorem ZcG (A:ArmV) (Q:List (RV×RV)) (i:Nat):(linkL A Q i).zc 3:=Zpr (ZdD A Q i) (Zoz A Q i) (ZkF _ _) (Zjy _ _)
theorem Ztn {A:ArmV} (hA:armE A=0) (Q:List (RV×RV)):∀ i,(endL A Q i).zc 66
 |0=>by obtain⟨_,_,b3,b4⟩:=ZkL hA;exact⟨⟨b3,b3⟩,b4,b4⟩
 |i+1=>by
  obtain⟨⟨a1,a2⟩,a3,a4⟩:=ZcG A Q i
  exact⟨⟨Nat.le_trans a1 ωd,Nat.le_trans a2 ωd⟩,Nat.le_trans a3 ωd,Nat.le_trans a4 ωd⟩
theorem ZiW {A:ArmV} (hA:armE A=0) (Q:List (RV×RV)):∀ i,(endL A Q i).zx (4+8*i)
 |0=>by obtain⟨b1,b2,_⟩:=ZkL hA;exact⟨⟨b1,b1⟩,b2,b2⟩
 |i+1=>by
  obtain⟨⟨x1,x2⟩,y1,y2⟩:=ZiW hA Q i
  obtain⟨⟨c1,c2⟩,s1,s2⟩:=ZcG A Q i
  have hl:=Zc3 hA i
  obtain⟨m1,m2⟩:=ZnE hl hl c1 c2
  obtain⟨m3,m4⟩:=ZnE hl hl s1 s2
  have e1:=Zw (endL A Q i).xl (mulLo (lenAt A i) (lenAt A i) (linkL A Q i).cl (linkL A Q i).ch)
  have e2:=Zw (endL A Q i).xh (mulHi (lenAt A i) (lenAt A i) (linkL A Q i).cl (linkL A Q i).ch)
  have e3:=Zw (endL A Q i).yl (mulLo (lenAt A i) (lenAt A i) (linkL A Q i).sl (linkL A Q i).sh)
  have e4:=Zw (endL A Q i).yh (mulHi (lenAt A i) (lenAt A i) (linkL A Q i).sl (linkL A Q i).sh)
  exact⟨⟨by show qs ((endL A Q i).xl+mulLo (lenAt A i) (lenAt A i) (linkL A Q i).cl (linkL A Q i).ch)≤_;omega,by show qs ((endL A Q i).xh+mulHi (lenAt A i) (lenAt A i) (linkL A Q i).cl (linkL A Q i).ch)≤_;omega⟩,
   by show qs ((endL A Q i).yl+mulLo (lenAt A i) (lenAt A i) (linkL A Q i).sl (linkL A Q i).sh)≤_;omega,by show qs ((endL A Q i).yh+mulHi (lenAt A i) (lenAt A i) (linkL A Q i).sl (linkL A Q i).sh)≤_;omega⟩
theorem Zqx {A:ArmV} (hA:armE A=0) (Q:List (RV×RV)) (i:Nat):(linkL A Q i).zx (4+8*i):=ZiW hA Q i
def rdL (f:LF):List D:=rd (cn f.xl)++rd (cn f.xh)++rd (cn f.yl)++rd (cn f.yh)++rd (cn f.cl)++rd (cn f.ch)++rd (cn f.sl)++rd (cn f.sh)
theorem Zj1 (p q r u:Rat):qs (mulLo p q r u)≤qs p+qs q+qs r+qs u∧qs (mulHi p q r u)≤qs p+qs q+qs r+qs u:=by
 obtain⟨h1,h2⟩:=ZnE (a:=p) (b:=q) (c:=r) (d:=u) (B:=qs p+qs q) (C:=qs r+qs u) ω ω ω ω
 omega
open Classical in
noncomputable def spreadV (A:ArmV) (Q:List (RV×RV)):List LF:=if hasE A (Q.length:Int)=0 then spreadL A Q else []
theorem ZbU {A:ArmV} {Q:List (RV×RV)} (h:hasE A (Q.length:Int)=0):spreadV A Q=spreadL A Q:=if_pos h
theorem Zk4 {A:ArmV} {Q:List (RV×RV)} (h:¬ hasE A (Q.length:Int)=0):spreadV A Q= []:=if_neg h
section
variable {K : AV → Prop}
theorem Zlc (x y:RV) (n:Int) (hx:x.z≤268435456) (hy:y.z≤268435456) (hn:n≤9223372036854775807):Spec Tryz.prog Tab 117 [pair x y,int n] (pair (cn (downQ (slo x y) n)) (cn (upQ (shi x y) n))):=by
 refine Za Tryz.func117 rfl rfl Tryz.ntmps117 rfl ωr rfl rfl ?_
 refine ZbL (x:=x) (y:=y) ω ω (fun p6 q6 hk_6_2 hk_6_3 hk_6_4 hk_6_5=> ?_)
 simp only [cn_z] at hk_6_4
 simp only [cn_z] at hk_6_5
 refine ZrS (den:=n) (x:=cn p6) ωz ω (fun q10 hk_10_1 hk_10_2=> ?_)
 try simp only [cn_q] at hk_10_1
 simp only [cn_z] at hk_10_2
 refine k_up (den:=n) (x:=cn q6) ωz ω (fun q14 hk_14_1 hk_14_2=> ?_)
 try simp only [cn_q] at hk_14_1
 simp only [cn_z] at hk_14_2
 refine⟨ωr,?_⟩
 refine Eq.trans (b:=pair (cn q10) (cn q14)) ?_ rfl
 subst_vars;rfl
theorem Zs0 {x y:RV} {n:Int} (hx:x.z≤268435456) (hy:y.z≤268435456) (hn:n≤9223372036854775807) (k:∀ ya yb,ya=downQ (slo x y) n→yb=upQ (shi x y) n→(cn ya).z≤x.z+100→(cn yb).z≤y.z+100→K (pair (cn ya) (cn yb))):Ask 117 [pair x y,int n] K:=use (Zlc x y n hx hy hn) rfl (k _ _ rfl rfl (by have:=Zby x y;have:=ZfN (slo x y) n hn;rw [cn_z] at*;omega) (by have:=Zbz x y;have:=ZfN (-shi x y) n hn;have:=ZcB (shi x y);have:=ZcB (downQ (-shi x y) n);rw [cn_z] at*;show qs (-downQ (-shi x y) n)≤_;omega))
theorem Zqf  :Spec Tryz.prog Tab 118 [] (pair (cn ((-1:Int):Rat)) (cn ((1:Int):Rat))):=by
 refine Za Tryz.func118 rfl rfl Tryz.ntmps118 rfl ωr rfl rfl ?_
 refine k_of (-1) ω ω fun q1 h1 z1=> ?_
 simp only [cn_z] at z1
 refine k_of (1) ω ω fun q2 h2 z2=> ?_
 simp only [cn_z] at z2
 refine Eq.trans (b:=pair (cn q1) (cn q2)) ?_ rfl
 subst_vars;rfl
theorem Zu6 (k:∀ ya yb,ya=((-1:Int):Rat)→yb=((1:Int):Rat)→(cn ya).z≤8→(cn yb).z≤8→K (pair (cn ya) (cn yb))):Ask 118 [] K:=use Zqf rfl (k _ _ rfl rfl ZsF ZgX)
theorem ZqW (x y:RV) (hx:x.z≤268435456) (hy:y.z≤268435456):Spec Tryz.prog Tab 77 [pair x y] (pair (cn (cutLo (slo x y))) (cn (cutHi (shi x y)))):=by
 refine Za Tryz.func77 rfl rfl Tryz.ntmps77 rfl ωr rfl rfl ?_
 refine Zs0 (x:=x) (y:=y) (n:=1000000) ω ω ω (fun ya4 yb4 hk_4_2 hk_4_3 hk_4_4 hk_4_5=> ?_)
 simp only [cn_z] at hk_4_4
 simp only [cn_z] at hk_4_5
 refine Zu6   (fun ya7 yb7 hk_7_2 hk_7_3 hk_7_4 hk_7_5=> ?_)
 simp only [cn_z] at hk_7_4
 simp only [cn_z] at hk_7_5
 refine ZiP (x:=cn ya4) (y:=cn ya7) ωz ωz fun q9 h9 z9=> ?_
 simp only [cn_z] at z9
 simp only [cn_q] at h9
 refine Zu6   (fun ya12 yb12 hk_12_2 hk_12_3 hk_12_4 hk_12_5=> ?_)
 simp only [cn_z] at hk_12_4
 simp only [cn_z] at hk_12_5
 refine ZiO (x:=cn yb4) (y:=cn yb12) ωz ωz fun q14 h14 z14=> ?_
 simp only [cn_z] at z14
 simp only [cn_q] at h14
 refine⟨ωr,?_⟩
 refine Eq.trans (b:=pair (cn q9) (cn q14)) ?_ rfl
 subst_vars;rfl
theorem ZlH (a b c d e f g h:RV):Spec Tryz.prog Tab 38 [loose a b c d e f g h] (box a c b d):=by
 refine Za Tryz.func38 rfl rfl Tryz.ntmps38 rfl ωr rfl rfl ?_
 refine Eq.trans (b:=box a c b d) ?_ rfl
 rfl
theorem Zs6 {a b c d e f g h:RV} (k:K (box a c b d)):Ask 38 [loose a b c d e f g h] K:=use (ZlH a b c d e f g h) rfl k
theorem Zb8 {p q r u:Rat} (h1:sle p q) (h2:sle r u) (hp:qs p≤268435456) (hq:qs q≤268435456) (hr:qs r≤268435456) (hu:qs u≤268435456) (k:∀ ya yb,ya=mulLo p q r u→yb=mulHi p q r u→sle ya yb→qs ya≤qs p+qs q+qs r+qs u+20→qs yb≤qs p+qs q+qs r+qs u+20→K (pair (cn ya) (cn yb))):Ask 79 [pair (cn p) (cn q),pair (cn r) (cn u)] K:=by
 refine ZuY ωn ωn ωn ωn fun ya yb ha hb z1 z2=> ?_
 simp only [Z0 h1,Z1 h1,Z0 h2,Z1 h2] at ha hb
 simp only [cn_z] at z1 z2
 exact k ya yb ha hb (by rw [ha,hb];exact Rat.le_trans (ZaV Rat.le_refl h1 Rat.le_refl h2).1 (ZaV Rat.le_refl h1 Rat.le_refl h2).2) ω ω
theorem Ze6 {p q r u:Rat} (h1:sle p q) (h2:sle r u) (hp:qs p≤268435456) (hq:qs q≤268435456) (hr:qs r≤268435456) (hu:qs u≤268435456) (k:∀ ya yb,ya=p+r→yb=q+u→sle ya yb→qs ya≤qs p+qs q+qs r+qs u+20→qs yb≤qs p+qs q+qs r+qs u+20→K (pair (cn ya) (cn yb))):Ask 80 [pair (cn p) (cn q),pair (cn r) (cn u)] K:=by
 refine ZuZ ωn ωn ωn ωn fun ya yb ha hb z1 z2=> ?_
 simp only [Z0 h1,Z1 h1,Z0 h2,Z1 h2] at ha hb
 simp only [cn_z] at z1 z2
 exact k ya yb ha hb (by rw [ha,hb];unfold sle at*;grind) ω ω
theorem ZrM {p q r u:Rat} (h1:sle p q) (h2:sle r u) (hp:qs p≤268435456) (hq:qs q≤268435456) (hr:qs r≤268435456) (hu:qs u≤268435456) (k:∀ ya yb,ya=p - u→yb=q - r→sle ya yb→qs ya≤qs p+qs q+qs r+qs u+20→qs yb≤qs p+qs q+qs r+qs u+20→K (pair (cn ya) (cn yb))):Ask 78 [pair (cn p) (cn q),pair (cn r) (cn u)] K:=by
 refine ZuX ωn ωn ωn ωn fun ya yb ha hb z1 z2=> ?_
 simp only [Z0 h1,Z1 h1,Z0 h2,Z1 h2] at ha hb
 simp only [cn_z] at z1 z2
 exact k ya yb ha hb (by rw [ha,hb];unfold sle at*;grind) ω ω
theorem Zn7 {p q r u:Rat} (h1:sle p q) (h2:sle r u) (hp:qs p≤268435456) (hq:qs q≤268435456) (hr:qs r≤268435456) (hu:qs u≤268435456) (k:∀ ya yb,ya=minQ p r→yb=maxQ q u→sle ya yb→qs ya≤qs p+qs q+qs r+qs u+20→qs yb≤qs p+qs q+qs r+qs u+20→K (pair (cn ya) (cn yb))):Ask 37 [pair (cn p) (cn q),pair (cn r) (cn u)] K:=by
 refine Zc6 ωn ωn ωn ωn fun ya yb ha hb z1 z2=> ?_
 simp only [Z0 h1,Z1 h1,Z0 h2,Z1 h2] at ha hb
 simp only [cn_z] at z1 z2
 exact k ya yb ha hb (by rw [ha,hb];unfold sle minQ maxQ at*;grind) ω ω
theorem ZrN {p q:Rat} (h1:sle p q) (hp:qs p≤268435456) (hq:qs q≤268435456) (k:∀ ya yb,ya=cutLo p→yb=cutHi q→K (pair (cn ya) (cn yb))):Ask 77 [pair (cn p) (cn q)] K:=by
 have e1:slo (cn p) (cn q)=p:=Z0 h1
 have e2:shi (cn p) (cn q)=q:=Z1 h1
 exact use (ZqW (cn p) (cn q) (by rw [cn_z];exact hp) (by rw [cn_z];exact hq)) rfl (k _ _ (by rw [e1]) (by rw [e2]))
theorem Zu8 {x y:RV} (hx:x.z≤3145760) (hy:y.z≤3145760) (k:∀ ya yb,ya=(cs3 (slo x y) (shi x y)).1→yb=(cs3 (slo x y) (shi x y)).2→sle ya yb→qs ya≤4*(x.z+y.z+8)+34→qs yb≤4*(x.z+y.z+8)+34→K (pair (cn ya) (cn yb))):Ask 75 [pair x y] K:=by
 refine Zod ω ω fun ya yb ha hb=> ?_
 have hz1:=Zby x y
 have hz2:=Zbz x y
 rw [cn_z] at hz1 hz2
 obtain⟨z1,z2⟩:=Zwf (l:=slo x y) (h:=shi x y) (B:=x.z+y.z+8) ω ω ω
 have e:=ZoP (ZgJ x y)
 have ha:ya=(cs3 (slo x y) (shi x y)).1:=by rw [← e];exact ha
 have hb:yb=(cs3 (slo x y) (shi x y)).2:=by rw [← e];exact hb
 have hle:sle (cs3 (slo x y) (shi x y)).1 (cs3 (slo x y) (shi x y)).2:=Rat.le_trans (ZkF _ _).1 (ZkF _ _).2
 exact k ya yb ha hb (by rw [ha,hb];exact hle) (by rw [ha];exact z1) (by rw [hb];exact z2)
theorem Zu7 {x y:RV} (hx:x.z≤3145760) (hy:y.z≤3145760) (k:∀ ya yb,ya=(sn3 (slo x y) (shi x y)).1→yb=(sn3 (slo x y) (shi x y)).2→sle ya yb→qs ya≤4*(x.z+y.z+8)+34→qs yb≤4*(x.z+y.z+8)+34→K (pair (cn ya) (cn yb))):Ask 76 [pair x y] K:=by
 refine Zn4 ω ω fun ya yb ha hb=> ?_
 have hz1:=Zby x y
 have hz2:=Zbz x y
 rw [cn_z] at hz1 hz2
 obtain⟨z1,z2⟩:=ZvU (l:=slo x y) (h:=shi x y) (B:=x.z+y.z+8) ω ω ω
 have e:=Zsr (ZgJ x y)
 rw [e] at ha hb
 have hle:sle (sn3 (slo x y) (shi x y)).1 (sn3 (slo x y) (shi x y)).2:=Rat.le_trans (Zjy _ _).1 (Zjy _ _).2
 exact k ya yb ha hb (by rw [ha,hb];exact hle) (by rw [ha];exact z1) (by rw [hb];exact z2)
set_option maxHeartbeats 4000000 in
theorem Zjc (A:ArmV) (Q:List (RV×RV)) (hA:A.ok) (hQ:∀ p,p∈Q→p.1.z≤3145760∧p.2.z≤3145760):Spec Tryz.prog Tab 35 [arm A,.val (.one (.d (.list (List.map rdv Q))))] (.tup [.one (.d (.list (List.map rdL (spreadV A Q)))),.one (.d (.v (.int .i64 (hasE A (Q.length:Int)))))]):=by
 have hA2:=hA
 obtain⟨z1,z2,z3,z4,z5,z6⟩:=hA
 have hL:(List.map lk A.links).length=A.links.length:=List.length_map ..
 have hLq:(List.map rdv Q).length=Q.length:=List.length_map ..
 refine Za Tryz.func35 rfl rfl Tryz.ntmps35 rfl ωr rfl rfl ?_
 refine Zkl (A:=A) (n:=((List.map rdv Q).length:Int)) ωs fun n19 hk_19_1=> ?_
 rw [List.length_map] at hk_19_1
 refine⟨fun e1=> ?_,fun e1=> ?_⟩
 ·have f21:n19≠0:=ZaD e1
  refine Eq.trans (b:= .tup [.one (.d (.list ([]))),.one (.d (.v (.int .i64 (n19))))]) ?_ rfl
  rw [Zk4 (by rw [← hk_19_1];exact f21),← hk_19_1]
  all_goals rfl
 ·have f21:¬ (n19≠0):=fun hh=>hh (ZaE e1)
  have h0:hasE A (Q.length:Int)=0:=by rw [← hk_19_1];exact Classical.not_not.1 f21
  obtain⟨hA0,hlen0⟩:=Zaa.1 h0
  have hlen:Q.length=A.links.length:=ω
  obtain⟨hn3,hnz,hsb1,hsb2,hsb3,_⟩:=ZaF hA0
  have hb1:=ZD hsb1
  have hb2:=ZD hsb2
  have hb3:=ZD hsb3
  refine Zc5 (x:=A.bx) ω (fun q28 hk_28_1 hk_28_2=> ?_)
  simp only [cn_z] at hk_28_2
  refine Zc5 (x:=A.by') ω (fun q32 hk_32_1 hk_32_2=> ?_)
  simp only [cn_z] at hk_32_2
  refine ZrI (h:=A.bh) (x:=A.bt) ω (fun q35 hk_35_1 hk_35_2=> ?_)
  simp only [cn_z] at hk_35_2
  refine Zc5 (x:=cn q35) ωz (fun q36 hk_36_1 hk_36_2=> ?_)
  try simp only [cn_q] at hk_36_1
  simp only [cn_z] at hk_36_2
  refine Zkc (h:=A.bh) (x:=A.bt) ω (fun q39 hk_39_1 hk_39_2=> ?_)
  simp only [cn_z] at hk_39_2
  refine Zc5 (x:=cn q39) ωz (fun q40 hk_40_1 hk_40_2=> ?_)
  try simp only [cn_q] at hk_40_1
  simp only [cn_z] at hk_40_2
  refine⟨ωr,?_⟩
  have b28:q28=(endL A Q 0).xl:=hk_28_1
  have b32:q32=(endL A Q 0).yl:=hk_32_1
  have b36:q36=(endL A Q 0).cl:=hk_36_1.trans hk_35_1
  have b40:q40=(endL A Q 0).sl:=hk_40_1.trans hk_39_1
  refine⟨Nat,fun i=> [(1,.val (.one (.d (.list (List.map rdv Q))))),(8,.val (.one (.ptr 8 0))),(9,.val (.one (.row 86 0))),(43,.val (.one (.d (.list (List.map lk A.links))))),(44,int ((List.map lk A.links).length:Int)),(45,int (i:Int))],
   fun i=> [(8,.var 97 [.d (.v (.bool (cn (endL A Q i).xl).s)),.d (.v (.string (cn (endL A Q i).xl).a)),.d (.v (.string (cn (endL A Q i).xl).d)),.d (.v (.bool (cn (endL A Q i).xh).s)),.d (.v (.string (cn (endL A Q i).xh).a)),.d (.v (.string (cn (endL A Q i).xh).d)),.d (.v (.bool (cn (endL A Q i).yl).s)),.d (.v (.string (cn (endL A Q i).yl).a)),.d (.v (.string (cn (endL A Q i).yl).d)),.d (.v (.bool (cn (endL A Q i).yh).s)),.d (.v (.string (cn (endL A Q i).yh).a)),.d (.v (.string (cn (endL A Q i).yh).d)),.d (.v (.bool (cn (endL A Q i).cl).s)),.d (.v (.string (cn (endL A Q i).cl).a)),.d (.v (.string (cn (endL A Q i).cl).d)),.d (.v (.bool (cn (endL A Q i).ch).s)),.d (.v (.string (cn (endL A Q i).ch).a)),.d (.v (.string (cn (endL A Q i).ch).d)),.d (.v (.bool (cn (endL A Q i).sl).s)),.d (.v (.string (cn (endL A Q i).sl).a)),.d (.v (.string (cn (endL A Q i).sl).d)),.d (.v (.bool (cn (endL A Q i).sh).s)),.d (.v (.string (cn (endL A Q i).sh).a)),.d (.v (.string (cn (endL A Q i).sh).d))]),(86,.row 97 24 0 (List.map rdL (linksL A Q i)) true)],fun i=>i≤A.links.length,fun i=>A.links.length - i,0,?_,Nat.zero_le _,fun i hs=> ?_⟩
  ·constructor<;>(repeat' (first|exact rfl|exact True.intro|exact⟨_,_,rfl⟩|exact ωd|apply And.intro))
   all_goals first
    |exact congrArg (fun q:Rat=>D.v (.bool (cn q).s)) b28
    |exact congrArg (fun q:Rat=>D.v (.bool (cn q).s)) b28.symm
    |exact congrArg (fun q:Rat=>D.v (.string (cn q).a)) b28
    |exact congrArg (fun q:Rat=>D.v (.string (cn q).a)) b28.symm
    |exact congrArg (fun q:Rat=>D.v (.string (cn q).d)) b28
    |exact congrArg (fun q:Rat=>D.v (.string (cn q).d)) b28.symm
    |exact congrArg (fun q:Rat=>D.v (.bool (cn q).s)) b32
    |exact congrArg (fun q:Rat=>D.v (.bool (cn q).s)) b32.symm
    |exact congrArg (fun q:Rat=>D.v (.string (cn q).a)) b32
    |exact congrArg (fun q:Rat=>D.v (.string (cn q).a)) b32.symm
    |exact congrArg (fun q:Rat=>D.v (.string (cn q).d)) b32
    |exact congrArg (fun q:Rat=>D.v (.string (cn q).d)) b32.symm
    |exact congrArg (fun q:Rat=>D.v (.bool (cn q).s)) b36
    |exact congrArg (fun q:Rat=>D.v (.bool (cn q).s)) b36.symm
    |exact congrArg (fun q:Rat=>D.v (.string (cn q).a)) b36
    |exact congrArg (fun q:Rat=>D.v (.string (cn q).a)) b36.symm
    |exact congrArg (fun q:Rat=>D.v (.string (cn q).d)) b36
    |exact congrArg (fun q:Rat=>D.v (.string (cn q).d)) b36.symm
    |exact congrArg (fun q:Rat=>D.v (.bool (cn q).s)) b40
    |exact congrArg (fun q:Rat=>D.v (.bool (cn q).s)) b40.symm
    |exact congrArg (fun q:Rat=>D.v (.string (cn q).a)) b40
    |exact congrArg (fun q:Rat=>D.v (.string (cn q).a)) b40.symm
    |exact congrArg (fun q:Rat=>D.v (.string (cn q).d)) b40
    |exact congrArg (fun q:Rat=>D.v (.string (cn q).d)) b40.symm
    |exact ωa
    |(simp;done)
  obtain⟨⟨zc1,zc2⟩,zc3,zc4⟩:=Ztn hA0 Q i
  obtain⟨⟨zx1,zx2⟩,zx3,zx4⟩:=ZiW hA0 Q i
  obtain⟨ol1,ol2,ol3,ol4⟩:=LF.has_le (ZdD A Q i)
  obtain⟨⟨zl1,zl2⟩,zl3,zl4⟩:=ZcG A Q i
  obtain⟨ol7,ol8,ol9,ol10⟩:=LF.has_le (Zha A Q i)
  have hT:(List.map rdL (linksL A Q i)).length≤3:=by rw [List.length_map,Zlp];omega
  refine⟨fun e2=> ?_,fun e2=> ?_⟩
  ·have f46:(i:Int)< ((List.map lk A.links).length:Int):=of_decide_eq_true e2
   refine get_ex (l:=A.links) (i:=i) ωm fun x48 hx48=> ?_
   obtain⟨hs1,hs2,hs3,hs4,hs5,hs6,hs7⟩:=z6 x48 (List.mem_of_getElem? hx48)
   have hlx48:=Zj7 hx48
   have hsmx48:=ZD (ZR hA0 (List.mem_of_getElem? hx48)).1
   refine k_ix i [D.v (.bool x48.len.s),D.v (.string x48.len.a),D.v (.string x48.len.d),D.v (.bool x48.low.s),D.v (.string x48.low.a),D.v (.string x48.low.d),D.v (.bool x48.high.s),D.v (.string x48.high.a),D.v (.string x48.high.d),D.v (.bool x48.speed.s),D.v (.string x48.speed.a),D.v (.string x48.speed.d),D.v (.bool x48.brake.s),D.v (.string x48.brake.a),D.v (.string x48.brake.d),D.list (List.map rdv x48.shape)] ωh (Ze hx48) rfl ?_
   refine get_ex (l:=Q) (i:=i) ωm fun x52 hx52=> ?_
   obtain⟨hzx52,hyx52⟩:=hQ x52 (List.mem_of_getElem? hx52)
   have hqx52:=Zmz hx52
   refine k_ix i [D.v (.bool x52.1.s),D.v (.string x52.1.a),D.v (.string x52.1.d),D.v (.bool x52.2.s),D.v (.string x52.2.a),D.v (.string x52.2.d)] ωh (Ze hx52) rfl ?_
   refine Zu8 (x:=x52.1) (y:=x52.2) ω ω (fun ya54 yb54 hk_54_2 hk_54_3 hk_54_4 hk_54_5 hk_54_6=> ?_)
   refine k_ix i [D.v (.bool x52.1.s),D.v (.string x52.1.a),D.v (.string x52.1.d),D.v (.bool x52.2.s),D.v (.string x52.2.a),D.v (.string x52.2.d)] ωh (Ze hx52) rfl ?_
   refine Zu7 (x:=x52.1) (y:=x52.2) ω ω (fun ya59 yb59 hk_59_2 hk_59_3 hk_59_4 hk_59_5 hk_59_6=> ?_)
   refine⟨ωr,?_⟩
   refine Zb8 (p:=(endL A Q i).cl) (q:=(endL A Q i).ch) (r:=ya54) (u:=yb54) ωs ωs ω ω ω ω (fun ya64 yb64 hk_64_2 hk_64_3 hk_64_4 hk_64_5 hk_64_6=> ?_)
   refine Zb8 (p:=(endL A Q i).sl) (q:=(endL A Q i).sh) (r:=ya59) (u:=yb59) ωs ωs ω ω ω ω (fun ya68 yb68 hk_68_2 hk_68_3 hk_68_4 hk_68_5 hk_68_6=> ?_)
   refine ZrM (p:=ya64) (q:=yb64) (r:=ya68) (u:=yb68) ωs ωs ω ω ω ω (fun ya69 yb69 hk_69_2 hk_69_3 hk_69_4 hk_69_5 hk_69_6=> ?_)
   refine ZrN (p:=ya69) (q:=yb69) ωs ω ω (fun ya70 yb70 hk_70_2 hk_70_3=> ?_)
   refine⟨ωr,?_⟩
   refine Zb8 (p:=(endL A Q i).sl) (q:=(endL A Q i).sh) (r:=ya54) (u:=yb54) ωs ωs ω ω ω ω (fun ya75 yb75 hk_75_2 hk_75_3 hk_75_4 hk_75_5 hk_75_6=> ?_)
   refine Zb8 (p:=(endL A Q i).cl) (q:=(endL A Q i).ch) (r:=ya59) (u:=yb59) ωs ωs ω ω ω ω (fun ya79 yb79 hk_79_2 hk_79_3 hk_79_4 hk_79_5 hk_79_6=> ?_)
   refine Ze6 (p:=ya75) (q:=yb75) (r:=ya79) (u:=yb79) ωs ωs ω ω ω ω (fun ya80 yb80 hk_80_2 hk_80_3 hk_80_4 hk_80_5 hk_80_6=> ?_)
   refine ZrN (p:=ya80) (q:=yb80) ωs ω ω (fun ya81 yb81 hk_81_2 hk_81_3=> ?_)
   have e70:ya70=(linkL A Q i).cl:=by rw [hk_70_2,hk_69_2,hk_64_2,hk_68_3,hk_54_2,hk_54_3,hk_59_2,hk_59_3,← hqx52.1,← hqx52.2];rfl
   have f70:yb70=(linkL A Q i).ch:=by rw [hk_70_3,hk_69_3,hk_64_3,hk_68_2,hk_54_2,hk_54_3,hk_59_2,hk_59_3,← hqx52.1,← hqx52.2];rfl
   have e81:ya81=(linkL A Q i).sl:=by rw [hk_81_2,hk_80_2,hk_75_2,hk_79_2,hk_54_2,hk_54_3,hk_59_2,hk_59_3,← hqx52.1,← hqx52.2];rfl
   have f81:yb81=(linkL A Q i).sh:=by rw [hk_81_3,hk_80_3,hk_75_3,hk_79_3,hk_54_2,hk_54_3,hk_59_2,hk_59_3,← hqx52.1,← hqx52.2];rfl
   have ol5:sle ya70 yb70:=by rw [e70,f70];exact ol9
   have ol6:sle ya81 yb81:=by rw [e81,f81];exact ol10
   have zl5:qs ya70≤3:=by rw [e70];exact zl1
   have zl6:qs yb70≤3:=by rw [f70];exact zl2
   have zl7:qs ya81≤3:=by rw [e81];exact zl3
   have zl8:qs yb81≤3:=by rw [f81];exact zl4
   refine⟨ωr,?_⟩
   refine⟨⟨row1 rfl,(by show ((List.map rdL (linksL A Q i)).length+1)*320≤_;omega),(by show ((List.map rdL (linksL A Q i)).length+1)≤_;omega)⟩,?_⟩
   refine Zc5 (x:=x48.len) ω (fun q89 hk_89_1 hk_89_2=> ?_)
   simp only [cn_z] at hk_89_2
   have hs89:sle q89 q89:=Rat.le_refl
   refine Zb8 (p:=q89) (q:=q89) (r:=ya70) (u:=yb70) ωs ωs ω ω ω ω (fun ya95 yb95 hk_95_2 hk_95_3 hk_95_4 hk_95_5 hk_95_6=> ?_)
   refine Ze6 (p:=(endL A Q i).xl) (q:=(endL A Q i).xh) (r:=ya95) (u:=yb95) ωs ωs ω ω ω ω (fun ya96 yb96 hk_96_2 hk_96_3 hk_96_4 hk_96_5 hk_96_6=> ?_)
   refine⟨ωr,?_⟩
   refine Zb8 (p:=q89) (q:=q89) (r:=ya81) (u:=yb81) ωs ωs ω ω ω ω (fun ya103 yb103 hk_103_2 hk_103_3 hk_103_4 hk_103_5 hk_103_6=> ?_)
   refine Ze6 (p:=(endL A Q i).yl) (q:=(endL A Q i).yh) (r:=ya103) (u:=yb103) ωs ωs ω ω ω ω (fun ya104 yb104 hk_104_2 hk_104_3 hk_104_4 hk_104_5 hk_104_6=> ?_)
   refine⟨ωr,?_⟩
   have hl:q89=lenAt A i:=hk_89_1.trans hlx48.symm
   have ex:ya96=(endL A Q (i+1)).xl:=by rw [hk_96_2,hk_95_2,hl,e70,f70];rfl
   have ex2:yb96=(endL A Q (i+1)).xh:=by rw [hk_96_3,hk_95_3,hl,e70,f70];rfl
   have ey:ya104=(endL A Q (i+1)).yl:=by rw [hk_104_2,hk_103_2,hl,e81,f81];rfl
   have ey2:yb104=(endL A Q (i+1)).yh:=by rw [hk_104_3,hk_103_3,hl,e81,f81];rfl
   subst ex ex2 ey ey2 e70 f70 e81 f81
   refine⟨i+1,ω,by simp only;omega,?_⟩
   constructor<;>(repeat' (first|exact rfl|exact True.intro|apply And.intro))
   all_goals first
    |(rw [ZiH];rfl)
    |exact ωb
    |exact ωa
  ·have f46:¬ ((i:Int)< ((List.map lk A.links).length:Int)):=of_decide_eq_false e2
   refine⟨⟨row1 rfl,(by show ((List.map rdL (linksL A Q i)).length+1)*320≤_;omega),(by show ((List.map rdL (linksL A Q i)).length+1)≤_;omega)⟩,?_⟩
   refine Eq.trans (b:= .tup [.one (.d (.list (List.map rdL (linksL A Q i)++ [[D.v (.bool (cn (endL A Q i).xl).s),D.v (.string (cn (endL A Q i).xl).a),D.v (.string (cn (endL A Q i).xl).d),D.v (.bool (cn (endL A Q i).xh).s),D.v (.string (cn (endL A Q i).xh).a),D.v (.string (cn (endL A Q i).xh).d),D.v (.bool (cn (endL A Q i).yl).s),D.v (.string (cn (endL A Q i).yl).a),D.v (.string (cn (endL A Q i).yl).d),D.v (.bool (cn (endL A Q i).yh).s),D.v (.string (cn (endL A Q i).yh).a),D.v (.string (cn (endL A Q i).yh).d),D.v (.bool (cn (endL A Q i).cl).s),D.v (.string (cn (endL A Q i).cl).a),D.v (.string (cn (endL A Q i).cl).d),D.v (.bool (cn (endL A Q i).ch).s),D.v (.string (cn (endL A Q i).ch).a),D.v (.string (cn (endL A Q i).ch).d),D.v (.bool (cn (endL A Q i).sl).s),D.v (.string (cn (endL A Q i).sl).a),D.v (.string (cn (endL A Q i).sl).d),D.v (.bool (cn (endL A Q i).sh).s),D.v (.string (cn (endL A Q i).sh).a),D.v (.string (cn (endL A Q i).sh).d)]]))),.one (.d (.v (.int .i64 (0))))]) ?_ rfl
   obtain rfl:i=A.links.length:=ω
   rw [ZbU h0,h0,spreadL,List.map_append]
   all_goals rfl
theorem ZqG {A:ArmV} {Q:List (RV×RV)} (hA:A.ok) (hQ:∀ p,p∈Q→p.1.z≤3145760∧p.2.z≤3145760) (k:∀ n,n=hasE A (Q.length:Int)→K (.tup [.one (.d (.list (List.map rdL (spreadV A Q)))),.one (.d (.v (.int .i64 n)))])):Ask 35 [arm A,.val (.one (.d (.list (List.map rdv Q))))] K:=use (Zjc A Q hA hQ) rfl (k _ rfl)
end
section
variable {K : AV → Prop}
section
variable  {p q r u : Rat}
end
section
variable  {p q r u : Rat}
end
section
variable  {p q r u : Rat}
end
end
