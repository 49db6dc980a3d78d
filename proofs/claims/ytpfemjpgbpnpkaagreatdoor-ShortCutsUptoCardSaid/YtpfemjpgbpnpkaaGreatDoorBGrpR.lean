/- Joined by wip/bundle.py: XSpr0 XSprA XSprR. -/
import Derived.Test.YtpfemjpgbpnpkaaGreatDoorBFore0
import Derived.Test.YtpfemjpgbpnpkaaGreatDoorBGrpQ
import Derived.Test.YtpfemjpgbpnpkaaGreatDoorBGrpA
import Derived.Test.YtpfemjpgbpnpkaaGreatDoorBForeA
import Derived.Test.YtpfemjpgbpnpkaaGreatDoorBWg
import Derived.Test.YtpfemjpgbpnpkaaGreatDoorBGrpZ
set_option maxRecDepth 100000
namespace Go.Proofs.YtpfemjpgbpnpkaaGreatDoor.eng
open Go.RowKit num mem seg q held ratA ratB ratC ratD ratE vars ratF trq
theorem qi_1:((1:Int):Rat)=1:=rfl
theorem ZmI:((-1:Int):Rat)=-1:=by decide+kernel
theorem qi_0:((0:Int):Rat)=0:=rfl
def sle (p q:Rat):Prop:=p≤q
theorem ZhJ {c s:Rat} (h:unitC c s):(-1≤c∧c≤1)∧(-1≤s∧s≤1):=by
 unfold unitC at h
 have sq:∀ a:Rat,0≤a*a:=fun a=>by
  by_cases h:0≤a
  ·exact Rat.mul_nonneg h h
  ·have:=Rat.mul_nonneg (by grind:0≤-a) (by grind:0≤-a);grind
 have key:∀ a b:Rat,a*a+b*b=1→a≤1:=fun a b e=>by
  refine Rat.not_lt.1 fun hlt=> ?_
  have:=Rat.mul_nonneg (by grind:0≤a - 1) (by grind:0≤a - 1)
  have:=sq b
  grind
 have n1:=key c s h
 have n2:=key (-c) s (by grind)
 have n3:=key s c (by grind)
 have n4:=key (-s) c (by grind)
 exact⟨⟨by grind,n1⟩,⟨by grind,n3⟩⟩
theorem ZjZ (t:Rat):(-1≤cosq false t∧cosq false t≤1)∧(-1≤sinq t∧sinq t≤1):=by
 have h:=ZhK false t
 rw [ZcA] at h
 exact ZhJ h
theorem Zc9 (t:Rat):0< 1+t*t:=by
 have:0≤t*t:=by
  by_cases h:0≤t
  ·exact Rat.mul_nonneg h h
  ·have:=Rat.mul_nonneg (by grind:0≤-t) (by grind:0≤-t);grind
 grind
theorem Zga {a b:Rat} (hb:0< b) {x:Rat} (h:x*b=a):(0≤a→0≤x)∧(a≤0→x≤0):=by
 constructor
 ·intro ha
  refine Rat.not_lt.1 fun hx=> ?_
  have:=Rat.mul_pos (by grind:0< -x) hb
  grind
 ·intro ha
  refine Rat.not_lt.1 fun hx=> ?_
  have:=Rat.mul_pos hx hb
  grind
theorem Zi9 (t:Rat):(0≤t→0≤sinq t)∧(t≤0→sinq t≤0):=by
 obtain⟨_,h,_⟩:=ZdQ t
 obtain⟨a,b⟩:=Zga (Zc9 t) h
 exact⟨fun g=>a (by grind),fun g=>b (by grind)⟩
theorem Zod {t:Rat} (h:t≤-1∨1≤t):cosq false t≤0:=by
 obtain⟨e,_,_⟩:=ZdQ t
 refine(Zga (Zc9 t) e).2 ?_
 rcases h with h|h
 ·have:=Rat.mul_nonneg (by grind:0≤-t - 1) (by grind:0≤-t+1);grind
 ·have:=Rat.mul_nonneg (by grind:0≤t - 1) (by grind:0≤t+1);grind
theorem ZjY {t:Rat} (h1:-1≤t) (h2:t≤1):0≤cosq false t:=by
 obtain⟨e,_,_⟩:=ZdQ t
 refine(Zga (Zc9 t) e).1 ?_
 have:=Rat.mul_nonneg (by grind:0≤1 - t) (by grind:0≤1+t)
 grind
def ext3 (l h:Rat):List Rat:=([-1,0,1]:List Int).foldl (ext l h) [l,h]
def cs3 (l h:Rat):Rat×Rat:=(lowL (cosq false l) ((ext3 l h).map (cosq false)),highL (cosq false l) ((ext3 l h).map (cosq false)))
def sn3 (l h:Rat):Rat×Rat:=(lowL (sinq l) ((ext3 l h).map sinq),highL (sinq l) ((ext3 l h).map sinq))
theorem Zb4 {l h a:Rat}:hasQ l h a=true↔l≤a∧a≤h:=by
 unfold hasQ;rw [Bool.and_eq_true,decide_eq_true_iff,decide_eq_true_iff]
theorem Zp8 {l h t:Rat} (ht:t∈ext3 l h):t=l∨t=h∨t=-1∨t=0∨t=1:=by
 unfold ext3 ext at ht
 simp only [List.foldl_cons,List.foldl_nil,qi_1,ZmI,qi_0] at ht
 (repeat' split at ht)<;>simp at ht<;>grind
theorem ZjO (l h:Rat):(ext3 l h).length≤5:=by
 unfold ext3 ext
 simp only [List.foldl_cons,List.foldl_nil]
 (repeat' split)<;>simp
theorem ZlQ:cosq false (-1)=0∧cosq false 0=1∧cosq false 1=0∧sinq (-1)=-1∧sinq 0=0∧sinq 1=1:=by decide+kernel
theorem Zsg {l h:Rat} (_:l≤h):(cosF (sqHi l h),cosF (sqLo l h))=cs3 l h:=by
 obtain⟨e1,e2,e3,_⟩:=ZlQ
 rw [Zsf,Zqc]
 unfold cosL cosH
 rw [Zgh,Zgh]
 obtain⟨⟨a1,a2⟩,_⟩:=ZjZ l
 obtain⟨⟨b1,b2⟩,_⟩:=ZjZ h
 have f1:hasQ l h 1=true→cosq false h≤0:=fun e=>Zod (.inr (Zb4.1 e).2)
 have fm:hasQ l h (-1)=true→cosq false l≤0:=fun e=>Zod (.inl (Zb4.1 e).1)
 have g1:hasQ l h 1=true→¬ hasQ l h 0=true→0≤cosq false l:=fun e e0=>by
  rw [Zb4] at e e0
  exact ZjY (by grind) e.1
 have gm:hasQ l h (-1)=true→¬ hasQ l h 0=true→0≤cosq false h:=fun e e0=>by
  rw [Zb4] at e e0
  exact ZjY e.2 (by grind)
 unfold cs3 ext3 ext
 simp only [List.foldl_cons,List.foldl_nil,qi_1,ZmI,qi_0]
 generalize ha:cosq false l=a at*
 generalize hb:cosq false h=b at*
 by_cases c1:hasQ l h 1=true<;>by_cases c0:hasQ l h 0=true<;>by_cases cm:hasQ l h (-1)=true<;>
  simp only [c1,c0,cm,if_true,if_false,Bool.false_eq_true,List.cons_append,List.nil_append,List.map_cons,List.map_nil,ha,hb,e1,e2,e3,lowL,highL,List.foldl_cons,List.foldl_nil]<;>
  try simp only [c1,c0,cm,true_implies,false_implies,not_true_eq_false,not_false_eq_true,Bool.false_eq_true] at f1 fm g1 gm<;>
  unfold lowF highF<;>(refine Prod.ext ?_ ?_)<;>grind
theorem Zrk {l h:Rat} (_:l≤h):sinS l h=sn3 l h:=by
 obtain⟨_,_,_,e1,e2,e3⟩:=ZlQ
 obtain⟨_,a1,a2⟩:=ZjZ l
 obtain⟨_,b1,b2⟩:=ZjZ h
 have f0:hasQ l h 0=true→sinq l≤0∧0≤sinq h:=fun e=>⟨(Zi9 l).2 (Zb4.1 e).1,(Zi9 h).1 (Zb4.1 e).2⟩
 unfold sinS sn3 ext3 ext stp
 simp only [List.foldl_cons,List.foldl_nil,qi_1,ZmI,qi_0]
 generalize ha:sinq l=a at*
 generalize hb:sinq h=b at*
 by_cases c1:hasQ l h 1=true<;>by_cases c0:hasQ l h 0=true<;>by_cases cm:hasQ l h (-1)=true<;>
  simp only [c1,c0,cm,if_true,if_false,Bool.false_eq_true,List.cons_append,List.nil_append,List.map_cons,List.map_nil,ha,hb,e1,e2,e3,lowL,highL,List.foldl_cons,List.foldl_nil]<;>
  try simp only [c0,true_implies,false_implies,Bool.false_eq_true] at f0<;>
  unfold lowF highF minQ maxQ<;>(refine Prod.ext ?_ ?_)<;>grind
theorem ZjX (l h:Rat):(cs3 l h).1≤cosq false l∧cosq false l≤(cs3 l h).2:=⟨(ZbM _ _).1,(ZaL _ _).1⟩
theorem Zi7 (l h:Rat):(sn3 l h).1≤sinq l∧sinq l≤(sn3 l h).2:=⟨(ZbM _ _).1,(ZaL _ _).1⟩
theorem Zhk {l h:Rat} {B:Nat} (hl:qs l≤B) (hh:qs h≤B) (hB:1≤B):∀ t,t∈ext3 l h→qs t≤B:=by
 intro t ht
 have z1:qs (-1:Rat)≤1:=by decide+kernel
 have z2:qs (0:Rat)≤1:=by decide+kernel
 have z3:qs (1:Rat)≤1:=by decide+kernel
 rcases Zp8 ht with rfl|rfl|rfl|rfl|rfl<;>omega
theorem Zse {l h:Rat} {B:Nat} (hl:qs l≤B) (hh:qs h≤B) (hB:1≤B):qs (cs3 l h).1≤4*B+34∧qs (cs3 l h).2≤4*B+34:=by
 have k:∀ q,q∈cosq false l :: (ext3 l h).map (cosq false)→qs q≤4*B+34:=by
  intro q hq
  rcases List.mem_cons.1 hq with rfl|hq
  ·have:=(ZfN l).1;omega
  ·obtain⟨t,ht,rfl⟩:=List.mem_map.1 hq
   have:=Zhk hl hh hB t ht
   have:=(ZfN t).1;omega
 exact⟨Zbu k,ZaK k⟩
theorem Zri {l h:Rat} {B:Nat} (hl:qs l≤B) (hh:qs h≤B) (hB:1≤B):qs (sn3 l h).1≤4*B+34∧qs (sn3 l h).2≤4*B+34:=by
 have k:∀ q,q∈sinq l :: (ext3 l h).map sinq→qs q≤4*B+34:=by
  intro q hq
  rcases List.mem_cons.1 hq with rfl|hq
  ·have:=(ZfN l).2;omega
  ·obtain⟨t,ht,rfl⟩:=List.mem_map.1 hq
   have:=Zhk hl hh hB t ht
   have:=(ZfN t).2;omega
 exact⟨Zbu k,ZaK k⟩
theorem ZrB (a b c d:Rat):minQ (minQ (a*c) (a*d)) (minQ (b*c) (b*d))=mulLo a b c d:=by
 unfold mulLo lowL
 simp only [List.foldl_cons,List.foldl_nil]
 generalize a*c=x;generalize a*d=y;generalize b*c=z;generalize b*d=u
 unfold minQ lowF;grind
theorem ZrC (a b c d:Rat):maxQ (maxQ (a*c) (a*d)) (maxQ (b*c) (b*d))=mulHi a b c d:=by
 unfold mulHi highL
 simp only [List.foldl_cons,List.foldl_nil]
 generalize a*c=x;generalize a*d=y;generalize b*c=z;generalize b*d=u
 unfold maxQ highF;grind
theorem Zng {a b x y m:Rat} (h1:a≤x) (h2:x≤b) (e1:m≤a*y) (e2:m≤b*y):m≤x*y:=by
 by_cases h:0≤y
 ·have:=Rat.mul_nonneg (by grind:0≤x - a) h;grind
 ·have:=Rat.mul_nonneg (by grind:0≤b - x) (by grind:0≤-y);grind
theorem Za0 {a b c d x y:Rat} (h1:a≤x) (h2:x≤b) (h3:c≤y) (h4:y≤d):mulLo a b c d≤x*y∧x*y≤mulHi a b c d:=by
 obtain⟨l1,l2⟩:=ZbM [a*d,b*c,b*d] (a*c)
 obtain⟨g1,g2⟩:=ZaL [a*d,b*c,b*d] (a*c)
 have l3:=l2 (a*d) (by simp);have l4:=l2 (b*c) (by simp);have l5:=l2 (b*d) (by simp)
 have g3:=g2 (a*d) (by simp);have g4:=g2 (b*c) (by simp);have g5:=g2 (b*d) (by simp)
 change mulLo a b c d≤_ at l1 l3 l4 l5
 change _≤mulHi a b c d at g1 g3 g4 g5
 have m1:∀ p:Rat,∀ m,m≤p*c→m≤p*d→m≤p*y:=fun p m e1 e2=>by
  have:=Zng h3 h4 (m:=m) (y:=p) (by grind) (by grind);grind
 constructor
 ·exact Zng h1 h2 (m1 a _ l1 l3) (m1 b _ l4 l5)
 ·have:=Zng (m:=-mulHi a b c d) (y:=-y) h1 h2 (by have:=m1 (-a) (-mulHi a b c d) (by grind) (by grind);grind) (by have:=m1 (-b) (-mulHi a b c d) (by grind) (by grind);grind)
  grind
theorem Zm3 {a b c d:Rat} {B C:Nat} (h1:qs a≤B) (h2:qs b≤B) (h3:qs c≤C) (h4:qs d≤C):qs (mulLo a b c d)≤B+C∧qs (mulHi a b c d)≤B+C:=by
 have k:∀ q,q∈a*c :: [a*d,b*c,b*d]→qs q≤B+C:=by
  intro q hq
  simp only [List.mem_cons,List.not_mem_nil,or_false] at hq
  rcases hq with rfl|rfl|rfl|rfl
  ·have:=ZS a c;omega
  ·have:=ZS a d;omega
  ·have:=ZS b c;omega
  ·have:=ZS b d;omega
 exact⟨Zbu k,ZaK k⟩
def mill:Rat:=((1000000:Int):Rat)
def cutLo (q:Rat):Rat:=maxQ (downQ q 1000000) ((-1:Int):Rat)
def cutHi (q:Rat):Rat:=minQ (upQ q 1000000) ((1:Int):Rat)
theorem Zdi (q:Rat):downQ q 1000000=((q*mill).floor:Rat) / mill:=by
 unfold downQ
 rw [show dnN 1000000=1000000 from rfl,Rat.mkRat_eq_div];rfl
theorem ZfZ:(0:Rat)< mill:=by decide+kernel
theorem Zie:mill≠0:=by decide+kernel
theorem Zn4 (q:Rat):downQ q 1000000≤q:=by
 rw [Zdi]
 have h:=Rat.floor_le (a:=q*mill)
 refine Rat.not_lt.1 fun hlt=> ?_
 rw [Rat.lt_div_iff ZfZ] at hlt
 exact absurd h (Rat.not_le.2 hlt)
theorem ZtP (q:Rat):q≤upQ q 1000000:=by
 have:=Zn4 (-q)
 unfold upQ;grind
theorem Zfo {q c:Rat} (h1:-1≤c) (h2:c≤1):(q≤c→cutLo q≤c)∧(c≤q→c≤cutHi q):=by
 have a:=Zn4 q
 have b:=ZtP q
 unfold cutLo cutHi maxQ minQ
 rw [qi_1,ZmI]
 constructor<;>intro h<;>split<;>grind
theorem ZqK {n:Int} (h1:-1≤(n:Rat) / mill) (h2:(n:Rat) / mill≤1):qs ((n:Rat) / mill)≤3:=by
 have e:(n:Rat) / mill=mkRat n 1000000:=by rw [Rat.mkRat_eq_div];rfl
 have hm:(n:Rat)=(n:Rat) / mill*mill:=(Rat.div_mul_cancel Zie).symm
 have p:=Rat.mul_nonneg (by grind:0≤1 - (n:Rat) / mill) (Rat.le_of_lt ZfZ)
 have q:=Rat.mul_nonneg (by grind:0≤1+(n:Rat) / mill) (Rat.le_of_lt ZfZ)
 have a1:(n:Rat)≤((1000000:Int):Rat):=by show _≤mill;grind
 have a2:((-1000000:Int):Rat)≤(n:Rat):=by
  have:((-1000000:Int):Rat)=-mill:=by decide+kernel
  rw [this];grind
 have b1:=Rat.intCast_le_intCast.1 a1
 have b2:=Rat.intCast_le_intCast.1 a2
 rw [e]
 exact ZdI (by decide) (by omega) (by decide)
theorem Zoa {q c:Rat} (h1:-1≤c) (h2:c≤1) (h:q≤c):qs (cutLo q)≤3:=by
 have a:=(Zfo (q:=q) h1 h2).1 h
 have z:qs ((-1:Int):Rat)≤3:=by decide+kernel
 unfold cutLo maxQ at*
 rw [ZmI] at*
 split at a
 ·rename_i g;rw [if_pos g,Zdi];rw [Zdi] at a g;exact ZqK g (Rat.le_trans a h2)
 ·rename_i g;rw [if_neg g];exact z
theorem neg_div' (n:Int):-((n:Rat) / mill)=((-n:Int):Rat) / mill:=by
 rw [Rat.intCast_neg,Rat.div_def,Rat.div_def];grind
theorem Zob {q c:Rat} (h1:-1≤c) (h2:c≤1) (h:c≤q):qs (cutHi q)≤3:=by
 have a:=(Zfo (q:=q) h1 h2).2 h
 have z:qs ((1:Int):Rat)≤3:=by decide+kernel
 unfold cutHi minQ at*
 rw [qi_1] at*
 split at a
 ·rename_i g;rw [if_pos g];unfold upQ at*;rw [Zdi,neg_div'] at*;exact ZqK (Rat.le_trans h1 a) g
 ·rename_i g;rw [if_neg g];exact z
structure LF where
 xl:Rat
 xh:Rat
 yl:Rat
 yh:Rat
 cl:Rat
 ch:Rat
 sl:Rat
 sh:Rat
def LF.has (f:LF) (g:RF):Prop:=(f.xl≤g.x∧g.x≤f.xh)∧(f.yl≤g.y∧g.y≤f.yh)∧(f.cl≤g.c∧g.c≤f.ch)∧(f.sl≤g.s∧g.s≤f.sh)
def tightL (g:RF):LF:=⟨g.x,g.x,g.y,g.y,g.c,g.c,g.s,g.s⟩
theorem Zki (g:RF):(tightL g).has g:=⟨⟨Rat.le_refl,Rat.le_refl⟩,⟨Rat.le_refl,Rat.le_refl⟩,⟨Rat.le_refl,Rat.le_refl⟩,⟨Rat.le_refl,Rat.le_refl⟩⟩
def turnCl (f:LF) (c s:Rat×Rat):Rat:=mulLo f.cl f.ch c.1 c.2 - mulHi f.sl f.sh s.1 s.2
def turnCh (f:LF) (c s:Rat×Rat):Rat:=mulHi f.cl f.ch c.1 c.2 - mulLo f.sl f.sh s.1 s.2
def turnSl (f:LF) (c s:Rat×Rat):Rat:=mulLo f.sl f.sh c.1 c.2+mulLo f.cl f.ch s.1 s.2
def turnSh (f:LF) (c s:Rat×Rat):Rat:=mulHi f.sl f.sh c.1 c.2+mulHi f.cl f.ch s.1 s.2
def turnL (f:LF) (c s:Rat×Rat):LF:=⟨f.xl,f.xh,f.yl,f.yh,cutLo (turnCl f c s),cutHi (turnCh f c s),cutLo (turnSl f c s),cutHi (turnSh f c s)⟩
def longL (f:LF) (n:Rat):LF:=⟨f.xl+mulLo n n f.cl f.ch,f.xh+mulHi n n f.cl f.ch,f.yl+mulLo n n f.sl f.sh,f.yh+mulHi n n f.sl f.sh,f.cl,f.ch,f.sl,f.sh⟩
theorem ZlI {f:LF} {g:RF} (h:f.has g) {c s:Rat×Rat} {t:Rat} (hc:c.1≤cosq false t∧cosq false t≤c.2) (hs:s.1≤sinq t∧sinq t≤s.2):
  (turnCl f c s≤(turnF g t).c∧(turnF g t).c≤turnCh f c s)∧(turnSl f c s≤(turnF g t).s∧(turnF g t).s≤turnSh f c s):=by
 obtain⟨_,_,⟨c1,c2⟩,s1,s2⟩:=h
 have a:=Za0 c1 c2 hc.1 hc.2
 have b:=Za0 s1 s2 hs.1 hs.2
 have d:=Za0 s1 s2 hc.1 hc.2
 have e:=Za0 c1 c2 hs.1 hs.2
 unfold turnCl turnCh turnSl turnSh turnF
 simp only
 exact⟨⟨by grind,by grind⟩,⟨by grind,by grind⟩⟩
theorem ZlK {f:LF} {g:RF} (h:f.has g) (hu:g.u) {c s:Rat×Rat} {t:Rat} (hc:c.1≤cosq false t∧cosq false t≤c.2) (hs:s.1≤sinq t∧sinq t≤s.2):(turnL f c s).has (turnF g t):=by
 obtain⟨⟨a1,a2⟩,a3,a4⟩:=ZlI h hc hs
 obtain⟨⟨u1,u2⟩,u3,u4⟩:=ZhJ (Zfz hu t)
 exact⟨h.1,h.2.1,⟨(Zfo u1 u2).1 a1,(Zfo u1 u2).2 a2⟩,(Zfo u3 u4).1 a3,(Zfo u3 u4).2 a4⟩
theorem Znf {f:LF} {g:RF} (h:f.has g) (n:Rat):(longL f n).has (longF g n):=by
 obtain⟨⟨x1,x2⟩,⟨y1,y2⟩,⟨c1,c2⟩,s1,s2⟩:=h
 have a:=Za0 (Rat.le_refl (a:=n)) Rat.le_refl c1 c2
 have b:=Za0 (Rat.le_refl (a:=n)) Rat.le_refl s1 s2
 refine⟨⟨?_,?_⟩,⟨?_,?_⟩,⟨c1,c2⟩,s1,s2⟩
 ·show f.xl+mulLo n n f.cl f.ch≤g.x+g.c*n;grind
 ·show g.x+g.c*n≤f.xh+mulHi n n f.cl f.ch;grind
 ·show f.yl+mulLo n n f.sl f.sh≤g.y+g.s*n;grind
 ·show g.y+g.s*n≤f.yh+mulHi n n f.sl f.sh;grind
def LF.le (f:LF):Prop:=sle f.xl f.xh∧sle f.yl f.yh∧sle f.cl f.ch∧sle f.sl f.sh
theorem LF.has_le {f:LF} {g:RF} (h:f.has g):f.le:=⟨Rat.le_trans h.1.1 h.1.2,Rat.le_trans h.2.1.1 h.2.1.2,Rat.le_trans h.2.2.1.1 h.2.2.1.2,Rat.le_trans h.2.2.2.1 h.2.2.2.2⟩
def spAt (Q:List (RV×RV)) (i:Nat):RV×RV:=(Q[i]?).getD (z0,z0)
def loAt (Q:List (RV×RV)) (i:Nat):Rat:=slo (spAt Q i).1 (spAt Q i).2
def hiAt (Q:List (RV×RV)) (i:Nat):Rat:=shi (spAt Q i).1 (spAt Q i).2
theorem Zl2 {Q:List (RV×RV)} {i:Nat} {x:RV×RV} (h:Q[i]? =some x):loAt Q i=slo x.1 x.2∧hiAt Q i=shi x.1 x.2:=by simp [loAt,hiAt,spAt,h]
def endL (A:ArmV) (Q:List (RV×RV)):Nat→LF
 |0=>tightL (baseF A)
 |i+1=>longL (turnL (endL A Q i) (cs3 (loAt Q i) (hiAt Q i)) (sn3 (loAt Q i) (hiAt Q i))) (lenAt A i)
def linkL (A:ArmV) (Q:List (RV×RV)) (i:Nat):LF:=turnL (endL A Q i) (cs3 (loAt Q i) (hiAt Q i)) (sn3 (loAt Q i) (hiAt Q i))
def endX (A:ArmV) (Q:List (RV×RV)):Nat→RF
 |0=>baseF A
 |i+1=>longF (turnF (endX A Q i) (loAt Q i)) (lenAt A i)
theorem ZjS (A:ArmV) (Q:List (RV×RV)):∀ i,(endX A Q i).u
 |0=>ZhK _ _
 |i+1=>ZrJ (Zfz (ZjS A Q i) _) _
theorem linkL_has' {A:ArmV} {Q:List (RV×RV)} {i:Nat} (h:(endL A Q i).has (endX A Q i)):(linkL A Q i).has (turnF (endX A Q i) (loAt Q i)):=ZlK h (ZjS A Q i) (ZjX _ _) (Zi7 _ _)
theorem ZcX (A:ArmV) (Q:List (RV×RV)):∀ i,(endL A Q i).has (endX A Q i)
 |0=>Zki _
 |i+1=>Znf (linkL_has' (ZcX A Q i)) _
theorem ZcM (A:ArmV) (Q:List (RV×RV)) (i:Nat):(linkL A Q i).has (turnF (endX A Q i) (loAt Q i)):=linkL_has' (ZcX A Q i)
def linksL (A:ArmV) (Q:List (RV×RV)) (n:Nat):List LF:=(List.range n).map (linkL A Q)
def spreadL (A:ArmV) (Q:List (RV×RV)):List LF:=linksL A Q A.links.length++ [endL A Q A.links.length]
theorem Ze7 (A:ArmV) (Q:List (RV×RV)) (n:Nat):(linksL A Q n).length=n:=by simp [linksL]
theorem Zch (A:ArmV) (Q:List (RV×RV)):(spreadL A Q).length=A.links.length+1:=by simp [spreadL,linksL]
theorem Zed {α:Type} (g:LF→α) (A:ArmV) (Q:List (RV×RV)) (i:Nat):List.map g (linksL A Q (i+1))=List.map g (linksL A Q i)++ [g (linkL A Q i)]:=by
 simp [linksL,List.range_succ]
def LF.zc (f:LF) (B:Nat):Prop:=(qs f.cl≤B∧qs f.ch≤B)∧(qs f.sl≤B∧qs f.sh≤B)
def LF.zx (f:LF) (B:Nat):Prop:=(qs f.xl≤B∧qs f.xh≤B)∧(qs f.yl≤B∧qs f.yh≤B)
theorem ZoU {f:LF} {g:RF} (h:f.has g) (hu:g.u) {c s:Rat×Rat} {t:Rat} (hc:c.1≤cosq false t∧cosq false t≤c.2) (hs:s.1≤sinq t∧sinq t≤s.2):(turnL f c s).zc 3:=by
 obtain⟨⟨a1,a2⟩,a3,a4⟩:=ZlI h hc hs
 obtain⟨⟨u1,u2⟩,u3,u4⟩:=ZhJ (Zfz hu t)
 exact⟨⟨Zoa u1 u2 a1,Zob u1 u2 a2⟩,Zoa u3 u4 a3,Zob u3 u4 a4⟩
theorem Zbv (A:ArmV) (Q:List (RV×RV)) (i:Nat):(linkL A Q i).zc 3:=ZoU (ZcX A Q i) (ZjS A Q i) (ZjX _ _) (Zi7 _ _)
theorem ZnZ {A:ArmV} (hA:armE A=0) (Q:List (RV×RV)):∀ i,(endL A Q i).zc 66
 |0=>by obtain⟨_,_,b3,b4⟩:=Zor hA;exact⟨⟨b3,b3⟩,b4,b4⟩
 |i+1=>by
  obtain⟨⟨a1,a2⟩,a3,a4⟩:=Zbv A Q i
  exact⟨⟨Nat.le_trans a1 (by decide),Nat.le_trans a2 (by decide)⟩,Nat.le_trans a3 (by decide),Nat.le_trans a4 (by decide)⟩
theorem Zf8 {A:ArmV} (hA:armE A=0) (Q:List (RV×RV)):∀ i,(endL A Q i).zx (4+8*i)
 |0=>by obtain⟨b1,b2,_⟩:=Zor hA;exact⟨⟨b1,b1⟩,b2,b2⟩
 |i+1=>by
  obtain⟨⟨x1,x2⟩,y1,y2⟩:=Zf8 hA Q i
  obtain⟨⟨c1,c2⟩,s1,s2⟩:=Zbv A Q i
  have hl:=ZrK hA i
  obtain⟨m1,m2⟩:=Zm3 hl hl c1 c2
  obtain⟨m3,m4⟩:=Zm3 hl hl s1 s2
  have e1:=ZI (endL A Q i).xl (mulLo (lenAt A i) (lenAt A i) (linkL A Q i).cl (linkL A Q i).ch)
  have e2:=ZI (endL A Q i).xh (mulHi (lenAt A i) (lenAt A i) (linkL A Q i).cl (linkL A Q i).ch)
  have e3:=ZI (endL A Q i).yl (mulLo (lenAt A i) (lenAt A i) (linkL A Q i).sl (linkL A Q i).sh)
  have e4:=ZI (endL A Q i).yh (mulHi (lenAt A i) (lenAt A i) (linkL A Q i).sl (linkL A Q i).sh)
  exact⟨⟨by show qs ((endL A Q i).xl+mulLo (lenAt A i) (lenAt A i) (linkL A Q i).cl (linkL A Q i).ch)≤_;omega,by show qs ((endL A Q i).xh+mulHi (lenAt A i) (lenAt A i) (linkL A Q i).cl (linkL A Q i).ch)≤_;omega⟩,
   by show qs ((endL A Q i).yl+mulLo (lenAt A i) (lenAt A i) (linkL A Q i).sl (linkL A Q i).sh)≤_;omega,by show qs ((endL A Q i).yh+mulHi (lenAt A i) (lenAt A i) (linkL A Q i).sl (linkL A Q i).sh)≤_;omega⟩
theorem ZpL {A:ArmV} (hA:armE A=0) (Q:List (RV×RV)) (i:Nat):(linkL A Q i).zx (4+8*i):=Zf8 hA Q i
def rdL (f:LF):List D:=rd (cn f.xl)++rd (cn f.xh)++rd (cn f.yl)++rd (cn f.yh)++rd (cn f.cl)++rd (cn f.ch)++rd (cn f.sl)++rd (cn f.sh)
def rqL (f:LF):List D:=q3d f.xl++q3d f.xh++q3d f.yl++q3d f.yh++q3d f.cl++q3d f.ch++q3d f.sl++q3d f.sh
def foLo (f:Rat→Rat) (p:Rat) (L:List Rat) (j:Nat):Rat:=lowL (f p) ((L.take j).map f)
def foHi (f:Rat→Rat) (p:Rat) (L:List Rat) (j:Nat):Rat:=highL (f p) ((L.take j).map f)
theorem fo_s {f:Rat→Rat} {p:Rat} {L:List Rat} {j:Nat} {x:Rat} (h:L[j]? =some x):foLo f p L (j+1)=minQ (foLo f p L j) (f x)∧foHi f p L (j+1)=maxQ (foHi f p L j) (f x):=by
 unfold foLo foHi lowL highL
 rw [List.take_add_one,h,Zm7,Zjv]
 simp
theorem fo_z {f:Rat→Rat} {p:Rat} {L:List Rat} {B:Nat} (h:∀ t,t∈p :: L→qs (f t)≤B) (j:Nat):qs (foLo f p L j)≤B∧qs (foHi f p L j)≤B:=by
 have k:∀ q,q∈f p :: (L.take j).map f→qs q≤B:=by
  intro q hq
  rcases List.mem_cons.1 hq with rfl|hq
  ·exact h _ (by simp)
  ·obtain⟨t,ht,rfl⟩:=List.mem_map.1 hq
   exact h t (List.mem_cons_of_mem _ (List.mem_of_mem_take ht))
 exact⟨Zbu k,ZaK k⟩
theorem Zq1 {p q:Rat} {L:List Rat} (h:L=ext3 p q) {j:Nat} (hj:j=L.length):foLo (cosq false) p L j=(cs3 p q).1∧foHi (cosq false) p L j=(cs3 p q).2∧foLo sinq p L j=(sn3 p q).1∧foHi sinq p L j=(sn3 p q).2:=by
 subst h hj
 unfold foLo foHi
 rw [List.take_length]
 exact⟨rfl,rfl,rfl,rfl⟩
theorem ZnV {p q:Rat} {B:Nat} (hp:qs p≤B) (hq:qs q≤B) (hB:1≤B):(∀ t,t∈p :: ext3 p q→qs (cosq false t)≤4*B+34)∧∀ t,t∈p :: ext3 p q→qs (sinq t)≤4*B+34:=by
 have k:∀ t,t∈p :: ext3 p q→qs t≤B:=by
  intro t ht
  rcases List.mem_cons.1 ht with rfl|ht
  ·exact hp
  ·exact Zhk hp hq hB t ht
 exact⟨fun t ht=>by have:=k t ht;have:=(ZfN t).1;omega,fun t ht=>by have:=k t ht;have:=(ZfN t).2;omega⟩
theorem Ze6 (p q r u:Rat):qs (mulLo p q r u)≤qs p+qs q+qs r+qs u∧qs (mulHi p q r u)≤qs p+qs q+qs r+qs u:=by
 obtain⟨h1,h2⟩:=Zm3 (a:=p) (b:=q) (c:=r) (d:=u) (B:=qs p+qs q) (C:=qs r+qs u) (by omega) (by omega) (by omega) (by omega)
 omega
theorem Zq3 (q:Rat):qs (cutLo q)≤qs q+60∧qs (cutHi q)≤qs q+60:=by
 have h1:=Zc6 q 1000000 (by decide)
 have h2:=Zc6 (-q) 1000000 (by decide)
 have h3:=ZbJ q
 have h4:=ZbJ (downQ (-q) 1000000)
 have z:qs ((-1:Int):Rat)≤3:=by decide+kernel
 have z':qs ((1:Int):Rat)≤3:=by decide+kernel
 unfold cutLo cutHi maxQ minQ upQ
 constructor<;>split<;>omega
open Classical in
noncomputable def spreadV (A:ArmV) (Q:List (RV×RV)):List LF:=if hasE A (Q.length:Int)=0 then spreadL A Q else []
theorem ZbW {A:ArmV} {Q:List (RV×RV)} (h:hasE A (Q.length:Int)=0):spreadV A Q=spreadL A Q:=if_pos h
theorem Zkl {A:ArmV} {Q:List (RV×RV)} (h:¬ hasE A (Q.length:Int)=0):spreadV A Q= []:=if_neg h
end Go.Proofs.YtpfemjpgbpnpkaaGreatDoor.eng
namespace Go.Proofs.YtpfemjpgbpnpkaaGreatDoor.eng
open Go.RowKit num mem seg q held ratA ratB ratC ratD ratE vars ratF trq
section
variable {K : AV → Prop}
theorem Zks (x y:RV) (n:Int) (hx:x.z≤268435456) (hy:y.z≤268435456) (hn:n≤9223372036854775807):Spec Tryz.prog Tab 332 [pair x y,int n] (pair (cn (downQ (slo x y) n)) (cn (upQ (shi x y) n))):=by
 refine Za Tryz.func332 rfl rfl Tryz.ntmps332 rfl (by kernel_rfl) rfl rfl ?_
 refine ZbN (x:=x) (y:=y) (by omega) (by omega) (fun p6 q6 hk_6_2 hk_6_3 hk_6_4 hk_6_5=> ?_)
 simp only [cn_z] at hk_6_4
 simp only [cn_z] at hk_6_5
 refine ZqX (den:=n) (x:=cn p6) (by simp only [cn_z];omega) (by omega) (fun q10 hk_10_1 hk_10_2=> ?_)
 try simp only [cn_q] at hk_10_1
 simp only [cn_z] at hk_10_2
 refine k_up (den:=n) (x:=cn q6) (by simp only [cn_z];omega) (by omega) (fun q14 hk_14_1 hk_14_2=> ?_)
 try simp only [cn_q] at hk_14_1
 simp only [cn_z] at hk_14_2
 refine⟨by kernel_rfl,?_⟩
 refine Eq.trans (b:=pair (cn q10) (cn q14)) ?_ rfl
 subst_vars;rfl
theorem ZrQ {x y:RV} {n:Int} (hx:x.z≤268435456) (hy:y.z≤268435456) (hn:n≤9223372036854775807) (k:∀ ya yb,ya=downQ (slo x y) n→yb=upQ (shi x y) n→(cn ya).z≤x.z+100→(cn yb).z≤y.z+100→K (pair (cn ya) (cn yb))):Ask 332 [pair x y,int n] K:=use (Zks x y n hx hy hn) rfl (k _ _ rfl rfl (by have:=Zbl x y;have:=Zc6 (slo x y) n hn;rw [cn_z] at*;omega) (by have:=Zbm x y;have:=Zc6 (-shi x y) n hn;have:=ZbJ (shi x y);have:=ZbJ (downQ (-shi x y) n);rw [cn_z] at*;show qs (-downQ (-shi x y) n)≤_;omega))
theorem Zpw  :Spec Tryz.prog Tab 333 [] (pair (cn ((-1:Int):Rat)) (cn ((1:Int):Rat))):=by
 refine Za Tryz.func333 rfl rfl Tryz.ntmps333 rfl (by kernel_rfl) rfl rfl ?_
 refine k_of (-1) (by omega) (by omega) fun q1 h1 z1=> ?_
 simp only [cn_z] at z1
 refine k_of (1) (by omega) (by omega) fun q2 h2 z2=> ?_
 simp only [cn_z] at z2
 refine Eq.trans (b:=pair (cn q1) (cn q2)) ?_ rfl
 subst_vars;rfl
theorem Zti (k:∀ ya yb,ya=((-1:Int):Rat)→yb=((1:Int):Rat)→(cn ya).z≤8→(cn yb).z≤8→K (pair (cn ya) (cn yb))):Ask 333 [] K:=use Zpw rfl (k _ _ rfl rfl ZsR Zjl)
theorem Zqb (x y:RV) (hx:x.z≤268435456) (hy:y.z≤268435456):Spec Tryz.prog Tab 310 [pair x y] (pair (cn (cutLo (slo x y))) (cn (cutHi (shi x y)))):=by
 refine Za Tryz.func310 rfl rfl Tryz.ntmps310 rfl (by kernel_rfl) rfl rfl ?_
 refine ZrQ (x:=x) (y:=y) (n:=1000000) (by omega) (by omega) (by omega) (fun ya4 yb4 hk_4_2 hk_4_3 hk_4_4 hk_4_5=> ?_)
 simp only [cn_z] at hk_4_4
 simp only [cn_z] at hk_4_5
 refine Zti   (fun ya7 yb7 hk_7_2 hk_7_3 hk_7_4 hk_7_5=> ?_)
 simp only [cn_z] at hk_7_4
 simp only [cn_z] at hk_7_5
 refine ZkY (x:=cn ya4) (y:=cn ya7) (by simp only [cn_z];omega) (by simp only [cn_z];omega) fun q9 h9 z9=> ?_
 simp only [cn_z] at z9
 simp only [cn_q] at h9
 refine Zti   (fun ya12 yb12 hk_12_2 hk_12_3 hk_12_4 hk_12_5=> ?_)
 simp only [cn_z] at hk_12_4
 simp only [cn_z] at hk_12_5
 refine ZkX (x:=cn yb4) (y:=cn yb12) (by simp only [cn_z];omega) (by simp only [cn_z];omega) fun q14 h14 z14=> ?_
 simp only [cn_z] at z14
 simp only [cn_q] at h14
 refine⟨by kernel_rfl,?_⟩
 refine Eq.trans (b:=pair (cn q9) (cn q14)) ?_ rfl
 subst_vars;rfl
theorem Zk6 (a b c d e f g h:RV):Spec Tryz.prog Tab 272 [loose a b c d e f g h] (box a c b d):=by
 refine Za Tryz.func272 rfl rfl Tryz.ntmps272 rfl (by kernel_rfl) rfl rfl ?_
 refine Eq.trans (b:=box a c b d) ?_ rfl
 rfl
theorem ZrZ {a b c d e f g h:RV} (k:K (box a c b d)):Ask 272 [loose a b c d e f g h] K:=use (Zk6 a b c d e f g h) rfl k
theorem Zca {p q r u:Rat} (h1:sle p q) (h2:sle r u) (hp:qs p≤268435456) (hq:qs q≤268435456) (hr:qs r≤268435456) (hu:qs u≤268435456) (k:∀ ya yb,ya=mulLo p q r u→yb=mulHi p q r u→sle ya yb→qs ya≤qs p+qs q+qs r+qs u+20→qs yb≤qs p+qs q+qs r+qs u+20→K (pair (cn ya) (cn yb))):Ask 312 [pair (cn p) (cn q),pair (cn r) (cn u)] K:=by
 refine Zte (by rw [cn_z];omega) (by rw [cn_z];omega) (by rw [cn_z];omega) (by rw [cn_z];omega) fun ya yb ha hb z1 z2=> ?_
 simp only [Zar h1,Zas h1,Zar h2,Zas h2] at ha hb
 simp only [cn_z] at z1 z2
 exact k ya yb ha hb (by rw [ha,hb];exact Rat.le_trans (Za0 Rat.le_refl h1 Rat.le_refl h2).1 (Za0 Rat.le_refl h1 Rat.le_refl h2).2) (by omega) (by omega)
theorem Zfb {p q r u:Rat} (h1:sle p q) (h2:sle r u) (hp:qs p≤268435456) (hq:qs q≤268435456) (hr:qs r≤268435456) (hu:qs u≤268435456) (k:∀ ya yb,ya=p+r→yb=q+u→sle ya yb→qs ya≤qs p+qs q+qs r+qs u+20→qs yb≤qs p+qs q+qs r+qs u+20→K (pair (cn ya) (cn yb))):Ask 313 [pair (cn p) (cn q),pair (cn r) (cn u)] K:=by
 refine Ztf (by rw [cn_z];omega) (by rw [cn_z];omega) (by rw [cn_z];omega) (by rw [cn_z];omega) fun ya yb ha hb z1 z2=> ?_
 simp only [Zar h1,Zas h1,Zar h2,Zas h2] at ha hb
 simp only [cn_z] at z1 z2
 exact k ya yb ha hb (by rw [ha,hb];unfold sle at*;grind) (by omega) (by omega)
theorem ZqS {p q r u:Rat} (h1:sle p q) (h2:sle r u) (hp:qs p≤268435456) (hq:qs q≤268435456) (hr:qs r≤268435456) (hu:qs u≤268435456) (k:∀ ya yb,ya=p - u→yb=q - r→sle ya yb→qs ya≤qs p+qs q+qs r+qs u+20→qs yb≤qs p+qs q+qs r+qs u+20→K (pair (cn ya) (cn yb))):Ask 311 [pair (cn p) (cn q),pair (cn r) (cn u)] K:=by
 refine Ztd (by rw [cn_z];omega) (by rw [cn_z];omega) (by rw [cn_z];omega) (by rw [cn_z];omega) fun ya yb ha hb z1 z2=> ?_
 simp only [Zar h1,Zas h1,Zar h2,Zas h2] at ha hb
 simp only [cn_z] at z1 z2
 exact k ya yb ha hb (by rw [ha,hb];unfold sle at*;grind) (by omega) (by omega)
theorem Zny {p q r u:Rat} (h1:sle p q) (h2:sle r u) (hp:qs p≤268435456) (hq:qs q≤268435456) (hr:qs r≤268435456) (hu:qs u≤268435456) (k:∀ ya yb,ya=minQ p r→yb=maxQ q u→sle ya yb→qs ya≤qs p+qs q+qs r+qs u+20→qs yb≤qs p+qs q+qs r+qs u+20→K (pair (cn ya) (cn yb))):Ask 271 [pair (cn p) (cn q),pair (cn r) (cn u)] K:=by
 refine Zeh (by rw [cn_z];omega) (by rw [cn_z];omega) (by rw [cn_z];omega) (by rw [cn_z];omega) fun ya yb ha hb z1 z2=> ?_
 simp only [Zar h1,Zas h1,Zar h2,Zas h2] at ha hb
 simp only [cn_z] at z1 z2
 exact k ya yb ha hb (by rw [ha,hb];unfold sle minQ maxQ at*;grind) (by omega) (by omega)
theorem ZqT {p q:Rat} (h1:sle p q) (hp:qs p≤268435456) (hq:qs q≤268435456) (k:∀ ya yb,ya=cutLo p→yb=cutHi q→K (pair (cn ya) (cn yb))):Ask 310 [pair (cn p) (cn q)] K:=by
 have e1:slo (cn p) (cn q)=p:=Zar h1
 have e2:shi (cn p) (cn q)=q:=Zas h1
 exact use (Zqb (cn p) (cn q) (by rw [cn_z];exact hp) (by rw [cn_z];exact hq)) rfl (k _ _ (by rw [e1]) (by rw [e2]))
theorem Ztk {x y:RV} (hx:x.z≤3145760) (hy:y.z≤3145760) (k:∀ ya yb,ya=(cs3 (slo x y) (shi x y)).1→yb=(cs3 (slo x y) (shi x y)).2→sle ya yb→qs ya≤4*(x.z+y.z+8)+34→qs yb≤4*(x.z+y.z+8)+34→K (pair (cn ya) (cn yb))):Ask 308 [pair x y] K:=by
 refine ZnD (by omega) (by omega) fun ya yb ha hb=> ?_
 have hz1:=Zbl x y
 have hz2:=Zbm x y
 rw [cn_z] at hz1 hz2
 obtain⟨z1,z2⟩:=Zse (l:=slo x y) (h:=shi x y) (B:=x.z+y.z+8) (by omega) (by omega) (by omega)
 have e:=Zsg (ZeW x y)
 have ha:ya=(cs3 (slo x y) (shi x y)).1:=by rw [← e];exact ha
 have hb:yb=(cs3 (slo x y) (shi x y)).2:=by rw [← e];exact hb
 have hle:sle (cs3 (slo x y) (shi x y)).1 (cs3 (slo x y) (shi x y)).2:=Rat.le_trans (ZjX _ _).1 (ZjX _ _).2
 exact k ya yb ha hb (by rw [ha,hb];exact hle) (by rw [ha];exact z1) (by rw [hb];exact z2)
theorem Ztj {x y:RV} (hx:x.z≤3145760) (hy:y.z≤3145760) (k:∀ ya yb,ya=(sn3 (slo x y) (shi x y)).1→yb=(sn3 (slo x y) (shi x y)).2→sle ya yb→qs ya≤4*(x.z+y.z+8)+34→qs yb≤4*(x.z+y.z+8)+34→K (pair (cn ya) (cn yb))):Ask 309 [pair x y] K:=by
 refine Znr (by omega) (by omega) fun ya yb ha hb=> ?_
 have hz1:=Zbl x y
 have hz2:=Zbm x y
 rw [cn_z] at hz1 hz2
 obtain⟨z1,z2⟩:=Zri (l:=slo x y) (h:=shi x y) (B:=x.z+y.z+8) (by omega) (by omega) (by omega)
 have e:=Zrk (ZeW x y)
 rw [e] at ha hb
 have hle:sle (sn3 (slo x y) (shi x y)).1 (sn3 (slo x y) (shi x y)).2:=Rat.le_trans (Zi7 _ _).1 (Zi7 _ _).2
 exact k ya yb ha hb (by rw [ha,hb];exact hle) (by rw [ha];exact z1) (by rw [hb];exact z2)
set_option maxHeartbeats 4000000 in
theorem ZiJ (A:ArmV) (Q:List (RV×RV)) (hA:A.ok) (hQ:∀ p,p∈Q→p.1.z≤3145760∧p.2.z≤3145760):Spec Tryz.prog Tab 269 [.val (.agg [.d (.v (.string A.name)),.d (.v (.bool A.bx.s)),.d (.v (.string A.bx.a)),.d (.v (.string A.bx.d)),.d (.v (.bool A.by'.s)),.d (.v (.string A.by'.a)),.d (.v (.string A.by'.d)),.d (.v (.bool (A.bh))),.d (.v (.bool A.bt.s)),.d (.v (.string A.bt.a)),.d (.v (.string A.bt.d)),.d (.list (List.map lk A.links))]),.val (.one (.d (.list (List.map rdv Q))))] (.tup [.one (.d (.list (List.map rdL (spreadV A Q)))),.one (.d (.v (.int .i64 (hasE A (Q.length:Int)))))]):=by
 have hA2:=hA
 obtain⟨z1,z2,z3,z4,z5,z6⟩:=hA
 have hL:(List.map lk A.links).length=A.links.length:=List.length_map ..
 have hLq:(List.map rdv Q).length=Q.length:=List.length_map ..
 refine Za Tryz.func269 rfl rfl Tryz.ntmps269 rfl (by kernel_rfl) rfl rfl ?_
 refine ZnJ (A:=A) (n:=((List.map rdv Q).length:Int)) (by assumption) fun n19 hk_19_1=> ?_
 rw [List.length_map] at hk_19_1
 refine⟨fun e1=> ?_,fun e1=> ?_⟩
 ·have f21:n19≠0:=Z8 e1
  refine Eq.trans (b:= .tup [.one (.d (.list ([]))),.one (.d (.v (.int .i64 (n19))))]) ?_ rfl
  rw [Zkl (by rw [← hk_19_1];exact f21),← hk_19_1]
  all_goals rfl
 ·have f21:¬ (n19≠0):=fun hh=>hh (Z9 e1)
  have h0:hasE A (Q.length:Int)=0:=by rw [← hk_19_1];exact Classical.not_not.1 f21
  obtain⟨hA0,hlen0⟩:=Z4.1 h0
  have hlen:Q.length=A.links.length:=by omega
  obtain⟨hn3,hnz,hsb1,hsb2,hsb3,_⟩:=ZaA hA0
  have hb1:=ZH hsb1
  have hb2:=ZH hsb2
  have hb3:=ZH hsb3
  refine Zdd (x:=A.bx) (by omega) (fun q28 hk_28_1 hk_28_2=> ?_)
  simp only [cn_z] at hk_28_2
  refine Zdd (x:=A.by') (by omega) (fun q32 hk_32_1 hk_32_2=> ?_)
  simp only [cn_z] at hk_32_2
  refine Ztb (h:=A.bh) (x:=A.bt) (by omega) (fun q35 hk_35_1 hk_35_2=> ?_)
  simp only [cn_z] at hk_35_2
  refine Zdd (x:=cn q35) (by simp only [cn_z];omega) (fun q36 hk_36_1 hk_36_2=> ?_)
  try simp only [cn_q] at hk_36_1
  simp only [cn_z] at hk_36_2
  refine Znp (h:=A.bh) (x:=A.bt) (by omega) (fun q39 hk_39_1 hk_39_2=> ?_)
  simp only [cn_z] at hk_39_2
  refine Zdd (x:=cn q39) (by simp only [cn_z];omega) (fun q40 hk_40_1 hk_40_2=> ?_)
  try simp only [cn_q] at hk_40_1
  simp only [cn_z] at hk_40_2
  refine⟨by kernel_rfl,?_⟩
  have b28:q28=(endL A Q 0).xl:=hk_28_1
  have b32:q32=(endL A Q 0).yl:=hk_32_1
  have b36:q36=(endL A Q 0).cl:=hk_36_1.trans hk_35_1
  have b40:q40=(endL A Q 0).sl:=hk_40_1.trans hk_39_1
  refine⟨Nat,fun i=> [(1,.val (.one (.d (.list (List.map rdv Q))))),(8,.val (.one (.ptr 8 0))),(9,.val (.one (.row 86 0))),(43,.val (.one (.d (.list (List.map lk A.links))))),(44,int ((List.map lk A.links).length:Int)),(45,int (i:Int))],
   fun i=> [(8,.var 309 [.d (.v (.bool (cn (endL A Q i).xl).s)),.d (.v (.string (cn (endL A Q i).xl).a)),.d (.v (.string (cn (endL A Q i).xl).d)),.d (.v (.bool (cn (endL A Q i).xh).s)),.d (.v (.string (cn (endL A Q i).xh).a)),.d (.v (.string (cn (endL A Q i).xh).d)),.d (.v (.bool (cn (endL A Q i).yl).s)),.d (.v (.string (cn (endL A Q i).yl).a)),.d (.v (.string (cn (endL A Q i).yl).d)),.d (.v (.bool (cn (endL A Q i).yh).s)),.d (.v (.string (cn (endL A Q i).yh).a)),.d (.v (.string (cn (endL A Q i).yh).d)),.d (.v (.bool (cn (endL A Q i).cl).s)),.d (.v (.string (cn (endL A Q i).cl).a)),.d (.v (.string (cn (endL A Q i).cl).d)),.d (.v (.bool (cn (endL A Q i).ch).s)),.d (.v (.string (cn (endL A Q i).ch).a)),.d (.v (.string (cn (endL A Q i).ch).d)),.d (.v (.bool (cn (endL A Q i).sl).s)),.d (.v (.string (cn (endL A Q i).sl).a)),.d (.v (.string (cn (endL A Q i).sl).d)),.d (.v (.bool (cn (endL A Q i).sh).s)),.d (.v (.string (cn (endL A Q i).sh).a)),.d (.v (.string (cn (endL A Q i).sh).d))]),(86,.row 309 24 0 (List.map rdL (linksL A Q i)) true)],fun i=>i≤A.links.length,fun i=>A.links.length - i,0,?_,Nat.zero_le _,fun i hs=> ?_⟩
  ·constructor<;>(repeat' (first|exact rfl|exact True.intro|exact⟨_,_,rfl⟩|exact(by decide)|apply And.intro))
   all_goals first
    |exact congrArg (fun q:Rat=>D.v (.bool (cn q).s)) b28
    |exact congrArg (fun q:Rat=>D.v (.bool (cn q).s)) b28.symm
    |exact congrArg (fun q:Rat=>D.v (.string (cn q).a)) b28
    |exact congrArg (fun q:Rat=>D.v (.string (cn q).a)) b28.symm
    |exact congrArg (fun q:Rat=>D.v (.string (cn q).d)) b28
    |exact congrArg (fun q:Rat=>D.v (.string (cn q).d)) b28.symm
    |exact congrArg (fun q:Rat=>D.v (.bool (cn q).s)) b32
    |exact congrArg (fun q:Rat=>D.v (.bool (cn q).s)) b32.symm
    |exact congrArg (fun q:Rat=>D.v (.string (cn q).a)) b32
    |exact congrArg (fun q:Rat=>D.v (.string (cn q).a)) b32.symm
    |exact congrArg (fun q:Rat=>D.v (.string (cn q).d)) b32
    |exact congrArg (fun q:Rat=>D.v (.string (cn q).d)) b32.symm
    |exact congrArg (fun q:Rat=>D.v (.bool (cn q).s)) b36
    |exact congrArg (fun q:Rat=>D.v (.bool (cn q).s)) b36.symm
    |exact congrArg (fun q:Rat=>D.v (.string (cn q).a)) b36
    |exact congrArg (fun q:Rat=>D.v (.string (cn q).a)) b36.symm
    |exact congrArg (fun q:Rat=>D.v (.string (cn q).d)) b36
    |exact congrArg (fun q:Rat=>D.v (.string (cn q).d)) b36.symm
    |exact congrArg (fun q:Rat=>D.v (.bool (cn q).s)) b40
    |exact congrArg (fun q:Rat=>D.v (.bool (cn q).s)) b40.symm
    |exact congrArg (fun q:Rat=>D.v (.string (cn q).a)) b40
    |exact congrArg (fun q:Rat=>D.v (.string (cn q).a)) b40.symm
    |exact congrArg (fun q:Rat=>D.v (.string (cn q).d)) b40
    |exact congrArg (fun q:Rat=>D.v (.string (cn q).d)) b40.symm
    |exact congrArg (fun n:Int=>D.v (.int .i64 n)) (by omega)
    |(simp;done)
  obtain⟨⟨zc1,zc2⟩,zc3,zc4⟩:=ZnZ hA0 Q i
  obtain⟨⟨zx1,zx2⟩,zx3,zx4⟩:=Zf8 hA0 Q i
  obtain⟨ol1,ol2,ol3,ol4⟩:=LF.has_le (ZcX A Q i)
  obtain⟨⟨zl1,zl2⟩,zl3,zl4⟩:=Zbv A Q i
  obtain⟨ol7,ol8,ol9,ol10⟩:=LF.has_le (ZcM A Q i)
  have hT:(List.map rdL (linksL A Q i)).length≤3:=by rw [List.length_map,Ze7];omega
  refine⟨fun e2=> ?_,fun e2=> ?_⟩
  ·have f46:(i:Int)< ((List.map lk A.links).length:Int):=of_decide_eq_true e2
   refine Zq (l:=A.links) (i:=i) (by first|omega|exact Nat.mod_lt _ (by omega)) fun x48 hx48=> ?_
   obtain⟨hs1,hs2,hs3,hs4,hs5,hs6,hs7⟩:=z6 x48 (List.mem_of_getElem? hx48)
   have hlx48:=Zjz hx48
   have hsmx48:=ZH (ZaO hA0 (List.mem_of_getElem? hx48)).1
   refine k_ix i [D.v (.bool x48.len.s),D.v (.string x48.len.a),D.v (.string x48.len.d),D.v (.bool x48.low.s),D.v (.string x48.low.a),D.v (.string x48.low.d),D.v (.bool x48.high.s),D.v (.string x48.high.a),D.v (.string x48.high.d),D.v (.bool x48.speed.s),D.v (.string x48.speed.a),D.v (.string x48.speed.d),D.v (.bool x48.brake.s),D.v (.string x48.brake.a),D.v (.string x48.brake.d),D.list (List.map rdv x48.shape)] (by first|rfl|omega|(rw [wrap64 _ (by omega) (by omega)];omega)) (Zf hx48) rfl ?_
   refine Zq (l:=Q) (i:=i) (by first|omega|exact Nat.mod_lt _ (by omega)) fun x52 hx52=> ?_
   obtain⟨hzx52,hyx52⟩:=hQ x52 (List.mem_of_getElem? hx52)
   have hqx52:=Zl2 hx52
   refine k_ix i [D.v (.bool x52.1.s),D.v (.string x52.1.a),D.v (.string x52.1.d),D.v (.bool x52.2.s),D.v (.string x52.2.a),D.v (.string x52.2.d)] (by first|rfl|omega|(rw [wrap64 _ (by omega) (by omega)];omega)) (Zf hx52) rfl ?_
   refine Ztk (x:=x52.1) (y:=x52.2) (by omega) (by omega) (fun ya54 yb54 hk_54_2 hk_54_3 hk_54_4 hk_54_5 hk_54_6=> ?_)
   refine k_ix i [D.v (.bool x52.1.s),D.v (.string x52.1.a),D.v (.string x52.1.d),D.v (.bool x52.2.s),D.v (.string x52.2.a),D.v (.string x52.2.d)] (by first|rfl|omega|(rw [wrap64 _ (by omega) (by omega)];omega)) (Zf hx52) rfl ?_
   refine Ztj (x:=x52.1) (y:=x52.2) (by omega) (by omega) (fun ya59 yb59 hk_59_2 hk_59_3 hk_59_4 hk_59_5 hk_59_6=> ?_)
   refine⟨by kernel_rfl,?_⟩
   refine Zca (p:=(endL A Q i).cl) (q:=(endL A Q i).ch) (r:=ya54) (u:=yb54) (by assumption) (by assumption) (by omega) (by omega) (by omega) (by omega) (fun ya64 yb64 hk_64_2 hk_64_3 hk_64_4 hk_64_5 hk_64_6=> ?_)
   refine Zca (p:=(endL A Q i).sl) (q:=(endL A Q i).sh) (r:=ya59) (u:=yb59) (by assumption) (by assumption) (by omega) (by omega) (by omega) (by omega) (fun ya68 yb68 hk_68_2 hk_68_3 hk_68_4 hk_68_5 hk_68_6=> ?_)
   refine ZqS (p:=ya64) (q:=yb64) (r:=ya68) (u:=yb68) (by assumption) (by assumption) (by omega) (by omega) (by omega) (by omega) (fun ya69 yb69 hk_69_2 hk_69_3 hk_69_4 hk_69_5 hk_69_6=> ?_)
   refine ZqT (p:=ya69) (q:=yb69) (by assumption) (by omega) (by omega) (fun ya70 yb70 hk_70_2 hk_70_3=> ?_)
   refine⟨by kernel_rfl,?_⟩
   refine Zca (p:=(endL A Q i).sl) (q:=(endL A Q i).sh) (r:=ya54) (u:=yb54) (by assumption) (by assumption) (by omega) (by omega) (by omega) (by omega) (fun ya75 yb75 hk_75_2 hk_75_3 hk_75_4 hk_75_5 hk_75_6=> ?_)
   refine Zca (p:=(endL A Q i).cl) (q:=(endL A Q i).ch) (r:=ya59) (u:=yb59) (by assumption) (by assumption) (by omega) (by omega) (by omega) (by omega) (fun ya79 yb79 hk_79_2 hk_79_3 hk_79_4 hk_79_5 hk_79_6=> ?_)
   refine Zfb (p:=ya75) (q:=yb75) (r:=ya79) (u:=yb79) (by assumption) (by assumption) (by omega) (by omega) (by omega) (by omega) (fun ya80 yb80 hk_80_2 hk_80_3 hk_80_4 hk_80_5 hk_80_6=> ?_)
   refine ZqT (p:=ya80) (q:=yb80) (by assumption) (by omega) (by omega) (fun ya81 yb81 hk_81_2 hk_81_3=> ?_)
   have e70:ya70=(linkL A Q i).cl:=by rw [hk_70_2,hk_69_2,hk_64_2,hk_68_3,hk_54_2,hk_54_3,hk_59_2,hk_59_3,← hqx52.1,← hqx52.2];rfl
   have f70:yb70=(linkL A Q i).ch:=by rw [hk_70_3,hk_69_3,hk_64_3,hk_68_2,hk_54_2,hk_54_3,hk_59_2,hk_59_3,← hqx52.1,← hqx52.2];rfl
   have e81:ya81=(linkL A Q i).sl:=by rw [hk_81_2,hk_80_2,hk_75_2,hk_79_2,hk_54_2,hk_54_3,hk_59_2,hk_59_3,← hqx52.1,← hqx52.2];rfl
   have f81:yb81=(linkL A Q i).sh:=by rw [hk_81_3,hk_80_3,hk_75_3,hk_79_3,hk_54_2,hk_54_3,hk_59_2,hk_59_3,← hqx52.1,← hqx52.2];rfl
   have ol5:sle ya70 yb70:=by rw [e70,f70];exact ol9
   have ol6:sle ya81 yb81:=by rw [e81,f81];exact ol10
   have zl5:qs ya70≤3:=by rw [e70];exact zl1
   have zl6:qs yb70≤3:=by rw [f70];exact zl2
   have zl7:qs ya81≤3:=by rw [e81];exact zl3
   have zl8:qs yb81≤3:=by rw [f81];exact zl4
   refine⟨by kernel_rfl,?_⟩
   refine⟨⟨row1 rfl,(by show ((List.map rdL (linksL A Q i)).length+1)*320≤_;omega),(by show ((List.map rdL (linksL A Q i)).length+1)≤_;omega)⟩,?_⟩
   refine Zdd (x:=x48.len) (by omega) (fun q89 hk_89_1 hk_89_2=> ?_)
   simp only [cn_z] at hk_89_2
   have hs89:sle q89 q89:=Rat.le_refl
   refine Zca (p:=q89) (q:=q89) (r:=ya70) (u:=yb70) (by assumption) (by assumption) (by omega) (by omega) (by omega) (by omega) (fun ya95 yb95 hk_95_2 hk_95_3 hk_95_4 hk_95_5 hk_95_6=> ?_)
   refine Zfb (p:=(endL A Q i).xl) (q:=(endL A Q i).xh) (r:=ya95) (u:=yb95) (by assumption) (by assumption) (by omega) (by omega) (by omega) (by omega) (fun ya96 yb96 hk_96_2 hk_96_3 hk_96_4 hk_96_5 hk_96_6=> ?_)
   refine⟨by kernel_rfl,?_⟩
   refine Zca (p:=q89) (q:=q89) (r:=ya81) (u:=yb81) (by assumption) (by assumption) (by omega) (by omega) (by omega) (by omega) (fun ya103 yb103 hk_103_2 hk_103_3 hk_103_4 hk_103_5 hk_103_6=> ?_)
   refine Zfb (p:=(endL A Q i).yl) (q:=(endL A Q i).yh) (r:=ya103) (u:=yb103) (by assumption) (by assumption) (by omega) (by omega) (by omega) (by omega) (fun ya104 yb104 hk_104_2 hk_104_3 hk_104_4 hk_104_5 hk_104_6=> ?_)
   refine⟨by kernel_rfl,?_⟩
   have hl:q89=lenAt A i:=hk_89_1.trans hlx48.symm
   have ex:ya96=(endL A Q (i+1)).xl:=by rw [hk_96_2,hk_95_2,hl,e70,f70];rfl
   have ex2:yb96=(endL A Q (i+1)).xh:=by rw [hk_96_3,hk_95_3,hl,e70,f70];rfl
   have ey:ya104=(endL A Q (i+1)).yl:=by rw [hk_104_2,hk_103_2,hl,e81,f81];rfl
   have ey2:yb104=(endL A Q (i+1)).yh:=by rw [hk_104_3,hk_103_3,hl,e81,f81];rfl
   subst ex ex2 ey ey2 e70 f70 e81 f81
   refine⟨i+1,by omega,by simp only;omega,?_⟩
   constructor<;>(repeat' (first|exact rfl|exact True.intro|apply And.intro))
   all_goals first
    |(rw [Zed];rfl)
    |exact congrArg (fun n:Int=>D.v (.int .i64 n)) (by rw [wrap64 _ (by omega) (by omega)];omega)
    |exact congrArg (fun n:Int=>D.v (.int .i64 n)) (by omega)
  ·have f46:¬ ((i:Int)< ((List.map lk A.links).length:Int)):=of_decide_eq_false e2
   refine⟨⟨row1 rfl,(by show ((List.map rdL (linksL A Q i)).length+1)*320≤_;omega),(by show ((List.map rdL (linksL A Q i)).length+1)≤_;omega)⟩,?_⟩
   refine Eq.trans (b:= .tup [.one (.d (.list (List.map rdL (linksL A Q i)++ [[D.v (.bool (cn (endL A Q i).xl).s),D.v (.string (cn (endL A Q i).xl).a),D.v (.string (cn (endL A Q i).xl).d),D.v (.bool (cn (endL A Q i).xh).s),D.v (.string (cn (endL A Q i).xh).a),D.v (.string (cn (endL A Q i).xh).d),D.v (.bool (cn (endL A Q i).yl).s),D.v (.string (cn (endL A Q i).yl).a),D.v (.string (cn (endL A Q i).yl).d),D.v (.bool (cn (endL A Q i).yh).s),D.v (.string (cn (endL A Q i).yh).a),D.v (.string (cn (endL A Q i).yh).d),D.v (.bool (cn (endL A Q i).cl).s),D.v (.string (cn (endL A Q i).cl).a),D.v (.string (cn (endL A Q i).cl).d),D.v (.bool (cn (endL A Q i).ch).s),D.v (.string (cn (endL A Q i).ch).a),D.v (.string (cn (endL A Q i).ch).d),D.v (.bool (cn (endL A Q i).sl).s),D.v (.string (cn (endL A Q i).sl).a),D.v (.string (cn (endL A Q i).sl).d),D.v (.bool (cn (endL A Q i).sh).s),D.v (.string (cn (endL A Q i).sh).a),D.v (.string (cn (endL A Q i).sh).d)]]))),.one (.d (.v (.int .i64 (0))))]) ?_ rfl
   obtain rfl:i=A.links.length:=by omega
   rw [ZbW h0,h0,spreadL,List.map_append]
   all_goals rfl
theorem ZpW {A:ArmV} {Q:List (RV×RV)} (hA:A.ok) (hQ:∀ p,p∈Q→p.1.z≤3145760∧p.2.z≤3145760) (k:∀ n,n=hasE A (Q.length:Int)→K (.tup [.one (.d (.list (List.map rdL (spreadV A Q)))),.one (.d (.v (.int .i64 n)))])):Ask 269 [.val (.agg [.d (.v (.string A.name)),.d (.v (.bool A.bx.s)),.d (.v (.string A.bx.a)),.d (.v (.string A.bx.d)),.d (.v (.bool A.by'.s)),.d (.v (.string A.by'.a)),.d (.v (.string A.by'.d)),.d (.v (.bool (A.bh))),.d (.v (.bool A.bt.s)),.d (.v (.string A.bt.a)),.d (.v (.string A.bt.d)),.d (.list (List.map lk A.links))]),.val (.one (.d (.list (List.map rdv Q))))] K:=use (ZiJ A Q hA hQ) rfl (k _ rfl)
end
end Go.Proofs.YtpfemjpgbpnpkaaGreatDoor.eng
namespace Go.Proofs.YtpfemjpgbpnpkaaGreatDoor.eng
open Go.RowKit num mem seg q held ratA ratB ratC ratD ratE vars ratF trq
section
variable {K : AV → Prop}
theorem ZoD (q:Rat):Spec Tryz.prog Tab 281 [q3 q] (q3p q q):=by
 refine Za Tryz.func281 rfl rfl Tryz.ntmps281 rfl (by kernel_rfl) rfl rfl ?_
 refine Eq.trans (b:=q3p q q) ?_ rfl
 rfl
theorem ZaJ {q:Rat} (k:K (q3p q q)):Ask 281 [q3 q] K:=use (ZoD q) rfl k
theorem Zln  (p q r u:Rat) (hp:qs p≤536870912) (hq:qs q≤536870912) (hr:qs r≤536870912) (hu:qs u≤536870912):Spec Tryz.prog Tab 282 [q3p p q,q3p r u] (q3p (p+r) (q+u)):=by
 refine Za Tryz.func282 rfl rfl Tryz.ntmps282 rfl (by kernel_rfl) rfl rfl ?_
 refine Zhi (p:=p) (q:=r) (by omega) (by omega) fun q9 h9 z9=> ?_
 refine Zhi (p:=q) (q:=u) (by omega) (by omega) fun q14 h14 z14=> ?_
 refine⟨by kernel_rfl,?_⟩
 refine Eq.trans (b:=q3p q9 q14) ?_ rfl
 subst_vars;rfl
section
variable  {p q r u : Rat}
theorem Zbw (hp:qs p≤536870912) (hq:qs q≤536870912) (hr:qs r≤536870912) (hu:qs u≤536870912) (k:∀ ya yb,ya=p+r→yb=q+u→qs ya≤qs p+qs r+1→qs yb≤qs q+qs u+1→K (q3p ya yb)):Ask 282 [q3p p q,q3p r u] K:=
 use (Zln  p q r u hp hq hr hu) rfl (k _ _ rfl rfl (by have:=ZI p r;omega) (by have:=ZI q u;omega))
end
theorem Zlj  (p q r u:Rat) (hp:qs p≤536870912) (hq:qs q≤536870912) (hr:qs r≤536870912) (hu:qs u≤536870912):Spec Tryz.prog Tab 284 [q3p p q,q3p r u] (q3p (p - u) (q - r)):=by
 refine Za Tryz.func284 rfl rfl Tryz.ntmps284 rfl (by kernel_rfl) rfl rfl ?_
 refine Zdv (p:=p) (q:=u) (by omega) (by omega) fun q9 h9 z9=> ?_
 refine Zdv (p:=q) (q:=r) (by omega) (by omega) fun q14 h14 z14=> ?_
 refine⟨by kernel_rfl,?_⟩
 refine Eq.trans (b:=q3p q9 q14) ?_ rfl
 subst_vars;rfl
section
variable  {p q r u : Rat}
theorem Zim (hp:qs p≤536870912) (hq:qs q≤536870912) (hr:qs r≤536870912) (hu:qs u≤536870912) (k:∀ ya yb,ya=p - u→yb=q - r→qs ya≤qs p+qs u+1→qs yb≤qs q+qs r+1→K (q3p ya yb)):Ask 284 [q3p p q,q3p r u] K:=
 use (Zlj  p q r u hp hq hr hu) rfl (k _ _ rfl rfl (by have:=Zaf p u;omega) (by have:=Zaf q r;omega))
end
theorem Zlk  (p q r u:Rat) (hp:qs p≤134217728) (hq:qs q≤134217728) (hr:qs r≤134217728) (hu:qs u≤134217728):Spec Tryz.prog Tab 283 [q3p p q,q3p r u] (q3p (mulLo p q r u) (mulHi p q r u)):=by
 refine Za Tryz.func283 rfl rfl Tryz.ntmps283 rfl (by kernel_rfl) rfl rfl ?_
 refine ZbB (p:=p) (q:=r) (by omega) (by omega) fun q13 h13 z13=> ?_
 refine ZbB (p:=p) (q:=u) (by omega) (by omega) fun q18 h18 z18=> ?_
 refine ZbB (p:=q) (q:=r) (by omega) (by omega) fun q23 h23 z23=> ?_
 refine ZbB (p:=q) (q:=u) (by omega) (by omega) fun q28 h28 z28=> ?_
 refine⟨by kernel_rfl,?_⟩
 refine Z0 (p:=q13) (q:=q18) (by omega) (by omega) fun q31 h31 z31=> ?_
 refine Z0 (p:=q23) (q:=q28) (by omega) (by omega) fun q34 h34 z34=> ?_
 refine Z0 (p:=q31) (q:=q34) (by omega) (by omega) fun q35 h35 z35=> ?_
 refine Zax (p:=q13) (q:=q18) (by omega) (by omega) fun q38 h38 z38=> ?_
 refine Zax (p:=q23) (q:=q28) (by omega) (by omega) fun q41 h41 z41=> ?_
 refine Zax (p:=q38) (q:=q41) (by omega) (by omega) fun q42 h42 z42=> ?_
 refine⟨by kernel_rfl,?_⟩
 refine Eq.trans (b:=q3p q35 q42) ?_ rfl
 rw [← ZrB,← ZrC]
 subst_vars;rfl
section
variable  {p q r u : Rat}
theorem Zan (hp:qs p≤134217728) (hq:qs q≤134217728) (hr:qs r≤134217728) (hu:qs u≤134217728) (k:∀ ya yb,ya=mulLo p q r u→yb=mulHi p q r u→qs ya≤qs p+qs q+qs r+qs u+0→qs yb≤qs p+qs q+qs r+qs u+0→K (q3p ya yb)):Ask 283 [q3p p q,q3p r u] K:=
 use (Zlk  p q r u hp hq hr hu) rfl (k _ _ rfl rfl (by have hm1:=(Ze6 p q r u).1;omega) (by have hm2:=(Ze6 p q r u).2;omega))
end
theorem k_addN3' (a b:Nat) {vb:List (List D)} (hv:vb=W (w32 b)) (ha:wlen 4 a≤549755813888) (hb:wlen 4 b≤549755813888) (k:K (n3 (a+b))):Ask 116 [n3 a,.val (.one (.d (.list vb)))] K:=by
 subst hv;exact Zil ha hb k
theorem Zk9 (q:Rat) (hq:qs q≤4294967296):Spec Tryz.prog Tab 336 [q3 q] (q3 ((q.floor:Int):Rat)):=by
 have h1:=Zdn q
 have h2:=Zdo q
 have hone:wlen 4 1≤1:=by rw [← Zh,ZaF];decide
 have hdiv:wlen 4 (q.num.natAbs / q.den)≤qs q:=ZW (Nat.div_le_self _ _) h1
 have hup:wlen 4 (q.num.natAbs / q.den+1)≤8589934592:=by
  have h3:=Zfy true q.num.natAbs q.den
  have h4:=Zj9 (q.num.natAbs / q.den+1)
  have h5:(enc (q.num.natAbs / q.den+1)).size≤qs q+2:=by
   by_cases hr:q.num.natAbs % q.den=0
   ·have h6:q.num.natAbs / q.den+1≤q.num.natAbs+1:=by have:=Nat.div_le_self q.num.natAbs q.den;omega
    have h7:=(ZkD q).1
    exact Zi.2 (by rw [show (256:Nat) ^ (qs q+2)=256 ^ qs q*65536 from by rw [Nat.pow_add]];omega)
   ·rw [upN,if_pos ⟨rfl,hr⟩] at h3
    have:(enc q.num.natAbs).size≤qs q:=by unfold qs;omega
    omega
  omega
 have hn3:=Zah (q.num.natAbs % q.den)
 refine Za Tryz.func336 rfl rfl Tryz.ntmps336 rfl (by kernel_rfl) rfl rfl ?_
 refine Zde (a:=q.num.natAbs) (b:=q.den) q.den_pos (by omega) (by omega) ?_
 refine fork (fun e1=> ?_) (fun e1=> ?_)
 ·refine⟨fun e2=> ?_,fun e2=> ?_⟩
  ·have hr:¬ q.num.natAbs % q.den=0:=by
    intro h
    have h3:=of_decide_eq_true e2
    rw [hn3,(ZE _).2 h] at h3
    exact absurd h3 (by decide)
   refine k_addN3' (q.num.natAbs / q.den) 1 (by rw [ZaF];rfl) (by omega) (by omega) ?_
   refine Zba (q.num.natAbs / q.den+1) 1 (by rw [ZaF];rfl) Nat.one_pos hup (by omega) ?_
   refine Eq.trans (b:=q3 (mkRat (sg (decide (q.num< 0)) (q.num.natAbs / q.den+1)) 1)) ?_ rfl
   rw [← ZcV,upN,if_pos ⟨e1,hr⟩]
  ·have hr:q.num.natAbs % q.den=0:=by
    have h3:=of_decide_eq_false e2
    rw [hn3] at h3
    exact(ZE _).1 (by omega)
   refine Zba (q.num.natAbs / q.den) 1 (by rw [ZaF];rfl) Nat.one_pos (by omega) (by omega) ?_
   refine Eq.trans (b:=q3 (mkRat (sg (decide (q.num< 0)) (q.num.natAbs / q.den)) 1)) ?_ rfl
   rw [← ZcV,upN,if_neg (fun h=>h.2 hr)]
 ·refine⟨fun e=>absurd e (by decide),fun _=> ?_⟩
  refine Zba (q.num.natAbs / q.den) 1 (by rw [ZaF];rfl) Nat.one_pos (by omega) (by omega) ?_
  refine Eq.trans (b:=q3 (mkRat (sg (decide (q.num< 0)) (q.num.natAbs / q.den)) 1)) ?_ rfl
  rw [← ZcV,upN,if_neg (fun h=>by rw [e1] at h;exact absurd h.1 (by decide))]
theorem ZnC {q:Rat} (hq:qs q≤4294967296) (k:∀ ya,ya=((q.floor:Int):Rat)→qs ya≤qs q+2→K (q3 ya)):Ask 336 [q3 q] K:=use (Zk9 q hq) rfl (k _ rfl (ZfM q))
theorem Zlm (p q:Rat) (hp:qs p≤268435456) (hq:qs q≤268435456):Spec Tryz.prog Tab 319 [q3p p q] (q3p (cutLo p) (cutHi q)):=by
 refine Za Tryz.func319 rfl rfl Tryz.ntmps319 rfl (by kernel_rfl) rfl rfl ?_
 refine k_N3 (1000000) (by omega) (by omega) fun q6 h6 z6=> ?_
 refine ZbB (p:=p) (q:=q6) (by omega) (by omega) fun q10 h10 z10=> ?_
 refine ZnC (q:=q10) (by omega) (fun ya11 hk_11_1 hk_11_2=> ?_)
 refine Zhg (p:=ya11) (q:=q6) (by omega) (by omega) (by subst_vars;exact Zie) fun q13 h13 z13=> ?_
 refine⟨by kernel_rfl,?_⟩
 refine ZnI (q:=q)  fun q16 h16 z16=> ?_
 refine ZbB (p:=q16) (q:=q6) (by omega) (by omega) fun q18 h18 z18=> ?_
 refine ZnC (q:=q18) (by omega) (fun ya19 hk_19_1 hk_19_2=> ?_)
 refine Zhg (p:=ya19) (q:=q6) (by omega) (by omega) (by subst_vars;exact Zie) fun q21 h21 z21=> ?_
 refine ZnI (q:=q21)  fun q22 h22 z22=> ?_
 refine⟨by kernel_rfl,?_⟩
 refine k_N3 (-1) (by omega) (by omega) fun q24 h24 z24=> ?_
 refine Zax (p:=q13) (q:=q24) (by omega) (by omega) fun q25 h25 z25=> ?_
 refine k_N3 (1) (by omega) (by omega) fun q27 h27 z27=> ?_
 refine Z0 (p:=q22) (q:=q27) (by omega) (by omega) fun q28 h28 z28=> ?_
 refine⟨by kernel_rfl,?_⟩
 refine Eq.trans (b:=q3p q25 q28) ?_ rfl
 rw [show cutLo p=q25 from by rw [h25,h13,hk_11_1,h10,h24,h6,cutLo,Zdi];rfl,show cutHi q=q28 from by rw [h28,h22,h21,hk_19_1,h18,h16,h27,h6,cutHi,upQ,Zdi];rfl]
theorem ZnG {p q:Rat} (hp:qs p≤268435456) (hq:qs q≤268435456) (k:∀ ya yb,ya=cutLo p→yb=cutHi q→qs ya≤qs p+60→qs yb≤qs q+60→K (q3p ya yb)):Ask 319 [q3p p q] K:=use (Zlm p q hp hq) rfl (k _ _ rfl rfl (Zq3 p).1 (Zq3 q).2)
theorem Zlp (x y:RV) (hx:x.z≤268435456) (hy:y.z≤268435456):Spec Tryz.prog Tab 318 [pair x y] (q3p (slo x y) (shi x y)):=by
 refine Za Tryz.func318 rfl rfl Tryz.ntmps318 rfl (by kernel_rfl) rfl rfl ?_
 refine Zx (x:=x) (by omega) fun q7 h7 z7=> ?_
 refine Zx (x:=y) (by omega) fun q10 h10 z10=> ?_
 refine⟨by kernel_rfl,?_⟩
 refine ZcR (x:=x) (by omega) (fun f13=> ?_) (fun f13=> ?_)
 ·refine ZcR (x:=y) (by omega) (fun f18=> ?_) (fun f18=> ?_)
  ·refine Zen (p:=q7) (q:=q10) (by omega) (by omega) fun n24 h24=> ?_
   refine⟨fun e1=> ?_,fun e1=> ?_⟩
   ·have f26:q10< q7:=(ZtG h24).1 (of_decide_eq_true e1)
    refine k_N3 (0) (by omega) (by omega) fun q27 h27 z27=> ?_
    refine ZaJ (q:=q27)  ?_
    refine Eq.trans (b:=q3p q27 q27) ?_ rfl
    have hng:¬ sgd x y:=fun hh=>absurd hh.2.2 (Rat.not_le.2 (by rw [← h7,← h10];exact f26))
    rw [Zo3 hng,Zo6 hng,← h27]
   ·have f26:¬ (q10< q7):=fun hh=>of_decide_eq_false e1 ((ZtG h24).2 hh)
    refine Eq.trans (b:=q3p q7 q10) ?_ rfl
    have hg:sgd x y:=⟨f13,f18,by rw [← h7,← h10];exact Rat.not_lt.1 f26⟩
    rw [show slo x y=q7 from by rw [slo,if_pos hg,h7],show shi x y=q10 from by rw [shi,if_pos hg,h10]]
  ·refine⟨fun _=> ?_,fun e=>absurd e (by decide)⟩
   refine k_N3 (0) (by omega) (by omega) fun q27 h27 z27=> ?_
   refine ZaJ (q:=q27)  ?_
   refine Eq.trans (b:=q3p q27 q27) ?_ rfl
   have hng:¬ sgd x y:=fun hh=>f18 hh.2.1
   rw [Zo3 hng,Zo6 hng,← h27]
 ·refine⟨fun _=> ?_,fun e=>absurd e (by decide)⟩
  refine k_N3 (0) (by omega) (by omega) fun q27 h27 z27=> ?_
  refine ZaJ (q:=q27)  ?_
  refine Eq.trans (b:=q3p q27 q27) ?_ rfl
  have hng:¬ sgd x y:=fun hh=>f13 hh.1
  rw [Zo3 hng,Zo6 hng,← h27]
theorem Zr6 {x y:RV} (hx:x.z≤268435456) (hy:y.z≤268435456) (k:∀ ya yb,ya=slo x y→yb=shi x y→sle ya yb→qs ya≤x.z+8→qs yb≤y.z+8→K (q3p ya yb)):Ask 318 [pair x y] K:=use (Zlp x y hx hy) rfl (k _ _ rfl rfl (ZeW x y) (by have:=Zbl x y;rw [cn_z] at this;exact this) (by have:=Zbm x y;rw [cn_z] at this;exact this))
theorem Zll (p q a:Rat) (hp:qs p≤536870912) (hq:qs q≤536870912) (ha:qs a≤536870912):Spec Tryz.prog Tab 107 [q3p p q,q3 a] (bool (hasQ p q a)):=by
 refine Za Tryz.func107 rfl rfl Tryz.ntmps107 rfl (by kernel_rfl) rfl rfl ?_
 refine Zen (p:=p) (q:=a) (by omega) (by omega) fun n8 h8=> ?_
 refine fork (fun e1=> ?_) (fun e1=> ?_)
 ·have f10:p≤a:=(Zsn h8).1 (of_decide_eq_true e1)
  refine Zen (p:=a) (q:=q) (by omega) (by omega) fun n14 h14=> ?_
  refine Eq.trans (b:=bool (decide (n14≤0))) ?_ rfl
  rw [show hasQ p q a=decide (n14≤0) from by unfold hasQ;rw [decide_eq_true f10,Bool.true_and];exact decide_eq_decide.2 (Zsn h14).symm]
 ·have f10:¬ (p≤a):=fun hh=>of_decide_eq_false e1 ((Zsn h8).2 hh)
  refine Eq.trans (b:=bool false) ?_ rfl
  rw [show hasQ p q a=false from by unfold hasQ;rw [decide_eq_false f10];rfl]
theorem Zem {p q a:Rat} (hp:qs p≤536870912) (hq:qs q≤536870912) (ha:qs a≤536870912) (k:∀ b,b=hasQ p q a→K (bool b)):Ask 107 [q3p p q,q3 a] K:=use (Zll p q a hp hq ha) rfl (k _ rfl)
def cos4 (p q:Rat):List Rat→AV
 | []=> .val (.one (.full [q3d p,q3d q]))
 |_ :: _=> .val (.one (.row 35 0))
def cosO (p q:Rat):List Rat→List (Nat×Ob)
 | []=> []
 |c :: r=> [(35,.row 51 3 0 (List.map q3d (p :: q :: c :: r)) true)]
set_option maxHeartbeats 4000000 in
theorem ZoG (p q:Rat) (hp:qs p≤33554432) (hq:qs q≤33554432):Spec Tryz.prog Tab 317 [q3p p q] (.tup [.agg [.d (.v (.bool (decide (((cs3 p q).1).num< 0)))),.d (.list (W (w32 ((cs3 p q).1).num.natAbs))),.d (.list (W (w32 ((cs3 p q).1).den))),.d (.v (.bool (decide (((cs3 p q).2).num< 0)))),.d (.list (W (w32 ((cs3 p q).2).num.natAbs))),.d (.list (W (w32 ((cs3 p q).2).den)))],.agg [.d (.v (.bool (decide (((sn3 p q).1).num< 0)))),.d (.list (W (w32 ((sn3 p q).1).num.natAbs))),.d (.list (W (w32 ((sn3 p q).1).den))),.d (.v (.bool (decide (((sn3 p q).2).num< 0)))),.d (.list (W (w32 ((sn3 p q).2).num.natAbs))),.d (.list (W (w32 ((sn3 p q).2).den)))]]):=by
 refine Za Tryz.func317 rfl rfl Tryz.ntmps317 rfl (by kernel_rfl) rfl rfl ?_
 refine k_N3 (-1) (by omega) (by omega) fun q20 h20 z20=> ?_
 refine k_N3 (0) (by omega) (by omega) fun q21 h21 z21=> ?_
 refine k_N3 (1) (by omega) (by omega) fun q22 h22 z22=> ?_
 refine⟨Nat×List Rat,fun (i,e)=> [(1,.val (.one (.ptr 1 0))),(2,.val (.one (.ptr 2 0))),(3,.val (.one (.ptr 3 0))),(4,cos4 p q e),(23,.val (.one (.full ([[D.v (.bool (decide (q20.num< 0))),D.list (W (w32 q20.num.natAbs)),D.list (W (w32 q20.den))], [D.v (.bool (decide (q21.num< 0))),D.list (W (w32 q21.num.natAbs)),D.list (W (w32 q21.den))], [D.v (.bool (decide (q22.num< 0))),D.list (W (w32 q22.num.natAbs)),D.list (W (w32 q22.den))]])))),(24,int 3),(25,int (i:Int))],
  fun (i,e)=> [(1,.var 161 [.d (.v (.bool (decide (p.num< 0)))),.d (.list (W (w32 p.num.natAbs))),.d (.list (W (w32 p.den))),.d (.v (.bool (decide (q.num< 0)))),.d (.list (W (w32 q.num.natAbs))),.d (.list (W (w32 q.den)))]),(2,.var 161 [.d (.v (.bool false)),.d (.v (.slice none 0 0)),.d (.v (.slice none 0 0)),.d (.v (.bool false)),.d (.v (.slice none 0 0)),.d (.v (.slice none 0 0))]),(3,.var 161 [.d (.v (.bool false)),.d (.v (.slice none 0 0)),.d (.v (.slice none 0 0)),.d (.v (.bool false)),.d (.v (.slice none 0 0)),.d (.v (.slice none 0 0))])]++cosO p q e,fun (i,e)=>i≤3∧e.length≤i∧(∀ t,t∈e→qs t≤8)∧(([-1,0,1]:List Int).drop i).foldl (ext p q) (p :: q :: e)=ext3 p q,fun (i,e)=>3 - i,(0, []),?_,⟨Nat.zero_le _,Nat.zero_le _,fun t ht=>by simp at ht,rfl⟩,fun s hs=> ?_⟩
 ·constructor<;>(repeat' (first|exact rfl|exact True.intro|exact⟨_,_,rfl⟩|exact(by decide)|apply And.intro))
  all_goals first|exact congrArg (fun n:Int=>D.v (.int .i64 n)) (by omega)|exact congrArg (fun n:Int=>D.v (.int .i64 n)) (by rw [wrap64 _ (by omega) (by omega)];omega)|(simp;done)
 obtain⟨i,e⟩:=s
 obtain⟨g1,g2,g3,g5⟩:=hs
 try simp only at g1 g2 g3 g5
 refine⟨fun e1=> ?_,fun e1=> ?_⟩
 ·have f26:(i:Int)< 3:=of_decide_eq_true e1
  obtain rfl|rfl|rfl:i=0∨i=1∨i=2:=by omega
  ·obtain rfl:e= []:=List.eq_nil_of_length_eq_zero (by omega)
   refine k_ix 0 [D.v (.bool (decide (q20.num< 0))),D.list (W (w32 q20.num.natAbs)),D.list (W (w32 q20.den))] (by first|rfl|omega|(rw [wrap64 _ (by omega) (by omega)];omega)) rfl rfl ?_
   refine Zem (p:=p) (q:=q) (a:=q20) (by omega) (by omega) (by omega) (fun b31 hk_31_1=> ?_)
   refine⟨fun e2=> ?_,fun e2=> ?_⟩
   ·have f31:hasQ p q q20=true:=hk_31_1.symm.trans e2
    refine⟨⟨Nat.zero_lt_succ _,rown rfl,row1 rfl,(by show (2+1)*56≤_;omega),(by show 2+1≤_;omega)⟩,?_⟩
    have hst:ext p q (p :: q :: []) (-1)=p :: q :: [q20]:=by unfold ext;rw [if_pos (by rw [← h20];exact f31)];rw [← h20];rfl
    have hsz:∀ t,t∈ [q20]→qs t≤8:=fun t ht=>by
     simp only [List.mem_cons,List.not_mem_nil,or_false] at ht
     subst ht;omega
    refine⟨(1, [q20]),⟨by first|omega|(simp only;omega),(by show 1≤_;omega),hsz,by rw [← hst];exact g5⟩,by first|omega|(simp only;omega),?_⟩
    constructor<;>(repeat' (first|exact rfl|exact True.intro|apply And.intro))
    all_goals first
     |(simp [q3d];done)
     |exact congrArg (fun n:Int=>D.v (.int .i64 n)) (by rw [wrap64 _ (by omega) (by omega)];omega)
     |exact congrArg (fun n:Int=>D.v (.int .i64 n)) (by omega)
   ·have f31:¬ (hasQ p q q20=true):=fun hh=>absurd (hh.symm.trans (hk_31_1.symm.trans e2)) (by decide)
    have hst:ext p q (p :: q :: []) (-1)=p :: q :: []:=by unfold ext;rw [if_neg (by rw [← h20];exact f31)]
    have hsz:∀ t,t∈ []→qs t≤8:=g3
    refine⟨(1, []),⟨by first|omega|(simp only;omega),Nat.zero_le _,hsz,by rw [← hst];exact g5⟩,by first|omega|(simp only;omega),?_⟩
    constructor<;>(repeat' (first|exact rfl|exact True.intro|apply And.intro))
    all_goals first
     |(simp [q3d];done)
     |exact congrArg (fun n:Int=>D.v (.int .i64 n)) (by rw [wrap64 _ (by omega) (by omega)];omega)
     |exact congrArg (fun n:Int=>D.v (.int .i64 n)) (by omega)
  ·rcases e with _|⟨c,r⟩
   ·skip
    refine k_ix 1 [D.v (.bool (decide (q21.num< 0))),D.list (W (w32 q21.num.natAbs)),D.list (W (w32 q21.den))] (by first|rfl|omega|(rw [wrap64 _ (by omega) (by omega)];omega)) rfl rfl ?_
    refine Zem (p:=p) (q:=q) (a:=q21) (by omega) (by omega) (by omega) (fun b31 hk_31_1=> ?_)
    refine⟨fun e3=> ?_,fun e3=> ?_⟩
    ·have f31:hasQ p q q21=true:=hk_31_1.symm.trans e3
     refine⟨⟨Nat.zero_lt_succ _,rown rfl,row1 rfl,(by show (2+1)*56≤_;omega),(by show 2+1≤_;omega)⟩,?_⟩
     have hst:ext p q (p :: q :: []) (0)=p :: q :: [q21]:=by unfold ext;rw [if_pos (by rw [← h21];exact f31)];rw [← h21];rfl
     have hsz:∀ t,t∈ [q21]→qs t≤8:=fun t ht=>by
      simp only [List.mem_cons,List.not_mem_nil,or_false] at ht
      subst ht;omega
     refine⟨(2, [q21]),⟨by first|omega|(simp only;omega),(by show 1≤_;omega),hsz,by rw [← hst];exact g5⟩,by first|omega|(simp only;omega),?_⟩
     constructor<;>(repeat' (first|exact rfl|exact True.intro|apply And.intro))
     all_goals first
      |(simp [q3d];done)
      |exact congrArg (fun n:Int=>D.v (.int .i64 n)) (by rw [wrap64 _ (by omega) (by omega)];omega)
      |exact congrArg (fun n:Int=>D.v (.int .i64 n)) (by omega)
    ·have f31:¬ (hasQ p q q21=true):=fun hh=>absurd (hh.symm.trans (hk_31_1.symm.trans e3)) (by decide)
     have hst:ext p q (p :: q :: []) (0)=p :: q :: []:=by unfold ext;rw [if_neg (by rw [← h21];exact f31)]
     have hsz:∀ t,t∈ []→qs t≤8:=g3
     refine⟨(2, []),⟨by first|omega|(simp only;omega),Nat.zero_le _,hsz,by rw [← hst];exact g5⟩,by first|omega|(simp only;omega),?_⟩
     constructor<;>(repeat' (first|exact rfl|exact True.intro|apply And.intro))
     all_goals first
      |(simp [q3d];done)
      |exact congrArg (fun n:Int=>D.v (.int .i64 n)) (by rw [wrap64 _ (by omega) (by omega)];omega)
      |exact congrArg (fun n:Int=>D.v (.int .i64 n)) (by omega)
   ·have hT:(List.map q3d (p :: q :: c :: r)).length≤5:=by simp only [List.length_map,List.length_cons] at g2 ⊢;omega
    refine k_ix 1 [D.v (.bool (decide (q21.num< 0))),D.list (W (w32 q21.num.natAbs)),D.list (W (w32 q21.den))] (by first|rfl|omega|(rw [wrap64 _ (by omega) (by omega)];omega)) rfl rfl ?_
    refine Zem (p:=p) (q:=q) (a:=q21) (by omega) (by omega) (by omega) (fun b31 hk_31_1=> ?_)
    refine⟨fun e4=> ?_,fun e4=> ?_⟩
    ·have f31:hasQ p q q21=true:=hk_31_1.symm.trans e4
     refine⟨⟨row1 rfl,(by show ((List.map q3d (p :: q :: c :: r)).length+1)*56≤_;omega),(by show ((List.map q3d (p :: q :: c :: r)).length+1)≤_;omega)⟩,?_⟩
     have hst:ext p q (p :: q :: (c :: r)) (0)=p :: q :: (c :: (r++ [q21])):=by unfold ext;rw [if_pos (by rw [← h21];exact f31)];rw [← h21];rfl
     have hsz:∀ t,t∈(c :: (r++ [q21]))→qs t≤8:=fun t ht=>by
      simp only [List.mem_cons,List.mem_append,List.not_mem_nil,or_false] at ht
      rcases ht with rfl|ht|rfl
      ·exact g3 _ (by simp)
      ·exact g3 _ (by simp [ht])
      ·omega
     refine⟨(2,(c :: (r++ [q21]))),⟨by first|omega|(simp only;omega),(by simp only [List.length_cons,List.length_append,List.length_nil] at g2 ⊢;omega),hsz,by rw [← hst];exact g5⟩,by first|omega|(simp only;omega),?_⟩
     constructor<;>(repeat' (first|exact rfl|exact True.intro|apply And.intro))
     all_goals first
      |(simp [q3d];done)
      |exact congrArg (fun n:Int=>D.v (.int .i64 n)) (by rw [wrap64 _ (by omega) (by omega)];omega)
      |exact congrArg (fun n:Int=>D.v (.int .i64 n)) (by omega)
    ·have f31:¬ (hasQ p q q21=true):=fun hh=>absurd (hh.symm.trans (hk_31_1.symm.trans e4)) (by decide)
     have hst:ext p q (p :: q :: (c :: r)) (0)=p :: q :: (c :: r):=by unfold ext;rw [if_neg (by rw [← h21];exact f31)]
     have hsz:∀ t,t∈(c :: r)→qs t≤8:=g3
     refine⟨(2,(c :: r)),⟨by first|omega|(simp only;omega),(by simp only [List.length_cons] at g2 ⊢;omega),hsz,by rw [← hst];exact g5⟩,by first|omega|(simp only;omega),?_⟩
     constructor<;>(repeat' (first|exact rfl|exact True.intro|apply And.intro))
     all_goals first
      |(simp [q3d];done)
      |exact congrArg (fun n:Int=>D.v (.int .i64 n)) (by rw [wrap64 _ (by omega) (by omega)];omega)
      |exact congrArg (fun n:Int=>D.v (.int .i64 n)) (by omega)
  ·rcases e with _|⟨c,r⟩
   ·skip
    refine k_ix 2 [D.v (.bool (decide (q22.num< 0))),D.list (W (w32 q22.num.natAbs)),D.list (W (w32 q22.den))] (by first|rfl|omega|(rw [wrap64 _ (by omega) (by omega)];omega)) rfl rfl ?_
    refine Zem (p:=p) (q:=q) (a:=q22) (by omega) (by omega) (by omega) (fun b31 hk_31_1=> ?_)
    refine⟨fun e5=> ?_,fun e5=> ?_⟩
    ·have f31:hasQ p q q22=true:=hk_31_1.symm.trans e5
     refine⟨⟨Nat.zero_lt_succ _,rown rfl,row1 rfl,(by show (2+1)*56≤_;omega),(by show 2+1≤_;omega)⟩,?_⟩
     have hst:ext p q (p :: q :: []) (1)=p :: q :: [q22]:=by unfold ext;rw [if_pos (by rw [← h22];exact f31)];rw [← h22];rfl
     have hsz:∀ t,t∈ [q22]→qs t≤8:=fun t ht=>by
      simp only [List.mem_cons,List.not_mem_nil,or_false] at ht
      subst ht;omega
     refine⟨(3, [q22]),⟨by first|omega|(simp only;omega),(by show 1≤_;omega),hsz,by rw [← hst];exact g5⟩,by first|omega|(simp only;omega),?_⟩
     constructor<;>(repeat' (first|exact rfl|exact True.intro|apply And.intro))
     all_goals first
      |(simp [q3d];done)
      |exact congrArg (fun n:Int=>D.v (.int .i64 n)) (by rw [wrap64 _ (by omega) (by omega)];omega)
      |exact congrArg (fun n:Int=>D.v (.int .i64 n)) (by omega)
    ·have f31:¬ (hasQ p q q22=true):=fun hh=>absurd (hh.symm.trans (hk_31_1.symm.trans e5)) (by decide)
     have hst:ext p q (p :: q :: []) (1)=p :: q :: []:=by unfold ext;rw [if_neg (by rw [← h22];exact f31)]
     have hsz:∀ t,t∈ []→qs t≤8:=g3
     refine⟨(3, []),⟨by first|omega|(simp only;omega),Nat.zero_le _,hsz,by rw [← hst];exact g5⟩,by first|omega|(simp only;omega),?_⟩
     constructor<;>(repeat' (first|exact rfl|exact True.intro|apply And.intro))
     all_goals first
      |(simp [q3d];done)
      |exact congrArg (fun n:Int=>D.v (.int .i64 n)) (by rw [wrap64 _ (by omega) (by omega)];omega)
      |exact congrArg (fun n:Int=>D.v (.int .i64 n)) (by omega)
   ·have hT:(List.map q3d (p :: q :: c :: r)).length≤5:=by simp only [List.length_map,List.length_cons] at g2 ⊢;omega
    refine k_ix 2 [D.v (.bool (decide (q22.num< 0))),D.list (W (w32 q22.num.natAbs)),D.list (W (w32 q22.den))] (by first|rfl|omega|(rw [wrap64 _ (by omega) (by omega)];omega)) rfl rfl ?_
    refine Zem (p:=p) (q:=q) (a:=q22) (by omega) (by omega) (by omega) (fun b31 hk_31_1=> ?_)
    refine⟨fun e6=> ?_,fun e6=> ?_⟩
    ·have f31:hasQ p q q22=true:=hk_31_1.symm.trans e6
     refine⟨⟨row1 rfl,(by show ((List.map q3d (p :: q :: c :: r)).length+1)*56≤_;omega),(by show ((List.map q3d (p :: q :: c :: r)).length+1)≤_;omega)⟩,?_⟩
     have hst:ext p q (p :: q :: (c :: r)) (1)=p :: q :: (c :: (r++ [q22])):=by unfold ext;rw [if_pos (by rw [← h22];exact f31)];rw [← h22];rfl
     have hsz:∀ t,t∈(c :: (r++ [q22]))→qs t≤8:=fun t ht=>by
      simp only [List.mem_cons,List.mem_append,List.not_mem_nil,or_false] at ht
      rcases ht with rfl|ht|rfl
      ·exact g3 _ (by simp)
      ·exact g3 _ (by simp [ht])
      ·omega
     refine⟨(3,(c :: (r++ [q22]))),⟨by first|omega|(simp only;omega),(by simp only [List.length_cons,List.length_append,List.length_nil] at g2 ⊢;omega),hsz,by rw [← hst];exact g5⟩,by first|omega|(simp only;omega),?_⟩
     constructor<;>(repeat' (first|exact rfl|exact True.intro|apply And.intro))
     all_goals first
      |(simp [q3d];done)
      |exact congrArg (fun n:Int=>D.v (.int .i64 n)) (by rw [wrap64 _ (by omega) (by omega)];omega)
      |exact congrArg (fun n:Int=>D.v (.int .i64 n)) (by omega)
    ·have f31:¬ (hasQ p q q22=true):=fun hh=>absurd (hh.symm.trans (hk_31_1.symm.trans e6)) (by decide)
     have hst:ext p q (p :: q :: (c :: r)) (1)=p :: q :: (c :: r):=by unfold ext;rw [if_neg (by rw [← h22];exact f31)]
     have hsz:∀ t,t∈(c :: r)→qs t≤8:=g3
     refine⟨(3,(c :: r)),⟨by first|omega|(simp only;omega),(by simp only [List.length_cons] at g2 ⊢;omega),hsz,by rw [← hst];exact g5⟩,by first|omega|(simp only;omega),?_⟩
     constructor<;>(repeat' (first|exact rfl|exact True.intro|apply And.intro))
     all_goals first
      |(simp [q3d];done)
      |exact congrArg (fun n:Int=>D.v (.int .i64 n)) (by rw [wrap64 _ (by omega) (by omega)];omega)
      |exact congrArg (fun n:Int=>D.v (.int .i64 n)) (by omega)
 ·have f26:¬ ((i:Int)< 3):=of_decide_eq_false e1
  obtain rfl:i=3:=by omega
  rcases e with _|⟨c,r⟩
  ·have hx: [p,q]=ext3 p q:=g5
   have hLL:(List.map q3d [p,q]).length= [p,q].length:=List.length_map ..
   have hL5: [p,q].length≤5:=by rw [hx];exact ZjO p q
   obtain⟨fz1,fz2⟩:=ZnV (p:=p) (q:=q) (B:=qs p+qs q+1) (by omega) (by omega) (by omega)
   rw [← hx] at fz1 fz2
   have hLz:∀ t,t∈ [p,q]→qs t≤qs p+qs q+1:=by rw [hx];exact Zhk (by omega) (by omega) (by omega)
   refine ZcP (t:=p) (by omega) (fun p40 q40 hk_40_2 hk_40_3 hk_40_4 hk_40_5=> ?_)
   refine ZaJ (q:=p40)  ?_
   refine ZaJ (q:=q40)  ?_
   refine⟨by kernel_rfl,?_⟩
   refine⟨Nat,fun j=> [(2,.val (.one (.ptr 2 0))),(3,.val (.one (.ptr 3 0))),(9,.val (.one (.ptr 9 0))),(10,.val (.one (.ptr 10 0))),(47,.val (.one (.full (List.map q3d [p,q])))),(48,int ((List.map q3d [p,q]).length:Int)),(49,int (j:Int))],
    fun j=> [(2,.var 161 [.d (.v (.bool false)),.d (.v (.slice none 0 0)),.d (.v (.slice none 0 0)),.d (.v (.bool false)),.d (.v (.slice none 0 0)),.d (.v (.slice none 0 0))]),(3,.var 161 [.d (.v (.bool false)),.d (.v (.slice none 0 0)),.d (.v (.slice none 0 0)),.d (.v (.bool false)),.d (.v (.slice none 0 0)),.d (.v (.slice none 0 0))]),(9,.var 161 [.d (.v (.bool (decide ((foLo (cosq false) p [p,q] j).num< 0)))),.d (.list (W (w32 (foLo (cosq false) p [p,q] j).num.natAbs))),.d (.list (W (w32 (foLo (cosq false) p [p,q] j).den))),.d (.v (.bool (decide ((foHi (cosq false) p [p,q] j).num< 0)))),.d (.list (W (w32 (foHi (cosq false) p [p,q] j).num.natAbs))),.d (.list (W (w32 (foHi (cosq false) p [p,q] j).den)))]),(10,.var 161 [.d (.v (.bool (decide ((foLo sinq p [p,q] j).num< 0)))),.d (.list (W (w32 (foLo sinq p [p,q] j).num.natAbs))),.d (.list (W (w32 (foLo sinq p [p,q] j).den))),.d (.v (.bool (decide ((foHi sinq p [p,q] j).num< 0)))),.d (.list (W (w32 (foHi sinq p [p,q] j).num.natAbs))),.d (.list (W (w32 (foHi sinq p [p,q] j).den)))])],fun j=>j≤ [p,q].length,fun j=> [p,q].length - j,0,?_,Nat.zero_le _,fun j hs=> ?_⟩
   ·constructor<;>(repeat' (first|exact rfl|exact True.intro|exact⟨_,_,rfl⟩|exact(by decide)|apply And.intro))
    all_goals first
     |exact congrArg (fun q:Rat=>D.v (.bool (decide (q.num< 0)))) hk_40_2
     |exact congrArg (fun q:Rat=>D.v (.bool (decide (q.num< 0)))) hk_40_2.symm
     |exact congrArg (fun q:Rat=>D.list (W (w32 q.num.natAbs))) hk_40_2
     |exact congrArg (fun q:Rat=>D.list (W (w32 q.num.natAbs))) hk_40_2.symm
     |exact congrArg (fun q:Rat=>D.list (W (w32 q.den))) hk_40_2
     |exact congrArg (fun q:Rat=>D.list (W (w32 q.den))) hk_40_2.symm
     |exact congrArg (fun q:Rat=>D.v (.bool (decide (q.num< 0)))) hk_40_3
     |exact congrArg (fun q:Rat=>D.v (.bool (decide (q.num< 0)))) hk_40_3.symm
     |exact congrArg (fun q:Rat=>D.list (W (w32 q.num.natAbs))) hk_40_3
     |exact congrArg (fun q:Rat=>D.list (W (w32 q.num.natAbs))) hk_40_3.symm
     |exact congrArg (fun q:Rat=>D.list (W (w32 q.den))) hk_40_3
     |exact congrArg (fun q:Rat=>D.list (W (w32 q.den))) hk_40_3.symm
     |exact congrArg (fun n:Int=>D.v (.int .i64 n)) (by omega)
     |(simp;done)
   obtain⟨fa1,fa2⟩:=fo_z fz1 j
   obtain⟨fb1,fb2⟩:=fo_z fz2 j
   refine⟨fun e7=> ?_,fun e7=> ?_⟩
   ·have f50:(j:Int)< ((List.map q3d [p,q]).length:Int):=of_decide_eq_true e7
    refine Zq (l:= [p,q]) (i:=j) (by first|omega|exact Nat.mod_lt _ (by omega)) fun x51 hx51=> ?_
    have hj51:=hx51
    have hzx51:=hLz x51 (List.mem_of_getElem? hx51)
    refine k_ix j [D.v (.bool (decide (x51.num< 0))),D.list (W (w32 x51.num.natAbs)),D.list (W (w32 x51.den))] (by first|rfl|omega|(rw [wrap64 _ (by omega) (by omega)];omega)) (Zf hx51) rfl ?_
    refine ZcP (t:=x51) (by omega) (fun p55 q55 hk_55_2 hk_55_3 hk_55_4 hk_55_5=> ?_)
    refine Z0 (p:=(foLo (cosq false) p [p,q] j)) (q:=p55) (by omega) (by omega) fun q61 h61 z61=> ?_
    refine Zax (p:=(foHi (cosq false) p [p,q] j)) (q:=p55) (by omega) (by omega) fun q65 h65 z65=> ?_
    refine Z0 (p:=(foLo sinq p [p,q] j)) (q:=q55) (by omega) (by omega) fun q70 h70 z70=> ?_
    refine Zax (p:=(foHi sinq p [p,q] j)) (q:=q55) (by omega) (by omega) fun q74 h74 z74=> ?_
    refine⟨by kernel_rfl,?_⟩
    have c1:q61=foLo (cosq false) p [p,q] (j+1):=by rw [h61,(fo_s hj51).1,hk_55_2]
    have c2:q65=foHi (cosq false) p [p,q] (j+1):=by rw [h65,(fo_s hj51).2,hk_55_2]
    have c3:q70=foLo sinq p [p,q] (j+1):=by rw [h70,(fo_s hj51).1,hk_55_3]
    have c4:q74=foHi sinq p [p,q] (j+1):=by rw [h74,(fo_s hj51).2,hk_55_3]
    refine⟨j+1,by omega,by simp only;omega,?_⟩
    constructor<;>(repeat' (first|exact rfl|exact True.intro|apply And.intro))
    all_goals first
     |exact congrArg (fun q:Rat=>D.v (.bool (decide (q.num< 0)))) c1
     |exact congrArg (fun q:Rat=>D.v (.bool (decide (q.num< 0)))) c1.symm
     |exact congrArg (fun q:Rat=>D.list (W (w32 q.num.natAbs))) c1
     |exact congrArg (fun q:Rat=>D.list (W (w32 q.num.natAbs))) c1.symm
     |exact congrArg (fun q:Rat=>D.list (W (w32 q.den))) c1
     |exact congrArg (fun q:Rat=>D.list (W (w32 q.den))) c1.symm
     |exact congrArg (fun q:Rat=>D.v (.bool (decide (q.num< 0)))) c2
     |exact congrArg (fun q:Rat=>D.v (.bool (decide (q.num< 0)))) c2.symm
     |exact congrArg (fun q:Rat=>D.list (W (w32 q.num.natAbs))) c2
     |exact congrArg (fun q:Rat=>D.list (W (w32 q.num.natAbs))) c2.symm
     |exact congrArg (fun q:Rat=>D.list (W (w32 q.den))) c2
     |exact congrArg (fun q:Rat=>D.list (W (w32 q.den))) c2.symm
     |exact congrArg (fun q:Rat=>D.v (.bool (decide (q.num< 0)))) c3
     |exact congrArg (fun q:Rat=>D.v (.bool (decide (q.num< 0)))) c3.symm
     |exact congrArg (fun q:Rat=>D.list (W (w32 q.num.natAbs))) c3
     |exact congrArg (fun q:Rat=>D.list (W (w32 q.num.natAbs))) c3.symm
     |exact congrArg (fun q:Rat=>D.list (W (w32 q.den))) c3
     |exact congrArg (fun q:Rat=>D.list (W (w32 q.den))) c3.symm
     |exact congrArg (fun q:Rat=>D.v (.bool (decide (q.num< 0)))) c4
     |exact congrArg (fun q:Rat=>D.v (.bool (decide (q.num< 0)))) c4.symm
     |exact congrArg (fun q:Rat=>D.list (W (w32 q.num.natAbs))) c4
     |exact congrArg (fun q:Rat=>D.list (W (w32 q.num.natAbs))) c4.symm
     |exact congrArg (fun q:Rat=>D.list (W (w32 q.den))) c4
     |exact congrArg (fun q:Rat=>D.list (W (w32 q.den))) c4.symm
     |exact congrArg (fun n:Int=>D.v (.int .i64 n)) (by rw [wrap64 _ (by omega) (by omega)];omega)
     |exact congrArg (fun n:Int=>D.v (.int .i64 n)) (by omega)
   ·have f50:¬ ((j:Int)< ((List.map q3d [p,q]).length:Int)):=of_decide_eq_false e7
    refine⟨by kernel_rfl,?_⟩
    refine Eq.trans (b:= .tup [.agg [.d (.v (.bool (decide ((foLo (cosq false) p [p,q] j).num< 0)))),.d (.list (W (w32 (foLo (cosq false) p [p,q] j).num.natAbs))),.d (.list (W (w32 (foLo (cosq false) p [p,q] j).den))),.d (.v (.bool (decide ((foHi (cosq false) p [p,q] j).num< 0)))),.d (.list (W (w32 (foHi (cosq false) p [p,q] j).num.natAbs))),.d (.list (W (w32 (foHi (cosq false) p [p,q] j).den)))],.agg [.d (.v (.bool (decide ((foLo sinq p [p,q] j).num< 0)))),.d (.list (W (w32 (foLo sinq p [p,q] j).num.natAbs))),.d (.list (W (w32 (foLo sinq p [p,q] j).den))),.d (.v (.bool (decide ((foHi sinq p [p,q] j).num< 0)))),.d (.list (W (w32 (foHi sinq p [p,q] j).num.natAbs))),.d (.list (W (w32 (foHi sinq p [p,q] j).den)))]]) ?_ rfl
    obtain⟨k1,k2,k3,k4⟩:=Zq1 (p:=p) (q:=q) hx (j:=j) (by omega)
    rw [k1,k2,k3,k4]
    all_goals rfl
  ·have hx:(p :: q :: c :: r)=ext3 p q:=g5
   have hLL:(List.map q3d (p :: q :: c :: r)).length=(p :: q :: c :: r).length:=List.length_map ..
   have hL5:(p :: q :: c :: r).length≤5:=by rw [hx];exact ZjO p q
   obtain⟨fz1,fz2⟩:=ZnV (p:=p) (q:=q) (B:=qs p+qs q+1) (by omega) (by omega) (by omega)
   rw [← hx] at fz1 fz2
   have hLz:∀ t,t∈(p :: q :: c :: r)→qs t≤qs p+qs q+1:=by rw [hx];exact Zhk (by omega) (by omega) (by omega)
   refine ZcP (t:=p) (by omega) (fun p40 q40 hk_40_2 hk_40_3 hk_40_4 hk_40_5=> ?_)
   refine ZaJ (q:=p40)  ?_
   refine ZaJ (q:=q40)  ?_
   refine⟨by kernel_rfl,?_⟩
   refine⟨Nat,fun j=> [(2,.val (.one (.ptr 2 0))),(3,.val (.one (.ptr 3 0))),(9,.val (.one (.ptr 9 0))),(10,.val (.one (.ptr 10 0))),(47,.val (.one (.row 35 0))),(48,int ((List.map q3d (p :: q :: c :: r)).length:Int)),(49,int (j:Int))],
    fun j=> [(2,.var 161 [.d (.v (.bool false)),.d (.v (.slice none 0 0)),.d (.v (.slice none 0 0)),.d (.v (.bool false)),.d (.v (.slice none 0 0)),.d (.v (.slice none 0 0))]),(3,.var 161 [.d (.v (.bool false)),.d (.v (.slice none 0 0)),.d (.v (.slice none 0 0)),.d (.v (.bool false)),.d (.v (.slice none 0 0)),.d (.v (.slice none 0 0))]),(9,.var 161 [.d (.v (.bool (decide ((foLo (cosq false) p (p :: q :: c :: r) j).num< 0)))),.d (.list (W (w32 (foLo (cosq false) p (p :: q :: c :: r) j).num.natAbs))),.d (.list (W (w32 (foLo (cosq false) p (p :: q :: c :: r) j).den))),.d (.v (.bool (decide ((foHi (cosq false) p (p :: q :: c :: r) j).num< 0)))),.d (.list (W (w32 (foHi (cosq false) p (p :: q :: c :: r) j).num.natAbs))),.d (.list (W (w32 (foHi (cosq false) p (p :: q :: c :: r) j).den)))]),(10,.var 161 [.d (.v (.bool (decide ((foLo sinq p (p :: q :: c :: r) j).num< 0)))),.d (.list (W (w32 (foLo sinq p (p :: q :: c :: r) j).num.natAbs))),.d (.list (W (w32 (foLo sinq p (p :: q :: c :: r) j).den))),.d (.v (.bool (decide ((foHi sinq p (p :: q :: c :: r) j).num< 0)))),.d (.list (W (w32 (foHi sinq p (p :: q :: c :: r) j).num.natAbs))),.d (.list (W (w32 (foHi sinq p (p :: q :: c :: r) j).den)))]),(35,.row 51 3 0 (List.map q3d (p :: q :: c :: r)) true)],fun j=>j≤(p :: q :: c :: r).length,fun j=>(p :: q :: c :: r).length - j,0,?_,Nat.zero_le _,fun j hs=> ?_⟩
   ·constructor<;>(repeat' (first|exact rfl|exact True.intro|exact⟨_,_,rfl⟩|exact(by decide)|apply And.intro))
    all_goals first
     |exact congrArg (fun q:Rat=>D.v (.bool (decide (q.num< 0)))) hk_40_2
     |exact congrArg (fun q:Rat=>D.v (.bool (decide (q.num< 0)))) hk_40_2.symm
     |exact congrArg (fun q:Rat=>D.list (W (w32 q.num.natAbs))) hk_40_2
     |exact congrArg (fun q:Rat=>D.list (W (w32 q.num.natAbs))) hk_40_2.symm
     |exact congrArg (fun q:Rat=>D.list (W (w32 q.den))) hk_40_2
     |exact congrArg (fun q:Rat=>D.list (W (w32 q.den))) hk_40_2.symm
     |exact congrArg (fun q:Rat=>D.v (.bool (decide (q.num< 0)))) hk_40_3
     |exact congrArg (fun q:Rat=>D.v (.bool (decide (q.num< 0)))) hk_40_3.symm
     |exact congrArg (fun q:Rat=>D.list (W (w32 q.num.natAbs))) hk_40_3
     |exact congrArg (fun q:Rat=>D.list (W (w32 q.num.natAbs))) hk_40_3.symm
     |exact congrArg (fun q:Rat=>D.list (W (w32 q.den))) hk_40_3
     |exact congrArg (fun q:Rat=>D.list (W (w32 q.den))) hk_40_3.symm
     |exact congrArg (fun n:Int=>D.v (.int .i64 n)) (by omega)
     |(simp;done)
   obtain⟨fa1,fa2⟩:=fo_z fz1 j
   obtain⟨fb1,fb2⟩:=fo_z fz2 j
   refine⟨fun e8=> ?_,fun e8=> ?_⟩
   ·have f50:(j:Int)< ((List.map q3d (p :: q :: c :: r)).length:Int):=of_decide_eq_true e8
    refine k_at_own' j (by first|rfl|omega|(rw [wrap64 _ (by omega) (by omega)];omega)) (by first|omega|(simp;omega)) ?_
    refine Zq (l:=(p :: q :: c :: r)) (i:=j) (by first|omega|exact Nat.mod_lt _ (by omega)) fun x52 hx52=> ?_
    have hj51:=hx52
    have hzx52:=hLz x52 (List.mem_of_getElem? hx52)
    refine ZnA [D.v (.bool (decide (x52.num< 0))),D.list (W (w32 x52.num.natAbs)),D.list (W (w32 x52.den))] _ (Zf hx52) rfl rfl ?_
    refine ZcP (t:=x52) (by omega) (fun p55 q55 hk_55_2 hk_55_3 hk_55_4 hk_55_5=> ?_)
    refine Z0 (p:=(foLo (cosq false) p (p :: q :: c :: r) j)) (q:=p55) (by omega) (by omega) fun q61 h61 z61=> ?_
    refine Zax (p:=(foHi (cosq false) p (p :: q :: c :: r) j)) (q:=p55) (by omega) (by omega) fun q65 h65 z65=> ?_
    refine Z0 (p:=(foLo sinq p (p :: q :: c :: r) j)) (q:=q55) (by omega) (by omega) fun q70 h70 z70=> ?_
    refine Zax (p:=(foHi sinq p (p :: q :: c :: r) j)) (q:=q55) (by omega) (by omega) fun q74 h74 z74=> ?_
    refine⟨by kernel_rfl,?_⟩
    have c1:q61=foLo (cosq false) p (p :: q :: c :: r) (j+1):=by rw [h61,(fo_s hj51).1,hk_55_2]
    have c2:q65=foHi (cosq false) p (p :: q :: c :: r) (j+1):=by rw [h65,(fo_s hj51).2,hk_55_2]
    have c3:q70=foLo sinq p (p :: q :: c :: r) (j+1):=by rw [h70,(fo_s hj51).1,hk_55_3]
    have c4:q74=foHi sinq p (p :: q :: c :: r) (j+1):=by rw [h74,(fo_s hj51).2,hk_55_3]
    refine⟨j+1,by omega,by simp only;omega,?_⟩
    constructor<;>(repeat' (first|exact rfl|exact True.intro|apply And.intro))
    all_goals first
     |exact congrArg (fun q:Rat=>D.v (.bool (decide (q.num< 0)))) c1
     |exact congrArg (fun q:Rat=>D.v (.bool (decide (q.num< 0)))) c1.symm
     |exact congrArg (fun q:Rat=>D.list (W (w32 q.num.natAbs))) c1
     |exact congrArg (fun q:Rat=>D.list (W (w32 q.num.natAbs))) c1.symm
     |exact congrArg (fun q:Rat=>D.list (W (w32 q.den))) c1
     |exact congrArg (fun q:Rat=>D.list (W (w32 q.den))) c1.symm
     |exact congrArg (fun q:Rat=>D.v (.bool (decide (q.num< 0)))) c2
     |exact congrArg (fun q:Rat=>D.v (.bool (decide (q.num< 0)))) c2.symm
     |exact congrArg (fun q:Rat=>D.list (W (w32 q.num.natAbs))) c2
     |exact congrArg (fun q:Rat=>D.list (W (w32 q.num.natAbs))) c2.symm
     |exact congrArg (fun q:Rat=>D.list (W (w32 q.den))) c2
     |exact congrArg (fun q:Rat=>D.list (W (w32 q.den))) c2.symm
     |exact congrArg (fun q:Rat=>D.v (.bool (decide (q.num< 0)))) c3
     |exact congrArg (fun q:Rat=>D.v (.bool (decide (q.num< 0)))) c3.symm
     |exact congrArg (fun q:Rat=>D.list (W (w32 q.num.natAbs))) c3
     |exact congrArg (fun q:Rat=>D.list (W (w32 q.num.natAbs))) c3.symm
     |exact congrArg (fun q:Rat=>D.list (W (w32 q.den))) c3
     |exact congrArg (fun q:Rat=>D.list (W (w32 q.den))) c3.symm
     |exact congrArg (fun q:Rat=>D.v (.bool (decide (q.num< 0)))) c4
     |exact congrArg (fun q:Rat=>D.v (.bool (decide (q.num< 0)))) c4.symm
     |exact congrArg (fun q:Rat=>D.list (W (w32 q.num.natAbs))) c4
     |exact congrArg (fun q:Rat=>D.list (W (w32 q.num.natAbs))) c4.symm
     |exact congrArg (fun q:Rat=>D.list (W (w32 q.den))) c4
     |exact congrArg (fun q:Rat=>D.list (W (w32 q.den))) c4.symm
     |exact congrArg (fun n:Int=>D.v (.int .i64 n)) (by rw [wrap64 _ (by omega) (by omega)];omega)
     |exact congrArg (fun n:Int=>D.v (.int .i64 n)) (by omega)
   ·have f50:¬ ((j:Int)< ((List.map q3d (p :: q :: c :: r)).length:Int)):=of_decide_eq_false e8
    refine⟨by kernel_rfl,?_⟩
    refine Eq.trans (b:= .tup [.agg [.d (.v (.bool (decide ((foLo (cosq false) p (p :: q :: c :: r) j).num< 0)))),.d (.list (W (w32 (foLo (cosq false) p (p :: q :: c :: r) j).num.natAbs))),.d (.list (W (w32 (foLo (cosq false) p (p :: q :: c :: r) j).den))),.d (.v (.bool (decide ((foHi (cosq false) p (p :: q :: c :: r) j).num< 0)))),.d (.list (W (w32 (foHi (cosq false) p (p :: q :: c :: r) j).num.natAbs))),.d (.list (W (w32 (foHi (cosq false) p (p :: q :: c :: r) j).den)))],.agg [.d (.v (.bool (decide ((foLo sinq p (p :: q :: c :: r) j).num< 0)))),.d (.list (W (w32 (foLo sinq p (p :: q :: c :: r) j).num.natAbs))),.d (.list (W (w32 (foLo sinq p (p :: q :: c :: r) j).den))),.d (.v (.bool (decide ((foHi sinq p (p :: q :: c :: r) j).num< 0)))),.d (.list (W (w32 (foHi sinq p (p :: q :: c :: r) j).num.natAbs))),.d (.list (W (w32 (foHi sinq p (p :: q :: c :: r) j).den)))]]) ?_ rfl
    obtain⟨k1,k2,k3,k4⟩:=Zq1 (p:=p) (q:=q) hx (j:=j) (by omega)
    rw [k1,k2,k3,k4]
    all_goals rfl
theorem Ztr {p q:Rat} (_h:sle p q) (hp:qs p≤33554432) (hq:qs q≤33554432) (k:∀ ya yb yc ye,ya=(cs3 p q).1→yb=(cs3 p q).2→yc=(sn3 p q).1→ye=(sn3 p q).2→qs ya≤4*(qs p+qs q+1)+34→qs yb≤4*(qs p+qs q+1)+34→qs yc≤4*(qs p+qs q+1)+34→qs ye≤4*(qs p+qs q+1)+34→K (two (q3p ya yb) (q3p yc ye))):Ask 317 [q3p p q] K:=use (ZoG p q hp hq) rfl (k _ _ _ _ rfl rfl rfl rfl (Zse (by omega) (by omega) (by omega)).1 (Zse (by omega) (by omega) (by omega)).2 (Zri (by omega) (by omega) (by omega)).1 (Zri (by omega) (by omega) (by omega)).2)
set_option maxHeartbeats 4000000 in
theorem ZhD (A:ArmV) (Q:List (RV×RV)) (hA:A.ok) (hA0:armE A=0) (hlen:Q.length=A.links.length) (hQ:∀ p,p∈Q→p.1.z≤3145760∧p.2.z≤3145760):Spec Tryz.prog Tab 280 [.val (.agg [.d (.v (.string A.name)),.d (.v (.bool A.bx.s)),.d (.v (.string A.bx.a)),.d (.v (.string A.bx.d)),.d (.v (.bool A.by'.s)),.d (.v (.string A.by'.a)),.d (.v (.string A.by'.d)),.d (.v (.bool (A.bh))),.d (.v (.bool A.bt.s)),.d (.v (.string A.bt.a)),.d (.v (.string A.bt.d)),.d (.list (List.map lk A.links))]),.val (.one (.d (.list (List.map rdv Q))))] (.val (.one (.d (.list (List.map rqL (spreadL A Q)))))):=by
 have hA2:=hA
 obtain⟨z1,z2,z3,z4,z5,z6⟩:=hA
 have hL:(List.map lk A.links).length=A.links.length:=List.length_map ..
 have hLq:(List.map rdv Q).length=Q.length:=List.length_map ..
 obtain⟨hn3,hnz,hsb1,hsb2,hsb3,_⟩:=ZaA hA0
 have hb1:=ZH hsb1
 have hb2:=ZH hsb2
 have hb3:=ZH hsb3
 obtain⟨hb4,hb5,hb6,hb7⟩:=Zor hA0
 refine Za Tryz.func280 rfl rfl Tryz.ntmps280 rfl (by kernel_rfl) rfl rfl ?_
 refine Zp1 (x:=A.bx) (y:=A.by') (h:=A.bh) (z:=A.bt) (by omega) (by omega) (by omega) ?_
 refine ZaJ (q:=A.bx.q)  ?_
 refine ZaJ (q:=A.by'.q)  ?_
 refine ZaJ (q:=cosq A.bh A.bt.q)  ?_
 refine ZaJ (q:=sinq (tq A.bh A.bt.q))  ?_
 refine⟨by kernel_rfl,?_⟩
 refine⟨Nat,fun i=> [(1,.val (.one (.d (.list (List.map rdv Q))))),(6,.val (.one (.ptr 6 0))),(7,.val (.one (.row 71 0))),(30,.val (.one (.d (.list (List.map lk A.links))))),(31,int ((List.map lk A.links).length:Int)),(32,int (i:Int))],
  fun i=> [(6,.var 319 [.d (.v (.bool (decide (((endL A Q i).xl).num< 0)))),.d (.list (W (w32 ((endL A Q i).xl).num.natAbs))),.d (.list (W (w32 ((endL A Q i).xl).den))),.d (.v (.bool (decide (((endL A Q i).xh).num< 0)))),.d (.list (W (w32 ((endL A Q i).xh).num.natAbs))),.d (.list (W (w32 ((endL A Q i).xh).den))),.d (.v (.bool (decide (((endL A Q i).yl).num< 0)))),.d (.list (W (w32 ((endL A Q i).yl).num.natAbs))),.d (.list (W (w32 ((endL A Q i).yl).den))),.d (.v (.bool (decide (((endL A Q i).yh).num< 0)))),.d (.list (W (w32 ((endL A Q i).yh).num.natAbs))),.d (.list (W (w32 ((endL A Q i).yh).den))),.d (.v (.bool (decide (((endL A Q i).cl).num< 0)))),.d (.list (W (w32 ((endL A Q i).cl).num.natAbs))),.d (.list (W (w32 ((endL A Q i).cl).den))),.d (.v (.bool (decide (((endL A Q i).ch).num< 0)))),.d (.list (W (w32 ((endL A Q i).ch).num.natAbs))),.d (.list (W (w32 ((endL A Q i).ch).den))),.d (.v (.bool (decide (((endL A Q i).sl).num< 0)))),.d (.list (W (w32 ((endL A Q i).sl).num.natAbs))),.d (.list (W (w32 ((endL A Q i).sl).den))),.d (.v (.bool (decide (((endL A Q i).sh).num< 0)))),.d (.list (W (w32 ((endL A Q i).sh).num.natAbs))),.d (.list (W (w32 ((endL A Q i).sh).den)))]),(71,.row 319 24 0 (List.map rqL (linksL A Q i)) true)],fun i=>i≤A.links.length,fun i=>A.links.length - i,0,?_,Nat.zero_le _,fun i hs=> ?_⟩
 ·constructor<;>(repeat' (first|exact rfl|exact True.intro|exact⟨_,_,rfl⟩|exact(by decide)|apply And.intro))
  all_goals first|exact congrArg (fun n:Int=>D.v (.int .i64 n)) (by omega)|exact congrArg (fun n:Int=>D.v (.int .i64 n)) (by rw [wrap64 _ (by omega) (by omega)];omega)|(simp;done)
 obtain⟨⟨zc1,zc2⟩,zc3,zc4⟩:=ZnZ hA0 Q i
 obtain⟨⟨zx1,zx2⟩,zx3,zx4⟩:=Zf8 hA0 Q i
 obtain⟨ol1,ol2,ol3,ol4⟩:=LF.has_le (ZcX A Q i)
 obtain⟨⟨zl1,zl2⟩,zl3,zl4⟩:=Zbv A Q i
 obtain⟨ol7,ol8,ol9,ol10⟩:=LF.has_le (ZcM A Q i)
 have hT:(List.map rqL (linksL A Q i)).length≤3:=by rw [List.length_map,Ze7];omega
 refine⟨fun e1=> ?_,fun e1=> ?_⟩
 ·have f33:(i:Int)< ((List.map lk A.links).length:Int):=of_decide_eq_true e1
  refine Zq (l:=A.links) (i:=i) (by first|omega|exact Nat.mod_lt _ (by omega)) fun x35 hx35=> ?_
  obtain⟨hs1,hs2,hs3,hs4,hs5,hs6,hs7⟩:=z6 x35 (List.mem_of_getElem? hx35)
  have hlx35:=Zjz hx35
  have hsmx35:=ZH (ZaO hA0 (List.mem_of_getElem? hx35)).1
  refine k_ix i [D.v (.bool x35.len.s),D.v (.string x35.len.a),D.v (.string x35.len.d),D.v (.bool x35.low.s),D.v (.string x35.low.a),D.v (.string x35.low.d),D.v (.bool x35.high.s),D.v (.string x35.high.a),D.v (.string x35.high.d),D.v (.bool x35.speed.s),D.v (.string x35.speed.a),D.v (.string x35.speed.d),D.v (.bool x35.brake.s),D.v (.string x35.brake.a),D.v (.string x35.brake.d),D.list (List.map rdv x35.shape)] (by first|rfl|omega|(rw [wrap64 _ (by omega) (by omega)];omega)) (Zf hx35) rfl ?_
  refine Zq (l:=Q) (i:=i) (by first|omega|exact Nat.mod_lt _ (by omega)) fun x40 hx40=> ?_
  obtain⟨hzx40,hyx40⟩:=hQ x40 (List.mem_of_getElem? hx40)
  have hqx40:=Zl2 hx40
  refine k_ix i [D.v (.bool x40.1.s),D.v (.string x40.1.a),D.v (.string x40.1.d),D.v (.bool x40.2.s),D.v (.string x40.2.a),D.v (.string x40.2.d)] (by first|rfl|omega|(rw [wrap64 _ (by omega) (by omega)];omega)) (Zf hx40) rfl ?_
  refine Zr6 (x:=x40.1) (y:=x40.2) (by omega) (by omega) (fun ya42 yb42 hk_42_2 hk_42_3 hk_42_4 hk_42_5 hk_42_6=> ?_)
  refine Ztr (p:=ya42) (q:=yb42) (by assumption) (by omega) (by omega) (fun ya43 yb43 yc43 ye43 hk_43_4 hk_43_5 hk_43_6 hk_43_7 hk_43_8 hk_43_9 hk_43_10 hk_43_11=> ?_)
  refine Zan (p:=(endL A Q i).cl) (q:=(endL A Q i).ch) (r:=ya43) (u:=yb43) (by omega) (by omega) (by omega) (by omega) (fun ya49 yb49 hk_49_2 hk_49_3 hk_49_4 hk_49_5=> ?_)
  refine Zan (p:=(endL A Q i).sl) (q:=(endL A Q i).sh) (r:=yc43) (u:=ye43) (by omega) (by omega) (by omega) (by omega) (fun ya53 yb53 hk_53_2 hk_53_3 hk_53_4 hk_53_5=> ?_)
  refine Zim (p:=ya49) (q:=yb49) (r:=ya53) (u:=yb53) (by omega) (by omega) (by omega) (by omega) (fun ya54 yb54 hk_54_2 hk_54_3 hk_54_4 hk_54_5=> ?_)
  refine ZnG (p:=ya54) (q:=yb54) (by omega) (by omega) (fun ya55 yb55 hk_55_2 hk_55_3 hk_55_4 hk_55_5=> ?_)
  refine Zan (p:=(endL A Q i).sl) (q:=(endL A Q i).sh) (r:=ya43) (u:=yb43) (by omega) (by omega) (by omega) (by omega) (fun ya59 yb59 hk_59_2 hk_59_3 hk_59_4 hk_59_5=> ?_)
  refine Zan (p:=(endL A Q i).cl) (q:=(endL A Q i).ch) (r:=yc43) (u:=ye43) (by omega) (by omega) (by omega) (by omega) (fun ya63 yb63 hk_63_2 hk_63_3 hk_63_4 hk_63_5=> ?_)
  refine Zbw (p:=ya59) (q:=yb59) (r:=ya63) (u:=yb63) (by omega) (by omega) (by omega) (by omega) (fun ya64 yb64 hk_64_2 hk_64_3 hk_64_4 hk_64_5=> ?_)
  refine ZnG (p:=ya64) (q:=yb64) (by omega) (by omega) (fun ya65 yb65 hk_65_2 hk_65_3 hk_65_4 hk_65_5=> ?_)
  have e55:ya55=(linkL A Q i).cl:=by rw [hk_55_2,hk_54_2,hk_49_2,hk_53_3,hk_43_4,hk_43_5,hk_43_6,hk_43_7,hk_42_2,hk_42_3,← hqx40.1,← hqx40.2];rfl
  have f55:yb55=(linkL A Q i).ch:=by rw [hk_55_3,hk_54_3,hk_49_3,hk_53_2,hk_43_4,hk_43_5,hk_43_6,hk_43_7,hk_42_2,hk_42_3,← hqx40.1,← hqx40.2];rfl
  have e65:ya65=(linkL A Q i).sl:=by rw [hk_65_2,hk_64_2,hk_59_2,hk_63_2,hk_43_4,hk_43_5,hk_43_6,hk_43_7,hk_42_2,hk_42_3,← hqx40.1,← hqx40.2];rfl
  have f65:yb65=(linkL A Q i).sh:=by rw [hk_65_3,hk_64_3,hk_59_3,hk_63_3,hk_43_4,hk_43_5,hk_43_6,hk_43_7,hk_42_2,hk_42_3,← hqx40.1,← hqx40.2];rfl
  have zl5:qs ya55≤3:=by rw [e55];exact zl1
  have zl6:qs yb55≤3:=by rw [f55];exact zl2
  have zl7:qs ya65≤3:=by rw [e65];exact zl3
  have zl8:qs yb65≤3:=by rw [f65];exact zl4
  refine⟨by kernel_rfl,?_⟩
  refine⟨⟨row1 rfl,(by show ((List.map rqL (linksL A Q i)).length+1)*448≤_;omega),(by show ((List.map rqL (linksL A Q i)).length+1)≤_;omega)⟩,?_⟩
  refine Zx (x:=x35.len) (by omega) fun q74 h74 z74=> ?_
  refine ZaJ (q:=q74)  ?_
  refine Zan (p:=q74) (q:=q74) (r:=ya55) (u:=yb55) (by omega) (by omega) (by omega) (by omega) (fun ya81 yb81 hk_81_2 hk_81_3 hk_81_4 hk_81_5=> ?_)
  refine Zbw (p:=(endL A Q i).xl) (q:=(endL A Q i).xh) (r:=ya81) (u:=yb81) (by omega) (by omega) (by omega) (by omega) (fun ya82 yb82 hk_82_2 hk_82_3 hk_82_4 hk_82_5=> ?_)
  refine Zan (p:=q74) (q:=q74) (r:=ya65) (u:=yb65) (by omega) (by omega) (by omega) (by omega) (fun ya88 yb88 hk_88_2 hk_88_3 hk_88_4 hk_88_5=> ?_)
  refine Zbw (p:=(endL A Q i).yl) (q:=(endL A Q i).yh) (r:=ya88) (u:=yb88) (by omega) (by omega) (by omega) (by omega) (fun ya89 yb89 hk_89_2 hk_89_3 hk_89_4 hk_89_5=> ?_)
  refine⟨by kernel_rfl,?_⟩
  have hl:q74=lenAt A i:=h74.trans hlx35.symm
  have ex:ya82=(endL A Q (i+1)).xl:=by rw [hk_82_2,hk_81_2,hl,e55,f55];rfl
  have ex2:yb82=(endL A Q (i+1)).xh:=by rw [hk_82_3,hk_81_3,hl,e55,f55];rfl
  have ey:ya89=(endL A Q (i+1)).yl:=by rw [hk_89_2,hk_88_2,hl,e65,f65];rfl
  have ey2:yb89=(endL A Q (i+1)).yh:=by rw [hk_89_3,hk_88_3,hl,e65,f65];rfl
  subst ex ex2 ey ey2 e55 f55 e65 f65
  refine⟨i+1,by omega,by simp only;omega,?_⟩
  constructor<;>(repeat' (first|exact rfl|exact True.intro|apply And.intro))
  all_goals first
   |(rw [Zed];rfl)
   |exact congrArg (fun n:Int=>D.v (.int .i64 n)) (by rw [wrap64 _ (by omega) (by omega)];omega)
   |exact congrArg (fun n:Int=>D.v (.int .i64 n)) (by omega)
 ·have f33:¬ ((i:Int)< ((List.map lk A.links).length:Int)):=of_decide_eq_false e1
  refine⟨⟨row1 rfl,(by show ((List.map rqL (linksL A Q i)).length+1)*448≤_;omega),(by show ((List.map rqL (linksL A Q i)).length+1)≤_;omega)⟩,?_⟩
  refine Eq.trans (b:= .val (.one (.d (.list (List.map rqL (linksL A Q i)++ [[D.v (.bool (decide (((endL A Q i).xl).num< 0))),D.list (W (w32 ((endL A Q i).xl).num.natAbs)),D.list (W (w32 ((endL A Q i).xl).den)),D.v (.bool (decide (((endL A Q i).xh).num< 0))),D.list (W (w32 ((endL A Q i).xh).num.natAbs)),D.list (W (w32 ((endL A Q i).xh).den)),D.v (.bool (decide (((endL A Q i).yl).num< 0))),D.list (W (w32 ((endL A Q i).yl).num.natAbs)),D.list (W (w32 ((endL A Q i).yl).den)),D.v (.bool (decide (((endL A Q i).yh).num< 0))),D.list (W (w32 ((endL A Q i).yh).num.natAbs)),D.list (W (w32 ((endL A Q i).yh).den)),D.v (.bool (decide (((endL A Q i).cl).num< 0))),D.list (W (w32 ((endL A Q i).cl).num.natAbs)),D.list (W (w32 ((endL A Q i).cl).den)),D.v (.bool (decide (((endL A Q i).ch).num< 0))),D.list (W (w32 ((endL A Q i).ch).num.natAbs)),D.list (W (w32 ((endL A Q i).ch).den)),D.v (.bool (decide (((endL A Q i).sl).num< 0))),D.list (W (w32 ((endL A Q i).sl).num.natAbs)),D.list (W (w32 ((endL A Q i).sl).den)),D.v (.bool (decide (((endL A Q i).sh).num< 0))),D.list (W (w32 ((endL A Q i).sh).num.natAbs)),D.list (W (w32 ((endL A Q i).sh).den))]]))))) ?_ rfl
  obtain rfl:i=A.links.length:=by omega
  rw [spreadL,List.map_append]
  all_goals rfl
theorem ZnH {A:ArmV} {Q:List (RV×RV)} (hA:A.ok) (hA0:armE A=0) (hlen:Q.length=A.links.length) (hQ:∀ p,p∈Q→p.1.z≤3145760∧p.2.z≤3145760) (k:K (.val (.one (.d (.list (List.map rqL (spreadL A Q))))))):Ask 280 [.val (.agg [.d (.v (.string A.name)),.d (.v (.bool A.bx.s)),.d (.v (.string A.bx.a)),.d (.v (.string A.bx.d)),.d (.v (.bool A.by'.s)),.d (.v (.string A.by'.a)),.d (.v (.string A.by'.d)),.d (.v (.bool (A.bh))),.d (.v (.bool A.bt.s)),.d (.v (.string A.bt.a)),.d (.v (.string A.bt.d)),.d (.list (List.map lk A.links))]),.val (.one (.d (.list (List.map rdv Q))))] K:=use (ZhD A Q hA hA0 hlen hQ) rfl k
end
end Go.Proofs.YtpfemjpgbpnpkaaGreatDoor.eng
