/- Joined by wip/bundle.py: XSpr0 XSprA XSprR. -/
import Derived.Test.YtgkofgfiifgioaaGreatDoorQGrpQ
import Derived.Test.YtgkofgfiifgioaaGreatDoorQForeA
import Derived.Shelf.Strings.SlTrimAscii
namespace Go.Proofs.YtgkofgfiifgioaaGreatDoor.eng
open Go.RowKit num mem seg q held ratA ratB ratC ratD ratE vars ratF trq
theorem qi_1:((1:Int):Rat)=1:=rfl
theorem Znt:((-1:Int):Rat)=-1:=by decide+kernel
theorem qi_0:((0:Int):Rat)=0:=rfl
def sle (p q:Rat):Prop:=p≤q
theorem Zpu {c s:Rat} (h:unitC c s):(-1≤c∧c≤1)∧(-1≤s∧s≤1):=by
 unfold unitC at h
 have sq:∀ a:Rat,0≤a*a:=fun a=>by
  by_cases h:0≤a
  ·exact Rat.mul_nonneg h h
  ·have:=Rat.mul_nonneg (by grind:0≤-a) (by grind:0≤-a);grind
 have key:∀ a b:Rat,a*a+b*b=1→a≤1:=fun a b e=>by
  refine Rat.not_lt.1 fun hlt=> ?_
  have:=Rat.mul_nonneg (by grind:0≤a - 1) (by grind:0≤a - 1)
  have:=sq b
  grind
 have n1:=key c s h
 have n2:=key (-c) s (by grind)
 have n3:=key s c (by grind)
 have n4:=key (-s) c (by grind)
 exact⟨⟨by grind,n1⟩,⟨by grind,n3⟩⟩
theorem Zer (t:Rat):(-1≤cosq false t∧cosq false t≤1)∧(-1≤sinq t∧sinq t≤1):=by
 have h:=Zpv false t
 rw [ZeC] at h
 exact Zpu h
theorem ZaT (t:Rat):0< 1+t*t:=by
 have:0≤t*t:=by
  by_cases h:0≤t
  ·exact Rat.mul_nonneg h h
  ·have:=Rat.mul_nonneg (by grind:0≤-t) (by grind:0≤-t);grind
 grind
theorem Zc1 {a b:Rat} (hb:0< b) {x:Rat} (h:x*b=a):(0≤a→0≤x)∧(a≤0→x≤0):=by
 constructor
 ·intro ha
  refine Rat.not_lt.1 fun hx=> ?_
  have:=Rat.mul_pos (by grind:0< -x) hb
  grind
 ·intro ha
  refine Rat.not_lt.1 fun hx=> ?_
  have:=Rat.mul_pos hx hb
  grind
theorem Zh2 (t:Rat):(0≤t→0≤sinq t)∧(t≤0→sinq t≤0):=by
 obtain⟨_,h,_⟩:=Zbs t
 obtain⟨a,b⟩:=Zc1 (ZaT t) h
 exact⟨fun g=>a (by grind),fun g=>b (by grind)⟩
theorem Zmi {t:Rat} (h:t≤-1∨1≤t):cosq false t≤0:=by
 obtain⟨e,_,_⟩:=Zbs t
 refine(Zc1 (ZaT t) e).2 ?_
 rcases h with h|h
 ·have:=Rat.mul_nonneg (by grind:0≤-t - 1) (by grind:0≤-t+1);grind
 ·have:=Rat.mul_nonneg (by grind:0≤t - 1) (by grind:0≤t+1);grind
theorem ZiR {t:Rat} (h1:-1≤t) (h2:t≤1):0≤cosq false t:=by
 obtain⟨e,_,_⟩:=Zbs t
 refine(Zc1 (ZaT t) e).1 ?_
 have:=Rat.mul_nonneg (by grind:0≤1 - t) (by grind:0≤1+t)
 grind
def ext3 (l h:Rat):List Rat:=([-1,0,1]:List Int).foldl (ext l h) [l,h]
def cs3 (l h:Rat):Rat×Rat:=(lowL (cosq false l) ((ext3 l h).map (cosq false)),highL (cosq false l) ((ext3 l h).map (cosq false)))
def sn3 (l h:Rat):Rat×Rat:=(lowL (sinq l) ((ext3 l h).map sinq),highL (sinq l) ((ext3 l h).map sinq))
theorem ZT {l h a:Rat}:hasQ l h a=true↔l≤a∧a≤h:=by
 unfold hasQ;rw [Bool.and_eq_true,decide_eq_true_iff,decide_eq_true_iff]
theorem Zn0 {l h t:Rat} (ht:t∈ext3 l h):t=l∨t=h∨t=-1∨t=0∨t=1:=by
 unfold ext3 ext at ht
 simp only [List.foldl_cons,List.foldl_nil,qi_1,Znt,qi_0] at ht
 (repeat' split at ht)<;>simp at ht<;>grind
theorem ZeB:cosq false (-1)=0∧cosq false 0=1∧cosq false 1=0∧sinq (-1)=-1∧sinq 0=0∧sinq 1=1:=by decide+kernel
theorem Zmh {l h:Rat} (_:l≤h):(cosF (sqHi l h),cosF (sqLo l h))=cs3 l h:=by
 obtain⟨e1,e2,e3,_⟩:=ZeB
 rw [ZqM,Zn9]
 unfold cosL cosH
 rw [Zc4,Zc4]
 obtain⟨⟨a1,a2⟩,_⟩:=Zer l
 obtain⟨⟨b1,b2⟩,_⟩:=Zer h
 have f1:hasQ l h 1=true→cosq false h≤0:=fun e=>Zmi (.inr (ZT.1 e).2)
 have fm:hasQ l h (-1)=true→cosq false l≤0:=fun e=>Zmi (.inl (ZT.1 e).1)
 have g1:hasQ l h 1=true→¬ hasQ l h 0=true→0≤cosq false l:=fun e e0=>by
  rw [ZT] at e e0
  exact ZiR (by grind) e.1
 have gm:hasQ l h (-1)=true→¬ hasQ l h 0=true→0≤cosq false h:=fun e e0=>by
  rw [ZT] at e e0
  exact ZiR e.2 (by grind)
 unfold cs3 ext3 ext
 simp only [List.foldl_cons,List.foldl_nil,qi_1,Znt,qi_0]
 generalize ha:cosq false l=a at*
 generalize hb:cosq false h=b at*
 by_cases c1:hasQ l h 1=true<;>by_cases c0:hasQ l h 0=true<;>by_cases cm:hasQ l h (-1)=true<;>
  simp only [c1,c0,cm,if_true,if_false,Bool.false_eq_true,List.cons_append,List.nil_append,List.map_cons,List.map_nil,ha,hb,e1,e2,e3,lowL,highL,List.foldl_cons,List.foldl_nil]<;>
  try simp only [c1,c0,cm,true_implies,false_implies,not_true_eq_false,not_false_eq_true,Bool.false_eq_true] at f1 fm g1 gm<;>
  unfold lowF highF<;>(refine Prod.ext ?_ ?_)<;>grind
theorem ZpJ {l h:Rat} (_:l≤h):sinS l h=sn3 l h:=by
 obtain⟨_,_,_,e1,e2,e3⟩:=ZeB
 obtain⟨_,a1,a2⟩:=Zer l
 obtain⟨_,b1,b2⟩:=Zer h
 have f0:hasQ l h 0=true→sinq l≤0∧0≤sinq h:=fun e=>⟨(Zh2 l).2 (ZT.1 e).1,(Zh2 h).1 (ZT.1 e).2⟩
 unfold sinS sn3 ext3 ext stp
 simp only [List.foldl_cons,List.foldl_nil,qi_1,Znt,qi_0]
 generalize ha:sinq l=a at*
 generalize hb:sinq h=b at*
 by_cases c1:hasQ l h 1=true<;>by_cases c0:hasQ l h 0=true<;>by_cases cm:hasQ l h (-1)=true<;>
  simp only [c1,c0,cm,if_true,if_false,Bool.false_eq_true,List.cons_append,List.nil_append,List.map_cons,List.map_nil,ha,hb,e1,e2,e3,lowL,highL,List.foldl_cons,List.foldl_nil]<;>
  try simp only [c0,true_implies,false_implies,Bool.false_eq_true] at f0<;>
  unfold lowF highF minQ maxQ<;>(refine Prod.ext ?_ ?_)<;>grind
theorem Zpe (l h:Rat):(cs3 l h).1≤cosq false l∧cosq false l≤(cs3 l h).2:=⟨(ZbF _ _).1,(ZaI _ _).1⟩
theorem Zot (l h:Rat):(sn3 l h).1≤sinq l∧sinq l≤(sn3 l h).2:=⟨(ZbF _ _).1,(ZaI _ _).1⟩
theorem Zo5 {l h:Rat} {B:Nat} (hl:qs l≤B) (hh:qs h≤B) (hB:1≤B):∀ t,t∈ext3 l h→qs t≤B:=by
 intro t ht
 have z1:qs (-1:Rat)≤1:=by decide+kernel
 have z2:qs (0:Rat)≤1:=by decide+kernel
 have z3:qs (1:Rat)≤1:=by decide+kernel
 rcases Zn0 ht with rfl|rfl|rfl|rfl|rfl<;>omega
theorem ZtE {l h:Rat} {B:Nat} (hl:qs l≤B) (hh:qs h≤B) (hB:1≤B):qs (cs3 l h).1≤4*B+34∧qs (cs3 l h).2≤4*B+34:=by
 have k:∀ q,q∈cosq false l :: (ext3 l h).map (cosq false)→qs q≤4*B+34:=by
  intro q hq
  rcases List.mem_cons.1 hq with rfl|hq
  ·have:=(Zns l).1;omega
  ·obtain⟨t,ht,rfl⟩:=List.mem_map.1 hq
   have:=Zo5 hl hh hB t ht
   have:=(Zns t).1;omega
 exact⟨ZeY k,ZcZ k⟩
theorem Zs9 {l h:Rat} {B:Nat} (hl:qs l≤B) (hh:qs h≤B) (hB:1≤B):qs (sn3 l h).1≤4*B+34∧qs (sn3 l h).2≤4*B+34:=by
 have k:∀ q,q∈sinq l :: (ext3 l h).map sinq→qs q≤4*B+34:=by
  intro q hq
  rcases List.mem_cons.1 hq with rfl|hq
  ·have:=(Zns l).2;omega
  ·obtain⟨t,ht,rfl⟩:=List.mem_map.1 hq
   have:=Zo5 hl hh hB t ht
   have:=(Zns t).2;omega
 exact⟨ZeY k,ZcZ k⟩
structure LF where
 xl:Rat
 xh:Rat
 yl:Rat
 yh:Rat
 cl:Rat
 ch:Rat
 sl:Rat
 sh:Rat
def LF.has (f:LF) (g:RF):Prop:=(f.xl≤g.x∧g.x≤f.xh)∧(f.yl≤g.y∧g.y≤f.yh)∧(f.cl≤g.c∧g.c≤f.ch)∧(f.sl≤g.s∧g.s≤f.sh)
def LF.le (f:LF):Prop:=sle f.xl f.xh∧sle f.yl f.yh∧sle f.cl f.ch∧sle f.sl f.sh
def LF.zx (f:LF) (B:Nat):Prop:=(qs f.xl≤B∧qs f.xh≤B)∧(qs f.yl≤B∧qs f.yh≤B)
section
variable {K : AV → Prop}
end
section
variable {K : AV → Prop}
section
variable  {p q r u : Rat}
end
section
variable  {p q r u : Rat}
end
section
variable  {p q r u : Rat}
end
end
