/- Joined by wip/bundle.py: XRvf0 XRvfA XTsh0 XTsh1 XTsh2 XTcs XTcc XTbx0 XTbxA XTbxB XLawTbx. -/
import Derived.Test.YtgmkgfdjolchdaaGreatDoorQGrpIv
import Derived.Test.YtgmkgfdjolchdaaGreatDoorQGrp4
import Derived.Test.YtgmkgfdjolchdaaGreatDoorQGrpMk
import Derived.Test.YtgmkgfdjolchdaaGreatDoorQGrpU
import Derived.Test.YtgmkgfdjolchdaaGreatDoorQGrpCe
set_option maxHeartbeats 4000000
set_option maxRecDepth 100000
namespace Go.Proofs.YtgmkgfdjolchdaaGreatDoor.eng
open Go.RowKit num mem seg q held ratA ratB ratC ratD ratE vars ratF prf trq
theorem Zow {A:ArmV} {l:List RV} (hA:armE A=0) (hl:l.length=A.links.length) (h:∀ (i:Nat) (k:LinkV) (x:RV),A.links[i]? =some k→l[i]? =some x→k.low.q≤x.q∧x.q≤k.high.q):fitsE A l=0:=by
 unfold fitsE
 rw [if_pos (Zaa.2 ⟨hA,by rw [hl]⟩),if_neg]
 rintro⟨i,k,x,h1,h2,h3⟩
 obtain⟨a,b⟩:=h i k x h1 h2
 rcases h3 with g|g
 ·exact absurd a (Rat.not_le.2 g)
 ·exact absurd b (Rat.not_le.2 g)
theorem Znl {A:ArmV} {P:List (List RV)} {s:Int} (hA:armE A=0) (h1:1≤P.length) (h2:P.length≤60) (hs:0≤s∧s≤2000) (hf:∀ i,i< P.length→fitsE A (wAt P i)=0) (ht:∀ i,i< P.length→tkS A P s i≤2000):plnE A P s=0∧plnV A P s=plnL A P s P.length:=by
 have h:=Znm (Zrx hA ω ω ω) fun j hj=>ZjR (hf j hj) (ht j hj)
 exact⟨h,Ziv h⟩
def qT:List RV:= [cn ((-1:Rat) / 2),cn (1:Rat)]
def zT:List RV:= [cn (0:Rat),cn (0:Rat)]
theorem fitT {a b:Rat} (ha:-2≤a∧a≤2) (hb:-2≤b∧b≤2):fitsE (sampA [3,4]) [cn a,cn b]=0:=by
 refine Zow (ZfJ (by simp) ωd ωd) rfl fun i k x h1 h2=> ?_
 have em:m2Q=-2:=by decide+kernel
 have ep:n2Q=2:=by decide+kernel
 rcases i with _|_|i
 ·obtain rfl:sampL 3=k:=Option.some.inj h1
  obtain rfl:cn a=x:=Option.some.inj h2
  show (cn m2Q).q≤(cn a).q∧(cn a).q≤(cn n2Q).q
  rw [cn_q,cn_q,cn_q,em,ep];exact ha
 ·obtain rfl:sampL 4=k:=Option.some.inj h1
  obtain rfl:cn b=x:=Option.some.inj h2
  show (cn m2Q).q≤(cn b).q∧(cn b).q≤(cn n2Q).q
  rw [cn_q,cn_q,cn_q,em,ep];exact hb
 ·have:=(List.getElem?_eq_some_iff.1 h2).1
  simp at this;omega
theorem tkT:tkS (sampA [3,4]) [qT,zT] 0 1=4:=by decide+kernel
theorem plnT:plnE (sampA [3,4]) [qT,zT] 0=0∧plnV (sampA [3,4]) [qT,zT] 0=plnL (sampA [3,4]) [qT,zT] 0 2:=by
 refine Znl (ZfJ (by simp) ωd ωd) ωd ωd ωd (fun i hi=> ?_) fun i hi=> ?_
 ·have hi:i< 2:=hi
  rcases i with _|_|i
  ·exact fitT ωk ωk
  ·exact fitT ωk ωk
  ·omega
 ·have hi:i< 2:=hi
  rcases i with _|_|i
  ·decide
  ·rw [show (0+1)=1 from rfl,tkT];decide
  ·omega
theorem tipT:(tipF (sampA [3,4]) qT).x=5∧(tipF (sampA [3,4]) qT).y=0:=by decide+kernel
def lkR:Nat→List LinkV
 |0=> []
 |1=> [sampL 3]
 |_=> [sampL 3,sampL 4]
def nmT:ByteArray:=ByteArray.mk #[111,110,101]
def arS (i:Nat):List C:= [.d (.v (.string nmT)),.d (.v (.bool (cn n0Q).s)),.d (.v (.string (cn n0Q).a)),.d (.v (.string (cn n0Q).d)),.d (.v (.bool (cn n0Q).s)),.d (.v (.string (cn n0Q).a)),.d (.v (.string (cn n0Q).d)),.d (.v (.bool false)),.d (.v (.bool (cn n0Q).s)),.d (.v (.string (cn n0Q).a)),.d (.v (.string (cn n0Q).d)),
 match i with
 |0=> .d (.v (.slice none 0 0))
 |_+1=> .row 45 0]
def arO (i:Nat):List (Nat×Ob):=match i with
 |0=> []
 |i+1=> [(45,.row 71 16 0 (List.map lk (lkR (i+1))) true)]
open Go.RowKit num mem seg q held ratA ratB ratC ratD ratE vars ratF prf natC natD natI sub32 trq
section
variable {K : AV → Prop}
theorem Zt (n:Int) (d:Nat) (v:Rat) (hn:-256< n∧n< 256) (hd:1≤d∧d< 256) (hv:(n:Rat) / (d:Rat)=v):Spec Tryz.prog Tab 19 [int n,int (d:Int)] (rat (cn v)):=by
 refine Za Tryz.func19 rfl rfl Tryz.ntmps19 rfl ωr rfl rfl ?_
 refine ZrU (v:=v) n d rfl rfl hn hd hv ?_
 refine Eq.trans (b:=rat (cn v)) ?_ rfl
 rfl
theorem ZT (x y:Int) (p q:Rat) (hx:-256< x∧x< 256) (hy:-256< y∧y< 256) (hp:(x:Rat) / ((1:Nat):Rat)=p) (hq:(y:Rat) / ((1:Nat):Rat)=q):Spec Tryz.prog Tab 18 [int x,int y] (pair (cn p) (cn q)):=by
 refine Za Tryz.func18 rfl rfl Tryz.ntmps18 rfl ωr rfl rfl ?_
 refine use (Zt x 1 p hx ωd hp) rfl ?_
 refine use (Zt y 1 q hy ωd hq) rfl ?_
 refine Eq.trans (b:=pair (cn p) (cn q)) ?_ rfl
 rfl
theorem Zih  :Spec Tryz.prog Tab 4 [] (bool true):=by
 have l1:(List.map lk (lkR 1)).length=1:=rfl
 have l2:(List.map lk (lkR 2)).length=2:=rfl
 have l0:(List.map lk (lkR 0)).length=0:=rfl
 refine Za Tryz.func4 rfl rfl Tryz.ntmps4 rfl ωr rfl rfl ?_
 refine use (ZT (0) (0) n0Q n0Q ωd ωd ωk ωk) rfl ?_
 refine use (Zt (0) 1 n0Q ωd ωd ωk) rfl ?_
 refine⟨Nat,fun i=> [(1,fv 18),(2,.val (.one (.ptr 2 0))),(18,.val (.one (.full ([[D.v (.int .i64 (3))], [D.v (.int .i64 (4))]])))),(19,int 2),(20,int (i:Int))],
  fun i=> [(2,.var 34 (arS i))]++arO i,fun i=>i≤2,fun i=>2 - i,0,?_,Nat.zero_le _,fun i hs=> ?_⟩
 ·exact ωe
 rcases (show i=0∨i=1∨i=2 by omega) with rfl|rfl|rfl
 ·refine⟨fun _=> ?_,fun e=>absurd e ωd⟩
  refine k_ix 0 [D.v (.int .i64 (3))] ωf rfl rfl ?_
  refine use (Zt (3) 1 ((3:Nat):Rat) ωd ωd ωk) rfl ?_
  refine use (Zt (-2) 1 m2Q ωd ωd ωk) rfl ?_
  refine use (Zt (2) 1 n2Q ωd ωd ωk) rfl ?_
  refine use (Zt (1) 4 q4Q ωd ωd ωk) rfl ?_
  refine use (Zt (1) 10 q10Q ωd ωd ωk) rfl ?_
  refine use (ZT (0) (-1) n0Q m1Q ωd ωd ωk ωk) rfl ?_
  refine use (ZT (3) (-1) ((3:Nat):Rat) m1Q ωd ωd ωk ωk) rfl ?_
  refine use (ZT (3) (1) ((3:Nat):Rat) n1Q ωd ωd ωk ωk) rfl ?_
  refine use (ZT (0) (1) n0Q n1Q ωd ωd ωk ωk) rfl ?_
  refine⟨⟨row1 rfl,(by show 1*224≤_;omega),(by show 1≤_;omega)⟩,?_⟩
  refine⟨ωr,?_⟩
  refine⟨1,ω,by simp only;omega,?_⟩
  constructor<;>(repeat' (first|exact rfl|exact True.intro|apply And.intro))
  all_goals first
   |rfl
   |exact ωb
   |exact ωa
 ·refine⟨fun _=> ?_,fun e=>absurd e ωd⟩
  refine k_ix 1 [D.v (.int .i64 (4))] ωf rfl rfl ?_
  refine use (Zt (4) 1 ((4:Nat):Rat) ωd ωd ωk) rfl ?_
  refine use (Zt (-2) 1 m2Q ωd ωd ωk) rfl ?_
  refine use (Zt (2) 1 n2Q ωd ωd ωk) rfl ?_
  refine use (Zt (1) 4 q4Q ωd ωd ωk) rfl ?_
  refine use (Zt (1) 10 q10Q ωd ωd ωk) rfl ?_
  refine use (ZT (0) (-1) n0Q m1Q ωd ωd ωk ωk) rfl ?_
  refine use (ZT (4) (-1) ((4:Nat):Rat) m1Q ωd ωd ωk ωk) rfl ?_
  refine use (ZT (4) (1) ((4:Nat):Rat) n1Q ωd ωd ωk ωk) rfl ?_
  refine use (ZT (0) (1) n0Q n1Q ωd ωd ωk ωk) rfl ?_
  refine⟨⟨row1 rfl,(by show ((List.map lk (lkR 1)).length+1)*224≤_;omega),(by show ((List.map lk (lkR 1)).length+1)≤_;omega)⟩,?_⟩
  refine⟨ωr,?_⟩
  refine⟨2,ω,by simp only;omega,?_⟩
  constructor<;>(repeat' (first|exact rfl|exact True.intro|apply And.intro))
  all_goals first
   |rfl
   |exact ωb
   |exact ωa
 ·refine⟨fun e=>absurd e ωd,fun _=> ?_⟩
  refine use (Zt (-1) 2 ((-1:Rat) / 2) ωd ωd ωk) rfl ?_
  refine use (Zt (1) 1 (1:Rat) ωd ωd ωk) rfl ?_
  have htp:=Zrb (sampA [3,4]) qT ZdW ωk
  have hh2:hasE (sampA [3,4]) (qT.length:Int)=0:=ZeY
  rw [ZcV hh2,ZcV hh2,ZcV hh2,Zmj hh2,tipT.1,tipT.2,hh2] at htp
  refine use htp rfl ?_
  refine use (ZT (5) (0) (5:Rat) (0:Rat) ωd ωd ωk ωk) rfl ?_
  refine use TwoT rfl ?_
  refine⟨ωr,?_⟩
  refine use (Zt (0) 1 (0:Rat) ωd ωd ωk) rfl ?_
  refine use (Zt (0) 1 (0:Rat) ωd ωd ωk) rfl ?_
  have hpl:=ZhN (sampA [3,4]) [qT,zT] 0 ZdW ωk ωd
  rw [plnT.1,plnT.2,show plnL (sampA [3,4]) [qT,zT] 0 2= [(0,gdL qT),(4,gdL zT)] from by unfold plnL plnG;simp only [List.range_succ,List.range_zero,List.nil_append,List.map_cons,List.map_nil,List.cons_append];rw [tkT];rfl] at hpl
  refine use hpl rfl ?_
  refine⟨ωr,?_⟩
  refine use (ZT (5) (0) (5:Rat) (0:Rat) ωd ωd ωk ωk) rfl ?_
  refine ZiQ ⟨rfl,rfl⟩ ?_
  refine k_ix 1 [D.v (.int .i64 (4)),D.list ((gdL zT).map rdc)] ωf rfl rfl ?_
  refine⟨ωr,?_⟩
  refine Eq.trans (b:=bool true) ?_ rfl
  rfl
end
open Go.RowKit num mem seg q held ratA ratB ratC ratD ratE vars ratF prf natC natD natI sub32
open natC
theorem ZtQ (q:Rat):absV q=if 0≤q then q else -q:=by
 have h:=Rat.num_nonneg (q:=q)
 unfold absV
 by_cases g:0≤q
 ·rw [if_pos g,if_neg (by have:=h.2 g;omega)]
 ·rw [if_neg g,if_pos (by
   have:¬ 0≤q.num:=fun k=>g (h.1 k)
   omega)]
theorem Zcx {n:Int} {d:Nat} (hn:n.natAbs≤1000000) (h0:0< d) (hd:d≤1000):smallP (cn ((n:Rat) / (d:Rat))):=by
 obtain⟨h1,h2⟩:=Zfc n d h0
 refine Za9 ?_ ?_
 ·rw [h1,Int.natAbs_ediv_of_dvd (Int.ofNat_dvd_left.2 (Nat.gcd_dvd_left _ _)),Int.natAbs_natCast]
  exact Nat.le_trans (Nat.div_le_self ..) hn
 ·rw [h2];exact Nat.le_trans (Nat.div_le_self ..) hd
theorem ZbD {a:Int} (h:a.natAbs≤1000000):smallP (cn (qtr a)):=Zcx h ωd ωd
theorem ZsC {a:Int} (h:0< a):0< qtr a:=by
 unfold qtr;rw [Rat.div_def];exact Rat.mul_pos (Rat.intCast_pos.2 h) ωk
theorem ZrG (l:List Int) (p:Nat):lgM l p=4∨lgM l p=6∨lgM l p=8∨lgM l p=10:=by
 have:=ZN l p (n:=4) ωd;unfold lgM;omega
theorem thrN {s:Int} (h:0≤s∧s< 6):-2≤thr (-1 - s)∧thr (-1 - s)< 0:=by
 have:s=0∨s=1∨s=2∨s=3∨s=4∨s=5:=ω
 rcases this with rfl|rfl|rfl|rfl|rfl|rfl<;>decide+kernel
theorem thrP {s:Int} (h:0≤s∧s< 6):0< thr (1+s)∧thr (1+s)≤2:=by
 have:s=0∨s=1∨s=2∨s=3∨s=4∨s=5:=ω
 rcases this with rfl|rfl|rfl|rfl|rfl|rfl<;>decide+kernel
theorem Zog {d:Int} (h:0< d):0< ivr d:=by
 unfold ivr;rw [Rat.div_def]
 exact Rat.mul_pos ωk (Rat.inv_pos.2 (Rat.natCast_pos.2 ω))
theorem Zte {s:Int} (h:0≤s∧s< 8):(1:Rat) / 11≤ivr (4+s):=by
 have:s=0∨s=1∨s=2∨s=3∨s=4∨s=5∨s=6∨s=7:=ω
 rcases this with rfl|rfl|rfl|rfl|rfl|rfl|rfl|rfl<;>decide+kernel
theorem ZgI {d:Int} (h:0< d∧d< 256):smallP (cn (ivr d)):=Zcx ωd ω ω
theorem ZgH {n:Int} (h:-256< n∧n< 256):smallP (cn (thr n)):=Zcx ω ωd ωd
theorem Zit {P:List (Int×Int)} {i:Nat} (hi:i< P.length):pts (qtL P) i=(qtr (P[i]?.getD (0,0)).1,qtr (P[i]?.getD (0,0)).2):=by
 unfold pts qtL
 rw [List.getElem?_map,List.getElem?_eq_getElem hi]
 simp only [Option.map_some,Option.getD_some,cn_q]
theorem ZsD (P:List (Int×Int)):(qtL P).length=P.length:=List.length_map ..
theorem Zp2 {P:List (Int×Int)} (h3:3≤P.length) (h8:P.length≤8) (he:EdgesI P):convE 8 (qtL P)=0:=by
 rw [Za1,ZsD]
 refine⟨ω,ω,fun i k hi h2 hk=> ?_⟩
 rw [Zit hi,Zit (Nat.mod_lt _ ω),Zit (Nat.mod_lt _ ω)]
 exact ZsN (he i k hi h2 hk)
theorem Zun (l:List Int) (p:Nat):EdgesI (shM l p)∧3≤(shM l p).length∧(shM l p).length≤4∧∀ c,c∈shM l p→c.1.natAbs≤11∧c.2.natAbs≤11:=by
 have hb:=ZrG l p
 unfold shM rctI
 generalize lgM l p=w at*
 (repeat' split)
 all_goals
  refine⟨?_,by simp,by simp,?_⟩
  ·intro i k hi h2 hk
   simp only [List.length_cons,List.length_nil] at hi hk ⊢
   have ci:i=0∨i=1∨i=2∨i=3:=ω
   have ck:k=2∨k=3:=ω
   rcases ci with rfl|rfl|rfl|rfl<;>rcases ck with rfl|rfl<;>first
    |(exfalso;omega)
    |(simp [oriI];rcases hb with rfl|rfl|rfl|rfl<;>omega)
  ·intro c hc
   simp only [List.mem_cons,List.not_mem_nil,or_false] at hc
   first
    |(rcases hc with rfl|rfl|rfl<;>simp only<;>omega)
    |(rcases hc with rfl|rfl|rfl|rfl<;>simp only<;>omega)
theorem ZuR (l:List Int) (j:Nat):linkE (lkM l j)=0:=by
 have hg:=ZrG l (3+6*j)
 have s1:=ZN l (3+6*j+1) (n:=6) ωd
 have s2:=ZN l (3+6*j+2) (n:=6) ωd
 have s3:=ZN l (3+6*j+3) (n:=8) ωd
 have s4:=ZN l (3+6*j+4) (n:=20) ωd
 obtain⟨e1,e2,e3,e4⟩:=Zun l (3+6*j)
 have b:¬ linkBad (lkM l j):=by
  rintro(h|h|h|h|h|h|h|h|h)
  ·exact h (ZbD ω)
  ·exact h (ZgH ω)
  ·exact h (ZgH ω)
  ·exact h (ZgI ω)
  ·exact h (ZgI ω)
  ·have h:(cn (qtr (lgM l (3+6*j)))).q≤0:=h
   rw [cn_q] at h
   exact absurd (ZsC (a:=lgM l (3+6*j)) ω) (Rat.not_lt.2 h)
  ·have h:(cn (thr (1+sv l (3+6*j+2) 6))).q≤(cn (thr (-1 - sv l (3+6*j+1) 6))).q:=h
   rw [cn_q,cn_q] at h
   have:=(thrN s1).2;have:=(thrP s2).1
   grind
  ·have h:(cn (ivr (4+sv l (3+6*j+3) 8))).q≤0:=h
   rw [cn_q] at h
   exact absurd (Zog (d:=4+sv l (3+6*j+3) 8) ω) (Rat.not_lt.2 h)
  ·have h:(cn (ivr (10+sv l (3+6*j+4) 20))).q≤0:=h
   rw [cn_q] at h
   exact absurd (Zog (d:=10+sv l (3+6*j+4) 20) ω) (Rat.not_lt.2 h)
 have c:convE 8 (lkM l j).shape=0:=Zp2 e2 ω e1
 unfold linkE
 rw [if_neg b,if_pos c,if_neg]
 rintro⟨p,hp,hn⟩
 obtain⟨x,hx,rfl⟩:=List.mem_map.1 (show p∈qtL (shM l (3+6*j)) from hp)
 have:=e4 x hx
 exact hn ⟨ZbD ω,ZbD ω⟩
theorem Zlq {ls:List LinkV} (h:∀ l,l∈ls→linkE l=0):linksE ls=0:=by
 induction ls with
 |nil=>rfl
 |cons a r ih=>unfold linksE;rw [if_pos (h a (by simp))];exact ih fun l hl=>h l (List.mem_cons_of_mem _ hl)
theorem ZeB (l:List Int):armE (armM l)=0:=by
 have hc:=Zbu l
 have hn:(armM l).links.length=cntM l:=ZaI l _
 have s1:=ZN l 1 (n:=3) ωd
 have s0:=Zrn (sv l 0 4)
 have hb:¬ baseBad (armM l):=by
  rintro(h|h|h|h|h)
  ·omega
  ·exact h (ZbD ωd)
  ·exact h (ZbD ωd)
  ·exact h (Zcx ω ω ω)
  ·exact Bool.noConfusion h.1
 unfold armE
 rw [if_pos (show nameOk (armM l).name=true from(by decide+kernel:nameOk nmM=true)),if_neg ω,if_neg hb]
 refine Zlq fun k hk=> ?_
 obtain⟨j,hj,rfl⟩:=List.mem_map.1 (show k∈(List.range (cntM l)).map (lkM l) from hk)
 exact ZuR l j
theorem Zi7 (l:List Int):(armM l).ok:=by
 have hE:=ZeB l
 have hc:=Zbu l
 have hn:(armM l).links.length=cntM l:=ZaI l _
 obtain⟨a1,a2,a3,a4,a5,a6,a7⟩:=ZaF hE
 have up:∀ {x:RV},smallP x→x.z≤67108864:=fun h=>Nat.le_trans (ZD h) ωd
 refine⟨(by decide+kernel:nmM.size≤67108864),up a3,up a4,up a5,ω,fun k hk=> ?_⟩
 obtain⟨b1,b2,b3,b4,b5,b6,b7,b8,b9,b10,b11⟩:=ZR hE hk
 have:=(Za1.1 b10).1
 exact⟨up b1,up b2,up b3,up b4,up b5,ω,fun p hp=>⟨up (b11 p hp).1,up (b11 p hp).2⟩⟩
theorem Zj2 (q:Rat):q*(q.den:Rat)=(q.num:Rat):=by
 have h:(q.num:Rat) / (q.den:Rat)=q:=by rw [← Rat.mkRat_eq_div];exact Rat.mkRat_self q
 have d:((q.den:Nat):Rat)≠0:=fun e=>q.den_nz (Rat.natCast_eq_zero_iff.1 e)
 rw [Rat.div_def] at h
 have g:((q.den:Nat):Rat)⁻¹*((q.den:Nat):Rat)=1:=Rat.inv_mul_cancel _ d
 generalize ((q.den:Nat):Rat)=e at*
 generalize e⁻¹=f at*
 generalize ((q.num:Int):Rat)=n at*
 subst h
 grind
theorem Zwh (l m:List Int) (j:Nat):cfV l m j=loT l j+(hiT l j - loT l j)*((sv m j 9:Int):Rat)*(1 / 8):=by
 have h1:(loT l j)*((loT l j).den:Rat)=((loT l j).num:Rat):=Zj2 _
 have h2:(hiT l j)*((hiT l j).den:Rat)=((hiT l j).num:Rat):=Zj2 _
 have d1:((loT l j).den:Rat)≠0:=fun h=>(loT l j).den_nz (Rat.natCast_eq_zero_iff.1 h)
 have d2:((hiT l j).den:Rat)≠0:=fun h=>(hiT l j).den_nz (Rat.natCast_eq_zero_iff.1 h)
 unfold cfV cfN
 simp only [Rat.intCast_add,Rat.intCast_mul,Rat.intCast_sub,Rat.natCast_mul,Rat.intCast_natCast,← h1,← h2]
 generalize (loT l j)=a at*
 generalize (hiT l j)=b at*
 generalize (((a.den:Nat)):Rat)=d at*
 generalize (((b.den:Nat)):Rat)=e at*
 generalize ((sv m j 9:Int):Rat)=k at*
 have e8:((8:Int):Rat)=8:=rfl
 have n8:((8:Nat):Rat)=8:=rfl
 rw [e8,n8]
 grind
theorem ZvF (l m:List Int) (j:Nat):loT l j≤cfV l m j∧cfV l m j≤hiT l j:=by
 have s1:=(thrN (ZN l (3+6*j+1) (n:=6) ωd)).2
 have s2:=(thrP (ZN l (3+6*j+2) (n:=6) ωd)).1
 have s9:=ZN m j (n:=9) ωd
 have h:0≤hiT l j - loT l j:=by
  show 0≤thr _ - thr _
  grind
 have k0:(0:Rat)≤((sv m j 9:Int):Rat):=Rat.intCast_nonneg.2 s9.1
 have k8:((sv m j 9:Int):Rat)≤8:=Rat.intCast_le_intCast.2 (show sv m j 9≤8 by omega)
 have m1:=Rat.mul_nonneg h k0
 have m2:=Rat.mul_nonneg h (show 0≤8 - ((sv m j 9:Int):Rat) by grind)
 rw [Zwh]
 generalize hiT l j=b at*
 generalize loT l j=a at*
 generalize ((sv m j 9:Int):Rat)=k at*
 constructor<;>grind
theorem Zr4 (l m:List Int) (j:Nat):-2≤cfV l m j∧cfV l m j≤2:=by
 have s1:=(thrN (ZN l (3+6*j+1) (n:=6) ωd)).1
 have s2:=(thrP (ZN l (3+6*j+2) (n:=6) ωd)).2
 have h:=ZvF l m j
 have a1:-2≤loT l j:=s1
 have a2:hiT l j≤2:=s2
 constructor<;>grind
theorem cf_z (l m:List Int) (j:Nat):(cn (cfV l m j)).z≤3:=by
 have h:=Zo3 l m j
 exact ZD (Zcx (by have:=h.1.2;omega) (by have:=h.2.2;omega) (by have:=h.2.2;omega))
theorem Zsl {l h t:Rat} (h1:l≤t) (h2:t≤h):t*t≤sqHi l h:=by
 obtain⟨g1,g2⟩:=Zaf [h*h] (l*l)
 have g2:=g2 _ List.mem_cons_self
 unfold sqHi
 by_cases h0:0≤t
 ·refine Rat.le_trans ?_ g2
  have:=Rat.mul_nonneg (by grind:0≤h - t) (by grind:0≤h+t)
  grind
 ·refine Rat.le_trans ?_ g1
  have:=Rat.mul_nonneg (by grind:0≤t - l) (by grind:0≤-t - l)
  grind
theorem Zsk {l h t:Rat} (h1:l≤t) (h2:t≤h):sqLo l h≤t*t:=by
 unfold sqLo
 split
 ·exact sq_nonneg' t
 ·rename_i hn
  obtain⟨g1,g2⟩:=Za6 [h*h] (l*l)
  have g2:=g2 _ List.mem_cons_self
  rw [Zas,qi_0] at hn
  by_cases h0:0≤l
  ·refine Rat.le_trans g1 ?_
   have:=Rat.mul_nonneg (by grind:0≤t - l) (by grind:0≤t+l)
   grind
  ·have hh:h< 0:=by
    by_cases g:h< 0
    ·exact g
    ·exact absurd ⟨by grind,by grind⟩ hn
   refine Rat.le_trans g2 ?_
   have:=Rat.mul_nonneg (by grind:0≤h - t) (by grind:0≤-t - h)
   grind
theorem Zvy (t:Rat):cosq false t=cosF (t*t):=by rw [← ZV,ZdI]
theorem ZoO {l h t:Rat} (h1:l≤t) (h2:t≤h):(cs3 l h).1≤cosq false t∧cosq false t≤(cs3 l h).2:=by
 rw [← ZoP (Rat.le_trans h1 h2),Zvy]
 exact⟨Zai (sq_nonneg' t) (Zsl h1 h2),Zai (Zcb l h) (Zsk h1 h2)⟩
theorem ZcZ {s t:Rat} (h:0≤(s - t)*(1 - s*t)):sinq t≤sinq s:=by
 obtain⟨_,e1,_⟩:=Zau s
 obtain⟨_,e2,_⟩:=Zau t
 have p1:=Zbc s
 have p2:=Zbc t
 have hp:0< (1+s*s)*(1+t*t):=Rat.mul_pos p1 p2
 have key:(sinq s - sinq t)*((1+s*s)*(1+t*t))=2*((s - t)*(1 - s*t)):=by
  have a1:(sinq s - sinq t)*((1+s*s)*(1+t*t))=sinq s*(1+s*s)*(1+t*t) - sinq t*(1+t*t)*(1+s*s):=by grind
  rw [a1,e1,e2];grind
 have:0≤sinq s - sinq t:=(ZdF hp key).1 (by grind)
 grind
theorem ZmJ {l h a:Rat} (ha:a=-1∨a=1) (h1:l≤a) (h2:a≤h):a∈ext3 l h:=by
 have hq:hasQ l h a=true:=Zas.2 ⟨h1,h2⟩
 unfold ext3 ext
 simp only [List.foldl_cons,List.foldl_nil,qi_1,Zlj,qi_0]
 rcases ha with rfl|rfl
 ·rw [if_pos hq];(repeat' split)<;>simp
 ·rw [if_pos hq];simp
theorem Zhv (l h:Rat):l∈ext3 l h∧h∈ext3 l h:=by
 unfold ext3 ext
 simp only [List.foldl_cons,List.foldl_nil]
 constructor<;>(repeat' split)<;>simp
theorem ZbB {l h t:Rat} (ht:t∈ext3 l h):(sn3 l h).1≤sinq t∧sinq t≤(sn3 l h).2:=
 ⟨(Za6 _ _).2 _ (List.mem_map.2 ⟨t,ht,rfl⟩),(Zaf _ _).2 _ (List.mem_map.2 ⟨t,ht,rfl⟩)⟩
theorem mulp' {a b:Rat} (ha:0≤a) (hb:0≤b):0≤a*b:=Rat.mul_nonneg ha hb
theorem ZmI {l h t:Rat} (h1:l≤t) (h2:t≤h):(sn3 l h).1≤sinq t:=by
 obtain⟨ml,mh⟩:=Zhv l h
 by_cases hm:l≤-1∧-1≤h
 ·refine Rat.le_trans (ZbB (ZmJ (.inl rfl) hm.1 hm.2)).1 ?_
  rw [Zfv.2.2.2.1];exact(Zfh t).2.1
 ·by_cases hh:h< -1
  ·refine Rat.le_trans (ZbB mh).1 (ZcZ ?_)
   have a1:0≤(h - t)*(t*h - 1):=mulp' (by grind) (by have:=mulp' (show 0≤-1 - t by grind) (show 0≤-1 - h by grind);grind)
   grind
  ·have hl:-1< l:=by grind
   by_cases hc:t*l≤1
   ·refine Rat.le_trans (ZbB ml).1 (ZcZ ?_)
    exact mulp' (by grind) (by grind)
   ·have ht1:1< t:=by
     by_cases g:1< t
     ·exact g
     ·exfalso
      apply hc
      by_cases g0:0≤l
      ·have:=mulp' (show 0≤1 - t by grind) g0
       have:=mulp' (show 0≤1 - l by grind) (show (0:Rat)≤1 by decide+kernel)
       grind
      ·have a1:=mulp' (show 0≤-l by grind) (show 0≤1+t by grind)
       have a2:0≤1+l:=by grind
       grind
    refine Rat.le_trans (ZbB mh).1 (ZcZ ?_)
    have a1:0≤(h - t)*(t*h - 1):=mulp' (by grind) (by have:=mulp' (show 0≤t - 1 by grind) (show 0≤h - 1 by grind);grind)
    grind
theorem Zjz {l h t:Rat} (h1:l≤t) (h2:t≤h):sinq t≤(sn3 l h).2:=by
 obtain⟨ml,mh⟩:=Zhv l h
 by_cases hm:l≤1∧1≤h
 ·refine Rat.le_trans ?_ (ZbB (ZmJ (.inr rfl) hm.1 hm.2)).2
  rw [Zfv.2.2.2.2.2];exact(Zfh t).2.2
 ·by_cases hh:1< l
  ·refine Rat.le_trans (ZcZ ?_) (ZbB ml).2
   have a1:0≤(t - l)*(t*l - 1):=mulp' (by grind) (by have:=mulp' (show 0≤t - 1 by grind) (show 0≤l - 1 by grind);grind)
   grind
  ·have hl:h< 1:=by grind
   by_cases hc:t*h≤1
   ·refine Rat.le_trans (ZcZ ?_) (ZbB mh).2
    exact mulp' (by grind) (by grind)
   ·have ht1:t< -1:=by
     by_cases g:t< -1
     ·exact g
     ·exfalso
      apply hc
      by_cases g0:h≤0
      ·have:=mulp' (show 0≤1+t by grind) (show 0≤-h by grind)
       grind
      ·have a1:=mulp' (show 0≤h by grind) (show 0≤1 - t by grind)
       grind
    refine Rat.le_trans (ZcZ ?_) (ZbB ml).2
    have a1:0≤(t - l)*(t*l - 1):=mulp' (by grind) (by have:=mulp' (show 0≤-1 - t by grind) (show 0≤-1 - l by grind);grind)
    grind
theorem Zoh {a b n:Int}:n∈ivl a b↔a≤n∧n≤b:=by
 unfold ivl
 rw [List.mem_map]
 constructor
 ·rintro⟨i,hi,rfl⟩
  have:=List.mem_range.1 hi
  omega
 ·rintro⟨h1,h2⟩
  exact⟨(n - a).toNat,List.mem_range.2 ω,ω⟩
theorem ZlR {xs ys:List Int} {c:Int×Int}:c∈cellsL xs ys↔c.1∈xs∧c.2∈ys:=by
 unfold cellsL
 rw [List.mem_flatMap]
 constructor
 ·rintro⟨v,hv,h⟩
  obtain⟨u,hu,rfl⟩:=List.mem_map.1 h
  exact⟨hu,hv⟩
 ·rintro⟨h1,h2⟩
  exact⟨c.2,h2,List.mem_map.2 ⟨c.1,h1,rfl⟩⟩
theorem Zex {p q:Rat} (h:p≤q):c1 p≤c1 q:=by
 unfold c1
 exact Rat.le_floor_iff.2 (Rat.le_trans (Rat.le_floor_iff.1 (Int.le_refl _)) h)
theorem Zgg {p q:Rat} (h:p≤q):c0 p≤c0 q:=by
 have h1:-q≤-p:=by grind
 have:=Zex h1
 unfold c0;unfold c1 at this;omega
theorem Zo7 {x y z t x' y' z' t':Rat} (h1:x≤x') (h2:z'≤z) (h3:y≤y') (h4:t'≤t):∀ c,c∈cellsL (ivl (c0 x') (c1 z')) (ivl (c0 y') (c1 t'))→c∈cellsL (ivl (c0 x) (c1 z)) (ivl (c0 y) (c1 t)):=by
 intro c hc
 rw [ZlR,Zoh,Zoh] at hc ⊢
 have:=Zgg h1;have:=Zex h2;have:=Zgg h3;have:=Zex h4
 omega
open argopen
def btwN (Q:List (RV×RV)) (R:List RV) (n:Nat):Prop:=∀ i,i< n→loAt Q i≤qAt R i∧qAt R i≤hiAt Q i
theorem Zhw {A:ArmV} {Q:List (RV×RV)} {R:List RV} {n:Nat} (h:btwN Q R n):∀ i,i≤n→(endL A Q i).has (endF A R i)
 |0,_=>ZeO _
 |i+1,hi=>Zg8 (ZdK (Zhw h i ω) (Zhx A R i) (ZoO (h i ω).1 (h i ω).2) ⟨ZmI (h i ω).1 (h i ω).2,Zjz (h i ω).1 (h i ω).2⟩) _
theorem Zls {A:ArmV} {Q:List (RV×RV)} {R:List RV} {n:Nat} (h:btwN Q R n) {i:Nat} (hi:i< n):(linkL A Q i).has (linkF A R i):=
 ZdK (Zhw h i ω) (Zhx A R i) (ZoO (h i hi).1 (h i hi).2) ⟨ZmI (h i hi).1 (h i hi).2,Zjz (h i hi).1 (h i hi).2⟩
theorem ZtM {A:ArmV} {Q:List (RV×RV)} {R:List RV} {n i:Nat} (h:btwN Q R n) (hi:i< n) {v:RV×RV} (hv:v∈cvl (plcQ (linkF A R i) (shpAt A i))):
  (bxF (linkL A Q i) (shOf A i) ((shOf A i).length - 1)).holds (v.1.q,v.2.q):=by
 obtain⟨p,hp,rfl⟩:=List.mem_map.1 (show v∈List.map (fun p:Rat×Rat=>(cn p.1,cn p.2)) (plcQ (linkF A R i) (shpAt A i)) from hv)
 obtain⟨u,hu,rfl⟩:=List.mem_map.1 (show p∈List.map (fun v:RV×RV=>putQ (linkF A R i) v.1.q v.2.q) (shpAt A i) from hp)
 obtain⟨j,hj⟩:=List.mem_iff_getElem?.1 hu
 have hs:shOf A i=shpAt A i:=rfl
 have hl:=(List.getElem?_eq_some_iff.1 hj).1
 have:=ZhK (Zls (A:=A) h hi) (shOf A i) ((shOf A i).length - 1) j (by rw [hs];omega)
 rw [hs,Zl9 hj] at this
 simp only [cn_q];exact this
theorem ZqL {x y z t:RV} (h:(gridR x y z t).2=0):bxOk x y z t∧(inG x.q z.q∧inG y.q t.q)∧¬ (c1 z.q - c0 x.q+1)*(c1 t.q - c0 y.q+1) >400∧(gridR x y z t).1=cellsL (ivl (c0 x.q) (c1 z.q)) (ivl (c0 y.q) (c1 t.q)):=by
 unfold gridR at h ⊢
 by_cases h1:bxOk x y z t
 ·rw [if_pos h1] at h ⊢
  by_cases h2:inG x.q z.q∧inG y.q t.q
  ·rw [if_pos h2] at h ⊢
   by_cases h3:(c1 z.q - c0 x.q+1)*(c1 t.q - c0 y.q+1) >400
   ·rw [if_pos h3] at h;exact absurd h ωd
   ·rw [if_neg h3] at h ⊢;exact⟨h1,h2,h3,rfl⟩
  ·rw [if_neg h2] at h;exact absurd h ωd
 ·rw [if_neg h1] at h;exact absurd h ωd
theorem Zon {x y z t x2 y2 z2 t2:RV} (h:(gridR x y z t).2=0) (hx:x.q≤x2.q) (hz:z2.q≤z.q) (hy:y.q≤y2.q) (ht:t2.q≤t.q) (gx:x2.q≤z2.q) (gy:y2.q≤t2.q):
  (gridR x2 y2 z2 t2).2=0∧(0< (gridR x2 y2 z2 t2).1.length∧(gridR x2 y2 z2 t2).1.length≤400)∧(0< (gridR x y z t).1.length∧(gridR x y z t).1.length≤400)∧∀ c,c∈(gridR x2 y2 z2 t2).1→c∈(gridR x y z t).1:=by
 obtain⟨h1,⟨h2,h3⟩,h4,h5⟩:=ZqL h
 have a1:=Zgg hx;have a2:=Zex hz;have a3:=Zgg hy;have a4:=Zex ht
 have b1:=ZcR gx;have b2:=ZcR gy
 have hm:(c1 z2.q - c0 x2.q+1)*(c1 t2.q - c0 y2.q+1)≤(c1 z.q - c0 x.q+1)*(c1 t.q - c0 y.q+1):=Int.mul_le_mul ω ω ω ω
 have e:gridR x2 y2 z2 t2=(cellsL (ivl (c0 x2.q) (c1 z2.q)) (ivl (c0 y2.q) (c1 t2.q)),0):=by
  unfold gridR inG at*
  rw [if_pos ⟨gx,gy⟩,if_pos ⟨⟨by grind,by grind⟩,by grind,by grind⟩,if_neg ω]
 rw [e,h5]
 have len:∀ {p q r s:Int},p≤q→r≤s→¬ (q - p+1)*(s - r+1) >400→0< (cellsL (ivl p q) (ivl r s)).length∧(cellsL (ivl p q) (ivl r s)).length≤400:=by
  intro p q r s h1 h2 h3
  rw [Zfm,Zed,Zed]
  refine⟨Nat.mul_pos ω ω,?_⟩
  have e1:((q - p+1).toNat:Int)=q - p+1:=ω
  have e2:((s - r+1).toNat:Int)=s - r+1:=ω
  have:(((s - r+1).toNat*(q - p+1).toNat:Nat):Int)≤400:=by
   rw [Int.natCast_mul,e1,e2,Int.mul_comm];omega
  omega
 refine⟨rfl,len b1 b2 ω,len ω ω h4,?_⟩
 exact Zo7 hx hz hy ht
def cfR (l m:List Int):List RV:=(cfF l m (cntM l)).map cn
theorem ZaC (l m:List Int):(cfR l m).length=cntM l:=by unfold cfR;rw [List.length_map,Zo6]
theorem Zbx (l m:List Int) {j:Nat} (h:j< cntM l):(cfR l m)[j]? =some (cn (cfV l m j)):=by
 unfold cfR cfF;rw [List.getElem?_map,List.getElem?_map,List.getElem?_range h];rfl
theorem Zo5 (l m:List Int):∀ x,x∈cfR l m→x.z≤3:=by
 intro x hx
 obtain⟨j,hj⟩:=List.mem_iff_getElem?.1 hx
 have hl:=(List.getElem?_eq_some_iff.1 hj).1
 rw [ZaC] at hl
 rw [Zbx l m hl] at hj
 rw [← Option.some.inj hj];exact cf_z l m j
def mvQ (l m k:List Int):List (RV×RV):=cvl (stepL (cfR l m) (cfR l k) 1 0)
theorem ZuN (a b:Rat):midQ 0 1 a b=a:=by
 unfold midQ;rw [show ((0:Int):Rat) / ((1:Int):Rat)=0 from by decide+kernel];grind
theorem ZuM (a b:Rat):midQ 1 1 a b=b:=by
 unfold midQ;rw [show ((1:Int):Rat) / ((1:Int):Rat)=1 from by decide+kernel];grind
theorem ZuJ (l m k:List Int) {j:Nat} (h:j< cntM l):(mvQ l m k)[j]? =some (cn (minQ (cfV l m j) (cfV l k j)),cn (maxQ (cfV l m j) (cfV l k j))):=by
 have e0:=ZfY (p:=0) (o:=1) (Zbx l m h) (Zbx l k h)
 have e1:=ZfY (p:=((0:Nat):Int)+1) (o:=1) (Zbx l m h) (Zbx l k h)
 have e:=Zjv (k:=0) e0 e1
 unfold mvQ cvl
 rw [List.getElem?_map,e,cn_q,cn_q,ZuN,show ((0:Nat):Int)+1=1 from rfl,ZuM];rfl
theorem ZnD (l m k:List Int):(mvQ l m k).length=cntM l:=by
 unfold mvQ;rw [ZiZ,Zgs,ZaC,ZaC,Nat.min_self]
theorem ZsQ (l m k:List Int) {j:Nat} (h:j< cntM l):loAt (mvQ l m k) j=minQ (cfV l m j) (cfV l k j)∧hiAt (mvQ l m k) j=maxQ (cfV l m j) (cfV l k j):=by
 have hle:minQ (cfV l m j) (cfV l k j)≤maxQ (cfV l m j) (cfV l k j):=Rat.le_trans (ZiC _ _).1 (ZiF _ _).1
 obtain⟨e1,e2⟩:=Zmz (ZuJ l m k h)
 rw [e1,e2,Z0 hle,Z1 hle];exact⟨rfl,rfl⟩
theorem mv_z (l m k:List Int):∀ p,p∈mvQ l m k→p.1.z≤4∧p.2.z≤4:=by
 intro p hp
 obtain⟨j,hj⟩:=List.mem_iff_getElem?.1 hp
 have hl:=(List.getElem?_eq_some_iff.1 hj).1
 rw [ZnD] at hl
 rw [ZuJ l m k hl] at hj
 rw [← Option.some.inj hj]
 have h1:=cf_z l m j;have h2:=cf_z l k j
 rw [cn_z] at h1 h2
 simp only [cn_z]
 exact⟨ZnH ω ω,ZnJ ω ω⟩
theorem Zqm (l m k:List Int):¬ splitBad (cfR l m) (cfR l k) 1:=by
 have:=Zbu l
 unfold splitBad;rw [ZaC,ZaC];omega
def trM (l m k:List Int) (n:Int):List (Int×List RV):= [(0,cfR l m),(n,cfR l k)]
theorem ZvS (l m k:List Int) {n:Int} (h:1≤n∧n≤2000):tz (trM l m k n):=by
 have hc:=Zbu l
 refine⟨by show 2≤_;omega,fun x hx=> ?_⟩
 rcases List.mem_cons.1 hx with rfl|hx
 ·exact⟨⟨by show _≤(0:Int);omega,by show (0:Int)≤_;omega⟩,by show (cfR l m).length≤_;rw [ZaC];omega,fun x hx=>by have:=Zo5 l m x hx;omega⟩
 ·obtain rfl:=List.mem_singleton.1 hx
  exact⟨⟨by show _≤n;omega,by show n≤_;omega⟩,by show (cfR l k).length≤_;rw [ZaC];omega,fun x hx=>by have:=Zo5 l k x hx;omega⟩
theorem ZuH (l m k:List Int) {n x:Int} (hn:1≤n) (h0:0≤x) (h1:x≤n):atL (trM l m k n) x=itL ((x:Rat) / (n:Rat)) (cfR l m) (cfR l k) (cntM l):=by
 have hc:=Zbu l
 have hn0:(n:Rat)≠0:=fun e=>by have:=Rat.intCast_inj.1 (show (n:Rat)=((0:Int):Rat) from e);omega
 have ext:∀ (s:Rat) (V:List Int),(∀ j,j< cntM l→cfV l V j=itF s (cfR l m) (cfR l k) j)→qsL (cfR l V)=itL s (cfR l m) (cfR l k) (cntM l):=by
  intro s V hV
  refine List.ext_getElem? fun j=> ?_
  by_cases hj:j< cntM l
  ·unfold qsL itL
   rw [List.getElem?_map,Zbx l V hj,List.getElem?_map,List.getElem?_range hj]
   show some (cn (cfV l V j)).q=_
   rw [cn_q,hV j hj];rfl
  ·rw [List.getElem?_eq_none (by rw [Zng,ZaC];omega),List.getElem?_eq_none (by rw [ZiT];omega)]
 have hat:∀ (V:List Int) j,j< cntM l→qAt (cfR l V) j=cfV l V j:=fun V j hj=>by rw [ZbF (Zbx l V hj),cn_q]
 show (if x≤0 then qsL (cfR l m) else atR (0,cfR l m) [(n,cfR l k)] x)=_
 split
 ·obtain rfl:x=0:=ω
  refine ext _ _ fun j hj=> ?_
  unfold itF
  rw [hat m j hj,show ((0:Int):Rat) / (n:Rat)=0 from by rw [Rat.div_def];exact Rat.zero_mul _];grind
 ·show (if x< n then itL (((x:Rat) - ((0:Int):Rat)) / ((n:Rat) - ((0:Int):Rat))) (cfR l m) (cfR l k) (min (cfR l m).length (cfR l k).length) else atR (n,cfR l k) [] x)=_
  split
  ·rw [ZaC,ZaC,Nat.min_self,show (x:Rat) - ((0:Int):Rat)=(x:Rat) from by rw [qi_0];grind,show (n:Rat) - ((0:Int):Rat)=(n:Rat) from by rw [qi_0];grind]
  ·obtain rfl:x=n:=ω
   show qsL (cfR l k)=_
   refine ext _ _ fun j hj=> ?_
   unfold itF
   rw [hat m j hj,hat k j hj,show (x:Rat) / (x:Rat)=1 from by rw [Rat.div_def];exact Rat.mul_inv_cancel _ hn0];grind
def nowR (l m k:List Int) (n x:Int):List RV:=(itL ((x:Rat) / (n:Rat)) (cfR l m) (cfR l k) (cntM l)).map cn
theorem ZjY (l m k:List Int) (n x:Int):(nowR l m k n x).length=cntM l:=by unfold nowR;rw [List.length_map,ZiT]
theorem ZuG (l m k:List Int) {n x:Int} (hn:1≤n) (h0:0≤x) (h1:x≤n):List.map rdc (atL (trM l m k n) x)=List.map rd (nowR l m k n x):=by
 rw [ZuH l m k hn h0 h1];unfold nowR;rw [List.map_map];rfl
theorem Zv2 (l m k:List Int) (n x:Int) {j:Nat} (h:j< cntM l):qAt (nowR l m k n x) j=cfV l m j+(x:Rat) / (n:Rat)*(cfV l k j - cfV l m j):=by
 have e:(nowR l m k n x)[j]? =some (cn (itF ((x:Rat) / (n:Rat)) (cfR l m) (cfR l k) j)):=by
  unfold nowR itL;rw [List.getElem?_map,List.getElem?_map,List.getElem?_range h];rfl
 rw [ZbF e,cn_q]
 unfold itF
 rw [ZbF (Zbx l m h),ZbF (Zbx l k h),cn_q,cn_q]
theorem Zvi {s:Rat} {a b:List RV} {B C:Nat} (hs:qs s≤C) (ha:∀ x,x∈a→x.z≤B) (hb:∀ x,x∈b→x.z≤B) (i:Nat):qs (itF s a b i)≤3*B+C+5:=by
 have q:∀ l:List RV,(∀ x,x∈l→x.z≤B)→qs (qAt l i)≤B+1:=fun l hl=>by
  unfold qAt
  cases h:l[i]? with
  |none=>exact Nat.le_trans (by decide+kernel:qs z0.q≤1) ω
  |some x=>have:=x.z1;have:=hl x (List.mem_of_getElem? h);show qs x.q≤_;omega
 have:=q a ha
 have:=q b hb
 have:=Zae (qAt b i) (qAt a i)
 have:=Zp s (qAt b i - qAt a i)
 have:=Zw (qAt a i) (s*(qAt b i - qAt a i))
 unfold itF;omega
theorem ZuF (l m k:List Int) {n x:Int} (hn:1≤n∧n≤2000) (h0:0≤x) (h1:x≤n):∀ v,v∈nowR l m k n x→v.z≤1048576:=by
 intro v hv
 obtain⟨q,hq,rfl⟩:=List.mem_map.1 (show v∈List.map cn _ from hv)
 obtain⟨j,_,rfl⟩:=List.mem_map.1 (show q∈List.map _ _ from hq)
 have hs:qs ((x:Rat) / (n:Rat))≤40:=by
  have:=Z2 (n:=x) ω ω
  have:=Z2 (n:=n) ω ω
  have:=ZaU (x:Rat) (n:Rat)
  omega
 have:=Zvi hs (Zo5 l m) (Zo5 l k) j
 rw [cn_z];omega
theorem Zqj (l m k:List Int) {n x:Int} (hn:1≤n) (h0:0≤x) (h1:x≤n):btwN (mvQ l m k) (nowR l m k n x) (cntM l):=by
 intro j hj
 obtain⟨e1,e2⟩:=ZsQ l m k hj
 rw [e1,e2,Zv2 l m k n x hj]
 have hnp:(0:Rat)< (n:Rat):=Rat.intCast_lt_intCast.2 (show (0:Int)< n by omega)
 have hs0:0≤(x:Rat) / (n:Rat):=by
  rw [Rat.div_def];exact Rat.mul_nonneg (Rat.intCast_le_intCast.2 h0) (Rat.le_of_lt (Rat.inv_pos.2 hnp))
 have hs1:(x:Rat) / (n:Rat)≤1:=by
  have h:=Rat.mul_nonneg (show 0≤(n:Rat) - (x:Rat) from by have:=Rat.intCast_le_intCast.2 h1;grind) (Rat.le_of_lt (Rat.inv_pos.2 hnp))
  have hc:=Rat.mul_inv_cancel (n:Rat) (by grind)
  rw [Rat.div_def];grind
 generalize (x:Rat) / (n:Rat)=s at*
 generalize cfV l m j=a at*
 generalize cfV l k j=b at*
 have k1:a≤b→a≤a+s*(b - a)∧a+s*(b - a)≤b:=fun h=>by
  have g1:=Rat.mul_nonneg hs0 (show 0≤b - a by grind)
  have g2:=Rat.mul_nonneg (show 0≤1 - s by grind) (show 0≤b - a by grind)
  grind
 have k2:b≤a→b≤a+s*(b - a)∧a+s*(b - a)≤a:=fun h=>by
  have g1:=Rat.mul_nonneg hs0 (show 0≤a - b by grind)
  have g2:=Rat.mul_nonneg (show 0≤1 - s by grind) (show 0≤a - b by grind)
  grind
 unfold minQ maxQ
 by_cases h:a≤b
 ·have:=k1 h;rw [if_pos h];split<;>grind
 ·have:=k2 (by grind);rw [if_neg h];split<;>grind
theorem Zo4 (l m:List Int):fitsE (armM l) (cfR l m)=0:=by
 refine Zow (ZeB l) (by rw [ZaC];exact(ZaI l _).symm) fun j q x hk hx=> ?_
 obtain⟨rfl,hj⟩:=ZiG (show (lksM l (cntM l))[j]? =some q from hk)
 rw [Zbx l m hj] at hx
 obtain rfl:cn (cfV l m j)=x:=Option.some.inj hx
 have:=ZvF l m j
 show (cn (thr (-1 - sv l (3+6*j+1) 6))).q≤_∧_≤(cn (thr (1+sv l (3+6*j+2) 6))).q
 rw [cn_q,cn_q,cn_q];exact this
theorem Zmi {f:Nat→Rat} {b:Int} (hb:1≤b∧b≤2000):∀ {n:Nat},(∀ i,i< n→f i≤(b:Rat))→tkN f n≤b
 |0,_=>hb.1
 |n+1,H=>by
  have h1:=Zmi (f:=f) hb (n:=n) fun i hi=>H i ω
  have h2:=H n ω
  have h3:¬ ((2000:Int):Rat)< f n:=fun e=>by
   have:(b:Rat)≤((2000:Int):Rat):=Rat.intCast_le_intCast.2 hb.2
   grind
  have h4:=(ZcQ h3).1
  have h5:=Zo2.2 h2
  show max _ _≤_;omega
def tkM (l m k:List Int):Int:=tkA (armM l) (cfR l m) (cfR l k)
theorem Zro (l m k:List Int):1≤tkM l m k∧tkM l m k≤44:=by
 refine⟨(Zfx _ _ _).1,Zmi ωd fun j hj=> ?_⟩
 have hj:j< cntM l:=by have:=ZaI l (cntM l);exact this ▸ hj
 unfold tkQ
 rw [ZbF (Zbx l k hj),ZbF (Zbx l m hj),cn_q,cn_q]
 have a:=Zr4 l m j
 have b:=Zr4 l k j
 have hk:(armM l).links[j]? =some (lkM l j):=by
  show (lksM l (cntM l))[j]? =_
  unfold lksM;rw [List.getElem?_map,List.getElem?_range hj];rfl
 rw [Zfz hk]
 have hs:(lkM l j).speed.q=ivr (4+sv l (3+6*j+3) 8):=cn_q _
 have h1:=Zte (ZN l (3+6*j+3) (n:=8) ωd)
 rw [hs]
 generalize ivr (4+sv l (3+6*j+3) 8)=s at*
 generalize cfV l m j=x at*
 generalize cfV l k j=y at*
 have h0:0< s:=by grind
 have hv:absV (y - x)≤4:=by
  rw [ZtQ];split<;>grind
 have hp:=ZkP (y - x)
 generalize absV (y - x)=t at*
 have hi:=Rat.le_of_lt (Rat.inv_pos.2 h0)
 have hc:s*s⁻¹=1:=Rat.mul_inv_cancel _ (by grind)
 rw [Rat.div_def]
 generalize s⁻¹=v at*
 have e1:=Rat.mul_nonneg (show 0≤s - 1 / 11 by grind) hi
 have e2:v≤11:=by grind
 have e3:=Rat.mul_nonneg (show 0≤4 - t by grind) hi
 have e44:((44:Int):Rat)=44:=rfl
 rw [e44]
 grind
theorem Zrv (P:List Rat):List.map rdc (gdL (P.map cn))=List.map rd (P.map cn):=by
 unfold gdL
 rw [List.map_map,List.map_map,List.map_map]
 refine List.map_congr_left fun x _=> ?_
 show rd (cn (cn x).q)=rd (cn x)
 rw [cn_q]
theorem plan2 (l m k:List Int):plnE (armM l) [cfR l m,cfR l k] 0=0∧List.map keyC (plnV (armM l) [cfR l m,cfR l k] 0)=List.map keyD (trM l m k (tkM l m k)):=by
 have hb:=Zro l m k
 have ht1:tkS (armM l) [cfR l m,cfR l k] 0 1=tkM l m k:=by show (0:Int)+tkM l m k=_;omega
 obtain⟨h1,h2⟩:=Znl (A:=armM l) (P:= [cfR l m,cfR l k]) (s:=0) (ZeB l) (by simp) (by simp) ωd
  (fun i hi=>by
   match i,hi with
   |0,_=>exact Zo4 l m
   |1,_=>exact Zo4 l k
   |n+2,h=>exact absurd h (by simp))
  (fun i hi=>by
   match i,hi with
   |0,_=>show (0:Int)≤_;omega
   |1,_=>rw [ht1];omega
   |n+2,h=>exact absurd h (by simp))
 refine⟨h1,?_⟩
 rw [h2]
 show [[D.v (.int .i64 0),D.list (List.map rdc (gdL (cfR l m)))], [D.v (.int .i64 (tkS (armM l) [cfR l m,cfR l k] 0 1)),D.list (List.map rdc (gdL (cfR l k)))]]=_
 rw [ht1]
 unfold cfR
 rw [Zrv,Zrv];rfl
def bdA (v:RV×RV) (s:List (RV×RV)) (j:Nat):Rat:=lowL v.1.q ((s.take j).map fun p=>p.1.q)
def bdC (v:RV×RV) (s:List (RV×RV)) (j:Nat):Rat:=highL v.1.q ((s.take j).map fun p=>p.1.q)
def bdB (v:RV×RV) (s:List (RV×RV)) (j:Nat):Rat:=lowL v.2.q ((s.take j).map fun p=>p.2.q)
def bdD (v:RV×RV) (s:List (RV×RV)) (j:Nat):Rat:=highL v.2.q ((s.take j).map fun p=>p.2.q)
theorem Zwa {v:RV×RV} {s:List (RV×RV)} {j:Nat} {p:RV×RV} (h:s[j]? =some p):(bdA v s (j+1)=minQ (bdA v s j) p.1.q∧bdC v s (j+1)=maxQ (bdC v s j) p.1.q)∧bdB v s (j+1)=minQ (bdB v s j) p.2.q∧bdD v s (j+1)=maxQ (bdD v s j) p.2.q:=by
 unfold bdA bdC bdB bdD lowL highL
 rw [List.take_add_one,h,ZiB,Zf0,ZiB,Zf0]
 simp
theorem Zvs {v:RV×RV} {s:List (RV×RV)} {j:Nat} {b:B4} (hv:b.holds (v.1.q,v.2.q)) (h:∀ p,p∈s→b.holds (p.1.q,p.2.q)):
  (b.xl≤bdA v s j∧bdC v s j≤b.xh∧bdA v s j≤bdC v s j)∧b.yl≤bdB v s j∧bdD v s j≤b.yh∧bdB v s j≤bdD v s j:=by
 have lo:∀ (q:Rat) (l:List Rat) (m:Rat),m≤q→(∀ a,a∈l→m≤a)→m≤lowL q l:=fun q l m h1 h2=>by
  rcases ZcE l q with e|e
  ·rw [e];exact h1
  ·exact h2 _ e
 have hi:∀ (q:Rat) (l:List Rat) (m:Rat),q≤m→(∀ a,a∈l→a≤m)→highL q l≤m:=fun q l m h1 h2=>by
  rcases ZcK l q with e|e
  ·rw [e];exact h1
  ·exact h2 _ e
 have tk:∀ {f:RV×RV→Rat} {a:Rat},a∈(s.take j).map f→∃ p,p∈s∧f p=a:=fun h=>by
  obtain⟨p,hp,e⟩:=List.mem_map.1 h
  exact⟨p,List.mem_of_mem_take hp,e⟩
 refine⟨⟨lo _ _ _ hv.1.1 fun a ha=> ?_,hi _ _ _ hv.1.2 fun a ha=> ?_,Rat.le_trans (Za6 _ _).1 (Zaf _ _).1⟩,lo _ _ _ hv.2.1 fun a ha=> ?_,hi _ _ _ hv.2.2 fun a ha=> ?_,Rat.le_trans (Za6 _ _).1 (Zaf _ _).1⟩
 ·obtain⟨p,hp,rfl⟩:=tk ha;exact(h p hp).1.1
 ·obtain⟨p,hp,rfl⟩:=tk ha;exact(h p hp).1.2
 ·obtain⟨p,hp,rfl⟩:=tk ha;exact(h p hp).2.1
 ·obtain⟨p,hp,rfl⟩:=tk ha;exact(h p hp).2.2
theorem Zv9 {v:RV×RV} {s:List (RV×RV)} {j B:Nat} (hv:v.1.z≤B∧v.2.z≤B) (h:∀ p,p∈s→p.1.z≤B∧p.2.z≤B):(qs (bdA v s j)≤B+1∧qs (bdC v s j)≤B+1)∧qs (bdB v s j)≤B+1∧qs (bdD v s j)≤B+1:=by
 have a:∀ q,q∈v.1.q :: (s.take j).map (fun p=>p.1.q)→qs q≤B+1:=by
  intro q hq
  rcases List.mem_cons.1 hq with rfl|hq
  ·have:=v.1.z1;omega
  ·obtain⟨p,hp,rfl⟩:=List.mem_map.1 hq
   have:=h p (List.mem_of_mem_take hp);have:=p.1.z1;omega
 have b:∀ q,q∈v.2.q :: (s.take j).map (fun p=>p.2.q)→qs q≤B+1:=by
  intro q hq
  rcases List.mem_cons.1 hq with rfl|hq
  ·have:=v.2.z1;omega
  ·obtain⟨p,hp,rfl⟩:=List.mem_map.1 hq
   have:=h p (List.mem_of_mem_take hp);have:=p.2.z1;omega
 exact⟨⟨ZbI a,ZaZ a⟩,ZbI b,ZaZ b⟩
theorem Zuz {A:ArmV} {R:List RV} {i:Nat} {s:List (RV×RV)} (h:hasE A (R.length:Int)=0) (hs:(plcV A R)[i]? =some s):i< A.links.length∧s=cvl (plcQ (linkF A R i) (shpAt A i)):=by
 rw [ZfR h,List.getElem?_map] at hs
 cases e:(plcL A R A.links.length)[i]? with
 |none=>rw [e] at hs;simp at hs
 |some m=>
  rw [e] at hs
  obtain⟨h1,h2⟩:=ZsM e
  exact⟨h2,by rw [← Option.some.inj hs,h1]⟩
theorem Zum {A:ArmV} {Q:List (RV×RV)} {i:Nat} {b:B4} (h:hasE A (Q.length:Int)=0) (hb:(shbV A Q)[i]? =some b):b=bxF (linkL A Q i) (shOf A i) ((shOf A i).length - 1)∧b.z 400:=by
 have hz:=ZvZ (Zaa.1 h).1 Q b (by rw [ZfE h] at hb;exact List.mem_of_getElem? hb)
 refine⟨?_,hz⟩
 rw [ZfE h] at hb
 unfold shbL at hb
 rw [List.getElem?_map] at hb
 cases e:(List.range A.links.length)[i]? with
 |none=>rw [e] at hb;simp at hb
 |some j=>
  rw [e] at hb
  have hj:=List.getElem?_eq_some_iff.1 e
  obtain⟨h1,h2⟩:=hj
  rw [List.getElem_range] at h2
  subst h2
  exact(Option.some.inj hb).symm
theorem Zpv (l m k:List Int) {n x:Int} (hn:1≤n∧n≤2000) (h0:0≤x) (h1:x≤n) {i:Nat} {s:List (RV×RV)} {b:B4}
  (hs:(plcV (armM l) (nowR l m k n x))[i]? =some s) (hb:(shbV (armM l) (mvQ l m k))[i]? =some b):
  (3≤s.length∧s.length≤8)∧b.z 400∧(∀ p,p∈s→p.1.z≤215000000∧p.2.z≤215000000)∧(∀ p,p∈s→p.1=cn p.1.q∧p.2=cn p.2.q)∧∀ p,p∈s→b.holds (p.1.q,p.2.q):=by
 have hc:(armM l).links.length=cntM l:=ZaI l _
 have e1:hasE (armM l) ((nowR l m k n x).length:Int)=0:=Zaa.2 ⟨ZeB l,by rw [ZjY,hc]⟩
 have e2:hasE (armM l) ((mvQ l m k).length:Int)=0:=Zaa.2 ⟨ZeB l,by rw [ZnD,hc]⟩
 obtain⟨⟨ho1,ho2⟩,ho3⟩:=Zqd e1 (ZuF l m k hn h0 h1) s (List.mem_of_getElem? hs)
 obtain⟨a1,a2⟩:=Zuz e1 hs
 obtain⟨b1,b2⟩:=Zum e2 hb
 have h3:=(Za1.1 ho2).2.1
 refine⟨⟨ω,ho1⟩,b2,ho3,fun p hp=> ?_,fun p hp=> ?_⟩
 ·rw [a2] at hp
  obtain⟨q,_,rfl⟩:=List.mem_map.1 (show p∈List.map (fun p:Rat×Rat=>(cn p.1,cn p.2)) _ from hp)
  show cn _=cn (cn _).q∧cn _=cn (cn _).q
  rw [cn_q,cn_q];exact⟨rfl,rfl⟩
 rw [b1]
 exact ZtM (Zqj l m k hn.1 h0 h1) (hc ▸ a1) (a2 ▸ hp)
theorem ZvE (l m:List Int):List.map rdc (cfF l m (cntM l))=List.map rd (cfR l m):=by unfold cfR;rw [List.map_map];rfl
theorem Zfk (l m:List Int):(cfR l m).length≤1048576∧∀ x,x∈cfR l m→x.z≤1048576:=by
 have hc:=Zbu l
 exact⟨by rw [ZaC];omega,fun x hx=>by have:=Zo5 l m x hx;omega⟩
theorem wy_z (l m k:List Int): [cfR l m,cfR l k].length≤1048576∧∀ q,q∈ [cfR l m,cfR l k]→q.length≤1048576∧∀ x,x∈q→x.z≤1048576:=by
 refine⟨by show 2≤_;decide,fun q hq=> ?_⟩
 rcases List.mem_cons.1 hq with rfl|hq
 ·exact Zfk l m
 ·obtain rfl:=List.mem_singleton.1 hq
  exact Zfk l k
open Go.RowKit num mem seg q held ratA ratB ratC ratD ratE vars ratF prf natC natD natI sub32 trq
section
variable {K : AV → Prop}
theorem ZmY (b:B4) (v:RV×RV) (hb:b.holds (v.1.q,v.2.q)) (hz:b.z 400) (hv:v.1.z≤215000000∧v.2.z≤215000000):Spec Tryz.prog Tab 13 [box (cn b.xl) (cn b.yl) (cn b.xh) (cn b.yh),pair v.1 v.2] (bool true):=by
 obtain⟨hin1,hin2⟩:=hb
 obtain⟨⟨z1,z2⟩,z3,z4⟩:=hz
 obtain⟨v1,v2⟩:=hv
 have hle1:=Rat.le_trans hin1.1 hin1.2
 have hle2:=Rat.le_trans hin2.1 hin2.2
 refine Za Tryz.func13 rfl rfl Tryz.ntmps13 rfl ωr rfl rfl ?_
 refine Zhg (x:=cn b.xl) (y:=cn b.xh) (z:=v.1) ωn ωn ω fun b14 hb14=> ?_
 rw [Z0 hle1,Z1 hle1,Zas.2 hin1] at hb14
 subst hb14
 refine Zhg (x:=cn b.yl) (y:=cn b.yh) (z:=v.2) ωn ωn ω fun b25 hb25=> ?_
 rw [Z0 hle2,Z1 hle2,Zas.2 hin2] at hb25
 subst hb25
 refine Eq.trans (b:=bool true) ?_ rfl
 rfl
end
open Go.RowKit num mem seg q held ratA ratB ratC ratD ratE vars ratF prf natC natD natI sub32 trq argopen
section
variable {K : AV → Prop}
theorem Zfw (l:List Int) (hl:∀ x,x∈l→-9223372036854775808≤x∧x≤9223372036854775807) (m:List Int) (hm:∀ x,x∈m→-9223372036854775808≤x∧x≤9223372036854775807) (k:List Int) (hk:∀ x,x∈k→-9223372036854775808≤x∧x≤9223372036854775807) (x:Int) (hx:-9223372036854775808≤x∧x≤9223372036854775807):Spec Tryz.prog Tab 3 [.val (.one (.d (.list (List.map stD l)))),.val (.one (.d (.list (List.map stD m)))),.val (.one (.d (.list (List.map stD k)))),int x] (bool true):=by
 have hcm:=Zbu l
 have htk:=Zro l m k
 have hx0:0≤x % (tkM l m k+1):=Int.emod_nonneg x ω
 have hx1:x % (tkM l m k+1)< tkM l m k+1:=Int.emod_lt_of_pos x ω
 have hcl:(armM l).links.length=cntM l:=ZaI l _
 have he1:hasE (armM l) ((nowR l m k (tkM l m k) (x % (tkM l m k+1))).length:Int)=0:=Zaa.2 ⟨ZeB l,by rw [ZjY,hcl]⟩
 have he2:hasE (armM l) ((mvQ l m k).length:Int)=0:=Zaa.2 ⟨ZeB l,by rw [ZnD,hcl]⟩
 have hpl:(plcV (armM l) (nowR l m k (tkM l m k) (x % (tkM l m k+1)))).length=cntM l:=by rw [ZfR he1,List.length_map,ZfS,hcl]
 have hsl:(shbV (armM l) (mvQ l m k)).length=cntM l:=by rw [ZfE he2,ZjD,hcl]
 have hLp:(List.map rdvs (plcV (armM l) (nowR l m k (tkM l m k) (x % (tkM l m k+1))))).length=cntM l:=by rw [List.length_map,hpl]
 have hLb:(List.map rdB4 (shbV (armM l) (mvQ l m k))).length=cntM l:=by rw [List.length_map,hsl]
 have hLt:(List.map keyD (trM l m k (tkM l m k))).length=2:=rfl
 refine Za Tryz.func3 rfl rfl Tryz.ntmps3 rfl ωr rfl rfl ?_
 refine use Zih rfl ?_
 refine⟨fun e=>absurd e Bool.false_ne_true,fun _=> ?_⟩
 refine use (Zrg l hl) rfl ?_
 have hco34:=ZhO l hl m hm
 rw [ZvE] at hco34
 refine use hco34 rfl ?_
 have hco37:=ZhO l hl k hk
 rw [ZvE] at hco37
 refine use hco37 rfl ?_
 refine⟨ωr,?_⟩
 have hpn:=ZhN (armM l) [cfR l m,cfR l k] 0 (Zi7 l) (wy_z l m k) ωd
 rw [(plan2 l m k).1,(plan2 l m k).2] at hpn
 refine use hpn rfl ?_
 have hsp:=ZlX (cfR l m) (cfR l k) 1 ωd ωd (fun x hx=>by have:=(Zfk l m).2 x hx;omega) (fun x hx=>by have:=(Zfk l k).2 x hx;omega) (by have:=(Zfk l m).1;omega) (by have:=(Zfk l k).1;omega)
 rw [if_neg (Zqm l m k),← Zsy,show (partsL (cfR l m) (cfR l k) 1).map cvl= [mvQ l m k] from rfl] at hsp
 refine use hsp rfl ?_
 refine⟨fun e=>absurd e Bool.false_ne_true,fun _=> ?_⟩
 refine k_ix 1 [D.v (.int .i64 (tkM l m k)),D.list (List.map rd (cfR l k))] ωf rfl rfl ?_
 have hbw:=Zfr x (tkM l m k+1) hx ω
 rw [show int (tkM l m k+1)=int (IntKind.i64.wrap ((tkM l m k)+1)) from by rw [wrap64 _ ω ω]] at hbw
 refine use hbw rfl ?_
 have htt:=Zrc (trM l m k (tkM l m k)) (x % (tkM l m k+1)) (ZvS l m k ω) ω
 rw [ZuG l m k ω hx0 ω] at htt
 refine use htt rfl ?_
 refine k_ix 0 [D.list (List.map rdv (mvQ l m k))] ωf rfl rfl ?_
 have hsb:=ZgM (armM l) (mvQ l m k) (Zi7 l) (fun p hp=>by have:=mv_z l m k p hp;omega)
 rw [he2] at hsb
 refine use hsb rfl ?_
 refine⟨ωr,?_⟩
 have hpc:=ZlZ (armM l) (nowR l m k (tkM l m k) (x % (tkM l m k+1))) (Zi7 l) (ZuF l m k ω hx0 ω)
 rw [he1] at hpc
 refine use hpc rfl ?_
 refine⟨fun e1=> ?_,fun e1=> ?_⟩
 ·have f103:((List.map rdB4 (shbV (armM l) (mvQ l m k))).length:Int)≠((List.map rdvs (plcV (armM l) (nowR l m k (tkM l m k) (x % (tkM l m k+1))))).length:Int):=ZaD e1
  exfalso
  omega
 ·have f103:¬ (((List.map rdB4 (shbV (armM l) (mvQ l m k))).length:Int)≠((List.map rdvs (plcV (armM l) (nowR l m k (tkM l m k) (x % (tkM l m k+1))))).length:Int)):=fun hh=>hh (ZaE e1)
  refine⟨Nat,fun i=> [(17,.val (.one (.d (.list (List.map rdB4 (shbV (armM l) (mvQ l m k))))))),(104,.val (.one (.d (.list (List.map rdvs (plcV (armM l) (nowR l m k (tkM l m k) (x % (tkM l m k+1))))))))),(105,int ((List.map rdvs (plcV (armM l) (nowR l m k (tkM l m k) (x % (tkM l m k+1))))).length:Int)),(106,int (i:Int))],
   fun i=> [],fun i=>i≤cntM l,fun i=>cntM l - i,0,?_,Nat.zero_le _,fun i hs=> ?_⟩
  ·exact ωe
  refine⟨fun e2=> ?_,fun e2=> ?_⟩
  ·have f107:(i:Int)< ((List.map rdvs (plcV (armM l) (nowR l m k (tkM l m k) (x % (tkM l m k+1))))).length:Int):=of_decide_eq_true e2
   refine get_ex (l:=(plcV (armM l) (nowR l m k (tkM l m k) (x % (tkM l m k+1))))) (i:=i) ωm fun x109 hx109=> ?_
   refine get_ex (l:=shbV (armM l) (mvQ l m k)) (i:=i) ω fun x129 hx129=> ?_
   have htl:=Zpv l m k ω hx0 ω hx109 hx129
   obtain⟨⟨hs3,hs8⟩,hbz,hsz,hcn,hin⟩:=htl
   have hLs:(List.map rdv x109).length=x109.length:=List.length_map ..
   have hbz2:=hbz
   obtain⟨⟨bz1,bz2⟩,bz3,bz4⟩:=hbz2
   refine k_ix i [D.list (List.map rdv x109)] ωf (Ze hx109) rfl ?_
   refine⟨fun e3=> ?_,fun e3=> ?_⟩
   ·have f113:((List.map rdv x109).length:Int)=0:=ZJ e3
    exfalso
    omega
   ·have f113:¬ (((List.map rdv x109).length:Int)=0):=ZK e3
    refine get_ex (l:=x109) (i:=0) ωm fun x115 hx115=> ?_
    have hcv:=hcn _ (List.mem_of_getElem? hx115)
    refine k_ix 0 [D.v (.bool x115.1.s),D.v (.string x115.1.a),D.v (.string x115.1.d),D.v (.bool x115.2.s),D.v (.string x115.2.a),D.v (.string x115.2.d)] ωf (Ze hx115) rfl ?_
    refine k_ix 0 [D.v (.bool x115.1.s),D.v (.string x115.1.a),D.v (.string x115.1.d),D.v (.bool x115.2.s),D.v (.string x115.2.a),D.v (.string x115.2.d)] ωf (Ze hx115) rfl ?_
    refine⟨ωr,?_⟩
    refine⟨Nat,fun j=> [(17,.val (.one (.d (.list (List.map rdB4 (shbV (armM l) (mvQ l m k))))))),(19,int (i:Int)),(21,.val (.one (.ptr 21 0))),(104,.val (.one (.d (.list (List.map rdvs (plcV (armM l) (nowR l m k (tkM l m k) (x % (tkM l m k+1))))))))),(105,int ((List.map rdvs (plcV (armM l) (nowR l m k (tkM l m k) (x % (tkM l m k+1))))).length:Int)),(106,int (i:Int)),(121,.val (.one (.d (.list (List.map rdv x109))))),(122,int ((List.map rdv x109).length:Int)),(123,int (j:Int))],
     fun j=> [(21,.var 60 [.d (.v (.bool (cn (bdA x115 x109 j)).s)),.d (.v (.string (cn (bdA x115 x109 j)).a)),.d (.v (.string (cn (bdA x115 x109 j)).d)),.d (.v (.bool (cn (bdB x115 x109 j)).s)),.d (.v (.string (cn (bdB x115 x109 j)).a)),.d (.v (.string (cn (bdB x115 x109 j)).d)),.d (.v (.bool (cn (bdC x115 x109 j)).s)),.d (.v (.string (cn (bdC x115 x109 j)).a)),.d (.v (.string (cn (bdC x115 x109 j)).d)),.d (.v (.bool (cn (bdD x115 x109 j)).s)),.d (.v (.string (cn (bdD x115 x109 j)).a)),.d (.v (.string (cn (bdD x115 x109 j)).d))])],fun j=>j≤x109.length,fun j=>x109.length - j,0,?_,Nat.zero_le _,fun j hs=> ?_⟩
    ·constructor<;>(repeat' (first|exact rfl|exact True.intro|exact⟨_,_,rfl⟩|exact ωd|apply And.intro))
     all_goals first
      |exact congrArg (fun v:RV=>D.v (.bool v.s)) hcv.1.symm
      |exact congrArg (fun v:RV=>D.v (.string v.a)) hcv.1.symm
      |exact congrArg (fun v:RV=>D.v (.string v.d)) hcv.1.symm
      |exact congrArg (fun v:RV=>D.v (.bool v.s)) hcv.2.symm
      |exact congrArg (fun v:RV=>D.v (.string v.a)) hcv.2.symm
      |exact congrArg (fun v:RV=>D.v (.string v.d)) hcv.2.symm
      |(simp;done)
    have hbd:=Zvs (j:=j) (hin _ (List.mem_of_getElem? hx115)) hin
    have hez:=Zv9 (j:=j) (hsz _ (List.mem_of_getElem? hx115)) hsz
    obtain⟨⟨ez1,ez2⟩,ez3,ez4⟩:=hez
    refine⟨fun e4=> ?_,fun e4=> ?_⟩
    ·have f124:(j:Int)< ((List.map rdv x109).length:Int):=of_decide_eq_true e4
     refine get_ex (l:=x109) (i:=j) ωm fun x125 hx125=> ?_
     have hxs:=Zwa (v:=x115) hx125
     have hzv:=hsz _ (List.mem_of_getElem? hx125)
     refine k_ix j [D.v (.bool x125.1.s),D.v (.string x125.1.a),D.v (.string x125.1.d),D.v (.bool x125.2.s),D.v (.string x125.2.a),D.v (.string x125.2.d)] ωf (Ze hx125) rfl ?_
     refine k_ix i [D.v (.bool (cn x129.xl).s),D.v (.string (cn x129.xl).a),D.v (.string (cn x129.xl).d),D.v (.bool (cn x129.yl).s),D.v (.string (cn x129.yl).a),D.v (.string (cn x129.yl).d),D.v (.bool (cn x129.xh).s),D.v (.string (cn x129.xh).a),D.v (.string (cn x129.xh).d),D.v (.bool (cn x129.yh).s),D.v (.string (cn x129.yh).a),D.v (.string (cn x129.yh).d)] ωf (Ze hx129) rfl ?_
     refine use (ZmY x129 x125 (hin _ (List.mem_of_getElem? hx125)) hbz (hsz _ (List.mem_of_getElem? hx125))) rfl ?_
     refine⟨ωr,?_⟩
     refine⟨fun e=>absurd e Bool.false_ne_true,fun _=> ?_⟩
     refine ZiO (x:=cn (bdA x115 x109 j)) (y:=x125.1) ωn ω fun q139 h139 z139=> ?_
     rw [cn_q,← hxs.1.1] at h139
     subst h139
     refine ZiO (x:=cn (bdB x115 x109 j)) (y:=x125.2) ωn ω fun q145 h145 z145=> ?_
     rw [cn_q,← hxs.2.1] at h145
     subst h145
     refine⟨ωr,?_⟩
     refine ZiP (x:=cn (bdC x115 x109 j)) (y:=x125.1) ωn ω fun q153 h153 z153=> ?_
     rw [cn_q,← hxs.1.2] at h153
     subst h153
     refine ZiP (x:=cn (bdD x115 x109 j)) (y:=x125.2) ωn ω fun q159 h159 z159=> ?_
     rw [cn_q,← hxs.2.2] at h159
     subst h159
     refine⟨ωr,?_⟩
     refine⟨j+1,ω,by simp only;omega,?_⟩
     constructor<;>(repeat' (first|(set_option maxHeartbeats 20000 in exact rfl)|exact True.intro|apply And.intro))
     all_goals first
      |exact ωb
      |exact ωa
    ·have f124:¬ ((j:Int)< ((List.map rdv x109).length:Int)):=of_decide_eq_false e4
     refine use (Zko (cn (bdA x115 x109 j)) (cn (bdB x115 x109 j)) (cn (bdC x115 x109 j)) (cn (bdD x115 x109 j)) ωn ωn ωn ωn) rfl ?_
     refine k_ix i [D.v (.bool (cn x129.xl).s),D.v (.string (cn x129.xl).a),D.v (.string (cn x129.xl).d),D.v (.bool (cn x129.yl).s),D.v (.string (cn x129.yl).a),D.v (.string (cn x129.yl).d),D.v (.bool (cn x129.xh).s),D.v (.string (cn x129.xh).a),D.v (.string (cn x129.xh).d),D.v (.bool (cn x129.yh).s),D.v (.string (cn x129.yh).a),D.v (.string (cn x129.yh).d)] ωf (Ze hx129) rfl ?_
     have hgb:=Zko (cn x129.xl) (cn x129.yl) (cn x129.xh) (cn x129.yh) ωn ωn ωn ωn
     by_cases hgf:(gridR (cn x129.xl) (cn x129.yl) (cn x129.xh) (cn x129.yh)).2=0
     ·have hsub:=Zon (x2:=cn (bdA x115 x109 j)) (y2:=cn (bdB x115 x109 j)) (z2:=cn (bdC x115 x109 j)) (t2:=cn (bdD x115 x109 j)) hgf (by rw [cn_q,cn_q];exact hbd.1.1) (by rw [cn_q,cn_q];exact hbd.1.2.1) (by rw [cn_q,cn_q];exact hbd.2.1) (by rw [cn_q,cn_q];exact hbd.2.2.1) (by rw [cn_q,cn_q];exact hbd.1.2.2) (by rw [cn_q,cn_q];exact hbd.2.2.2)
      rw [hgf] at hgb
      refine use hgb rfl ?_
      refine fork (fun e5=> ?_) (fun e5=> ?_)
      ·have f181:(gridR (cn (bdA x115 x109 j)) (cn (bdB x115 x109 j)) (cn (bdC x115 x109 j)) (cn (bdD x115 x109 j))).2≠0:=ZaD e5
       exfalso
       exact f181 hsub.1
      ·have f181:¬ ((gridR (cn (bdA x115 x109 j)) (cn (bdB x115 x109 j)) (cn (bdC x115 x109 j)) (cn (bdD x115 x109 j))).2≠0):=fun hh=>hh (ZaE e5)
       have hgw:=withinZ (a:=(gridR (cn (bdA x115 x109 j)) (cn (bdB x115 x109 j)) (cn (bdC x115 x109 j)) (cn (bdD x115 x109 j))).1) (b:=(gridR (cn x129.xl) (cn x129.yl) (cn x129.xh) (cn x129.yh)).1) hsub.2.2.1.1 ω ω
       rw [decide_eq_false (fun ⟨c,c1,c2⟩=>c2 (hsub.2.2.2 c c1))] at hgw
       refine use hgw rfl ?_
       refine⟨fun e=>absurd e Bool.false_ne_true,fun _=> ?_⟩
       refine⟨i+1,ω,by simp only;omega,?_⟩
       constructor<;>(repeat' (first|(set_option maxHeartbeats 20000 in exact rfl)|exact True.intro|apply And.intro))
       all_goals first
        |exact ωb
        |exact ωa
     ·refine use hgb rfl ?_
      refine fork (fun e6=> ?_) (fun e6=> ?_)
      ·have f178:(gridR (cn x129.xl) (cn x129.yl) (cn x129.xh) (cn x129.yh)).2=0:=ZJ e6
       exfalso
       exact hgf f178
      ·have f178:¬ ((gridR (cn x129.xl) (cn x129.yl) (cn x129.xh) (cn x129.yh)).2=0):=ZK e6
       refine⟨fun e=>absurd e Bool.false_ne_true,fun _=> ?_⟩
       refine⟨i+1,ω,by simp only;omega,?_⟩
       constructor<;>(repeat' (first|(set_option maxHeartbeats 20000 in exact rfl)|exact True.intro|apply And.intro))
       all_goals first
        |exact ωb
        |exact ωa
  ·have f107:¬ ((i:Int)< ((List.map rdvs (plcV (armM l) (nowR l m k (tkM l m k) (x % (tkM l m k+1))))).length:Int)):=of_decide_eq_false e2
   refine Eq.trans (b:=bool true) ?_ rfl
   rfl
end
section
variable {K : AV → Prop}
theorem topBoxes_walk (v0:Value) (l:List Int) (v1:Value) (m:List Int) (v2:Value) (k:List Int) (x:Int) (N:Nat) (w:World) (_:1≤N) (_:N≤1048576)
  (h0:Den w (fun b=>b< w.heap.size) v0 (.list (l.map intD))) (l0:argopen.intsZ l N)
  (h1:Den w (fun b=>b< w.heap.size) v1 (.list (m.map intD))) (l1:argopen.intsZ m N)
  (h2:Den w (fun b=>b< w.heap.size) v2 (.list (k.map intD))) (l2:argopen.intsZ k N) (hx:-9223372036854775808≤x∧x≤9223372036854775807) (hT:Tab w):
  Calls Tryz.prog 3 #[v0,v1,v2,.int .i64 x] w fun e w'=>e= .returned (.bool true)∧Below w.heap.size w w':=
 ZeK (I:=fun b=>b< w.heap.size) (Zfw l l0.2 m l1.2 k l2.2 x hx) rfl hT (fun _ h=>h)
  ((((Zim (vs:= [int x]) rfl).cons (show DenAV _ _ _ _ v2 (.val (.one (.d (.list _)))) from h2)).cons (show DenAV _ _ _ _ v1 (.val (.one (.d (.list _)))) from h1)).cons (show DenAV _ _ _ _ v0 (.val (.one (.d (.list _)))) from h0))
end
