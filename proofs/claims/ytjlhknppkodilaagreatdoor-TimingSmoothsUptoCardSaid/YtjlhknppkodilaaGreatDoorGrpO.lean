/- Joined by wip/bundle.py: XEngN3j XEngN3k XEngH3 XEngH3b. -/
import Derived.Test.YtjlhknppkodilaaGreatDoorGrpN
import Derived.Test.YtjlhknppkodilaaGreatDoorGrpS
set_option maxRecDepth 100000
namespace Go.Proofs.YtjlhknppkodilaaGreatDoor.eng
open Go.RowKit num mem seg q held ratA ratB ratC ratD ratE vars ratF sub32
def q3 (q:Rat):AV:= .val (.agg [.d (.v (.bool (decide (q.num< 0)))),.d (.list (W (w32 q.num.natAbs))),.d (.list (W (w32 q.den)))])
theorem ZjL (n:Nat):wlen 4 n≤(enc n).size:=by unfold wlen;omega
theorem Zdm (q:Rat):wlen 4 q.num.natAbs≤qs q:=by have:=ZjL q.num.natAbs;unfold qs;omega
theorem Zdo (q:Rat):wlen 4 q.den≤qs q:=by have:=ZjL q.den;unfold qs;omega
theorem Zdn (a b:Nat):wlen 4 (a*b)≤wlen 4 a+wlen 4 b:=by
 refine(Zam (by omega)).2 ?_
 have ha:=lt_B a
 have hb:=lt_B b
 rw [show (256:Nat) ^ 4=4294967296 from rfl,Nat.pow_add]
 exact Nat.mul_lt_mul_of_lt_of_lt ha hb
theorem ZoS (a b:Nat):wlen 4 (a+b)≤max (wlen 4 a) (wlen 4 b)+1:=by
 refine(Zam (by omega)).2 ?_
 have ha:=lt_B a
 have hb:=lt_B b
 have h1:4294967296 ^ wlen 4 a≤4294967296 ^ max (wlen 4 a) (wlen 4 b):=Nat.pow_le_pow_right (by omega) (by omega)
 have h2:4294967296 ^ wlen 4 b≤4294967296 ^ max (wlen 4 a) (wlen 4 b):=Nat.pow_le_pow_right (by omega) (by omega)
 rw [show (256:Nat) ^ 4=4294967296 from rfl,Nat.pow_succ]
 omega
section
variable {K : AV → Prop} {a b n d : Nat} {s t : Bool}
theorem Zpg (hn:0< n) (hd:0< d):q3 (mkRat (sg s n) d)= .val (.agg [.d (.v (.bool s)),.d (.list (W (w32 (n / Nat.gcd n d)))),.d (.list (W (w32 (d / Nat.gcd n d))))]):=by
 obtain⟨h1,h2,h3⟩:=Zor (s:=s) hn hd
 unfold q3
 rw [← h1,← ZdR h2,← ZdR h3]
theorem Zok:q3 0= .val (.agg [.d (.v (.bool false)),.d (.list []),.d (.list [[D.v (.int .u32 1)]])]):=by
 unfold q3
 rw [show (0:Rat).num.natAbs=0 from rfl,show (0:Rat).den=1 from rfl,ZhM,ZbX]
 rfl
theorem ZfW (G:Nat) (h:0< G):(wlen 4 G≤1→(G / 4294967296 ^ 0 % 4294967296=G))∧(1< wlen 4 G→1< G):=by
 constructor
 ·intro h1
  have:=(Zam (s:=4) (n:=G) (k:=1) (by omega)).1 h1
  rw [Nat.pow_zero,Nat.div_one,Nat.mod_eq_of_lt (by simpa using this)]
 ·intro h1
  apply Nat.lt_of_not_le
  intro h2
  have:wlen 4 G≤1:=(Zam (by omega)).2 (by simp;omega)
  omega
theorem Zja (s:Bool) (n d:Nat) (hd:0< d) (hn:wlen 4 n≤8589934592) (hdl:wlen 4 d≤8589934592):Spec Tryz.prog Tab 53 [bool s,n3 n,n3 d] (q3 (mkRat (sg s n) d)):=by
 have la:=Zaj n
 refine Zf Tryz.func53 rfl rfl Tryz.ntmps53 rfl (by kernel_rfl) rfl rfl ?_
 refine⟨fun e=> ?_,fun e=> ?_⟩
 ·have h0:n=0:=by
   have:((((W (w32 n)).length:Nat):Int)==0)=true:=e
   rw [la] at this;simp at this
   exact(ZS n).1 (by omega)
  subst h0
  refine Eq.trans (b:= .val (.agg [.d (.v (.bool false)),.d (.list []),.d (.list [[D.v (.int .u32 1)]])])) ?_ rfl
  rw [← Zok]
  have:sg s 0=0:=by cases s<;>rfl
  rw [this,Rat.zero_mkRat]
 ·have h0:0< n:=by
   apply Nat.pos_of_ne_zero
   intro h
   have:((((W (w32 n)).length:Nat):Int)==0)=false:=e
   rw [la,(ZS n).2 h] at this;simp at this
  have hG:0< Nat.gcd n d:=Nat.gcd_pos_of_pos_left _ h0
  have hGl:wlen 4 (Nat.gcd n d)≤8589934592:=Zac (Nat.gcd_le_left _ h0) hn
  have lg:=Zaj (Nat.gcd n d)
  have hGp:0< wlen 4 (Nat.gcd n d):=(top_pos hG).1
  obtain⟨o1,o2⟩:=ZfW _ hG
  have big:1< Nat.gcd n d→q3 (mkRat (sg s n) d)= .val (.agg [.d (.v (.bool s)),.d (.list (W (w32 (n / Nat.gcd n d)))),.d (.list (W (w32 (d / Nat.gcd n d))))]):=fun _=>Zpg h0 hd
  have small:Nat.gcd n d=1→q3 (mkRat (sg s n) d)= .val (.agg [.d (.v (.bool s)),.d (.list (W (w32 n))),.d (.list (W (w32 d)))]):=fun h=>by rw [Zpg h0 hd,h,Nat.div_one,Nat.div_one]
  refine Zfc hn hdl ?_
  refine fork (fun e1=> ?_) (fun e1=> ?_)
  ·have h1:1< Nat.gcd n d:=o2 (by have:=of_decide_eq_true e1;rw [lg] at this;omega)
   refine⟨fun _=> ?_,fun e=>by simp at e⟩
   refine ZdI hG hn hGl ?_
   refine ZdI hG hdl hGl ?_
   exact big h1
  ·have hl1:wlen 4 (Nat.gcd n d)≤1:=by have:=of_decide_eq_false e1;rw [lg] at this;omega
   refine k_at [D.v (.int .u32 ((Nat.gcd n d / 4294967296 ^ 0 % 4294967296:Nat):Int))] (by decide) (W_at (Z6 (n:=Nat.gcd n d) (i:=0) (by omega))) rfl ?_
   refine⟨fun e2=> ?_,fun e2=> ?_⟩
   ·have h1:1< Nat.gcd n d:=by have:=of_decide_eq_true e2;rw [o1 hl1] at this;omega
    refine ZdI hG hn hGl ?_
    refine ZdI hG hdl hGl ?_
    exact big h1
   ·have h1:Nat.gcd n d=1:=by have:=of_decide_eq_false e2;rw [o1 hl1] at this;omega
    exact small h1
theorem Zb6 (n d:Nat) {vd:List (List D)} (hv:vd=W (w32 d)) (hd:0< d) (hn:wlen 4 n≤8589934592) (hdl:wlen 4 d≤8589934592) (k:K (q3 (mkRat (sg s n) d))):Ask 53 [bool s,n3 n,.val (.one (.d (.list vd)))] K:=by
 subst hv;exact use (Zja s n d hd hn hdl) rfl k
theorem ZoQ (x:Int) (h1:-9223372036854775808≤x) (h2:x≤9223372036854775807):Spec Tryz.prog Tab 49 [int x] (q3 ((x:Int):Rat)):=by
 have fin:∀ s:Bool,s=decide (x< 0)→q3 (mkRat (sg s x.natAbs) 1)=q3 ((x:Int):Rat):=by
  intro s hs
  subst hs
  have:=ZbQ ((x:Int):Rat)
  rw [Rat.num_intCast] at this
  rw [this,ZkN]
 have hlv:∀ m:Nat,m< 18446744073709551616→lv 4294967296 [m % 4294967296,m / 4294967296 % 4294967296]=m:=by
  intro m hm;simp only [lv,List.foldr];omega
 have hone:wlen 4 1≤8589934592:=by rw [← Zk,ZbX];decide
 have hwl:wlen 4 x.natAbs≤8589934592:=Nat.le_trans (ZjL _) (Nat.le_trans (Zl.2 (show x.natAbs< 256 ^ 8 by omega)) (by omega))
 refine Zf Tryz.func49 rfl rfl Tryz.ntmps49 rfl (by kernel_rfl) rfl rfl ?_
 refine Zeq Zpa Zn4 (IntKind.u64.wrap x) rfl ?_
 refine⟨fun e=> ?_,fun e=> ?_⟩
 ·have hx:x< 0:=of_decide_eq_true e
  have hraw:IntKind.u64.wrap (0 - IntKind.u64.wrap x)=((x.natAbs:Nat):Int):=by
   unfold IntKind.wrap;simp [IntKind.signed,IntKind.bits];omega
  refine Zcv x.natAbs hraw ?_
  refine Za1 x.natAbs hraw ?_
  refine Zcv (x.natAbs / 4294967296) rfl ?_
  refine Zc4 [x.natAbs % 4294967296,x.natAbs / 4294967296 % 4294967296] rfl (by intro z hz;simp only [List.mem_cons,List.mem_nil_iff,or_false] at hz;omega) (by simp) ?_
  rw [hlv _ (by omega)]
  refine Zb6 x.natAbs 1 (by rw [ZbX];rfl) Nat.one_pos hwl hone ?_
  exact(fin _ rfl).symm
 ·have hx:¬ x< 0:=of_decide_eq_false e
  have hraw:IntKind.u64.wrap x=((x.natAbs:Nat):Int):=by rw [wu64 (by omega) (by omega)];omega
  refine Zcv x.natAbs hraw ?_
  refine Za1 x.natAbs hraw ?_
  refine Zcv (x.natAbs / 4294967296) rfl ?_
  refine Zc4 [x.natAbs % 4294967296,x.natAbs / 4294967296 % 4294967296] rfl (by intro z hz;simp only [List.mem_cons,List.mem_nil_iff,or_false] at hz;omega) (by simp) ?_
  rw [hlv _ (by omega)]
  refine Zb6 x.natAbs 1 (by rw [ZbX];rfl) Nat.one_pos hwl hone ?_
  exact(fin _ rfl).symm
theorem k_N3 (x:Int) (h1:-9223372036854775808≤x) (h2:x≤9223372036854775807) (k:∀ q,q=((x:Int):Rat)→qs q≤8→K (q3 q)):Ask 49 [int x] K:=use (ZoQ x h1 h2) rfl (k _ rfl (Zh2 h1 h2))
end
end Go.Proofs.YtjlhknppkodilaaGreatDoor.eng
namespace Go.Proofs.YtjlhknppkodilaaGreatDoor.eng
open Go.RowKit num mem seg q held ratA ratB ratC ratD ratE vars ratF sub32
section
variable {K : AV → Prop} {p q : Rat} {x : RV}
theorem Znx (q:Rat) (hq:qs q≤8589934592):Spec Tryz.prog Tab 26 [q3 q] (rat (cn q)):=by
 have h1:=Zdm q
 have h2:=Zdo q
 refine Zf Tryz.func26 rfl rfl Tryz.ntmps26 rfl (by kernel_rfl) rfl rfl ?_
 refine ZnL (by omega) ?_
 refine ZnL (by omega) ?_
 refine⟨by kernel_rfl,?_⟩
 exact rfl
theorem Zoz (hq:qs q≤8589934592) (k:K (rat (cn q))):Ask 26 [q3 q] K:=use (Znx q hq) rfl k
theorem ZnE (q:Rat):q3 (-q)= .val (.agg [.d (.v (.bool (decide (0< q.num)))),.d (.list (W (w32 q.num.natAbs))),.d (.list (W (w32 q.den)))]):=by
 unfold q3
 rw [Rat.neg_num,Rat.neg_den,Int.natAbs_neg]
 have:decide (-q.num< 0)=decide (0< q.num):=by rw [decide_eq_decide];omega
 rw [this]
theorem Zmg (q:Rat):Spec Tryz.prog Tab 51 [q3 q] (q3 (-q)):=by
 have la:=Zaj q.num.natAbs
 refine Zf Tryz.func51 rfl rfl Tryz.ntmps51 rfl (by kernel_rfl) rfl rfl ?_
 refine fork (fun e=> ?_) (fun e=> ?_)
 ·refine Eq.trans (b:= .val (.agg [.d (.v (.bool (!decide (q.num< 0)))),.d (.list (W (w32 q.num.natAbs))),.d (.list (W (w32 q.den)))])) ?_ rfl
  rw [ZnE]
  have h:=of_decide_eq_true e
  rw [la] at h
  have:q.num≠0:=fun h0=>by rw [h0] at h;rw [show (0:Int).natAbs=0 from rfl,(ZS 0).2 rfl] at h;simp at h
  have:decide (0< q.num)= !decide (q.num< 0):=by
   by_cases h1:q.num< 0
   ·rw [decide_eq_true h1,decide_eq_false (by omega)];rfl
   ·rw [decide_eq_false h1,decide_eq_true (by omega)];rfl
  rw [this]
 ·refine Eq.trans (b:= .val (.agg [.d (.v (.bool false)),.d (.list (W (w32 q.num.natAbs))),.d (.list (W (w32 q.den)))])) ?_ rfl
  rw [ZnE]
  have h:=of_decide_eq_false e
  rw [la] at h
  have h0:q.num.natAbs=0:=(ZS _).1 (by omega)
  rw [decide_eq_false (show ¬ 0< q.num by omega)]
theorem ZpB (k:∀ r,r=-q→qs r=qs q→K (q3 r)):Ask 51 [q3 q] K:=use (Zmg q) rfl (k _ rfl (ZfR q))
theorem ZjB (q:Rat):Spec Tryz.prog Tab 24 [q3 q] (int (sgnQ q)):=by
 have la:=Zaj q.num.natAbs
 refine Zf Tryz.func24 rfl rfl Tryz.ntmps24 rfl (by kernel_rfl) rfl rfl ?_
 refine⟨fun e=> ?_,fun e=> ?_⟩
 ·have h0:q.num=0:=by
   have:((((W (w32 q.num.natAbs)).length:Nat):Int)==0)=true:=e
   rw [la] at this;simp at this
   have:=(ZS q.num.natAbs).1 (by omega)
   omega
  refine Eq.trans (b:=int 0) ?_ rfl
  rw [sgnQ,if_pos h0]
 ·have h0:q.num≠0:=by
   intro h
   have:((((W (w32 q.num.natAbs)).length:Nat):Int)==0)=false:=e
   rw [la,h,show (0:Int).natAbs=0 from rfl,(ZS 0).2 rfl] at this;simp at this
  refine⟨fun e2=> ?_,fun e2=> ?_⟩
  ·refine Eq.trans (b:=int (-1)) ?_ rfl
   rw [sgnQ,if_neg h0,if_pos (of_decide_eq_true e2)]
  ·refine Eq.trans (b:=int 1) ?_ rfl
   rw [sgnQ,if_neg h0,if_neg (of_decide_eq_false e2)]
theorem Zat (k:∀ n,n=sgnQ q→K (int n)):Ask 24 [q3 q] K:=use (ZjB q) rfl (k _ rfl)
set_option maxHeartbeats 1000000 in
theorem Zmk (p q:Rat) (hp:qs p≤1073741824) (hq:qs q≤1073741824):Spec Tryz.prog Tab 25 [q3 p,q3 q] (q3 (p+q)):=by
 have a1:=Zdm p
 have a2:=Zdo p
 have a3:=Zdm q
 have a4:=Zdo q
 have m1:=Zdn p.num.natAbs q.den
 have m2:=Zdn q.num.natAbs p.den
 have m3:=Zdn p.den q.den
 have dp:0< p.den*q.den:=Nat.mul_pos p.den_pos q.den_pos
 have hadd:=Zgz (ZbQ p) (rfl:p.den=p.den) (ZbQ q) (rfl:q.den=q.den)
 generalize hX:p.num.natAbs*q.den=X at hadd m1
 generalize hY:q.num.natAbs*p.den=Y at hadd m2
 generalize hD:p.den*q.den=D at hadd m3 dp
 have m4:=ZoS X Y
 refine Zf Tryz.func25 rfl rfl Tryz.ntmps25 rfl (by kernel_rfl) rfl rfl ?_
 refine Zb5 (by omega) (by omega) ?_
 refine Zb5 (by omega) (by omega) ?_
 refine⟨by kernel_rfl,?_⟩
 refine Zb5 (by omega) (by omega) ?_
 rw [hX,hY,hD]
 refine Zgg (fun e=> ?_) (fun e=> ?_)
 ·refine⟨fun _=> ?_,fun e=>by simp at e⟩
  refine Zll (by omega) (by omega) ?_
  refine Zb6 (s:=decide (p.num< 0)) (X+Y) D rfl dp (by omega) (by omega) ?_
  refine⟨by kernel_rfl,?_⟩
  refine Eq.trans (b:=q3 (mkRat (sg (decide (p.num< 0)) (X+Y)) D)) ?_ rfl
  rw [← hadd,← e]
  congr 2
  cases decide (p.num< 0)<;>simp [sg]<;>omega
 ·refine⟨fun e=>by simp at e,fun _=> ?_⟩
  refine Zli (by omega) (by omega) fun v hv=> ?_
  refine⟨fun e2=> ?_,fun e2=> ?_⟩
  ·have hge:Y≤X:=hv.1 (of_decide_eq_true e2)
   refine Zhg hge (by omega) ?_
   refine Zb6 (s:=decide (p.num< 0)) (X - Y) D rfl dp (Zac (Nat.sub_le X Y) (by omega)) (by omega) ?_
   refine⟨by kernel_rfl,?_⟩
   refine Eq.trans (b:=q3 (mkRat (sg (decide (p.num< 0)) (X - Y)) D)) ?_ rfl
   rw [← hadd]
   congr 2
   revert e
   cases decide (p.num< 0)<;>cases decide (q.num< 0)<;>intro e<;>simp [sg] at e ⊢<;>omega
  ·have hlt:X< Y:=by
    apply Nat.lt_of_not_le
    intro hc
    exact absurd (hv.2 hc) (of_decide_eq_false e2)
   refine Zhg (Nat.le_of_lt hlt) (by omega) ?_
   refine Zb6 (s:=decide (q.num< 0)) (Y - X) D rfl dp (Zac (Nat.sub_le Y X) (by omega)) (by omega) ?_
   refine⟨by kernel_rfl,?_⟩
   refine Eq.trans (b:=q3 (mkRat (sg (decide (q.num< 0)) (Y - X)) D)) ?_ rfl
   rw [← hadd]
   congr 2
   revert e
   cases decide (p.num< 0)<;>cases decide (q.num< 0)<;>intro e<;>simp [sg] at e ⊢<;>omega
theorem Zih (hp:qs p≤1073741824) (hq:qs q≤1073741824) (k:∀ r,r=p+q→qs r≤qs p+qs q+1→K (q3 r)):Ask 25 [q3 p,q3 q] K:=use (Zmk p q hp hq) rfl (k _ rfl (Zek p q))
theorem Zmb (p q:Rat) (hp:qs p≤1073741824) (hq:qs q≤1073741824):Spec Tryz.prog Tab 22 [q3 p,q3 q] (q3 (p - q)):=by
 refine Zf Tryz.func22 rfl rfl Tryz.ntmps22 rfl (by kernel_rfl) rfl rfl ?_
 refine ZpB fun r h z=> ?_
 refine Zih hp (by omega) fun t h2 z2=> ?_
 refine⟨by kernel_rfl,?_⟩
 refine Eq.trans (b:=q3 t) ?_ rfl
 rw [h2,h,Rat.sub_eq_add_neg]
theorem ZdJ (hp:qs p≤1073741824) (hq:qs q≤1073741824) (k:∀ r,r=p - q→qs r≤qs p+qs q+1→K (q3 r)):Ask 22 [q3 p,q3 q] K:=use (Zmb p q hp hq) rfl (k _ rfl (Zcq p q))
theorem ZkW (a b:Bool):(!decide (a=b))=(a !=b):=by cases a<;>cases b<;>rfl
theorem Zmh (p q:Rat) (hp:qs p≤1073741824) (hq:qs q≤1073741824):Spec Tryz.prog Tab 46 [q3 p,q3 q] (q3 (p*q)):=by
 have a1:=Zdm p
 have a2:=Zdo p
 have a3:=Zdm q
 have a4:=Zdo q
 have m1:=Zdn p.num.natAbs q.num.natAbs
 have m3:=Zdn p.den q.den
 have dp:0< p.den*q.den:=Nat.mul_pos p.den_pos q.den_pos
 refine Zf Tryz.func46 rfl rfl Tryz.ntmps46 rfl (by kernel_rfl) rfl rfl ?_
 refine Zep fun b hb=> ?_
 refine Zb5 (by omega) (by omega) ?_
 refine Zb5 (by omega) (by omega) ?_
 refine Zb6 (s:=b) (p.num.natAbs*q.num.natAbs) (p.den*q.den) rfl dp (by omega) (by omega) ?_
 refine⟨by kernel_rfl,?_⟩
 refine Eq.trans (b:=q3 (mkRat (sg b (p.num.natAbs*q.num.natAbs)) (p.den*q.den))) ?_ rfl
 rw [hb,ZkW,Zoe,ZbQ,ZbQ,← Rat.mkRat_mul_mkRat,Rat.mkRat_self,Rat.mkRat_self]
theorem Zer (hp:qs p≤1073741824) (hq:qs q≤1073741824) (k:∀ r,r=p*q→qs r≤qs p+qs q→K (q3 r)):Ask 46 [q3 p,q3 q] K:=use (Zmh p q hp hq) rfl (k _ rfl (Zbo p q))
theorem Zmi (p q:Rat) (hp:qs p≤1073741824) (hq:qs q≤1073741824) (h0:q≠0):Spec Tryz.prog Tab 47 [q3 p,q3 q] (q3 (p / q)):=by
 have a1:=Zdm p
 have a2:=Zdo p
 have a3:=Zdm q
 have a4:=Zdo q
 have m1:=Zdn p.num.natAbs q.den
 have m3:=Zdn p.den q.num.natAbs
 have hk:0< q.num.natAbs:=Int.natAbs_pos.2 (fun h=>h0 (Rat.num_eq_zero.1 h))
 have dp:0< p.den*q.num.natAbs:=Nat.mul_pos p.den_pos hk
 refine Zf Tryz.func47 rfl rfl Tryz.ntmps47 rfl (by kernel_rfl) rfl rfl ?_
 refine Zep fun b hb=> ?_
 refine Zb5 (by omega) (by omega) ?_
 refine Zb5 (by omega) (by omega) ?_
 refine Zb6 (s:=b) (p.num.natAbs*q.den) (p.den*q.num.natAbs) rfl dp (by omega) (by omega) ?_
 refine⟨by kernel_rfl,?_⟩
 refine Eq.trans (b:=q3 (mkRat (sg b (p.num.natAbs*q.den)) (p.den*q.num.natAbs))) ?_ rfl
 rw [hb,ZkW,Zgp (ZbQ p) rfl (ZbQ q) rfl hk p.den_pos]
theorem ZnR (hp:qs p≤1073741824) (hq:qs q≤1073741824) (h0:q≠0) (k:∀ r,r=p / q→qs r≤qs p+qs q+1→K (q3 r)):Ask 47 [q3 p,q3 q] K:=use (Zmi p q hp hq h0) rfl (k _ rfl (Zh3 p q))
theorem Zmj (p q:Rat) (hp:qs p≤1073741824) (hq:qs q≤1073741824):Spec Tryz.prog Tab 45 [q3 p,q3 q] (int (sgnQ (p - q))):=by
 refine Zf Tryz.func45 rfl rfl Tryz.ntmps45 rfl (by kernel_rfl) rfl rfl ?_
 refine ZdJ hp hq fun r h z=> ?_
 refine Zat fun n hn=> ?_
 refine Eq.trans (b:=int n) ?_ rfl
 rw [hn,h]
theorem Zes (hp:qs p≤1073741824) (hq:qs q≤1073741824) (k:∀ n,n=sgnQ (p - q)→K (int n)):Ask 45 [q3 p,q3 q] K:=use (Zmj p q hp hq) rfl (k _ rfl)
theorem Zkf {p q:Rat}:sgnQ (p - q)≤0↔p≤q:=by
 have h:=ZeS (p - q)
 constructor
 ·intro h1
  have:¬ 0< p - q:=fun h2=>by have:=h.2 h2;omega
  grind
 ·intro h1
  apply Int.not_lt.1
  intro h2
  have:=h.1 h2
  grind
theorem Zhe (p q:Rat) (hp:qs p≤1073741824) (hq:qs q≤1073741824):Spec Tryz.prog Tab 74 [q3 p,q3 q] (q3 (minQ p q)):=by
 refine Zf Tryz.func74 rfl rfl Tryz.ntmps74 rfl (by kernel_rfl) rfl rfl ?_
 refine Zes hp hq fun n hn=> ?_
 refine⟨fun e=> ?_,fun e=> ?_⟩
 ·refine Eq.trans (b:=q3 p) ?_ rfl
  have h:=of_decide_eq_true e
  rw [hn] at h
  rw [minQ,if_pos (Zkf.1 h)]
 ·refine Eq.trans (b:=q3 q) ?_ rfl
  have h:=of_decide_eq_false e
  rw [hn] at h
  rw [minQ,if_neg (fun h2=>h (Zkf.2 h2))]
theorem Zid (hp:qs p≤1073741824) (hq:qs q≤1073741824) (k:∀ r,r=minQ p q→qs r≤qs p+qs q→K (q3 r)):Ask 74 [q3 p,q3 q] K:=use (Zhe p q hp hq) rfl (k _ rfl (by unfold minQ;split<;>omega))
theorem Zfk (G:Nat) (hG:0< G):(wlen 4 G=1∧G / 4294967296 ^ 0 % 4294967296=1)↔G=1:=by
 constructor
 ·rintro⟨h1,h2⟩
  rw [(ZfW G hG).1 (by omega)] at h2;exact h2
 ·intro h
  subst h
  exact⟨by rw [← Zk,ZbX];rfl,by decide⟩
theorem Zfe {d:ByteArray} (h:0< d.size):d[(0:Int).toNat]? =some d[0]:=getElem?_pos d 0 h
theorem ZcV {b:UInt8}:(((b.toNat:Int) !=0)=true)↔b≠0:=by
 rw [bne_iff_ne]
 constructor
 ·intro h e;subst e;exact h rfl
 ·intro h e;exact h (UInt8.toNat_inj.1 (by simpa using e))
theorem Zcx {d:ByteArray} (h:0< d.size) (h0:d[0]≠0):enc (nv d)=d:=Ze8 d h (ZdM h h0)
theorem Zdd {d:ByteArray} (h:¬ d=⟨#[]⟩):0< d.size:=(ZdF h).2
set_option maxHeartbeats 4000000 in
theorem ZjF (x:RV) (hx:x.z≤8589934592):Spec Tryz.prog Tab 48 [rat x] (bool (decide x.good)):=by
 obtain⟨s,a,d⟩:=x
 obtain⟨za,zd⟩:=ZV hx
 simp only at za zd
 have tail:∀ (_:enc (nv a)=a) (_:enc (nv d)=d) (_:0< nv d) (_:nv a=0→s=false),(RV.good ⟨s,a,d⟩↔Nat.gcd (nv a) (nv d)=1):=fun ea ed hp hs=>⟨fun h=>h.2.2.2.2,fun h=>⟨ea,ed,hp,hs,h⟩⟩
 have bad:¬ RV.good ⟨s,a,d⟩→bool (decide (RV.good ⟨s,a,d⟩))=bool false:=fun h=>by rw [decide_eq_false h]
 have wla:wlen 4 (nv a)≤8589934592:=Nat.le_trans (ZjL _) (Nat.le_trans (ZL a) za)
 have wld:wlen 4 (nv d)≤8589934592:=Nat.le_trans (ZjL _) (Nat.le_trans (ZL d) zd)
 have sa:(enc (nv a)).size≤34359738368:=by have:=ZL a;omega
 have sd:(enc (nv d)).size≤34359738368:=by have:=ZL d;omega
 cases s
 ·refine Zf Tryz.func48 rfl rfl Tryz.ntmps48 rfl (by kernel_rfl) rfl rfl ?_
  refine Zas (fun (e1:d=⟨#[]⟩)=> ?_) (fun (e1:¬ d=⟨#[]⟩)=> ?_)
  ·refine⟨fun _=> ?_,fun e=>by simp at e⟩
   refine Eq.trans (b:=bool false) (bad fun h=> ?_) rfl
   have h1:0< nv d:=h.2.2.1
   rw [e1,Zbf] at h1;omega
  ·have hdp:=Zdd e1
   refine Zb7 d[0] (by decide) (Zfe hdp) ?_
   refine fork (fun e2=> ?_) (fun e2=> ?_)
   ·have hd0:=ZcV.1 e2
    have ed:=Zcx hdp hd0
    have hpd:=Zel hdp ed
    refine Zb8 (fun (e3:a=⟨#[]⟩)=> ?_) (fun (e3:¬ a=⟨#[]⟩)=> ?_)
    ·have ea:enc (nv a)=a:=by rw [e3,Zbf,ZX]
     refine⟨fun e=>by simp at e,fun _=> ?_⟩
     refine Za2 ea.symm sa ?_
     refine Za2 ed.symm sd ?_
     refine Zfc wla wld ?_
     refine⟨by kernel_rfl,?_⟩
     have hG:0< Nat.gcd (nv a) (nv d):=Nat.gcd_pos_of_pos_right _ hpd
     have lg:=Zaj (Nat.gcd (nv a) (nv d))
     have ht:=Zfk _ hG
     have hgood:=tail ea ed hpd (fun _=>rfl)
     refine fork (fun e5=> ?_) (fun e5=> ?_)
     ·have h1:wlen 4 (Nat.gcd (nv a) (nv d))=1:=by
       have:((((W (w32 (Nat.gcd (nv a) (nv d)))).length:Nat):Int)==1)=true:=e5
       rw [lg] at this;simp at this;omega
      refine k_at [D.v (.int .u32 ((Nat.gcd (nv a) (nv d) / 4294967296 ^ 0 % 4294967296:Nat):Int))] (by decide) (W_at (Z6 (n:=Nat.gcd (nv a) (nv d)) (i:=0) (by omega))) rfl ?_
      refine Eq.trans (b:=bool (((Nat.gcd (nv a) (nv d) / 4294967296 ^ 0 % 4294967296:Nat):Int)==1)) ?_ rfl
      congr 1
      rw [Bool.eq_iff_iff,decide_eq_true_eq,hgood,← ht,beq_iff_eq]
      omega
     ·refine Eq.trans (b:=bool false) ?_ rfl
      refine bad (fun h=> ?_)
      have h1:=(ht.2 (hgood.1 h)).1
      have:((((W (w32 (Nat.gcd (nv a) (nv d)))).length:Nat):Int)==1)=false:=e5
      rw [lg,h1] at this;simp at this
    ·refine Zas (fun (e4:a=⟨#[]⟩)=>absurd e4 e3) (fun _=> ?_)
     have hap:=Zdd e3
     refine Zb7 a[0] (by decide) (Zfe hap) ?_
     by_cases ha0:a[0]=0
     ·have h0:(((a[0]).toNat:Int) !=0)=false:=by rw [ha0];rfl
      refine⟨fun _=> ?_,fun e=>absurd (show (!(((a[0]).toNat:Int) !=0))=false from e) (by rw [h0];simp)⟩
      refine Eq.trans (b:=bool false) (bad fun h=>ZbJ hap ha0 h.1) rfl
     ·have h0:(((a[0]).toNat:Int) !=0)=true:=ZcV.2 ha0
      have ea:=Zcx hap ha0
      refine⟨fun e=>absurd (show (!(((a[0]).toNat:Int) !=0))=true from e) (by rw [h0];simp),fun _=> ?_⟩
      refine Za2 ea.symm sa ?_
      refine Za2 ed.symm sd ?_
      refine Zfc wla wld ?_
      refine⟨by kernel_rfl,?_⟩
      have hG:0< Nat.gcd (nv a) (nv d):=Nat.gcd_pos_of_pos_right _ hpd
      have lg:=Zaj (Nat.gcd (nv a) (nv d))
      have ht:=Zfk _ hG
      have hgood:=tail ea ed hpd (fun h=>absurd h (by have:=Zel hap ea;omega))
      refine fork (fun e5=> ?_) (fun e5=> ?_)
      ·have h1:wlen 4 (Nat.gcd (nv a) (nv d))=1:=by
        have:((((W (w32 (Nat.gcd (nv a) (nv d)))).length:Nat):Int)==1)=true:=e5
        rw [lg] at this;simp at this;omega
       refine k_at [D.v (.int .u32 ((Nat.gcd (nv a) (nv d) / 4294967296 ^ 0 % 4294967296:Nat):Int))] (by decide) (W_at (Z6 (n:=Nat.gcd (nv a) (nv d)) (i:=0) (by omega))) rfl ?_
       refine Eq.trans (b:=bool (((Nat.gcd (nv a) (nv d) / 4294967296 ^ 0 % 4294967296:Nat):Int)==1)) ?_ rfl
       congr 1
       rw [Bool.eq_iff_iff,decide_eq_true_eq,hgood,← ht,beq_iff_eq]
       omega
      ·refine Eq.trans (b:=bool false) ?_ rfl
       refine bad (fun h=> ?_)
       have h1:=(ht.2 (hgood.1 h)).1
       have:((((W (w32 (Nat.gcd (nv a) (nv d)))).length:Nat):Int)==1)=false:=e5
       rw [lg,h1] at this;simp at this
   ·refine⟨fun _=> ?_,fun e=>by simp at e⟩
    refine Eq.trans (b:=bool false) (bad fun h=> ?_) rfl
    have hd0:d[0]=0:=by
     apply Classical.byContradiction
     intro h0
     have:=ZcV.2 h0
     rw [this] at e2;simp at e2
    exact ZbJ hdp hd0 h.2.1
 ·refine Zf Tryz.func48 rfl rfl Tryz.ntmps48 rfl (by kernel_rfl) rfl rfl ?_
  refine Zas (fun (e1:d=⟨#[]⟩)=> ?_) (fun (e1:¬ d=⟨#[]⟩)=> ?_)
  ·refine⟨fun _=> ?_,fun e=>by simp at e⟩
   refine Eq.trans (b:=bool false) (bad fun h=> ?_) rfl
   have h1:0< nv d:=h.2.2.1
   rw [e1,Zbf] at h1;omega
  ·have hdp:=Zdd e1
   refine Zb7 d[0] (by decide) (Zfe hdp) ?_
   refine fork (fun e2=> ?_) (fun e2=> ?_)
   ·have hd0:=ZcV.1 e2
    have ed:=Zcx hdp hd0
    have hpd:=Zel hdp ed
    refine Zb8 (fun (e3:a=⟨#[]⟩)=> ?_) (fun (e3:¬ a=⟨#[]⟩)=> ?_)
    ·refine Zas (fun (e4:a=⟨#[]⟩)=> ?_) (fun (e4:¬ a=⟨#[]⟩)=> ?_)
     ·refine⟨fun _=> ?_,fun e=>by simp at e⟩
      refine Eq.trans (b:=bool false) (bad fun h=> ?_) rfl
      have:=h.2.2.2.1 (by rw [e3];exact Zbf)
      simp at this
     ·exact absurd e3 e4
    ·refine Zas (fun (e4:a=⟨#[]⟩)=>absurd e4 e3) (fun _=> ?_)
     have hap:=Zdd e3
     refine Zb7 a[0] (by decide) (Zfe hap) ?_
     by_cases ha0:a[0]=0
     ·have h0:(((a[0]).toNat:Int) !=0)=false:=by rw [ha0];rfl
      refine⟨fun _=> ?_,fun e=>absurd (show (!(((a[0]).toNat:Int) !=0))=false from e) (by rw [h0];simp)⟩
      refine Eq.trans (b:=bool false) (bad fun h=>ZbJ hap ha0 h.1) rfl
     ·have h0:(((a[0]).toNat:Int) !=0)=true:=ZcV.2 ha0
      have ea:=Zcx hap ha0
      refine⟨fun e=>absurd (show (!(((a[0]).toNat:Int) !=0))=true from e) (by rw [h0];simp),fun _=> ?_⟩
      refine Za2 ea.symm sa ?_
      refine Za2 ed.symm sd ?_
      refine Zfc wla wld ?_
      refine⟨by kernel_rfl,?_⟩
      have hG:0< Nat.gcd (nv a) (nv d):=Nat.gcd_pos_of_pos_right _ hpd
      have lg:=Zaj (Nat.gcd (nv a) (nv d))
      have ht:=Zfk _ hG
      have hgood:=tail ea ed hpd (fun h=>absurd h (by have:=Zel hap ea;omega))
      refine fork (fun e5=> ?_) (fun e5=> ?_)
      ·have h1:wlen 4 (Nat.gcd (nv a) (nv d))=1:=by
        have:((((W (w32 (Nat.gcd (nv a) (nv d)))).length:Nat):Int)==1)=true:=e5
        rw [lg] at this;simp at this;omega
       refine k_at [D.v (.int .u32 ((Nat.gcd (nv a) (nv d) / 4294967296 ^ 0 % 4294967296:Nat):Int))] (by decide) (W_at (Z6 (n:=Nat.gcd (nv a) (nv d)) (i:=0) (by omega))) rfl ?_
       refine Eq.trans (b:=bool (((Nat.gcd (nv a) (nv d) / 4294967296 ^ 0 % 4294967296:Nat):Int)==1)) ?_ rfl
       congr 1
       rw [Bool.eq_iff_iff,decide_eq_true_eq,hgood,← ht,beq_iff_eq]
       omega
      ·refine Eq.trans (b:=bool false) ?_ rfl
       refine bad (fun h=> ?_)
       have h1:=(ht.2 (hgood.1 h)).1
       have:((((W (w32 (Nat.gcd (nv a) (nv d)))).length:Nat):Int)==1)=false:=e5
       rw [lg,h1] at this;simp at this
   ·refine⟨fun _=> ?_,fun e=>by simp at e⟩
    refine Eq.trans (b:=bool false) (bad fun h=> ?_) rfl
    have hd0:d[0]=0:=by
     apply Classical.byContradiction
     intro h0
     have:=ZcV.2 h0
     rw [this] at e2;simp at e2
    exact ZbJ hdp hd0 h.2.1
theorem Zgh (hx:x.z≤8589934592) (k1:x.good→K (bool true)) (k0:¬ x.good→K (bool false)):Ask 48 [rat x] K:=by
 have h:=ZjF x hx
 by_cases hg:x.good
 ·rw [decide_eq_true hg] at h;exact use h rfl (k1 hg)
 ·rw [decide_eq_false hg] at h;exact use h rfl (k0 hg)
theorem ZjG (x:RV) (hx:x.z≤8589934592):Spec Tryz.prog Tab 21 [rat x] (q3 x.q):=by
 refine Zf Tryz.func21 rfl rfl Tryz.ntmps21 rfl (by kernel_rfl) rfl rfl ?_
 refine Zgh hx (fun hg=> ?_) (fun hg=> ?_)
 ·refine⟨fun e=>by simp at e,fun _=> ?_⟩
  have hc:=RV.good_cn hg
  have hz:=hx
  rw [hc] at hz
  obtain⟨z1,z2⟩:=ZV hz
  have ha:x.a=enc x.q.num.natAbs:=congrArg RV.a hc
  have hd:x.d=enc x.q.den:=congrArg RV.d hc
  have hs:x.s=decide (x.q.num< 0):=congrArg RV.s hc
  refine Za2 ha (Nat.le_trans z1 (by omega)) ?_
  refine Za2 hd (Nat.le_trans z2 (by omega)) ?_
  refine⟨by kernel_rfl,?_⟩
  refine Eq.trans (b:= .val (.agg [.d (.v (.bool x.s)),.d (.list (W (w32 x.q.num.natAbs))),.d (.list (W (w32 x.q.den)))])) ?_ rfl
  rw [hs];rfl
 ·refine⟨fun _=> ?_,fun e=>by simp at e⟩
  refine k_N3 0 (by omega) (by omega) fun r hr _=> ?_
  refine Eq.trans (b:=q3 r) ?_ rfl
  have:x.q=0:=by
   show qv x.s x.a x.d=0
   unfold qv
   exact if_neg hg
  rw [hr,this];rfl
theorem ZC (hx:x.z≤8589934592) (k:∀ r,r=x.q→qs r≤x.z+1→K (q3 r)):Ask 21 [rat x] K:=use (ZjG x hx) rfl (k _ rfl x.z1)
end
end Go.Proofs.YtjlhknppkodilaaGreatDoor.eng
namespace Go.Proofs.YtjlhknppkodilaaGreatDoor.eng
open Go.RowKit num mem seg q held ratA ratB ratC ratD ratE vars ratF natC natD natI sub32
def BL (l:List Int):List (List D):=l.map fun n=> [D.v (.int .u8 n)]
def RL (l:List Rat):List (List D):=l.map fun q=>rd (cn q)
section
variable {K : AV → Prop}
theorem Zny (l:List (List D)) (h:l.length≤1):Spec Tryz.prog Tab 87 [.val (.one (.d (.list l)))] (.tup []):=by
 refine Zf Tryz.func87 rfl rfl Tryz.ntmps87 rfl (by kernel_rfl) rfl rfl ?_
 refine⟨Unit,fun _=> [(2,int 0),(3,int (IntKind.i64.wrap ((l.length:Int) - 1)))],fun _=> [],fun _=>True,fun _=>0,(),?_,trivial,fun _ _=> ?_⟩
 ·constructor<;>(repeat' (first|exact rfl|exact True.intro|apply And.intro))
 refine⟨fun e=> ?_,fun _=> ?_⟩
 ·have h1:=of_decide_eq_true e
  rw [wrap64 _ (by omega) (by omega)] at h1
  omega
 ·exact rfl
theorem Zn9 (n:Nat) (h0:0< n) (h:n< 256):strOfNums [(n:Int)]=enc n:=by
 apply ZbW
 rw [strOfNums_data,ZaY,digs,if_neg (by omega),Nat.div_eq_of_lt h,ZZ,Nat.mod_eq_of_lt h]
 simp
theorem Zhp (n:Nat) (hn:n< 256):Spec Tryz.prog Tab 72 [int (n:Int)] (str (enc n)):=by
 refine Zf Tryz.func72 rfl rfl Tryz.ntmps72 rfl (by kernel_rfl) rfl rfl ?_
 refine⟨Bool,fun s=> [(0,int (bif s then 0 else (n:Int))),(3,.val (.one (.row 13 0)))],fun s=> [(13,.row 5 1 0 (BL (bif s then [(n:Int)] else [])) true)],fun s=>s=true→0< n,fun s=>bif s then 0 else 1,false,?_,fun h=>by simp at h,fun s hs=> ?_⟩
 ·constructor<;>(repeat' (first|exact rfl|exact True.intro|exact⟨_,_,rfl⟩|exact(by decide:0< 1)|apply And.intro))
 have stop:∀ l:List Int,l=(bif s then [(n:Int)] else [])→(bif s then 0 else (n:Int))≤0→strOfNums l=enc n∧l.length≤1:=by
  rintro l rfl h
  cases s with
  |true=>exact⟨Zn9 n (hs rfl) hn,Nat.le_refl 1⟩
  |false=>
   have h0:n=0:=by simp at h;omega
   subst h0
   exact⟨by rw [ZX];rfl,Nat.zero_le _⟩
 refine⟨fun e=> ?_,fun e=> ?_⟩
 ·have h1:=of_decide_eq_true e
  cases s with
  |true=>simp at h1
  |false=>
   have h2:0< n:=by simp at h1;omega
   refine Zc6 n 256 rfl rfl (by decide) ?_
   refine Zeq Zpa u_u8 (n:Int) (by unfold IntKind.wrap;simp [IntKind.signed,IntKind.bits];omega) ?_
   refine⟨⟨fun row hrow=>by rw [List.mem_singleton.1 hrow];rfl,(by decide:1*1≤140737488355328),(by decide:1≤140737488355328)⟩,?_⟩
   refine Zbp n 256 rfl rfl (by decide) (by omega) ?_
   refine⟨true,fun _=>h2,by simp,?_⟩
   constructor<;>(repeat' (first|exact rfl|exact True.intro|apply And.intro))
   all_goals exact congrArg (fun n:Nat=>D.v (.int .i64 (n:Int))) (show 0=n / 256 by omega)
 ·have h1:=of_decide_eq_false e
  obtain⟨h2,h3⟩:=stop _ rfl (by omega)
  refine use (Zny (BL (bif s then [(n:Int)] else [])) (by unfold BL;rw [List.length_map];exact h3)) rfl ?_
  refine⟨_,⟨5,(bif s then [(n:Int)] else []),rfl,ZjO,u_u8,ZoT,rfl⟩,?_⟩
  refine Eq.trans (b:=str (strOfNums (bif s then [(n:Int)] else []))) ?_ rfl
  rw [h2]
theorem ZbI {x:Int} (n:Nat) (hx:x=n) (hn:n< 256) (k:K (str (enc n))):Ask 72 [int x] K:=by
 subst hx;exact use (Zhp n hn) rfl k
theorem ZpO (n:Nat):cn (n:Rat)=⟨false,enc n,enc 1⟩:=by
 unfold cn
 rw [show ((n:Rat)).num=(n:Int) from Rat.num_natCast n,show ((n:Rat)).den=1 from Rat.den_natCast n,decide_eq_false (by omega)]
 rfl
theorem Zh9 (n:Nat) (hn:n< 256):Spec Tryz.prog Tab 40 [int (n:Int),int 1] (rat (cn (n:Rat))):=by
 refine Zf Tryz.func40 rfl rfl Tryz.ntmps40 rfl (by kernel_rfl) rfl rfl ?_
 have hmx:(if IntKind.i64.wrap (0 - (n:Int)) >(n:Int) then IntKind.i64.wrap (0 - (n:Int)) else (n:Int))=(n:Int):=by
  rw [wrap64 _ (by omega) (by omega)];split<;>omega
 refine⟨Bool,fun s=> [(0,int (n:Int)),(1,int 1),(4,.val (.one (.ptr 4 0))),(5,int (bif s then 1 else (n:Int))),(6,int (bif s then 0 else 1))],
  fun s=> [(4,.var 23 [.d (.v (.bool false)),.d (.v (.string ⟨#[]⟩)),.d (.v (.string ⟨#[]⟩))])],fun _=>True,fun s=>bif s then 0 else 1,false,?_,trivial,fun s _=> ?_⟩
 ·constructor<;>(repeat' (first|exact rfl|exact True.intro|apply And.intro))
  all_goals exact congrArg (fun n:Int=>D.v (.int .i64 n)) hmx.symm
 cases s with
 |false=>
  refine⟨fun _=> ?_,fun e=>by simp at e⟩
  refine Zc6 n 1 rfl rfl (by decide) ?_
  refine⟨by kernel_rfl,?_⟩
  refine⟨true,trivial,by simp,?_⟩
  constructor<;>(repeat' (first|exact rfl|exact True.intro|apply And.intro))
  all_goals exact congrArg (fun n:Nat=>D.v (.int .i64 (n:Int))) (show 0=n % 1 by omega)
 |true=>
  refine⟨fun e=>by simp at e,fun _=> ?_⟩
  refine Zbp n 1 rfl rfl (by decide) (by omega) ?_
  refine Zbp 1 1 rfl rfl (by decide) (by omega) ?_
  refine⟨by kernel_rfl,?_⟩
  refine ZbI n (by rw [Nat.div_one];exact hmx) hn ?_
  refine ZbI 1 rfl (by decide) ?_
  refine Eq.trans (b:=rat ⟨decide (((n / 1:Nat):Int)< 0),enc n,enc 1⟩) ?_ rfl
  rw [ZpO,decide_eq_false (by omega)]
theorem Zpt {m:Int} (n:Nat) (hm:m=n) (hn:n< 256) (k:K (rat (cn (n:Rat)))):Ask 18 [int m,int 1] K:=by
 subst hm
 refine use (r:=rat (cn (n:Rat))) ?_ rfl k
 refine Zf Tryz.func18 rfl rfl Tryz.ntmps18 rfl (by kernel_rfl) rfl rfl ?_
 refine use (Zh9 n hn) rfl ?_
 exact rfl
def natL (l:List Nat):List Rat:=l.map fun n:Nat=>(n:Rat)
def NL (l:List Nat):List (List D):=l.map fun n:Nat=> [D.v (.int .i64 (n:Int))]
theorem ZkR (l:List Nat) (hl:∀ n,n∈l→n< 256) (hn:l.length≤1024):Spec Tryz.prog Tab 6 [.val (.one (.d (.list (NL l))))] (rats (natL l)):=by
 have hlen:(NL l).length=l.length:=by simp [NL]
 refine Zf Tryz.func6 rfl rfl Tryz.ntmps6 rfl (by kernel_rfl) rfl rfl ?_
 refine⟨Nat,fun i=> [(3,.val (.one (.row 16 0))),(6,.val (.one (.d (.list (NL l))))),(7,int (((NL l).length:Nat):Int)),(8,int (i:Int))],
  fun i=> [(16,.row 23 3 0 (RL (natL (l.take i))) true)],fun i=>i≤l.length,fun i=>l.length - i,0,?_,Nat.zero_le _,fun i hi=> ?_⟩
 ·constructor<;>(repeat' (first|exact rfl|exact True.intro|exact⟨_,_,rfl⟩|exact(by decide:0< 3)|apply And.intro))
 refine⟨fun e=> ?_,fun e=> ?_⟩
 ·have hlt:i< l.length:=by have:=of_decide_eq_true e;omega
  obtain⟨a,ha⟩:∃ a,l[i]? =some a:=⟨_,List.getElem?_eq_getElem hlt⟩
  have hlt2:(RL (natL (l.take i))).length≤1024:=by simp [RL,natL];omega
  have hq:RL (natL (l.take (i+1)))=RL (natL (l.take i))++ [rd (cn (a:Rat))]:=by rw [List.take_add_one,ha];simp [RL,natL]
  refine k_at [D.v (.int .i64 (a:Int))] (Int.natCast_nonneg _) (by rw [Int.toNat_natCast];simp [NL,ha]) rfl ?_
  refine Zpt a rfl (hl a (List.mem_of_getElem? ha)) ?_
  refine⟨⟨Ze0 [(a:Rat)],?_,?_⟩,?_⟩
  ·show ((RL (natL (l.take i))).length+1)*40≤_;omega
  ·show (RL (natL (l.take i))).length+1≤_;omega
  refine⟨i+1,hlt,by simp only;omega,?_⟩
  constructor<;>(repeat' (first|exact rfl|exact True.intro|apply And.intro))
  all_goals first
   |exact congrArg (fun n:Int=>D.v (.int .i64 n)) (show ((i+1:Nat):Int)=IntKind.i64.wrap ((i:Int)+1) by rw [wrap64 _ (by omega) (by omega)];omega)
   |(rw [hq];exact rfl)
 ·have hge:i=l.length:=by have:=of_decide_eq_false e;omega
  subst hge
  refine Eq.trans (b:= .val (.one (.d (.list (RL (natL (l.take l.length))))))) ?_ rfl
  rw [List.take_length];rfl
end
end Go.Proofs.YtjlhknppkodilaaGreatDoor.eng
namespace Go.Proofs.YtjlhknppkodilaaGreatDoor.eng
open Go.RowKit num mem seg q held ratA ratB ratC ratD ratE vars ratF natC natD natI sub32
section
variable {K : AV → Prop} {x y : RV}
def q3d (q:Rat):List D:= [.v (.bool (decide (q.num< 0))),.list (W (w32 q.num.natAbs)),.list (W (w32 q.den))]
end
end Go.Proofs.YtjlhknppkodilaaGreatDoor.eng
