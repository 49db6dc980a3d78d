/- Joined by wip/bundle.py: XEngN3j XEngN3k XEngH3. -/
import Derived.Test.YtbgokkfhohodgaaGreatDoorGrpN
import Derived.Test.YtbgokkfhohodgaaGreatDoorGrpS
set_option maxRecDepth 100000
namespace Go.Proofs.YtbgokkfhohodgaaGreatDoor.eng
open Go.RowKit num mem seg q held ratA ratB ratC ratD ratE vars ratF sub32
def q3 (q:Rat):AV:= .val (.agg [.d (.v (.bool (decide (q.num< 0)))),.d (.list (W (w32 q.num.natAbs))),.d (.list (W (w32 q.den)))])
theorem Zhw (n:Nat):wlen 4 n≤(enc n).size:=by unfold wlen;omega
theorem Zcr (q:Rat):wlen 4 q.num.natAbs≤qs q:=by have:=Zhw q.num.natAbs;unfold qs;omega
theorem Zct (q:Rat):wlen 4 q.den≤qs q:=by have:=Zhw q.den;unfold qs;omega
theorem Zcs (a b:Nat):wlen 4 (a*b)≤wlen 4 a+wlen 4 b:=by
 refine(Zaa (by omega)).2 ?_
 have ha:=lt_B a
 have hb:=lt_B b
 rw [show (256:Nat) ^ 4=4294967296 from rfl,Nat.pow_add]
 exact Nat.mul_lt_mul_of_lt_of_lt ha hb
theorem ZlM (a b:Nat):wlen 4 (a+b)≤max (wlen 4 a) (wlen 4 b)+1:=by
 refine(Zaa (by omega)).2 ?_
 have ha:=lt_B a
 have hb:=lt_B b
 have h1:4294967296 ^ wlen 4 a≤4294967296 ^ max (wlen 4 a) (wlen 4 b):=Nat.pow_le_pow_right (by omega) (by omega)
 have h2:4294967296 ^ wlen 4 b≤4294967296 ^ max (wlen 4 a) (wlen 4 b):=Nat.pow_le_pow_right (by omega) (by omega)
 rw [show (256:Nat) ^ 4=4294967296 from rfl,Nat.pow_succ]
 omega
section
variable {K : AV → Prop} {a b n d : Nat} {s t : Bool}
theorem Zl5 (hn:0< n) (hd:0< d):q3 (mkRat (sg s n) d)= .val (.agg [.d (.v (.bool s)),.d (.list (W (w32 (n / Nat.gcd n d)))),.d (.list (W (w32 (d / Nat.gcd n d))))]):=by
 obtain⟨h1,h2,h3⟩:=Zlq (s:=s) hn hd
 unfold q3
 rw [← h1,← ZcQ h2,← ZcQ h3]
theorem Zlm:q3 0= .val (.agg [.d (.v (.bool false)),.d (.list []),.d (.list [[D.v (.int .u32 1)]])]):=by
 unfold q3
 rw [show (0:Rat).num.natAbs=0 from rfl,show (0:Rat).den=1 from rfl,Zf2,Zbl]
 rfl
theorem Zey (G:Nat) (h:0< G):(wlen 4 G≤1→(G / 4294967296 ^ 0 % 4294967296=G))∧(1< wlen 4 G→1< G):=by
 constructor
 ·intro h1
  have:=(Zaa (s:=4) (n:=G) (k:=1) (by omega)).1 h1
  rw [Nat.pow_zero,Nat.div_one,Nat.mod_eq_of_lt (by simpa using this)]
 ·intro h1
  apply Nat.lt_of_not_le
  intro h2
  have:wlen 4 G≤1:=(Zaa (by omega)).2 (by simp;omega)
  omega
theorem Zg6 (s:Bool) (n d:Nat) (hd:0< d) (hn:wlen 4 n≤8589934592) (hdl:wlen 4 d≤8589934592):Spec Tryz.prog Tab 122 [bool s,n3 n,n3 d] (q3 (mkRat (sg s n) d)):=by
 have la:=Z9 n
 refine Ze Tryz.func122 rfl rfl Tryz.ntmps122 rfl (by kernel_rfl) rfl rfl ?_
 refine⟨fun e=> ?_,fun e=> ?_⟩
 ·have h0:n=0:=by
   have:((((W (w32 n)).length:Nat):Int)==0)=true:=e
   rw [la] at this;simp at this
   exact(ZU n).1 (by omega)
  subst h0
  refine Eq.trans (b:= .val (.agg [.d (.v (.bool false)),.d (.list []),.d (.list [[D.v (.int .u32 1)]])])) ?_ rfl
  rw [← Zlm]
  have:sg s 0=0:=by cases s<;>rfl
  rw [this,Rat.zero_mkRat]
 ·have h0:0< n:=by
   apply Nat.pos_of_ne_zero
   intro h
   have:((((W (w32 n)).length:Nat):Int)==0)=false:=e
   rw [la,(ZU n).2 h] at this;simp at this
  have hG:0< Nat.gcd n d:=Nat.gcd_pos_of_pos_left _ h0
  have hGl:wlen 4 (Nat.gcd n d)≤8589934592:=Z2 (Nat.gcd_le_left _ h0) hn
  have lg:=Z9 (Nat.gcd n d)
  have hGp:0< wlen 4 (Nat.gcd n d):=(top_pos hG).1
  obtain⟨o1,o2⟩:=Zey _ hG
  have big:1< Nat.gcd n d→q3 (mkRat (sg s n) d)= .val (.agg [.d (.v (.bool s)),.d (.list (W (w32 (n / Nat.gcd n d)))),.d (.list (W (w32 (d / Nat.gcd n d))))]):=fun _=>Zl5 h0 hd
  have small:Nat.gcd n d=1→q3 (mkRat (sg s n) d)= .val (.agg [.d (.v (.bool s)),.d (.list (W (w32 n))),.d (.list (W (w32 d)))]):=fun h=>by rw [Zl5 h0 hd,h,Nat.div_one,Nat.div_one]
  refine Zd1 hn hdl ?_
  refine fork (fun e1=> ?_) (fun e1=> ?_)
  ·have h1:1< Nat.gcd n d:=o2 (by have:=of_decide_eq_true e1;rw [lg] at this;omega)
   refine⟨fun _=> ?_,fun e=>by simp at e⟩
   refine ZcN hG hn hGl ?_
   refine ZcN hG hdl hGl ?_
   exact big h1
  ·have hl1:wlen 4 (Nat.gcd n d)≤1:=by have:=of_decide_eq_false e1;rw [lg] at this;omega
   refine k_at [D.v (.int .u32 ((Nat.gcd n d / 4294967296 ^ 0 % 4294967296:Nat):Int))] (by decide) (W_at (ZV (n:=Nat.gcd n d) (i:=0) (by omega))) rfl ?_
   refine⟨fun e2=> ?_,fun e2=> ?_⟩
   ·have h1:1< Nat.gcd n d:=by have:=of_decide_eq_true e2;rw [o1 hl1] at this;omega
    refine ZcN hG hn hGl ?_
    refine ZcN hG hdl hGl ?_
    exact big h1
   ·have h1:Nat.gcd n d=1:=by have:=of_decide_eq_false e2;rw [o1 hl1] at this;omega
    exact small h1
theorem Zbs (n d:Nat) {vd:List (List D)} (hv:vd=W (w32 d)) (hd:0< d) (hn:wlen 4 n≤8589934592) (hdl:wlen 4 d≤8589934592) (k:K (q3 (mkRat (sg s n) d))):Ask 122 [bool s,n3 n,.val (.one (.d (.list vd)))] K:=by
 subst hv;exact use (Zg6 s n d hd hn hdl) rfl k
theorem ZlK (x:Int) (h1:-9223372036854775808≤x) (h2:x≤9223372036854775807):Spec Tryz.prog Tab 63 [int x] (q3 ((x:Int):Rat)):=by
 have fin:∀ s:Bool,s=decide (x< 0)→q3 (mkRat (sg s x.natAbs) 1)=q3 ((x:Int):Rat):=by
  intro s hs
  subst hs
  have:=Zbg ((x:Int):Rat)
  rw [Rat.num_intCast] at this
  rw [this,Zil]
 have hlv:∀ m:Nat,m< 18446744073709551616→lv 4294967296 [m % 4294967296,m / 4294967296 % 4294967296]=m:=by
  intro m hm;simp only [lv,List.foldr];omega
 have hone:wlen 4 1≤8589934592:=by rw [← Zh,Zbl];decide
 have hwl:wlen 4 x.natAbs≤8589934592:=Nat.le_trans (Zhw _) (Nat.le_trans (Zi.2 (show x.natAbs< 256 ^ 8 by omega)) (by omega))
 refine Ze Tryz.func63 rfl rfl Tryz.ntmps63 rfl (by kernel_rfl) rfl rfl ?_
 refine Zdt Zl0 Zlc (IntKind.u64.wrap x) rfl ?_
 refine⟨fun e=> ?_,fun e=> ?_⟩
 ·have hx:x< 0:=of_decide_eq_true e
  have hraw:IntKind.u64.wrap (0 - IntKind.u64.wrap x)=((x.natAbs:Nat):Int):=by
   unfold IntKind.wrap;simp [IntKind.signed,IntKind.bits];omega
  refine ZbK x.natAbs hraw ?_
  refine ZaE x.natAbs hraw ?_
  refine ZbK (x.natAbs / 4294967296) rfl ?_
  refine Zca [x.natAbs % 4294967296,x.natAbs / 4294967296 % 4294967296] rfl (by intro z hz;simp only [List.mem_cons,List.mem_nil_iff,or_false] at hz;omega) (by simp) ?_
  rw [hlv _ (by omega)]
  refine Zbs x.natAbs 1 (by rw [Zbl];rfl) Nat.one_pos hwl hone ?_
  exact(fin _ rfl).symm
 ·have hx:¬ x< 0:=of_decide_eq_false e
  have hraw:IntKind.u64.wrap x=((x.natAbs:Nat):Int):=by rw [wu64 (by omega) (by omega)];omega
  refine ZbK x.natAbs hraw ?_
  refine ZaE x.natAbs hraw ?_
  refine ZbK (x.natAbs / 4294967296) rfl ?_
  refine Zca [x.natAbs % 4294967296,x.natAbs / 4294967296 % 4294967296] rfl (by intro z hz;simp only [List.mem_cons,List.mem_nil_iff,or_false] at hz;omega) (by simp) ?_
  rw [hlv _ (by omega)]
  refine Zbs x.natAbs 1 (by rw [Zbl];rfl) Nat.one_pos hwl hone ?_
  exact(fin _ rfl).symm
theorem k_N3 (x:Int) (h1:-9223372036854775808≤x) (h2:x≤9223372036854775807) (k:∀ q,q=((x:Int):Rat)→qs q≤8→K (q3 q)):Ask 63 [int x] K:=use (ZlK x h1 h2) rfl (k _ rfl (Zeu h1 h2))
end
end Go.Proofs.YtbgokkfhohodgaaGreatDoor.eng
namespace Go.Proofs.YtbgokkfhohodgaaGreatDoor.eng
open Go.RowKit num mem seg q held ratA ratB ratC ratD ratE vars ratF sub32
section
variable {K : AV → Prop} {p q : Rat} {x : RV}
theorem ZkL (q:Rat) (hq:qs q≤8589934592):Spec Tryz.prog Tab 56 [q3 q] (rat (cn q)):=by
 have h1:=Zcr q
 have h2:=Zct q
 refine Ze Tryz.func56 rfl rfl Tryz.ntmps56 rfl (by kernel_rfl) rfl rfl ?_
 refine ZkZ (by omega) ?_
 refine ZkZ (by omega) ?_
 refine⟨by kernel_rfl,?_⟩
 exact rfl
theorem Zna (hq:qs q≤8589934592) (k:K (rat (cn q))):Ask 56 [q3 q] K:=use (ZkL q hq) rfl k
theorem ZkU (q:Rat):q3 (-q)= .val (.agg [.d (.v (.bool (decide (0< q.num)))),.d (.list (W (w32 q.num.natAbs))),.d (.list (W (w32 q.den)))]):=by
 unfold q3
 rw [Rat.neg_num,Rat.neg_den,Int.natAbs_neg]
 have:decide (-q.num< 0)=decide (0< q.num):=by rw [decide_eq_decide];omega
 rw [this]
theorem Zjx (q:Rat):Spec Tryz.prog Tab 120 [q3 q] (q3 (-q)):=by
 have la:=Z9 q.num.natAbs
 refine Ze Tryz.func120 rfl rfl Tryz.ntmps120 rfl (by kernel_rfl) rfl rfl ?_
 refine fork (fun e=> ?_) (fun e=> ?_)
 ·refine Eq.trans (b:= .val (.agg [.d (.v (.bool (!decide (q.num< 0)))),.d (.list (W (w32 q.num.natAbs))),.d (.list (W (w32 q.den)))])) ?_ rfl
  rw [ZkU]
  have h:=of_decide_eq_true e
  rw [la] at h
  have:q.num≠0:=fun h0=>by rw [h0] at h;rw [show (0:Int).natAbs=0 from rfl,(ZU 0).2 rfl] at h;simp at h
  have:decide (0< q.num)=!decide (q.num< 0):=by
   by_cases h1:q.num< 0
   ·rw [decide_eq_true h1,decide_eq_false (by omega)];rfl
   ·rw [decide_eq_false h1,decide_eq_true (by omega)];rfl
  rw [this]
 ·refine Eq.trans (b:= .val (.agg [.d (.v (.bool false)),.d (.list (W (w32 q.num.natAbs))),.d (.list (W (w32 q.den)))])) ?_ rfl
  rw [ZkU]
  have h:=of_decide_eq_false e
  rw [la] at h
  have h0:q.num.natAbs=0:=(ZU _).1 (by omega)
  rw [decide_eq_false (show ¬ 0< q.num by omega)]
theorem Zmw (k:∀ r,r=-q→qs r=qs q→K (q3 r)):Ask 120 [q3 q] K:=use (Zjx q) rfl (k _ rfl (Zgb q))
set_option maxHeartbeats 1000000 in
theorem ZjB (p q:Rat) (hp:qs p≤1073741824) (hq:qs q≤1073741824):Spec Tryz.prog Tab 55 [q3 p,q3 q] (q3 (p+q)):=by
 have a1:=Zcr p
 have a2:=Zct p
 have a3:=Zcr q
 have a4:=Zct q
 have m1:=Zcs p.num.natAbs q.den
 have m2:=Zcs q.num.natAbs p.den
 have m3:=Zcs p.den q.den
 have dp:0< p.den*q.den:=Nat.mul_pos p.den_pos q.den_pos
 have hadd:=ZeZ (Zbg p) (rfl:p.den=p.den) (Zbg q) (rfl:q.den=q.den)
 generalize hX:p.num.natAbs*q.den=X at hadd m1
 generalize hY:q.num.natAbs*p.den=Y at hadd m2
 generalize hD:p.den*q.den=D at hadd m3 dp
 have m4:=ZlM X Y
 refine Ze Tryz.func55 rfl rfl Tryz.ntmps55 rfl (by kernel_rfl) rfl rfl ?_
 refine Zbr (by omega) (by omega) ?_
 refine Zbr (by omega) (by omega) ?_
 refine⟨by kernel_rfl,?_⟩
 refine Zbr (by omega) (by omega) ?_
 rw [hX,hY,hD]
 refine ZeN (fun e=> ?_) (fun e=> ?_)
 ·refine⟨fun _=> ?_,fun e=>by simp at e⟩
  refine ZiQ (by omega) (by omega) ?_
  refine Zbs (s:=decide (p.num< 0)) (X+Y) D rfl dp (by omega) (by omega) ?_
  refine⟨by kernel_rfl,?_⟩
  refine Eq.trans (b:=q3 (mkRat (sg (decide (p.num< 0)) (X+Y)) D)) ?_ rfl
  rw [← hadd,← e]
  congr 2
  cases decide (p.num< 0)<;>simp [sg]<;>omega
 ·refine⟨fun e=>by simp at e,fun _=> ?_⟩
  refine ZiP (by omega) (by omega) fun v hv=> ?_
  refine⟨fun e2=> ?_,fun e2=> ?_⟩
  ·have hge:Y≤X:=hv.1 (of_decide_eq_true e2)
   refine Zfz hge (by omega) ?_
   refine Zbs (s:=decide (p.num< 0)) (X - Y) D rfl dp (Z2 (Nat.sub_le X Y) (by omega)) (by omega) ?_
   refine⟨by kernel_rfl,?_⟩
   refine Eq.trans (b:=q3 (mkRat (sg (decide (p.num< 0)) (X - Y)) D)) ?_ rfl
   rw [← hadd]
   congr 2
   revert e
   cases decide (p.num< 0)<;>cases decide (q.num< 0)<;>intro e<;>simp [sg] at e ⊢<;>omega
  ·have hlt:X< Y:=by
    apply Nat.lt_of_not_le
    intro hc
    exact absurd (hv.2 hc) (of_decide_eq_false e2)
   refine Zfz (Nat.le_of_lt hlt) (by omega) ?_
   refine Zbs (s:=decide (q.num< 0)) (Y - X) D rfl dp (Z2 (Nat.sub_le Y X) (by omega)) (by omega) ?_
   refine⟨by kernel_rfl,?_⟩
   refine Eq.trans (b:=q3 (mkRat (sg (decide (q.num< 0)) (Y - X)) D)) ?_ rfl
   rw [← hadd]
   congr 2
   revert e
   cases decide (p.num< 0)<;>cases decide (q.num< 0)<;>intro e<;>simp [sg] at e ⊢<;>omega
theorem Zk4 (hp:qs p≤1073741824) (hq:qs q≤1073741824) (k:∀ r,r=p+q→qs r≤qs p+qs q+1→K (q3 r)):Ask 55 [q3 p,q3 q] K:=use (ZjB p q hp hq) rfl (k _ rfl (Zgc p q))
theorem Zju (p q:Rat) (hp:qs p≤1073741824) (hq:qs q≤1073741824):Spec Tryz.prog Tab 52 [q3 p,q3 q] (q3 (p - q)):=by
 refine Ze Tryz.func52 rfl rfl Tryz.ntmps52 rfl (by kernel_rfl) rfl rfl ?_
 refine Zmw fun r h z=> ?_
 refine Zk4 hp (by omega) fun t h2 z2=> ?_
 refine⟨by kernel_rfl,?_⟩
 refine Eq.trans (b:=q3 t) ?_ rfl
 rw [h2,h,Rat.sub_eq_add_neg]
theorem ZiR (hp:qs p≤1073741824) (hq:qs q≤1073741824) (k:∀ r,r=p - q→qs r≤qs p+qs q+1→K (q3 r)):Ask 52 [q3 p,q3 q] K:=use (Zju p q hp hq) rfl (k _ rfl (Zb6 p q))
theorem Ziw (a b:Bool):(!decide (a=b))=(a !=b):=by cases a<;>cases b<;>rfl
theorem Zjy (p q:Rat) (hp:qs p≤1073741824) (hq:qs q≤1073741824):Spec Tryz.prog Tab 65 [q3 p,q3 q] (q3 (p*q)):=by
 have a1:=Zcr p
 have a2:=Zct p
 have a3:=Zcr q
 have a4:=Zct q
 have m1:=Zcs p.num.natAbs q.num.natAbs
 have m3:=Zcs p.den q.den
 have dp:0< p.den*q.den:=Nat.mul_pos p.den_pos q.den_pos
 refine Ze Tryz.func65 rfl rfl Tryz.ntmps65 rfl (by kernel_rfl) rfl rfl ?_
 refine Zds fun b hb=> ?_
 refine Zbr (by omega) (by omega) ?_
 refine Zbr (by omega) (by omega) ?_
 refine Zbs (s:=b) (p.num.natAbs*q.num.natAbs) (p.den*q.den) rfl dp (by omega) (by omega) ?_
 refine⟨by kernel_rfl,?_⟩
 refine Eq.trans (b:=q3 (mkRat (sg b (p.num.natAbs*q.num.natAbs)) (p.den*q.den))) ?_ rfl
 rw [hb,Ziw,Zlj,Zbg,Zbg,← Rat.mkRat_mul_mkRat,Rat.mkRat_self,Rat.mkRat_self]
theorem Zk3 (hp:qs p≤1073741824) (hq:qs q≤1073741824) (k:∀ r,r=p*q→qs r≤qs p+qs q→K (q3 r)):Ask 65 [q3 p,q3 q] K:=use (Zjy p q hp hq) rfl (k _ rfl (Zdn p q))
theorem Zjz (p q:Rat) (hp:qs p≤1073741824) (hq:qs q≤1073741824) (h0:q≠0):Spec Tryz.prog Tab 64 [q3 p,q3 q] (q3 (p / q)):=by
 have a1:=Zcr p
 have a2:=Zct p
 have a3:=Zcr q
 have a4:=Zct q
 have m1:=Zcs p.num.natAbs q.den
 have m3:=Zcs p.den q.num.natAbs
 have hk:0< q.num.natAbs:=Int.natAbs_pos.2 (fun h=>h0 (Rat.num_eq_zero.1 h))
 have dp:0< p.den*q.num.natAbs:=Nat.mul_pos p.den_pos hk
 refine Ze Tryz.func64 rfl rfl Tryz.ntmps64 rfl (by kernel_rfl) rfl rfl ?_
 refine Zds fun b hb=> ?_
 refine Zbr (by omega) (by omega) ?_
 refine Zbr (by omega) (by omega) ?_
 refine Zbs (s:=b) (p.num.natAbs*q.den) (p.den*q.num.natAbs) rfl dp (by omega) (by omega) ?_
 refine⟨by kernel_rfl,?_⟩
 refine Eq.trans (b:=q3 (mkRat (sg b (p.num.natAbs*q.den)) (p.den*q.num.natAbs))) ?_ rfl
 rw [hb,Ziw,ZeS (Zbg p) rfl (Zbg q) rfl hk p.den_pos]
theorem Zmx (hp:qs p≤1073741824) (hq:qs q≤1073741824) (h0:q≠0) (k:∀ r,r=p / q→qs r≤qs p+qs q+1→K (q3 r)):Ask 64 [q3 p,q3 q] K:=use (Zjz p q hp hq h0) rfl (k _ rfl (Zih p q))
theorem Zd4 (G:Nat) (hG:0< G):(wlen 4 G=1∧G / 4294967296 ^ 0 % 4294967296=1)↔G=1:=by
 constructor
 ·rintro⟨h1,h2⟩
  rw [(Zey G hG).1 (by omega)] at h2;exact h2
 ·intro h
  subst h
  exact⟨by rw [← Zh,Zbl];rfl,by decide⟩
theorem Zd2 {d:ByteArray} (h:0< d.size):d[(0:Int).toNat]? =some d[0]:=getElem?_pos d 0 h
theorem Zb0 {b:UInt8}:(((b.toNat:Int) !=0)=true)↔b≠0:=by
 rw [bne_iff_ne]
 constructor
 ·intro h e;subst e;exact h rfl
 ·intro h e;exact h (UInt8.toNat_inj.1 (by simpa using e))
theorem ZbM {d:ByteArray} (h:0< d.size) (h0:d[0]≠0):enc (nv d)=d:=ZdW d h (ZcO h h0)
theorem Zci {d:ByteArray} (h:¬ d=⟨#[]⟩):0< d.size:=(ZcH h).2
set_option maxHeartbeats 4000000 in
theorem Zhr (x:RV) (hx:x.z≤8589934592):Spec Tryz.prog Tab 118 [rat x] (bool (decide x.good)):=by
 obtain⟨s,a,d⟩:=x
 obtain⟨za,zd⟩:=Z0 hx
 simp only at za zd
 have tail:∀ (_:enc (nv a)=a) (_:enc (nv d)=d) (_:0< nv d) (_:nv a=0→s=false),(RV.good ⟨s,a,d⟩↔Nat.gcd (nv a) (nv d)=1):=fun ea ed hp hs=>⟨fun h=>h.2.2.2.2,fun h=>⟨ea,ed,hp,hs,h⟩⟩
 have bad:¬ RV.good ⟨s,a,d⟩→bool (decide (RV.good ⟨s,a,d⟩))=bool false:=fun h=>by rw [decide_eq_false h]
 have wla:wlen 4 (nv a)≤8589934592:=Nat.le_trans (Zhw _) (Nat.le_trans (ZB a) za)
 have wld:wlen 4 (nv d)≤8589934592:=Nat.le_trans (Zhw _) (Nat.le_trans (ZB d) zd)
 have sa:(enc (nv a)).size≤34359738368:=by have:=ZB a;omega
 have sd:(enc (nv d)).size≤34359738368:=by have:=ZB d;omega
 cases s
 ·refine Ze Tryz.func118 rfl rfl Tryz.ntmps118 rfl (by kernel_rfl) rfl rfl ?_
  refine Zat (fun (e1:d=⟨#[]⟩)=> ?_) (fun (e1:¬ d=⟨#[]⟩)=> ?_)
  ·refine⟨fun _=> ?_,fun e=>by simp at e⟩
   refine Eq.trans (b:=bool false) (bad fun h=> ?_) rfl
   have h1:0< nv d:=h.2.2.1
   rw [e1,ZaP] at h1;omega
  ·have hdp:=Zci e1
   refine Zbt d[0] (by decide) (Zd2 hdp) ?_
   refine fork (fun e2=> ?_) (fun e2=> ?_)
   ·have hd0:=Zb0.1 e2
    have ed:=ZbM hdp hd0
    have hpd:=Zdp hdp ed
    refine ZcM (fun (e3:a=⟨#[]⟩)=> ?_) (fun (e3:¬ a=⟨#[]⟩)=> ?_)
    ·have ea:enc (nv a)=a:=by rw [e3,ZaP,ZK]
     refine⟨fun e=>by simp at e,fun _=> ?_⟩
     refine Za4 ea.symm sa ?_
     refine Za4 ed.symm sd ?_
     refine Zd1 wla wld ?_
     refine⟨by kernel_rfl,?_⟩
     have hG:0< Nat.gcd (nv a) (nv d):=Nat.gcd_pos_of_pos_right _ hpd
     have lg:=Z9 (Nat.gcd (nv a) (nv d))
     have ht:=Zd4 _ hG
     have hgood:=tail ea ed hpd (fun _=>rfl)
     refine fork (fun e5=> ?_) (fun e5=> ?_)
     ·have h1:wlen 4 (Nat.gcd (nv a) (nv d))=1:=by
       have:((((W (w32 (Nat.gcd (nv a) (nv d)))).length:Nat):Int)==1)=true:=e5
       rw [lg] at this;simp at this;omega
      refine k_at [D.v (.int .u32 ((Nat.gcd (nv a) (nv d) / 4294967296 ^ 0 % 4294967296:Nat):Int))] (by decide) (W_at (ZV (n:=Nat.gcd (nv a) (nv d)) (i:=0) (by omega))) rfl ?_
      refine Eq.trans (b:=bool (((Nat.gcd (nv a) (nv d) / 4294967296 ^ 0 % 4294967296:Nat):Int)==1)) ?_ rfl
      congr 1
      rw [Bool.eq_iff_iff,decide_eq_true_eq,hgood,← ht,beq_iff_eq]
      omega
     ·refine Eq.trans (b:=bool false) ?_ rfl
      refine bad (fun h=> ?_)
      have h1:=(ht.2 (hgood.1 h)).1
      have:((((W (w32 (Nat.gcd (nv a) (nv d)))).length:Nat):Int)==1)=false:=e5
      rw [lg,h1] at this;simp at this
    ·refine Zat (fun (e4:a=⟨#[]⟩)=>absurd e4 e3) (fun _=> ?_)
     have hap:=Zci e3
     refine Zbt a[0] (by decide) (Zd2 hap) ?_
     by_cases ha0:a[0]=0
     ·have h0:(((a[0]).toNat:Int) !=0)=false:=by rw [ha0];rfl
      refine⟨fun _=> ?_,fun e=>absurd (show (!(((a[0]).toNat:Int) !=0))=false from e) (by rw [h0];simp)⟩
      refine Eq.trans (b:=bool false) (bad fun h=>Zbd hap ha0 h.1) rfl
     ·have h0:(((a[0]).toNat:Int) !=0)=true:=Zb0.2 ha0
      have ea:=ZbM hap ha0
      refine⟨fun e=>absurd (show (!(((a[0]).toNat:Int) !=0))=true from e) (by rw [h0];simp),fun _=> ?_⟩
      refine Za4 ea.symm sa ?_
      refine Za4 ed.symm sd ?_
      refine Zd1 wla wld ?_
      refine⟨by kernel_rfl,?_⟩
      have hG:0< Nat.gcd (nv a) (nv d):=Nat.gcd_pos_of_pos_right _ hpd
      have lg:=Z9 (Nat.gcd (nv a) (nv d))
      have ht:=Zd4 _ hG
      have hgood:=tail ea ed hpd (fun h=>absurd h (by have:=Zdp hap ea;omega))
      refine fork (fun e5=> ?_) (fun e5=> ?_)
      ·have h1:wlen 4 (Nat.gcd (nv a) (nv d))=1:=by
        have:((((W (w32 (Nat.gcd (nv a) (nv d)))).length:Nat):Int)==1)=true:=e5
        rw [lg] at this;simp at this;omega
       refine k_at [D.v (.int .u32 ((Nat.gcd (nv a) (nv d) / 4294967296 ^ 0 % 4294967296:Nat):Int))] (by decide) (W_at (ZV (n:=Nat.gcd (nv a) (nv d)) (i:=0) (by omega))) rfl ?_
       refine Eq.trans (b:=bool (((Nat.gcd (nv a) (nv d) / 4294967296 ^ 0 % 4294967296:Nat):Int)==1)) ?_ rfl
       congr 1
       rw [Bool.eq_iff_iff,decide_eq_true_eq,hgood,← ht,beq_iff_eq]
       omega
      ·refine Eq.trans (b:=bool false) ?_ rfl
       refine bad (fun h=> ?_)
       have h1:=(ht.2 (hgood.1 h)).1
       have:((((W (w32 (Nat.gcd (nv a) (nv d)))).length:Nat):Int)==1)=false:=e5
       rw [lg,h1] at this;simp at this
   ·refine⟨fun _=> ?_,fun e=>by simp at e⟩
    refine Eq.trans (b:=bool false) (bad fun h=> ?_) rfl
    have hd0:d[0]=0:=by
     apply Classical.byContradiction
     intro h0
     have:=Zb0.2 h0
     rw [this] at e2;simp at e2
    exact Zbd hdp hd0 h.2.1
 ·refine Ze Tryz.func118 rfl rfl Tryz.ntmps118 rfl (by kernel_rfl) rfl rfl ?_
  refine Zat (fun (e1:d=⟨#[]⟩)=> ?_) (fun (e1:¬ d=⟨#[]⟩)=> ?_)
  ·refine⟨fun _=> ?_,fun e=>by simp at e⟩
   refine Eq.trans (b:=bool false) (bad fun h=> ?_) rfl
   have h1:0< nv d:=h.2.2.1
   rw [e1,ZaP] at h1;omega
  ·have hdp:=Zci e1
   refine Zbt d[0] (by decide) (Zd2 hdp) ?_
   refine fork (fun e2=> ?_) (fun e2=> ?_)
   ·have hd0:=Zb0.1 e2
    have ed:=ZbM hdp hd0
    have hpd:=Zdp hdp ed
    refine ZcM (fun (e3:a=⟨#[]⟩)=> ?_) (fun (e3:¬ a=⟨#[]⟩)=> ?_)
    ·refine Zat (fun (e4:a=⟨#[]⟩)=> ?_) (fun (e4:¬ a=⟨#[]⟩)=> ?_)
     ·refine⟨fun _=> ?_,fun e=>by simp at e⟩
      refine Eq.trans (b:=bool false) (bad fun h=> ?_) rfl
      have:=h.2.2.2.1 (by rw [e3];exact ZaP)
      simp at this
     ·exact absurd e3 e4
    ·refine Zat (fun (e4:a=⟨#[]⟩)=>absurd e4 e3) (fun _=> ?_)
     have hap:=Zci e3
     refine Zbt a[0] (by decide) (Zd2 hap) ?_
     by_cases ha0:a[0]=0
     ·have h0:(((a[0]).toNat:Int) !=0)=false:=by rw [ha0];rfl
      refine⟨fun _=> ?_,fun e=>absurd (show (!(((a[0]).toNat:Int) !=0))=false from e) (by rw [h0];simp)⟩
      refine Eq.trans (b:=bool false) (bad fun h=>Zbd hap ha0 h.1) rfl
     ·have h0:(((a[0]).toNat:Int) !=0)=true:=Zb0.2 ha0
      have ea:=ZbM hap ha0
      refine⟨fun e=>absurd (show (!(((a[0]).toNat:Int) !=0))=true from e) (by rw [h0];simp),fun _=> ?_⟩
      refine Za4 ea.symm sa ?_
      refine Za4 ed.symm sd ?_
      refine Zd1 wla wld ?_
      refine⟨by kernel_rfl,?_⟩
      have hG:0< Nat.gcd (nv a) (nv d):=Nat.gcd_pos_of_pos_right _ hpd
      have lg:=Z9 (Nat.gcd (nv a) (nv d))
      have ht:=Zd4 _ hG
      have hgood:=tail ea ed hpd (fun h=>absurd h (by have:=Zdp hap ea;omega))
      refine fork (fun e5=> ?_) (fun e5=> ?_)
      ·have h1:wlen 4 (Nat.gcd (nv a) (nv d))=1:=by
        have:((((W (w32 (Nat.gcd (nv a) (nv d)))).length:Nat):Int)==1)=true:=e5
        rw [lg] at this;simp at this;omega
       refine k_at [D.v (.int .u32 ((Nat.gcd (nv a) (nv d) / 4294967296 ^ 0 % 4294967296:Nat):Int))] (by decide) (W_at (ZV (n:=Nat.gcd (nv a) (nv d)) (i:=0) (by omega))) rfl ?_
       refine Eq.trans (b:=bool (((Nat.gcd (nv a) (nv d) / 4294967296 ^ 0 % 4294967296:Nat):Int)==1)) ?_ rfl
       congr 1
       rw [Bool.eq_iff_iff,decide_eq_true_eq,hgood,← ht,beq_iff_eq]
       omega
      ·refine Eq.trans (b:=bool false) ?_ rfl
       refine bad (fun h=> ?_)
       have h1:=(ht.2 (hgood.1 h)).1
       have:((((W (w32 (Nat.gcd (nv a) (nv d)))).length:Nat):Int)==1)=false:=e5
       rw [lg,h1] at this;simp at this
   ·refine⟨fun _=> ?_,fun e=>by simp at e⟩
    refine Eq.trans (b:=bool false) (bad fun h=> ?_) rfl
    have hd0:d[0]=0:=by
     apply Classical.byContradiction
     intro h0
     have:=Zb0.2 h0
     rw [this] at e2;simp at e2
    exact Zbd hdp hd0 h.2.1
theorem ZiT (hx:x.z≤8589934592) (k1:x.good→K (bool true)) (k0:¬ x.good→K (bool false)):Ask 118 [rat x] K:=by
 have h:=Zhr x hx
 by_cases hg:x.good
 ·rw [decide_eq_true hg] at h;exact use h rfl (k1 hg)
 ·rw [decide_eq_false hg] at h;exact use h rfl (k0 hg)
theorem Zhs (x:RV) (hx:x.z≤8589934592):Spec Tryz.prog Tab 51 [rat x] (q3 x.q):=by
 refine Ze Tryz.func51 rfl rfl Tryz.ntmps51 rfl (by kernel_rfl) rfl rfl ?_
 refine ZiT hx (fun hg=> ?_) (fun hg=> ?_)
 ·refine⟨fun e=>by simp at e,fun _=> ?_⟩
  have hc:=RV.good_cn hg
  have hz:=hx
  rw [hc] at hz
  obtain⟨z1,z2⟩:=Z0 hz
  have ha:x.a=enc x.q.num.natAbs:=congrArg RV.a hc
  have hd:x.d=enc x.q.den:=congrArg RV.d hc
  have hs:x.s=decide (x.q.num< 0):=congrArg RV.s hc
  refine Za4 ha (Nat.le_trans z1 (by omega)) ?_
  refine Za4 hd (Nat.le_trans z2 (by omega)) ?_
  refine⟨by kernel_rfl,?_⟩
  refine Eq.trans (b:= .val (.agg [.d (.v (.bool x.s)),.d (.list (W (w32 x.q.num.natAbs))),.d (.list (W (w32 x.q.den)))])) ?_ rfl
  rw [hs];rfl
 ·refine⟨fun _=> ?_,fun e=>by simp at e⟩
  refine k_N3 0 (by omega) (by omega) fun r hr _=> ?_
  refine Eq.trans (b:=q3 r) ?_ rfl
  have:x.q=0:=by
   show qv x.s x.a x.d=0
   unfold qv
   exact if_neg hg
  rw [hr,this];rfl
theorem ZfC (hx:x.z≤8589934592) (k:∀ r,r=x.q→qs r≤x.z+1→K (q3 r)):Ask 51 [rat x] K:=use (Zhs x hx) rfl (k _ rfl x.z1)
end
end Go.Proofs.YtbgokkfhohodgaaGreatDoor.eng
namespace Go.Proofs.YtbgokkfhohodgaaGreatDoor.eng
open Go.RowKit num mem seg q held ratA ratB ratC ratD ratE vars ratF natC natD natI sub32
def BL (l:List Int):List (List D):=l.map fun n=> [D.v (.int .u8 n)]
def RL (l:List Rat):List (List D):=l.map fun q=>rd (cn q)
section
variable {K : AV → Prop}
theorem ZkN (l:List (List D)) (h:l.length≤1):Spec Tryz.prog Tab 196 [.val (.one (.d (.list l)))] (.tup []):=by
 refine Ze Tryz.func196 rfl rfl Tryz.ntmps196 rfl (by kernel_rfl) rfl rfl ?_
 refine⟨Unit,fun _=> [(2,int 0),(3,int (IntKind.i64.wrap ((l.length:Int) - 1)))],fun _=> [],fun _=>True,fun _=>0,(),?_,trivial,fun _ _=> ?_⟩
 ·constructor<;>(repeat' (first|exact rfl|exact True.intro|apply And.intro))
 refine⟨fun e=> ?_,fun _=> ?_⟩
 ·have h1:=of_decide_eq_true e
  rw [wrap64 _ (by omega) (by omega)] at h1
  omega
 ·exact rfl
theorem Zlh (n:Nat) (h0:0< n) (h:n< 256):strOfNums [(n:Int)]=enc n:=by
 apply Zbk
 rw [strOfNums_data,ZaD,digs,if_neg (by omega),Nat.div_eq_of_lt h,ZN,Nat.mod_eq_of_lt h]
 simp
theorem ZfH (n:Nat) (hn:n< 256):Spec Tryz.prog Tab 171 [int (n:Int)] (str (enc n)):=by
 refine Ze Tryz.func171 rfl rfl Tryz.ntmps171 rfl (by kernel_rfl) rfl rfl ?_
 refine⟨Bool,fun s=> [(0,int (bif s then 0 else (n:Int))),(3,.val (.one (.row 13 0)))],fun s=> [(13,.row 5 1 0 (BL (bif s then [(n:Int)] else [])) true)],fun s=>s=true→0< n,fun s=>bif s then 0 else 1,false,?_,fun h=>by simp at h,fun s hs=> ?_⟩
 ·constructor<;>(repeat' (first|exact rfl|exact True.intro|exact⟨_,_,rfl⟩|exact(by decide:0< 1)|apply And.intro))
 have stop:∀ l:List Int,l=(bif s then [(n:Int)] else [])→(bif s then 0 else (n:Int))≤0→strOfNums l=enc n∧l.length≤1:=by
  rintro l rfl h
  cases s with
  |true=>exact⟨Zlh n (hs rfl) hn,Nat.le_refl 1⟩
  |false=>
   have h0:n=0:=by simp at h;omega
   subst h0
   exact⟨by rw [ZK];rfl,Nat.zero_le _⟩
 refine⟨fun e=> ?_,fun e=> ?_⟩
 ·have h1:=of_decide_eq_true e
  cases s with
  |true=>simp at h1
  |false=>
   have h2:0< n:=by simp at h1;omega
   refine Zcb n 256 rfl rfl (by decide) ?_
   refine Zdt Zl0 u_u8 (n:Int) (by unfold IntKind.wrap;simp [IntKind.signed,IntKind.bits];omega) ?_
   refine⟨⟨fun row hrow=>by rw [List.mem_singleton.1 hrow];rfl,(by decide:1*1≤140737488355328),(by decide:1≤140737488355328)⟩,?_⟩
   refine ZaW n 256 rfl rfl (by decide) (by omega) ?_
   refine⟨true,fun _=>h2,by simp,?_⟩
   constructor<;>(repeat' (first|exact rfl|exact True.intro|apply And.intro))
   all_goals exact congrArg (fun n:Nat=>D.v (.int .i64 (n:Int))) (show 0=n / 256 by omega)
 ·have h1:=of_decide_eq_false e
  obtain⟨h2,h3⟩:=stop _ rfl (by omega)
  refine use (ZkN (BL (bif s then [(n:Int)] else [])) (by unfold BL;rw [List.length_map];exact h3)) rfl ?_
  refine⟨_,⟨5,(bif s then [(n:Int)] else []),rfl,Zhz,u_u8,ZlN,rfl⟩,?_⟩
  refine Eq.trans (b:=str (strOfNums (bif s then [(n:Int)] else []))) ?_ rfl
  rw [h2]
theorem Zbc {x:Int} (n:Nat) (hx:x=n) (hn:n< 256) (k:K (str (enc n))):Ask 171 [int x] K:=by
 subst hx;exact use (ZfH n hn) rfl k
theorem ZmK (n:Nat):cn (n:Rat)=⟨false,enc n,enc 1⟩:=by
 unfold cn
 rw [show ((n:Rat)).num=(n:Int) from Rat.num_natCast n,show ((n:Rat)).den=1 from Rat.den_natCast n,decide_eq_false (by omega)]
 rfl
theorem Zgj (n:Nat) (hn:n< 256):Spec Tryz.prog Tab 112 [int (n:Int),int 1] (rat (cn (n:Rat))):=by
 refine Ze Tryz.func112 rfl rfl Tryz.ntmps112 rfl (by kernel_rfl) rfl rfl ?_
 have hmx:(if IntKind.i64.wrap (0 - (n:Int)) >(n:Int) then IntKind.i64.wrap (0 - (n:Int)) else (n:Int))=(n:Int):=by
  rw [wrap64 _ (by omega) (by omega)];split<;>omega
 refine⟨Bool,fun s=> [(0,int (n:Int)),(1,int 1),(4,.val (.one (.ptr 4 0))),(5,int (bif s then 1 else (n:Int))),(6,int (bif s then 0 else 1))],
  fun s=> [(4,.var 23 [.d (.v (.bool false)),.d (.v (.string ⟨#[]⟩)),.d (.v (.string ⟨#[]⟩))])],fun _=>True,fun s=>bif s then 0 else 1,false,?_,trivial,fun s _=> ?_⟩
 ·constructor<;>(repeat' (first|exact rfl|exact True.intro|apply And.intro))
  all_goals exact congrArg (fun n:Int=>D.v (.int .i64 n)) hmx.symm
 cases s with
 |false=>
  refine⟨fun _=> ?_,fun e=>by simp at e⟩
  refine Zcb n 1 rfl rfl (by decide) ?_
  refine⟨by kernel_rfl,?_⟩
  refine⟨true,trivial,by simp,?_⟩
  constructor<;>(repeat' (first|exact rfl|exact True.intro|apply And.intro))
  all_goals exact congrArg (fun n:Nat=>D.v (.int .i64 (n:Int))) (show 0=n % 1 by omega)
 |true=>
  refine⟨fun e=>by simp at e,fun _=> ?_⟩
  refine ZaW n 1 rfl rfl (by decide) (by omega) ?_
  refine ZaW 1 1 rfl rfl (by decide) (by omega) ?_
  refine⟨by kernel_rfl,?_⟩
  refine Zbc n (by rw [Nat.div_one];exact hmx) hn ?_
  refine Zbc 1 rfl (by decide) ?_
  refine Eq.trans (b:=rat ⟨decide (((n / 1:Nat):Int)< 0),enc n,enc 1⟩) ?_ rfl
  rw [ZmK,decide_eq_false (by omega)]
theorem Zmo {m:Int} (n:Nat) (hm:m=n) (hn:n< 256) (k:K (rat (cn (n:Rat)))):Ask 48 [int m,int 1] K:=by
 subst hm
 refine use (r:=rat (cn (n:Rat))) ?_ rfl k
 refine Ze Tryz.func48 rfl rfl Tryz.ntmps48 rfl (by kernel_rfl) rfl rfl ?_
 refine use (Zgj n hn) rfl ?_
 exact rfl
theorem Zk9 (l:List Rat):(RL l).length=l.length:=by simp [RL]
theorem ZmV {l:List Rat} {i:Nat} {q:Rat} (h:l[i]? =some q):(RL l)[i]? =some (rd (cn q)):=by simp [RL,h]
def natL (l:List Nat):List Rat:=l.map fun n:Nat=>(n:Rat)
def NL (l:List Nat):List (List D):=l.map fun n:Nat=> [D.v (.int .i64 (n:Int))]
theorem Zip (l:List Nat) (hl:∀ n,n∈l→n< 256) (hn:l.length≤1024):Spec Tryz.prog Tab 9 [.val (.one (.d (.list (NL l))))] (rats (natL l)):=by
 have hlen:(NL l).length=l.length:=by simp [NL]
 refine Ze Tryz.func9 rfl rfl Tryz.ntmps9 rfl (by kernel_rfl) rfl rfl ?_
 refine⟨Nat,fun i=> [(3,.val (.one (.row 16 0))),(6,.val (.one (.d (.list (NL l))))),(7,int (((NL l).length:Nat):Int)),(8,int (i:Int))],
  fun i=> [(16,.row 23 3 0 (RL (natL (l.take i))) true)],fun i=>i≤l.length,fun i=>l.length - i,0,?_,Nat.zero_le _,fun i hi=> ?_⟩
 ·constructor<;>(repeat' (first|exact rfl|exact True.intro|exact⟨_,_,rfl⟩|exact(by decide:0< 3)|apply And.intro))
 refine⟨fun e=> ?_,fun e=> ?_⟩
 ·have hlt:i< l.length:=by have:=of_decide_eq_true e;omega
  obtain⟨a,ha⟩:∃ a,l[i]? =some a:=⟨_,List.getElem?_eq_getElem hlt⟩
  have hlt2:(RL (natL (l.take i))).length≤1024:=by simp [RL,natL];omega
  have hq:RL (natL (l.take (i+1)))=RL (natL (l.take i))++ [rd (cn (a:Rat))]:=by rw [List.take_add_one,ha];simp [RL,natL]
  refine k_at [D.v (.int .i64 (a:Int))] (Int.natCast_nonneg _) (by rw [Int.toNat_natCast];simp [NL,ha]) rfl ?_
  refine Zmo a rfl (hl a (List.mem_of_getElem? ha)) ?_
  refine⟨⟨Zf9 [(a:Rat)],?_,?_⟩,?_⟩
  ·show ((RL (natL (l.take i))).length+1)*40≤_;omega
  ·show (RL (natL (l.take i))).length+1≤_;omega
  refine⟨i+1,hlt,by simp only;omega,?_⟩
  constructor<;>(repeat' (first|exact rfl|exact True.intro|apply And.intro))
  all_goals first
   |exact congrArg (fun n:Int=>D.v (.int .i64 n)) (show ((i+1:Nat):Int)=IntKind.i64.wrap ((i:Int)+1) by rw [wrap64 _ (by omega) (by omega)];omega)
   |(rw [hq];exact rfl)
 ·have hge:i=l.length:=by have:=of_decide_eq_false e;omega
  subst hge
  refine Eq.trans (b:= .val (.one (.d (.list (RL (natL (l.take l.length))))))) ?_ rfl
  rw [List.take_length];rfl
end
end Go.Proofs.YtbgokkfhohodgaaGreatDoor.eng
