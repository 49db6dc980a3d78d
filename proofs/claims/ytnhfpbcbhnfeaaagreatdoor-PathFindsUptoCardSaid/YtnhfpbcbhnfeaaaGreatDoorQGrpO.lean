/- Joined by wip/bundle.py: XEngN3j XEngN3k XEngH3 XEngH3b. -/
import Derived.Test.YtnhfpbcbhnfeaaaGreatDoorQGrpN
set_option maxHeartbeats 4000000
set_option maxRecDepth 100000
namespace Go.Proofs.YtnhfpbcbhnfeaaaGreatDoor.eng
open Go.RowKit num mem seg q held ratA ratB ratC ratD ratE vars ratF sub32
abbrev Pb(q:Rat):D:=.v (.bool (decide (q.num<0)))
abbrev Pn(q:Rat):D:=.list (W (w32 q.num.natAbs))
abbrev Pd(q:Rat):D:=.list (W (w32 q.den))
abbrev Qb(q:Rat):C:=.d (Pb q)
abbrev Qn(q:Rat):C:=.d (Pn q)
abbrev Qd(q:Rat):C:=.d (Pd q)
abbrev P1(x:Rat)(t:List D):List D:=Pb x::Pn x::Pd x::t
abbrev Q1(x:Rat)(t:List C):List C:=Qb x::Qn x::Qd x::t
theorem ωx{p q:Rat}(h:p=q:=by first|assumption|(symm;assumption)):D.v (.bool (decide (p.num<0)))=D.v (.bool (decide (q.num<0))):=h▸rfl
theorem ωy{p q:Rat}(h:p=q:=by first|assumption|(symm;assumption)):D.list (W (w32 p.num.natAbs))=D.list (W (w32 q.num.natAbs)):=h▸rfl
theorem ωj{p q:Rat}(h:p=q:=by first|assumption|(symm;assumption)):D.list (W (w32 p.den))=D.list (W (w32 q.den)):=h▸rfl
theorem ηq{P:Prop}(h:P:=by first|exact ωx|exact ωy|exact ωj|exact ωq):P:=h
theorem ηE{P:Prop}(h:P:=by
 constructor<;>(repeat' apply And.intro)<;>first|exact ωq|exact ηq):P:=h
theorem ηF{P:Prop}(h:P:=by
 constructor<;>(repeat' apply And.intro)<;>first|exact ωq|exact ηq|(simp;done)):P:=h
def q3(q:Rat):AV:=.val (.agg [.d (.v (.bool (decide (q.num<0)))),.d (.list (W (w32 q.num.natAbs))),.d (.list (W (w32 q.den)))])
theorem Zmg(n:Nat):wlen 4 n<=(enc n).size:=by unfold wlen;omega
theorem ZdW(q:Rat):wlen 4 q.num.natAbs<=qs q:=by have:=Zmg q.num.natAbs;unfold qs;omega
theorem ZdX(q:Rat):wlen 4 q.den<=qs q:=by have:=Zmg q.den;unfold qs;omega
theorem Zeu(a b:Nat):wlen 4 (a*b)<=wlen 4 a+wlen 4 b:=by
 refine(ZaB ω).2 ?_;have ha:=lt_B a;have hb:=lt_B b;rw[show (256:Nat)^4=4294967296 from rfl,Nat.pow_add];exact Nat.mul_lt_mul_of_lt_of_lt ha hb
theorem ZxC(a b:Nat):wlen 4 (a+b)<=max (wlen 4 a) (wlen 4 b)+1:=by
 refine(ZaB ω).2 ?_;have ha:=lt_B a;have hb:=lt_B b;have h1:4294967296^wlen 4 a<=4294967296^max (wlen 4 a) (wlen 4 b):=Nat.pow_le_pow_right ω ω;have h2:4294967296^wlen 4 b<=4294967296^max (wlen 4 a) (wlen 4 b):=Nat.pow_le_pow_right ω ω;rw[show (256:Nat)^4=4294967296 from rfl,Nat.pow_succ];omega
section
variable{K:AV->Prop}{a b n d:Nat}{s t:Bool}
theorem Zyh(hn:0<n)(hd:0<d):q3 (mkRat (sg s n) d)= .val (.agg [.d (.v (.bool s)),.d (.list (W (w32 (n/Nat.gcd n d)))),.d (.list (W (w32 (d/Nat.gcd n d))))]):=by
 obtain⟨h1,h2,h3⟩:=Zwr (s:=s) hn hd;unfold q3;rw[<-h1,<-Zfe h2,<-Zfe h3]
theorem Zwc:q3 0= .val (.agg [.d (.v (.bool false)),.d (.list []),.d (.list [[D.v (.int .u32 1)]])]):=by
 unfold q3;rw[show (0:Rat).num.natAbs=0 from rfl,show (0:Rat).den=1 from rfl,ZkH,ZaO];rfl
theorem Zil(G:Nat)(h:0<G):(wlen 4 G<=1->(G/4294967296^0%4294967296=G))/\(1<wlen 4 G->1<G):=by
 constructor
 .intro h1;have:=(ZaB (s:=4) (n:=G) (k:=1) ω).1 h1;rw[Nat.pow_zero,Nat.div_one,Nat.mod_eq_of_lt (by simpa using this)]
 .intro h1;apply Nat.lt_of_not_le;intro h2;have:wlen 4 G<=1:=(ZaB ω).2 (by simp;omega);omega
theorem ZmW(s:Bool)(n d:Nat)(hd:0<d)(hn:wlen 4 n<=8589934592)(hdl:wlen 4 d<=8589934592):Spec Tryz.prog Tab 87 [bool s,n3 n,n3 d] (q3 (mkRat (sg s n) d)):=by
 have la:=Zan n;refine Zb Tryz.func87 Tryz.ntmps87 ?_;refine⟨fun e=>?_,fun e=>?_⟩
 .have h0:n=0:=by
   have:((((W (w32 n)).length:Nat):Int)==0)=true:=e;rw[la]at this;simp at this;exact(ZL n).1 ω
  subst h0;refine Eq.trans (b:=.val (.agg [.d (.v (.bool false)),.d (.list []),.d (.list [[D.v (.int .u32 1)]])])) ?_ rfl;rw[<-Zwc];have:sg s 0=0:=by cases s<;>rfl
  rw[this,Rat.zero_mkRat]
 .have h0:0<n:=by
   apply Nat.pos_of_ne_zero;intro h;have:((((W (w32 n)).length:Nat):Int)==0)=false:=e;rw[la,(ZL n).2 h]at this;simp at this
  have hG:0<Nat.gcd n d:=Nat.gcd_pos_of_pos_left _ h0;have hGl:wlen 4 (Nat.gcd n d)<=8589934592:=Z3 (Nat.gcd_le_left _ h0) hn;have lg:=Zan (Nat.gcd n d);have hGp:0<wlen 4 (Nat.gcd n d):=(top_pos hG).1;obtain⟨o1,o2⟩:=Zil _ hG;have big:1<Nat.gcd n d->q3 (mkRat (sg s n) d)= .val (.agg [.d (.v (.bool s)),.d (.list (W (w32 (n/Nat.gcd n d)))),.d (.list (W (w32 (d/Nat.gcd n d))))]):=fun _=>Zyh h0 hd;have small:Nat.gcd n d=1->q3 (mkRat (sg s n) d)= .val (.agg [.d (.v (.bool s)),.d (.list (W (w32 n))),.d (.list (W (w32 d)))]):=fun h=>by rw[Zyh h0 hd,h,Nat.div_one,Nat.div_one]
  refine Zhd hn hdl<|fork (fun e1=>?_) (fun e1=>?_)
  .have h1:1<Nat.gcd n d:=o2 (by have:=oT e1;rw[lg]at this;omega);exact⟨fun _=> ZdK hG hn hGl (ZdK hG hdl hGl<|big h1),fun e=>by simp at e⟩
  .have hl1:wlen 4 (Nat.gcd n d)<=1:=by have:=oF e1;rw[lg]at this;omega
   refine k_at [D.v (.int .u32 ((Nat.gcd n d/4294967296^0%4294967296:Nat):Int))] ωd (W_at (Zab (n:=Nat.gcd n d) (i:=0) ω)) rfl ⟨fun e2=>?_,fun e2=>?_⟩
   .have h1:1<Nat.gcd n d:=by have:=oT e2;rw[o1 hl1]at this;omega
    exact ZdK hG hn hGl<|ZdK hG hdl hGl<|big h1
   .have h1:Nat.gcd n d=1:=by have:=oF e2;rw[o1 hl1]at this;omega
    exact small h1
theorem Zby(n d:Nat){vd:List (List D)}(hv:vd=W (w32 d))(hd:0<d)(hn:wlen 4 n<=8589934592)(hdl:wlen 4 d<=8589934592)(k:K (q3 (mkRat (sg s n) d))):Ask 87 [bool s,n3 n,.val (.one (.d (.list vd)))] K:=by
 subst hv;exact use (ZmW s n d hd hn hdl) rfl k
theorem Zxy(x:Int)(h1:-9223372036854775808<=x)(h2:x<=9223372036854775807):Spec Tryz.prog Tab 42 [int x] (q3 ((x:Int):Rat)):=by
 have fin:∀s:Bool,s=decide (x<0)->q3 (mkRat (sg s x.natAbs) 1)=q3 ((x:Int):Rat):=by
  intro s hs;subst hs;have:=ZbX ((x:Int):Rat);rw[Rat.num_intCast]at this;rw[this,Zim]
 have hlv:∀m:Nat,m<18446744073709551616->lv 4294967296 [m%4294967296,m/4294967296%4294967296]=m:=by
  intro m hm;simp only[lv,List.foldr];omega
 have hone:wlen 4 1<=8589934592:=by rw[<-Zi,ZaO];decide
 have hwl:wlen 4 x.natAbs<=8589934592:=Nat.le_trans (Zmg _) (Nat.le_trans (Zh.2 (show x.natAbs<256^8 by omega)) ω);refine Zb Tryz.func42 Tryz.ntmps42 ?_;refine Zdg Zx3 ZvQ (IntKind.u64.wrap x) rfl ⟨fun e=>?_,fun e=>?_⟩
 .have hx:x<0:=oT e;have hraw:IntKind.u64.wrap (0-IntKind.u64.wrap x)=((x.natAbs:Nat):Int):=by
   unfold IntKind.wrap;simp[IntKind.signed,IntKind.bits];omega
  refine Zde x.natAbs hraw<|Zbw x.natAbs hraw<|Zde (x.natAbs/4294967296) rfl<|Zd2 [x.natAbs%4294967296,x.natAbs/4294967296%4294967296] rfl (by intro z hz;simp only[List.mem_cons,List.mem_nil_iff,or_false]at hz;omega) (by simp) ?_;rw[hlv _ ω];exact Zby x.natAbs 1 (by rw[ZaO];rfl) Nat.one_pos hwl hone<|(fin _ rfl).symm
 .have hx:¬x<0:=oF e;have hraw:IntKind.u64.wrap x=((x.natAbs:Nat):Int):=by rw[wu64 ω ω];omega
  refine Zde x.natAbs hraw<|Zbw x.natAbs hraw<|Zde (x.natAbs/4294967296) rfl<|Zd2 [x.natAbs%4294967296,x.natAbs/4294967296%4294967296] rfl (by intro z hz;simp only[List.mem_cons,List.mem_nil_iff,or_false]at hz;omega) (by simp) ?_;rw[hlv _ ω];exact Zby x.natAbs 1 (by rw[ZaO];rfl) Nat.one_pos hwl hone<|(fin _ rfl).symm
theorem k_N3(x:Int)(h1:-9223372036854775808<=x)(h2:x<=9223372036854775807)(k:∀q,q=((x:Int):Rat)->qs q<=8->K (q3 q)):Ask 42 [int x] K:=use (Zxy x h1 h2) rfl (k _ rfl (Zal h1 h2))
end
open Go.RowKit num mem seg q held ratA ratB ratC ratD ratE vars ratF sub32
section
variable{K:AV->Prop}{p q:Rat}{x:RV}
theorem Zuw(q:Rat)(hq:qs q<=8589934592):Spec Tryz.prog Tab 76 [q3 q] (rat (cn q)):=by
 have h1:=ZdW q;have h2:=ZdX q;refine Zb Tryz.func76 Tryz.ntmps76 ?_;exact Zvk ω<|Zvk ω ⟨ωr,rfl⟩
theorem ZtG(hq:qs q<=8589934592)(k:K (rat (cn q))):Ask 76 [q3 q] K:=use (Zuw q hq) rfl k
theorem Zu2(q:Rat):q3 (-q)= .val (.agg [.d (.v (.bool (decide (0<q.num)))),.d (.list (W (w32 q.num.natAbs))),.d (.list (W (w32 q.den)))]):=by
 unfold q3;rw[Rat.neg_num,Rat.neg_den,Int.natAbs_neg];have:decide (-q.num<0)=decide (0<q.num):=by rw[decide_eq_decide];omega
 rw[this]
theorem Zr5(q:Rat):Spec Tryz.prog Tab 117 [q3 q] (q3 (-q)):=by
 have la:=Zan q.num.natAbs;refine Zb Tryz.func117 Tryz.ntmps117 ?_;refine fork (fun e=>?_) (fun e=>?_)
 .refine Eq.trans (b:=.val (.agg [.d (.v (.bool (!decide (q.num<0)))),.d (.list (W (w32 q.num.natAbs))),.d (.list (W (w32 q.den)))])) ?_ rfl;rw[Zu2];have h:=oT e;rw[la]at h;have:q.num≠0:=fun h0=>by rw[h0]at h;rw[show (0:Int).natAbs=0 from rfl,(ZL 0).2 rfl]at h;simp at h
  have:decide (0<q.num)= !decide (q.num<0):=by
   by_cases h1:q.num<0
   .rw[decide_eq_true h1,decide_eq_false ω];rfl
   .rw[decide_eq_false h1,decide_eq_true ω];rfl
  rw[this]
 .refine Eq.trans (b:=.val (.agg [.d (.v (.bool false)),.d (.list (W (w32 q.num.natAbs))),.d (.list (W (w32 q.den)))])) ?_ rfl;rw[Zu2];have h:=oF e;rw[la]at h;have h0:q.num.natAbs=0:=(ZL _).1 ω;rw[decide_eq_false (show ¬0<q.num by omega)]
theorem ZqA(k:∀r,r=-q->qs r=qs q->K (q3 r)):Ask 117 [q3 q] K:=use (Zr5 q) rfl (k _ rfl (ZbY q))
theorem Zny(q:Rat):Spec Tryz.prog Tab 48 [q3 q] (int (sgnQ q)):=by
 have la:=Zan q.num.natAbs;refine Zb Tryz.func48 Tryz.ntmps48 ?_;refine⟨fun e=>?_,fun e=>?_⟩
 .have h0:q.num=0:=by
   have:((((W (w32 q.num.natAbs)).length:Nat):Int)==0)=true:=e;rw[la]at this;simp at this;have:=(ZL q.num.natAbs).1 ω;omega
  refine Eq.trans (b:=int 0) ?_ rfl;rw[sgnQ,if_pos h0]
 .have h0:q.num≠0:=by
   intro h;have:((((W (w32 q.num.natAbs)).length:Nat):Int)==0)=false:=e;rw[la,h,show (0:Int).natAbs=0 from rfl,(ZL 0).2 rfl]at this;simp at this
  refine⟨fun e2=>?_,fun e2=>?_⟩
  .refine Eq.trans (b:=int (-1)) ?_ rfl;rw[sgnQ,if_neg h0,if_pos (oT e2)]
  .refine Eq.trans (b:=int 1) ?_ rfl;rw[sgnQ,if_neg h0,if_neg (oF e2)]
theorem Zbz(k:∀n,n=sgnQ q->K (int n)):Ask 48 [q3 q] K:=use (Zny q) rfl (k _ rfl)
theorem Zr9(p q:Rat)(hp:qs p<=1073741824)(hq:qs q<=1073741824):Spec Tryz.prog Tab 68 [q3 p,q3 q] (q3 (p+q)):=by
 have a1:=ZdW p;have a2:=ZdX p;have a3:=ZdW q;have a4:=ZdX q;have m1:=Zeu p.num.natAbs q.den;have m2:=Zeu q.num.natAbs p.den;have m3:=Zeu p.den q.den;have dp:0<p.den*q.den:=Nat.mul_pos p.den_pos q.den_pos;have hadd:=Zi6 (ZbX p) (rfl:p.den=p.den) (ZbX q) (rfl:q.den=q.den);generalize hX:p.num.natAbs*q.den=X at hadd m1;generalize hY:q.num.natAbs*p.den=Y at hadd m2;generalize hD:p.den*q.den=D at hadd m3 dp;have m4:=ZxC X Y;refine Zb Tryz.func68 Tryz.ntmps68 ?_;refine ZcN ω ω<|ZcN ω ω ⟨ωr,ZcN ω ω ?_⟩;rw[hX,hY,hD];refine ZiF (fun e=>?_) (fun e=>?_)
 .refine⟨fun _=> Zj2 ω ω (Zby (s:=decide (p.num<0)) (X+Y) D rfl dp ω ω ⟨ωr,Eq.trans (b:=q3 (mkRat (sg (decide (p.num<0)) (X+Y)) D)) ?_ rfl⟩),fun e=>by simp at e⟩;rw[<-hadd,<-e];congr 2;cases decide (p.num<0)<;>simp[sg]<;>omega
 .refine⟨fun e=>by simp at e,fun _=> Zqu ω ω fun v hv=>⟨fun e2=>?_,fun e2=>?_⟩⟩
  .have hge:Y<=X:=hv.1 (oT e2);refine Zj0 hge ω<|Zby (s:=decide (p.num<0)) (X-Y) D rfl dp (Z3 (Nat.sub_le X Y) ω) ω ⟨ωr,Eq.trans (b:=q3 (mkRat (sg (decide (p.num<0)) (X-Y)) D)) ?_ rfl⟩;rw[<-hadd];congr 2
   revert e
   cases decide (p.num<0)<;>cases decide (q.num<0)<;>intro e<;>simp[sg]at e⊢<;>omega
  .have hlt:X<Y:=by
    apply Nat.lt_of_not_le;intro hc;exact absurd (hv.2 hc) (oF e2)
   refine Zj0 (Nat.le_of_lt hlt) ω<|Zby (s:=decide (q.num<0)) (Y-X) D rfl dp (Z3 (Nat.sub_le Y X) ω) ω ⟨ωr,Eq.trans (b:=q3 (mkRat (sg (decide (q.num<0)) (Y-X)) D)) ?_ rfl⟩;rw[<-hadd];congr 2
   revert e
   cases decide (p.num<0)<;>cases decide (q.num<0)<;>intro e<;>simp[sg]at e⊢<;>omega
theorem Ze0(hp:qs p<=1073741824)(hq:qs q<=1073741824)(k:∀r,r=p+q->qs r<=qs p+qs q+1->K (q3 r)):Ask 68 [q3 p,q3 q] K:=use (Zr9 p q hp hq) rfl (k _ rfl (ZR p q))
theorem ZrS(p q:Rat)(hp:qs p<=1073741824)(hq:qs q<=1073741824):Spec Tryz.prog Tab 69 [q3 p,q3 q] (q3 (p-q)):=by
 refine Zb Tryz.func69 Tryz.ntmps69 ?_;refine ZqA fun r h z=> Ze0 hp ω fun t h2 z2=>⟨ωr,Eq.trans (b:=q3 t) ?_ rfl⟩;rw[h2,h,Rat.sub_eq_add_neg]
theorem Zci(hp:qs p<=1073741824)(hq:qs q<=1073741824)(k:∀r,r=p-q->qs r<=qs p+qs q+1->K (q3 r)):Ask 69 [q3 p,q3 q] K:=use (ZrS p q hp hq) rfl (k _ rfl (Zac p q))
theorem ZpG(a b:Bool):(!decide (a=b))=(a !=b):=by cases a<;>cases b<;>rfl
theorem Zr6(p q:Rat)(hp:qs p<=1073741824)(hq:qs q<=1073741824):Spec Tryz.prog Tab 70 [q3 p,q3 q] (q3 (p*q)):=by
 have a1:=ZdW p;have a2:=ZdX p;have a3:=ZdW q;have a4:=ZdX q;have m1:=Zeu p.num.natAbs q.num.natAbs;have m3:=Zeu p.den q.den;have dp:0<p.den*q.den:=Nat.mul_pos p.den_pos q.den_pos;refine Zb Tryz.func70 Tryz.ntmps70 ?_;refine Zf5 fun b hb=> ZcN ω ω<|ZcN ω ω<|Zby (s:=b) (p.num.natAbs*q.num.natAbs) (p.den*q.den) rfl dp ω ω ⟨ωr,Eq.trans (b:=q3 (mkRat (sg b (p.num.natAbs*q.num.natAbs)) (p.den*q.den))) ?_ rfl⟩;rw[hb,ZpG,Zv2,ZbX,ZbX,<-Rat.mkRat_mul_mkRat,Rat.mkRat_self,Rat.mkRat_self]
theorem Zbj(hp:qs p<=1073741824)(hq:qs q<=1073741824)(k:∀r,r=p*q->qs r<=qs p+qs q->K (q3 r)):Ask 70 [q3 p,q3 q] K:=use (Zr6 p q hp hq) rfl (k _ rfl (ZX p q))
theorem Zr7(p q:Rat)(hp:qs p<=1073741824)(hq:qs q<=1073741824)(h0:q≠0):Spec Tryz.prog Tab 71 [q3 p,q3 q] (q3 (p/q)):=by
 have a1:=ZdW p;have a2:=ZdX p;have a3:=ZdW q;have a4:=ZdX q;have m1:=Zeu p.num.natAbs q.den;have m3:=Zeu p.den q.num.natAbs;have hk:0<q.num.natAbs:=Int.natAbs_pos.2 (fun h=>h0 (Rat.num_eq_zero.1 h));have dp:0<p.den*q.num.natAbs:=Nat.mul_pos p.den_pos hk;refine Zb Tryz.func71 Tryz.ntmps71 ?_;refine Zf5 fun b hb=> ZcN ω ω<|ZcN ω ω<|Zby (s:=b) (p.num.natAbs*q.den) (p.den*q.num.natAbs) rfl dp ω ω ⟨ωr,Eq.trans (b:=q3 (mkRat (sg b (p.num.natAbs*q.den)) (p.den*q.num.natAbs))) ?_ rfl⟩;rw[hb,ZpG,ZiR (ZbX p) rfl (ZbX q) rfl hk p.den_pos]
theorem ZeZ(hp:qs p<=1073741824)(hq:qs q<=1073741824)(h0:q≠0)(k:∀r,r=p/q->qs r<=qs p+qs q+1->K (q3 r)):Ask 71 [q3 p,q3 q] K:=use (Zr7 p q hp hq h0) rfl (k _ rfl (ZbZ p q))
theorem Zr8(p q:Rat)(hp:qs p<=1073741824)(hq:qs q<=1073741824):Spec Tryz.prog Tab 44 [q3 p,q3 q] (int (sgnQ (p-q))):=by
 refine Zb Tryz.func44 Tryz.ntmps44 ?_;refine Zci hp hq fun r h z=> Zbz fun n hn=> Eq.trans (b:=int n) ?_ rfl;rw[hn,h]
theorem Zd4(hp:qs p<=1073741824)(hq:qs q<=1073741824)(k:∀n,n=sgnQ (p-q)->K (int n)):Ask 44 [q3 p,q3 q] K:=use (Zr8 p q hp hq) rfl (k _ rfl)
theorem ZoG{p q:Rat}:sgnQ (p-q)<=0↔p<=q:=by
 have h:=ZkW (p-q);constructor
 .intro h1;have:¬0<p-q:=fun h2=>by have:=h.2 h2;omega
  grind
 .intro h1;apply Int.not_lt.1;intro h2;have:=h.1 h2
  grind
theorem ZoH{p q:Rat}:0<=sgnQ (p-q)↔q<=p:=by
 have h:sgnQ (p-q)<0↔p-q<0:=by
  rw[<-ZgJ];unfold sgnQ;split
  .omega
  .split<;>omega
 constructor
 .intro h1;have:¬p-q<0:=fun h2=>by have:=h.2 h2;omega
  grind
 .intro h1;apply Int.not_lt.1;intro h2;have:=h.1 h2
  grind
theorem ZjY(p q:Rat)(hp:qs p<=1073741824)(hq:qs q<=1073741824):Spec Tryz.prog Tab 119 [q3 p,q3 q] (q3 (minQ p q)):=by
 refine Zb Tryz.func119 Tryz.ntmps119 ?_;refine Zd4 hp hq fun n hn=>⟨fun e=>?_,fun e=>?_⟩
 .refine Eq.trans (b:=q3 p) ?_ rfl;have h:=oT e;rw[hn]at h;rw[minQ,if_pos (ZoG.1 h)]
 .refine Eq.trans (b:=q3 q) ?_ rfl;have h:=oF e;rw[hn]at h;rw[minQ,if_neg (fun h2=>h (ZoG.2 h2))]
theorem Z8(hp:qs p<=1073741824)(hq:qs q<=1073741824)(k:∀r,r=minQ p q->qs r<=qs p+qs q->K (q3 r)):Ask 119 [q3 p,q3 q] K:=use (ZjY p q hp hq) rfl (k _ rfl (by unfold minQ;split<;>omega))
theorem ZmT(p q:Rat)(hp:qs p<=1073741824)(hq:qs q<=1073741824):Spec Tryz.prog Tab 120 [q3 p,q3 q] (q3 (maxQ p q)):=by
 refine Zb Tryz.func120 Tryz.ntmps120 ?_;refine Zd4 hp hq fun n hn=>⟨fun e=>?_,fun e=>?_⟩
 .refine Eq.trans (b:=q3 p) ?_ rfl;have h:=oT e;rw[hn]at h;rw[maxQ,if_pos (ZoH.1 h)]
 .refine Eq.trans (b:=q3 q) ?_ rfl;have h:=oF e;rw[hn]at h;rw[maxQ,if_neg (fun h2=>h (ZoH.2 h2))]
theorem ZaF(hp:qs p<=1073741824)(hq:qs q<=1073741824)(k:∀r,r=maxQ p q->qs r<=qs p+qs q->K (q3 r)):Ask 120 [q3 p,q3 q] K:=use (ZmT p q hp hq) rfl (k _ rfl (by unfold maxQ;split<;>omega))
theorem Zhl(G:Nat)(hG:0<G):(wlen 4 G=1/\G/4294967296^0%4294967296=1)↔G=1:=by
 constructor
 .rintro⟨h1,h2⟩;rw[(Zil G hG).1 ω]at h2;exact h2
 .intro h;subst h;exact⟨by rw[<-Zi,ZaO];rfl,ωd⟩
theorem Zhi{d:ByteArray}(h:0<d.size):d[(0:Int).toNat]? =some d[0]:=getElem?_pos d 0 h
theorem ZdS{b:UInt8}:(((b.toNat:Int) !=0)=true)↔b≠0:=by
 rw[bne_iff_ne];constructor
 .intro h e;subst e;exact h rfl
 .intro h e;exact h (UInt8.toNat_inj.1 (by simpa using e))
theorem Zdj{d:ByteArray}(h:0<d.size)(h0:d[0]≠0):enc (nv d)=d:=Zg2 d h (Ze6 h h0)
theorem Zef{d:ByteArray}(h:¬d=⟨#[]⟩):0<d.size:=(ZeP h).2
theorem ZnK(x:RV)(hx:x.z<=8589934592):Spec Tryz.prog Tab 41 [rat x] (bool (decide x.good)):=by
 obtain⟨s,a,d⟩:=x;obtain⟨za,zd⟩:=ZJ hx;simp only at za zd;have tail:∀(_:enc (nv a)=a)(_:enc (nv d)=d)(_:0<nv d)(_:nv a=0->s=false),(RV.good ⟨s,a,d⟩↔Nat.gcd (nv a) (nv d)=1):=fun ea ed hp hs=>⟨fun h=>h.2.2.2.2,fun h=>⟨ea,ed,hp,hs,h⟩⟩;have bad:¬RV.good ⟨s,a,d⟩->bool (decide (RV.good ⟨s,a,d⟩))=bool false:=fun h=>by rw[decide_eq_false h]
 have wla:wlen 4 (nv a)<=8589934592:=Nat.le_trans (Zmg _) (Nat.le_trans (ZN a) za);have wld:wlen 4 (nv d)<=8589934592:=Nat.le_trans (Zmg _) (Nat.le_trans (ZN d) zd);have sa:(enc (nv a)).size<=34359738368:=by have:=ZN a;omega
 have sd:(enc (nv d)).size<=34359738368:=by have:=ZN d;omega
 cases s
 .refine Zb Tryz.func41 Tryz.ntmps41 ?_;refine Zaj (fun (e1:d=⟨#[]⟩)=>?_) (fun (e1:¬d=⟨#[]⟩)=>?_)
  .refine⟨fun _=> Eq.trans (b:=bool false) (bad fun h=>?_) rfl,fun e=>by simp at e⟩;have h1:0<nv d:=h.2.2.1;rw[e1,Zbt]at h1;omega
  .have hdp:=Zef e1;refine Zch d[0] ωd (Zhi hdp)<|fork (fun e2=>?_) (fun e2=>?_)
   .have hd0:=ZdS.1 e2;have ed:=Zdj hdp hd0;have hpd:=ZfT hdp ed;refine ZcO (fun (e3:a=⟨#[]⟩)=>?_) (fun (e3:¬a=⟨#[]⟩)=>?_)
    .have ea:enc (nv a)=a:=by rw[e3,Zbt,ZV]
     refine⟨fun e=>by simp at e,fun _=> Zbx ea.symm sa<|Zbx ed.symm sd<|Zhd wla wld ⟨ωr,?_⟩⟩;have hG:0<Nat.gcd (nv a) (nv d):=Nat.gcd_pos_of_pos_right _ hpd;have lg:=Zan (Nat.gcd (nv a) (nv d));have ht:=Zhl _ hG;have hgood:=tail ea ed hpd (fun _=>rfl);refine fork (fun e5=>?_) (fun e5=>?_)
     .have h1:wlen 4 (Nat.gcd (nv a) (nv d))=1:=by
       have:((((W (w32 (Nat.gcd (nv a) (nv d)))).length:Nat):Int)==1)=true:=e5;rw[lg]at this;simp at this;omega
      refine k_at [D.v (.int .u32 ((Nat.gcd (nv a) (nv d)/4294967296^0%4294967296:Nat):Int))] ωd (W_at (Zab (n:=Nat.gcd (nv a) (nv d)) (i:=0) ω)) rfl<|Eq.trans (b:=bool (((Nat.gcd (nv a) (nv d)/4294967296^0%4294967296:Nat):Int)==1)) ?_ rfl;congr 1;rw[Bool.eq_iff_iff,decide_eq_true_eq,hgood,<-ht,beq_iff_eq];omega
     .refine Eq.trans (b:=bool false) (bad (fun h=>?_)) rfl;have h1:=(ht.2 (hgood.1 h)).1;have:((((W (w32 (Nat.gcd (nv a) (nv d)))).length:Nat):Int)==1)=false:=e5;rw[lg,h1]at this;simp at this
    .refine Zaj (fun (e4:a=⟨#[]⟩)=>absurd e4 e3) (fun _=>?_);have hap:=Zef e3;refine Zch a[0] ωd (Zhi hap) ?_;by_cases ha0:a[0]=0
     .have h0:(((a[0]).toNat:Int) !=0)=false:=by rw[ha0];rfl
      refine⟨fun _=>?_,fun e=>absurd (show (!(((a[0]).toNat:Int) !=0))=false from e) (by rw[h0];simp)⟩;refine Eq.trans (b:=bool false) (bad fun h=>Zcu hap ha0 h.1) rfl
     .have h0:(((a[0]).toNat:Int) !=0)=true:=ZdS.2 ha0;have ea:=Zdj hap ha0;refine⟨fun e=>absurd (show (!(((a[0]).toNat:Int) !=0))=true from e) (by rw[h0];simp),fun _=> Zbx ea.symm sa<|Zbx ed.symm sd<|Zhd wla wld ⟨ωr,?_⟩⟩;have hG:0<Nat.gcd (nv a) (nv d):=Nat.gcd_pos_of_pos_right _ hpd;have lg:=Zan (Nat.gcd (nv a) (nv d));have ht:=Zhl _ hG;have hgood:=tail ea ed hpd (fun h=>absurd h (by have:=ZfT hap ea;omega));refine fork (fun e5=>?_) (fun e5=>?_)
      .have h1:wlen 4 (Nat.gcd (nv a) (nv d))=1:=by
        have:((((W (w32 (Nat.gcd (nv a) (nv d)))).length:Nat):Int)==1)=true:=e5;rw[lg]at this;simp at this;omega
       refine k_at [D.v (.int .u32 ((Nat.gcd (nv a) (nv d)/4294967296^0%4294967296:Nat):Int))] ωd (W_at (Zab (n:=Nat.gcd (nv a) (nv d)) (i:=0) ω)) rfl<|Eq.trans (b:=bool (((Nat.gcd (nv a) (nv d)/4294967296^0%4294967296:Nat):Int)==1)) ?_ rfl;congr 1;rw[Bool.eq_iff_iff,decide_eq_true_eq,hgood,<-ht,beq_iff_eq];omega
      .refine Eq.trans (b:=bool false) (bad (fun h=>?_)) rfl;have h1:=(ht.2 (hgood.1 h)).1;have:((((W (w32 (Nat.gcd (nv a) (nv d)))).length:Nat):Int)==1)=false:=e5;rw[lg,h1]at this;simp at this
   .refine⟨fun _=> Eq.trans (b:=bool false) (bad fun h=>?_) rfl,fun e=>by simp at e⟩;have hd0:d[0]=0:=by
     apply Classical.byContradiction;intro h0;have:=ZdS.2 h0;rw[this]at e2;simp at e2
    exact Zcu hdp hd0 h.2.1
 .refine Zb Tryz.func41 Tryz.ntmps41 ?_;refine Zaj (fun (e1:d=⟨#[]⟩)=>?_) (fun (e1:¬d=⟨#[]⟩)=>?_)
  .refine⟨fun _=> Eq.trans (b:=bool false) (bad fun h=>?_) rfl,fun e=>by simp at e⟩;have h1:0<nv d:=h.2.2.1;rw[e1,Zbt]at h1;omega
  .have hdp:=Zef e1;refine Zch d[0] ωd (Zhi hdp)<|fork (fun e2=>?_) (fun e2=>?_)
   .have hd0:=ZdS.1 e2;have ed:=Zdj hdp hd0;have hpd:=ZfT hdp ed;refine ZcO (fun (e3:a=⟨#[]⟩)=>?_) (fun (e3:¬a=⟨#[]⟩)=>?_)
    .refine Zaj (fun (e4:a=⟨#[]⟩)=>?_) (fun (e4:¬a=⟨#[]⟩)=>?_)
     .refine⟨fun _=> Eq.trans (b:=bool false) (bad fun h=>?_) rfl,fun e=>by simp at e⟩;have:=h.2.2.2.1 (by rw[e3];exact Zbt);simp at this
     .exact absurd e3 e4
    .refine Zaj (fun (e4:a=⟨#[]⟩)=>absurd e4 e3) (fun _=>?_);have hap:=Zef e3;refine Zch a[0] ωd (Zhi hap) ?_;by_cases ha0:a[0]=0
     .have h0:(((a[0]).toNat:Int) !=0)=false:=by rw[ha0];rfl
      refine⟨fun _=>?_,fun e=>absurd (show (!(((a[0]).toNat:Int) !=0))=false from e) (by rw[h0];simp)⟩;refine Eq.trans (b:=bool false) (bad fun h=>Zcu hap ha0 h.1) rfl
     .have h0:(((a[0]).toNat:Int) !=0)=true:=ZdS.2 ha0;have ea:=Zdj hap ha0;refine⟨fun e=>absurd (show (!(((a[0]).toNat:Int) !=0))=true from e) (by rw[h0];simp),fun _=> Zbx ea.symm sa<|Zbx ed.symm sd<|Zhd wla wld ⟨ωr,?_⟩⟩;have hG:0<Nat.gcd (nv a) (nv d):=Nat.gcd_pos_of_pos_right _ hpd;have lg:=Zan (Nat.gcd (nv a) (nv d));have ht:=Zhl _ hG;have hgood:=tail ea ed hpd (fun h=>absurd h (by have:=ZfT hap ea;omega));refine fork (fun e5=>?_) (fun e5=>?_)
      .have h1:wlen 4 (Nat.gcd (nv a) (nv d))=1:=by
        have:((((W (w32 (Nat.gcd (nv a) (nv d)))).length:Nat):Int)==1)=true:=e5;rw[lg]at this;simp at this;omega
       refine k_at [D.v (.int .u32 ((Nat.gcd (nv a) (nv d)/4294967296^0%4294967296:Nat):Int))] ωd (W_at (Zab (n:=Nat.gcd (nv a) (nv d)) (i:=0) ω)) rfl<|Eq.trans (b:=bool (((Nat.gcd (nv a) (nv d)/4294967296^0%4294967296:Nat):Int)==1)) ?_ rfl;congr 1;rw[Bool.eq_iff_iff,decide_eq_true_eq,hgood,<-ht,beq_iff_eq];omega
      .refine Eq.trans (b:=bool false) (bad (fun h=>?_)) rfl;have h1:=(ht.2 (hgood.1 h)).1;have:((((W (w32 (Nat.gcd (nv a) (nv d)))).length:Nat):Int)==1)=false:=e5;rw[lg,h1]at this;simp at this
   .refine⟨fun _=> Eq.trans (b:=bool false) (bad fun h=>?_) rfl,fun e=>by simp at e⟩;have hd0:d[0]=0:=by
     apply Classical.byContradiction;intro h0;have:=ZdS.2 h0;rw[this]at e2;simp at e2
    exact Zcu hdp hd0 h.2.1
theorem Zdh(hx:x.z<=8589934592)(k1:x.good->K (bool true))(k0:¬x.good->K (bool false)):Ask 41 [rat x] K:=by
 have h:=ZnK x hx;by_cases hg:x.good
 .rw[decide_eq_true hg]at h;exact use h rfl (k1 hg)
 .rw[decide_eq_false hg]at h;exact use h rfl (k0 hg)
theorem ZnL(x:RV)(hx:x.z<=8589934592):Spec Tryz.prog Tab 13 [rat x] (q3 x.q):=by
 refine Zb Tryz.func13 Tryz.ntmps13 ?_;refine Zdh hx (fun hg=>?_) (fun hg=>?_)
 .refine⟨fun e=>by simp at e,fun _=>?_⟩;have hc:=RV.good_cn hg;have hz:=hx;rw[hc]at hz;obtain⟨z1,z2⟩:=ZJ hz;have ha:x.a=enc x.q.num.natAbs:=congrArg RV.a hc;have hd:x.d=enc x.q.den:=congrArg RV.d hc;have hs:x.s=decide (x.q.num<0):=congrArg RV.s hc;refine Zbx ha (Nat.le_trans z1 ω)<|Zbx hd (Nat.le_trans z2 ω) ⟨ωr,Eq.trans (b:=.val (.agg [.d (.v (.bool (x.s))),.d (.list (W (w32 x.q.num.natAbs))),.d (.list (W (w32 x.q.den)))])) ?_ rfl⟩;rw[hs];rfl
 .refine⟨fun _=> k_N3 0 ω ω fun r hr _=> Eq.trans (b:=q3 r) ?_ rfl,fun e=>by simp at e⟩;have:x.q=0:=by
   show qv x.s x.a x.d=0;unfold qv;exact if_neg hg
  rw[hr,this];rfl
theorem Zq(hx:x.z<=8589934592)(k:∀r,r=x.q->qs r<=x.z+1->K (q3 r)):Ask 13 [rat x] K:=use (ZnL x hx) rfl (k _ rfl x.z1)
end
open Go.RowKit num mem seg q held ratA ratB ratC ratD ratE vars ratF natC natD natI sub32
def BL(l:List Int):List (List D):=l.map fun n=>[D.v (.int .u8 n)]
def RL(l:List Rat):List (List D):=l.map fun q=>rd (cn q)
section
variable{K:AV->Prop}
theorem Zuy(l:List (List D))(h:l.length<=1):Spec Tryz.prog Tab 184 [.val (.one (.d (.list l)))] (.tup []):=by
 refine Zb Tryz.func184 Tryz.ntmps184 ?_;refine⟨Unit,fun _=>[(2,int 0),(3,int (IntKind.i64.wrap ((l.length:Int)-1)))],fun _=>[],fun _=>True,fun _=>0,(),?_,trivial,fun _ _=>?_⟩
 .exact ωE
 refine⟨fun e=>?_,fun _=>?_⟩
 .have h1:=oT e;rw[wrap64 _ ω ω]at h1;omega
 .exact rfl
theorem ZvU(n:Nat)(h0:0<n)(h:n<256):strOfNums [(n:Int)]=enc n:=by
 apply ZcE;rw[strOfNums_data,Zbn,digs,if_neg ω,Nat.div_eq_of_lt h,Z2,Nat.mod_eq_of_lt h];simp
theorem Zj8(n:Nat)(hn:n<256):Spec Tryz.prog Tab 140 [int (n:Int)] (str (enc n)):=by
 refine Zb Tryz.func140 Tryz.ntmps140 ?_;refine⟨Bool,fun s=>[(0,int (bif s then 0 else (n:Int))),(3,.val (.one (.row 13 0)))],fun s=>[(13,.row 5 1 0 (BL (bif s then [(n:Int)] else [])) true)],fun s=>s=true->0<n,fun s=>bif s then 0 else 1,false,?_,fun h=>by simp at h,fun s hs=>?_⟩
 .constructor<;>(repeat' (first|exact rfl|exact True.intro|exact⟨_,_,rfl⟩|exact(by decide:0<1)|apply And.intro))
 have stop:∀l:List Int,l=(bif s then [(n:Int)] else [])->(bif s then 0 else (n:Int))<=0->strOfNums l=enc n/\l.length<=1:=by
  rintro l rfl h
  cases s with
  |true=>exact⟨ZvU n (hs rfl) hn,Nat.le_refl 1⟩
  |false=>
   have h0:n=0:=by simp at h;omega
   subst h0;exact⟨by rw[ZV];rfl,Nat.zero_le _⟩
 refine⟨fun e=>?_,fun e=>?_⟩
 .have h1:=oT e
  cases s with
  |true=>simp at h1
  |false=>
   have h2:0<n:=by simp at h1;omega
   refine Zd3 n 256 rfl rfl ωd<|Zdg Zx3 u_u8 (n:Int) (by unfold IntKind.wrap;simp[IntKind.signed,IntKind.bits];omega) ⟨⟨fun row hrow=>by rw[List.mem_singleton.1 hrow];rfl,(by decide:1*1<=140737488355328),(by decide:1<=140737488355328)⟩,Zb0 n 256 rfl rfl ωd ω ⟨true,fun _=>h2,by simp,?_⟩⟩;constructor<;>(repeat' apply And.intro)<;>first|exact ωq|exact congrArg (fun n:Nat=>D.v (.int .i64 (n:Int))) (show 0=n/256 by omega)
 .have h1:=oF e;obtain⟨h2,h3⟩:=stop _ rfl ω;refine use (Zuy (BL (bif s then [(n:Int)] else [])) (by unfold BL;rw[List.length_map];exact h3)) rfl ⟨_,⟨5,(bif s then [(n:Int)] else []),rfl,Zn4,u_u8,ZxL,rfl⟩,Eq.trans (b:=str (strOfNums (bif s then [(n:Int)] else []))) ?_ rfl⟩;rw[h2]
theorem Zct{x:Int}(n:Nat)(hx:x=n)(hn:n<256)(k:K (str (enc n))):Ask 140 [int x] K:=by
 subst hx;exact use (Zj8 n hn) rfl k
theorem Zzh(n:Nat):cn (n:Rat)=⟨false,enc n,enc 1⟩:=by
 unfold cn;rw[show ((n:Rat)).num=(n:Int) from Rat.num_natCast n,show ((n:Rat)).den=1 from Rat.den_natCast n,decide_eq_false ω];rfl
theorem Ztl(n:Nat)(hn:n<256):Spec Tryz.prog Tab 83 [int (n:Int),int 1] (rat (cn (n:Rat))):=by
 refine Zb Tryz.func83 Tryz.ntmps83 ?_;have hmx:(if IntKind.i64.wrap (0-(n:Int)) >(n:Int) then IntKind.i64.wrap (0-(n:Int)) else (n:Int))=(n:Int):=by
  rw[wrap64 _ ω ω];split<;>omega
 refine⟨Bool,fun s=>[(0,int (n:Int)),(1,int 1),(4,.val (.one (.ptr 4 0))),(5,int (bif s then 1 else (n:Int))),(6,int (bif s then 0 else 1))],
  fun s=>[(4,.var 23 [.d (.v (.bool false)),.d (.v (.string ⟨#[]⟩)),.d (.v (.string ⟨#[]⟩))])],fun _=>True,fun s=>bif s then 0 else 1,false,?_,trivial,fun s _=>?_⟩
 .exact ωE
 cases s with
 |false=>
  refine⟨fun _=> Zd3 n 1 rfl rfl ωd ⟨ωr,⟨true,trivial,by simp,?_⟩⟩,fun e=>by simp at e⟩;constructor<;>(repeat' apply And.intro)<;>first|exact ωq|exact congrArg (fun n:Nat=>D.v (.int .i64 (n:Int))) (show 0=n%1 by omega)
 |true=>
  refine⟨fun e=>by simp at e,fun _=> Zb0 n 1 rfl rfl ωd ω<|Zb0 1 1 rfl rfl ωd ω ⟨ωr,Zct n (by rw[Nat.div_one];exact hmx) hn<|Zct 1 rfl ωd<|Eq.trans (b:=rat ⟨decide (((n/1:Nat):Int)<0),enc n,enc 1⟩) ?_ rfl⟩⟩;rw[Zzh,decide_eq_false ω]
theorem ZrZ(l:List Rat):(RL l).length=l.length:=by simp[RL]
theorem ZnH{l:List Rat}{i:Nat}{q:Rat}(h:l[i]? =some q):(RL l)[i]? =some (rd (cn q)):=by simp[RL,h]
end
open Go.RowKit num mem seg q held ratA ratB ratC ratD ratE vars ratF natC natD natI sub32
section
variable{K:AV->Prop}{x y:RV}
theorem Zo9(l:List Rat):rats l= .val (.one (.d (.list (RL l)))):=rfl
theorem Zsf{α:Type}{l m:List α}{i:Nat}{a:α}(h:l.take i=m.take i)(h1:l[i]? =some a)(h2:m[i]? =some a):l.take (i+1)=m.take (i+1):=by
 rw[List.take_add_one,List.take_add_one,h,h1,h2]
theorem ZuC(l m:List Rat)(hn:l.length<=1099511627776)(hm:m.length<=1099511627776):Spec Tryz.prog Tab 82 [rats l,rats m] (bool (decide (l=m))):=by
 have:=hn;have hl:(RL l).length=l.length:=ZrZ l;have hml:(RL m).length=m.length:=ZrZ m;have bad:l≠m->bool (decide (l=m))=bool false:=fun h=>by rw[decide_eq_false h]
 rw[Zo9,Zo9];refine Zb Tryz.func82 Tryz.ntmps82 ?_;refine⟨fun e=>?_,fun e=>?_⟩
 .refine bad fun h=>?_;have e':((((RL l).length:Nat):Int) !=(((RL m).length:Nat):Int))=true:=e;rw[h]at e';simp at e'
 have hlm:l.length=m.length:=by
  have e':((((RL l).length:Nat):Int) !=(((RL m).length:Nat):Int))=false:=e;rw[hl,hml]at e';simp at e';omega
 refine⟨Nat,fun i=>[(0,.val (.one (.d (.list (RL l))))),(1,.val (.one (.d (.list (RL m))))),(12,int (((RL l).length:Nat):Int)),(13,int (i:Int))],fun _=>[],fun i=>i<=l.length/\l.take i=m.take i,fun i=>l.length-i,0,?_,⟨Nat.zero_le _,rfl⟩,fun i hi=>?_⟩
 .exact ωE
 obtain⟨hi,htk⟩:=hi;refine⟨fun e=>?_,fun e=>?_⟩
 .have h1:=oT e;have hil:i<l.length:=ω;obtain⟨a,ha⟩:∃a,l[i]? =some a:=⟨_,gE hil⟩;obtain⟨b,hb⟩:∃b,m[i]? =some b:=⟨_,gE ω⟩;refine k_at (rd (cn a)) (Int.natCast_nonneg _) (by rw[Int.toNat_natCast];exact ZnH ha) rfl<|k_at (rd (cn b)) (Int.natCast_nonneg _) (by rw[Int.toNat_natCast];exact ZnH hb) rfl ?_;by_cases hab:a=b
  .subst hab;refine ZeX (x:=cn a) (y:=cn a) (fun _=>⟨ωr,⟨fun e=>by simp at e,fun _=>⟨i+1,⟨hil,Zsf htk ha hb⟩,by simp only;omega,?_⟩⟩⟩) (fun h=>absurd rfl h);constructor<;>(repeat' (first|exact rfl|exact True.intro|apply And.intro))
   all_goals exact congrArg (fun n:Int=>D.v (.int .i64 n)) (show ((i+1:Nat):Int)=IntKind.i64.wrap ((i:Int)+1) by rw[wrap64 _ ω ω];omega)
  .refine ZeX (x:=cn a) (y:=cn b) (fun h=>absurd (Zzi.1 h) hab) (fun _=>⟨ωr,⟨fun _=> bad fun h=>hab ?_,fun e=>by simp at e⟩⟩);rw[h,hb]at ha;exact(sI ha).symm
 .have h1:=oF e;have hil:i=l.length:=ω;subst hil;refine Eq.trans (b:=bool true) ?_ rfl;rw[List.take_length,List.take_of_length_le ω]at htk;rw[decide_eq_true htk]
theorem ZtD(l m:List Rat){u v:List (List D)}(hu:u=RL l)(hv:v=RL m)(hn:l.length<=1099511627776)(hm:m.length<=1099511627776)(k:∀b,b=decide (l=m)->K (bool b)):Ask 37 [.val (.one (.d (.list u))),.val (.one (.d (.list v)))] K:=by
 subst hu hv;refine use (r:=bool (decide (l=m))) (Zb Tryz.func37 Tryz.ntmps37 ?_) rfl (k _ rfl);exact use (ZuC l m hn hm) rfl rfl
def q3d(q:Rat):List D:=[.v (.bool (decide (q.num<0))),.list (W (w32 q.num.natAbs)),.list (W (w32 q.den))]
def QL(l:List Rat):List (List D):=l.map q3d
theorem Zuz{l:List Rat}{i:Nat}{q:Rat}(h:l[i]? =some q):(QL l)[i]? =some (q3d q):=by simp[QL,h]
theorem Zzv(l:List Rat):(QL l).length=l.length:=by simp[QL]
theorem Zr1(l:List Rat):∀row,row∈QL l->row.length=3:=by
 intro row hr;obtain⟨q,_,rfl⟩:=List.mem_map.1 hr;rfl
def midQ(p o:Int)(a b:Rat):Rat:=a+(p:Rat)/(o:Rat)*(b-a)
def midL(l m:List RV)(p o:Int):List Rat:=List.zipWith (fun x y=>midQ p o x.q y.q) l m
def vr(l:List RV):List (List D):=l.map rd
theorem ZnZ{l:List RV}{i:Nat}{x:RV}(h:l[i]? =some x):(vr l)[i]? =some (rd x):=by simp[vr,h]
theorem ZdY(l:List RV):(vr l).length=l.length:=by simp[vr]
theorem Zau(l m:List RV)(p o:Int):(midL l m p o).length=min l.length m.length:=by simp[midL]
theorem ZjV{l m:List RV}{p o:Int}{i:Nat}{x y:RV}(h1:l[i]? =some x)(h2:m[i]? =some y):(midL l m p o)[i]? =some (midQ p o x.q y.q):=by simp[midL,List.getElem?_zipWith,h1,h2]
theorem Zwt(p o:Int)(hp1:-9223372036854775808<=p)(hp2:p<=9223372036854775807)(ho1:-9223372036854775808<=o)(ho2:o<=9223372036854775807)(a b:Rat):qs (midQ p o a b)<=2*qs a+qs b+24:=by
 have h1:=Zal hp1 hp2;have h2:=Zal ho1 ho2;have h3:=ZbZ (p:Rat) (o:Rat);have h4:=Zac b a;have h5:=ZX ((p:Rat)/(o:Rat)) (b-a);have h6:=ZR a ((p:Rat)/(o:Rat)*(b-a));unfold midQ;omega
theorem ZdH{l m:List RV}{p o:Int}{Z:Nat}(hp1:-9223372036854775808<=p)(hp2:p<=9223372036854775807)(ho1:-9223372036854775808<=o)(ho2:o<=9223372036854775807)(hl:∀x,x∈l->x.z<=Z)(hm:∀x,x∈m->x.z<=Z):∀q,q∈midL l m p o->qs q<=3*Z+27:=by
 intro q hq;obtain⟨i,hi,rfl⟩:=List.getElem_of_mem hq;rw[Zau]at hi;have e:=ZjV (p:=p) (o:=o) (gE (show i<l.length by omega)) (gE (show i<m.length by omega));have e2:(midL l m p o)[i]? =some (midL l m p o)[i]:=gE (by rw[Zau];exact hi);rw[e]at e2;rw[<-sI e2];have h1:=Zwt p o hp1 hp2 ho1 ho2 (l[i]' ω).q (m[i]' ω).q;have h2:=hl _ (List.getElem_mem (by omega:i<l.length));have h3:=hm _ (List.getElem_mem (by omega:i<m.length));have h4:=(l[i]' ω).z1;have h5:=(m[i]' ω).z1;omega
theorem ZuD(l m:List RV)(p o:Int)(hp1:-9223372036854775808<=p)(hp2:p<=9223372036854775807)(ho1:-9223372036854775808<=o)(ho2:o<=9223372036854775807)(hl:∀x,x∈l->x.z<=16777216)(hm:∀x,x∈m->x.z<=16777216)(hn:l.length<=1073741824)(hn':m.length<=1073741824):
  Spec Tryz.prog Tab 100 [.val (.one (.d (.list (vr l)))),.val (.one (.d (.list (vr m)))),int p,int o] (rats (midL l m p o)):=by
 have hll:=ZdY l;have hml:=ZdY m;have hlen:=Zau l m p o;refine Zb Tryz.func100 Tryz.ntmps100 ?_;refine use (ZfS p o hp1 hp2 ho1 ho2) rfl ?_;obtain⟨r,hr⟩:∃r,r=quotR (p:Rat) (o:Rat):=⟨_,rfl⟩;have hrq:r.q=(p:Rat)/(o:Rat):=by
  rw[hr];unfold quotR;split
  .rename_i h;rw[h,z0_q,Rat.div_def,Rat.inv_zero,Rat.mul_zero]
  .rw[cn_q]
 have hrz:r.z<=17:=by
  rw[hr];unfold quotR;split
  .rw[z0_z];omega
  .have:=ZbZ (p:Rat) (o:Rat);have:=Zal hp1 hp2;have:=Zal ho1 ho2;rw[cn_z];omega
 rw[<-hr];clear hr;have hmn:(if (((vr m).length:Nat):Int)<(((vr l).length:Nat):Int) then (((vr m).length:Nat):Int) else (((vr l).length:Nat):Int))=(((midL l m p o).length:Nat):Int):=by
  rw[hll,hml,hlen];split<;>omega
 refine⟨Nat,fun i=>[(0,.val (.one (.d (.list (vr l))))),(1,.val (.one (.d (.list (vr m))))),(9,.val (.one (.ptr 9 0))),(11,.val (.one (.row 45 0))),(23,int (((midL l m p o).length:Nat):Int)),(24,int (i:Int))],
  fun i=>[(9,.var 23 (rc r)),(45,.row 23 3 0 (RL ((midL l m p o).take i)) true)],fun i=>i<=(midL l m p o).length,fun i=>(midL l m p o).length-i,0,?_,Nat.zero_le _,fun i hi=>?_⟩
 .constructor<;>(repeat' (first|exact rfl|exact True.intro|exact⟨_,_,rfl⟩|exact(by decide:0<3)|apply And.intro))
  all_goals exact congrArg (fun n:Int=>D.v (.int .i64 n)) hmn.symm
 refine⟨fun e=>?_,fun e=>?_⟩
 .have hlt:i<(midL l m p o).length:=by have:=oT e;omega
  obtain⟨x,hx⟩:∃a,l[i]? =some a:=⟨_,gE ω⟩;obtain⟨y,hy⟩:∃a,m[i]? =some a:=⟨_,gE ω⟩;have hxz:=hl x (mG hx);have hyz:=hm y (mG hy);have hlt2:(RL ((midL l m p o).take i)).length<=1099511627776:=by simp[RL];omega
  have hat:=ZjV (p:=p) (o:=o) hx hy;refine k_at (rd x) (Int.natCast_nonneg _) (by rw[Int.toNat_natCast];exact ZnZ hx) rfl<|k_at (rd y) (Int.natCast_nonneg _) (by rw[Int.toNat_natCast];exact ZnZ hy) rfl<|k_at (rd x) (Int.natCast_nonneg _) (by rw[Int.toNat_natCast];exact ZnZ hx) rfl<|Zd7 (x:=y) (y:=x) ω ω fun q1 h1 z1=> Zcy (x:=r) ω ω fun q2 h2 z2=> Zd8 (x:=x) ω ω fun q3 h3 z3=>?_;have hq:RL ((midL l m p o).take (i+1))=RL ((midL l m p o).take i)++[rd (cn q3)]:=by
   rw[List.take_add_one,hat];simp only[cn_q]at h1 h2 h3;rw[h3,h2,h1,hrq];simp[RL,midQ]
  refine⟨⟨ZsP [q3],?_,?_⟩,?_⟩
  .show ((RL ((midL l m p o).take i)).length+1)*40<=_;omega
  .show (RL ((midL l m p o).take i)).length+1<=_;omega
  refine⟨ωr,⟨i+1,hlt,by simp only;omega,?_⟩⟩;constructor<;>(repeat' apply And.intro)<;>first|exact ωq|exact congrArg (fun n:Int=>D.v (.int .i64 n)) (show ((i+1:Nat):Int)=IntKind.i64.wrap ((i:Int)+1) by rw[wrap64 _ ω ω];omega)|(rw[hq];exact rfl)
 .have hge:i=(midL l m p o).length:=by have:=oF e;omega
  subst hge;refine Eq.trans (b:=.val (.one (.d (.list (RL ((midL l m p o).take (midL l m p o).length)))))) ?_ rfl;rw[List.take_length];rfl
end
