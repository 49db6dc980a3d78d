/- Joined by wip/bundle.py: XEngFl XSmall XArm0. -/
import Derived.Test.YtnhfpbcbhnfeaaaGreatDoorQGrpP
set_option maxRecDepth 100000
namespace Go.Proofs.YtnhfpbcbhnfeaaaGreatDoor.eng
open Go.RowKit num mem seg q held ratA ratB ratC ratD ratE vars ratF natC natD natI
def str(s:ByteArray):AV:=.val (.one (.d (.v (.string s))))
section
variable{x y:RV}{K:AV->Prop}{a b:ByteArray}{n m:Nat}
theorem ZpJ(a b:ByteArray)(ha:a.size<=35184372088832)(hb:b.size<=35184372088832)(h0:0<nv b):Spec Tryz.prog Tab 157 [str a,str b] (.tup [.one (.d (.v (.string (enc (nv a/nv b))))),.one (.d (.v (.string (enc (nv a%nv b))))),.one (.d (.v (.int .i64 0)))]):=
 Zo (Zn Tryz.func157 rfl rfl) rfl rfl fun w _=>(ZhD a b w ha hb h0).mono fun _ _ h=>h
theorem Zvr(ha:a.size<=35184372088832)(hb:b.size<=35184372088832)(h0:0<nv b)(k:K (.tup [.one (.d (.v (.string (enc (nv a/nv b))))),.one (.d (.v (.string (enc (nv a%nv b))))),.one (.d (.v (.int .i64 0)))])):Ask 157 [str a,str b] K:=
 use (ZpJ a b ha hb h0) rfl k
theorem ZpL(a b:ByteArray)(ha:a.size<=70368744177663)(hb:b.size<=70368744177663):Spec Tryz.prog Tab 99 [str a,str b] (str (enc (nv a+nv b))):=
 Zo (Zn Tryz.func99 rfl rfl) rfl rfl fun w _=>(Add_any a b w ha hb).mono fun _ _ h=>h
theorem ZyP(ha:a.size<=70368744177663)(hb:b.size<=70368744177663)(k:K (str (enc (nv a+nv b)))):Ask 99 [str a,str b] K:=
 use (ZpL a b ha hb) rfl k
theorem Zta(n:Int)(h:n<=9223372036854775807):Spec Tryz.prog Tab 98 [int n] (str (enc n.toNat)):=
 Zo (Zn Tryz.func98 rfl rfl) rfl rfl fun w _=>(Zr4 n w h).mono fun _ _ h=>h
theorem ZwI{n:Int}(h:n<=9223372036854775807)(k:K (str (enc n.toNat))):Ask 98 [int n] K:=use (Zta n h) rfl k
theorem ZpI(a:ByteArray):Spec Tryz.prog Tab 97 [str a] (two (int (intV (nv a))) (int (intE (nv a)))):=
 Zo (Zn Tryz.func97 rfl rfl) rfl rfl fun w _=>(Zxz a w).mono fun _ _ h=>⟨h.1,h.2▸Below.refl _ _⟩
theorem ZyO(k:∀v e,v=intV (nv a)->e=intE (nv a)->K (two (int v) (int e))):Ask 97 [str a] K:=use (ZpI a) rfl (k _ _ rfl rfl)
theorem Zp0(s:Bool)(n d:Nat)(hn:(enc n).size<=17592186044416)(hd:(enc d).size<=17592186044416)(h0:0<d):Spec Tryz.prog Tab 94 [bool s,str (enc n),str (enc d)] (rat (cn (mkRat (sg s n) d))):=by
 refine Zo (Zn Tryz.func94 rfl rfl) rfl rfl fun w hT=>?_;refine(Zcs s n d w hn hd h0 hT).mono fun e w' ⟨u,c,f,he,hi,hb⟩=>?_;obtain⟨rfl,rfl,rfl⟩:=Ze2 hi;exact⟨he,hb⟩
theorem Zlv{s:Bool}(n d:Nat)(ha:a=enc n)(hb:b=enc d)(hn:(enc n).size<=17592186044416)(hd:(enc d).size<=17592186044416)(h0:0<d)(k:K (rat (cn (mkRat (sg s n) d)))):Ask 94 [bool s,str a,str b] K:=by
 subst ha hb;exact use (Zp0 s n d hn hd h0) rfl k
theorem Zt8(x:RV)(hx:x.z<=17592186044416):Spec Tryz.prog Tab 91 [rat x] (rat (cn x.q)):=by
 refine Zo (Zn Tryz.func91 rfl rfl) rfl rfl fun w hT=>?_;obtain⟨h1,h2⟩:=ZJ hx;refine(Zak x.s x.a x.d w h1 h2 hT).mono fun e w' ⟨u,c,f,he,hi,hb⟩=>?_;obtain⟨rfl,rfl,rfl⟩:=Ze2 hi;exact⟨he,hb⟩
theorem ZzU(hx:x.z<=17592186044416)(k:∀q,q=x.q->(cn q).z<=x.z+1->K (rat (cn q))):Ask 91 [rat x] K:=use (Zt8 x hx) rfl (k _ rfl (by have:=x.z1;rw[cn_z];omega))
theorem ZpE(ox oy:Operand)(s t:ByteArray)(w:World):(do eqGuard .neq 9 ox oy (.string s) (.string t);binOp .neq 9 (.string s) (.string t):Sem Value).run Tryz.prog w= .ok (.bool (!decide (s=t))) w:=by
 by_cases H:s=t
 .obtain rfl:=H;simp[go_sem]
 .rw[decide_eq_false H];simp[go_sem,ZrK,H]
theorem Zq5(ox oy:Operand)(s t:ByteArray)(w:World):(do eqGuard .eql 9 ox oy (.string s) (.string t);binOp .eql 9 (.string s) (.string t):Sem Value).run Tryz.prog w= .ok (.bool (decide (s=t))) w:=by
 by_cases H:s=t
 .obtain rfl:=H;simp[go_sem]
 .rw[decide_eq_false H];simp[go_sem,ZrK,H]
theorem Zaj{ox oy:Operand}{s t:ByteArray}(k1:s=t->K (bool false))(k0:¬s=t->K (bool true)):AskB .neq 9 ox oy (.string s) (.string t) K:=by
 by_cases H:s=t
 .exact useB (fun w=>by have:=ZpE ox oy s t w;rw[decide_eq_true H]at this;exact this) (k1 H)
 .exact useB (fun w=>by have:=ZpE ox oy s t w;rw[decide_eq_false H]at this;exact this) (k0 H)
theorem ZcO{ox oy:Operand}{s t:ByteArray}(k1:s=t->K (bool true))(k0:¬s=t->K (bool false)):AskB .eql 9 ox oy (.string s) (.string t) K:=by
 by_cases H:s=t
 .exact useB (fun w=>by have:=Zq5 ox oy s t w;rw[decide_eq_true H]at this;exact this) (k1 H)
 .exact useB (fun w=>by have:=Zq5 ox oy s t w;rw[decide_eq_false H]at this;exact this) (k0 H)
def upN(s:Bool)(n m:Nat):Nat:=if s=true/\n%m≠0 then n/m+1 else n/m
theorem ZxK(s:Bool)(n m:Nat)(hm:0<m):sg s (upN s n m)=sg s n/(m:Int):=by
 unfold upN
 cases s with
 |false=>rw[if_neg (by simp)];exact Int.natCast_ediv n m
 |true=>
  have hm':(0:Int)<(m:Int):=ω;have e:=Nat.div_add_mod n m;have e':(m:Int)*((n/m:Nat):Int)+((n%m:Nat):Int)=(n:Int):=by rw[<-Int.natCast_mul,<-Int.natCast_add,e]
  have hlt:=Nat.mod_lt n hm;by_cases hr:n%m=0
  .rw[if_neg (by simp[hr])];refine((Int.ediv_emod_unique hm' (q:=-((n/m:Nat):Int)) (r:=0)).2 ⟨?_,ω,hm'⟩).1.symm;show 0+(m:Int)* -((n/m:Nat):Int)=-(n:Int);rw[Int.mul_neg];omega
  .rw[if_pos ⟨rfl,hr⟩];refine((Int.ediv_emod_unique hm' (q:=-((n/m+1:Nat):Int)) (r:=(m:Int)-((n%m:Nat):Int))).2 ⟨?_,ω,ω⟩).1.symm;show (m:Int)-((n%m:Nat):Int)+(m:Int)* -((n/m+1:Nat):Int)=-(n:Int);rw[Int.mul_neg,Int.natCast_add,Int.mul_add];simp only[Int.natCast_one,Int.mul_one];omega
theorem ZxJ(s:Bool)(n m:Nat):upN s n m<=n+1:=by
 unfold upN;have:=Nat.div_le_self n m;split<;>omega
theorem Zff:(enc 1).size=1:=by rw[ZbU];rfl
theorem Zgs(s:Bool)(n m:Nat):(enc (upN s n m)).size<=(enc n).size+2:=by
 have h1:=ZaJ (ZxJ s n m);have h2:(enc (n+1)).size<=((enc n).size+1)+1:=ZdP (a:=n) (b:=1) (k:=(enc n).size+1) ω (by rw[Zff];omega);omega
theorem Zfd{n:Nat}:enc n=⟨#[]⟩↔n=0:=by
 constructor
 .intro h;have:=Ze n;rw[h]at this;rw[<-this];exact Zbt
 .intro h;subst h;exact ZV
theorem Zmh(s:Bool)(n m:Nat)(hm0:0<m)(hn:(enc n).size<=8796093022208)(hm:(enc m).size<=8796093022208):Spec Tryz.prog Tab 96 [rat ⟨s,enc n,enc m⟩] (rat (cn (mkRat (sg s (upN s n m)) 1))):=by
 have h1:(enc (n/m)).size<=8796093022208:=Nat.le_trans (ZaJ (Nat.div_le_self n m)) hn;have hup:=Zgs s n m;have hs1:(enc 1).size<=17592186044416:=by rw[Zff];omega
 cases s
 .refine Zb Tryz.func96 Tryz.ntmps96 ?_;exact Zvr (a:=enc n) (b:=enc m) ω ω (by rw[Ze];exact hm0) ⟨fun e=>by simp at e,fun _=> Zlv (n/m) 1 (by rw[Ze,Ze]) ZbU.symm ω hs1 Nat.one_pos rfl⟩
 .refine Zb Tryz.func96 Tryz.ntmps96 ?_;refine Zvr (a:=enc n) (b:=enc m) ω ω (by rw[Ze];exact hm0) ?_;rw[Ze,Ze];refine Zaj (fun e=>?_) (fun e=>?_)
  .refine⟨fun e=>by simp at e,fun _=> Zlv (n/m) 1 rfl ZbU.symm ω hs1 Nat.one_pos ?_⟩;have h0:n%m=0:=Zfd.1 e;refine Eq.trans (b:=rat (cn (mkRat (sg true (n/m)) 1))) ?_ rfl;rw[upN,if_neg (by simp[h0])]
  .have h0:¬n%m=0:=fun h=>e (Zfd.2 h);refine⟨fun _=> ZyP (a:=enc (n/m)) (b:=⟨#[1]⟩) ω (by show (1:Nat)<=_;omega) (Zlv (n/m+1) 1 (by rw[Ze,ZfX]) ZbU.symm (by rw[upN,if_pos ⟨rfl,h0⟩]at hup;omega) hs1 Nat.one_pos<|Eq.trans (b:=rat (cn (mkRat (sg true (n/m+1)) 1))) ?_ rfl),fun e=>by simp at e⟩;rw[upN,if_pos ⟨rfl,h0⟩]
theorem Zdn(q:Rat):mkRat (sg (decide (q.num<0)) (upN (decide (q.num<0)) q.num.natAbs q.den)) 1=((q.floor:Int):Rat):=by
 rw[ZxK _ _ _ q.den_pos,ZbX,Zim,Rat.floor_def]
theorem ZgS(q:Rat):qs ((q.floor:Int):Rat)<=qs q+2:=by
 rw[<-Zdn,Zim];unfold qs;rw[Rat.num_intCast,Rat.den_intCast,ZbE,Zff];have:=Zgs (decide (q.num<0)) q.num.natAbs q.den;omega
theorem Zmi(q:Rat)(hq:(cn q).z<=8796093022208):Spec Tryz.prog Tab 96 [rat (cn q)] (rat (cn ((q.floor:Int):Rat))):=by
 have h:=ZJ hq;have:=Zmh (decide (q.num<0)) q.num.natAbs q.den q.den_pos h.1 h.2;rw[Zdn]at this;exact this
theorem Zqc{q:Rat}(hq:(cn q).z<=8796093022208)(k:∀p,p=((q.floor:Int):Rat)->(cn p).z<=(cn q).z+2->K (rat (cn p))):Ask 96 [rat (cn q)] K:=
 use (Zmi q hq) rfl (k _ rfl (by rw[cn_z,cn_z];exact ZgS q))
def flV(q:Rat):Int:=if q.floor<0 then -intV q.floor.natAbs else intV q.floor.natAbs
def flE(q:Rat):Int:=intE q.floor.natAbs
theorem Znc(n:Nat):0<=intV n/\intV n<=9223372036854775807:=by unfold intV;split<;>omega
theorem wrap64'(n:Int)(h1:-9223372036854775808<=n)(h2:n<=9223372036854775807):IntKind.i64.wrap n=n:=by
 unfold IntKind.wrap;simp[IntKind.signed,IntKind.bits];split<;>omega
theorem Znj(x:RV)(hx:x.z<=4398046511104):Spec Tryz.prog Tab 55 [rat x] (two (int (flV x.q)) (int (flE x.q))):=by
 refine Zb Tryz.func55 Tryz.ntmps55 ?_;refine ZzU ω fun q e1 z1=> Zqc ω fun p e2 z2=>?_;have hnum:p.num=x.q.floor:=by rw[e2,e1];exact Rat.num_intCast _
 refine ZyO (a:=enc p.num.natAbs) fun v e hv he=>?_;rw[Ze,hnum]at hv he;have hr:=Znc x.q.floor.natAbs;refine⟨fun h=>?_,fun h=>?_⟩
 .have h':p.num<0:=oT h;rw[hnum]at h';refine Eq.trans (b:=two (int (IntKind.i64.wrap (0-v))) (int e)) ?_ rfl;rw[wrap64' _ ω ω,hv,he,flV,if_pos h',Int.zero_sub,flE]
 .have h':¬p.num<0:=oF h;rw[hnum]at h';refine Eq.trans (b:=two (int v) (int e)) ?_ rfl;rw[hv,he,flV,if_neg h',flE]
theorem ZwM(hx:x.z<=4398046511104)(k:∀v e,v=flV x.q->e=flE x.q->K (two (int v) (int e))):Ask 55 [rat x] K:=use (Znj x hx) rfl (k _ _ rfl rfl)
def dnN(den:Int):Int:=if 1 >den then 1 else den
theorem Zrg(den:Int)(h:den<=9223372036854775807):0<dnN den/\dnN den<=9223372036854775807:=by unfold dnN;split<;>omega
def downQ(q:Rat)(den:Int):Rat:=mkRat ((q*((dnN den:Int):Rat)).floor) (dnN den).toNat
theorem ZzO(n:Nat):RV.q ⟨false,enc n,⟨#[1]⟩⟩=((n:Int):Rat)/\RV.z ⟨false,enc n,⟨#[1]⟩⟩=max (enc n).size 1:=by
 have:(⟨false,enc n,⟨#[1]⟩⟩:RV)=cn ((n:Int):Rat):=by
  unfold cn;rw[Rat.num_intCast,Rat.den_intCast,ZbU];simp
 refine⟨by rw[this,cn_q],rfl⟩
theorem Zw7{n:Nat}(h:n<=9223372036854775807):(enc n).size<=8:=Zh.2 ω
theorem Zre(x:RV)(den:Int)(hx:x.z<=1099511627776)(hd:den<=9223372036854775807):Spec Tryz.prog Tab 232 [rat x,int den] (rat (cn (downQ x.q den))):=by
 obtain⟨d1,d2⟩:=Zrg den hd;have hs:(enc (dnN den).toNat).size<=8:=Zw7 ω;obtain⟨n1,n2⟩:=ZzO (dnN den).toNat;refine Zb Tryz.func232 Tryz.ntmps232 ?_;refine ZwI (n:=dnN den) d2<|Zcy (y:=⟨false,enc (dnN den).toNat,⟨#[1]⟩⟩) ω (by rw[n2];omega) fun q e1 z1=>?_;rw[n1,Int.toNat_of_nonneg ω]at e1;rw[n2]at z1;refine Zqc ω fun p e2 z2=>?_;have hnum:p.num=(x.q*((dnN den:Int):Rat)).floor:=by rw[e2,e1];exact Rat.num_intCast _
 refine Zlv (s:=decide (p.num<0)) (a:=enc p.num.natAbs) p.num.natAbs (dnN den).toNat rfl rfl (by have:=(ZJ (x:=cn p) (Nat.le_refl _)).1;exact Nat.le_trans this ω) ω ω<|Eq.trans (b:=rat (cn (mkRat (sg (decide (p.num<0)) p.num.natAbs) (dnN den).toNat))) ?_ rfl;rw[ZbX,hnum];rfl
theorem ZdA(q:Rat)(den:Int)(hd:den<=9223372036854775807):qs (downQ q den)<=qs q+40:=by
 obtain⟨d1,d2⟩:=Zrg den hd;unfold downQ;have h1:mkRat (q*((dnN den:Int):Rat)).floor (dnN den).toNat=(((q*((dnN den:Int):Rat)).floor:Int):Rat)/((dnN den:Int):Rat):=by
  rw[Rat.mkRat_eq_div];congr 1;rw[<-Rat.intCast_natCast,Int.toNat_of_nonneg ω]
 rw[h1];have:=ZbZ (((q*((dnN den:Int):Rat)).floor:Int):Rat) ((dnN den:Int):Rat);have:=ZgS (q*((dnN den:Int):Rat));have:=ZX q ((dnN den:Int):Rat);have:qs ((dnN den:Int):Rat)<=8:=Zal ω d2;omega
theorem Zvv{den:Int}(hx:x.z<=1099511627776)(hd:den<=9223372036854775807)(k:∀q,q=downQ x.q den->(cn q).z<=x.z+41->K (rat (cn q))):Ask 232 [rat x,int den] K:=
 use (Zre x den hx hd) rfl (k _ rfl (by have:=ZdA x.q den hd;have:=x.z1;rw[cn_z];omega))
def upQ(q:Rat)(den:Int):Rat:=-downQ (-q) den
theorem ZvP(x:RV)(den:Int)(hx:x.z<=549755813888)(hd:den<=9223372036854775807):Spec Tryz.prog Tab 233 [rat x,int den] (rat (cn (upQ x.q den))):=by
 refine Zb Tryz.func233 Tryz.ntmps233 ?_;refine ZwH ω fun p e1 z1=> Zvv ω hd fun q e2 z2=>?_;rw[cn_q]at e2;refine ZwH ω fun r e3 z3=>?_;rw[cn_q]at e3;refine Eq.trans (b:=rat (cn r)) ?_ rfl;rw[e3,e2,e1];rfl
theorem k_up{den:Int}(hx:x.z<=549755813888)(hd:den<=9223372036854775807)(k:∀q,q=upQ x.q den->(cn q).z<=x.z+60->K (rat (cn q))):Ask 233 [rat x,int den] K:=
 use (ZvP x den hx hd) rfl (k _ rfl (by have:=ZdA (-x.q) den hd;have:=ZbY x.q;have h3:=ZbY (downQ (-x.q) den);have:=x.z1;rw[cn_z];show qs (-downQ (-x.q) den)<=_;omega))
end
section
variable{K:AV->Prop}{a b:ByteArray}{x y r t:RV}{p q:Rat}
theorem ZpK(a b:ByteArray):Spec Tryz.prog Tab 92 [str a,str b] (int (cmpN (nv a) (nv b))):=
 Zo (Zn Tryz.func92 rfl rfl) rfl rfl fun w _=>(ZdV a b w).mono fun _ _ h=>⟨h.1,h.2▸Below.refl _ _⟩
theorem Zvs(n m:Nat)(ha:nv a=n)(hb:nv b=m)(k:∀c,c=cmpN n m->K (int c)):Ask 92 [str a,str b] K:=by
 subst ha hb;exact use (ZpK a b) rfl (k _ rfl)
theorem Zkc{a b:Nat}:cmpN a b<=0↔a<=b:=by
 unfold cmpN;split
 .omega
 .split<;>omega
def smallP(x:RV):Prop:=x.good/\nv x.a<=1000000/\nv x.d<=1000
instance (x:RV):Decidable (smallP x):=by unfold smallP;infer_instance
theorem ZwR(hx:x.z<=4398046511104)(k:K (bool (decide (smallP x)))):Ask 194 [rat x] K:=by
 refine use (r:=bool (decide (smallP x))) ?_ rfl k;have bad:¬smallP x->bool (decide (smallP x))=bool false:=fun h=>by rw[decide_eq_false h]
 have len:∀(s:ByteArray)(m j:Nat),enc (nv s)=s->nv s<=m->m<256^j->s.size<=j:=by
  intro s m j h1 h2 h3;rw[<-h1];exact Zh.2 ω
 refine Zb Tryz.func194 Tryz.ntmps194 ?_;refine fork (fun e1=>?_) (fun e1=>?_)
 .refine fork (fun e2=>?_) (fun e2=>?_)
  .refine Zqq ω fun g hg=>?_
   cases g with
   |true=>
    have hgood:x.good:=oT hg.symm;refine ZwI (n:=1000000) ω<|Zvs (nv x.a) 1000000 rfl (Ze _) fun c1 h1=> fork (fun e3=>?_) (fun e3=>?_)
    .have g1:nv x.a<=1000000:=Zkc.1 (by rw[<-h1];exact oT e3);refine ZwI (n:=1000) ω<|Zvs (nv x.d) 1000 rfl (Ze _) fun c2 h2=>⟨ωr,Eq.trans (b:=bool (decide (c2<=0))) ?_ rfl⟩;congr 1;rw[decide_eq_decide,h2,Zkc];exact⟨fun h=>h.2.2,fun h=>⟨hgood,g1,h⟩⟩
    .refine⟨ωr,Eq.trans (bad fun h=>oF e3 ?_) rfl⟩;rw[h1];exact Zkc.2 h.2.1
   |false=>
    exact⟨ωr,Eq.trans (bad fun h=>oF hg.symm h.1) rfl⟩
  .refine⟨ωr,Eq.trans (bad fun h=>oF e2 ?_) rfl⟩;have:=len x.d 1000 2 h.1.2.1 h.2.2 ωd;show ((x.d.size:Nat):Int)<=2;omega
 .refine⟨ωr,Eq.trans (bad fun h=>oF e1 ?_) rfl⟩;have:=len x.a 1000000 3 h.1.1 h.2.1 ωd;show ((x.a.size:Nat):Int)<=3;omega
end
structure LinkV where
 len:RV
 low:RV
 high:RV
 speed:RV
 brake:RV
 shape:List (RV×RV)
structure ArmV where
 name:ByteArray
 bx:RV
 by':RV
 bh:Bool
 bt:RV
 links:List LinkV
def lk(x:LinkV):List D:=rd x.len++rd x.low++rd x.high++rd x.speed++rd x.brake++[D.list (x.shape.map rdv)]
def arm(a:ArmV):AV:=.val (.agg [.d (.v (.string a.name)),Xb a.bx,Xs a.bx,Xt a.bx,Xb a.by',Xs a.by',Xt a.by',.d (.v (.bool a.bh)),Xb a.bt,Xs a.bt,Xt a.bt,.d (.list (a.links.map lk))])
abbrev aC(A:ArmV)(t:List C:=[]):List C:=.d (.v (.string A.name))::X1 A.bx (X1 A.by' (.d (.v (.bool A.bh))::X1 A.bt (.d (.list (A.links.map lk))::t)))
abbrev aD(A:ArmV)(t:List D:=[]):List D:=D.v (.string A.name)::Y1 A.bx (Y1 A.by' (D.v (.bool A.bh)::Y1 A.bt (D.list (A.links.map lk)::t)))
def LinkV.zs(l:LinkV)(B:Nat):Prop:=l.len.z<=B/\l.low.z<=B/\l.high.z<=B/\l.speed.z<=B/\l.brake.z<=B/\l.shape.length<=B/\∀p,p∈l.shape->p.1.z<=B/\p.2.z<=B
def ArmV.zs(a:ArmV)(B:Nat):Prop:=a.name.size<=B/\a.bx.z<=B/\a.by'.z<=B/\a.bt.z<=B/\a.links.length<=B/\∀l,l∈a.links->l.zs B
def nameOk(s:ByteArray):Bool:=decide (1<=s.size)&&(decide (s.size<=12)&&s.data.toList.all fun c=>decide (97<=c.toNat)&&decide (c.toNat<=122))
def linkBad(l:LinkV):Prop:=¬smallP l.len\/¬smallP l.low\/¬smallP l.high\/¬smallP l.speed\/¬smallP l.brake\/l.len.q<=0\/l.high.q<=l.low.q\/l.speed.q<=0\/l.brake.q<=0
def shapeBad(l:LinkV):Prop:=∃p,p∈l.shape/\¬(smallP p.1/\smallP p.2)
open Classical in
noncomputable def linkE(l:LinkV):Int:=if linkBad l then 1 else if convE 8 l.shape=0 then (if shapeBad l then 1 else 0) else convE 8 l.shape
noncomputable def linksE:List LinkV->Int
 | []=>0
 |l::r=>if linkE l=0 then linksE r else linkE l
def baseBad(a:ArmV):Prop:=a.links.length=0\/¬smallP a.bx\/¬smallP a.by'\/¬smallP a.bt\/(a.bh=true/\a.bt.q≠0)
open Classical in
noncomputable def armE(a:ArmV):Int:=if nameOk a.name=true then (if 3<a.links.length then 2 else if baseBad a then 1 else linksE a.links) else 3
noncomputable def hasE(a:ArmV)(n:Int):Int:=if armE a=0 then (if n=(a.links.length:Int) then 0 else 1) else armE a
def farQ(a:ArmV)(q:List RV):Prop:=∃(i:Nat)(l:LinkV)(x:RV),a.links[i]? =some l/\q[i]? =some x/\(x.q<l.low.q\/l.high.q<x.q)
open Classical in
noncomputable def fitsE(a:ArmV)(q:List RV):Int:=if hasE a (q.length:Int)=0 then (if farQ a q then 17 else 0) else hasE a (q.length:Int)
theorem ZmZ{ls:List LinkV}(h:linksE ls=0):∀l,l∈ls->linkE l=0:=by
 induction ls with
 |nil=>intro l hl;simp at hl
 |cons a r ih=>
  intro l hl;unfold linksE at h;by_cases e:linkE a=0
  .rw[if_pos e]at h;rcases List.mem_cons.1 hl with rfl|hl
   .exact e
   .exact ih h l hl
  .rw[if_neg e]at h;exact absurd h e
theorem Zce{ls:List LinkV}{i:Nat}{l:LinkV}(h:ls[i]? =some l)(hb:∀(j:Nat)(m:LinkV),j<i->ls[j]? =some m->linkE m=0)(hl:linkE l≠0):linksE ls=linkE l:=by
 induction ls generalizing i with
 |nil=>simp at h
 |cons a r ih=>
  cases i with
  |zero=>
   obtain rfl:=sI (show some a=some l from h);unfold linksE;rw[if_neg hl]
  |succ i=>
   have h0:=hb 0 a ω rfl;unfold linksE;rw[if_pos h0];exact ih (by simpa using h) fun j m hj hm=>hb (j+1) m ω (by simpa using hm)
theorem Zep{ls:List LinkV}(h:∀(j:Nat)(m:LinkV),ls[j]? =some m->linkE m=0):linksE ls=0:=by
 induction ls with
 |nil=>rfl
 |cons a r ih=>
  unfold linksE;rw[if_pos (h 0 a rfl)];exact ih fun j m hm=>h (j+1) m (by simpa using hm)
theorem ZaG{a:ArmV}{n:Int}:hasE a n=0↔armE a=0/\n=(a.links.length:Int):=by
 unfold hasE;by_cases h:armE a=0
 .by_cases g:n=(a.links.length:Int)<;>simp[h,g]
 .simp[h]
theorem Zy{a:ArmV}(h:armE a=0):a.links.length<=3/\a.links≠ []/\smallP a.bx/\smallP a.by'/\smallP a.bt/\(a.bh=true->a.bt.q=0)/\∀l,l∈a.links->linkE l=0:=by
 unfold armE at h;by_cases c1:nameOk a.name=true
 .rw[if_pos c1]at h;by_cases c2:3<a.links.length
  .rw[if_pos c2]at h;exact absurd h ωd
  .rw[if_neg c2]at h;by_cases c3:baseBad a
   .rw[if_pos c3]at h;exact absurd h ωd
   .rw[if_neg c3]at h;refine⟨ω,fun e=>c3 (.inl (by rw[e];rfl)),?_,?_,?_,?_,ZmZ h⟩
    .exact Classical.byContradiction fun e=>c3 (.inr (.inl e))
    .exact Classical.byContradiction fun e=>c3 (.inr (.inr (.inl e)))
    .exact Classical.byContradiction fun e=>c3 (.inr (.inr (.inr (.inl e))))
    .exact fun hb=>Classical.byContradiction fun e=>c3 (.inr (.inr (.inr (.inr ⟨hb,e⟩))))
 .rw[if_neg c1]at h;exact absurd h ωd
theorem Zlr{l:LinkV}(h:linkE l=0):¬linkBad l/\convE 8 l.shape=0/\¬shapeBad l:=by
 unfold linkE at h;by_cases c1:linkBad l
 .rw[if_pos c1]at h;exact absurd h ωd
 .rw[if_neg c1]at h;by_cases c2:convE 8 l.shape=0
  .rw[if_pos c2]at h;by_cases c3:shapeBad l
   .rw[if_pos c3]at h;exact absurd h ωd
   .exact⟨c1,c2,c3⟩
  .rw[if_neg c2]at h;exact absurd h c2
