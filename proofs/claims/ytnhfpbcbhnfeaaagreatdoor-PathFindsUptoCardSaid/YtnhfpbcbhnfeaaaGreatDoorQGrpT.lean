/- Joined by wip/bundle.py: XTrq XEngTurn. -/
import Derived.Test.YtnhfpbcbhnfeaaaGreatDoorQGrpEn
set_option maxRecDepth 100000
namespace Go.Proofs.YtnhfpbcbhnfeaaaGreatDoor.trq
open q
def tq(h:Bool)(p:Rat):Rat:=if h then ((0:Int):Rat) else p
def cosq(h:Bool)(p:Rat):Rat:=if h then ((-1:Int):Rat) else (((1:Int):Rat)-p*p)/(((1:Int):Rat)+p*p)
def sinq(p:Rat):Rat:=(p+p)/(((1:Int):Rat)+p*p)
def circ(h:Bool)(p:Rat):Rat:=if h then ((-1:Int):Rat) else ((2:Int):Rat)/(((1:Int):Rat)+(p+((0:Int):Rat))*(p+((0:Int):Rat)))-((1:Int):Rat)
theorem ZfV(p:Rat):((1:Int):Rat)+p*p≠0:=by
 have h0:0<=p*p:=by
  rcases Rat.le_total (a:=0) (b:=p) with h|h
  .exact Rat.mul_nonneg h h
  .have h':0<=-p:=by have:=Rat.neg_le_neg h;simpa using this
   have:=Rat.mul_nonneg h' h'
   rwa[Rat.neg_mul,Rat.mul_neg,Rat.neg_neg]at this
 intro h;have h1:(1:Rat)+0<=1+p*p:=Rat.add_le_add_left.2 h0;rw[Rat.intCast_one]at h;rw[h]at h1;exact absurd h1 ωk
theorem Zes(p:Rat):cosq false p*(1+p*p)=1-p*p/\sinq p*(1+p*p)=2*p/\1+p*p≠0:=by
 have h:=ZfV p;simp only[Rat.intCast_one]at h;refine⟨?_,?_,h⟩
 .unfold cosq;simp only[Bool.false_eq_true,if_false,Rat.intCast_one];grind
 .unfold sinq;simp only[Rat.intCast_one];grind
theorem ZgH:sinq ((0:Int):Rat)=0:=by decide+kernel
theorem Zuf(p:Rat):cosq true p=-1:=by unfold cosq;simp only[if_true];decide+kernel
theorem Zod(p:Rat):tq true p=((0:Int):Rat):=rfl
theorem ZcZ(p:Rat):tq false p=p:=rfl
end Go.Proofs.YtnhfpbcbhnfeaaaGreatDoor.trq
namespace Go.Proofs.YtnhfpbcbhnfeaaaGreatDoor.eng
open Go.RowKit num mem seg q held ratA ratB ratC ratD ratE vars ratF trq
section
variable{x y:RV}{h g:Bool}{K:AV->Prop}
theorem Zsg(x:RV)(hx:x.z<=4398046511104):Spec Tryz.prog Tab 203 [rat x] (turn false (cn x.q)):=by
 refine Zb Tryz.func203 Tryz.ntmps203 ?_;refine Zvo ω fun q1 h1 z1=>?_
 try simp only[cn_q]at h1
 refine Eq.trans (b:=turn false (cn _)) ?_ rfl;rw[h1]
theorem ZwA(hx:x.z<=4398046511104)(k:∀q,q=x.q->(cn q).z<=x.z+1->K (turn false (cn q))):Ask 203 [rat x] K:=
 use (Zsg x hx) rfl (k _ rfl (by have:=x.z1;rw[cn_z];omega))
theorem Zmq  :Spec Tryz.prog Tab 231 [] (turn true (cn ((0:Int):Rat))):=by
 refine Zb Tryz.func231 Tryz.ntmps231 ?_;refine k_of (0) ω ω fun q1 h1 z1=> Eq.trans (b:=turn true (cn _)) ?_ rfl;rw[h1]
theorem ZwB(k:∀q,q=((0:Int):Rat)->(cn q).z<=8->K (turn true (cn q))):Ask 231 [] K:=
 use Zmq rfl (k _ rfl (by have:=Zal (n:=0) ωd ωd;rw[cn_z];omega))
theorem Zoi(h:Bool)(x:RV)(hx:x.z<=4398046511104):Spec Tryz.prog Tab 200 [turn h x] (turn h (cn (tq h x.q))):=by
 refine Zb Tryz.func200 Tryz.ntmps200 ?_;refine⟨fun e1=>?_,fun e1=>?_⟩
 .subst e1;refine ZwB fun q2 h2 z2=> Eq.trans (b:=turn _ (cn _)) ?_ rfl
  subst_vars;rfl
 .subst e1;refine ZwA ω fun q3 h3 z3=>?_
  try simp only[cn_q]at h3
  refine Eq.trans (b:=turn _ (cn _)) ?_ rfl
  subst_vars;rfl
theorem tq_z(h:Bool)(x:RV):(cn (tq h x.q)).z<=x.z+8:=by
 rw[cn_z];unfold tq;split
 .have:=Zal (n:=0) ωd ωd;omega
 .have:=x.z1;omega
theorem Zvl(hx:x.z<=4398046511104)(k:∀q,q=tq h x.q->(cn q).z<=x.z+8->K (turn h (cn q))):Ask 200 [turn h x] K:=
 use (Zoi h x hx) rfl (k _ rfl (tq_z h x))
theorem Zoj(h:Bool)(x:RV)(hx:x.z<=68719476736):Spec Tryz.prog Tab 160 [turn h x] (rat (cn (cosq h x.q))):=by
 refine Zb Tryz.func160 Tryz.ntmps160 ?_;refine Zvl ω fun q1 h1 z1=>?_
 try simp only[cn_q]at h1
 refine⟨fun e2=>?_,fun e2=>?_⟩
 .subst e2;refine k_of (-1) ω ω fun q3 h3 z3=> Eq.trans (b:=rat (cn _)) ?_ rfl
  subst_vars;rfl
 .subst e2;refine Zcy ω ω fun q4 h4 z4=>?_
  try simp only[cn_q]at h4
  refine k_of (1) ω ω fun q5 h5 z5=> Zd7 ω ω fun q6 h6 z6=>?_
  try simp only[cn_q]at h6
  refine k_of (1) ω ω fun q7 h7 z7=> Zd8 ω ω fun q8 h8 z8=>?_
  try simp only[cn_q]at h8
  refine ZtE ω ω (by subst_vars;simp only[cn_q];exact ZfV _) fun q9 h9 z9=>?_
  try simp only[cn_q]at h9
  refine⟨ωr,Eq.trans (b:=rat (cn _)) ?_ rfl⟩
  subst_vars;rfl
theorem Zoh(h:Bool)(x:RV)(hx:x.z<=68719476736):Spec Tryz.prog Tab 161 [turn h x] (rat (cn (sinq (tq h x.q)))):=by
 refine Zb Tryz.func161 Tryz.ntmps161 ?_;refine Zvl ω fun q1 h1 z1=>?_
 try simp only[cn_q]at h1
 refine Zd8 ω ω fun q2 h2 z2=>?_
 try simp only[cn_q]at h2
 refine k_of (1) ω ω fun q3 h3 z3=> Zcy ω ω fun q4 h4 z4=>?_
 try simp only[cn_q]at h4
 refine Zd8 ω ω fun q5 h5 z5=>?_
 try simp only[cn_q]at h5
 refine ZtE ω ω (by subst_vars;simp only[cn_q];exact ZfV _) fun q6 h6 z6=>?_
 try simp only[cn_q]at h6
 refine⟨ωr,Eq.trans (b:=rat (cn _)) ?_ rfl⟩
 subst_vars;rfl
theorem Zk5:qs ((1:Int):Rat)<=8:=Zal ωd ωd
theorem Zye:qs ((-1:Int):Rat)<=8:=Zal ωd ωd
theorem qs_0:qs ((0:Int):Rat)<=8:=Zal ωd ωd
theorem Zv9(h:Bool)(p:Rat):qs (cosq h p)<=4*qs p+30:=by
 unfold cosq;split
 .have:=Zye;omega
 .have h1:=ZX p p;have h2:=Zac ((1:Int):Rat) (p*p);have h3:=ZR ((1:Int):Rat) (p*p);have h4:=ZbZ (((1:Int):Rat)-p*p) (((1:Int):Rat)+p*p);have:=Zk5;omega
theorem Zv8(p:Rat):qs (sinq p)<=4*qs p+30:=by
 unfold sinq;have h1:=ZX p p;have h2:=ZR p p;have h3:=ZR ((1:Int):Rat) (p*p);have h4:=ZbZ (p+p) (((1:Int):Rat)+p*p);have:=Zk5;omega
theorem ZyE(hx:x.z<=68719476736)(k:∀q,q=cosq h x.q->(cn q).z<=4*x.z+34->K (rat (cn q))):Ask 160 [turn h x] K:=
 use (Zoj h x hx) rfl (k _ rfl (by have:=Zv9 h x.q;have:=x.z1;rw[cn_z];omega))
theorem Zqe(hx:x.z<=68719476736)(k:∀q,q=sinq (tq h x.q)->(cn q).z<=4*x.z+70->K (rat (cn q))):Ask 161 [turn h x] K:=
 use (Zoh h x hx) rfl (k _ rfl (by have h1:=Zv8 (tq h x.q);have h2:=tq_z h x;rw[cn_z]at h2⊢;omega))
theorem Zxo(p:Rat):circ false p=((2:Int):Rat)/(((1:Int):Rat)+p*p)-((1:Int):Rat):=by unfold circ;simp only[Bool.false_eq_true,if_false,Rat.intCast_zero,Rat.add_zero]
theorem Zhu(h:Bool)(p:Rat):circ h p=cosq h p:=by
 cases h
 .rw[Zxo];show _=(((1:Int):Rat)-p*p)/(((1:Int):Rat)+p*p);have h0:=ZfV p;simp only[Rat.intCast_one]at h0⊢;have h2:((2:Int):Rat)=1+1:=by decide+kernel
  rw[h2]
  grind
 .rfl
theorem ZfS(n m:Int)(h1:-9223372036854775808<=n)(h2:n<=9223372036854775807)(h3:-9223372036854775808<=m)(h4:m<=9223372036854775807):Spec Tryz.prog Tab 52 [int n,int m] (two (rat (quotR (n:Rat) (m:Rat))) (int (quotE (m:Rat)))):=by
 refine Zo (Zn Tryz.func52 rfl rfl) rfl rfl fun w hT=>?_;refine(Zpg n m w h1 h2 h3 h4 hT).mono fun e w' ⟨u,c,f,k,he,hi,hb⟩=>⟨he.trans ?_,hb⟩;rcases hi with ⟨h5,rfl,rfl,rfl,rfl⟩|⟨h5,rfl,hi⟩
 .simp only[quotR,quotE,if_pos h5,z0]
 .obtain⟨rfl,rfl,rfl⟩:=Ze2 hi;simp only[quotR,quotE,if_neg h5]
theorem Zvt(n m:Int)(h1:-9223372036854775808<=n)(h2:n<=9223372036854775807)(h3:-9223372036854775808<=m)(h4:m<=9223372036854775807)(h0:(m:Rat)≠0)(k:∀q,q=(n:Rat)/(m:Rat)->(cn q).z<=17->K (two (rat (cn q)) (int 0))):Ask 52 [int n,int m] K:=
 use (by have:=ZfS n m h1 h2 h3 h4;simp only[quotR,quotE,if_neg h0]at this;exact this) rfl (k _ rfl (by have:=ZbZ (n:Rat) (m:Rat);have:=Zal h1 h2;have:=Zal h3 h4;rw[cn_z];omega))
theorem z0_q:z0.q=0:=by
 have:¬q.good false ⟨#[]⟩ ⟨#[]⟩:=by decide+kernel
 show qv false ⟨#[]⟩ ⟨#[]⟩=0;unfold qv;rw[if_neg this]
theorem z0_z:z0.z=0:=rfl
end
