/- Joined by wip/bundle.py: XEngTurnSp XEngSinSp XEngSines XLawTSp. -/
import Derived.Test.YtnhfpbcbhnfeaaaGreatDoorQGrpS
set_option maxRecDepth 100000
open List (mem_cons mem_nil_iff)
namespace Go.Proofs.YtnhfpbcbhnfeaaaGreatDoor.eng
open Go.RowKit num mem seg q held ratA ratB ratC ratD ratE vars ratF trq
section
variable{x y z t:RV}{K:AV->Prop}
def cosF(p:Rat):Rat:=(((1:Int):Rat)-p)/(((1:Int):Rat)+p)
theorem Zg1{p:Rat}(h:0<=p):((1:Int):Rat)+p≠0:=by
 have h1:((1:Int):Rat)=1:=rfl;rw[h1];grind
theorem sq_nonneg'(p:Rat):0<=p*p:=by
 rcases Rat.le_total (a:=0) (b:=p) with h|h
 .exact Rat.mul_nonneg h h
 .have h2:0<=-p:=by grind
  have:=Rat.mul_nonneg h2 h2
  grind
theorem ZeB(a b:Rat):0<=sqHi a b:=Rat.le_trans (sq_nonneg' a) (ZaU _ _).1
theorem ZeA(a b:Rat):0<=sqLo a b:=by
 unfold sqLo;split
 .exact Rat.le_refl
 .rcases Zeo [b*b] (a*a) with h|h
  .rw[h];exact sq_nonneg' a
  .simp only[mem_cons,mem_nil_iff,or_false]at h;rw[h];exact sq_nonneg' b
theorem Zwa(p:Rat):qs (cosF p)<=2*qs p+30:=by
 unfold cosF;have h1:=Zac ((1:Int):Rat) p;have h2:=ZR ((1:Int):Rat) p;have h3:=ZbZ (((1:Int):Rat)-p) (((1:Int):Rat)+p);have:=Zk5;omega
theorem Zht(x:RV)(hx:x.z<=68719476736)(h0:0<=x.q):Spec Tryz.prog Tab 202 [rat x] (rat (cn (cosF x.q))):=by
 refine Zb Tryz.func202 Tryz.ntmps202 ?_;refine k_of (1) ω ω fun q1 h1 z1=> Zd7 ω ω fun q2 h2 z2=>?_
 try simp only[cn_q]at h2
 refine k_of (1) ω ω fun q3 h3 z3=> Zd8 ω ω fun q4 h4 z4=>?_
 try simp only[cn_q]at h4
 refine ZtE ω ω (by subst_vars;simp only[cn_q];exact Zg1 h0) fun q5 h5 z5=>?_
 try simp only[cn_q]at h5
 refine⟨ωr,Eq.trans (b:=rat (cn _)) ?_ rfl⟩
 subst_vars;rfl
theorem Zf6(hx:x.z<=68719476736)(h0:0<=x.q)(k:∀q,q=cosF x.q->(cn q).z<=2*x.z+40->K (rat (cn q))):Ask 202 [rat x] K:=
 use (Zht x hx h0) rfl (k _ rfl (by have:=Zwa x.q;have:=x.z1;rw[cn_z];omega))
theorem ZiU(x y:RV)(hx:x.z<=1073741824)(hy:y.z<=1073741824):Spec Tryz.prog Tab 162 [pair x y] (pair (cn (cosF (sqHi (slo x y) (shi x y)))) (cn (cosF (sqLo (slo x y) (shi x y))))):=by
 refine Zb Tryz.func162 Tryz.ntmps162 ?_;refine ZzT ω ω fun p1 q1 e1 h1 y1 z1=>?_
 try simp only[cn_q]at e1 h1
 have np:0<=p1:=by rw[e1];exact ZeA _ _
 have nq:0<=q1:=by rw[h1];exact ZeB _ _
 refine Zf6 ω (by rw[cn_q];assumption) fun q2 h2 z2=>?_
 try simp only[cn_q]at h2
 refine Zf6 ω (by rw[cn_q];assumption) fun q3 h3 z3=>?_
 try simp only[cn_q]at h3
 refine⟨ωr,Eq.trans (b:=pair (cn _) (cn _)) ?_ rfl⟩
 subst_vars;rfl
theorem Zqs(hx:x.z<=1073741824)(hy:y.z<=1073741824)(k:∀p q,p=cosF (sqHi (slo x y) (shi x y))->q=cosF (sqLo (slo x y) (shi x y))->K (pair (cn p) (cn q))):Ask 162 [pair x y] K:=
 use (ZiU x y hx hy) rfl (k _ _ rfl rfl)
def cosL(l h:Rat):Rat:=if hasQ l h ((0:Int):Rat)=true then lowL (circ false l) [circ false h,((1:Int):Rat)] else lowL (circ false l) [circ false h]
def cosH(l h:Rat):Rat:=if hasQ l h ((0:Int):Rat)=true then highL (circ false l) [circ false h,((1:Int):Rat)] else highL (circ false l) [circ false h]
end
section
variable{x y z t:RV}{K:AV->Prop}
def stp(l h:Rat)(s:Rat×Rat)(n:Int):Rat×Rat:=if hasQ l h (n:Rat)=true then (minQ s.1 (n:Rat),maxQ s.2 (n:Rat)) else s
def sinS(l h:Rat):Rat×Rat:=([-1,1]:List Int).foldl (stp l h) (minQ (sinq l) (sinq h),maxQ (sinq l) (sinq h))
theorem Zte(p:Rat):minQ p p=p:=by unfold minQ;split<;>rfl
theorem Zth(p:Rat):maxQ p p=p:=by unfold maxQ;split<;>rfl
theorem Zws(p q:Rat):minQ p q<=maxQ p q:=by
 unfold minQ maxQ;split<;>split<;>grind
theorem tq_f(p:Rat):tq false p=p:=rfl
set_option maxHeartbeats 4000000 in
theorem Zh1(x y:RV)(hx:x.z<=3145760)(hy:y.z<=3145760):Spec Tryz.prog Tab 163 [pair x y] (pair (cn (sinS (slo x y) (shi x y)).1) (cn (sinS (slo x y) (shi x y)).2)):=by
 refine Zb Tryz.func163 Tryz.ntmps163 ?_;refine ZeW ω ω ω ω fun l h el eh zl zh=>?_;rw[Zte]at el;rw[Zth]at eh;refine ZwA ω fun q1 h1 z1=>?_;simp only[cn_q]at h1;refine Zqe ω fun q2 h2 z2=>?_;simp only[cn_q,tq_f]at h2;refine ZdJ ω fun q3 h3 z3=>?_;simp only[cn_q]at h3;refine ZwA ω fun q4 h4 z4=>?_;simp only[cn_q]at h4;refine Zqe ω fun q5 h5 z5=>?_;simp only[cn_q,tq_f]at h5;refine ZdJ ω fun q6 h6 z6=>?_;simp only[cn_q]at h6;refine ZeW ω ω ω ω fun p7 q7 e7 h7 y7 z7=>?_;rw[Zaz Rat.le_refl,Zaz Rat.le_refl]at e7;rw[ZaA Rat.le_refl,ZaA Rat.le_refl]at h7;refine⟨ωr,?_⟩;have hlh:l<=h:=by rw[el,eh];exact ZfK x y
 have hfin:([-1,1]:List Int).foldl (stp l h) (p7,q7)=sinS (slo x y) (shi x y):=by
  rw[e7,h7];subst_vars;rfl
 have hpq:p7<=q7:=by rw[e7,h7];subst_vars;exact Zws _ _
 refine⟨Nat×Rat×Rat,fun s=>[(21,.val (.one (.full [[.v (.int .i64 (-1))], [.v (.int .i64 1)]]))),(22,int 2),(23,int (s.1:Int)),(3,.val (.one (.ptr 3 0))),(2,.val (.one (.ptr 2 0))),(1,.val (.one (.ptr 1 0)))],
  fun s=>[(1,.var 165 (rc (cn l)++rc (cn h))),(2,.var 165 [.d (.v (.bool false)),.d (.v (.string ⟨#[]⟩)),.d (.v (.string ⟨#[]⟩)),.d (.v (.bool false)),.d (.v (.string ⟨#[]⟩)),.d (.v (.string ⟨#[]⟩))]),(3,.var 165 (rc (cn s.2.1)++rc (cn s.2.2)))],
  fun s=>s.1<=2/\qs s.2.1<=67108864+64*s.1/\qs s.2.2<=67108864+64*s.1/\s.2.1<=s.2.2/\(([-1,1]:List Int).drop s.1).foldl (stp l h) (s.2.1,s.2.2)=sinS (slo x y) (shi x y),
  fun s=>2-s.1,(0,p7,q7),?_,⟨Nat.zero_le _,by simp only[cn_z]at*;omega,by simp only[cn_z]at*;omega,hpq,hfin⟩,fun s hs=>?_⟩
 .exact ωE
 obtain⟨i,lo,hi⟩:=s;obtain⟨g1,g2,g3,g4,g5⟩:=hs;simp only at g1 g2 g3 g4 g5;have w1:(cn lo).z<=134217728:=by rw[cn_z];omega
 have w2:(cn hi).z<=134217728:=by rw[cn_z];omega
 have w3:(cn l).z<=134217728:=ω;have w4:(cn h).z<=134217728:=ω;refine⟨fun e=>?_,fun e=>?_⟩
 .have hlt:i<2:=by have:=oT e;omega
  obtain rfl|rfl:i=0\/i=1:=ω
  .refine k_at [.v (.int .i64 (-1))] (Int.natCast_nonneg _) rfl rfl<|k_of (-1) ω ω fun q8 h8 z8=> Zqj (x:=cn l) (y:=cn h) ω ω ω fun b hb=>?_;rw[Zaz hlh,ZaA hlh,cn_q,h8]at hb;refine⟨fun e1=>?_,fun e1=>?_⟩
   .refine ZdJ ω fun q9 h9 z9=>?_;simp only[cn_q]at h9;refine ZeW (x:=cn lo) (y:=cn hi) ω ω ω ω fun p10 q10 e10 h10 y10 z10=>?_;rw[Zaz g4,Zaz Rat.le_refl]at e10;rw[ZaA g4,ZaA Rat.le_refl]at h10;refine⟨ωr,?_⟩;have hst:stp l h (lo,hi) (-1)=(p10,q10):=by
     unfold stp;rw[if_pos (by rw[<-hb];exact e1),e10,h10,h9,h8]
    refine⟨(1,p10,q10),⟨by simp only;omega,?_,?_,?_,?_⟩,by simp only;omega,?_⟩
    .simp only[cn_z]at*;omega
    .simp only[cn_z]at*;omega
    .simp only;rw[e10,h10];unfold minQ maxQ;split<;>split<;>grind
    .simp only;rw[<-hst];exact g5
    .exact ωE
   .have hst:stp l h (lo,hi) (-1)=(lo,hi):=by
     unfold stp;rw[if_neg (by rw[<-hb];exact ne_true_of_eq_false e1)]
    refine⟨(1,lo,hi),⟨by simp only;omega,?_,?_,g4,?_⟩,by simp only;omega,?_⟩
    .simp only;omega
    .simp only;omega
    .simp only;rw[<-hst];exact g5
    .exact ωE
  .refine k_at [.v (.int .i64 (1))] (Int.natCast_nonneg _) rfl rfl<|k_of (1) ω ω fun q8 h8 z8=> Zqj (x:=cn l) (y:=cn h) ω ω ω fun b hb=>?_;rw[Zaz hlh,ZaA hlh,cn_q,h8]at hb;refine⟨fun e1=>?_,fun e1=>?_⟩
   .refine ZdJ ω fun q9 h9 z9=>?_;simp only[cn_q]at h9;refine ZeW (x:=cn lo) (y:=cn hi) ω ω ω ω fun p10 q10 e10 h10 y10 z10=>?_;rw[Zaz g4,Zaz Rat.le_refl]at e10;rw[ZaA g4,ZaA Rat.le_refl]at h10;refine⟨ωr,?_⟩;have hst:stp l h (lo,hi) (1)=(p10,q10):=by
     unfold stp;rw[if_pos (by rw[<-hb];exact e1),e10,h10,h9,h8]
    refine⟨(2,p10,q10),⟨by simp only;omega,?_,?_,?_,?_⟩,by simp only;omega,?_⟩
    .simp only[cn_z]at*;omega
    .simp only[cn_z]at*;omega
    .simp only;rw[e10,h10];unfold minQ maxQ;split<;>split<;>grind
    .simp only;rw[<-hst];exact g5
    .exact ωE
   .have hst:stp l h (lo,hi) (1)=(lo,hi):=by
     unfold stp;rw[if_neg (by rw[<-hb];exact ne_true_of_eq_false e1)]
    refine⟨(2,lo,hi),⟨by simp only;omega,?_,?_,g4,?_⟩,by simp only;omega,?_⟩
    .simp only;omega
    .simp only;omega
    .simp only;rw[<-hst];exact g5
    .exact ωE
 .obtain rfl:i=2:=by have:=oF e;omega
  refine Eq.trans (b:=pair (cn lo) (cn hi)) ?_ rfl;rw[<-g5];rfl
theorem Zqg(hx:x.z<=3145760)(hy:y.z<=3145760)(k:∀p q,p=(sinS (slo x y) (shi x y)).1->q=(sinS (slo x y) (shi x y)).2->K (pair (cn p) (cn q))):Ask 163 [pair x y] K:=
 use (Zh1 x y hx hy) rfl (k _ _ rfl rfl)
end
section
variable{x y z t:RV}{K:AV->Prop}
def ext(l h:Rat)(e:List Rat)(n:Int):List Rat:=if hasQ l h (n:Rat)=true then e++[(n:Rat)] else e
end
section
variable{x y z t:RV}{K:AV->Prop}
theorem Zae(p:Rat):circ false p=cosF (p*p):=by rw[Zhu];rfl
theorem one_pos{p:Rat}(h:0<=p):0<((1:Int):Rat)+p:=by
 have h1:((1:Int):Rat)=1:=rfl;rw[h1];grind
theorem Za7{p q:Rat}(hp:0<=p)(h:p<=q):cosF q<=cosF p:=by
 have e:∀r:Rat,0<=r->cosF r=((2:Int):Rat)/(((1:Int):Rat)+r)-((1:Int):Rat):=by
  intro r hr;have h0:=Zg1 hr;unfold cosF;have h2:((2:Int):Rat)=1+1:=by decide+kernel
  have h1:((1:Int):Rat)=1:=rfl;rw[h2,h1]at*
  grind
 have hq:0<=q:=Rat.le_trans hp h;rw[e p hp,e q hq];have a1:=one_pos hp;have a2:=one_pos hq;have h3:((2:Int):Rat)/(((1:Int):Rat)+q)<=((2:Int):Rat)/(((1:Int):Rat)+p):=by
  refine Rat.not_lt.1 fun hlt=>?_;rw[Rat.lt_div_iff a2]at hlt;have h4:((2:Int):Rat)/(((1:Int):Rat)+p)*(((1:Int):Rat)+q)=((2:Int):Rat)/(((1:Int):Rat)+p)*(((1:Int):Rat)+p)+((2:Int):Rat)/(((1:Int):Rat)+p)*(q-p):=by grind
  have h5:((2:Int):Rat)/(((1:Int):Rat)+p)*(((1:Int):Rat)+p)=((2:Int):Rat):=Rat.div_mul_cancel (Zg1 hp);rw[h4,h5]at hlt;have h6:0<=((2:Int):Rat)/(((1:Int):Rat)+p):=by
   rw[Rat.div_def];exact Rat.mul_nonneg ωk (Rat.le_of_lt (Rat.inv_pos.2 a1))
  have h7:=Rat.mul_nonneg h6 (by grind:0<=q-p)
  grind
 grind
theorem Zdt:cosF ((0:Int):Rat)=((1:Int):Rat):=by decide+kernel
theorem Zxc(l h:Rat):cosF (sqHi l h)=cosL l h:=by
 have hm:sqHi l h=l*l\/sqHi l h∈ [h*h]:=Ze4 _ _;obtain⟨g1,g2⟩:=ZaU [h*h] (l*l);have g2:=g2 _ List.mem_cons_self;have n1:=ZeB l h;have k1:cosF (sqHi l h)<=circ false l:=by rw[Zae];exact Za7 (sq_nonneg' l) g1
 have k2:cosF (sqHi l h)<=circ false h:=by rw[Zae];exact Za7 (sq_nonneg' h) g2
 have k3:cosF (sqHi l h)<=((1:Int):Rat):=by rw[<-Zdt];exact Za7 ωk n1
 have hmem:cosF (sqHi l h)=circ false l\/cosF (sqHi l h)=circ false h:=by
  rcases hm with hm|hm
  .exact .inl (by rw[hm,Zae])
  .exact .inr (by rw[Zae];simp at hm;rw[hm])
 unfold cosL;split
 .refine(Zvg ?_ k1 ?_).symm
  .rcases hmem with h|h
   .exact .inl h
   .exact .inr (by rw[h];simp)
  .simp only[mem_cons,mem_nil_iff,or_false];rintro q (rfl|rfl)<;>assumption
 .refine(Zvg ?_ k1 ?_).symm
  .rcases hmem with h|h
   .exact .inl h
   .exact .inr (by rw[h];simp)
  .simp only[mem_cons,mem_nil_iff,or_false];rintro q rfl;assumption
theorem Zue(l h:Rat):cosF (sqLo l h)=cosH l h:=by
 unfold cosH sqLo;split
 .rename_i h0;rw[Zdt];have c1:circ false l<=((1:Int):Rat):=by rw[Zae,<-Zdt];exact Za7 ωk (sq_nonneg' l)
  have c2:circ false h<=((1:Int):Rat):=by rw[Zae,<-Zdt];exact Za7 ωk (sq_nonneg' h)
  refine(ZqL (.inr (by simp)) c1 ?_).symm;simp only[mem_cons,mem_nil_iff,or_false];rintro q (rfl|rfl)
  .exact c2
  .exact Rat.le_refl
 .rename_i h0;obtain⟨g1,g2⟩:=Zcc [h*h] (l*l);have g2:=g2 _ List.mem_cons_self;have n1:0<=lowL (l*l) [h*h]:=by
   have:=ZeA l h;unfold sqLo at this
   rwa[if_neg h0]at this
  refine(ZqL ?_ ?_ ?_).symm
  .rcases Zeo [h*h] (l*l) with hm|hm
   .exact .inl (by rw[hm,Zae])
   .exact .inr (by simp at hm;rw[hm,Zae];simp)
  .rw[Zae];exact Za7 n1 g1
  .simp only[mem_cons,mem_nil_iff,or_false];rintro q rfl;rw[Zae];exact Za7 n1 g2
end
