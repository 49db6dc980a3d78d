/- Joined by wip/bundle.py: XEngL XEngSpan XEngAro XEngSpan2 XEngSweep XEngBound. -/
import Derived.Test.YtnhfpbcbhnfeaaaGreatDoorQGrpT
set_option maxRecDepth 100000
open List (mem_cons_of_mem mem_cons mem_nil_iff)
namespace Go.Proofs.YtnhfpbcbhnfeaaaGreatDoor.eng
open Go.RowKit num mem seg q held ratA ratB ratC ratD ratE vars ratF
def rd(x:RV):List D:=[.v (.bool x.s),.v (.string x.a),.v (.string x.d)]
def rats(l:List Rat):AV:=.val (.one (.d (.list (l.map fun q=>rd (cn q)))))
section
variable{K:AV->Prop}
theorem k_at{xs:List (List D)}{m:Int}{n:Nat}(cs:List D)(h0:0<=m)(h:xs[m.toNat]? =some cs)(hl:cs.length=n)(k:K (.val (.one (.ref cs)))):
  ∃r,(∃cs,0<=m/\xs[m.toNat]? =some cs/\cs.length=n/\r= .val (.one (.ref cs)))/\K r:=⟨_,⟨cs,h0,h,hl,rfl⟩,k⟩
theorem Zv7{l:List Rat}{m:Int}{i:Nat}{q:Rat}(hm:m=(i:Int))(h:l[i]? =some q):(l.map fun q=>rd (cn q))[m.toNat]? =some (rd (cn q)):=by
 subst hm;rw[Int.toNat_natCast,List.getElem?_map,h];rfl
theorem ZyJ{l:List Rat}{m:Int}(i:Nat)(q:Rat)(hm:m=(i:Int))(h:l[i]? =some q)(k:K (.val (.one (.ref (rd (cn q)))))):
  ∃r,(∃cs,0<=m/\(l.map fun q=>rd (cn q))[m.toNat]? =some cs/\cs.length=3/\r= .val (.one (.ref cs)))/\K r:=k_at _ ω (Zv7 hm h) rfl k
theorem wrap64(n:Int)(h1:-9223372036854775808<=n)(h2:n<=9223372036854775807):IntKind.i64.wrap n=n:=by
 unfold IntKind.wrap;simp[IntKind.signed,IntKind.bits];split<;>omega
theorem ωf{P:Prop}(h:P:=by first|rfl|omega|(rw[wrap64 _ ω ω];omega)|(rw[wrap64 _ ω ω];split<;>omega)):P:=h
theorem ωw{P:Prop}(h:P:=by rw[wrap64 _ ω ω];omega):P:=h
theorem ωg{P:Prop}(h:P:=by first|rfl|assumption|omega|(rw[wrap64 _ ω ω];omega)|(rw[wrap64 _ ω ω];done)):P:=h
theorem ωh{P:Prop}(h:P:=by first|rfl|omega|(rw[wrap64 _ ω ω];omega)):P:=h
theorem ωa{a b:Int}(h:a=b:=by omega):D.v (.int .i64 a)=D.v (.int .i64 b):=congrArg (fun n:Int=>D.v (.int .i64 n)) h
theorem ωb{a b:Int}(h:a=b:=by rw[wrap64 _ ω ω];omega):D.v (.int .i64 a)=D.v (.int .i64 b):=congrArg (fun n:Int=>D.v (.int .i64 n)) h
theorem ωe{P:Prop}(h:P:=by
 constructor<;>(repeat' (first|exact rfl|exact True.intro|exact⟨_,_,rfl⟩|exact ωd|apply And.intro))
 all_goals first|exact congrArg (fun n:Int=>D.v (.int .i64 n)) ω|exact congrArg (fun n:Int=>D.v (.int .i64 n)) (by rw[wrap64 _ ω ω];omega)|(simp;done)):P:=h
theorem ωu{p q:Int}(h:p=q:=by first|assumption|(symm;assumption)):D.v (.int .i64 p)=D.v (.int .i64 q):=h▸rfl
theorem ωv{p q:Bool}(h:p=q:=by first|assumption|(symm;assumption)):D.v (.bool p)=D.v (.bool q):=h▸rfl
theorem ωq{P:Prop}(h:P:=by first|exact rfl|exact True.intro|exact⟨_,_,rfl⟩|exact ωd|exact ωv|exact ωu|exact ωb|exact ωa):P:=h
theorem ωE{P:Prop}(h:P:=by
 constructor<;>(repeat' (first|exact rfl|exact True.intro|exact⟨_,_,rfl⟩|exact ωd|apply And.intro))
 all_goals exact ωq):P:=h
theorem ωF{P:Prop}(h:P:=by
 constructor<;>(repeat' (first|exact rfl|exact True.intro|exact⟨_,_,rfl⟩|exact ωd|apply And.intro))
 all_goals first|exact ωq|(simp;done)):P:=h
end
def lowF(m a:Rat):Rat:=if a<m then a else m
def highF(m a:Rat):Rat:=if m<a then a else m
def lowL(q:Rat)(l:List Rat):Rat:=l.foldl lowF q
def highL(q:Rat)(l:List Rat):Rat:=l.foldl highF q
theorem Zeo(l:List Rat):∀q,lowL q l=q\/lowL q l∈l:=by
 induction l with
 |nil=>intro q;exact .inl rfl
 |cons a l ih=>
  intro q;show lowL (lowF q a) l=q\/lowL (lowF q a) l∈a::l;rcases ih (lowF q a) with h|h
  .rw[h];unfold lowF;split
   .exact .inr List.mem_cons_self
   .exact .inl rfl
  .exact .inr (mem_cons_of_mem _ h)
theorem Zcc(l:List Rat):∀q,lowL q l<=q/\∀a,a∈l->lowL q l<=a:=by
 induction l with
 |nil=>intro q;exact⟨Rat.le_refl,fun a h=>by simp at h⟩
 |cons a l ih=>
  intro q;obtain⟨h1,h2⟩:=ih (lowF q a);have h3:lowF q a<=q/\lowF q a<=a:=by
   unfold lowF;split
   .rename_i h;exact⟨Rat.le_of_lt h,Rat.le_refl⟩
   .rename_i h;exact⟨Rat.le_refl,Rat.not_lt.1 h⟩
  refine⟨Rat.le_trans h1 h3.1,fun b hb=>?_⟩;rcases List.mem_cons.1 hb with rfl|hb
  .exact Rat.le_trans h1 h3.2
  .exact h2 b hb
theorem Ze4(l:List Rat):∀q,highL q l=q\/highL q l∈l:=by
 induction l with
 |nil=>intro q;exact .inl rfl
 |cons a l ih=>
  intro q;show highL (highF q a) l=q\/highL (highF q a) l∈a::l;rcases ih (highF q a) with h|h
  .rw[h];unfold highF;split
   .exact .inr List.mem_cons_self
   .exact .inl rfl
  .exact .inr (mem_cons_of_mem _ h)
theorem ZaU(l:List Rat):∀q,q<=highL q l/\∀a,a∈l->a<=highL q l:=by
 induction l with
 |nil=>intro q;exact⟨Rat.le_refl,fun a h=>by simp at h⟩
 |cons a l ih=>
  intro q;obtain⟨h1,h2⟩:=ih (highF q a);have h3:q<=highF q a/\a<=highF q a:=by
   unfold highF;split
   .rename_i h;exact⟨Rat.le_of_lt h,Rat.le_refl⟩
   .rename_i h;exact⟨Rat.le_refl,Rat.not_lt.1 h⟩
  refine⟨Rat.le_trans h3.1 h1,fun b hb=>?_⟩;rcases List.mem_cons.1 hb with rfl|hb
  .exact Rat.le_trans h3.2 h1
  .exact h2 b hb
open trq
section
variable{x y z t:RV}{h g:Bool}{K:AV->Prop}
def sgd(x y:RV):Prop:=x.good/\y.good/\x.q<=y.q
instance (x y:RV):Decidable (sgd x y):=inferInstanceAs (Decidable (x.good/\y.good/\x.q<=y.q))
def slo(x y:RV):Rat:=if sgd x y then x.q else ((0:Int):Rat)
def shi(x y:RV):Rat:=if sgd x y then y.q else ((0:Int):Rat)
theorem ZfK(x y:RV):slo x y<=shi x y:=by
 unfold slo shi;split
 .rename_i h;exact h.2.2
 .exact Rat.le_refl
theorem ZbJ(x y:RV):(cn (slo x y)).z<=x.z+8:=by
 rw[cn_z];unfold slo;split
 .have:=x.z1;omega
 .have:=qs_0;omega
theorem ZbK(x y:RV):(cn (shi x y)).z<=y.z+8:=by
 rw[cn_z];unfold shi;split
 .have:=y.z1;omega
 .have:=qs_0;omega
theorem ZzF(h:sgd x y):cn (slo x y)=x:=by rw[slo,if_pos h];exact(RV.good_cn h.1).symm
theorem ZzG(h:sgd x y):cn (shi x y)=y:=by rw[shi,if_pos h];exact(RV.good_cn h.2.1).symm
theorem Zst(h:¬sgd x y):slo x y=((0:Int):Rat):=if_neg h
theorem Zsw(h:¬sgd x y):shi x y=((0:Int):Rat):=if_neg h
theorem ZuS{p q:Rat}:sgd (cn p) (cn q)↔p<=q:=by
 unfold sgd;rw[cn_q,cn_q];exact⟨fun h=>h.2.2,fun h=>⟨Zkb p,Zkb q,h⟩⟩
theorem Zaz{p q:Rat}(h:p<=q):slo (cn p) (cn q)=p:=by rw[slo,if_pos (ZuS.2 h),cn_q]
theorem ZaA{p q:Rat}(h:p<=q):shi (cn p) (cn q)=q:=by rw[shi,if_pos (ZuS.2 h),cn_q]
theorem Zyc(p q:Rat):qs (minQ p q)<=qs p+qs q:=by unfold minQ;split<;>omega
theorem Zyd(p q:Rat):qs (maxQ p q)<=qs p+qs q:=by unfold maxQ;split<;>omega
def hasQ(l h a:Rat):Bool:=decide (l<=a)&&decide (a<=h)
theorem dle(p q:Rat):decide (cmpQ p q<=0)=decide (p<=q):=decide_eq_decide.2 (Zl4 p q)
theorem hl(a b c:Rat)(h:a<b):hasQ a c b=decide (b<=c):=by simp[hasQ,Rat.le_of_lt h]
theorem he(a b c:Rat)(h:a=b):hasQ a c b=decide (b<=c):=by simp[hasQ,h]
theorem hg(a b c:Rat)(h:b<a):hasQ a c b=false:=by simp[hasQ,Rat.not_le.2 h]
theorem ZmA(x y:RV)(hx:x.z<=1099511627776)(hy:y.z<=1099511627776):Spec Tryz.prog Tab 208 [pair x y] (bool (decide (sgd x y))):=by
 refine Zb Tryz.func208 Tryz.ntmps208 ?_;refine Zlw ω (fun g1=>?_) (fun g1=>?_)
 .skip
  refine Zlw ω (fun g2=>?_) (fun g2=>?_)
  .skip
   refine ZdL ω ω fun n3 h3=>?_
   try simp only[cn_q]at h3
   refine Eq.trans (b:=bool _) ?_ rfl;subst h3;rw[dle];exact congrArg bool (decide_eq_decide.2 ⟨fun h=>h.2.2,fun h=>⟨g1,g2,h⟩⟩)
  .skip
   exact Eq.trans (b:=bool _) (congrArg bool (decide_eq_false fun h=>g2 h.2.1)) rfl
 .skip
  exact Eq.trans (b:=bool _) (congrArg bool (decide_eq_false fun h=>g1 h.1)) rfl
theorem ZwE(hx:x.z<=1099511627776)(hy:y.z<=1099511627776)(k:∀b,b=decide (sgd x y)->K (bool b)):Ask 208 [pair x y] K:=
 use (ZmA x y hx hy) rfl (k _ rfl)
theorem Zqk(hx:x.z<=1099511627776)(hy:y.z<=1099511627776)(k1:sgd x y->K (bool true))(k0:¬sgd x y->K (bool false)):Ask 208 [pair x y] K:=
 ZwE hx hy fun b e=>by
  by_cases H:sgd x y
  .rw[decide_eq_true H]at e;subst e;exact k1 H
  .rw[decide_eq_false H]at e;subst e;exact k0 H
theorem ZsC(x:RV)(hx:x.z<=4398046511104):Spec Tryz.prog Tab 159 [rat x] (pair (cn x.q) (cn x.q)):=by
 refine Zb Tryz.func159 Tryz.ntmps159 ?_;refine Zvo ω fun q1 h1 z1=>?_
 try simp only[cn_q]at h1
 refine Eq.trans (b:=pair (cn _) (cn _)) ?_ rfl
 subst_vars;rfl
theorem ZdJ(hx:x.z<=4398046511104)(k:∀q,q=x.q->(cn q).z<=x.z+1->K (pair (cn q) (cn q))):Ask 159 [rat x] K:=
 use (ZsC x hx) rfl (k _ rfl (by have:=x.z1;rw[cn_z];omega))
theorem ZoQ(x y:RV)(hx:x.z<=1099511627776)(hy:y.z<=1099511627776):Spec Tryz.prog Tab 168 [pair x y] (pair (cn (slo x y)) (cn (shi x y))):=by
 refine Zb Tryz.func168 Tryz.ntmps168 ?_;refine Zqk ω ω (fun g1=>?_) (fun g1=>?_)
 .skip
  refine⟨fun e=>by simp at e,fun _=> Eq.trans (b:=pair _ _) ?_ rfl⟩;rw[ZzF g1,ZzG g1]
 .skip
  refine⟨fun _=> k_of (0) ω ω fun q2 h2 z2=> ZdJ ω fun q3 h3 z3=>?_,fun e=>by simp at e⟩
  try simp only[cn_q]at h3
  refine Eq.trans (b:=pair (cn _) (cn _)) ?_ rfl;rw[Zst g1,Zsw g1];subst_vars;rfl
theorem Zcg(hx:x.z<=1099511627776)(hy:y.z<=1099511627776)(k:∀p q,p=slo x y->q=shi x y->(cn p).z<=x.z+8->(cn q).z<=y.z+8->K (pair (cn p) (cn q))):Ask 168 [pair x y] K:=
 use (ZoQ x y hx hy) rfl (k _ _ rfl rfl (ZbJ x y) (ZbK x y))
theorem ZoR(x y z t:RV)(hx:x.z<=1099511627776)(hy:y.z<=1099511627776)(hz:z.z<=1099511627776)(ht:t.z<=1099511627776):Spec Tryz.prog Tab 167 [pair x y,pair z t] (pair (cn (slo x y+slo z t)) (cn (shi x y+shi z t))):=by
 refine Zb Tryz.func167 Tryz.ntmps167 ?_;refine Zcg ω ω fun p1 q1 e1 h1 y1 z1=>?_
 try simp only[cn_q]at e1 h1
 refine Zcg ω ω fun p2 q2 e2 h2 y2 z2=>?_
 try simp only[cn_q]at e2 h2
 refine⟨ωr,Zd8 ω ω fun q3 h3 z3=>?_⟩
 try simp only[cn_q]at h3
 refine Zd8 ω ω fun q4 h4 z4=>?_
 try simp only[cn_q]at h4
 refine⟨ωr,Eq.trans (b:=pair (cn _) (cn _)) ?_ rfl⟩
 subst_vars;rfl
theorem ZoM(x y z t:RV)(hx:x.z<=1099511627776)(hy:y.z<=1099511627776)(hz:z.z<=1099511627776)(ht:t.z<=1099511627776):Spec Tryz.prog Tab 165 [pair x y,pair z t] (pair (cn (slo x y-shi z t)) (cn (shi x y-slo z t))):=by
 refine Zb Tryz.func165 Tryz.ntmps165 ?_;refine Zcg ω ω fun p1 q1 e1 h1 y1 z1=>?_
 try simp only[cn_q]at e1 h1
 refine Zcg ω ω fun p2 q2 e2 h2 y2 z2=>?_
 try simp only[cn_q]at e2 h2
 refine⟨ωr,Zd7 ω ω fun q3 h3 z3=>?_⟩
 try simp only[cn_q]at h3
 refine Zd7 ω ω fun q4 h4 z4=>?_
 try simp only[cn_q]at h4
 refine⟨ωr,Eq.trans (b:=pair (cn _) (cn _)) ?_ rfl⟩
 subst_vars;rfl
theorem Zmz(x y z t:RV)(hx:x.z<=1099511627776)(hy:y.z<=1099511627776)(hz:z.z<=1099511627776)(ht:t.z<=1099511627776):Spec Tryz.prog Tab 106 [pair x y,pair z t] (pair (cn (minQ (slo x y) (slo z t))) (cn (maxQ (shi x y) (shi z t)))):=by
 refine Zb Tryz.func106 Tryz.ntmps106 ?_;refine Zcg ω ω fun p1 q1 e1 h1 y1 z1=>?_
 try simp only[cn_q]at e1 h1
 refine Zcg ω ω fun p2 q2 e2 h2 y2 z2=>?_
 try simp only[cn_q]at e2 h2
 refine⟨ωr,Zm7 ω ω fun q3 h3 z3=>?_⟩
 try simp only[cn_q]at h3
 refine Zm8 ω ω fun q4 h4 z4=>?_
 try simp only[cn_q]at h4
 refine⟨ωr,Eq.trans (b:=pair (cn _) (cn _)) ?_ rfl⟩
 subst_vars;rfl
theorem ZyH(hx:x.z<=1099511627776)(hy:y.z<=1099511627776)(hz:z.z<=1099511627776)(ht:t.z<=1099511627776)(k:∀p q,p=slo x y+slo z t->q=shi x y+shi z t->(cn p).z<=x.z+z.z+20->(cn q).z<=y.z+t.z+20->K (pair (cn p) (cn q))):Ask 167 [pair x y,pair z t] K:=
 use (ZoR x y z t hx hy hz ht) rfl (k _ _ rfl rfl (by have h1:=ZbJ x y;have h2:=ZbJ z t;have h3:=ZbK x y;have h4:=ZbK z t;have:=ZR (slo x y) (slo z t);rw[cn_z]at*;omega) (by have h1:=ZbJ x y;have h2:=ZbJ z t;have h3:=ZbK x y;have h4:=ZbK z t;have:=ZR (shi x y) (shi z t);rw[cn_z]at*;omega))
theorem ZyF(hx:x.z<=1099511627776)(hy:y.z<=1099511627776)(hz:z.z<=1099511627776)(ht:t.z<=1099511627776)(k:∀p q,p=slo x y-shi z t->q=shi x y-slo z t->(cn p).z<=x.z+t.z+20->(cn q).z<=y.z+z.z+20->K (pair (cn p) (cn q))):Ask 165 [pair x y,pair z t] K:=
 use (ZoM x y z t hx hy hz ht) rfl (k _ _ rfl rfl (by have h1:=ZbJ x y;have h2:=ZbJ z t;have h3:=ZbK x y;have h4:=ZbK z t;have:=Zac (slo x y) (shi z t);rw[cn_z]at*;omega) (by have h1:=ZbJ x y;have h2:=ZbJ z t;have h3:=ZbK x y;have h4:=ZbK z t;have:=Zac (shi x y) (slo z t);rw[cn_z]at*;omega))
theorem ZeW(hx:x.z<=1099511627776)(hy:y.z<=1099511627776)(hz:z.z<=1099511627776)(ht:t.z<=1099511627776)(k:∀p q,p=minQ (slo x y) (slo z t)->q=maxQ (shi x y) (shi z t)->(cn p).z<=x.z+z.z+20->(cn q).z<=y.z+t.z+20->K (pair (cn p) (cn q))):Ask 106 [pair x y,pair z t] K:=
 use (Zmz x y z t hx hy hz ht) rfl (k _ _ rfl rfl (by have h1:=ZbJ x y;have h2:=ZbJ z t;have h3:=ZbK x y;have h4:=ZbK z t;have:=Zyc (slo x y) (slo z t);rw[cn_z]at*;omega) (by have h1:=ZbJ x y;have h2:=ZbJ z t;have h3:=ZbK x y;have h4:=ZbK z t;have:=Zyd (shi x y) (shi z t);rw[cn_z]at*;omega))
theorem ZoP(x y z:RV)(hx:x.z<=1099511627776)(hy:y.z<=1099511627776)(hz:z.z<=1099511627776):Spec Tryz.prog Tab 204 [pair x y,rat z] (bool (hasQ (slo x y) (shi x y) z.q)):=by
 refine Zb Tryz.func204 Tryz.ntmps204 ?_;refine Zcg ω ω fun p1 q1 e1 h1 y1 z1=>?_
 try simp only[cn_q]at e1 h1
 refine ZyS ω ω (fun g2=>?_) (fun g2=>?_) (fun g2=>?_)
 .try simp only[cn_q]at g2
  refine ZdL ω ω fun n3 h3=>?_
  try simp only[cn_q]at h3
  refine Eq.trans (b:=bool _) ?_ rfl
  subst_vars
  first
   |(rw[hl _ _ _ ωs,dle])
   |(rw[he _ _ _ ωs,dle])
   |(rw[hg _ _ _ ωs])
   |(rw[he _ _ _ rfl,dle])
   |(simp_all[dle,hasQ,Rat.le_refl])
 .try simp only[cn_q]at g2
  refine ZdL ω ω fun n4 h4=>?_
  try simp only[cn_q]at h4
  refine Eq.trans (b:=bool _) ?_ rfl
  subst_vars
  first
   |(rw[hl _ _ _ ωs,dle])
   |(rw[he _ _ _ ωs,dle])
   |(rw[hg _ _ _ ωs])
   |(rw[he _ _ _ rfl,dle])
   |(simp_all[dle,hasQ,Rat.le_refl])
 .try simp only[cn_q]at g2
  refine Eq.trans (b:=bool _) ?_ rfl
  subst_vars
  first
   |(rw[hl _ _ _ ωs,dle])
   |(rw[he _ _ _ ωs,dle])
   |(rw[hg _ _ _ ωs])
   |(rw[he _ _ _ rfl,dle])
   |(simp_all[dle,hasQ,Rat.le_refl])
theorem Zqj(hx:x.z<=1099511627776)(hy:y.z<=1099511627776)(hz:z.z<=1099511627776)(k:∀b,b=hasQ (slo x y) (shi x y) z.q->K (bool b)):Ask 204 [pair x y,rat z] K:=
 use (ZoP x y z hx hy hz) rfl (k _ rfl)
theorem hl'(a b c:Rat)(h:a<b):hasQ b c a=false:=hg _ _ _ h
end
section
variable{x y z t:RV}{K:AV->Prop}
theorem ZpR(m a:Rat):minQ m a=lowF m a:=by
 unfold minQ lowF;by_cases h:m<=a
 .rw[if_pos h,if_neg (Rat.not_lt.2 h)]
 .rw[if_neg h,if_pos (Rat.not_le.1 h)]
theorem Zlm(m a:Rat):maxQ m a=highF m a:=by
 unfold maxQ highF;by_cases h:a<=m
 .rw[if_pos h,if_neg (Rat.not_lt.2 h)]
 .rw[if_neg h,if_pos (Rat.not_le.1 h)]
theorem Zh8(q0:Rat)(l:List Rat)(hz:∀q,q∈q0::l->qs q<=2199023255552)(hn:l.length<=1099511627776):Spec Tryz.prog Tab 207 [rats (q0::l)] (pair (cn (lowL q0 l)) (cn (highL q0 l))):=by
 refine Zb Tryz.func207 Tryz.ntmps207 ?_;refine ZyJ 0 q0 rfl rfl ?_;have hz0:(cn q0).z<=2199023255552:=by rw[cn_z];exact hz q0 (by simp)
 refine ZdJ ω fun q1 h1 z1=>?_;simp only[cn_q]at h1;refine⟨rats l,⟨ω,by simp;omega,?_,rfl⟩,?_⟩
 .intro row hr;simp only[List.mem_map]at hr;obtain⟨q,_,rfl⟩:=hr;rfl
 refine⟨Nat×Rat×Rat,fun s=>[(11,rats l),(12,int (((l.map fun q=>rd (cn q)).length:Nat):Int)),(13,int (s.1:Int)),(3,.val (.one (.ptr 3 0))),(2,.val (.one (.ptr 2 0)))],
  fun s=>[(2,.var 165 [.d (.v (.bool false)),.d (.v (.string ⟨#[]⟩)),.d (.v (.string ⟨#[]⟩)),.d (.v (.bool false)),.d (.v (.string ⟨#[]⟩)),.d (.v (.string ⟨#[]⟩))]),(3,.var 165 (rc (cn s.2.1)++rc (cn s.2.2)))],
  fun s=>s.1<=l.length/\qs s.2.1<=2199023255552/\qs s.2.2<=2199023255552/\(l.drop s.1).foldl lowF s.2.1=lowL q0 l/\(l.drop s.1).foldl highF s.2.2=highL q0 l,
  fun s=>l.length-s.1,(0,q1,q1),?_,⟨Nat.zero_le _,by subst h1;exact hz0,by subst h1;exact hz0,by subst h1;rfl,by subst h1;rfl⟩,fun s hs=>?_⟩
 .exact ωE
 obtain⟨i,lo,hi⟩:=s;obtain⟨h1,h2,h3,h4,h5⟩:=hs;simp only at h1 h2 h3 h4 h5;refine⟨fun e=>?_,fun e=>?_⟩
 .have hlt:i<l.length:=by have:=oT e;rw[List.length_map]at this;omega
  obtain⟨a,ha⟩:∃a,l[i]? =some a:=⟨_,gE hlt⟩;have hza:=hz a (mem_cons_of_mem _ (mG ha));have hdrop:l.drop i=a::l.drop (i+1):=by
   rw[List.drop_eq_getElem_cons hlt];rw[gE hlt]at ha;rw[sI ha]
  rw[hdrop,List.foldl_cons]at h4 h5;have hw:IntKind.i64.wrap ((i:Int)+1)=((i+1:Nat):Int):=by rw[wrap64 _ ω ω];omega
  have zl:(cn lo).z<=2199023255552:=by rw[cn_z];exact h2
  have zh:(cn hi).z<=2199023255552:=by rw[cn_z];exact h3
  have za:(cn a).z<=2199023255552:=by rw[cn_z];exact hza
  refine ZyJ i a rfl ha<|Zm7 (x:=cn lo) (y:=cn a) ω ω fun r1 f1 w1=>?_;simp only[cn_q]at f1;refine Zm8 (x:=cn hi) (y:=cn a) ω ω fun r2 f2 w2=>?_;simp only[cn_q]at f2;refine⟨ωr,?_⟩;rw[ZpR]at f1;rw[Zlm]at f2;refine⟨(i+1,r1,r2),⟨hlt,?_,?_,?_,?_⟩,by simp only;omega,?_⟩
  .subst f1;simp only[lowF];split<;>assumption
  .subst f2;simp only[highF];split<;>assumption
  .subst f1;exact h4
  .subst f2;exact h5
  .exact ωE
 .have hge:l.length<=i:=by have:=oF e;rw[List.length_map]at this;omega
  refine Eq.trans (b:=pair (cn lo) (cn hi)) ?_ rfl;rw[List.drop_eq_nil_of_le hge]at h4 h5;rw[<-h4,<-h5];rfl
theorem Zvg{q0 m:Rat}{l:List Rat}(h1:m=q0\/m∈l)(h2:m<=q0)(h3:∀a,a∈l->m<=a):lowL q0 l=m:=by
 refine Rat.le_antisymm ?_ ?_
 .rcases h1 with rfl|h1
  .exact(Zcc l _).1
  .exact(Zcc l q0).2 _ h1
 .rcases Zeo l q0 with h|h
  .rw[h];exact h2
  .exact h3 _ h
theorem ZqL{q0 m:Rat}{l:List Rat}(h1:m=q0\/m∈l)(h2:q0<=m)(h3:∀a,a∈l->a<=m):highL q0 l=m:=by
 refine Rat.le_antisymm ?_ ?_
 .rcases Ze4 l q0 with h|h
  .rw[h];exact h2
  .exact h3 _ h
 .rcases h1 with rfl|h1
  .exact(ZaU l _).1
  .exact(ZaU l q0).2 _ h1
theorem ZbR{q0:Rat}{l:List Rat}{B:Nat}(hz:∀q,q∈q0::l->qs q<=B):qs (lowL q0 l)<=B:=by
 rcases Zeo l q0 with h|h
 .rw[h];exact hz _ (by simp)
 .exact hz _ (mem_cons_of_mem _ h)
theorem ZaT{q0:Rat}{l:List Rat}{B:Nat}(hz:∀q,q∈q0::l->qs q<=B):qs (highL q0 l)<=B:=by
 rcases Ze4 l q0 with h|h
 .rw[h];exact hz _ (by simp)
 .exact hz _ (mem_cons_of_mem _ h)
theorem ZiC(B:Nat)(hB:B<=2199023255552)(q0:Rat)(l:List Rat){v:List (List D)}(hv:v=(q0::l).map fun q=>rd (cn q))(hz:∀q,q∈q0::l->qs q<=B)(hn:l.length<=1099511627776)
 (k:∀p q,p=lowL q0 l->q=highL q0 l->(cn p).z<=B->(cn q).z<=B->K (pair (cn p) (cn q))):Ask 207 [.val (.one (.d (.list v)))] K:=by
 subst hv;exact use (Zh8 q0 l (fun q h=>Nat.le_trans (hz q h) hB) hn) rfl (k _ _ rfl rfl (by rw[cn_z];exact ZbR hz) (by rw[cn_z];exact ZaT hz))
def fv(g:FuncId):AV:=.val (.one (.d (.v (.func (.func g) #[] #[]))))
end
section
variable{x y z t:RV}{K:AV->Prop}
def mulLo(a b c d:Rat):Rat:=lowL (a*c) [a*d,b*c,b*d]
def mulHi(a b c d:Rat):Rat:=highL (a*c) [a*d,b*c,b*d]
def sqLo(a b:Rat):Rat:=if hasQ a b ((0:Int):Rat)=true then ((0:Int):Rat) else lowL (a*a) [b*b]
def sqHi(a b:Rat):Rat:=highL (a*a) [b*b]
theorem ZoO(x y z t:RV)(hx:x.z<=68719476736)(hy:y.z<=68719476736)(hz:z.z<=68719476736)(ht:t.z<=68719476736):Spec Tryz.prog Tab 166 [pair x y,pair z t] (pair (cn (mulLo (slo x y) (shi x y) (slo z t) (shi z t))) (cn (mulHi (slo x y) (shi x y) (slo z t) (shi z t)))):=by
 refine Zb Tryz.func166 Tryz.ntmps166 ?_;refine Zcg ω ω fun p1 q1 e1 h1 y1 z1=>?_
 try simp only[cn_q]at e1 h1
 refine Zcg ω ω fun p2 q2 e2 h2 y2 z2=>?_
 try simp only[cn_q]at e2 h2
 refine⟨ωr,Zcy ω ω fun q3 h3 z3=>?_⟩
 try simp only[cn_q]at h3
 refine Zcy ω ω fun q4 h4 z4=>?_
 try simp only[cn_q]at h4
 refine Zcy ω ω fun q5 h5 z5=>?_
 try simp only[cn_q]at h5
 refine Zcy ω ω fun q6 h6 z6=>?_
 try simp only[cn_q]at h6
 refine ZiC 1099511627776 ωd q3 [q4,q5,q6] rfl (by intro q hq;simp only[mem_cons,mem_nil_iff,or_false]at hq;rcases hq with rfl|rfl|rfl|rfl<;>(simp only[cn_z]at*;omega)) (by simp) fun p7 q7 e7 h7 y7 z7=>?_;refine⟨ωr,Eq.trans (b:=pair (cn _) (cn _)) ?_ rfl⟩
 subst_vars;rfl
theorem Zys(hq:∀q,q∈ [slo x y,shi x y]->qs q<=x.z+y.z+8)(hr:∀q,q∈ [slo z t,shi z t]->qs q<=z.z+t.z+8):∀q,q∈slo x y*slo z t::[slo x y*shi z t,shi x y*slo z t,shi x y*shi z t]->qs q<=x.z+y.z+z.z+t.z+20:=by
 have h1:=hq _ (by simp:slo x y∈_);have h2:=hq _ (by simp:shi x y∈_);have h3:=hr _ (by simp:slo z t∈_);have h4:=hr _ (by simp:shi z t∈_);intro q h;simp only[mem_cons,mem_nil_iff,or_false]at h;rcases h with rfl|rfl|rfl|rfl
 .have:=ZX (slo x y) (slo z t);omega
 .have:=ZX (slo x y) (shi z t);omega
 .have:=ZX (shi x y) (slo z t);omega
 .have:=ZX (shi x y) (shi z t);omega
theorem ZlR(x y:RV):∀q,q∈ [slo x y,shi x y]->qs q<=x.z+y.z+8:=by
 intro q h;have h1:=ZbJ x y;have h2:=ZbK x y;rw[cn_z]at h1 h2;simp only[mem_cons,mem_nil_iff,or_false]at h;rcases h with rfl|rfl<;>omega
theorem ZyG(hx:x.z<=68719476736)(hy:y.z<=68719476736)(hz:z.z<=68719476736)(ht:t.z<=68719476736)(k:∀p q,p=mulLo (slo x y) (shi x y) (slo z t) (shi z t)->q=mulHi (slo x y) (shi x y) (slo z t) (shi z t)->(cn p).z<=x.z+y.z+z.z+t.z+20->(cn q).z<=x.z+y.z+z.z+t.z+20->K (pair (cn p) (cn q))):Ask 166 [pair x y,pair z t] K:=
 use (ZoO x y z t hx hy hz ht) rfl (k _ _ rfl rfl (by rw[cn_z];exact ZbR (Zys (ZlR x y) (ZlR z t))) (by rw[cn_z];exact ZaT (Zys (ZlR x y) (ZlR z t))))
theorem ZsB(x y:RV)(hx:x.z<=68719476736)(hy:y.z<=68719476736):Spec Tryz.prog Tab 201 [pair x y] (pair (cn (sqLo (slo x y) (shi x y))) (cn (sqHi (slo x y) (shi x y)))):=by
 refine Zb Tryz.func201 Tryz.ntmps201 ?_;refine Zcg ω ω fun p1 q1 e1 h1 y1 z1=>?_
 try simp only[cn_q]at e1 h1
 refine Zcy ω ω fun q2 h2 z2=>?_
 try simp only[cn_q]at h2
 refine Zcy ω ω fun q3 h3 z3=>?_
 try simp only[cn_q]at h3
 refine ZiC 1099511627776 ωd q2 [q3] rfl (by intro q hq;simp only[mem_cons,mem_nil_iff,or_false]at hq;rcases hq with rfl|rfl<;>(simp only[cn_z]at*;omega)) (by simp) fun p4 q4 e4 h4 y4 z4=>?_;refine⟨ωr,k_of (0) ω ω fun q5 h5 z5=> Zqj ω ω ω fun b6 h6=>?_⟩
 try rw[Zaz (by subst_vars;exact ZfK _ _),ZaA (by subst_vars;exact ZfK _ _),cn_q]at h6
 refine⟨ωr,⟨fun e7=>?_,fun e7=>?_⟩⟩
 .skip
  refine k_of (0) ω ω fun q8 h8 z8=> Eq.trans (b:=pair (cn _) (cn _)) ?_ rfl;unfold sqLo sqHi
  subst_vars
  first
   |rw[if_pos (Eq.symm ωs)]
   |rw[if_neg (ne_true_of_eq_false (Eq.symm ωs))]
 .skip
  refine Eq.trans (b:=pair (cn _) (cn _)) ?_ rfl;unfold sqLo sqHi
  subst_vars
  first
   |rw[if_pos (Eq.symm ωs)]
   |rw[if_neg (ne_true_of_eq_false (Eq.symm ωs))]
theorem sq_z(x y:RV):∀q,q∈slo x y*slo x y::[shi x y*shi x y]->qs q<=2*x.z+2*y.z+20:=by
 have h1:=ZbJ x y;have h2:=ZbK x y;rw[cn_z]at h1 h2;have:=ZX (slo x y) (slo x y);have:=ZX (shi x y) (shi x y);intro q h;simp only[mem_cons,mem_nil_iff,or_false]at h;rcases h with rfl|rfl<;>omega
theorem ZzT(hx:x.z<=68719476736)(hy:y.z<=68719476736)(k:∀p q,p=sqLo (slo x y) (shi x y)->q=sqHi (slo x y) (shi x y)->(cn p).z<=2*x.z+2*y.z+20->(cn q).z<=2*x.z+2*y.z+20->K (pair (cn p) (cn q))):Ask 201 [pair x y] K:=
 use (ZsB x y hx hy) rfl (k _ _ rfl rfl (by rw[cn_z];unfold sqLo;split;(have:=qs_0;omega);exact ZbR (sq_z x y)) (by rw[cn_z];exact ZaT (sq_z x y)))
end
section
variable{x y z t u v w:RV}{K:AV->Prop}
theorem Zn3(x y z t:RV)(hx:x.z<=1099511627776)(hy:y.z<=1099511627776)(hz:z.z<=1099511627776)(ht:t.z<=1099511627776):Spec Tryz.prog Tab 170 [pair x y,pair z t] (pair (cn (x.q+z.q)) (cn (y.q+t.q))):=by
 refine Zb Tryz.func170 Tryz.ntmps170 ?_;refine Zd8 ω ω fun q1 h1 z1=>?_
 try simp only[cn_q]at h1
 refine Zd8 ω ω fun q2 h2 z2=>?_
 try simp only[cn_q]at h2
 refine⟨ωr,Eq.trans (b:=pair (cn _) (cn _)) ?_ rfl⟩
 subst_vars;rfl
theorem Zqd(hx:x.z<=1099511627776)(hy:y.z<=1099511627776)(hz:z.z<=1099511627776)(ht:t.z<=1099511627776)(k:∀p q,p=x.q+z.q->q=y.q+t.q->(cn p).z<=x.z+z.z+3->(cn q).z<=y.z+t.z+3->K (pair (cn p) (cn q))):Ask 170 [pair x y,pair z t] K:=
 use (Zn3 x y z t hx hy hz ht) rfl (k _ _ rfl rfl (by have:=ZR x.q z.q;have:=x.z1;have:=y.z1;have:=z.z1;have:=t.z1;rw[cn_z];omega) (by have:=ZR y.q t.q;have:=x.z1;have:=y.z1;have:=z.z1;have:=t.z1;rw[cn_z];omega))
theorem Zn1(x y z t:RV)(hx:x.z<=1099511627776)(hy:y.z<=1099511627776)(hz:z.z<=1099511627776)(ht:t.z<=1099511627776):Spec Tryz.prog Tab 210 [pair x y,pair z t] (pair (cn (x.q-z.q)) (cn (y.q-t.q))):=by
 refine Zb Tryz.func210 Tryz.ntmps210 ?_;refine Zd7 ω ω fun q1 h1 z1=>?_
 try simp only[cn_q]at h1
 refine Zd7 ω ω fun q2 h2 z2=>?_
 try simp only[cn_q]at h2
 refine⟨ωr,Eq.trans (b:=pair (cn _) (cn _)) ?_ rfl⟩
 subst_vars;rfl
theorem Zlu(hx:x.z<=1099511627776)(hy:y.z<=1099511627776)(hz:z.z<=1099511627776)(ht:t.z<=1099511627776)(k:∀p q,p=x.q-z.q->q=y.q-t.q->(cn p).z<=x.z+z.z+3->(cn q).z<=y.z+t.z+3->K (pair (cn p) (cn q))):Ask 210 [pair x y,pair z t] K:=
 use (Zn1 x y z t hx hy hz ht) rfl (k _ _ rfl rfl (by have:=Zac x.q z.q;have:=x.z1;have:=y.z1;have:=z.z1;have:=t.z1;rw[cn_z];omega) (by have:=Zac y.q t.q;have:=x.z1;have:=y.z1;have:=z.z1;have:=t.z1;rw[cn_z];omega))
end
section
variable{x y z t:RV}{K:AV->Prop}
def rdv(p:RV×RV):List D:=rd p.1++rd p.2
def vecs(l:List (RV×RV)):AV:=.val (.one (.d (.list (l.map rdv))))
theorem ZsP(l:List Rat):∀row,row∈(l.map fun q=>rd (cn q))->row.length=3:=by
 intro row hr;obtain⟨q,_,rfl⟩:=List.mem_map.1 hr;rfl
def xsQ(l:List (RV×RV)):List Rat:=l.map fun p=>p.1.q
def ysQ(l:List (RV×RV)):List Rat:=l.map fun p=>p.2.q
end
