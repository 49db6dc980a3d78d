/- Joined by wip/bundle.py: XPoly XPolyA. -/
import Derived.Test.YtnhfpbcbhnfeaaaGreatDoorQWg
set_option maxRecDepth 100000
namespace Go.Proofs.YtnhfpbcbhnfeaaaGreatDoor.poly
abbrev Pt:=Rat×Rat
def ori(a b c:Pt):Rat:=(b.1-a.1)*(c.2-a.2)-(b.2-a.2)*(c.1-a.1)
theorem Zwh(a b c:Pt):ori a b c=ori b c a:=by unfold ori;grind
theorem Zu8(a b:Pt):ori a b a=0:=by unfold ori;grind
theorem Zu7(a b:Pt):ori a b b=0:=by unfold ori;grind
theorem ZaS{a b:Rat}(ha:0<a)(h:0<=a*b):0<=b:=by
 refine Rat.not_lt.1 fun hb=>?_;have:0<a*(-b):=Rat.mul_pos ha (by grind)
 grind
section
variable(P:Nat->Pt)(n:Nat)
def Edges:Prop:=∀i k,i<n->2<=k->k<n->0<ori (P i) (P ((i+1)%n)) (P ((i+k)%n))
variable{P n}
theorem Zrb(h:Edges P n){i m:Nat}(hi:i<n)(hm:m<n):0<=ori (P i) (P ((i+1)%n)) (P m):=by
 by_cases h1:m=i
 .subst h1;rw[Zu8];exact Rat.le_refl
 .by_cases h2:m=(i+1)%n
  .rw[<-h2,Zu7];exact Rat.le_refl
  .have hk:∃k,2<=k/\k<n/\(i+k)%n=m:=by
    by_cases h3:i<m
    .refine⟨m-i,?_,ω,by rw[show i+(m-i)=m by omega,Nat.mod_eq_of_lt hm]⟩;have:m≠i+1:=fun e=>h2 (by rw[e,Nat.mod_eq_of_lt ω]);omega
    .refine⟨m+n-i,?_,ω,by rw[show i+(m+n-i)=n+m by omega,Nat.add_mod_left,Nat.mod_eq_of_lt hm]⟩;have:¬(i+1=n/\m=0):=fun ⟨e1,e2⟩=>h2 (by rw[e1,Nat.mod_self,e2]);omega
   obtain⟨k,k1,k2,rfl⟩:=hk;exact Rat.le_of_lt (h i k hi k1 k2)
def Inside(P:Nat->Pt)(n:Nat)(p:Pt):Prop:=∀i,i<n->0<=ori (P i) (P ((i+1)%n)) p
def cr(a b:Pt):Rat:=a.1*b.2-a.2*b.1
end
end Go.Proofs.YtnhfpbcbhnfeaaaGreatDoor.poly
namespace Go.Proofs.YtnhfpbcbhnfeaaaGreatDoor.eng
open Go.RowKit num mem seg q held ratA ratB ratC ratD ratE vars ratF
section
variable{K:AV->Prop}
theorem Zn2(x y z t:RV) (hx:x.z<=1073741824)(hy:y.z<=1073741824)(hz:z.z<=1073741824)(ht:t.z<=1073741824):Spec Tryz.prog Tab 211 [pair x y,pair z t] (rat (cn (x.q*z.q+y.q*t.q))):=by
 refine Zb Tryz.func211 Tryz.ntmps211 ?_;refine Zcy (x:=x) (y:=z) ω ω fun q9 h9 z9=>?_;simp only[cn_z]at z9;refine Zcy (x:=y) (y:=t) ω ω fun q14 h14 z14=>?_;simp only[cn_z]at z14;refine Zd8 (x:=cn q9) (y:=cn q14) ωz ωz fun q15 h15 z15=>?_;simp only[cn_z]at z15;simp only[cn_q]at h15;refine⟨ωr,Eq.trans (b:=rat (cn q15)) ?_ rfl⟩
 subst_vars;rfl
section
variable{x y z t:RV}
theorem ZyC(hx:x.z<=1073741824)(hy:y.z<=1073741824)(hz:z.z<=1073741824)(ht:t.z<=1073741824)(k:∀q,q=x.q*z.q+y.q*t.q->(cn q).z<=x.z+z.z+y.z+t.z+7->K (rat (cn q))):Ask 211 [pair x y,pair z t] K:=
 use (Zn2 x y z t  hx hy hz ht) rfl (k _ rfl (by rw[cn_z];have:=x.z1;have:=z.z1;have:=ZX x.q z.q;have:=y.z1;have:=t.z1;have:=ZX y.q t.q;have:=ZR (x.q*z.q) (y.q*t.q);omega))
end
theorem Zje(x y z t:RV) (hx:x.z<=1073741824)(hy:y.z<=1073741824)(hz:z.z<=1073741824)(ht:t.z<=1073741824):Spec Tryz.prog Tab 230 [pair x y,pair z t] (rat (cn (x.q*t.q-y.q*z.q))):=by
 refine Zb Tryz.func230 Tryz.ntmps230 ?_;refine Zcy (x:=x) (y:=t) ω ω fun q9 h9 z9=>?_;simp only[cn_z]at z9;refine Zcy (x:=y) (y:=z) ω ω fun q14 h14 z14=>?_;simp only[cn_z]at z14;refine Zd7 (x:=cn q9) (y:=cn q14) ωz ωz fun q15 h15 z15=>?_;simp only[cn_z]at z15;simp only[cn_q]at h15;refine⟨ωr,Eq.trans (b:=rat (cn q15)) ?_ rfl⟩
 subst_vars;rfl
section
variable{x y z t:RV}
theorem Zty(hx:x.z<=1073741824)(hy:y.z<=1073741824)(hz:z.z<=1073741824)(ht:t.z<=1073741824)(k:∀q,q=x.q*t.q-y.q*z.q->(cn q).z<=x.z+t.z+y.z+z.z+7->K (rat (cn q))):Ask 230 [pair x y,pair z t] K:=
 use (Zje x y z t  hx hy hz ht) rfl (k _ rfl (by rw[cn_z];have:=x.z1;have:=t.z1;have:=ZX x.q t.q;have:=y.z1;have:=z.z1;have:=ZX y.q z.q;have:=Zac (x.q*t.q) (y.q*z.q);omega))
end
section
variable{x y z t:RV}
end
section
variable{x y z t:RV}
end
theorem Zp6(x y z t u v:RV) (hx:x.z<=260000000)(hy:y.z<=260000000)(hz:z.z<=260000000)(ht:t.z<=260000000)(hu:u.z<=260000000)(hv:v.z<=260000000):Spec Tryz.prog Tab 199 [pair x y,pair z t,pair u v] (int (sgnQ ((z.q-x.q)*(v.q-y.q)-(t.q-y.q)*(u.q-x.q)))):=by
 refine Zb Tryz.func199 Tryz.ntmps199 ?_;refine Zlu (x:=z) (y:=t) (z:=x) (t:=y) ω ω ω ω (fun p9 q9 hk_9_2 hk_9_3 a0 a1=>?_);simp only[cn_z]at a0;simp only[cn_z]at a1;refine Zlu (x:=u) (y:=v) (z:=x) (t:=y) ω ω ω ω (fun p12 q12 hk_12_2 hk_12_3 a2 a3=>?_);simp only[cn_z]at a2;simp only[cn_z]at a3;refine Zty (x:=cn p9) (y:=cn q9) (z:=cn p12) (t:=cn q12) ωz ωz ωz ωz (fun q13 a4 a5=>?_)
 try simp only[cn_q]at a4
 simp only[cn_z]at a5;refine Zf2 (x:=cn q13) ωz fun n14 h14=>?_;simp only[cn_q]at h14;refine⟨ωr,Eq.trans (b:=int n14) ?_ rfl⟩
 subst_vars;rfl
section
variable{x y z t u v:RV}
theorem ZyQ(hx:x.z<=260000000)(hy:y.z<=260000000)(hz:z.z<=260000000)(ht:t.z<=260000000)(hu:u.z<=260000000)(hv:v.z<=260000000)(k:∀n,n=sgnQ ((z.q-x.q)*(v.q-y.q)-(t.q-y.q)*(u.q-x.q))->K (int n)):Ask 199 [pair x y,pair z t,pair u v] K:=
 use (Zp6 x y z t u v  hx hy hz ht hu hv) rfl (k _ rfl)
end
section
variable{x y z t u v:RV}
end
def pts(l:List (RV×RV))(i:Nat):poly.Pt:=(((l[i]?).getD (z0,z0)).1.q,((l[i]?).getD (z0,z0)).2.q)
theorem Zat{l:List (RV×RV)}{i:Nat}{p:RV×RV}(h:l[i]? =some p):pts l i=(p.1.q,p.2.q):=by simp[pts,h]
open Classical in
noncomputable def convE(m:Int)(l:List (RV×RV)):Int:=if m<(l.length:Int) then 2 else if l.length<3 then 3 else if poly.Edges (pts l) l.length then 0 else 3
theorem Zrq{m:Int}{l:List (RV×RV)}(h:m<(l.length:Int)):convE m l=2:=if_pos h
theorem Zrp{m:Int}{l:List (RV×RV)}(h:¬m<(l.length:Int))(h2:l.length<3):convE m l=3:=by rw[convE,if_neg h,if_pos h2]
theorem Zrr{m:Int}{l:List (RV×RV)}(h:¬m<(l.length:Int))(h2:¬l.length<3)(h3:poly.Edges (pts l) l.length):convE m l=0:=by rw[convE,if_neg h,if_neg h2,if_pos h3]
theorem Zro{m:Int}{l:List (RV×RV)}(h:¬m<(l.length:Int))(h2:¬l.length<3)(h3:¬poly.Edges (pts l) l.length):convE m l=3:=by rw[convE,if_neg h,if_neg h2,if_neg h3]
theorem ZaV{m:Int}{l:List (RV×RV)}:convE m l=0↔¬m<(l.length:Int)/\¬l.length<3/\poly.Edges (pts l) l.length:=by
 unfold convE;by_cases h1:m<(l.length:Int)
 .simp[h1]
 .by_cases h2:l.length<3
  .simp[h1,h2]
  .by_cases h3:poly.Edges (pts l) l.length<;>simp[h1,h2,h3]
set_option maxHeartbeats 400000 in
theorem Zgi(l:List (RV×RV))(m:Int)(hl:∀p,p∈l->p.1.z<=260000000/\p.2.z<=260000000)(hn:l.length<=1073741824):Spec Tryz.prog Tab 158 [Xl rdv l,int m] (int (convE m l)):=by
 have hL:(l.map rdv).length=l.length:=List.length_map ..;refine Zb Tryz.func158 Tryz.ntmps158 ?_;refine⟨fun e1=>?_,fun e1=>?_⟩
 .have a5:((l.map rdv).length:Int) >m:=oT e1;refine Eq.trans (b:=int 2) ?_ rfl;rw[Zrq ω]
 .have a5:¬(((l.map rdv).length:Int) >m):=oF e1;refine⟨fun e2=>?_,fun e2=>?_⟩
  .have a6:((l.map rdv).length:Int)<3:=oT e2;refine Eq.trans (b:=int 3) ?_ rfl;rw[Zrp ω ω]
  .have a6:¬(((l.map rdv).length:Int)<3):=oF e2;refine⟨Nat,fun i=>[(0,Xl rdv l),(5,int ((l.map rdv).length:Int)),(18,Xl rdv l),(19,int ((l.map rdv).length:Int)),(20,int (i:Int))],
    fun i=>[],fun i=>i<=l.length/\∀i' k,i'<i->2<=k->k<l.length->0<poly.ori (pts l i') (pts l ((i'+1)%l.length)) (pts l ((i'+k)%l.length)),fun i=>l.length-i,0,?_,⟨Nat.zero_le _,fun i' k h=>absurd h (Nat.not_lt_zero _)⟩,fun i hs=>?_⟩
   .exact ωe
   obtain⟨hi,hall⟩:=hs;refine⟨fun e3=>?_,fun e3=>?_⟩
   .have a7:(i:Int)<((l.map rdv).length:Int):=oT e3;obtain⟨x23,a0⟩:∃vv,l[i]? =some vv:=⟨_,gE ωm⟩;have hzx23:=hl x23 (mG a0);have hpx23:=Zat a0;refine k_ix i _ ωh (Zd a0) rfl ?_;refine⟨Nat,fun k=>[(0,Xl rdv l),(5,int ((l.map rdv).length:Int)),(6,int (i:Int)),(7,.val (.one (.ptr 7 0))),(8,int (k:Int)),(18,Xl rdv l),(19,int ((l.map rdv).length:Int)),(20,int (i:Int))],
     fun k=>[(7,.var 25 (X1 x23.1<|X1 x23.2 []))],fun k=>2<=k/\∀k',2<=k'->k'<k->k'<l.length->0<poly.ori (pts l i) (pts l ((i+1)%l.length)) (pts l ((i+k')%l.length)),fun k=>l.length-k,2,?_,⟨Nat.le_refl _,fun k' h1 h2=>ω⟩,fun k hs=>?_⟩
    .exact ωe
    obtain⟨hk,hin0⟩:=hs;refine⟨fun e4=>?_,fun e4=>?_⟩
    .have a8:(k:Int)<((l.map rdv).length:Int):=oT e4;refine Zf3 (i+1) l.length ωh ωh ω ?_;obtain⟨x36,a1⟩:∃vv,l[((i+1)%l.length)]? =some vv:=⟨_,gE ωm⟩;have hzx36:=hl x36 (mG a1);have hpx36:=Zat a1;refine k_ix ((i+1)%l.length) (Y1 x36.1<|Y1 x36.2 []) ωh (Zd a1) rfl<|Zf3 (i+k) l.length ωh ωh ω ?_;obtain⟨x44,a2⟩:∃vv,l[((i+k)%l.length)]? =some vv:=⟨_,gE ωm⟩;have hzx44:=hl x44 (mG a2);have hpx44:=Zat a2;refine k_ix ((i+k)%l.length) (Y1 x44.1<|Y1 x44.2 []) ωh (Zd a2) rfl<|ZyQ (x:=x23.1) (y:=x23.2) (z:=x36.1) (t:=x36.2) (u:=x44.1) (v:=x44.2) ω ω ω ω ω ω (fun n46 a4=>⟨ωr,⟨fun e5=>?_,fun e5=>?_⟩⟩)
     .have a3:(x36.1.q-x23.1.q)*(x44.2.q-x23.2.q)-(x36.2.q-x23.2.q)*(x44.1.q-x23.1.q)<=0:=(Z0 a4).1 (oT e5);refine Eq.trans (b:=int 3) ?_ rfl;rw[Zro ω ω (fun hE=>by have:=hE i k ω hk ω;rw[hpx23,hpx36,hpx44]at this;exact absurd a3 (Rat.not_le.2 this))]
     .have a3:¬((x36.1.q-x23.1.q)*(x44.2.q-x23.2.q)-(x36.2.q-x23.2.q)*(x44.1.q-x23.1.q)<=0):=fun hh=>oF e5 ((Z0 a4).2 hh);have hpos:0<poly.ori (pts l i) (pts l ((i+1)%l.length)) (pts l ((i+k)%l.length)):=by rw[hpx23,hpx36,hpx44];exact Rat.not_le.1 a3
      refine⟨k+1,⟨ω,fun k' h1 h2 h3=>by
        by_cases e:k'=k
        .subst e;exact hpos
        .exact hin0 k' h1 ω h3⟩,by simp only;omega,?_⟩
      exact ωE
    .have a8:¬((k:Int)<((l.map rdv).length:Int)):=oF e4;have hin:∀k',2<=k'->k'<l.length->0<poly.ori (pts l i) (pts l ((i+1)%l.length)) (pts l ((i+k')%l.length)):=fun k' h1 h2=>hin0 k' h1 ω h2;refine⟨i+1,⟨ω,fun i' k h1 h2 h3=>by
       by_cases e:i'=i
       .subst e;exact hin k h2 h3
       .exact hall i' k ω h2 h3⟩,by simp only;omega,?_⟩
     exact ωE
   .have a7:¬((i:Int)<((l.map rdv).length:Int)):=oF e3;refine Eq.trans (b:=int 0) ?_ rfl;rw[Zrr ω ω (fun i' k h1 h2 h3=>hall i' k ω h2 h3)]
theorem ZkA(l:List (RV×RV))(hl:∀p,p∈l->p.1.z<=260000000/\p.2.z<=260000000)(hn:l.length<=1073741824):Spec Tryz.prog Tab 209 [Xl rdv l] (int (convE 64 l)):=by
 refine Zb Tryz.func209 Tryz.ntmps209 ?_;refine use (Zgi l (64) hl hn) rfl<|Eq.trans (b:=int (convE 64 l)) ?_ rfl
 subst_vars;rfl
theorem Zku(l:List (RV×RV))(hl:∀p,p∈l->p.1.z<=260000000/\p.2.z<=260000000)(hn:l.length<=1073741824):Spec Tryz.prog Tab 103 [Xl rdv l] (int (convE 8 l)):=by
 refine Zb Tryz.func103 Tryz.ntmps103 ?_;refine use (Zgi l (8) hl hn) rfl<|Eq.trans (b:=int (convE 8 l)) ?_ rfl
 subst_vars;rfl
theorem ZlC{l:List (RV×RV)}(hl:∀p,p∈l->p.1.z<=67108864/\p.2.z<=67108864)(hn:l.length<=1073741824)(k:∀n,n=convE 8 l->K (int n)):Ask 103 [vecs l] K:=use (Zku l (fun p hp=>⟨Nat.le_trans (hl p hp).1 ωd,Nat.le_trans (hl p hp).2 ωd⟩) hn) rfl (k _ rfl)
end
