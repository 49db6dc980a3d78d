/- Joined by wip/bundle.py: XRoa0 XRoaA XRoaR. -/
import Derived.Test.YtnhfpbcbhnfeaaaGreatDoorQSayA
import Derived.Test.YtnhfpbcbhnfeaaaGreatDoorQGrpGr
set_option maxHeartbeats 4000000
set_option maxRecDepth 100000
open List (range mem_of_getElem? length_map)
namespace Go.Proofs.YtnhfpbcbhnfeaaaGreatDoor.eng
open Go.RowKit num mem seg q held ratA ratB ratC ratD ratE vars ratF trq
def intD(n:Int):List D:=[.v (.int .i64 n)]
def hfQ:Rat:=((1:Int):Rat)/((2:Int):Rat)
def bst(d:Nat->Rat):Nat->Nat×Rat
 |0=>(0,0)
 |j+1=>if j=0\/d j<(bst d j).2 then (j,d j) else bst d j
section
variable{d:Nat->Rat}
theorem Zhv{j:Nat}(h:j=0\/d j<(bst d j).2):bst d (j+1)=(j,d j):=by
 show (if j=0\/d j<(bst d j).2 then (j,d j) else bst d j)=_;exact if_pos h
theorem ZvG{j:Nat}(h:¬j=0)(g:¬d j<(bst d j).2):bst d (j+1)=bst d j:=by
 show (if j=0\/d j<(bst d j).2 then (j,d j) else bst d j)=_;exact if_neg fun k=>k.elim h g
theorem Zxs:∀j,1<=j->(bst d j).1<j/\(bst d j).2=d (bst d j).1/\(∀k,k<j->d (bst d j).1<=d k)/\∀k,k<(bst d j).1->d (bst d j).1<d k:=by
 intro j
 induction j with
 |zero=>intro h;omega
 |succ j ih=>
  intro _;by_cases h:j=0
  .subst h;rw[Zhv (.inl rfl)];exact⟨Nat.lt_succ_self _,rfl,fun k hk=>by
     obtain rfl:k=0:=ω;exact Rat.le_refl,fun k hk=>absurd hk (Nat.not_lt_zero _)⟩
  .obtain⟨a1,a2,a3,a4⟩:=ih ω;by_cases g:d j<(bst d j).2
   .rw[Zhv (.inr g)];rw[a2]at g;refine⟨Nat.lt_succ_self _,rfl,fun k hk=>?_,fun k hk=>?_⟩
    .by_cases e:k=j
     .subst e;exact Rat.le_refl
     .have:=a3 k ω;show d j<=d k;grind
    .have:=a3 k hk;show d j<d k;grind
   .rw[ZvG h g];rw[a2]at g;refine⟨ω,a2,fun k hk=>?_,a4⟩;by_cases e:k=j
    .subst e;exact Rat.not_lt.1 g
    .exact a3 k ω
theorem Zun{n m:Nat}(hm:m<n)(h1:∀k,k<m->d m<d k)(h2:∀k,k<n->d m<=d k):(bst d n).1=m:=by
 obtain⟨a1,a2,a3,a4⟩:=Zxs (d:=d) n ω;rcases Nat.lt_trichotomy (bst d n).1 m with h|h|h
 .have:=h1 _ h;have:=a3 m hm;grind
 .exact h
 .have:=a4 _ h;have:=h2 _ a1;grind
end
theorem Zhz{p:Rat}(h:0<=p):absV p=p:=if_neg (by have:=Rat.num_nonneg.2 h;omega)
theorem Zhy{p:Rat}(h:p<=0):absV p=-p:=by
 unfold absV;split
 .rfl
 .rename_i g;have:0<=p:=Rat.num_nonneg.1 ω
  grind
theorem Zuu{c p:Rat}(hc:0<c):absV (c*p)=c*absV p:=by
 by_cases h:0<=p
 .rw[Zhz h,Zhz (Rat.mul_nonneg (by grind) h)]
 .have h:p<=0:=by grind
  have:=Rat.mul_nonneg (a:=c) (b:=-p) (by grind) (by grind);rw[Zhy h,Zhy (by grind)]
  grind
theorem Zwn{lo hi x:Rat}{s:Int}(h1:lo<hi)(h2:lo<=x)(h3:x<=hi)(hs:1<=s){t:Rat}(ht:t=(x-lo)/(hi-lo)*(s:Rat)){m:Int}(hm:m=-(hfQ-t).floor){n:Nat}(hn:(n:Int)=s+1)
 {d:Nat->Rat}(hd:∀k,d k=absV (lo+(hi-lo)*((k:Int):Rat)/(s:Rat)-x)):0<=m/\m<=s/\((bst d n).1:Int)=m:=by
 have hS:(0:Rat)<(s:Rat):=by
  have:((0:Int):Rat)<(s:Rat):=Rat.intCast_lt_intCast.2 ω;exact this
 have hH:0<hi-lo:=by grind
 obtain⟨c,hc⟩:∃c,c=(hi-lo)/(s:Rat):=⟨_,rfl⟩;have hcp:0<c:=by rw[hc];exact(Rat.lt_div_iff hS).2 (by rw[Rat.zero_mul];exact hH)
 have key:∀k:Rat,lo+(hi-lo)*k/(s:Rat)-x=c*(k-t):=fun k=>by
  have:hi-lo≠0:=by grind
  grind
 have u0:0<=(x-lo)/(hi-lo):=Rat.not_lt.1 fun g=>by
  have:=(Rat.div_lt_iff hH).1 g;rw[Rat.zero_mul]at this
  grind
 have u1:(x-lo)/(hi-lo)<=1:=Rat.not_lt.1 fun g=>by
  have:=(Rat.lt_div_iff hH).1 g;rw[Rat.one_mul]at this
  grind
 have t0:0<=t:=by rw[ht];exact Rat.mul_nonneg u0 (by grind)
 have t1:t<=(s:Rat):=by
  have:=Rat.mul_le_mul_of_nonneg_left u1 (c:=(s:Rat)) (by grind);rw[ht,Rat.mul_comm]
  grind
 have f1:=Rat.floor_le (hfQ-t);have f2:=Rat.lt_floor (x:=hfQ-t);have hh:hfQ+hfQ=1:=by decide+kernel
 have em:(m:Rat)=-((hfQ-t).floor:Rat):=by rw[hm,Rat.intCast_neg]
 have g1:t-hfQ<=(m:Rat):=by grind
 have g2:(m:Rat)<t+hfQ:=by grind
 have m0:0<=m:=by
  have:((-1:Int):Rat)<(m:Rat):=by
   rw[show ((-1:Int):Rat)=-1 from rfl]
   grind
  have:=Rat.intCast_lt_intCast.1 this;omega
 have m1:m<=s:=by
  have:(m:Rat)<((s+1:Int):Rat):=by
   rw[Rat.intCast_add,show ((1:Int):Rat)=1 from rfl]
   grind
  have:=Rat.intCast_lt_intCast.1 this;omega
 refine⟨m0,m1,?_⟩;obtain⟨M,hM⟩:∃M:Nat,(M:Int)=m:=⟨m.toNat,ω⟩;rw[<-hM]at g1 g2 m1;rw[<-hM];have hdk:∀k:Nat,d k=c*absV (((k:Int):Rat)-t):=fun k=>by rw[hd,key,Zuu hcp]
 have eM:absV (((M:Int):Rat)-t)<=hfQ:=by
  by_cases h:0<=((M:Int):Rat)-t
  .rw[Zhz h];grind
  .rw[Zhy (by grind)];grind
 have lt:∀k:Nat,k<M->absV (((M:Int):Rat)-t)<absV (((k:Int):Rat)-t):=fun k hk=>by
  have:((k+1:Int):Rat)<=((M:Int):Rat):=Rat.intCast_le_intCast.2 ω;rw[Rat.intCast_add,show ((1:Int):Rat)=1 from rfl]at this;rw[Zhy (p:=((k:Int):Rat)-t) (by grind)]
  grind
 have le:∀k:Nat,absV (((M:Int):Rat)-t)<=absV (((k:Int):Rat)-t):=fun k=>by
  rcases Nat.lt_trichotomy k M with h|h|h
  .have:=lt k h;grind
  .subst h;exact Rat.le_refl
  .have:((M+1:Int):Rat)<=((k:Int):Rat):=Rat.intCast_le_intCast.2 ω;rw[Rat.intCast_add,show ((1:Int):Rat)=1 from rfl]at this;rw[Zhz (p:=((k:Int):Rat)-t) (by grind)]
   grind
 rw[Zun (d:=d) (n:=n) (m:=M) ω (fun k hk=>by rw[hdk,hdk];exact Rat.mul_lt_mul_of_pos_left (lt k hk) hcp) (fun k _=>by rw[hdk,hdk];exact Rat.mul_le_mul_of_nonneg_left (le k) (by grind))]
noncomputable def rcE(A:ArmV)(s:Int):Int:=if armE A=0 then (if 1<=s/\s<=12 then 0 else 1) else armE A
theorem Zv6{A:ArmV}{s:Int}(h:armE A=0)(g:1<=s/\s<=12):rcE A s=0:=by unfold rcE;rw[if_pos h,if_pos g]
theorem ZsR{A:ArmV}{s:Int}(h:armE A=0)(g:¬(1<=s/\s<=12)):rcE A s=1:=by unfold rcE;rw[if_pos h,if_neg g]
theorem Zya{A:ArmV}{s:Int}(h:¬armE A=0):rcE A s=armE A:=if_neg h
theorem Zu1{A:ArmV}{s:Int}(h:rcE A s=0):armE A=0/\1<=s/\s<=12:=by
 by_cases g:armE A=0
 .by_cases k:1<=s/\s<=12
  .exact⟨g,k⟩
  .rw[ZsR g k]at h;exact absurd h ωd
 .rw[Zya g]at h;exact absurd h g
def spB(L:List Int)(s:Int):Prop:=∃k,k∈L/\(k<0\/s<k)
open Classical in
noncomputable def spotE(L:List Int)(n s:Int):Int:=if (L.length:Int)=n then (if spB L s then 17 else 0) else 1
theorem ZvW{L:List Int}{n s:Int}(h:¬(L.length:Int)=n):spotE L n s=1:=by unfold spotE;exact if_neg h
theorem ZkO{L:List Int}{n s:Int}(h:(L.length:Int)=n)(g:spB L s):spotE L n s=17:=by unfold spotE;rw[if_pos h,if_pos g]
theorem Zou{L:List Int}{n s:Int}(h:(L.length:Int)=n)(g:¬spB L s):spotE L n s=0:=by unfold spotE;rw[if_pos h,if_neg g]
theorem ZuP{L:List Int}{s:Int}(h:∀(j:Nat)(k:Int),j<L.length->L[j]? =some k->¬(k<0\/s<k)):¬spB L s:=by
 rintro⟨k,hk,hb⟩;obtain⟨j,hj⟩:=List.mem_iff_getElem?.1 hk;exact h j k (gS hj).1 hj hb
noncomputable def rvE(A:ArmV)(s:Int)(L:List Int):Int:=if rcE A s=0 then spotE L A.links.length s else rcE A s
theorem ZoU{A:ArmV}{s:Int}{L:List Int}(h:rcE A s=0):rvE A s L=spotE L A.links.length s:=if_pos h
theorem ZzI{A:ArmV}{s c:Int}{L:List Int}(h:rcE A s=c)(g:¬c=0):rvE A s L=c:=by unfold rvE;rw[h,if_neg g]
def sptA(L:List Int)(i:Nat):Int:=(L[i]?).getD 0
theorem Zjl{L:List Int}{i:Nat}{k:Int}(h:L[i]? =some k):sptA L i=k:=by simp[sptA,h]
def vlQ(A:ArmV)(s:Int)(L:List Int)(i:Nat):Rat:=(lkAt A i).low.q+((lkAt A i).high.q-(lkAt A i).low.q)*((sptA L i:Rat)/(s:Rat))
def vlF(A:ArmV)(s:Int)(L:List Int)(n:Nat):List Rat:=(range n).map (vlQ A s L)
theorem Zbr(A:ArmV)(s:Int)(L:List Int)(n:Nat):(vlF A s L n).length=n:=by simp[vlF]
theorem ZkI{α:Type}(g:Rat->α)(A:ArmV)(s:Int)(L:List Int)(i:Nat):List.map g (vlF A s L (i+1))=List.map g (vlF A s L i)++[g (vlQ A s L i)]:=by
 simp[vlF,List.range_succ]
open Classical in
noncomputable def rvV(A:ArmV)(s:Int)(L:List Int):List Rat:=if rvE A s L=0 then vlF A s L A.links.length else []
theorem ZuW{A:ArmV}{s:Int}{L:List Int}(h:rvE A s L=0):rvV A s L=vlF A s L A.links.length:=if_pos h
theorem Zk1{A:ArmV}{s:Int}{L:List Int}(h:¬rvE A s L=0):rvV A s L= []:=if_neg h
noncomputable def rnE(A:ArmV)(s:Int)(Q:List RV):Int:=if rcE A s=0 then fitsE A Q else rcE A s
theorem Zv4{A:ArmV}{s:Int}{Q:List RV}(h:rcE A s=0):rnE A s Q=fitsE A Q:=if_pos h
theorem Zx7{A:ArmV}{s c:Int}{Q:List RV}(h:rcE A s=c)(g:¬c=0):rnE A s Q=c:=by unfold rnE;rw[h,if_neg g]
def nrT(A:ArmV)(s:Int)(Q:List RV)(i:Nat):Rat:=(qAt Q i-(lkAt A i).low.q)/((lkAt A i).high.q-(lkAt A i).low.q)*(s:Rat)
def nrQ(A:ArmV)(s:Int)(Q:List RV)(i:Nat):Int:=-(hfQ-nrT A s Q i).floor
def nrF(A:ArmV)(s:Int)(Q:List RV)(n:Nat):List Int:=(range n).map (nrQ A s Q)
theorem ZjP(A:ArmV)(s:Int)(Q:List RV)(n:Nat):(nrF A s Q n).length=n:=by simp[nrF]
theorem Zlh{α:Type}(g:Int->α)(A:ArmV)(s:Int)(Q:List RV)(i:Nat):List.map g (nrF A s Q (i+1))=List.map g (nrF A s Q i)++[g (nrQ A s Q i)]:=by
 simp[nrF,List.range_succ]
open Classical in
noncomputable def rnV(A:ArmV)(s:Int)(Q:List RV):List Int:=if rnE A s Q=0 then nrF A s Q A.links.length else []
theorem ZuY{A:ArmV}{s:Int}{Q:List RV}(h:rnE A s Q=0):rnV A s Q=nrF A s Q A.links.length:=if_pos h
theorem ZuZ{A:ArmV}{s:Int}{Q:List RV}(h:¬rnE A s Q=0):rnV A s Q= []:=if_neg h
theorem Zw3{A:ArmV}{Q:List RV}(h:fitsE A Q=0):∀(i:Nat)(l:LinkV)(x:RV),A.links[i]? =some l->Q[i]? =some x->l.low.q<=x.q/\x.q<=l.high.q:=by
 have⟨h1,h2⟩:=ZI h;have hh:hasE A (Q.length:Int)=0:=ZaG.2 ⟨h2,by rw[h1]⟩;intro i l x hl hx;unfold fitsE at h;rw[if_pos hh]at h;have hf:¬farQ A Q:=fun g=>by rw[if_pos g]at h;exact absurd h ωd
 exact⟨Rat.not_lt.1 fun g=>hf ⟨i,l,x,hl,hx,.inl g⟩,Rat.not_lt.1 fun g=>hf ⟨i,l,x,hl,hx,.inr g⟩⟩
def dsQ(A:ArmV)(s:Int)(Q:List RV)(i k:Nat):Rat:=absV ((lkAt A i).low.q+((lkAt A i).high.q-(lkAt A i).low.q)*((k:Int):Rat)/(s:Rat)-qAt Q i)
theorem ZjR{A:ArmV}{s:Int}{Q:List RV}{i:Nat}{l:LinkV}{x:RV}(h:fitsE A Q=0)(hl:A.links[i]? =some l)(hx:Q[i]? =some x)(hs:1<=s){n:Nat}(hn:(n:Int)=s+1):
  0<=nrQ A s Q i/\nrQ A s Q i<=s/\((bst (dsQ A s Q i) n).1:Int)=nrQ A s Q i:=by
 obtain⟨g1,g2⟩:=Zw3 h i l x hl hx;have ll:=(ZK (ZI h).2 (mG hl)).2.2.2.2.2.2.1;have el:=Zcd hl;have ex:qAt Q i=x.q:=Zk7 hx;exact Zwn (lo:=l.low.q) (hi:=l.high.q) (x:=x.q) ll g1 g2 hs (t:=nrT A s Q i) (by unfold nrT;rw[el,ex]) rfl hn fun k=>by unfold dsQ;rw[el,ex]
section
variable{K:AV->Prop}
theorem castne1{s:Int}(h:1<=s):(s:Rat)≠0:=fun e=>by
 have:((0:Int):Rat)<(s:Rat):=Rat.intCast_lt_intCast.2 ω;rw[e]at this;exact absurd this ωk
theorem ZyI{A:ArmV}{s:Int}(hA:A.ok)(k:∀n,n=rcE A s->K (int n)):Ask 51 [arm A,int s] K:=use2 (k _ rfl) (by
 have hA2:=hA;have z6:=hA.2.2.2.2.2;have hLk:(A.links.map lk).length=A.links.length:=length_map ..;refine Zb Tryz.func51 Tryz.ntmps51 ?_;refine Zhf (A:=A) ωs fun n7 hk_7_1=>⟨fun e1=>?_,fun e1=>?_⟩
 .have f9:n7≠0:=ZO e1;refine Eq.trans (b:=int n7) ?_ rfl;rw[Zya (by rw[<-hk_7_1];exact f9),<-hk_7_1]
 .have f9:¬(n7≠0):=fun hh=>hh (ZP e1);have h0:armE A=0:=by rw[<-hk_7_1];exact nN f9
  refine fork (fun e2=>?_) (fun e2=>?_)
  .have a0:s<1:=oT e2;refine⟨fun _=> Eq.trans (b:=int 1) ?_ rfl,fun e=>absurd e ωd⟩;rw[ZsR h0 ω]
  .have a0:¬(s<1):=oF e2;refine⟨fun e3=>?_,fun e3=>?_⟩
   .have a1:s >12:=oT e3;refine Eq.trans (b:=int 1) ?_ rfl;rw[ZsR h0 ω]
   .have a1:¬(s >12):=oF e3;refine Eq.trans (b:=int 0) ?_ rfl;rw[Zv6 h0 ω]
 ) rfl
theorem Zpa(A:ArmV)(s:Int)(L:List Int)(hA:A.ok)(hL:L.length<=1048576):Spec Tryz.prog Tab 18 [arm A,int s,Xl intD L] (.tup [.one (.d (.list ((rvV A s L).map rdc))),.one (.d (.v (.int .i64 (rvE A s L))))]):=by
 have hA2:=hA;have z6:=hA.2.2.2.2.2;have hLk:(A.links.map lk).length=A.links.length:=length_map ..;have hLl:(L.map intD).length=L.length:=length_map ..;refine Zb Tryz.func18 Tryz.ntmps18 ?_;refine ZyI (A:=A) (s:=s) ωs fun n18 a1=>⟨fun e1=>?_,fun e1=>?_⟩
 .have a2:n18≠0:=ZO e1;refine Eq.trans (b:=.tup [.one (.d (.list ([]))),.one (.d (.v (.int .i64 (n18))))]) ?_ rfl;have hc:¬rcE A s=0:=by rw[<-a1];exact a2
  have hv:=ZzI (L:=L) rfl hc;rw[Zk1 (by rw[hv];exact hc),hv,<-a1]
  all_goals rfl
 .have a2:¬(n18≠0):=fun hh=>hh (ZP e1);have hrc:rcE A s=0:=by rw[<-a1];exact nN a2
  have hok:=Zu1 hrc;have hA0:=hok.1;have hs1:=hok.2.1;have hs2:=hok.2.2;have hn3:=(Zy hA0).1;have hs0:=castne1 hs1;have hLj:(jnV A).length=A.links.length:=by rw[ZlD hA0]
  refine⟨fun e2=>?_,fun e2=>?_⟩
  .have a5:((L.map intD).length:Int)≠((A.links.map lk).length:Int):=ZO e2;refine Eq.trans (b:=.tup [.one (.d (.list ([]))),.one (.d (.v (.int .i64 (1))))]) ?_ rfl;have hv:rvE A s L=1:=(ZoU hrc).trans (ZvW ω);rw[Zk1 (by rw[hv];decide),hv]
   all_goals rfl
  .have a5:¬(((L.map intD).length:Int)≠((A.links.map lk).length:Int)):=fun hh=>hh (ZP e2);have hlen:L.length=A.links.length:=ω;refine ZtP (A:=A) ωs fun n30 a6=>⟨fun e3=>?_,fun e3=>?_⟩
   .have a3:n30≠0:=ZO e3;exfalso;exact a3 (by rw[a6];exact hA0)
   .have a3:¬(n30≠0):=fun hh=>hh (ZP e3);refine⟨Nat,fun i=>[(1,int s),(9,Xl jn (jnV A)),(11,.val (.one (.row 64 0))),(36,Xl intD L),(37,int ((L.map intD).length:Int)),(38,int (i:Int))],
     fun i=>[(64,.row 23 3 0 ((vlF A s L i).map rdc) true)],fun i=>i<=L.length/\∀(j:Nat)(k:Int),j<i->L[j]? =some k->¬(k<0\/s<k),fun i=>L.length-i,0,?_,⟨Nat.zero_le _,fun j k h=>ω⟩,fun i hs=>?_⟩
    .exact ωe
    have g1:=hs.1;have g2:=hs.2;have hT:((vlF A s L i).map rdc).length<=3:=by rw[length_map,Zbr];omega
    refine⟨fun e4=>?_,fun e4=>?_⟩
    .have a7:(i:Int)<((L.map intD).length:Int):=oT e4;refine Zm (l:=L) (i:=i) ωm fun x41 a0=> k_ix i _ ωf (Zd a0) rfl<|fork (fun e5=>?_) (fun e5=>?_)
     .have a8:x41<0:=oT e5;refine⟨fun _=> Eq.trans (b:=.tup [.one (.d (.list ([]))),.one (.d (.v (.int .i64 (17))))]) ?_ rfl,fun e=>absurd e ωd⟩;have hv:rvE A s L=17:=(ZoU hrc).trans (ZkO ω ⟨x41,mG a0,ω⟩);rw[Zk1 (by rw[hv];decide),hv]
      all_goals rfl
     .have a8:¬(x41<0):=oF e5;refine⟨fun e6=>?_,fun e6=>?_⟩
      .have a9:x41 >s:=oT e6;refine Eq.trans (b:=.tup [.one (.d (.list ([]))),.one (.d (.v (.int .i64 (17))))]) ?_ rfl;have hv:rvE A s L=17:=(ZoU hrc).trans (ZkO ω ⟨x41,mG a0,ω⟩);rw[Zk1 (by rw[hv];decide),hv]
       all_goals rfl
      .have a9:¬(x41 >s):=oF e6;refine Zvt x41 s ω ω ω ω hs0 fun q53 h53 z53=>?_;simp only[cn_z]at z53;refine Zm (l:=(jnV A)) (i:=i) ωm fun x59 a4=>?_;have hmx59:A.links[i]? =some x59:=by rw[<-ZlD hA0];exact a4
       have hj:x59=lkAt A i:=(Zcd hmx59).symm;have hzx59:x59.low.z<=67108864/\x59.high.z<=67108864:=⟨(z6 _ (mG hmx59)).2.1,(z6 _ (mG hmx59)).2.2.1⟩;refine k_ix i _ ωf (Zd a4) rfl ⟨rat (cn (jvQ x59 (cn q53))),⟨rfl,_,ZmU,Zl5 rfl (Znw x59 (cn q53) hzx59.1 hzx59.2 ωz)⟩,⟨⟨row1 rfl,(by show (((vlF A s L i).map rdc).length+1)*40<=_;omega),(by show (((vlF A s L i).map rdc).length+1)<=_;omega)⟩,⟨ωr,?_⟩⟩⟩;have e1:jvQ x59 (cn q53)=vlQ A s L i:=by unfold jvQ vlQ;rw[cn_q,h53,hj,Zjl a0]
       refine⟨i+1,⟨ω,fun j k hj hk=>by
        by_cases e:j=i
        .subst e;obtain rfl:=sI (a0.symm.trans hk);omega
        .exact g2 j k ω hk⟩,by simp only;omega,?_⟩
       constructor<;>(repeat' apply And.intro)<;>first|exact ωq|(rw[ZkI,<-e1];rfl)
    .have a7:¬((i:Int)<((L.map intD).length:Int)):=oF e4;refine Eq.trans (b:=.tup [.one (.d (.list ((vlF A s L i).map rdc))),.one (.d (.v (.int .i64 (0))))]) ?_ rfl;obtain rfl:i=L.length:=ω;have hv:rvE A s L=0:=(ZoU hrc).trans (Zou ω (ZuP g2));rw[ZuW hv,hv,<-hlen]
     all_goals rfl
theorem ZiD{A:ArmV}{s:Int}(L:List Int){vv:List (List D)}(hv:vv=List.map intD L)(hA:A.ok)(hL:L.length<=1048576)(k:∀n,n=rvE A s L->K (.tup [.one (.d (.list ((rvV A s L).map rdc))),.one (.d (.v (.int .i64 (n))))])):Ask 18 [arm A,int s,.val (.one (.d (.list vv)))] K:=by
 subst hv;exact use (Zpa A s L hA hL) rfl (k _ rfl)
theorem Zql{A:ArmV}{s:Int}{Q:List RV}(hA:A.ok)(hQ:∀x,x∈Q->x.z<=1048576)(k:∀n,n=rnE A s Q->K (.tup [.one (.d (.list ((rnV A s Q).map intD))),.one (.d (.v (.int .i64 (n))))])):Ask 17 [arm A,int s,Xl rd Q] K:=use2 (k _ rfl) (by
 have hA2:=hA;have z6:=hA.2.2.2.2.2;have hLk:(A.links.map lk).length=A.links.length:=length_map ..;have hLq:(Q.map rd).length=Q.length:=length_map ..;have hQ6:∀x,x∈Q->x.z<=67108864:=fun x hx=>Nat.le_trans (hQ x hx) ωd;refine Zb Tryz.func17 Tryz.ntmps17 ?_;refine ZyI (A:=A) (s:=s) ωs fun n21 hk_21_1=>⟨fun e1=>?_,fun e1=>?_⟩
 .have f23:n21≠0:=ZO e1;refine Eq.trans (b:=.tup [.one (.d (.list ([]))),.one (.d (.v (.int .i64 (n21))))]) ?_ rfl;have hc:¬rcE A s=0:=by rw[<-hk_21_1];exact f23
  have hv:=Zx7 (Q:=Q) rfl hc;rw[ZuZ (by rw[hv];exact hc),hv,<-hk_21_1]
  all_goals rfl
 .have f23:¬(n21≠0):=fun hh=>hh (ZP e1);have hrc:rcE A s=0:=by rw[<-hk_21_1];exact nN f23
  have hok:=Zu1 hrc;have hA0:=hok.1;have hs1:=hok.2.1;have hs2:=hok.2.2;have hn3:=(Zy hA0).1;have hs0:=castne1 hs1;have hLj:(jnV A).length=A.links.length:=by rw[ZlD hA0]
  refine ZqF (A:=A) (Q:=Q) ωs hQ6 fun n27 a2=>⟨fun e2=>?_,fun e2=>?_⟩
  .have a3:n27≠0:=ZO e2;refine Eq.trans (b:=.tup [.one (.d (.list ([]))),.one (.d (.v (.int .i64 (n27))))]) ?_ rfl;have hv:rnE A s Q=fitsE A Q:=Zv4 hrc;rw[ZuZ (by rw[hv,<-a2];exact a3),hv,<-a2]
   all_goals rfl
  .have a3:¬(n27≠0):=fun hh=>hh (ZP e2);have hf:fitsE A Q=0:=by rw[<-a2];exact nN a3
   have hfl:=(ZI hf).1;refine Zvt 1 2 ω ω ω ω ωk fun q32 h32 z32=>?_;simp only[cn_z]at z32;refine⟨Nat,fun i=>[(1,int s),(2,Xl rd Q),(10,.val (.one (.row 73 0))),(11,.val (.one (.ptr 11 0))),(36,Xl lk A.links),(37,int ((A.links.map lk).length:Int)),(38,int (i:Int))],
    fun i=>[(11,.var 23 (X1 (cn q32) [])),(73,.row 3 1 0 ((nrF A s Q i).map intD) true)],fun i=>i<=A.links.length,fun i=>A.links.length-i,0,?_,Nat.zero_le _,fun i hs=>?_⟩
   .exact ωe
   have hT:((nrF A s Q i).map intD).length<=3:=by rw[length_map,ZjP];omega
   refine⟨fun e3=>?_,fun e3=>?_⟩
   .have a4:(i:Int)<((A.links.map lk).length:Int):=oT e3;refine Zm (l:=A.links) (i:=i) ωm fun x41 a0=>?_;have hzx41:=z6 x41 (mG a0);have hsx41:=ZK hA0 (mG a0);have hax41:=Zcd a0;refine k_ix i _ ωf (Zd a0) rfl<|Zm (l:=Q) (i:=i) ωm fun x46 a1=>?_;have hzx46:=hQ x46 (mG a1);have hxx46q:x46.q=qAt Q i:=(Zk7 a1).symm;refine k_ix i _ ωf (Zd a1) rfl<|Zd7 (x:=x46) (y:=x41.low) ω ω fun q50 h50 z50=>?_;simp only[cn_z]at z50;refine Zd7 (x:=x41.high) (y:=x41.low) ω ω fun q55 h55 z55=>?_;simp only[cn_z]at z55;refine ZtE (x:=cn q50) (y:=cn q55) ωz ωz (by rw[cn_q,h55];have:=hsx41.2.2.2.2.2.2.1;grind) fun q56 h56 z56=>?_;simp only[cn_z]at z56;simp only[cn_q]at h56;refine⟨ωr,k_of (s) ω ω fun q63 h63 z63=>?_⟩;simp only[cn_z]at z63;refine Zcy (x:=cn q56) (y:=cn q63) ωz ωz fun q64 h64 z64=>?_;simp only[cn_z]at z64;simp only[cn_q]at h64;refine Zd7 (x:=cn q32) (y:=cn q64) ωz ωz fun q65 h65 z65=>?_;simp only[cn_z]at z65;simp only[cn_q]at h65;refine ZwM (x:=cn q65) ωz fun v66 fe66 hv66 he66=>?_;simp only[cn_q]at hv66 he66;refine⟨ωr,⟨⟨row1 rfl,(by show (((nrF A s Q i).map intD).length+1)*8<=_;omega),(by show (((nrF A s Q i).map intD).length+1)<=_;omega)⟩,?_⟩⟩;have eq65:q65=hfQ-nrT A s Q i:=by rw[h65,h64,h63,h56,h55,h50,h32,hxx46q,<-hax41];rfl
    have hna:=ZjR hf a0 a1 hs1 (n:=(s+1).toNat) ω;have hn1:=hna.1;have hn2:=hna.2.1;have en:IntKind.i64.wrap (0-v66)=nrQ A s Q i:=by
     unfold nrQ at hn1 hn2⊢;have hfl2:flE q65=0:=ZlM.2 (by rw[eq65];omega);rw[hv66,Zy6 hfl2,eq65,wrap64 _ ω ω];omega
    refine⟨i+1,ω,by simp only;omega,?_⟩;constructor<;>(repeat' apply And.intro)<;>first|exact ωq|(rw[Zlh,<-en];rfl)
   .have a4:¬((i:Int)<((A.links.map lk).length:Int)):=oF e3;refine Eq.trans (b:=.tup [.one (.d (.list ((nrF A s Q i).map intD))),.one (.d (.v (.int .i64 (0))))]) ?_ rfl;obtain rfl:i=A.links.length:=ω;have hv:rnE A s Q=0:=(Zv4 hrc).trans hf;rw[ZuY hv,hv]
    all_goals rfl
 ) rfl
end
section
variable{K:AV->Prop}
theorem ZrX(A:ArmV)(s:Int)(L:List Int)(hA:A.ok)(hA0:armE A=0)(hs1:1<=s)(hs2:s<=12)(hlen:L.length=A.links.length)(hb:∀(i:Nat)(k:Int),L[i]? =some k->0<=k/\k<=s):Spec Tryz.prog Tab 27 [arm A,int s,Xl intD L] (Xl rdc (vlF A s L A.links.length)):=by
 have hA2:=hA;have z6:=hA.2.2.2.2.2;have hLk:(A.links.map lk).length=A.links.length:=length_map ..;have hLl:(L.map intD).length=L.length:=length_map ..;have hn3:=(Zy hA0).1;have hs0:=castne1 hs1;refine Zb Tryz.func27 Tryz.ntmps27 ?_;refine⟨Nat,fun i=>[(1,int s),(2,Xl intD L),(7,.val (.one (.row 43 0))),(13,Xl lk A.links),(14,int ((A.links.map lk).length:Int)),(15,int (i:Int))],
  fun i=>[(43,.row 23 3 0 ((vlF A s L i).map rdc) true)],fun i=>i<=A.links.length,fun i=>A.links.length-i,0,?_,Nat.zero_le _,fun i hs=>?_⟩
 .exact ωe
 have hT:((vlF A s L i).map rdc).length<=3:=by rw[length_map,Zbr];omega
 refine⟨fun e1=>?_,fun e1=>?_⟩
 .have a2:(i:Int)<((A.links.map lk).length:Int):=oT e1;refine Zm (l:=A.links) (i:=i) ωm fun x18 a0=>?_;have hzx18:=z6 x18 (mG a0);have hsx18:=ZK hA0 (mG a0);have hax18:=Zcd a0;refine k_ix i _ ωf (Zd a0) rfl<|Zq (x:=x18.low) ω fun q22 h22 z22=> Zq (x:=x18.high) ω fun q25 h25 z25=>⟨ωr,Zci (p:=q25) (q:=q22) ω ω fun q30 h30 z30=> Zm (l:=L) (i:=i) ωm fun x33 a1=>?_⟩;have hwx33:=hb _ _ a1;refine k_ix i _ ωf (Zd a1) rfl<|k_N3 (x33) ω ω fun q35 h35 z35=> Zbj (p:=q30) (q:=q35) ω ω fun q36 h36 z36=> k_N3 (s) ω ω fun q38 h38 z38=> ZeZ (p:=q36) (q:=q38) ω ω (by rw[h38];exact hs0) fun q39 h39 z39=> Ze0 (p:=q22) (q:=q39) ω ω fun q40 h40 z40=> ZtG (q:=q40) ω ⟨⟨row1 rfl,(by show (((vlF A s L i).map rdc).length+1)*40<=_;omega),(by show (((vlF A s L i).map rdc).length+1)<=_;omega)⟩,⟨ωr,?_⟩⟩;have e1:q40=vlQ A s L i:=by rw[h40,h39,h38,h36,h35,h30,h25,h22,<-hax18,<-Zjl a1];simp only[vlQ,Rat.div_def,Rat.mul_assoc]
  refine⟨i+1,ω,by simp only;omega,?_⟩;constructor<;>(repeat' apply And.intro)<;>first|exact ωq|(rw[ZkI,<-e1];rfl)
 .have a2:¬((i:Int)<((A.links.map lk).length:Int)):=oF e1;refine Eq.trans (b:=(Xl rdc (vlF A s L i))) ?_ rfl;obtain rfl:i=A.links.length:=ω;rfl
theorem ZiG{A:ArmV}{s:Int}{L:List Int}(hA:A.ok)(hA0:armE A=0)(hs1:1<=s)(hs2:s<=12)(hlen:L.length=A.links.length)(hb:∀(i:Nat)(k:Int),L[i]? =some k->0<=k/\k<=s)(k:K (Xl rdc (vlF A s L A.links.length))):Ask 27 [arm A,int s,Xl intD L] K:=use (ZrX A s L hA hA0 hs1 hs2 hlen hb) rfl k
theorem Zqy{A:ArmV}{s:Int}{Q:List RV}(hA:A.ok)(hf:fitsE A Q=0)(hs1:1<=s)(hs2:s<=12)(hQ:∀x,x∈Q->x.z<=1048576)(k:K (Xl intD (nrF A s Q A.links.length))):Ask 24 [arm A,int s,Xl rd Q] K:=use2 k (by
 have hA2:=hA;have z6:=hA.2.2.2.2.2;have hLk:(A.links.map lk).length=A.links.length:=length_map ..;have hLq:(Q.map rd).length=Q.length:=length_map ..;have hQ6:∀x,x∈Q->x.z<=67108864:=fun x hx=>Nat.le_trans (hQ x hx) ωd;have hfl:=(ZI hf).1;have hA0:=(ZI hf).2;have hn3:=(Zy hA0).1;have hs0:=castne1 hs1;have hw:IntKind.i64.wrap (s+1)=s+1:=wrap64 _ ω ω;refine Zb Tryz.func24 Tryz.ntmps24 ?_;refine⟨Nat,fun i=>[(1,int s),(2,Xl rd Q),(7,.val (.one (.row 68 0))),(17,Xl lk A.links),(18,int ((A.links.map lk).length:Int)),(19,int (i:Int))],
  fun i=>[(68,.row 3 1 0 ((nrF A s Q i).map intD) true)],fun i=>i<=A.links.length,fun i=>A.links.length-i,0,?_,Nat.zero_le _,fun i hs=>?_⟩
 .exact ωe
 have g1:=hs;have hT:((nrF A s Q i).map intD).length<=3:=by rw[length_map,ZjP];omega
 refine⟨fun e1=>?_,fun e1=>?_⟩
 .have a3:(i:Int)<((A.links.map lk).length:Int):=oT e1;refine Zm (l:=A.links) (i:=i) ωm fun x22 a0=>?_;have hzx22:=z6 x22 (mG a0);have hsx22:=ZK hA0 (mG a0);have hax22:=Zcd a0;refine k_ix i _ ωf (Zd a0) rfl ?_;refine Zq (x:=x22.low) ω fun q26 h26 z26=>?_;refine Zq (x:=x22.high) ω fun q29 h29 z29=>?_;refine⟨ωr,?_⟩;refine k_N3 (0) ω ω fun q30 h30 z30=>?_;have e30:q30=(bst (dsQ A s Q i) 0).2:=h30;refine⟨Nat,fun j=>[(1,int s),(2,Xl rd Q),(7,.val (.one (.row 68 0))),(8,int (i:Int)),(10,.val (.one (.ptr 10 0))),(11,.val (.one (.ptr 11 0))),(12,int ((bst (dsQ A s Q i) j).1:Int)),(13,.val (.one (.ptr 13 0))),(17,Xl lk A.links),(18,int ((A.links.map lk).length:Int)),(19,int (i:Int)),(32,int (IntKind.i64.wrap (s+1))),(33,int (j:Int))],
   fun j=>[(10,.var 52 (Q1 q26 [])),(11,.var 52 (Q1 q29 [])),(13,.var 52 (Q1 ((bst (dsQ A s Q i) j).2) [])),(68,.row 3 1 0 ((nrF A s Q i).map intD) true)],fun j=>j<=(s+1).toNat/\qs (bst (dsQ A s Q i) j).2<=1000000000,fun j=>(s+1).toNat-j,0,?_,⟨Nat.zero_le _,show qs (0:Rat)<=_ by decide+kernel⟩,fun j hs=>?_⟩
  .exact ηF
  have j1:=hs.1;have j2:=hs.2;refine⟨fun e2=>?_,fun e2=>?_⟩
  .have a4:(j:Int)<IntKind.i64.wrap (s+1):=oT e2;refine Zci (p:=q29) (q:=q26) ω ω fun q39 h39 z39=> k_N3 ((j:Int)) ω ω fun q41 h41 z41=> Zbj (p:=q39) (q:=q41) ω ω fun q42 h42 z42=> k_N3 (s) ω ω fun q44 h44 z44=> ZeZ (p:=q42) (q:=q44) ω ω (by rw[h44];exact hs0) fun q45 h45 z45=> Ze0 (p:=q26) (q:=q45) ω ω fun q46 h46 z46=> Zm (l:=Q) (i:=i) ωm fun x49 a1=>?_;have hzx49:=hQ x49 (mG a1);have hxx49q:x49.q=qAt Q i:=(Zk7 a1).symm;refine k_ix i _ ωf (Zd a1) rfl<|Zq (x:=x49) ω fun q51 h51 z51=> Zci (p:=q46) (q:=q51) ω ω fun q52 h52 z52=> ZwP (q:=q52)  fun q53 h53 z53=>⟨ωr,fork (fun e3=>?_) (fun e3=>?_)⟩
   .have a5:(j:Int)=0:=ZaW e3;refine⟨fun _=>⟨ωr,?_⟩,fun e=>absurd e ωd⟩;have e53:q53=dsQ A s Q i j:=by rw[h53,h52,h51,h46,h45,h44,h42,h41,h39,h29,h26,hxx49q,<-hax22];rfl
    have hb:=(Zhv (d:=(dsQ A s Q i)) (j:=j) (.inl ω));have c1:((j:Nat):Int)=((bst (dsQ A s Q i) (j+1)).1:Int):=by rw[hb]
    have c2:q53=(bst (dsQ A s Q i) (j+1)).2:=by rw[hb];exact e53
    exact⟨j+1,⟨ω,by rw[<-c2];omega⟩,by simp only;omega,ηE⟩
   .have a5:¬((j:Int)=0):=ZaX e3;refine Zd4 (p:=q53) (q:=(bst (dsQ A s Q i) j).2) ω ω fun n59 h59=>⟨fun e4=>?_,fun e4=>?_⟩
    .have a2:q53<(bst (dsQ A s Q i) j).2:=(Zzj h59).1 (oT e4);refine⟨ωr,?_⟩;have e53:q53=dsQ A s Q i j:=by rw[h53,h52,h51,h46,h45,h44,h42,h41,h39,h29,h26,hxx49q,<-hax22];rfl
     have hb:=(Zhv (d:=(dsQ A s Q i)) (j:=j) (.inr (by rw[<-e53];exact a2)));have c1:((j:Nat):Int)=((bst (dsQ A s Q i) (j+1)).1:Int):=by rw[hb]
     have c2:q53=(bst (dsQ A s Q i) (j+1)).2:=by rw[hb];exact e53
     exact⟨j+1,⟨ω,by rw[<-c2];omega⟩,by simp only;omega,ηE⟩
    .have a2:¬(q53<(bst (dsQ A s Q i) j).2):=fun hh=>oF e4 ((Zzj h59).2 hh);have e53:q53=dsQ A s Q i j:=by rw[h53,h52,h51,h46,h45,h44,h42,h41,h39,h29,h26,hxx49q,<-hax22];rfl
     have hb:=(ZvG (d:=(dsQ A s Q i)) (j:=j) ω (by rw[<-e53];exact a2));have c1:((bst (dsQ A s Q i) j).1:Int)=((bst (dsQ A s Q i) (j+1)).1:Int):=by rw[hb]
     have c2:(bst (dsQ A s Q i) j).2=(bst (dsQ A s Q i) (j+1)).2:=by rw[hb]
     exact⟨j+1,⟨ω,by rw[<-c2];omega⟩,by simp only;omega,ηE⟩
  .have a4:¬((j:Int)<IntKind.i64.wrap (s+1)):=oF e2;refine⟨⟨row1 rfl,(by show (((nrF A s Q i).map intD).length+1)*8<=_;omega),(by show (((nrF A s Q i).map intD).length+1)<=_;omega)⟩,?_⟩;have en:((bst (dsQ A s Q i) j).1:Int)=nrQ A s Q i:=(ZjR hf a0 (gE ω) hs1 (n:=j) ω).2.2;refine⟨i+1,ω,by simp only;omega,?_⟩;constructor<;>(repeat' apply And.intro)<;>first|exact ωq|(rw[Zlh,<-en];rfl)
 .have a3:¬((i:Int)<((A.links.map lk).length:Int)):=oF e1;refine Eq.trans (b:=(Xl intD (nrF A s Q i))) ?_ rfl;obtain rfl:i=A.links.length:=ω;rfl
 ) rfl
def castL(l:List Int):List Rat:=l.map fun n:Int=>(n:Rat)
theorem Znq{L:List Int}{i:Nat}{x:Int}(h:L[i]? =some x):List.map rdc (castL (L.take (i+1)))=List.map rdc (castL (L.take i))++[rdc (x:Rat)]:=by
 rw[List.take_add_one,h];unfold castL;rw[List.map_append,List.map_append];rfl
end
