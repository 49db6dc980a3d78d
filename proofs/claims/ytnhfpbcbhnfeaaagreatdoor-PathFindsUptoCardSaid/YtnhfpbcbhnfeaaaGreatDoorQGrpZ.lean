/- Joined by wip/bundle.py: XRefZ XArmR. -/
import Derived.Test.YtnhfpbcbhnfeaaaGreatDoorQArmA
import Derived.Test.YtnhfpbcbhnfeaaaGreatDoorQGrpO
import Derived.Shelf.Strings.SlTrimAscii
set_option maxHeartbeats 4000000
set_option maxRecDepth 100000
open List (getElem?_eq_getElem mem_of_getElem? length_map mem_cons not_mem_nil)
namespace Go.Proofs.YtnhfpbcbhnfeaaaGreatDoor.eng
open Go.RowKit num mem seg q held ratA ratB ratC ratD ratE vars ratF natC natD natI sub32
def q3p(p q:Rat):AV:=.val (.agg [.d (.v (.bool (decide (p.num<0)))),.d (.list (W (w32 p.num.natAbs))),.d (.list (W (w32 p.den))),.d (.v (.bool (decide (q.num<0)))),.d (.list (W (w32 q.num.natAbs))),.d (.list (W (w32 q.den)))])
def q3f(p q r u:Rat):AV:=.val (.agg [.d (.v (.bool (decide (p.num<0)))),.d (.list (W (w32 p.num.natAbs))),.d (.list (W (w32 p.den))),.d (.v (.bool (decide (q.num<0)))),.d (.list (W (w32 q.num.natAbs))),.d (.list (W (w32 q.den))),
 .d (.v (.bool (decide (r.num<0)))),.d (.list (W (w32 r.num.natAbs))),.d (.list (W (w32 r.den))),.d (.v (.bool (decide (u.num<0)))),.d (.list (W (w32 u.num.natAbs))),.d (.list (W (w32 u.den)))])
def loose(x y z t u v a b:RV):AV:=.val (.agg [Xb x,Xs x,Xt x,Xb y,Xs y,Xt y,Xb z,Xs z,Xt z,Xb t,Xs t,Xt t,
 .d (.v (.bool u.s)),Xs u,Xt u,Xb v,Xs v,Xt v,Xb a,Xs a,Xt a,Xb b,Xs b,Xt b])
def rqv(p:RV×RV):List D:=q3d p.1.q++q3d p.2.q
theorem Zzj{n:Int}{p q:Rat}(h:n=sgnQ (p-q)):n<0↔p<q:=(ZoI h).trans ⟨fun h=>by grind,fun h=>by grind⟩
theorem Zxq{n:Int}{p q:Rat}(h:n=sgnQ (p-q)):n<=0↔p<=q:=(Z0 h).trans ⟨fun h=>by grind,fun h=>by grind⟩
theorem Zzk{n:Int}{p q:Rat}(h:n=sgnQ (p-q)):n >0↔q<p:=(ZoJ h).trans ⟨fun h=>by grind,fun h=>by grind⟩
theorem Zui{n:Int}{p q:Rat}(h:n=sgnQ (p-q)):n>=0↔q<=p:=(Zx1 h).trans ⟨fun h=>by grind,fun h=>by grind⟩
section
variable{K:AV->Prop}{x:RV}
theorem Zhp(p:UInt8->Bool)(l:List UInt8):l.dropWhile p= []↔∀x∈l,p x=true:=by
 induction l with
 |nil=>simp
 |cons c l ih=>
  rw[List.dropWhile_cons];by_cases h:p c=true
  .rw[if_pos h,ih];simp[h]
  .rw[if_neg h];simp[h]
theorem Zrd(p:UInt8->Bool):∀(l:List UInt8)(c:UInt8)(r:List UInt8),l.dropWhile p=c::r->p c=false:=by
 intro l
 induction l with
 |nil=>intro c r h;simp at h
 |cons d l ih=>
  intro c r h;rw[List.dropWhile_cons]at h;by_cases hd:p d=true
  .rw[if_pos hd]at h;exact ih c r h
  .rw[if_neg hd]at h;injection h with h1 h2;rw[<-h1];simpa using hd
theorem Zoa(l cs:List UInt8):Lib.trimS l cs= []↔∀x∈l,cs.contains x=true:=by
 unfold Lib.trimS Lib.trimLeftS Lib.trimRightS;rw[Zhp];constructor
 .intro h
  cases hr:l.reverse.dropWhile (cs.contains ·) with
  |nil=>
   have:=(Zhp _ _).1 hr;intro x hx;exact this x (List.mem_reverse.2 hx)
  |cons c r=>
   have h1:=Zrd _ _ _ _ hr;have h2:=h c (by rw[hr];simp);rw[h1]at h2;cases h2
 .intro h x hx;have h1:l.reverse.dropWhile (cs.contains ·)= []:=(Zhp _ _).2 (fun y hy=>h y (List.mem_reverse.1 hy));rw[h1]at hx;cases hx
def letters:ByteArray:=⟨#[97,98,99,100,101,102,103,104,105,106,107,108,109,110,111,112,113,114,115,116,117,118,119,120,121,122]⟩
theorem Zf0(x:UInt8):letters.data.toList.contains x=true↔97<=x.toNat/\x.toNat<=122:=by
 have k:∀n:Fin 256,(letters.data.toList.contains (UInt8.ofNat n.val)=true↔97<=n.val/\n.val<=122):=by decide+kernel
 have:=k ⟨x.toNat,UInt8.toNat_lt x⟩;simpa using this
theorem Zmo(s:ByteArray)(hs:s.size<=1099511627776):Spec Tryz.prog Tab 141 [str s,str letters] (str ⟨(Lib.trimS s.data.toList letters.data.toList).toArray⟩):=
 Zo (Zn Tryz.func141 rfl rfl) rfl rfl fun w _=>
  (Any.strings_Trim_laid Tryz.lays160 ωr s letters w ω ωd (ascii_of_all ωd)).mono fun _ _ h=>h
theorem Zob(s:ByteArray):(⟨(Lib.trimS s.data.toList letters.data.toList).toArray⟩:ByteArray)=⟨#[]⟩↔∀(j:Nat)(c:UInt8),s[j]? =some c->97<=c.toNat/\c.toNat<=122:=by
 have e0:(⟨(Lib.trimS s.data.toList letters.data.toList).toArray⟩:ByteArray)=⟨#[]⟩↔Lib.trimS s.data.toList letters.data.toList= []:=by
  constructor
  .intro h;have:=congrArg (fun b:ByteArray=>b.data.toList) h;simpa using this
  .intro h;rw[h]
 have e:∀j:Nat,s[j]? =s.data.toList[j]? :=fun j=>by
  by_cases h:j<s.size
  .rw[getElem?_pos s j h,gE (show j<s.data.toList.length from h)];rfl
  .rw[getElem?_neg s j h,List.getElem?_eq_none (show s.data.toList.length<=j from Nat.not_lt.1 h)]
 rw[e0,Zoa];constructor
 .intro h j c hc;rw[e]at hc;exact(Zf0 c).1 (h c (mG hc))
 .intro h c hc;obtain⟨j,hj⟩:=List.mem_iff_getElem?.1 hc;exact(Zf0 c).2 (h j c (by rw[e];exact hj))
theorem ZwQ{s c:ByteArray}(hc:c=letters)(hs:s.size<=1099511627776)(k:∀r:ByteArray,(r=⟨#[]⟩↔∀(j:Nat)(c:UInt8),s[j]? =some c->97<=c.toNat/\c.toNat<=122)->K (str r)):Ask 141 [str s,str c] K:=by
 subst hc;exact use (Zmo s hs) rfl (k _ (Zob s))
theorem Zxn(a b:Nat):cmp3 a b<=0↔a<=b:=by
 rw[<-Zry b a];unfold cmp3;by_cases h:wlen 4 a=wlen 4 b
 .rw[if_pos h,if_pos h.symm];by_cases h1:a<b
  .rw[if_pos h1,if_neg (show ¬b<a by omega),if_pos h1];omega
  .by_cases h2:b<a
   .rw[if_neg h1,if_pos h2,if_pos h2];omega
   .rw[if_neg h1,if_neg h2,if_neg h2,if_neg h1]
 .rw[if_neg h,if_neg (Ne.symm h)];omega
theorem Zlx{a b:Nat}{vb:List (List D)}(hv:vb=W (w32 b))(ha:wlen 4 a<=1099511627776)(hb:wlen 4 b<=1099511627776)(k:∀v,(v<=0↔a<=b)->K (int v)):Ask 115 [n3 a,.val (.one (.d (.list vb)))] K:=by
 subst hv;exact use (Zfj a b ha hb) rfl (k _ (Zxn a b))
theorem w32_one'{n:Nat}(h:n<4294967296)(h0:0<n):w32 n= [n]:=by
 have hw:=Zgp (l:=[n]) (fun d hd=>by rw[List.mem_singleton.1 hd];exact h) (fun d t e=>by
  cases t with
  |nil=>simp at e;omega
  |cons a t=>simp at e)
 rwa[show lv 4294967296 [n]=n by simp[lv]]at hw
end
open Go.RowKit num mem seg q held ratA ratB ratC ratD ratE vars ratF natC natD natI sub32
section
variable{K:AV->Prop}
theorem ZtJ{x:RV}(hx:x.z<=8589934592)(k:K (bool (decide (smallP x)))):Ask 142 [rat x] K:=use2 k (by
 refine Zb Tryz.func142 Tryz.ntmps142 ?_;refine Zdh (x:=x) ω (fun g4=>?_) (fun g4=>?_)
 .have hc:=RV.good_cn g4;have ha:x.a=enc x.q.num.natAbs:=congrArg RV.a hc;have hd:x.d=enc x.q.den:=congrArg RV.d hc;have hza:x.a.size<=x.z:=Nat.le_max_left _ _;have hzd:x.d.size<=x.z:=Nat.le_max_right _ _;refine Zbx ha (by rw[<-ha];omega)<|Zlx (b:=1000000) (by rw[w32_one' ωd ωd];rfl) (ZZ (by rw[<-ha];omega)) (ZZ ωk) fun n10 hc10=> fork (fun e1=>?_) (fun e1=>?_)
  .have f13:n10<=0:=oT e1;refine Zbx hd (by rw[<-hd];omega)<|Zlx (b:=1000) (by rw[w32_one' ωd ωd];rfl) (ZZ (by rw[<-hd];omega)) (ZZ ωk) fun n18 hc18=> Eq.trans (b:=bool (decide (n18<=0))) ?_ rfl;have e1:nv x.a=x.q.num.natAbs:=by rw[ha,Ze]
   have e2:nv x.d=x.q.den:=by rw[hd,Ze]
   rw[show decide (smallP x)=decide (n18<=0) from decide_eq_decide.2 ⟨fun h=>hc18.2 (by rw[<-e2];exact h.2.2),fun h=>⟨g4,by rw[e1];exact hc10.1 f13,by rw[e2];exact hc18.1 h⟩⟩]
  .have f13:¬(n10<=0):=oF e1;refine Eq.trans (b:=bool false) ?_ rfl;have e1:nv x.a=x.q.num.natAbs:=by rw[ha,Ze]
   have e2:nv x.d=x.q.den:=by rw[hd,Ze]
   rw[show decide (smallP x)=false from decide_eq_false fun h=>f13 (hc10.2 (by rw[<-e1];exact h.2.1))]
 .refine Eq.trans (b:=bool false) ?_ rfl;rw[show decide (smallP x)=false from decide_eq_false fun h=>g4 h.1]
 ) rfl
theorem Za1(l:List RV)(hl:∀x,x∈l->x.z<=1073741824)(hn:l.length<=1073741824):Spec Tryz.prog Tab 85 [Xl rd l] (bool (smB l)):=by
 have hL:(l.map rd).length=l.length:=length_map ..;refine Zb Tryz.func85 Tryz.ntmps85 ?_;refine⟨Nat,fun i=>[(5,Xl rd l),(6,int ((l.map rd).length:Int)),(7,int (i:Int))],
  fun i=>[],fun i=>i<=l.length/\∀(j:Nat)(x:RV),j<i->l[j]? =some x->smallP x,fun i=>l.length-i,0,?_,⟨Nat.zero_le _,fun j c h=>absurd h (Nat.not_lt_zero _)⟩,fun i hs=>?_⟩
 .exact ωe
 obtain⟨hi,h1⟩:=hs;refine⟨fun e1=>?_,fun e1=>?_⟩
 .have f8:(i:Int)<((l.map rd).length:Int):=oT e1;obtain⟨x9,hx9⟩:∃vv,l[i]? =some vv:=⟨_,gE ωm⟩;have hzx9:=hl x9 (mG hx9);refine k_ix i _ ωh (Zd hx9) rfl<|ZtJ (x:=x9) ω ⟨fun e2=>?_,fun e2=>?_⟩
  .have a0:¬(smallP x9):=oF (Zbu e2);refine Eq.trans (b:=bool false) ?_ rfl;rw[show smB l=false from Bool.eq_false_iff.2 fun h=>a0 (ZgG.1 h x9 (mG hx9))]
  .have a0:¬(¬(smallP x9)):=fun hh=>hh (oT (Zbv e2));have a1:smallP x9:=Classical.byContradiction fun hh=>a0 hh;refine⟨i+1,⟨ω,fun j c g hc=>by
    by_cases e:j=i
    .subst e;rw[hx9]at hc;obtain rfl:=sI hc;exact a1
    .exact h1 j c ω hc⟩,by simp only;omega,?_⟩
   exact ωE
 .have f8:¬((i:Int)<((l.map rd).length:Int)):=oF e1;refine Eq.trans (b:=bool true) ?_ rfl;rw[show smB l=true from ZgG.2 fun x hx=>by
   obtain⟨j,hj⟩:=List.mem_iff_getElem?.1 hx;exact h1 j x (by have:=(gS hj).1;omega) hj]
theorem Zxx(x y:RV)(hx:x.z<=1073741824)(hy:y.z<=1073741824):Spec Tryz.prog Tab 89 [pair x y] (q3p x.q y.q):=by
 refine Zb Tryz.func89 Tryz.ntmps89 ?_;refine Zq (x:=x) ω fun q5 h5 z5=> Zq (x:=y) ω fun q8 h8 z8=>⟨ωr,Eq.trans (b:=q3p q5 q8) ?_ rfl⟩
 subst_vars;rfl
theorem k_Pt{x y:RV}(hx:x.z<=1073741824)(hy:y.z<=1073741824)(k:∀p q,p=x.q->q=y.q->qs p<=x.z+1->qs q<=y.z+1->K (q3p p q)):Ask 89 [pair x y] K:=use (Zxx x y hx hy) rfl (k _ _ rfl rfl x.z1 y.z1)
theorem Zr2 (p q r u:Rat)(hp:qs p<=1073741824)(hq:qs q<=1073741824)(hr:qs r<=1073741824)(hu:qs u<=1073741824):Spec Tryz.prog Tab 46 [q3p p q,q3p r u] (q3p (p-r) (q-u)):=by
 refine Zb Tryz.func46 Tryz.ntmps46 ?_;refine Zci (p:=p) (q:=r) ω ω fun q9 h9 z9=> Zci (p:=q) (q:=u) ω ω fun q14 h14 z14=>⟨ωr,Eq.trans (b:=q3p q9 q14) ?_ rfl⟩
 subst_vars;rfl
section
variable{p q r u:Rat}
theorem ZlA(hp:qs p<=1073741824)(hq:qs q<=1073741824)(hr:qs r<=1073741824)(hu:qs u<=1073741824)(k:∀ya yb,ya=p-r->yb=q-u->qs ya<=qs p+qs r+1->qs yb<=qs q+qs u+1->K (q3p ya yb)):Ask 46 [q3p p q,q3p r u] K:=
 use (Zr2  p q r u hp hq hr hu) rfl (k _ _ rfl rfl (by have:=Zac p r;omega) (by have:=Zac q u;omega))
end
theorem Zkt (p q r u:Rat)(hp:qs p<=536870911)(hq:qs q<=536870911)(hr:qs r<=536870911)(hu:qs u<=536870911):Spec Tryz.prog Tab 47 [q3p p q,q3p r u] (q3 (p*u-q*r)):=by
 refine Zb Tryz.func47 Tryz.ntmps47 ?_;refine Zbj (p:=p) (q:=u) ω ω fun q9 h9 z9=> Zbj (p:=q) (q:=r) ω ω fun q14 h14 z14=> Zci (p:=q9) (q:=q14) ω ω fun q15 h15 z15=>⟨ωr,Eq.trans (b:=q3 q15) ?_ rfl⟩
 subst_vars;rfl
section
variable{p q r u:Rat}
theorem ZlB(hp:qs p<=536870911)(hq:qs q<=536870911)(hr:qs r<=536870911)(hu:qs u<=536870911)(k:∀ya,ya=p*u-q*r->qs ya<=qs p+qs u+qs q+qs r+3->K (q3 ya)):Ask 47 [q3p p q,q3p r u] K:=
 use (Zkt  p q r u hp hq hr hu) rfl (k _ rfl (by have:=ZX p u;have:=ZX q r;have:=Zac (p*u) (q*r);omega))
end
section
variable{p q r u:Rat}
end
theorem ZiP{f:Nat->poly.Pt}{n:Nat}(h3:3<=n)(h:∀i c,i<n->c<n->c≠i->c≠(i+1)%n->0<poly.ori (f i) (f ((i+1)%n)) (f c)):poly.Edges f n:=by
 intro i k hi h2 hk;have e1:(i+1)%n=if i+1<n then i+1 else 0:=by
  split
  .exact Nat.mod_eq_of_lt ω
  .rw[show i+1=n by omega,Nat.mod_self]
 have e2:(i+k)%n=if i+k<n then i+k else i+k-n:=by
  split
  .exact Nat.mod_eq_of_lt ω
  .rw[Nat.mod_eq_sub_mod ω,Nat.mod_eq_of_lt ω]
 refine h i ((i+k)%n) hi (Nat.mod_lt _ ω) ?_ ?_
 .rw[e2];split<;>omega
 .rw[e2,e1];split<;>split<;>omega
theorem Zi5{f:Nat->poly.Pt}{n:Nat}(h:poly.Edges f n){i c:Nat}(hi:i<n)(hc:c<n)(h1:c≠i)(h2:c≠(i+1)%n):0<poly.ori (f i) (f ((i+1)%n)) (f c):=by
 have e1:(i+1)%n=if i+1<n then i+1 else 0:=by
  split
  .exact Nat.mod_eq_of_lt ω
  .rw[show i+1=n by omega,Nat.mod_self]
 rw[e1]at h2;by_cases hlt:i<c
 .have:=h i (c-i) hi (by split at h2<;>omega) ω
  rwa[show (i+(c-i))%n=c by rw[show i+(c-i)=c by omega,Nat.mod_eq_of_lt hc]]at this
 .have:=h i (c+n-i) hi (by split at h2<;>omega) ω
  rwa[show (i+(c+n-i))%n=c by rw[show i+(c+n-i)=c+n by omega,Nat.add_mod_right,Nat.mod_eq_of_lt hc]]at this
theorem ZyW{l:List (RV×RV)}(hl:∀p,p∈l->p.1.z<=67108864/\p.2.z<=67108864)(hn:l.length<=1073741824)(k:K (Xl rqv l)):Ask 45 [Xl rdv l] K:=use2 k (by
 have hL:(l.map rdv).length=l.length:=length_map ..;refine Zb Tryz.func45 Tryz.ntmps45 ?_;refine⟨Nat,fun i=>[(3,.val (.one (.row 16 0))),(6,Xl rdv l),(7,int ((l.map rdv).length:Int)),(8,int (i:Int))],
  fun i=>[(16,.row 100 6 0 ((l.take i).map rqv) true)],fun i=>i<=l.length,fun i=>l.length-i,0,?_,Nat.zero_le _,fun i hs=>?_⟩
 .exact ωe
 have hT:((l.take i).map rqv).length<=1073741824:=by rw[length_map,List.length_take];omega
 refine⟨fun e1=>?_,fun e1=>?_⟩
 .have f9:(i:Int)<((l.map rdv).length:Int):=oT e1;obtain⟨x10,a0⟩:∃vv,l[i]? =some vv:=⟨_,gE ωm⟩;have hzx10:=hl x10 (mG a0);refine k_ix i _ ωh (Zd a0) rfl<|k_Pt (x:=x10.1) (y:=x10.2) ω ω (fun p14 q14 a1 a2 hk_14_4 hk_14_5=>⟨⟨row1 rfl,(by show (((l.take i).map rqv).length+1)*112<=_;omega),(by show (((l.take i).map rqv).length+1)<=_;omega)⟩,?_⟩);subst a1 a2;refine⟨i+1,ω,by simp only;omega,?_⟩;constructor<;>(repeat' apply And.intro)<;>first|exact ωq|(rw[Zti a0];rfl)
 .have f9:¬((i:Int)<((l.map rdv).length:Int)):=oF e1;refine Eq.trans (b:=(Xl rqv (l.take i))) ?_ rfl;rw[List.take_of_length_le ω]
 ) rfl
theorem ZcP{l:List (RV×RV)}(hl:∀p,p∈l->p.1.z<=67108864/\p.2.z<=67108864)(hn:l.length<=1073741824)(k:∀n,n=convE 8 l->K (int n)):Ask 15 [vecs l] K:=use2 (k _ rfl) (by
 have hL:(l.map rdv).length=l.length:=length_map ..;have hLq:(l.map rqv).length=l.length:=length_map ..;refine Zb Tryz.func15 Tryz.ntmps15 ?_;refine⟨fun e1=>?_,fun e1=>?_⟩
 .have f11:((l.map rdv).length:Int) >8:=oT e1;refine Eq.trans (b:=int 2) ?_ rfl;rw[Zrq ω]
 .have f11:¬(((l.map rdv).length:Int) >8):=oF e1;refine⟨fun e2=>?_,fun e2=>?_⟩
  .have f14:((l.map rdv).length:Int)<3:=oT e2;refine Eq.trans (b:=int 3) ?_ rfl;rw[Zrp ω ω]
  .have f14:¬(((l.map rdv).length:Int)<3):=oF e2;refine ZyW (l:=l) ωs ω ?_;refine⟨Nat,fun i=>[(3,Xl rqv l),(17,Xl rqv l),(18,int ((l.map rqv).length:Int)),(19,int (i:Int))],
    fun i=>[],fun i=>i<=l.length/\∀i' c,i'<i->c<l.length->c≠i'->c≠(i'+1)%l.length->0<poly.ori (pts l i') (pts l ((i'+1)%l.length)) (pts l c),fun i=>l.length-i,0,?_,⟨Nat.zero_le _,fun i' c h=>absurd h (Nat.not_lt_zero _)⟩,fun i hs=>?_⟩
   .exact ωe
   obtain⟨hi,h1⟩:=hs;refine⟨fun e3=>?_,fun e3=>?_⟩
   .have f20:(i:Int)<((l.map rqv).length:Int):=oT e3;obtain⟨x22,hx22⟩:∃vv,l[i]? =some vv:=⟨_,gE ωm⟩;have hzx22:=hl x22 (mG hx22);have hpx22:=Zat hx22;have hqx221:=x22.1.z1;have hqx222:=x22.2.z1;refine k_ix i _ ωh (Zd hx22) rfl ?_;refine Zf3 (i+1) l.length ωh ωh ω ?_;obtain⟨x30,hx30⟩:∃vv,l[((i+1)%l.length)]? =some vv:=⟨_,gE ωm⟩;have hzx30:=hl x30 (mG hx30);have hpx30:=Zat hx30;have hqx301:=x30.1.z1;have hqx302:=x30.2.z1;refine k_ix ((i+1)%l.length) (P1 x30.1.q<|P1 x30.2.q []) ωh (Zd hx30) rfl ?_;refine⟨Nat,fun k=>[(3,Xl rqv l),(4,int (i:Int)),(5,.val (.one (.ptr 5 0))),(6,.val (.one (.ptr 6 0))),(17,Xl rqv l),(18,int ((l.map rqv).length:Int)),(19,int (i:Int)),(32,Xl rqv l),(33,int ((l.map rqv).length:Int)),(34,int (k:Int))],
     fun k=>[(5,.var 100 (Q1 x22.1.q<|Q1 x22.2.q [])),(6,.var 100 (Q1 x30.1.q<|Q1 x30.2.q []))],fun k=>k<=l.length/\∀c,c<k->c≠i->c≠(i+1)%l.length->0<poly.ori (pts l i) (pts l ((i+1)%l.length)) (pts l c),fun k=>l.length-k,0,?_,⟨Nat.zero_le _,fun c h=>absurd h (Nat.not_lt_zero _)⟩,fun k hs=>?_⟩
    .exact ωe
    obtain⟨hk,h2⟩:=hs;refine⟨fun e4=>?_,fun e4=>?_⟩
    .have f35:(k:Int)<((l.map rqv).length:Int):=oT e4;obtain⟨x37,hx37⟩:∃vv,l[k]? =some vv:=⟨_,gE ωm⟩;have hzx37:=hl x37 (mG hx37);have hpx37:=Zat hx37;have hqx371:=x37.1.z1;have hqx372:=x37.2.z1;refine k_ix k _ ωh (Zd hx37) rfl<|fork (fun e5=>?_) (fun e5=>?_)
     .have f42:(k:Int)≠(i:Int):=ZO e5;refine Zf3 (i+1) l.length ωh ωh ω<|fork (fun e6=>?_) (fun e6=>?_)
      .have f51:(k:Int)≠(((i+1)%l.length:Nat):Int):=ZO e6;refine ZlA (p:=x30.1.q) (q:=x30.2.q) (r:=x22.1.q) (u:=x22.2.q) ω ω ω ω (fun ya54 yb54 hk_54_2 hk_54_3 hk_54_4 hk_54_5=> ZlA (p:=x37.1.q) (q:=x37.2.q) (r:=x22.1.q) (u:=x22.2.q) ω ω ω ω (fun ya57 yb57 hk_57_2 hk_57_3 hk_57_4 hk_57_5=> ZlB (p:=ya54) (q:=yb54) (r:=ya57) (u:=yb57) ω ω ω ω (fun ya58 hk_58_1 hk_58_2=> Zbz (q:=ya58) fun n59 h59=>⟨ωr,⟨fun e7=>?_,fun e7=>?_⟩⟩)))
       .have f61:ya58<=0:=(Z0 h59).1 (oT e7);refine Eq.trans (b:=int 3) ?_ rfl;rw[Zro ω ω fun hE=>by
         have:=Zi5 hE (i:=i) (c:=k) ω ω ω ω;rw[hpx22,hpx30,hpx37]at this;rw[hk_58_1,hk_54_2,hk_54_3,hk_57_2,hk_57_3]at f61;exact absurd f61 (Rat.not_le.2 this)]
       .have f61:¬(ya58<=0):=fun hh=>oF e7 ((Z0 h59).2 hh);refine⟨k+1,⟨ω,fun c g1 g2 g3=>by
         by_cases e:c=k
         .subst e;rw[hpx22,hpx30,hpx37];exact Rat.not_le.1 (by rw[hk_58_1,hk_54_2,hk_54_3,hk_57_2,hk_57_3]at f61;exact f61)
         .exact h2 c ω g2 g3⟩,by simp only;omega,?_⟩
        exact ωE
      .have f51:¬((k:Int)≠(((i+1)%l.length:Nat):Int)):=fun hh=>hh (ZP e6);refine⟨ωr,?_⟩;refine⟨fun e=>absurd e ωd,fun _=>?_⟩;refine⟨k+1,⟨ω,fun c g1 g2 g3=>by
        by_cases e:c=k
        .subst e;exact absurd ω f51
        .exact h2 c ω g2 g3⟩,by simp only;omega,?_⟩
       exact ωE
     .have f42:¬((k:Int)≠(i:Int)):=fun hh=>hh (ZP e5);refine⟨ωr,?_⟩;refine⟨fun e=>absurd e ωd,fun _=>?_⟩;refine⟨k+1,⟨ω,fun c g1 g2 g3=>by
       by_cases e:c=k
       .subst e;exact absurd ω f42
       .exact h2 c ω g2 g3⟩,by simp only;omega,?_⟩
      exact ωE
    .have f35:¬((k:Int)<((l.map rqv).length:Int)):=oF e4;refine⟨i+1,⟨ω,fun i' c g1 g2 g3 g4=>by
      by_cases e:i'=i
      .subst e;exact h2 c ω g3 g4
      .exact h1 i' c ω g2 g3 g4⟩,by simp only;omega,?_⟩
     exact ωE
   .have f20:¬((i:Int)<((l.map rqv).length:Int)):=oF e3;refine Eq.trans (b:=int 0) ?_ rfl;rw[Zrr ω ω (ZiP ω fun i c g1 g2 g3 g4=>h1 i c ω g2 g3 g4)]
 ) rfl
theorem ZtO{s:ByteArray}(hs0:s.size<=1099511627776)(k:K (bool (nameOk s))):Ask 84 [str s] K:=use2 k (by
 refine Zb Tryz.func84 Tryz.ntmps84 ?_;refine Zaj (fun f4=>?_) (fun f4=>?_)
 .refine Eq.trans (b:=bool false) ?_ rfl;rw[show nameOk s=false from Bool.eq_false_iff.2 fun h=>by
   have:=(Zam.1 h).1;rw[f4]at this;exact absurd this ωd]
 .refine fork (fun e1=>?_) (fun e1=>?_)
  .have f10:(s.size:Int)<=12:=oT e1;refine ZwQ (s:=s) rfl ω fun r12 hr12=> ZcO (fun f13=>?_) (fun f13=>?_)
   .refine Eq.trans (b:=bool true) ?_ rfl;have h1:1<=s.size:=Nat.one_le_iff_ne_zero.2 fun h=>f4 (by obtain⟨⟨l⟩⟩:=s;have:l= []:=List.eq_nil_of_length_eq_zero h;rw[this]);rw[show nameOk s=true from Zam.2 ⟨h1,ω,hr12.1 f13⟩]
   .refine Eq.trans (b:=bool false) ?_ rfl;rw[show nameOk s=false from Bool.eq_false_iff.2 fun h=>f13 (hr12.2 (Zam.1 h).2.2)]
  .have f10:¬((s.size:Int)<=12):=oF e1;refine Eq.trans (b:=bool false) ?_ rfl;rw[show nameOk s=false from Bool.eq_false_iff.2 fun h=>f10 (by have:=(Zam.1 h).2.1;omega)]
 ) rfl
section
variable{A:ArmV}{x:LinkV}{i:Nat}{v:Int}
theorem Zzp(h:¬nameOk A.name=true):armE A=3:=if_neg h
theorem Zzq(h:nameOk A.name=true)(h3:3<A.links.length):armE A=2:=by rw[armE,if_pos h,if_pos h3]
theorem ZrN(h:nameOk A.name=true)(h3:¬3<A.links.length)(hb:baseBad A):armE A=1:=by rw[armE,if_pos h,if_neg h3,if_pos hb]
theorem Zbp(h:nameOk A.name=true)(h3:¬3<A.links.length)(hb:¬baseBad A)(hx:A.links[i]? =some x)(h1:∀(j:Nat)(m:LinkV),j<i->A.links[j]? =some m->linkE m=0)(hE:linkE x=v)(hv:v≠0):armE A=v:=by
 rw[armE,if_pos h,if_neg h3,if_neg hb,<-hE];exact Zce hx h1 (by rw[hE];exact hv)
theorem ZvI(h:nameOk A.name=true)(h3:¬3<A.links.length)(hb:¬baseBad A)(h1:∀(j:Nat)(m:LinkV),A.links[j]? =some m->linkE m=0):armE A=0:=by
 rw[armE,if_pos h,if_neg h3,if_neg hb];exact Zep h1
theorem bb_s(h:¬(smallP A.bx/\smallP A.by'/\smallP A.bt)):baseBad A:=
 Classical.byContradiction fun hh=>h (by simp only[baseBad,not_or,Classical.not_not]at hh;exact⟨hh.2.1,hh.2.2.1,hh.2.2.2.1⟩)
theorem Zzo(h0:A.links.length≠0)(hs:smallP A.bx/\smallP A.by'/\smallP A.bt)(ht:¬(A.bh=true/\A.bt.q≠0)):¬baseBad A:=by
 rintro(h|h|h|h|h)
 .exact h0 h
 .exact h hs.1
 .exact h hs.2.1
 .exact h hs.2.2
 .exact ht h
theorem lb_s(h:¬(smallP x.len/\smallP x.low/\smallP x.high/\smallP x.speed/\smallP x.brake)):linkBad x:=
 Classical.byContradiction fun hh=>h (by simp only[linkBad,not_or,Classical.not_not]at hh;exact⟨hh.1,hh.2.1,hh.2.2.1,hh.2.2.2.1,hh.2.2.2.2.1⟩)
theorem lb_6(h:x.len.q<=0):linkBad x:=.inr (.inr (.inr (.inr (.inr (.inl h)))))
theorem lb_7(h:x.high.q<=x.low.q):linkBad x:=.inr (.inr (.inr (.inr (.inr (.inr (.inl h))))))
theorem lb_8(h:x.speed.q<=0):linkBad x:=.inr (.inr (.inr (.inr (.inr (.inr (.inr (.inl h)))))))
theorem lb_9(h:x.brake.q<=0):linkBad x:=.inr (.inr (.inr (.inr (.inr (.inr (.inr (.inr h)))))))
theorem Ztu(h:smallP x.len/\smallP x.low/\smallP x.high/\smallP x.speed/\smallP x.brake)(h6:¬x.len.q<=0)(h8:¬x.speed.q<=0)(h9:¬x.brake.q<=0)(h7:¬x.high.q<=x.low.q):¬linkBad x:=by
 rintro(g|g|g|g|g|g|g|g|g)
 all_goals first|exact g h.1|exact g h.2.1|exact g h.2.2.1|exact g h.2.2.2.1|exact g h.2.2.2.2|exact h6 g|exact h7 g|exact h8 g|exact h9 g
theorem Zvi(h:¬linkBad x)(hc:¬convE 8 x.shape=0):linkE x=convE 8 x.shape:=by rw[linkE,if_neg h,if_neg hc]
theorem Zvh(h:¬linkBad x)(hc:convE 8 x.shape=0){p:RV×RV}(hp:p∈x.shape)(hs:¬(smallP p.1/\smallP p.2)):linkE x=1:=by rw[linkE,if_neg h,if_pos hc,if_pos ⟨p,hp,hs⟩]
theorem Zvj(h:¬linkBad x)(hc:convE 8 x.shape=0)(hs:∀(j:Nat)(p:RV×RV),j<x.shape.length->x.shape[j]? =some p->smallP p.1/\smallP p.2):linkE x=0:=by
 rw[linkE,if_neg h,if_pos hc,if_neg];rintro⟨q,hq,hh⟩;obtain⟨j,hj⟩:=List.mem_iff_getElem?.1 hq;exact hh (hs j q (gS hj).1 hj)
end
theorem Zna{A:ArmV}(hA:A.ok)(k:∀n,n=armE A->K (int n)):Ask 40 [arm A] K:=use2 (k _ rfl) (by
 have hA2:=hA;obtain⟨z1,z2,z3,z4,z5,z6⟩:=hA;have hL:(A.links.map lk).length=A.links.length:=length_map ..;refine Zb Tryz.func40 Tryz.ntmps40 ?_;refine ZtO ω ⟨fun e1=>?_,fun e1=>?_⟩
 .have f11:¬(nameOk A.name=true):=fun hh=>Zbs hh (Zbu e1);refine Eq.trans (b:=int 3) ?_ rfl;rw[Zzp f11]
 .have f11:¬(¬(nameOk A.name=true)):=fun hh=>hh ((Zbv e1));refine⟨fun e2=>?_,fun e2=>?_⟩
  .have f16:((A.links.map lk).length:Int) >3:=oT e2;refine Eq.trans (b:=int 2) ?_ rfl;rw[Zzq (nN f11) ω]
  .have f16:¬(((A.links.map lk).length:Int) >3):=oF e2;refine fork (fun e3=>?_) (fun e3=>?_)
   .have f26:((A.links.map lk).length:Int)=0:=ZaW e3;refine⟨fun _=> Eq.trans (b:=int 1) ?_ rfl,fun e=>absurd e ωd⟩;rw[ZrN (nN f11) ω (.inl ω)]
   .have f26:¬(((A.links.map lk).length:Int)=0):=ZaX e3;refine use (Za1 [A.bx,A.by',A.bt] (by intro x hx;simp only[mem_cons,not_mem_nil,or_false]at hx;rcases hx with rfl|rfl|rfl<;>omega) (by simp)) rfl ?_;refine fork (fun e4=>?_) (fun e4=>?_)
    .have f40:¬(smallP A.bx/\smallP A.by'/\smallP A.bt):=fun hh=>Zbs (smB3.2 hh) (Zbu e4);refine⟨fun _=> Eq.trans (b:=int 1) ?_ rfl,fun e=>absurd e ωd⟩;rw[ZrN (nN f11) ω (bb_s f40)]
    .have f40:¬(¬(smallP A.bx/\smallP A.by'/\smallP A.bt)):=fun hh=>hh (smB3.1 (Zbv e4));refine fork (fun e5=>?_) (fun e5=>?_)
     .have f44:A.bh=true:=e5;refine Zq (x:=A.bt) ω fun q48 h48 z48=> Zbz (q:=q48) fun n49 h49=>⟨fun e6=>?_,fun e6=>?_⟩
      .have f21:¬q48=0:=fun hh=>ZO e6 ((ZkX h49).2 hh);refine Eq.trans (b:=int 1) ?_ rfl;rw[ZrN (nN f11) ω (.inr (.inr (.inr (.inr ⟨f44,by rw[<-h48];exact f21⟩))))]
      .have f21:¬(¬q48=0):=fun hh=>hh ((ZkX h49).1 (ZP e6));have hnm:=nN f11;have h3:¬3<A.links.length:=ω;have hb:=Zzo (A:=A) ω (nN f40) (by first|exact fun h=>f44 h.1|exact fun h=>f21 (by rw[h48];exact h.2));refine⟨Nat,fun i=>[(54,Xl lk A.links),(55,int ((A.links.map lk).length:Int)),(56,int (i:Int))],
        fun i=>[],fun i=>i<=A.links.length/\∀(j:Nat)(m:LinkV),j<i->A.links[j]? =some m->linkE m=0,fun i=>A.links.length-i,0,?_,⟨Nat.zero_le _,fun j m h=>absurd h (Nat.not_lt_zero _)⟩,fun i hs=>?_⟩
       .exact ωe
       obtain⟨hi,h1⟩:=hs;refine⟨fun e7=>?_,fun e7=>?_⟩
       .have f57:(i:Int)<((A.links.map lk).length:Int):=oT e7;obtain⟨x58,hx58⟩:∃vv,A.links[i]? =some vv:=⟨_,gE ωm⟩;obtain⟨hs1,hs2,hs3,hs4,hs5,hs6,hs7⟩:=z6 x58 (mG hx58);refine k_ix i _ ωf (Zd hx58) rfl ?_;refine use (Za1 [x58.len,x58.low,x58.high,x58.speed,x58.brake] (by intro x hx;simp only[mem_cons,not_mem_nil,or_false]at hx;rcases hx with rfl|rfl|rfl|rfl|rfl<;>omega) (by simp)) rfl ?_;refine fork (fun e8=>?_) (fun e8=>?_)
        .have f73:¬(smallP x58.len/\smallP x58.low/\smallP x58.high/\smallP x58.speed/\smallP x58.brake):=fun hh=>Zbs (smB5.2 hh) (Zbu e8);refine⟨ωr,⟨fun _=> Eq.trans (b:=int 1) ?_ rfl,fun e=>absurd e ωd⟩⟩;rw[Zbp hnm h3 hb hx58 h1 (if_pos (lb_s f73)) ωd]
        .have f73:¬(¬(smallP x58.len/\smallP x58.low/\smallP x58.high/\smallP x58.speed/\smallP x58.brake)):=fun hh=>hh (smB5.1 (Zbv e8));refine Zq (x:=x58.len) ω fun q76 h76 z76=> Zbz (q:=q76) fun n77 h77=> fork (fun e9=>?_) (fun e9=>?_)
         .have f80:q76<=0:=(Z0 h77).1 (oT e9);refine⟨ωr,⟨fun _=> Eq.trans (b:=int 1) ?_ rfl,fun e=>absurd e ωd⟩⟩;rw[Zbp hnm h3 hb hx58 h1 (if_pos (lb_6 (by rw[<-h76];exact f80))) ωd]
         .have f80:¬(q76<=0):=fun hh=>oF e9 ((Z0 h77).2 hh);refine Zq (x:=x58.speed) ω fun q83 h83 z83=> Zbz (q:=q83) fun n84 h84=> fork (fun e10=>?_) (fun e10=>?_)
          .have f87:q83<=0:=(Z0 h84).1 (oT e10);refine⟨ωr,⟨fun _=> Eq.trans (b:=int 1) ?_ rfl,fun e=>absurd e ωd⟩⟩;rw[Zbp hnm h3 hb hx58 h1 (if_pos (lb_8 (by rw[<-h83];exact f87))) ωd]
          .have f87:¬(q83<=0):=fun hh=>oF e10 ((Z0 h84).2 hh);refine Zq (x:=x58.brake) ω fun q90 h90 z90=> Zbz (q:=q90) fun n91 h91=> fork (fun e11=>?_) (fun e11=>?_)
           .have f94:q90<=0:=(Z0 h91).1 (oT e11);refine⟨ωr,⟨fun _=> Eq.trans (b:=int 1) ?_ rfl,fun e=>absurd e ωd⟩⟩;rw[Zbp hnm h3 hb hx58 h1 (if_pos (lb_9 (by rw[<-h90];exact f94))) ωd]
           .have f94:¬(q90<=0):=fun hh=>oF e11 ((Z0 h91).2 hh);refine Zq (x:=x58.low) ω fun q97 h97 z97=> Zq (x:=x58.high) ω fun q100 h100 z100=> Zd4 (p:=q97) (q:=q100) ω ω fun n101 h101=>⟨ωr,⟨fun e12=>?_,fun e12=>?_⟩⟩
            .have f103:q100<=q97:=(Zui h101).1 (oT e12);refine Eq.trans (b:=int 1) ?_ rfl;rw[Zbp hnm h3 hb hx58 h1 (if_pos (lb_7 (by rw[<-h97,<-h100];exact f103))) ωd]
            .have f103:¬(q100<=q97):=fun hh=>oF e12 ((Zui h101).2 hh);refine ZcP (l:=x58.shape) hs7 ω fun n106 hk_106_1=>⟨fun e13=>?_,fun e13=>?_⟩
             .have f108:n106≠0:=ZO e13;have hB:=Ztu (x:=x58) (nN f73) (by rw[<-h76];exact f80) (by rw[<-h83];exact f87) (by rw[<-h90];exact f94) (by rw[<-h97,<-h100];exact f103);refine Eq.trans (b:=int n106) ?_ rfl;rw[Zbp hnm h3 hb hx58 h1 ((Zvi hB (by rw[<-hk_106_1];exact f108)).trans hk_106_1.symm) f108]
             .have f108:¬(n106≠0):=fun hh=>hh (ZP e13);have hB:=Ztu (x:=x58) (nN f73) (by rw[<-h76];exact f80) (by rw[<-h83];exact f87) (by rw[<-h90];exact f94) (by rw[<-h97,<-h100];exact f103);have hLs:(x58.shape.map rdv).length=x58.shape.length:=length_map ..;refine⟨Nat,fun k=>[(54,Xl lk A.links),(55,int ((A.links.map lk).length:Int)),(56,int (i:Int)),(74,.val (.one (.ptr 5 0))),(75,rat x58.len),(76,q3 q76),(77,int n77),(78,bool (decide (n77<=0))),(81,.val (.one (.ptr 5 9))),(82,rat x58.speed),(83,q3 q83),(84,int n84),(85,bool (decide (n84<=0))),(88,.val (.one (.ptr 5 12))),(89,rat x58.brake),(90,q3 q90),(91,int n91),(92,bool (decide (n91<=0))),(95,.val (.one (.ptr 5 3))),(96,rat x58.low),(97,q3 q97),(98,.val (.one (.ptr 5 6))),(99,rat x58.high),(100,q3 q100),(101,int n101),(102,bool (decide (n101>=0))),(111,Xl rdv x58.shape),(112,int ((x58.shape.map rdv).length:Int)),(113,int (k:Int))],
               fun k=>[(5,.var 56 (X1 x58.len<|X1 x58.low<|X1 x58.high<|X1 x58.speed<|X1 x58.brake [.d (.list (x58.shape.map rdv))]))],fun k=>k<=x58.shape.length/\∀(j:Nat)(p:RV×RV),j<k->x58.shape[j]? =some p->smallP p.1/\smallP p.2,fun k=>x58.shape.length-k,0,?_,⟨Nat.zero_le _,fun j p h=>absurd h (Nat.not_lt_zero _)⟩,fun k hs=>?_⟩
              .exact ωe
              obtain⟨hk,h2⟩:=hs;refine⟨fun e14=>?_,fun e14=>?_⟩
              .have f114:(k:Int)<((x58.shape.map rdv).length:Int):=oT e14;obtain⟨x115,hx115⟩:∃vv,x58.shape[k]? =some vv:=⟨_,gE ωm⟩;have hzx115:=hs7 x115 (mG hx115);refine k_ix k _ ωf (Zd hx115) rfl ?_;refine use (Za1 [x115.1,x115.2] (by intro x hx;simp only[mem_cons,not_mem_nil,or_false]at hx;rcases hx with rfl|rfl<;>omega) (by simp)) rfl ?_;refine⟨fun e15=>?_,fun e15=>?_⟩
               .have f123:¬(smallP x115.1/\smallP x115.2):=fun hh=>Zbs (smB2.2 hh) (Zbu e15);refine Eq.trans (b:=int 1) ?_ rfl;have hc0:convE 8 x58.shape=0:=by rw[<-hk_106_1];exact nN f108
                rw[Zbp hnm h3 hb hx58 h1 (Zvh hB hc0 (mG hx115) f123) ωd]
               .have f123:¬(¬(smallP x115.1/\smallP x115.2)):=fun hh=>hh (smB2.1 (Zbv e15));refine⟨k+1,⟨ω,fun j c g hc=>by
                 by_cases e:j=k
                 .subst e;rw[hx115]at hc;obtain rfl:=sI hc;exact nN f123
                 .exact h2 j c ω hc⟩,by simp only;omega,?_⟩
                exact ωE
              .have f114:¬((k:Int)<((x58.shape.map rdv).length:Int)):=oF e14;have hc0:convE 8 x58.shape=0:=by rw[<-hk_106_1];exact nN f108
               have hlink:=Zvj hB hc0 (fun j p g hc=>h2 j p ω hc);refine⟨i+1,⟨ω,fun j c g hc=>by
                by_cases e:j=i
                .subst e;rw[hx58]at hc;obtain rfl:=sI hc;exact hlink
                .exact h1 j c ω hc⟩,by simp only;omega,?_⟩
               exact ωE
       .have f57:¬((i:Int)<((A.links.map lk).length:Int)):=oF e7;refine Eq.trans (b:=int 0) ?_ rfl;rw[ZvI hnm h3 hb fun j m hm=>h1 j m (by have:=(gS hm).1;omega) hm]
     .have f44:¬(A.bh=true):=fun hh=>Zbs hh e5;refine⟨fun e=>absurd e ωd,fun _=>?_⟩;have hnm:=nN f11;have h3:¬3<A.links.length:=ω;have hb:=Zzo (A:=A) ω (nN f40) (by first|exact fun h=>f44 h.1|exact fun h=>f21 (by rw[h48];exact h.2));refine⟨Nat,fun i=>[(54,Xl lk A.links),(55,int ((A.links.map lk).length:Int)),(56,int (i:Int))],
       fun i=>[],fun i=>i<=A.links.length/\∀(j:Nat)(m:LinkV),j<i->A.links[j]? =some m->linkE m=0,fun i=>A.links.length-i,0,?_,⟨Nat.zero_le _,fun j m h=>absurd h (Nat.not_lt_zero _)⟩,fun i hs=>?_⟩
      .exact ωe
      obtain⟨hi,h1⟩:=hs;refine⟨fun e16=>?_,fun e16=>?_⟩
      .have f57:(i:Int)<((A.links.map lk).length:Int):=oT e16;obtain⟨x58,hx58⟩:∃vv,A.links[i]? =some vv:=⟨_,gE ωm⟩;obtain⟨hs1,hs2,hs3,hs4,hs5,hs6,hs7⟩:=z6 x58 (mG hx58);refine k_ix i _ ωf (Zd hx58) rfl ?_;refine use (Za1 [x58.len,x58.low,x58.high,x58.speed,x58.brake] (by intro x hx;simp only[mem_cons,not_mem_nil,or_false]at hx;rcases hx with rfl|rfl|rfl|rfl|rfl<;>omega) (by simp)) rfl ?_;refine fork (fun e17=>?_) (fun e17=>?_)
       .have f73:¬(smallP x58.len/\smallP x58.low/\smallP x58.high/\smallP x58.speed/\smallP x58.brake):=fun hh=>Zbs (smB5.2 hh) (Zbu e17);refine⟨ωr,⟨fun _=> Eq.trans (b:=int 1) ?_ rfl,fun e=>absurd e ωd⟩⟩;rw[Zbp hnm h3 hb hx58 h1 (if_pos (lb_s f73)) ωd]
       .have f73:¬(¬(smallP x58.len/\smallP x58.low/\smallP x58.high/\smallP x58.speed/\smallP x58.brake)):=fun hh=>hh (smB5.1 (Zbv e17));refine Zq (x:=x58.len) ω fun q76 h76 z76=> Zbz (q:=q76) fun n77 h77=> fork (fun e18=>?_) (fun e18=>?_)
        .have f80:q76<=0:=(Z0 h77).1 (oT e18);refine⟨ωr,⟨fun _=> Eq.trans (b:=int 1) ?_ rfl,fun e=>absurd e ωd⟩⟩;rw[Zbp hnm h3 hb hx58 h1 (if_pos (lb_6 (by rw[<-h76];exact f80))) ωd]
        .have f80:¬(q76<=0):=fun hh=>oF e18 ((Z0 h77).2 hh);refine Zq (x:=x58.speed) ω fun q83 h83 z83=> Zbz (q:=q83) fun n84 h84=> fork (fun e19=>?_) (fun e19=>?_)
         .have f87:q83<=0:=(Z0 h84).1 (oT e19);refine⟨ωr,⟨fun _=> Eq.trans (b:=int 1) ?_ rfl,fun e=>absurd e ωd⟩⟩;rw[Zbp hnm h3 hb hx58 h1 (if_pos (lb_8 (by rw[<-h83];exact f87))) ωd]
         .have f87:¬(q83<=0):=fun hh=>oF e19 ((Z0 h84).2 hh);refine Zq (x:=x58.brake) ω fun q90 h90 z90=> Zbz (q:=q90) fun n91 h91=> fork (fun e20=>?_) (fun e20=>?_)
          .have f94:q90<=0:=(Z0 h91).1 (oT e20);refine⟨ωr,⟨fun _=> Eq.trans (b:=int 1) ?_ rfl,fun e=>absurd e ωd⟩⟩;rw[Zbp hnm h3 hb hx58 h1 (if_pos (lb_9 (by rw[<-h90];exact f94))) ωd]
          .have f94:¬(q90<=0):=fun hh=>oF e20 ((Z0 h91).2 hh);refine Zq (x:=x58.low) ω fun q97 h97 z97=> Zq (x:=x58.high) ω fun q100 h100 z100=> Zd4 (p:=q97) (q:=q100) ω ω fun n101 h101=>⟨ωr,⟨fun e21=>?_,fun e21=>?_⟩⟩
           .have f103:q100<=q97:=(Zui h101).1 (oT e21);refine Eq.trans (b:=int 1) ?_ rfl;rw[Zbp hnm h3 hb hx58 h1 (if_pos (lb_7 (by rw[<-h97,<-h100];exact f103))) ωd]
           .have f103:¬(q100<=q97):=fun hh=>oF e21 ((Zui h101).2 hh);refine ZcP (l:=x58.shape) hs7 ω fun n106 hk_106_1=>⟨fun e22=>?_,fun e22=>?_⟩
            .have f108:n106≠0:=ZO e22;have hB:=Ztu (x:=x58) (nN f73) (by rw[<-h76];exact f80) (by rw[<-h83];exact f87) (by rw[<-h90];exact f94) (by rw[<-h97,<-h100];exact f103);refine Eq.trans (b:=int n106) ?_ rfl;rw[Zbp hnm h3 hb hx58 h1 ((Zvi hB (by rw[<-hk_106_1];exact f108)).trans hk_106_1.symm) f108]
            .have f108:¬(n106≠0):=fun hh=>hh (ZP e22);have hB:=Ztu (x:=x58) (nN f73) (by rw[<-h76];exact f80) (by rw[<-h83];exact f87) (by rw[<-h90];exact f94) (by rw[<-h97,<-h100];exact f103);have hLs:(x58.shape.map rdv).length=x58.shape.length:=length_map ..;refine⟨Nat,fun k=>[(54,Xl lk A.links),(55,int ((A.links.map lk).length:Int)),(56,int (i:Int)),(74,.val (.one (.ptr 5 0))),(75,rat x58.len),(76,q3 q76),(77,int n77),(78,bool (decide (n77<=0))),(81,.val (.one (.ptr 5 9))),(82,rat x58.speed),(83,q3 q83),(84,int n84),(85,bool (decide (n84<=0))),(88,.val (.one (.ptr 5 12))),(89,rat x58.brake),(90,q3 q90),(91,int n91),(92,bool (decide (n91<=0))),(95,.val (.one (.ptr 5 3))),(96,rat x58.low),(97,q3 q97),(98,.val (.one (.ptr 5 6))),(99,rat x58.high),(100,q3 q100),(101,int n101),(102,bool (decide (n101>=0))),(111,Xl rdv x58.shape),(112,int ((x58.shape.map rdv).length:Int)),(113,int (k:Int))],
              fun k=>[(5,.var 56 (X1 x58.len<|X1 x58.low<|X1 x58.high<|X1 x58.speed<|X1 x58.brake [.d (.list (x58.shape.map rdv))]))],fun k=>k<=x58.shape.length/\∀(j:Nat)(p:RV×RV),j<k->x58.shape[j]? =some p->smallP p.1/\smallP p.2,fun k=>x58.shape.length-k,0,?_,⟨Nat.zero_le _,fun j p h=>absurd h (Nat.not_lt_zero _)⟩,fun k hs=>?_⟩
             .exact ωe
             obtain⟨hk,h2⟩:=hs;refine⟨fun e23=>?_,fun e23=>?_⟩
             .have f114:(k:Int)<((x58.shape.map rdv).length:Int):=oT e23;obtain⟨x115,hx115⟩:∃vv,x58.shape[k]? =some vv:=⟨_,gE ωm⟩;have hzx115:=hs7 x115 (mG hx115);refine k_ix k _ ωf (Zd hx115) rfl ?_;refine use (Za1 [x115.1,x115.2] (by intro x hx;simp only[mem_cons,not_mem_nil,or_false]at hx;rcases hx with rfl|rfl<;>omega) (by simp)) rfl ?_;refine⟨fun e24=>?_,fun e24=>?_⟩
              .have f123:¬(smallP x115.1/\smallP x115.2):=fun hh=>Zbs (smB2.2 hh) (Zbu e24);refine Eq.trans (b:=int 1) ?_ rfl;have hc0:convE 8 x58.shape=0:=by rw[<-hk_106_1];exact nN f108
               rw[Zbp hnm h3 hb hx58 h1 (Zvh hB hc0 (mG hx115) f123) ωd]
              .have f123:¬(¬(smallP x115.1/\smallP x115.2)):=fun hh=>hh (smB2.1 (Zbv e24));refine⟨k+1,⟨ω,fun j c g hc=>by
                by_cases e:j=k
                .subst e;rw[hx115]at hc;obtain rfl:=sI hc;exact nN f123
                .exact h2 j c ω hc⟩,by simp only;omega,?_⟩
               exact ωE
             .have f114:¬((k:Int)<((x58.shape.map rdv).length:Int)):=oF e23;have hc0:convE 8 x58.shape=0:=by rw[<-hk_106_1];exact nN f108
              have hlink:=Zvj hB hc0 (fun j p g hc=>h2 j p ω hc);refine⟨i+1,⟨ω,fun j c g hc=>by
               by_cases e:j=i
               .subst e;rw[hx58]at hc;obtain rfl:=sI hc;exact hlink
               .exact h1 j c ω hc⟩,by simp only;omega,?_⟩
              exact ωE
      .have f57:¬((i:Int)<((A.links.map lk).length:Int)):=oF e16;refine Eq.trans (b:=int 0) ?_ rfl;rw[ZvI hnm h3 hb fun j m hm=>h1 j m (by have:=(gS hm).1;omega) hm]
 ) rfl
theorem Zm9{A:ArmV}{n:Int}(hA:A.ok)(k:∀m,m=hasE A n->K (int m)):Ask 12 [arm A,int n] K:=use2 (k _ rfl) (by
 have hA2:=hA;obtain⟨z1,z2,z3,z4,z5,z6⟩:=hA;have hL:(A.links.map lk).length=A.links.length:=length_map ..;refine Zb Tryz.func12 Tryz.ntmps12 ?_;refine Zna (A:=A) ωs fun n7 hk_7_1=> fork (fun e1=>?_) (fun e1=>?_)
 .have f10:n7=0:=ZaW e1;refine⟨fun e2=>?_,fun e2=>?_⟩
  .have f16:n≠((A.links.map lk).length:Int):=ZO e2;refine Eq.trans (b:=int 1) ?_ rfl;have h0:armE A=0:=by rw[<-hk_7_1];exact f10
   rw[show hasE A n=1 by rw[hasE,if_pos h0,if_neg (by rw[<-hL];exact f16)]]
  .have f16:¬(n≠((A.links.map lk).length:Int)):=fun hh=>hh (ZP e2);refine Eq.trans (b:=int n7) ?_ rfl;have h0:armE A=0:=by rw[<-hk_7_1];exact f10
   rw[show hasE A n=n7 by rw[hasE,if_pos h0,if_pos (by rw[<-hL];exact nN f16),f10]]
 .have f10:¬(n7=0):=ZaX e1;refine⟨fun e=>absurd e ωd,fun _=> Eq.trans (b:=int n7) ?_ rfl⟩;rw[show hasE A n=n7 by rw[hasE,if_neg (by rw[<-hk_7_1];exact f10),hk_7_1]]
 ) rfl
end
