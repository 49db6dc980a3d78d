/- Plain arithmetic, no program: rational numbers as a sign and two strings of bytes. -/
import Derived.Test.YtnhfpbcbhnfeaaaGreatDoorQGrpC
namespace Go.Proofs.YtnhfpbcbhnfeaaaGreatDoor.q
open Go.RowKit num
def sg(neg:Bool)(n:Nat):Int:=if neg then -(n:Int) else n
def good(s:Bool)(a d:ByteArray):Prop:=enc (nv a)=a/\enc (nv d)=d/\0<nv d/\(nv a=0->s=false)/\Nat.gcd (nv a) (nv d)=1
instance (s:Bool)(a d:ByteArray):Decidable (good s a d):=by unfold good;infer_instance
def qv(s:Bool)(a d:ByteArray):Rat:=if good s a d then mkRat (sg s (nv a)) (nv d) else 0
def Is(q:Rat)(s:Bool)(a d:ByteArray):Prop:=s=decide (q.num<0)/\a=enc q.num.natAbs/\d=enc q.den
def rv(s:Bool)(a d:ByteArray):Value:=.agg #[.bool s,.string a,.string d]
def qs(q:Rat):Nat:=max (enc q.num.natAbs).size (enc q.den).size
theorem ZbE(s:Bool)(n:Nat):(sg s n).natAbs=n:=by unfold sg;split<;>simp
theorem ZbX(q:Rat):sg (decide (q.num<0)) q.num.natAbs=q.num:=by
 unfold sg;by_cases h:q.num<0
 .rw[if_pos (by simpa using h)];omega
 .rw[if_neg (by simpa using h)];omega
theorem ZqR(q:Rat):good (decide (q.num<0)) (enc q.num.natAbs) (enc q.den):=by
 refine⟨by rw[Ze],by rw[Ze],by rw[Ze];exact Nat.pos_of_ne_zero q.den_nz,?_,by rw[Ze,Ze];exact q.reduced⟩;intro h;rw[Ze]at h;have:¬q.num<0:=ω;simpa using this
theorem Zyb(q:Rat):qv (decide (q.num<0)) (enc q.num.natAbs) (enc q.den)=q:=by
 unfold qv;rw[if_pos (ZqR q),Ze,Ze,ZbX,Rat.mkRat_self]
theorem Is.val{q:Rat}{s:Bool}{a d:ByteArray}(h:Is q s a d):qv s a d=q:=by
 obtain⟨rfl,rfl,rfl⟩:=h;exact Zyb q
theorem Zyo{s:Bool}{n d:Nat}(hd:0<d)(hg:Nat.gcd n d=1):(mkRat (sg s n) d).num=sg s n/\(mkRat (sg s n) d).den=d:=by
 have h:mkRat (sg s n) d=⟨sg s n,d,ω,by unfold Nat.Coprime;rw[ZbE];exact hg⟩:=(Rat.mk_eq_mkRat _ _ _ _).symm;rw[h];exact⟨rfl,rfl⟩
theorem Zf7{s:Bool}{a d:ByteArray}(h:good s a d):Is (qv s a d) s a d:=by
 unfold qv;rw[if_pos h];obtain⟨h1,h2,h3,h4,h5⟩:=h;obtain⟨e1,e2⟩:=Zyo (s:=s) h3 h5;refine⟨?_,?_,?_⟩
 .rw[e1]
  cases s with
  |false=>simp[sg]
  |true=>
   have:nv a≠0:=fun h=>by simpa using h4 h
   simp[sg];omega
 .rw[e1,ZbE,h1]
 .rw[e2,h2]
theorem Is.inj{q:Rat}{s s':Bool}{a a' d d':ByteArray}(h:Is q s a d)(h':Is q s' a' d'):s=s'/\a=a'/\d=d':=by
 obtain⟨rfl,rfl,rfl⟩:=h;obtain⟨rfl,rfl,rfl⟩:=h';exact⟨rfl,rfl,rfl⟩
theorem Is.eq{p q:Rat}{s:Bool}{a d:ByteArray}(h:Is p s a d)(h':Is q s a d):p=q:=by rw[<-h.val,<-h'.val]
theorem Is.sz{q:Rat}{s:Bool}{a d:ByteArray}(h:Is q s a d):a.size<=qs q/\d.size<=qs q:=by
 obtain⟨rfl,rfl,rfl⟩:=h;unfold qs;exact⟨Nat.le_max_left _ _,Nat.le_max_right _ _⟩
theorem Is.num{q:Rat}{s:Bool}{a d:ByteArray}(h:Is q s a d):sg s (nv a)=q.num/\nv d=q.den:=by
 obtain⟨rfl,rfl,rfl⟩:=h;rw[Ze,Ze];exact⟨ZbX q,rfl⟩
theorem ZqG:Is 0 false ⟨#[]⟩ ⟨#[1]⟩:=⟨rfl,by rw[show ((0:Rat).num.natAbs)=0 from rfl,ZV],by decide+kernel⟩
theorem qs_le{q:Rat}{k:Nat}:qs q<=k↔q.num.natAbs<256^k/\q.den<256^k:=by
 unfold qs;rw[Nat.max_le,Zh,Zh]
theorem ZmK(q:Rat):q.num.natAbs<256^qs q/\q.den<256^qs q:=qs_le.1 (Nat.le_refl _)
theorem Ztd(n:Int){d:Nat}(hd:d≠0):(mkRat n d).num.natAbs<=n.natAbs/\(mkRat n d).den<=d:=by
 rw[Rat.num_mkRat,Rat.den_mkRat,if_neg hd,if_neg hd];exact⟨by rw[Int.natAbs_ediv_of_dvd (Int.ofNat_dvd_left.2 (Nat.gcd_dvd_right _ _))];exact Nat.div_le_self _ _,Nat.div_le_self _ _⟩
theorem Zei{n:Int}{d k:Nat}(hd:d≠0)(h1:n.natAbs<256^k)(h2:d<256^k):qs (mkRat n d)<=k:=by
 obtain⟨e1,e2⟩:=Ztd n hd;exact qs_le.2 ⟨ω,ω⟩
theorem ZcJ(k:Nat):2*256^k<=256^(k+1):=by rw[Nat.pow_succ];omega
theorem ZR(p q:Rat):qs (p+q)<=qs p+qs q+1:=by
 have hp:=ZmK p;have hq:=ZmK q;rw[Rat.add_def'];have h1:p.num.natAbs*q.den<256^(qs p+qs q):=by rw[Nat.pow_add];exact Nat.mul_lt_mul'' hp.1 hq.2
 have h2:q.num.natAbs*p.den<256^(qs p+qs q):=by rw[Nat.pow_add,Nat.mul_comm (256^qs p)];exact Nat.mul_lt_mul'' hq.1 hp.2
 have h3:p.den*q.den<256^(qs p+qs q):=by rw[Nat.pow_add];exact Nat.mul_lt_mul'' hp.2 hq.2
 have h4:=ZcJ (qs p+qs q);refine Zei (Nat.mul_ne_zero p.den_nz q.den_nz) ?_ ω;have h5:=Int.natAbs_add_le (p.num*q.den) (q.num*p.den);rw[Int.natAbs_mul,Int.natAbs_mul,Int.natAbs_natCast,Int.natAbs_natCast]at h5;omega
theorem ZX(p q:Rat):qs (p*q)<=qs p+qs q:=by
 have hp:=ZmK p;have hq:=ZmK q;rw[Rat.mul_def'];refine Zei (Nat.mul_ne_zero p.den_nz q.den_nz) ?_ ?_
 .rw[Int.natAbs_mul,Nat.pow_add];exact Nat.mul_lt_mul'' hp.1 hq.1
 .rw[Nat.pow_add];exact Nat.mul_lt_mul'' hp.2 hq.2
theorem ZbY(p:Rat):qs (-p)=qs p:=by
 unfold qs;rw[Rat.neg_num,Rat.neg_den,Int.natAbs_neg]
theorem Zac(p q:Rat):qs (p-q)<=qs p+qs q+1:=by
 rw[Rat.sub_eq_add_neg];have:=ZR p (-q)
 rwa[ZbY]at this
theorem Zyf(p:Rat):qs p⁻¹<=qs p+1:=by
 have hp:=ZmK p;have h4:=ZcJ (qs p);rw[qs_le,Rat.num_inv,Rat.den_inv];have h5:1<256^(qs p+1):=Nat.one_lt_pow ω ω;refine⟨?_,by split<;>omega⟩;have:(p.num.sign*(p.den:Int)).natAbs<=p.den:=by
  rw[Int.natAbs_mul,Int.natAbs_natCast,Int.natAbs_sign];split<;>simp
 omega
theorem ZbZ(p q:Rat):qs (p/q)<=qs p+qs q+1:=by
 rw[Rat.div_def];have h1:=ZX p q⁻¹;have h2:=Zyf q;omega
theorem Zyg{n:Int}{k:Nat}(h:n.natAbs<256^k)(hk:0<k):qs (n:Rat)<=k:=by
 rw[qs_le,Rat.num_intCast,Rat.den_intCast];exact⟨h,Nat.one_lt_pow ω ω⟩
theorem Is.parts{q:Rat}{s:Bool}{a d:ByteArray}(h:Is q s a d):∃n m:Nat,a=enc n/\d=enc m/\sg s n=q.num/\m=q.den/\0<m/\n=q.num.natAbs:=by
 obtain⟨rfl,rfl,rfl⟩:=h;exact⟨_,_,rfl,rfl,ZbX q,rfl,Nat.pos_of_ne_zero q.den_nz,rfl⟩
theorem Zus{p q:Rat}(h:q.den=p.den):mkRat (p.num+q.num) p.den=p+q:=by
 rw[Rat.add_def',h,<-Int.add_mul,Rat.mkRat_mul_right p.den_nz]
theorem ZdP{a b k:Nat}(ha:(enc a).size<=k)(hb:(enc b).size<=k):(enc (a+b)).size<=k+1:=by
 rw[Zh]at*;have:=ZcJ k;omega
theorem Z9{a b j k:Nat}(ha:(enc a).size<=j)(hb:(enc b).size<=k):(enc (a*b)).size<=j+k:=by
 rw[Zh]at*;rw[Nat.pow_add];exact Nat.mul_lt_mul'' ha hb
theorem Zh6{u s t:Bool}{z x y:Nat}(h:sg u z=sg s x+sg t y):z<=x+y:=by
 have h1:=congrArg Int.natAbs h;rw[ZbE]at h1;have h2:=Int.natAbs_add_le (sg s x) (sg t y);rw[ZbE,ZbE]at h2;omega
theorem ZfN(s:Bool)(x y:Nat):sg s (x*y)=sg s x*(y:Int):=by
 unfold sg;split<;>simp[Int.neg_mul]
theorem Zi6{p q:Rat}{s t:Bool}{n m k l:Nat}(h1:sg s n=p.num)(h2:m=p.den)(h3:sg t k=q.num)(h4:l=q.den):mkRat (sg s (n*l)+sg t (k*m)) (m*l)=p+q:=by
 rw[ZfN,ZfN,h1,h2,h3,h4,<-Rat.add_def']
