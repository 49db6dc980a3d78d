/- Plain arithmetic, no program: the greatest common divisor by halves and differences; digits in base 2^64. -/
import Derived.Test.YtnhfpbcbhnfeaaaGreatDoorQGrpK
import Derived.Lib.TrailingZeros
namespace Go.Proofs.YtnhfpbcbhnfeaaaGreatDoor.num
open Go.RowKit
def w64(n:Nat):List Nat:=dg 18446744073709551616 n (wlen 8 n)
theorem ZfB(n:Nat):(w64 n).length=wlen 8 n:=Zax _ _ _
theorem ZuG(n:Nat):∀d∈w64 n,d<18446744073709551616:=Zw9 ω _ _
theorem Zvf(n:Nat):lv 18446744073709551616 (w64 n)=n:=ZbQ (by have:=@ZcL 8 n ω;simpa using this)
def Top(l:List Nat):Prop:=0<l.length->0<l.getD (l.length-1) 0
theorem ZuJ{B:Nat}{l:List Nat}(h:Top l)(h0:0<l.length):B^(l.length-1)<=lv B l:=by
 have h1:=Zw B l (l.length-1) ω;rw[Zg B l ω]at h1;have h2:=h h0;have:B^(l.length-1)*1<=B^(l.length-1)*l.getD (l.length-1) 0:=Nat.mul_le_mul_left _ h2;omega
theorem top_pos{B:Nat}{l:List Nat}(hB:0<B)(h:Top l)(h0:0<l.length):0<lv B l:=
 Nat.lt_of_lt_of_le (Nat.pow_pos hB) (ZuJ h h0)
theorem Za5{B:Nat}{X Y:List Nat}(hX:∀d∈X,d<B)(hB:0<B)(hY:Top Y)(h:X.length<Y.length):lv B X<lv B Y:=by
 have h1:=ZdI hX;have h2:=ZuJ (B:=B) hY ω;have h3:B^X.length<=B^(Y.length-1):=Nat.pow_le_pow_right hB ω;omega
theorem Ziy{B:Nat}{X Y:List Nat}(hX:∀d∈X,d<B)(hB:0<B)(hY:Top Y)(h:lv B Y<=lv B X):Y.length<=X.length:=by
 apply Nat.le_of_not_lt;intro hlt;have:=Za5 hX hB hY hlt;omega
theorem Zki{B:Nat}{X Y:List Nat}{k:Nat}(hX:∀d∈X,d<B)(hY:∀d∈Y,d<B)(hl:X.length=Y.length)(hk:k<X.length)(hd:X.drop (k+1)=Y.drop (k+1))(hne:X.getD k 0≠Y.getD k 0):
  (lv B X<lv B Y↔X.getD k 0<Y.getD k 0):=by
 have e1:=Z6 B X (k+1) ω;have e2:=Z6 B Y (k+1) ω;rw[Zp]at e1 e2;rw[hd]at e1;have l1:=ZY hX (Nat.le_of_lt hk);have l2:=ZY hY (k:=k) ω;have key:∀p q:Nat,p<q->B^k*p+B^k<=B^k*q:=fun p q hpq=>by
  have:=Nat.mul_le_mul_left (B^k) (show p+1<=q from hpq)
  rwa[Nat.mul_add,Nat.mul_one]at this
 generalize X.getD k 0=x at*;generalize Y.getD k 0=y at*;rcases Nat.lt_or_gt_of_ne hne with h|h
 .have:=key _ _ h;exact⟨fun _=>h,fun _=>ω⟩
 .have:=key _ _ h;exact⟨fun _=>ω,fun _=>ω⟩
theorem ZiQ{X Y:List Nat}{k:Nat}(hl:X.length=Y.length)(hk:k<X.length)(hd:X.drop (k+1)=Y.drop (k+1))(he:X.getD k 0=Y.getD k 0):X.drop k=Y.drop k:=by
 rw[List.drop_eq_getElem_cons hk,List.drop_eq_getElem_cons (show k<Y.length by omega),hd];congr 1;simpa[List.getD,gE hk,gE (show k<Y.length by omega)]using he
theorem Zka{y:Nat}(hy:y%2=1):Nat.Coprime 2 y:=by
 show Nat.gcd 2 y=1;rw[Nat.gcd_rec,hy];rfl
theorem ZcQ(t z:Nat){y:Nat}(hy:y%2=1):Nat.gcd (2^t*z) y=Nat.gcd z y:=
 ((Zka hy).pow_left t).gcd_mul_left_cancel z
theorem ZdN(t z:Nat){y:Nat}(hy:y%2=1):Nat.gcd y (2^t*z)=Nat.gcd y z:=by
 rw[Nat.gcd_comm,ZcQ t z hy,Nat.gcd_comm]
theorem Znf(a b p q:Nat)(hp:p%2=1)(hq:q%2=1):Nat.gcd (2^a*p) (2^b*q)=Nat.gcd p q*2^min a b:=by
 rcases Nat.le_total a b with h|h
 .obtain⟨c,rfl⟩:∃c,b=a+c:=⟨b-a,ω⟩;rw[Nat.pow_add,Nat.mul_assoc,Nat.gcd_mul_left,ZdN c q hp,Nat.min_eq_left ω,Nat.mul_comm]
 .obtain⟨c,rfl⟩:∃c,a=b+c:=⟨a-b,ω⟩;rw[Nat.pow_add,Nat.mul_assoc,Nat.gcd_mul_left,ZcQ c p hq,Nat.min_eq_right ω,Nat.mul_comm]
theorem ZqS{x y:Nat}(h:y<=x):Nat.gcd (x-y) y=Nat.gcd x y:=Nat.gcd_sub_self_left h
theorem gcd_mod'(x y:Nat):Nat.gcd y (x%y)=Nat.gcd x y:=by
 rw[Nat.gcd_comm,<-Nat.gcd_rec,Nat.gcd_comm]
theorem Zq4{l:List Nat}{k x t m:Nat}(hz:lv 18446744073709551616 (l.take k)=0)(hk:k<l.length)(hx:l.getD k 0=x)(hm:x=2^t*(2*m+1))(ht:t<64):
  ∃q,lv 18446744073709551616 l=2^(64*k+t)*(2*q+1):=by
 have e:=Z6 18446744073709551616 l (k+1) ω;rw[Zp,hz,hx,Nat.zero_add,Nat.pow_succ,Nat.mul_assoc,<-Nat.mul_add]at e;generalize lv 18446744073709551616 (l.drop (k+1))=D at e;have hB:(18446744073709551616:Nat)=2^t*(2*2^(63-t)):=by
  rw[<-Nat.pow_succ',<-Nat.pow_add,show t+(63-t).succ=64 by omega]
 have hP:(18446744073709551616:Nat)^k=2^(64*k):=by rw[Nat.pow_mul]
 refine⟨m+2^(63-t)*D,?_⟩;rw[e,hP,Nat.pow_add,Nat.mul_assoc,hm];congr 1;have:18446744073709551616*D=2^t*(2*2^(63-t)*D):=by
  conv=>lhs;rw[hB]
  rw[Nat.mul_assoc]
 rw[this,<-Nat.mul_add];congr 1;rw[Nat.mul_assoc];omega
theorem ZfM{x y r:Nat}(hx:x<18446744073709551616)(hr:r<=64):
  x/2^r+y%2^r*2^(64-r)=(x+18446744073709551616*y)/2^r%18446744073709551616/\x/2^r+y%2^r*2^(64-r)<18446744073709551616/\x/2^r<2^(64-r)/\y*2^(64-r)%18446744073709551616=y%2^r*2^(64-r):=by
 have h64:(18446744073709551616:Nat)=2^r*2^(64-r):=by rw[<-Nat.pow_add,show r+(64-r)=64 by omega]
 have hs0:0<2^r:=Nat.pow_pos ω;have hlo:x/2^r<2^(64-r):=by
  rw[Nat.div_lt_iff_lt_mul hs0,Nat.mul_comm,<-h64];exact hx
 have hq:y%2^r<2^r:=Nat.mod_lt _ hs0;have hz:x/2^r+y%2^r*2^(64-r)<18446744073709551616:=by
  have:(y%2^r+1)*2^(64-r)<=2^r*2^(64-r):=Nat.mul_le_mul_right _ hq;rw[<-h64,Nat.add_mul]at this;omega
 have e2:y*2^(64-r)%18446744073709551616=y%2^r*2^(64-r):=by
  conv=>lhs;rw[h64]
  exact Nat.mul_mod_mul_right _ _ _
 refine⟨?_,hz,hlo,e2⟩;have e1:(x+18446744073709551616*y)/2^r=x/2^r+y*2^(64-r):=by
  conv=>lhs;rw[h64]
  rw[Nat.mul_assoc,Nat.add_mul_div_left _ _ hs0,Nat.mul_comm (2^(64-r))]
 rw[e1,Nat.add_mod,e2,Nat.mod_eq_of_lt (show x/2^r<18446744073709551616 by omega),Nat.mod_eq_of_lt hz]
theorem Zh2{l:List Nat}{k r x y:Nat}(hl:∀d∈l,d<18446744073709551616)(hr:r<=64)(hk:k<l.length)(hx:l.getD k 0=x)(hy:l.getD (k+1) 0=y):
  lv 18446744073709551616 l/2^r/18446744073709551616^k%18446744073709551616=x/2^r+y%2^r*2^(64-r):=by
 have hxl:x<18446744073709551616:=by rw[<-hx];exact Zs ω hl k
 rw[(ZfM (y:=y) hxl hr).1,Nat.div_div_eq_div_mul,Nat.mul_comm (2^r),<-Nat.div_div_eq_div_mul];have e:lv 18446744073709551616 l/18446744073709551616^k=x+18446744073709551616*y+18446744073709551616*18446744073709551616*lv 18446744073709551616 (l.drop (k+2)):=by
  have h1:=Z6 18446744073709551616 l k ω;have h2:=ZY hl (Nat.le_of_lt hk);rw[h1,Nat.add_mul_div_left _ _ (Nat.pow_pos ω),Nat.div_eq_of_lt h2,Nat.zero_add,Zbh _ _ _ hk,hx];by_cases hk2:k+1<l.length
  .rw[Zbh _ _ _ hk2,hy,show k+1+1=k+2 from rfl,Nat.mul_add,<-Nat.mul_assoc];omega
  .have hy0:y=0:=by rw[<-hy];simp[List.getD,List.getElem?_eq_none (Nat.le_of_not_lt hk2)]
   rw[List.drop_of_length_le (show l.length<=k+1 by omega),List.drop_of_length_le (show l.length<=k+2 by omega),Zda,hy0]
 have h64:(18446744073709551616:Nat)=2^r*2^(64-r):=by rw[<-Nat.pow_add,show r+(64-r)=64 by omega]
 rw[e];generalize lv 18446744073709551616 (l.drop (k+2))=D;generalize x+18446744073709551616*y=z;have e2:18446744073709551616*18446744073709551616*D=2^r*(18446744073709551616*(2^(64-r)*D)):=by
  conv=>lhs;rw[h64]
  conv=>rhs;rw[h64]
  simp only[Nat.mul_comm,Nat.mul_left_comm]
 rw[e2,Nat.add_mul_div_left _ _ (Nat.pow_pos ω),Nat.add_mul_mod_self_left]
theorem Zmk{x y r:Nat}(hx:x<18446744073709551616)(hr:r<=64):
  bits .or .u64 ((x:Int)/2^r) (IntKind.u64.wrap ((y:Int)*2^(64-r)))=((x/2^r+y%2^r*2^(64-r):Nat):Int):=by
 obtain⟨_,h2,h3,h4⟩:=ZfM (y:=y) hx hr;have e1:((x:Int)/2^r)=((x/2^r:Nat):Int):=by simp
 have e2:IntKind.u64.wrap ((y:Int)*2^(64-r))=((y%2^r*2^(64-r):Nat):Int):=by
  rw[<-h4,IntKind.wrap_u64];simp
 rw[e1,e2,u64_or_nat _ _ ω ω,Nat.or_comm,ZbM _ _ _ h3,Nat.add_comm]
theorem Zfh{B n N k:Nat}{l:List Nat}(hl:l.length=N)(hk:k<N):((dg B n N).take k++l.drop k).set k (n/B^k%B)=(dg B n N).take (k+1)++l.drop (k+1):=by
 have h1:((dg B n N).take k).length=k:=by rw[List.length_take,Zax];omega
 rw[List.set_append_right _ _ ω,h1,Nat.sub_self,List.take_succ_eq_append_getElem (by rw[Zax];exact hk),List.append_assoc];congr 1;rw[<-List.getElem_cons_drop (show k<l.length by omega),List.set_cons_zero];simp[dg]
def laidW(V L i k:Nat):List Nat:=(List.range L).map fun p=>if L-8*i<=p\/(L-8*(i+1)<=p/\p<L-8*(i+1)+k) then V/256^(L-1-p)%256 else 0
theorem Ziz(V L i k:Nat):(laidW V L i k).length=L:=by simp[laidW]
theorem Ztw(V L i k:Nat):∀d∈laidW V L i k,d<256:=by
 intro d hd;simp only[laidW,List.mem_map]at hd;obtain⟨j,_,rfl⟩:=hd;split
 .exact Nat.mod_lt _ ω
 .omega
theorem Zm2(V L:Nat):laidW V L 0 0=List.replicate L 0:=by
 apply ZD (by simp[laidW]);intro j hj;have hj':j<L:=by simpa[laidW]using hj
 unfold laidW;rw[Zt _ hj',if_neg ω];simp[List.getD,hj']
theorem Zm3(V L i:Nat)(h:8*(i+1)<=L):laidW V L i 8=laidW V L (i+1) 0:=by
 apply ZD (by simp[laidW]);intro j hj;have hj':j<L:=by simpa[laidW]using hj
 unfold laidW;rw[Zt _ hj',Zt _ hj'];by_cases h1:L-8*(i+1)<=j
 .rw[if_pos ω,if_pos ω]
 .rw[if_neg ω,if_neg ω]
theorem Zqa{V L i k:Nat}(h:8*(i+1)<=L)(hk:k<8):(laidW V L i k).set (L-8*(i+1)+k) (V/256^(8*i+(7-k))%256)=laidW V L i (k+1):=by
 refine ZbL _ _ ?_ ?_
 .intro hq;rw[if_pos ω,show L-1-(L-8*(i+1)+k)=8*i+(7-k) by omega]
 .intro j hj hne;by_cases h1:L-8*i<=j\/(L-8*(i+1)<=j/\j<L-8*(i+1)+k)
  .rw[if_pos h1,if_pos ω]
  .rw[if_neg h1,if_neg ω]
theorem ZiA{V N:Nat}:laidW V (8*N) N 0=laidB V (8*N) (8*N):=by
 apply ZD (by simp[laidW,laidB]);intro j hj;have hj':j<8*N:=by simpa[laidW]using hj
 unfold laidW laidB;rw[Zt _ hj',Zt _ hj',if_pos ω,if_pos ω]
theorem Zpw(n:Nat):nvl (((2^(n%8):Nat)::List.replicate (n/8) 0).map fun d=>UInt8.ofNat d)=2^n:=by
 have hz:∀k,nvl ((List.replicate k (0:Nat)).map fun d=>UInt8.ofNat d)=0:=by
  intro k
  induction k with
  |zero=>rfl
  |succ k ih=>rw[List.replicate_succ,List.map_cons];exact(ZbN _).trans ih
 have hl:2^(n%8)<=2^7:=Nat.pow_le_pow_right ω ω;rw[List.map_cons,Zcq,hz,List.length_map,List.length_replicate,Nat.add_zero];have h1:(UInt8.ofNat (2^(n%8))).toNat=2^(n%8):=by
  rw[UInt8.toNat_ofNat'];exact Nat.mod_eq_of_lt ω
 rw[h1,show (256:Nat)=2^8 by decide,<-Nat.pow_mul,<-Nat.pow_add];congr 1;omega
