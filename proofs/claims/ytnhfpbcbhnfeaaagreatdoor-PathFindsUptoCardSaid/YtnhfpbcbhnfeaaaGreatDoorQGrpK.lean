/- Joined by wip/bundle.py: XKnuth XKnuth2. -/
import Derived.Test.YtnhfpbcbhnfeaaaGreatDoorQGrpC
namespace Go.Proofs.YtnhfpbcbhnfeaaaGreatDoor.num
section
variable{A W vl vs vt sl u2 top q d rest:Nat}
theorem ZzS(_hA:0<A)(hu2:u2<W)(hsl:sl<A)(h:q*(vl+A*(vs+W*vt))<=sl+A*(u2+W*top)):q*vt<=top:=by
 apply Nat.le_of_not_lt;intro hlt;have h1:A*(W*(top+1))<=A*(W*(q*vt)):=Nat.mul_le_mul_left _ (Nat.mul_le_mul_left _ hlt);have h2:q*(vl+A*(vs+W*vt))=q*vl+A*(q*vs)+A*(W*(q*vt)):=by
  simp only[Nat.mul_add,Nat.mul_comm,Nat.mul_left_comm];omega
 have h3:A*(u2+1)<=A*W:=Nat.mul_le_mul_left _ hu2;simp only[Nat.mul_add,Nat.mul_one]at h h1 h3;simp only[Nat.mul_add]at h2;omega
theorem ZyB(hsl:sl<A)(hd:d*vt+rest=top)(ht:rest*W+u2<d*vs):sl+A*(u2+W*top)<d*(vl+A*(vs+W*vt)):=by
 have h2:d*(vl+A*(vs+W*vt))=d*vl+A*(d*vs)+A*(W*(d*vt)):=by
  simp only[Nat.mul_add,Nat.mul_comm,Nat.mul_left_comm];omega
 have h3:A*(rest*W+u2+1)<=A*(d*vs):=Nat.mul_le_mul_left _ ht;rw[h2,<-hd];simp only[Nat.mul_add,Nat.mul_one]at h3⊢;rw[show A*(rest*W)=A*(W*rest) by rw[Nat.mul_comm rest]]at h3;omega
theorem Zwz(hvl:vl<A)(hd:d*vt+rest=top)(ht:d*vs<=rest*W+u2)(hdW:d<=W-1)(hvt:1<=vt)(h0:0<d):(d-1)*(vl+A*(vs+W*vt))<=sl+A*(u2+W*top):=by
 obtain⟨e,rfl⟩:∃e,d=e+1:=⟨d-1,ω⟩;rw[Nat.add_sub_cancel];have h1:e*(vl+A*(vs+W*vt))<=e*(A+A*(vs+W*vt)):=Nat.mul_le_mul_left _ ω;have h2:A*((e+1)*vs)<=A*(rest*W+u2):=Nat.mul_le_mul_left _ ht;have h4:W*1<=W*vt:=Nat.mul_le_mul_left _ hvt;have h3:A*e<=A*(vs+W*vt):=Nat.mul_le_mul_left _ ω;have h5:A*(u2+W*top)=A*u2+A*(W*((e+1)*vt))+A*(rest*W):=by
  rw[<-hd];simp only[Nat.mul_add,Nat.mul_comm W rest];omega
 have h6:e*(A+A*(vs+W*vt))=A*e+A*(e*vs)+A*(W*(e*vt)):=by
  simp only[Nat.mul_add,Nat.mul_comm,Nat.mul_left_comm];omega
 have h7:A*((e+1)*vs)=A*(e*vs)+A*vs:=by rw[Nat.add_mul,Nat.one_mul,Nat.mul_add]
 have h8:A*(W*((e+1)*vt))=A*(W*(e*vt))+A*(W*vt):=by rw[Nat.add_mul,Nat.one_mul,Nat.mul_add,Nat.mul_add]
 rw[Nat.mul_add]at h2 h3;omega
theorem ZyA(_hA:0<A)(hvs:vs<W)(hvl:vl<A){u0 u1:Nat}(htop:top=u1+W*u0)(h:sl+A*(u2+W*top)<W*(vl+A*(vs+W*vt))):u0<=vt:=by
 apply Nat.le_of_not_lt;intro hlt;have h1:A*(W*(W*(vt+1)))<=A*(W*(W*u0)):=Nat.mul_le_mul_left _ (Nat.mul_le_mul_left _ (Nat.mul_le_mul_left _ hlt));have h2:W*vl<=W*A:=Nat.mul_le_mul_left _ ω;have h3:A*(W*(vs+1))<=A*(W*W):=Nat.mul_le_mul_left _ (Nat.mul_le_mul_left _ hvs);rw[htop]at h;have h4:W*(vl+A*(vs+W*vt))=W*vl+A*(W*vs)+A*(W*(W*vt)):=by
  simp only[Nat.mul_add,Nat.mul_left_comm];omega
 rw[h4]at h;simp only[Nat.mul_add,Nat.mul_one]at h h1 h3;rw[Nat.mul_comm W A]at h2;omega
end
theorem Ztm{B n:Nat}{S:List Nat}(hn:2<=n)(hS:S.length=n+1):
  lv B S=lv B (S.take (n-2))+B^(n-2)*(S.getD (n-2) 0+B*(S.getD (n-1) 0+B*S.getD n 0)):=by
 have h1:=Zw B S n ω;have h2:=Zw B S (n-1) ω;have h3:=Zw B S (n-2) ω;rw[show n-1+1=n by omega]at h2;rw[show n-2+1=n-1 by omega]at h3;rw[Zg B S ω]at h1;rw[h1,h2,h3];have e1:B^n=B^(n-2)*(B*B):=by rw[<-Nat.pow_two,<-Nat.pow_add];congr 1;omega
 have e2:B^(n-1)=B^(n-2)*B:=by rw[<-Nat.pow_succ];congr 1;omega
 rw[e1,e2];simp only[Nat.mul_add,Nat.mul_assoc];omega
theorem Zyw{B n:Nat}{V:List Nat}(hn:2<=n)(hV:V.length=n):
  lv B V=lv B (V.take (n-2))+B^(n-2)*(V.getD (n-2) 0+B*V.getD (n-1) 0):=by
 have h2:=Zw B V (n-1) ω;have h3:=Zw B V (n-2) ω;rw[show n-1+1=n by omega]at h2;rw[show n-2+1=n-1 by omega]at h3;rw[Zg B V ω]at h2;rw[h2,h3];have e2:B^(n-1)=B^(n-2)*B:=by rw[<-Nat.pow_succ];congr 1;omega
 rw[e2];simp only[Nat.mul_add,Nat.mul_assoc];omega
theorem ZY{B:Nat}{l:List Nat}(h:∀d∈l,d<B){k:Nat}(hk:k<=l.length):lv B (l.take k)<B^k:=by
 have:=ZdI (B:=B) (l:=l.take k) (fun d hd=>h d (List.mem_of_mem_take hd))
 rwa[List.length_take,Nat.min_eq_left hk]at this
theorem ZpC{B S n y:Nat}{Vf Y:List Nat}(hB:1<B)(hn:1<=n)(hVl:Vf.length=n+1)(hY:∀d∈Y,d<B)(hYl:Y.length=n)(hy:y=Y.getD (n-1) 0)(h0:0<y)(hS:(y+1)*S<=B)(hS0:0<S)
 (hV:∀d∈Vf,d<B)(hlv:lv B Vf=lv B Y*S):(Vf.take n).length=n/\lv B (Vf.take n)=lv B Y*S/\1<=(Vf.take n).getD (n-1) 0:=by
 have hl:(Vf.take n).length=n:=by simp[hVl]
 have hYt:=Zw B Y (n-1) ω;rw[show n-1+1=n by omega,Zg B Y ω,<-hy]at hYt;have hYlo:=ZY (k:=n-1) hY ω;have hp:0<B^(n-1):=Nat.pow_pos ω;have e:B^n=B^(n-1)*B:=by rw[<-Nat.pow_succ];congr 1;omega
 have hup:lv B Y*S<B^n:=by
  have h1:lv B Y<B^(n-1)*(y+1):=by rw[Nat.mul_add,Nat.mul_one];omega
  have h2:lv B Y*S<B^(n-1)*(y+1)*S:=Nat.mul_lt_mul_of_pos_right h1 hS0;have h3:B^(n-1)*((y+1)*S)<=B^(n-1)*B:=Nat.mul_le_mul_left _ hS;rw[Nat.mul_assoc]at h2;omega
 have hV1:=Zw B Vf n ω;rw[Zg B Vf ω,hlv]at hV1;have hz:Vf.getD n 0=0:=by
  rcases Nat.eq_zero_or_pos (Vf.getD n 0) with h|h
  .exact h
  .have:B^n*1<=B^n*Vf.getD n 0:=Nat.mul_le_mul_left _ h;omega
 rw[hz,Nat.mul_zero,Nat.add_zero]at hV1;refine⟨hl,hV1.symm,?_⟩;have hVt:=Zw B (Vf.take n) (n-1) ω;rw[show n-1+1=n by omega,Zg B (Vf.take n) ω]at hVt;have hlo:=ZY (l:=Vf.take n) (k:=n-1) (fun d hd=>hV d (List.mem_of_mem_take hd)) ω;apply Nat.one_le_iff_ne_zero.2;intro hz';rw[hz',Nat.mul_zero,Nat.add_zero,<-hV1]at hVt;have h1:B^(n-1)*1<=B^(n-1)*y:=Nat.mul_le_mul_left _ h0;have h2:lv B Y*1<=lv B Y*S:=Nat.mul_le_mul_left _ hS0;omega
theorem Zcj(l:List Nat)(k j:Nat):(l.drop k).getD j 0=l.getD (k+j) 0:=by
 simp[List.getD,List.getElem?_drop]
theorem Zdm{l:List Nat}{n j:Nat}(h:j<n):(l.take n).getD j 0=l.getD j 0:=by
 simp[List.getD,List.getElem?_take_of_lt h]
theorem Zbh(B:Nat)(l:List Nat)(k:Nat)(h:k<l.length):lv B (l.drop k)=l.getD k 0+B*lv B (l.drop (k+1)):=by
 rw[<-List.getElem_cons_drop h,Zai];simp[List.getD,gE h]
theorem ZbO{B:Nat}{l:List Nat}(h:∀d∈l,d<B)(k:Nat):∀d∈l.drop k,d<B:=fun d hd=>h d (List.mem_of_mem_drop hd)
theorem ZeR{B:Nat}{l:List Nat}(h:∀d∈l,d<B)(k:Nat):∀d∈l.take k,d<B:=fun d hd=>h d (List.mem_of_mem_take hd)
theorem Zdi{B n:Nat}{l:List Nat}(hl:n<=l.length)(h:lv B l<B^n):lv B (l.drop n)=0:=by
 have:=Z6 B l n hl;rcases Nat.eq_zero_or_pos (lv B (l.drop n)) with h0|h0
 .exact h0
 .have:B^n*1<=B^n*lv B (l.drop n):=Nat.mul_le_mul_left _ h0;omega
theorem Zao(B:Nat)(l:List Nat)(a b:Nat):lv B ((l.drop a).drop b)=lv B (l.drop (a+b)):=by rw[List.drop_drop]
section
variable{B n m k:Nat}{U V:List Nat}
theorem ZjZ(hB:1<B)(hn:2<=n)(hUl:U.length=m+1)(hVl:V.length=n)(hU:∀d∈U,d<B)(hV:∀d∈V,d<B)(hvt:1<=V.getD (n-1) 0)(hk:k+n+1<=m+1)(hlt:lv B (U.drop (k+1))<lv B V):
  U.getD (k+n) 0<=V.getD (n-1) 0/\lv B (U.drop k)/lv B V<B/\
  (∀d rest,d*V.getD (n-1) 0+rest=U.getD (k+n-1) 0+B*U.getD (k+n) 0->lv B (U.drop k)/lv B V*V.getD (n-1) 0<=d*V.getD (n-1) 0+rest)/\
  (∀d rest,d*V.getD (n-1) 0+rest=U.getD (k+n-1) 0+B*U.getD (k+n) 0->rest*B+U.getD (k+n-2) 0<d*V.getD (n-2) 0->lv B (U.drop k)/lv B V<d)/\
  (∀d rest,d*V.getD (n-1) 0+rest=U.getD (k+n-1) 0+B*U.getD (k+n) 0->d*V.getD (n-2) 0<=rest*B+U.getD (k+n-2) 0->d<=B-1->d<=lv B (U.drop k)/lv B V+1):=by
 have hVn:lv B V<B^n:=by rw[<-hVl];exact ZdI hV
 have h1:lv B (U.drop (k+1+n))=0:=by
  have:=Zdi (B:=B) (n:=n) (l:=U.drop (k+1)) (by simp;omega) ω
  rwa[Zao]at this
 have hS:lv B (U.drop k)=lv B ((U.drop k).take (n+1)):=by
  have:=Z6 B (U.drop k) (n+1) (by simp;omega);rw[Zao,show k+(n+1)=k+1+n by omega,h1]at this;omega
 have h3:=Ztm (B:=B) (n:=n) (S:=(U.drop k).take (n+1)) hn (by simp;omega);rw[Zdm ω,Zdm ω,Zdm ω,Zcj,Zcj,Zcj,<-hS]at h3;have h2:=Zyw (B:=B) hn hVl;have hsl:=ZY (l:=(U.drop k).take (n+1)) (k:=n-2) (ZeR (ZbO hU k) (n+1)) (by simp;omega);have hvl:=ZY (l:=V) (k:=n-2) hV ω;have hA:0<B^(n-2):=Nat.pow_pos ω;have hu2:U.getD (k+n-2) 0<B:=Zs ω hU _;have hvs:V.getD (n-2) 0<B:=Zs ω hV _;have hSW:lv B (U.drop k)<B*lv B V:=by
  rw[Zbh B U k ω];have h4:U.getD k 0<B:=Zs ω hU _;have h5:B*(lv B (U.drop (k+1))+1)<=B*lv B V:=Nat.mul_le_mul_left _ hlt;rw[Nat.mul_add]at h5;omega
 rw[show k+(n-2)=k+n-2 by omega,show k+(n-1)=k+n-1 by omega]at h3;have hVpos:0<lv B V:=ω;have hqS:lv B (U.drop k)/lv B V*lv B V<=lv B (U.drop k):=Nat.div_mul_le_self _ _;refine⟨?_,?_,?_,?_,?_⟩
 .exact ZyA (A:=B^(n-2)) (W:=B) hA hvs hvl rfl (by rw[h3,h2]at hSW;exact hSW)
 .rw[Nat.div_lt_iff_lt_mul hVpos];exact hSW
 .intro d rest hd;rw[hd];refine ZzS (A:=B^(n-2)) (W:=B) (vl:=lv B (V.take (n-2))) (vs:=V.getD (n-2) 0) hA hu2 hsl ?_;rw[<-h3,<-h2];exact hqS
 .intro d rest hd ht;have:=ZyB (A:=B^(n-2)) (W:=B) (vl:=lv B (V.take (n-2))) hsl hd ht;rw[<-h3,<-h2]at this;rw[Nat.div_lt_iff_lt_mul hVpos];exact this
 .intro d rest hd ht hdW;rcases Nat.eq_zero_or_pos d with h0|h0
  .rw[h0];exact Nat.zero_le _
  .have:=Zwz (A:=B^(n-2)) (W:=B) (sl:=lv B (((U.drop k).take (n+1)).take (n-2))) hvl hd ht hdW hvt h0;rw[<-h3,<-h2]at this;have h9:=(Nat.le_div_iff_mul_le hVpos).2 this;generalize lv B (U.drop k)/lv B V=q at h9⊢;omega
theorem Zgn{Z:List Nat}{i:Nat}(hl:Z.length=U.length)(h:∀j,i<=j->Z.getD j 0=U.getD j 0):Z.drop i=U.drop i:=by
 apply ZD (by simp[hl]);intro j _;rw[Zcj,Zcj];exact h _ ω
theorem Zaw{Z:List Nat}{x y:Nat}(hB:0<B)(hl:Z.length=U.length)(hk:k<=U.length)(ht:Z.take k=U.take k)(h:lv B Z+B^k*x=lv B U+B^k*y):lv B (Z.drop k)+x=lv B (U.drop k)+y:=by
 have h1:=Z6 B Z k ω;have h2:=Z6 B U k hk;rw[ht]at h1;rw[h1,h2]at h;have hp:0<B^k:=Nat.pow_pos hB;have:B^k*(lv B (Z.drop k)+x)=B^k*(lv B (U.drop k)+y):=by
  simp only[Nat.mul_add];omega
 exact Nat.eq_of_mul_eq_mul_left hp this
theorem ZrO{Z:List Nat}{d:Nat}(hB:0<B)(hl:Z.length=U.length)(hk:k<=U.length)(hV0:0<lv B V)(ht:Z.take k=U.take k)(hq:lv B (U.drop k)/lv B V<=d)(h:lv B Z+B^k*(d*lv B V)=lv B U):
  d=lv B (U.drop k)/lv B V/\lv B (Z.drop k)<lv B V:=by
 have h1:=Zaw (x:=d*lv B V) (y:=0) hB hl hk ht (by rw[Nat.mul_zero,Nat.add_zero];exact h);have h2:d<=lv B (U.drop k)/lv B V:=(Nat.le_div_iff_mul_le hV0).2 ω;have h3:d=lv B (U.drop k)/lv B V:=ω;refine⟨h3,?_⟩;have h4:=Nat.div_add_mod (lv B (U.drop k)) (lv B V);have h5:=Nat.mod_lt (lv B (U.drop k)) hV0;rw[<-h3,Nat.mul_comm]at h4;omega
theorem Ztc{Z:List Nat}{d:Nat}(hB:1<B)(hZ:∀d∈Z,d<B)(hl:Z.length=U.length)(hk:k+n+1<=U.length)(hVl:lv B V<B^n)
 (hlt:lv B (U.drop (k+1))<lv B V)(ht:Z.take k=U.take k)(ha:∀j,k+n<j->Z.getD j 0=U.getD j 0)(h:lv B Z+B^k*(d*lv B V)=lv B U+B^(k+n+1)):1<=d:=by
 have hz:lv B (U.drop (k+1+n))=0:=by
  have:=Zdi (B:=B) (n:=n) (l:=U.drop (k+1)) (by simp;omega) ω
  rwa[Zao]at this
 have b1:lv B (Z.drop k)<B^(n+1):=by
  have e:=Zgn (i:=k+n+1) hl (fun j hj=>ha j ω);have:=Z6 B (Z.drop k) (n+1) (by simp;omega);rw[Zao,show k+(n+1)=k+n+1 by omega,e,show k+n+1=k+1+n by omega,hz]at this;have h2:=ZY (l:=Z.drop k) (k:=n+1) (ZbO hZ k) (by simp;omega);omega
 rw[show B^(k+n+1)=B^k*B^(n+1) by rw[<-Nat.pow_add];rfl]at h;have h1:=Zaw (x:=d*lv B V) (y:=B^(n+1)) ω hl ω ht h;apply Nat.one_le_iff_ne_zero.2;intro h0;rw[h0,Nat.zero_mul]at h1;omega
theorem Znu{Z Z':List Nat}{d c:Nat}(hB:1<B)(_hU:∀d∈U,d<B)(hZ:∀d∈Z,d<B)(hZ':∀d∈Z',d<B)(hl:Z.length=U.length)(hl':Z'.length=Z.length)(hk:k+n+1<=U.length)(hVl:lv B V<B^n)(hV0:0<lv B V)
 (hlt:lv B (U.drop (k+1))<lv B V)(ht:Z.take k=U.take k)(ht':Z'.take k=Z.take k)(ha:∀j,k+n<j->Z.getD j 0=U.getD j 0)(ha':∀j,k+n<j->Z'.getD j 0=Z.getD j 0)
 (hq:d<=lv B (U.drop k)/lv B V+1)(h:lv B Z+B^k*(d*lv B V)=lv B U+B^(k+n+1))(h':lv B Z'+c*B^(k+n+1)=lv B Z+B^k*lv B V):
  d-1=lv B (U.drop k)/lv B V/\lv B (Z'.drop k)<lv B V/\lv B Z'+B^k*((d-1)*lv B V)=lv B U:=by
 have hz:lv B (U.drop (k+1+n))=0:=by
  have:=Zdi (B:=B) (n:=n) (l:=U.drop (k+1)) (by simp;omega) ω
  rwa[Zao]at this
 have bound:∀T:List Nat,T.length=U.length->(∀d∈T,d<B)->(∀j,k+n+1<=j->T.getD j 0=U.getD j 0)->lv B (T.drop k)<B^(n+1):=by
  intro T hT hTd hTa;have e:=Zgn (i:=k+n+1) hT hTa;have:=Z6 B (T.drop k) (n+1) (by simp;omega);rw[Zao,show k+(n+1)=k+n+1 by omega,e,show k+n+1=k+1+n by omega,hz]at this;have h2:=ZY (l:=T.drop k) (k:=n+1) (ZbO hTd k) (by simp;omega);omega
 have b1:=bound Z hl hZ (fun j hj=>ha j ω);have b2:=bound Z' ω hZ' (fun j hj=>by rw[ha' j ω,ha j ω]);have e:B^(k+n+1)=B^k*B^(n+1):=by rw[<-Nat.pow_add];rfl
 rw[e]at h h';have h1:=Zaw (x:=d*lv B V) (y:=B^(n+1)) ω hl ω ht h;have h2:=Zaw (B:=B) (U:=Z) (Z:=Z') (k:=k) (x:=c*B^(n+1)) (y:=lv B V) ω hl' ω ht' (by rw[show B^k*(c*B^(n+1))=c*(B^k*B^(n+1)) by rw[Nat.mul_left_comm]];exact h');have hd:lv B (U.drop k)<d*lv B V:=ω;have hd2:lv B (U.drop k)/lv B V<d:=by rw[Nat.div_lt_iff_lt_mul hV0];exact hd
 obtain⟨q,hqe⟩:∃q,q=lv B (U.drop k)/lv B V:=⟨_,rfl⟩;rw[<-hqe]at hq hd2⊢;have hdq:d=q+1:=ω;subst hdq;have h4:=Nat.div_add_mod (lv B (U.drop k)) (lv B V);have h5:=Nat.mod_lt (lv B (U.drop k)) hV0;rw[<-hqe,Nat.mul_comm]at h4;rw[Nat.add_mul,Nat.one_mul]at h1;have hc:c=1:=by
  rcases Nat.lt_trichotomy c 1 with g|g|g
  .obtain rfl:c=0:=ω;omega
  .exact g
  .have:2*B^(n+1)<=c*B^(n+1):=Nat.mul_le_mul_right _ g;have hVW:lv B V<B^(n+1):=Nat.lt_of_lt_of_le hVl (Nat.pow_le_pow_right ω ω);omega
 subst hc;rw[Nat.one_mul]at h2;refine⟨ω,ω,?_⟩;rw[Nat.add_sub_cancel];rw[Nat.one_mul,Nat.add_mul,Nat.one_mul,Nat.mul_add]at*;omega
end
theorem Zic{B k q T:Nat}{Q U' U V:List Nat}(hk:k<Q.length)(h:lv B U+lv B (Q.drop (k+1))*B^(k+1)*lv B V=T)(hU:lv B U'+B^k*(q*lv B V)=lv B U):
  lv B U'+lv B ((Q.set k q).drop k)*B^k*lv B V=T:=by
 rw[Zbh B (Q.set k q) k (by simpa using hk)];have e1:(Q.set k q).getD k 0=q:=by simp[List.getD,hk]
 have e2:(Q.set k q).drop (k+1)=Q.drop (k+1):=by
  rw[List.drop_set];simp
 rw[e1,e2,<-h,<-hU,Nat.pow_succ];generalize lv B (Q.drop (k+1))=D;have e3:(q+B*D)*B^k*lv B V=B^k*(q*lv B V)+D*(B^k*B)*lv B V:=by
  rw[Nat.add_mul,Nat.add_mul];congr 1
  .simp only[Nat.mul_left_comm,Nat.mul_assoc]
  .simp only[Nat.mul_comm,Nat.mul_left_comm,Nat.mul_assoc]
 rw[e3];omega
