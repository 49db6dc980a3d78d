/- Joined by wip/bundle.py: XNatA XDig XNatB XNatC XNatD XDig2 XNatE. -/
import Derived.Test.YtnhfpbcbhnfeaaaGreatDoorProg
import Derived.Test.YtnhfpbcbhnfeaaaGreatDoorQGrpB
import Derived.RegionTactic
import Derived.BigRegion
import Derived.Deep.Cut
import Derived.Test.YtnhfpbcbhnfeaaaGreatDoorQShf
import Derived.Deep.DeepCutAuto
set_option maxHeartbeats 1000000
open List (map_cons map_nil range length_cons getD getElem?_eq_getElem mem_map replicate set_comm getElem?_eq_none)
namespace Go.Proofs.YtnhfpbcbhnfeaaaGreatDoor.natA
open Go.RowKit num mem
theorem Zz(s:ByteArray)(w:World):
  Calls Tryz.prog 150 #[.string s] w fun e w'=>e= .returned (.string (enc (nv s)))/\w=w':=by
 go_enter Tryz.func150,Tryz.ntmps150
 go_wp2
 go_loop [0] (fun a=>∃t:ByteArray,a= .string t/\nv t=nv s) (fun a=>strSize a)
 case atStart=>exact⟨s,rfl,rfl⟩
 case round=>
  obtain⟨t,rfl,hn⟩:=hrel;have H:=Lib.hid hn;clear hn;go_wp2
  .go_round
   case rel=>exact⟨_,rfl,(Zyn t ωs ωs).trans H.out⟩
   case measure=>simp[strSize];omega
  .go_ret
   exact⟨Z5 (by rw[<-H.out,Zg2 t ωs ωs]),rfl⟩
  .go_ret
   exact⟨Z5 (by rw[<-H.out,Zs5 t ωs]),rfl⟩
theorem Zmw(s:ByteArray)(k:Nat)(hk:k<s.size)(hs:s.size<=8):
  bits .or .u64 ((nvl (s.data.toList.take k):Int)*256) (IntKind.u64.wrap ((s[k].toNat:Nat):Int))=((nvl (s.data.toList.take (k+1)):Nat):Int):=by
 have h7:=Zd1 s k ω;have hc:=(s[k]).toNat_lt;have:=Zba 8 (nvl (s.data.toList.take k)) (s[k].toNat) (by simpa using hc) ω;rw[Zio s k hk,IntWalk.u64_in _ ω];simpa using this
theorem ZoC(s:ByteArray)(w:World)(hs:s.size<=8):
  Calls Tryz.prog 153 #[.string s] w fun e w'=>e= .returned (.int .u64 (nv s))/\w=w':=by
 go_enter Tryz.func153,Tryz.ntmps153
 go_wp2
 go_loop [3,4,7] (fun n _ i=>∃k:Nat,k<=s.size/\i= .int .i64 k/\n= .int .u64 (nvl (s.data.toList.take k))) (fun _ _ i=>s.size-(intOf i).toNat)
 case atStart=>exact⟨0,Nat.zero_le _,rfl,rfl⟩
 case round=>
  obtain⟨k,hk,rfl,rfl⟩:=hrel;by_cases hlt:k<s.size
  .have h7:=Zd1 s k ω;go_wp2
   go_round
   case rel=>exact⟨k+1,ω,by go_num,by rw[<-Zmw s k hlt hs]⟩
   case measure=>simp[intOf];omega
  .go_wp2
   go_ret
   exact⟨ZaD (congrArg Int.ofNat (ZjN s k ω)),rfl⟩
theorem conv8(w:World)(T:TypeId)(a0 a1 a2 a3 a4 a5 a6 a7:Int):
  (convert 234 9 (.slice (some { block:=w.heap.size,off:=0 }) 8 8)).run Tryz.prog (w.alloc (.cells #[.int .u8 a0,.int .u8 a1,.int .u8 a2,.int .u8 a3,.int .u8 a4,.int .u8 a5,.int .u8 a6,.int .u8 a7] T))=
   .ok (.string (strOfNums [a0,a1,a2,a3,a4,a5,a6,a7])) (w.alloc (.cells #[.int .u8 a0,.int .u8 a1,.int .u8 a2,.int .u8 a3,.int .u8 a4,.int .u8 a5,.int .u8 a6,.int .u8 a7] T)):=by
 refine run_convert_bytes_arg _ _ 5 Tryz.underlying234 Tryz.underlying5 w.heap.size 0 8 8 _ rfl ?_ _ Tryz.underlying9;intro i hi;have:=(Row.alloc_new w T [.int .u8 a0,.int .u8 a1,.int .u8 a2,.int .u8 a3,.int .u8 a4,.int .u8 a5,.int .u8 a6,.int .u8 a7]).cell? (0+i);rw[this]
 match i,hi with
 |0,_=>rfl
 |1,_=>rfl
 |2,_=>rfl
 |3,_=>rfl
 |4,_=>rfl
 |5,_=>rfl
 |6,_=>rfl
 |7,_=>rfl
theorem Zs6(n:Nat)(hn:n<2^64):nv (strOfNums [(n:Int)/72057594037927936%256,(n:Int)/281474976710656%256,(n:Int)/1099511627776%256,(n:Int)/4294967296%256,(n:Int)/16777216%256,(n:Int)/65536%256,(n:Int)/256%256,(n:Int)%256])=n:=by
 have b:∀k:Nat,(UInt8.ofNat (((n:Int)/(k:Int)%256).toNat)).toNat=n/k%256:=fun k=>by
  rw[show ((n:Int)/(k:Int)%256).toNat=n/k%256 by omega];simp
 have b1:(UInt8.ofNat (((n:Int)%256).toNat)).toNat=n%256:=by
  rw[show ((n:Int)%256).toNat=n%256 by omega];simp
 have e1:=b 72057594037927936;have e2:=b 281474976710656;have e3:=b 1099511627776;have e4:=b 4294967296;have e5:=b 16777216;have e6:=b 65536;have e7:=b 256;simp only[Int.cast_ofNat_Int]at e1 e2 e3 e4 e5 e6 e7;simp only[nv,strOfNums_data,map_cons,map_nil,nvl,List.foldl_cons,List.foldl_nil,e1,e2,e3,e4,e5,e6,e7,b1];omega
set_option maxRecDepth 100000 in
theorem ZU(n:Nat)(w:World)(hn:n<2^64):
  Calls Tryz.prog 152 #[.int .u64 n] w fun e w'=>e= .returned (.string (enc n))/\Below w.heap.size w w':=by
 have H:=Lib.hid (Zs6 n hn);clear hn
 go_enter Tryz.func152,Tryz.ntmps152
 go_wp2;refine wp_loop_rounds 9 ?_
 iterate 9 (rw[rounds_succ];go_wp2_with fail)
 rw[conv8];go_wp2_with (first|(go_at_call 150;refine(Zz _ _).mono ?_;rintro e w' ⟨rfl,rfl⟩))
 go_ret
 exact⟨Z5 (by rw[H.out]),(Below.refl _ _).alloc (Nat.le_refl _) _⟩
end Go.Proofs.YtnhfpbcbhnfeaaaGreatDoor.natA
namespace Go.Proofs.YtnhfpbcbhnfeaaaGreatDoor.num
def lv(B:Nat)(l:List Nat):Nat:=l.foldr (fun d a=>d+B*a) 0
def dg(B n N:Nat):List Nat:=(range N).map fun j=>n/B^j%B
theorem Zda(B:Nat):lv B []=0:=rfl
theorem Zai(B d:Nat)(l:List Nat):lv B (d::l)=d+B*lv B l:=rfl
theorem Ziv(B:Nat)(a b:List Nat):lv B (a++b)=lv B a+B^a.length*lv B b:=by
 induction a with
 |nil=>simp[lv]
 |cons d a ih=>
  rw[List.cons_append,Zai,Zai,ih,length_cons,Nat.pow_succ,Nat.mul_add,Nat.add_assoc,Nat.mul_comm (B^a.length) B,Nat.mul_assoc]
theorem ZbP(B:Nat)(a:List Nat)(d:Nat):lv B (a++[d])=lv B a+B^a.length*d:=by
 rw[Ziv,Zai,Zda,Nat.mul_zero,Nat.add_zero]
theorem ZdI{B:Nat}{l:List Nat}(h:∀d∈l,d<B):lv B l<B^l.length:=by
 induction l with
 |nil=>simp[lv]
 |cons d l ih=>
  have h1:=h d (by simp);have h2:=ih fun x hx=>h x (by simp[hx]);rw[Zai,length_cons,Nat.pow_succ,Nat.mul_comm _ B];have:B*(lv B l+1)<=B*B^l.length:=Nat.mul_le_mul_left _ h2;rw[Nat.mul_add]at this;omega
theorem Zw(B:Nat)(l:List Nat)(k:Nat)(h:k<l.length):lv B (l.take (k+1))=lv B (l.take k)+B^k*l.getD k 0:=by
 rw[List.take_succ_eq_append_getElem h,ZbP];simp[getD,gE h,Nat.min_eq_left (Nat.le_of_lt h)]
theorem Zax(B n N:Nat):(dg B n N).length=N:=by simp[dg]
theorem Zhr{B n N j:Nat}(h:j<N):(dg B n N).getD j 0=n/B^j%B:=by
 simp[dg,getD,h]
theorem Zw9{B:Nat}(hB:0<B)(n N:Nat):∀d∈dg B n N,d<B:=by
 intro d hd;simp only[dg,mem_map]at hd;obtain⟨j,_,rfl⟩:=hd;exact Nat.mod_lt _ hB
theorem Zrk(B n N:Nat):dg B n (N+1)=n%B::dg B (n/B) N:=by
 simp only[dg,List.range_succ_eq_map,map_cons,List.map_map,Nat.pow_zero,Nat.div_one];congr 1;apply List.map_congr_left;intro j _;simp only[Function.comp,Nat.pow_succ,Nat.mul_comm _ B,Nat.div_div_eq_div_mul]
theorem ZzP(B n N:Nat):lv B (dg B n N)=n%B^N:=by
 induction N generalizing n with
 |zero=>simp[dg,lv,Nat.mod_one]
 |succ N ih=>
  rw[Zrk,Zai,ih,Nat.pow_succ,Nat.mul_comm _ B,Nat.mod_mul]
theorem ZbQ{B n N:Nat}(h:n<B^N):lv B (dg B n N)=n:=by rw[ZzP,Nat.mod_eq_of_lt h]
theorem Zza{B:Nat}{l:List Nat}(hB:0<B)(h:∀d∈l,d<B):dg B (lv B l) l.length=l:=by
 induction l with
 |nil=>simp[dg]
 |cons d l ih=>
  have h1:=h d (by simp);rw[length_cons,Zrk,Zai];have e1:(d+B*lv B l)%B=d:=by rw[Nat.add_mul_mod_self_left,Nat.mod_eq_of_lt h1]
  have e2:(d+B*lv B l)/B=lv B l:=by rw[Nat.add_mul_div_left _ _ hB,Nat.div_eq_of_lt h1,Nat.zero_add]
  rw[e1,e2,ih fun x hx=>h x (by simp[hx])]
theorem ZaE(B k:Nat):lv B (replicate k 0)=0:=by
 induction k with
 |zero=>rfl
 |succ k ih=>rw[List.replicate_succ,Zai,ih];simp
theorem ZD{a b:List Nat}(hl:a.length=b.length)(h:∀j,j<a.length->a.getD j 0=b.getD j 0):a=b:=by
 apply List.ext_getElem hl;intro j h1 h2;have:=h j h1;simpa[getD,gE h1,gE h2]using this
theorem Zt{N j:Nat}(f:Nat->Nat)(h:j<N):((range N).map f).getD j 0=f j:=by simp[getD,h]
theorem ZbL{N q x:Nat}(f g:Nat->Nat)(hx:q<N->x=g q)(h:∀j,j<N->j≠q->f j=g j):((range N).map f).set q x=(range N).map g:=by
 apply ZD (by simp);intro j hj;have hj':j<N:=by simpa using hj
 rw[Zt g hj'];by_cases e:q=j
 .subst e;simp[getD,hj',hx hj']
 .rw[<-h j hj' (fun e'=>e e'.symm)];simp[getD,e,hj']
theorem ZiS:∀(n i:Nat)(h:i<(digs n).length),((digs n)[(digs n).length-1-i]' ω).toNat=n/256^i%256:=by
 intro n
 induction n using Nat.strongRecOn with
 |ind n ih=>
  intro i h;by_cases h0:n=0
  .subst h0;simp[Z2]at h
  .have e:=Zdr h0;have hl:(digs n).length=(digs (n/256)).length+1:=by rw[e];simp
   cases i with
   |zero=>
    have:(digs n)[(digs n).length-1-0]' ω=UInt8.ofNat (n%256):=by
     simp only[e,List.length_append,length_cons,List.length_nil];simp
    rw[this];simp
   |succ i=>
    have hi:i<(digs (n/256)).length:=ω;have:(digs n)[(digs n).length-1-(i+1)]' ω=(digs (n/256))[(digs (n/256)).length-1-i]' ω:=by
     simp only[e,List.length_append,length_cons,List.length_nil];rw[List.getElem_append_left ω];congr 1;omega
    rw[this,ih (n/256) ω i hi,Nat.pow_succ,Nat.mul_comm _ 256,Nat.div_div_eq_div_mul]
theorem ZcS(n i:Nat)(h:i<(enc n).size):((enc n)[(enc n).size-1-i]' ω).toNat=n/256^i%256:=by
 have hs:=ZlT n;have h':i<(digs n).length:=ω;have:=ZiS n i h';rw[<-this];have e:(enc n)[(enc n).size-1-i]' ω=(enc n).data.toList[(enc n).size-1-i]'(by rw[Zbn];omega):=rfl;rw[e];simp only[Zbn,hs]
def wlen(s n:Nat):Nat:=((enc n).size+(s-1))/s
theorem ZcL{s n:Nat}(hs:0<s):n<(256^s)^wlen s n:=by
 rw[<-Nat.pow_mul,<-Zh];unfold wlen;have:=Nat.div_add_mod ((enc n).size+(s-1)) s;have h2:=Nat.mod_lt ((enc n).size+(s-1)) hs;omega
theorem ZaB{s n k:Nat}(hs:0<s):wlen s n<=k↔n<(256^s)^k:=by
 constructor
 .intro h;exact Nat.lt_of_lt_of_le (ZcL hs) (Nat.pow_le_pow_right (Nat.pow_pos ω) h)
 .intro h;rw[<-Nat.pow_mul,<-Zh]at h;unfold wlen;have:(enc n).size+(s-1)<s*(k+1):=by rw[Nat.mul_add];omega
  have:=(Nat.div_lt_iff_lt_mul (x:=(enc n).size+(s-1)) (y:=k+1) hs).2 (by rw[Nat.mul_comm];exact this);omega
def w32(n:Nat):List Nat:=dg 4294967296 n (wlen 4 n)
theorem Zi(n:Nat):(w32 n).length=wlen 4 n:=Zax _ _ _
theorem Zb1(n:Nat):∀d∈w32 n,d<4294967296:=Zw9 ω _ _
theorem Zbg(n:Nat):lv 4294967296 (w32 n)=n:=ZbQ (by have:=@ZcL 4 n ω;simpa using this)
def prt(s n i N:Nat):List Nat:=(range N).map fun j=>n/(256^s)^j%256^min s (i-s*j)
theorem ZgY(s n N:Nat):prt s n 0 N=replicate N 0:=by
 apply ZD (by simp[prt]);intro j hj;have hj':j<N:=by simpa[prt]using hj
 unfold prt;rw[Zt _ hj'];simp[Nat.mod_one,getD,hj']
theorem ZdB(s n i N:Nat):(prt s n i N).length=N:=by simp[prt]
theorem ZjI{s n i N:Nat}(_hs:0<s)(hn:n<256^i):prt s n i N=dg (256^s) n N:=by
 apply ZD (by simp[prt,dg]);intro j hj;have hj':j<N:=by simpa[prt]using hj
 rw[Zhr hj'];unfold prt;rw[Zt _ hj'];by_cases h:i-s*j<=s
 .rw[Nat.min_eq_right h];have h1:n/(256^s)^j<256^(i-s*j):=by
   rw[<-Nat.pow_mul];by_cases h2:s*j<=i
   .rw[Nat.div_lt_iff_lt_mul (Nat.pow_pos ω),<-Nat.pow_add,show i-s*j+s*j=i by omega];exact hn
   .have:n<256^(s*j):=Nat.lt_of_lt_of_le hn (Nat.pow_le_pow_right ω ω);rw[Nat.div_eq_of_lt this];exact Nat.pow_pos ω
  rw[Nat.mod_eq_of_lt h1,Nat.mod_eq_of_lt (Nat.lt_of_lt_of_le h1 (Nat.pow_le_pow_right ω h))]
 .rw[Nat.min_eq_left ω]
theorem ZgZ{s n i N:Nat}(hs:0<s):
  (prt s n i N).set (i/s) ((prt s n i N).getD (i/s) 0+n/256^i%256*256^(i%s))=prt s n (i+1) N:=by
 have hd:=Nat.div_add_mod i s;have hm:=Nat.mod_lt i hs;refine ZbL _ _ ?_ ?_
 .intro hq;unfold prt;rw[Zt _ hq];rw[show i-s*(i/s)=i%s by omega,show i+1-s*(i/s)=i%s+1 by omega,Nat.min_eq_right ω,Nat.min_eq_right ω,Nat.mod_pow_succ];have:n/(256^s)^(i/s)/256^(i%s)=n/256^i:=by
   rw[Nat.div_div_eq_div_mul,<-Nat.pow_mul,<-Nat.pow_add,hd]
  rw[this,Nat.mul_comm (256^(i%s))]
 .intro j _ hne;show n/(256^s)^j%256^min s (i-s*j)=n/(256^s)^j%256^min s (i+1-s*j);congr 2;rcases Nat.lt_or_gt_of_ne hne with h|h
  .have:s*(j+1)<=s*(i/s):=Nat.mul_le_mul_left _ h;rw[Nat.mul_add]at this;omega
  .have:s*(i/s+1)<=s*j:=Nat.mul_le_mul_left _ h;rw[Nat.mul_add]at this;omega
theorem ZjH{s n i N:Nat}(hs:0<s)(hq:i/s<N):(prt s n i N).getD (i/s) 0<256^(i%s):=by
 have hd:=Nat.div_add_mod i s;have hm:=Nat.mod_lt i hs;unfold prt;rw[Zt _ hq,show i-s*(i/s)=i%s by omega,Nat.min_eq_right ω];exact Nat.mod_lt _ (Nat.pow_pos ω)
def laidB(V L k:Nat):List Nat:=(range L).map fun p=>if L-k<=p then V/256^(L-1-p)%256 else 0
theorem Zbi(V L k:Nat):(laidB V L k).length=L:=by simp[laidB]
theorem Zm4(V L:Nat):laidB V L 0=replicate L 0:=by
 apply ZD (by simp[laidB]);intro j hj;have hj':j<L:=by simpa[laidB]using hj
 unfold laidB;rw[Zt _ hj',if_neg ω];simp[getD,hj']
theorem Zdd{V L k:Nat}(h:k<L):(laidB V L k).set (L-1-k) (V/256^k%256)=laidB V L (k+1):=by
 refine ZbL _ _ ?_ ?_
 .intro hq;rw[if_pos ω,show L-1-(L-1-k)=k by omega]
 .intro j hj hne;by_cases h1:L-k<=j
  .rw[if_pos h1,if_pos ω]
  .rw[if_neg h1,if_neg ω]
theorem Zm5{V L k p:Nat}(hp:p+4+4*k=L):
  ((((laidB V L (4*k)).set p (V/256^(4*k+3)%256)).set (p+1) (V/256^(4*k+2)%256)).set (p+2) (V/256^(4*k+1)%256)).set (p+3) (V/256^(4*k)%256)=laidB V L (4*(k+1)):=by
 rw[set_comm _ _ (show p≠p+1 by omega),set_comm _ _ (show p≠p+2 by omega),set_comm _ _ (show p≠p+3 by omega),
  set_comm _ _ (show p+1≠p+2 by omega),set_comm _ _ (show p+1≠p+3 by omega),set_comm _ _ (show p+2≠p+3 by omega)]
 rw[show p+3=L-1-4*k by omega,Zdd ω,show p+2=L-1-(4*k+1) by omega,Zdd ω,
  show p+1=L-1-(4*k+1+1) by omega,Zdd ω,show p=L-1-(4*k+1+1+1) by omega,Zdd ω]
 rfl
theorem Zap{W s V k t:Nat}(hW:W=256^s)(ht:t<s):V/W^k%W/256^t%256=V/256^(s*k+t)%256:=by
 subst hW;rw[<-Nat.pow_mul,Nat.pow_add,<-Nat.div_div_eq_div_mul];generalize V/256^(s*k)=m;have e:256^s=256^t*256^(s-t):=by rw[<-Nat.pow_add];congr 1;omega
 rw[e,Nat.mod_mul_right_div_self];obtain⟨r,hr⟩:∃r,s-t=r+1:=⟨s-t-1,ω⟩;rw[hr,Nat.pow_succ,Nat.mod_mul_left_mod]
theorem Zga{B:Nat}{l:List Nat}(hB:0<B)(h:∀d∈l,d<B){k:Nat}(hk:k<l.length):l.getD k 0=lv B l/B^k%B:=by
 have e:=Zhr (B:=B) (n:=lv B l) hk
 rwa[Zza hB h]at e
theorem ZmQ(l:List Nat)(h:∀d∈l,d<256):nvl (l.map fun d=>UInt8.ofNat d)=lv 256 l.reverse:=by
 have e:∀l:List Nat,(∀d∈l,d<256)->nvl (l.reverse.map fun d=>UInt8.ofNat d)=lv 256 l:=by
  intro l
  induction l with
  |nil=>intro _;rfl
  |cons d l ih=>
   intro h;have hd:=h d (by simp);rw[List.reverse_cons,List.map_append,map_cons,map_nil,Zc9,ih fun x hx=>h x (by simp[hx]),Zai];have:(UInt8.ofNat d).toNat=d:=by simp;omega
   omega
 have:=e l.reverse (fun d hd=>h d (by simpa using hd))
 rwa[List.reverse_reverse]at this
theorem Zqb(V L:Nat):(laidB V L L).reverse=dg 256 V L:=by
 apply ZD (by simp[laidB,dg]);intro j hj;have hj':j<L:=by simpa[laidB]using hj
 rw[Zhr hj'];simp only[laidB,getD,List.getElem?_reverse (show j<((range L).map _).length by simpa using hj')];simp[show L-1-j<L by omega,show L-1-(L-1-j)=j by omega]
theorem Zin{V L:Nat}(h:V<256^L):nvl ((laidB V L L).map fun d=>UInt8.ofNat d)=V:=by
 rw[ZmQ,Zqb,ZbQ h];intro d hd;simp only[laidB,mem_map]at hd;obtain⟨j,_,rfl⟩:=hd;split
 .exact Nat.mod_lt _ ω
 .omega
theorem ZS{Z X:List Nat}{k n:Nat}(hZ:Z.length=k)(hk:k<X.length):(Z++X.drop k).set k n=(Z++[n])++X.drop (k+1):=by
 rw[List.set_append_right _ _ ω,List.append_assoc];congr 1;rw[show k-Z.length=0 by omega,<-List.getElem_cons_drop hk];rfl
theorem Zah{Z X:List Nat}{k:Nat}(hZ:Z.length=k):(Z++X.drop k).getD k 0=X.getD k 0:=by
 simp[getD,hZ,List.getElem?_append_right]
theorem ZE{B:Nat}{Z:List Nat}{n:Nat}(h:∀d∈Z,d<B)(hn:n<B):∀d∈Z++[n],d<B:=by
 intro d hd;rcases List.mem_append.1 hd with h1|h1
 .exact h d h1
 .rw[List.mem_singleton]at h1;rw[h1];exact hn
theorem Zg(B:Nat)(l:List Nat){k:Nat}(h:l.length<=k):lv B (l.take k)=lv B l:=by rw[List.take_of_length_le h]
theorem Zs{B:Nat}{l:List Nat}(hB:0<B)(h:∀d∈l,d<B)(k:Nat):l.getD k 0<B:=by
 by_cases hk:k<l.length
 .simp only[getD,gE hk,Option.getD_some];exact h _ (List.getElem_mem hk)
 .simp only[getD,getElem?_eq_none (Nat.le_of_not_lt hk),Option.getD_none];exact hB
theorem Zp(B:Nat)(l:List Nat)(k:Nat):lv B (l.take (k+1))=lv B (l.take k)+B^k*l.getD k 0:=by
 by_cases h:k<l.length
 .exact Zw B l k h
 .rw[Zg B l ω,Zg B l ω];simp[getD,getElem?_eq_none (Nat.le_of_not_lt h)]
theorem ZbC{B:Nat}{Z X Y:List Nat}{k c n C:Nat}(hZ:Z.length=k)(h:lv B Z+lv B (Y.take k)=lv B (X.take k)+c*B^k)(hs:n+Y.getD k 0+c=X.getD k 0+C*B):
  lv B (Z++[n])+lv B (Y.take (k+1))=lv B (X.take (k+1))+C*B^(k+1):=by
 rw[ZbP,Zp,Zp,hZ,Nat.pow_succ];have:=congrArg (fun v=>B^k*v) hs;simp only[Nat.mul_add]at this;rw[show C*(B^k*B)=B^k*(C*B) by rw[Nat.mul_left_comm],Nat.mul_comm c]at*;omega
theorem Zay{B:Nat}{Z X Y:List Nat}{k c n C:Nat}(hZ:Z.length=k)(h:lv B Z+c*B^k=lv B (X.take k)+lv B (Y.take k))(hs:n+C*B=c+X.getD k 0+Y.getD k 0):
  lv B (Z++[n])+C*B^(k+1)=lv B (X.take (k+1))+lv B (Y.take (k+1)):=by
 rw[ZbP,Zp,Zp,hZ,Nat.pow_succ];have:=congrArg (fun v=>B^k*v) hs;simp only[Nat.mul_add]at this;rw[show C*(B^k*B)=B^k*(C*B) by rw[Nat.mul_left_comm],Nat.mul_comm c]at*;omega
end Go.Proofs.YtnhfpbcbhnfeaaaGreatDoor.num
namespace Go.Proofs.YtnhfpbcbhnfeaaaGreatDoor.natB
open Go.RowKit num mem natA
theorem info151:(Tryz.prog.info? 151).map (fun i=>(i.zero,i.size,i.bytes))=some (some (.int .u32 0),1,4):=ωr
theorem info5:(Tryz.prog.info? 5).map (fun i=>(i.zero,i.size,i.bytes))=some (some (.int .u8 0),1,1):=ωr
theorem Zcp(r:Nat):(2:Nat)^(r*8)=256^r:=by
 rw[Nat.mul_comm,Nat.pow_mul]
theorem Zih{r:Nat}(h:r<=3):(256:Nat)^r<=16777216:=by
 have:(256:Nat)^r<=256^3:=Nat.pow_le_pow_right ω h;simpa using this
theorem Zmf{n k p x:Nat}(hk:k<(enc n).size)(hp:((enc n).size:Int)-1-(k:Int)=(p:Int))(hp2:p<(enc n).size)(hx:x<256^(k%4)):
  bits .or .u32 (x:Int) (((enc n)[p].toNat:Int)%4294967296*2^(k%4*8)%4294967296)=((x+n/256^k%256*256^(k%4):Nat):Int):=by
 obtain rfl:p=(enc n).size-1-k:=ω;have e:=ZcS n k hk;rw[e];have hc:n/256^k%256<256:=Nat.mod_lt _ ω;generalize n/256^k%256=c at hc;have hr:k%4<=3:=ω;generalize k%4=r at hx hr;have hp3:=Zih hr;have e2:((c:Int)%4294967296*2^(r*8)%4294967296)=((c*256^r:Nat):Int):=by
  have h1:(c:Int)%4294967296=(c:Int):=ω;have h2:((2:Int)^(r*8))=((256^r:Nat):Int):=by rw[<-Zcp];simp
  have h3:c*256^r<4294967296:=by
   have:c*256^r<=255*16777216:=Nat.mul_le_mul ω hp3;omega
  rw[h1,h2,<-Int.natCast_mul];omega
 rw[e2];have hx':x<2^(r*8):=by rw[Zcp];exact hx
 have h3:c*256^r<=255*16777216:=Nat.mul_le_mul ω hp3;rw[u32_or_nat _ _ ω ω,Nat.or_comm];have:=ZbM (r*8) c x hx';rw[Zcp]at this;rw[this,Nat.add_comm]
theorem ZaL(s:ByteArray)(w:World)(hs:s.size<=70368744177664):
  Calls Tryz.prog 154 #[.string s] w fun e w'=>∃b,e= .returned (.slice (some ⟨b,0,none⟩) (wlen 4 (nv s)) (wlen 4 (nv s)))/\Row w' b 151 (nums .u32 (w32 (nv s)))/\w.heap.size<=b/\Below w.heap.size w w':=by
 have hz:=Nat.le_trans (ZN s) hs;obtain⟨n,hn⟩:∃n,n=nv s:=⟨_,rfl⟩;rw[<-hn]at hz⊢;have Hn:=Lib.hid hn;clear hn;have hw:wlen 4 n<=70368744177664:=by unfold wlen;omega
 go_enter Tryz.func154,Tryz.ntmps154
 go_wp2_with (first|(go_at_call 150;refine(Zz _ _).mono ?_;rintro e w' ⟨rfl,rfl⟩;rw[<-Hn.out])|(at_make;refine Zu _ rfl _ _ _ rfl 151 _ 4 Tryz.underlying49 info151 rfl _ _ _ _ (wlen 4 n) rfl rfl (by unfold wlen;omega) (by unfold wlen;omega) ω ω ?_));intro w1 hR hg hsz;have hB0:Below w.heap.size w w1:=(Below.refl _ _).grown hg (Nat.le_refl _) (by simp);have hR0:Row w1 w.heap.size 151 (nums .u32 (prt 4 n 0 (wlen 4 n))):=by rw[ZgY];simpa[nums]using hR
 clear hR hg;go_wp2
 go_loopw [15] (fun i wr=>∃k:Nat,k<=(enc n).size/\i= .int .i64 k/\Row wr w.heap.size 151 (nums .u32 (prt 4 n k (wlen 4 n)))/\Below w.heap.size w wr) (fun i _=>(enc n).size-(intOf i).toNat)
 case atStart=>exact⟨0,Nat.zero_le _,rfl,hR0,hB0⟩
 case round=>
  obtain⟨k,hk,rfl,hRk,hBk⟩:=hrel;clear hR0 hB0;by_cases hlt:k<(enc n).size
  .have hq:k/4<wlen 4 n:=by unfold wlen;omega
   obtain⟨x,hx⟩:∃x:Nat,x=(prt 4 n k (wlen 4 n)).getD (k/4) 0:=⟨_,rfl⟩;have hc:=hRk.int (i:=k/4) (by rw[ZdB];exact hq);rw[<-hx]at hc;have hf:=hRk.frozen (k/4);have hxb:x<256^(k%4):=by rw[hx];exact ZjH ω hq
   have Hxb:=Lib.hid hxb;have Hx:=Lib.hid hx;clear hx hxb;obtain⟨p,hp⟩:∃p:Nat,((enc n).size:Int)-1-(k:Int)=(p:Int):=⟨(enc n).size-1-k,ω⟩;have hp2:p<(enc n).size:=ω;have Hp:=Lib.hid hp;clear hp;go_wp2;rw[Hp.out]
   go_region
   have hR':=hRk.int_set (k/4) (x+n/256^k%256*256^(k%4));rw[Hx.out,ZgZ ω]at hR';have HV:=Lib.hid (Zmf hlt Hp.out hp2 Hxb.out);go_wp2
   go_roundw
   case rel=>exact⟨k+1,ω,by go_num,by rw[HV.out,Hx.out];exact hR',(hBk.setCell (Nat.le_refl _) _).drew⟩
   case measure=>simp[intOf];omega
  .go_wp2
   go_ret
   refine⟨w.heap.size,rfl,?_,Nat.le_refl _,hBk⟩;have hk':k=(enc n).size:=ω;have hn':n<256^k:=by rw[hk',<-Zh];exact Nat.le_refl _
   rw[ZjI ω hn']at hRk;exact hRk
theorem Zfm{w:World}{b T:Nat}{l:List Nat}(h:Row w b T (nums .u8 l))(hl:∀d∈l,d<256)(N:Nat)(hN:l.length=N):
  (convert 234 9 (.slice (some ⟨b,0,none⟩) N N)).run Tryz.prog w= .ok (.string ⟨(l.map fun d=>UInt8.ofNat d).toArray⟩) w:=by
 have:=run_convert_bytes_back (P:=Tryz.prog) w 234 9 5 ⟨b,0,none⟩ N (l.map fun d=>UInt8.ofNat d) Tryz.underlying234 Tryz.underlying5 Tryz.underlying9 (fun j hj=>by
  have hj':j<l.length:=by simpa using hj
  have e:=h.int hj';rw[Addr.add_lit,Nat.zero_add,e];have:l[j]<256:=hl _ (List.getElem_mem hj');simp[getD,gE hj'];omega)
 simpa[hN]using this
theorem ZkK(b cap pc:Nat)(l:List Nat)(w:World)(hR:Pre w b 151 pc (nums .u32 l))(hl:∀d∈l,d<4294967296)(hs:l.length<=70368744177664):
  Calls Tryz.prog 155 #[.slice (some ⟨b,0,none⟩) l.length cap] w fun e w'=>e= .returned (.string (enc (lv 4294967296 l)))/\Below w.heap.size w w':=by
 have hb:=hR.lt;have HL:=Lib.hid hl;clear hl;obtain⟨V,hV⟩:∃V,V=lv 4294967296 l:=⟨_,rfl⟩;rw[<-hV];have HV:=Lib.hid hV;clear hV
 go_enter Tryz.func155,Tryz.ntmps155
 go_wp2_with (first|(at_make;refine Zu _ rfl _ _ _ rfl 5 _ 1 Tryz.underlying234 info5 rfl _ _ _ _ (4*l.length) rfl rfl ω ω ω ω ?_));intro w1 hR1 hg hsz;have hB0:Below w.heap.size w w1:=(Below.refl _ _).grown hg (Nat.le_refl _) (by simp);have hR0:Row w1 w.heap.size 5 (nums .u8 (laidB V (4*l.length) (4*0))):=by rw[Nat.mul_zero,Zm4];simpa[nums]using hR1
 clear hR1 hg;go_wp2
 go_loopw [13] (fun i wr=>∃k:Nat,k<=l.length/\i= .int .i64 k/\Row wr w.heap.size 5 (nums .u8 (laidB V (4*l.length) (4*k)))/\Below w.heap.size w wr) (fun i _=>l.length-(intOf i).toNat)
 case atStart=>exact⟨0,Nat.zero_le _,rfl,hR0,hB0⟩
 case round=>
  obtain⟨k,hk,rfl,hRk,hBk⟩:=hrel;clear hR0 hB0;by_cases hlt:k<l.length
  .obtain⟨x,hx⟩:∃x:Nat,x=l.getD k 0:=⟨_,rfl⟩;have hc:=(hR.below hBk hb).int hlt;rw[<-hx]at hc;have Hx:=Lib.hid hx;clear hx;obtain⟨p,hp⟩:∃p:Nat,(4:Int)*((l.length:Int)-1-(k:Int))=(p:Int):=⟨4*(l.length-1-k),ω⟩;have hp2:p+3<4*l.length:=ω;have Hp:=Lib.hid hp;clear hp;have ll:=Zbi V (4*l.length) (4*k);have c0:=hRk.int (i:=p) ω;have c1:=hRk.int (i:=p+1) ω;have c2:=hRk.int (i:=p+2) ω;have c3:=hRk.int (i:=p+3) ω;have f0:=hRk.frozen p;have f1:=hRk.frozen (p+1);have f2:=hRk.frozen (p+2);have f3:=hRk.frozen (p+3);clear ll
   go_upto_region 6 with (fail)
   rw[Hp.out];go_wp2
   go_roundw
   case rel=>
    refine⟨k+1,ω,by go_num,?_,(((hBk.setCell (Nat.le_refl _) _).setCell (Nat.le_refl _) _).setCell (Nat.le_refl _) _).setCell (Nat.le_refl _) _⟩;have hp4:p+4+4*k=4*l.length:=by have:=Hp.out;omega
    have hx':x=V/4294967296^k%4294967296:=by rw[Hx.out,HV.out];exact Zga ω HL.out hlt
    have b3:=Zap (W:=4294967296) (s:=4) (V:=V) (k:=k) (t:=3) rfl ω;have b2:=Zap (W:=4294967296) (s:=4) (V:=V) (k:=k) (t:=2) rfl ω;have b1:=Zap (W:=4294967296) (s:=4) (V:=V) (k:=k) (t:=1) rfl ω;have b0:=Zap (W:=4294967296) (s:=4) (V:=V) (k:=k) (t:=0) rfl ω;rw[<-hx']at b0 b1 b2 b3;have hR':=(((hRk.int_set p (x/256^3%256)).int_set (p+1) (x/256^2%256)).int_set (p+2) (x/256^1%256)).int_set (p+3) (x/256^0%256);have h4:((((laidB V (4*l.length) (4*k)).set p (x/256^3%256)).set (p+1) (x/256^2%256)).set (p+2) (x/256^1%256)).set (p+3) (x/256^0%256)=laidB V (4*l.length) (4*(k+1)):=by
     rw[b0,b1,b2,b3];exact Zm5 hp4
    rw[h4]at hR';simpa using hR'
   case measure=>simp[intOf];omega
  .have hV':V<256^(4*l.length):=by
    rw[HV.out,Nat.pow_mul];exact ZdI HL.out
   have hk':k=l.length:=ω;rw[hk']at hRk;have hcv:=Zfm hRk (fun d hd=>by
    simp only[laidB,mem_map]at hd;obtain⟨j,_,rfl⟩:=hd;split
    .exact Nat.mod_lt _ ω
    .omega) (4*l.length) (Zbi _ _ _)
   clear hk';have Hfin:=Lib.hid (show nv ⟨((laidB V (4*l.length) (4*l.length)).map fun d=>UInt8.ofNat d).toArray⟩=V from Zin hV');clear hV';go_wp2_with (first|(go_at_call 150;refine(Zz _ _).mono ?_;rintro e w' ⟨rfl,rfl⟩))
   go_ret
   exact⟨Z5 (congrArg enc Hfin.out),hBk⟩
theorem Zc0(b cap:Nat)(l:List Nat)(w:World)(hR:Row w b 151 (nums .u32 l))(hl:∀d∈l,d<4294967296)(hs:l.length<=70368744177664):
  Calls Tryz.prog 155 #[.slice (some ⟨b,0,none⟩) l.length cap] w fun e w'=>e= .returned (.string (enc (lv 4294967296 l)))/\Below w.heap.size w w':=
 ZkK b cap _ l w hR.pre hl hs
end Go.Proofs.YtnhfpbcbhnfeaaaGreatDoor.natB
namespace Go.Proofs.YtnhfpbcbhnfeaaaGreatDoor.natC
open Go.RowKit num mem natA natB
theorem ZW(n:Nat)(w:World)(hn:n<2^64):
  Calls Tryz.prog 153 #[.string (enc n)] w fun e w'=>e= .returned (.int .u64 n)/\w=w':=by
 have h:=ZoC (enc n) w (by rw[Zh];simpa using hn);rw[Ze]at h;exact h
theorem Zr4(n:Int)(w:World)(h:n<=9223372036854775807):
  Calls Tryz.prog 98 #[.int .i64 n] w fun e w'=>e= .returned (.string (enc n.toNat))/\Below w.heap.size w w':=by
 by_cases h1:n<1
 .have H:=Lib.hid (show enc n.toNat=⟨#[]⟩ by rw[show n.toNat=0 by omega,ZV])
  go_enter Tryz.func98,Tryz.ntmps98
  go_wp2
  go_ret
  exact⟨Z5 H.out.symm,Below.refl _ _⟩
 .obtain⟨m,rfl⟩:∃m:Nat,n=m:=⟨n.toNat,ω⟩;have hm:m<2^64:=ω;rw[Int.toNat_natCast];have Hm:=Lib.hid hm;clear hm
  go_enter Tryz.func98,Tryz.ntmps98
  go_wp2_with (first|(go_at_call 152;refine(ZU _ _ Hm.out).mono ?_;rintro e w' ⟨rfl,hb⟩))
  go_ret
  exact⟨rfl,hb⟩
def intV(n:Nat):Int:=if n<=9223372036854775807 then n else 0
def intE(n:Nat):Int:=if n<=9223372036854775807 then 0 else 2
theorem ret2{k j:IntKind}{a b c d:Int}(h:a=b)(h':c=d):Ending.returned (.tuple #[.int k a,.int j c])= .returned (.tuple #[.int k b,.int j d]):=by rw[h,h']
theorem Zxz(a:ByteArray)(w:World):
  Calls Tryz.prog 97 #[.string a] w fun e w'=>e= .returned (.tuple #[.int .i64 (intV (nv a)),.int .i64 (intE (nv a))])/\w=w':=by
 generalize hn:nv a=n;have Hn:=Lib.hid hn;clear hn;by_cases h8:8<(enc n).size
 .have hbig:¬n<=9223372036854775807:=by
   intro h;have:(enc n).size<=8:=by
     rw[Zh];have:(256:Nat)^8=18446744073709551616:=ωd;omega
   omega
  have HV:=Lib.hid (show intV n=0 by unfold intV;rw[if_neg hbig]);have HE:=Lib.hid (show intE n=2 by unfold intE;rw[if_neg hbig]);clear hbig
  go_enter Tryz.func97,Tryz.ntmps97
  go_wp2_with (first|(go_at_call 150;refine(Zz _ _).mono ?_;rintro e w' ⟨rfl,rfl⟩;rw[Hn.out]))
  go_ret2
  exact⟨ret2 HV.out.symm HE.out.symm,rfl⟩
 .have h64:n<2^64:=by
   have:=(@Zh n 8).1 ω;simpa using this
  have H64:=Lib.hid h64;by_cases hle:n<=9223372036854775807
  .have HV:=Lib.hid (show intV n=n by unfold intV;rw[if_pos hle]);have HE:=Lib.hid (show intE n=0 by unfold intE;rw[if_pos hle]);have hd:decide ((9223372036854775807:Int)<(n:Int))=false:=by simp;omega
   clear h64
   go_enter Tryz.func97,Tryz.ntmps97
   go_wp2_with (first|(go_at_call 150;refine(Zz _ _).mono ?_;rintro e w' ⟨rfl,rfl⟩;rw[Hn.out])|(go_at_call 153;refine(ZW _ _ H64.out).mono ?_;rintro e w' ⟨rfl,rfl⟩))
   go_ret2
   exact⟨ret2 HV.out.symm HE.out.symm,rfl⟩
  .have HV:=Lib.hid (show intV n=0 by unfold intV;rw[if_neg hle]);have HE:=Lib.hid (show intE n=2 by unfold intE;rw[if_neg hle]);have hd:decide ((9223372036854775807:Int)<(n:Int))=true:=by simp;omega
   clear h64 hle
   go_enter Tryz.func97,Tryz.ntmps97
   go_wp2_with (first|(go_at_call 150;refine(Zz _ _).mono ?_;rintro e w' ⟨rfl,rfl⟩;rw[Hn.out])|(go_at_call 153;refine(ZW _ _ H64.out).mono ?_;rintro e w' ⟨rfl,rfl⟩))
   go_ret2
   exact⟨ret2 HV.out.symm HE.out.symm,rfl⟩
def cmpN(a b:Nat):Int:=if a<b then -1 else if b<a then 1 else 0
theorem ZiX:∀(a b:List UInt8),a.length=b.length->Lib.compareBytes a b=cmpN (nvl a) (nvl b)
 | [], [],_=>by simp[Lib.compareBytes,cmpN]
 | [],_::_,h=>by simp at h
 |_::_, [],h=>by simp at h
 |x::a,y::b,h=>by
  have hl:a.length=b.length:=by simpa using h
  have ih:=ZiX a b hl;have la:=ZfW a;have lb:=ZfW b;rw[hl]at la;unfold Lib.compareBytes;rw[Zcq,Zcq,hl,ih];have key:∀p q:Nat,p<q->p*256^b.length+256^b.length<=q*256^b.length:=by
   intro p q hpq;have:=Nat.mul_le_mul_right (256^b.length) hpq
   rwa[Nat.succ_mul]at this
  have hx:x<y↔x.toNat<y.toNat:=UInt8.lt_iff_toNat_lt;have hy:y<x↔y.toNat<x.toNat:=UInt8.lt_iff_toNat_lt;by_cases h1:x<y
  .rw[if_pos h1];have:=key _ _ (hx.1 h1);unfold cmpN;rw[if_pos ω]
  .by_cases h2:y<x
   .rw[if_neg h1,if_pos h2];have:=key _ _ (hy.1 h2);unfold cmpN;rw[if_neg ω,if_pos ω]
   .rw[if_neg h1,if_neg h2];have e:x.toNat=y.toNat:=by
     have:=mt hx.2 h1;have:=mt hy.2 h2;omega
    rw[e];unfold cmpN;generalize y.toNat*256^b.length=z;by_cases h3:nvl a<nvl b
    .rw[if_pos h3,if_pos ω]
    .rw[if_neg h3,if_neg (show ¬z+nvl a<z+nvl b by omega)];by_cases h4:nvl b<nvl a
     .rw[if_pos h4,if_pos ω]
     .rw[if_neg h4,if_neg (show ¬z+nvl b<z+nvl a by omega)]
theorem ZoB{n m:Nat}(h:(enc n).size<(enc m).size):n<m:=by
 apply Nat.lt_of_not_le;intro h2;have:=ZaJ h2;omega
theorem ZdV(a b:ByteArray)(w:World):
  Calls Tryz.prog 92 #[.string a,.string b] w fun e w'=>e= .returned (.int .i64 (cmpN (nv a) (nv b)))/\w=w':=by
 obtain⟨n,hn⟩:∃n,nv a=n:=⟨_,rfl⟩;obtain⟨m,hm⟩:∃m,nv b=m:=⟨_,rfl⟩;rw[hn,hm];have Hn:=Lib.hid hn;have Hm:=Lib.hid hm;clear hm hn;by_cases h1:(enc n).size<(enc m).size
 .have H:=Lib.hid (show cmpN n m=-1 by unfold cmpN;rw[if_pos (ZoB h1)])
  go_enter Tryz.func92,Tryz.ntmps92
  go_wp2_with (first|(go_at_call 150;refine(Zz _ _).mono ?_;rintro e w' ⟨rfl,rfl⟩;first|rw[Hn.out]|rw[Hm.out]))
  go_ret
  exact⟨ZaD H.out.symm,rfl⟩
 by_cases h2:(enc m).size<(enc n).size
 .have H:=Lib.hid (show cmpN n m=1 by have:=ZoB h2;unfold cmpN;rw[if_neg ω,if_pos this])
  go_enter Tryz.func92,Tryz.ntmps92
  go_wp2_with (first|(go_at_call 150;refine(Zz _ _).mono ?_;rintro e w' ⟨rfl,rfl⟩;first|rw[Hn.out]|rw[Hm.out]))
  go_ret
  exact⟨ZaD H.out.symm,rfl⟩
 .have H:=Lib.hid (show Lib.compareBytes (enc n).data.toList (enc m).data.toList=cmpN n m by
   rw[ZiX _ _ (by rw[ba_length,ba_length];omega)];show cmpN (nv (enc n)) (nv (enc m))=_;rw[Ze,Ze])
  go_enter Tryz.func92,Tryz.ntmps92
  go_wp2_with (first|(go_at_call 150;refine(Zz _ _).mono ?_;rintro e w' ⟨rfl,rfl⟩;first|rw[Hn.out]|rw[Hm.out])|(go_at_call 151;refine(Tryz.strings_Compare _ _ _).mono ?_;rintro e w' ⟨rfl,rfl⟩))
  go_ret
  exact⟨ZaD H.out,rfl⟩
theorem Zom{x y c:Nat}(hx:x<4294967296)(hy:y<4294967296)(hc:c<=1):∃n C:Nat,
  IntKind.u64.wrap (IntKind.u64.wrap (IntKind.u64.wrap (x:Int)-(c:Int))-IntKind.u64.wrap (y:Int))%4294967296=(n:Int)/\
  IntKind.u64.wrap (IntKind.u64.wrap (IntKind.u64.wrap (x:Int)-(c:Int))-IntKind.u64.wrap (y:Int))/9223372036854775808=(C:Int)/\
  n<4294967296/\C<=1/\n+y+c=x+C*4294967296:=by
 simp only[IntKind.wrap_u64];by_cases h:y+c<=x
 .refine⟨x-c-y,0,?_,?_,?_,?_,?_⟩<;>omega
 .refine⟨x+4294967296-c-y,1,?_,?_,?_,?_,?_⟩<;>omega
theorem Zon{x c:Nat}(hx:x<4294967296)(hc:c<=1):∃n C:Nat,
  IntKind.u64.wrap (IntKind.u64.wrap (x:Int)-(c:Int))%4294967296=(n:Int)/\
  IntKind.u64.wrap (IntKind.u64.wrap (x:Int)-(c:Int))/9223372036854775808=(C:Int)/\
  n<4294967296/\C<=1/\n+0+c=x+C*4294967296:=by
 simp only[IntKind.wrap_u64];by_cases h:c<=x
 .refine⟨x-c,0,?_,?_,?_,?_,?_⟩<;>omega
 .refine⟨x+4294967296-c,1,?_,?_,?_,?_,?_⟩<;>omega
theorem ZA{w w':World}{b:Nat}(h:w.grownBy w' (some b))(i:Nat)(v:Value):w.grownBy (w'.setCell ⟨b,i,none⟩ v) (some b):=
 ⟨h.os,h.tape,h.output,by simpa[World.setCell]using h.size,fun k hk hne=>by
  rw[Below.heap_setCell _ _ _ _ (fun e=>hne (by rw[e]))];exact h.block k hk hne⟩
theorem Z4{w w':World}(h:w'.heap.size=w.heap.size)(a:Addr)(v:Value):(w'.setCell a v).heap.size=w.heap.size:=by
 simpa[World.setCell]using h
theorem Ztr(bx cx by' cy:Nat)(X Y:List Nat)(w:World)(hX:Row w bx 151 (nums .u32 X))(hY:Row w by' 151 (nums .u32 Y))(hne:bx≠by')
 (lX:∀d∈X,d<4294967296)(lY:∀d∈Y,d<4294967296)(hlen:Y.length<=X.length)(hmax:X.length<=70368744177664)(hle:lv 4294967296 Y<=lv 4294967296 X):
  Calls Tryz.prog 212 #[.slice (some ⟨bx,0,none⟩) X.length cx,.slice (some ⟨by',0,none⟩) Y.length cy] w fun e w'=>e= .returned (.tuple #[])/\
   ∃Z:List Nat,Z.length=X.length/\(∀d∈Z,d<4294967296)/\lv 4294967296 Z+lv 4294967296 Y=lv 4294967296 X/\Row w' bx 151 (nums .u32 Z)/\w.grownBy w' (some bx)/\w'.heap.size=w.heap.size:=by
 have HX:=Lib.hid lX;have HY:=Lib.hid lY;have Hle:=Lib.hid hle;clear lX lY hle;have hbx:=hX.lt;have hby:=hY.lt
 go_enter Tryz.func212,Tryz.ntmps212
 go_wp2
 go_loopw [4,10] (fun br i wr=>∃(k c:Nat)(Z:List Nat),k<=X.length/\i= .int .i64 k/\br= .int .u64 c/\c<=1/\Hid (Z.length=k)/\Hid (∀d∈Z,d<4294967296)/\
   Hid (lv 4294967296 Z+lv 4294967296 (Y.take k)=lv 4294967296 (X.take k)+c*4294967296^k)/\Row wr bx 151 (nums .u32 (Z++X.drop k))/\w.grownBy wr (some bx)/\Hid (wr.heap.size=w.heap.size)) (fun _ i _=>X.length-(intOf i).toNat)
 case atStart=>exact⟨0,0, [],Nat.zero_le _,rfl,rfl,ω,rfl,(by intro d hd;cases hd),by simp[Hid,lv],by simpa using hX,World.grownBy.refl _ _,rfl⟩
 case round=>
  obtain⟨k,c,Z,hk,rfl,rfl,hc1,hZl,hZ,hlv,hRk,hgk,hsz⟩:=hrel;by_cases hlt:k<X.length
  .obtain⟨x,hx⟩:∃x:Nat,x=X.getD k 0:=⟨_,rfl⟩;have hxl:x<4294967296:=by rw[hx];exact Zs ω HX.out k
   have hcx:=hRk.int (i:=k) (by have:=hZl.out;simp;omega);rw[Zah hZl.out,<-hx]at hcx;have hfx:=hRk.frozen k;have Hx:=Lib.hid hx;clear hx;by_cases hy:k<Y.length
   .obtain⟨y,hy'⟩:∃y:Nat,y=Y.getD k 0:=⟨_,rfl⟩;have hyl:y<4294967296:=by rw[hy'];exact Zs ω HY.out k
    have hcy:=(hY.grown hgk (fun e=>hne (sI e).symm)).int (i:=k) hy;rw[<-hy']at hcy;have Hy:=Lib.hid hy';obtain⟨n,C,e1,e2,hn,hC,hsum⟩:=Zom hxl hyl hc1;have E1:=Lib.hid e1;have E2:=Lib.hid e2;have HS:=Lib.hid hsum;clear hy' e1 e2 hsum hxl hyl;go_wp2
    go_roundw
    case rel=>
     rw[E1.out,E2.out];have hR':=hRk.int_set k n;rw[ZS hZl.out hlt]at hR';refine⟨k+1,C,Z++[n],ω,by go_num,rfl,hC,by have:=hZl.out;simp[Hid,this],ZE hZ.out hn,ZbC hZl.out hlv.out ?_,hR',ZA hgk _ _,Z4 hsz _ _⟩;rw[<-Hx.out,<-Hy.out];exact HS.out
    case measure=>simp[intOf];omega
   .obtain⟨n,C,e1,e2,hn,hC,hsum⟩:=Zon hxl hc1;have E1:=Lib.hid e1;have E2:=Lib.hid e2;have HS:=Lib.hid hsum;clear e1 e2 hsum hxl;go_wp2
    go_roundw
    case rel=>
     rw[E1.out,E2.out];have hR':=hRk.int_set k n;rw[ZS hZl.out hlt]at hR';refine⟨k+1,C,Z++[n],ω,by go_num,rfl,hC,by have:=hZl.out;simp[Hid,this],ZE hZ.out hn,ZbC hZl.out hlv.out ?_,hR',ZA hgk _ _,Z4 hsz _ _⟩;rw[<-Hx.out,show Y.getD k 0=0 by simp[getD,getElem?_eq_none (Nat.le_of_not_lt hy)]];exact HS.out
    case measure=>simp[intOf];omega
  .have hk':k=X.length:=ω;have HK:=Lib.hid hk';clear hk';go_wp2
   go_end0
   refine⟨rfl,Z,by rw[hZl.out,HK.out],hZ.out,?_,?_,hgk,hsz⟩
   .have h1:=hlv.out;have h2:=ZdI hZ.out;rw[HK.out,Zg _ _ hlen,Zg _ _ (Nat.le_refl _)]at h1;rw[hZl.out,HK.out]at h2;have h3:=Hle.out;have hc0:c=0:=by
     rcases Nat.lt_or_ge c 1 with h|h
     .omega
     .have:1*4294967296^X.length<=c*4294967296^X.length:=Nat.mul_le_mul_right _ h;omega
    rw[hc0]at h1;omega
   .rw[HK.out]at hRk;simpa using hRk
end Go.Proofs.YtnhfpbcbhnfeaaaGreatDoor.natC
namespace Go.Proofs.YtnhfpbcbhnfeaaaGreatDoor.natD
open Go.RowKit num mem natA natB natC
def subE(a b:Nat):Int:=if a<b then 1 else 0
theorem Zu0{a b:ByteArray}{j:IntKind}{c d:Int}(h:a=b)(h':c=d):Ending.returned (.tuple #[.string a,.int j c])= .returned (.tuple #[.string b,.int j d]):=by rw[h,h']
theorem wlen_mono{s a b:Nat}(h:a<=b):wlen s a<=wlen s b:=by
 unfold wlen;exact Nat.div_le_div_right (by have:=ZaJ h;omega)
theorem ZZ{a:Nat}{L:Nat}(h:(enc a).size<=L):wlen 4 a<=L:=by unfold wlen;omega
theorem Zkn(a b:ByteArray)(w:World)(ha:a.size<=70368744177664)(hb:b.size<=70368744177664):
  Calls Tryz.prog 173 #[.string a,.string b] w fun e w'=>e= .returned (.tuple #[.string (enc (nv a-nv b)),.int .i64 (subE (nv a) (nv b))])/\Below w.heap.size w w':=by
 by_cases h:nv a<nv b
 .have H:=Lib.hid (show cmpN (nv a) (nv b)=-1 by unfold cmpN;rw[if_pos h]);have HE:=Lib.hid (show subE (nv a) (nv b)=1 by unfold subE;rw[if_pos h]);have HV:=Lib.hid (show enc (nv a-nv b)=⟨#[]⟩ by rw[show nv a-nv b=0 by omega,ZV]);clear h
  go_enter Tryz.func173,Tryz.ntmps173
  go_wp2_with (first|(go_at_call 92;refine(ZdV _ _ _).mono ?_;rintro e w' ⟨rfl,rfl⟩;rw[H.out]))
  go_ret2
  exact⟨Zu0 HV.out.symm HE.out.symm,Below.refl _ _⟩
 .have hc:cmpN (nv a) (nv b)=0\/cmpN (nv a) (nv b)=1:=by unfold cmpN;rw[if_neg h];split<;>simp
  have HE:=Lib.hid (show subE (nv a) (nv b)=0 by unfold subE;rw[if_neg h]);have Hle:=Lib.hid (show nv b<=nv a by omega);have H:=Lib.hid hc;clear h hc;have hl1:wlen 4 (nv a)<=70368744177664:=ZZ (Nat.le_trans (ZN a) ha);obtain⟨c,hc⟩:∃c,cmpN (nv a) (nv b)=c:=⟨_,rfl⟩;have Hc:=Lib.hid hc;have hc0:¬c<0:=by have:=H.out;omega
  clear hc
  go_enter Tryz.func173,Tryz.ntmps173
  go_wp2_with (first|(go_at_call 92;refine(ZdV _ _ _).mono ?_;rintro e w' ⟨rfl,rfl⟩;rw[Hc.out]));refine(ZaL a _ ha).mono ?_;rintro e w1 ⟨bx,rfl,hX,hbx,hb1⟩;go_wp2_with fail;refine(ZaL b _ hb).mono ?_;rintro e w2 ⟨by',rfl,hY,hby,hb2⟩;have hX2:=hX.below hb2 hX.lt;have hne:bx≠by':=by have:=hX.lt;omega
  clear hX;go_wp2_with fail;have hless:=Ztr bx (wlen 4 (nv a)) by' (wlen 4 (nv b)) (w32 (nv a)) (w32 (nv b)) w2 hX2 hY hne (Zb1 _) (Zb1 _) (by rw[Zi,Zi];exact wlen_mono Hle.out) (by rw[Zi];exact hl1) (by rw[Zbg,Zbg];exact Hle.out);rw[Zi,Zi,Zbg,Zbg]at hless;refine hless.mono ?_;rintro e w3 ⟨rfl,Z,hZl,hZ,hlv,hR3,hg3,hs3⟩;have HZ:=Lib.hid hZ;have HL:=Lib.hid hlv;have HZl:=Lib.hid hZl;have HS:=Lib.hid hs3;clear hZ hlv hZl hs3 hless;go_wp2_with fail;have htext:=Zc0 bx (wlen 4 (nv a)) Z w3 hR3 HZ.out (by rw[HZl.out];exact hl1);rw[HZl.out]at htext;refine htext.mono ?_;rintro e w4 ⟨rfl,hb4⟩;clear htext;go_wp2_with fail
  go_ret2
  refine⟨Zu0 (by rw[show lv 4294967296 Z=nv a-nv b by have:=HL.out;omega]) HE.out.symm,?_⟩;have hb12:Below w.heap.size w w2:=hb1.trans (hb2.mono hb1.size);exact(hb12.grown hg3 hb12.size (by intro k hk;have:=sI hk;omega)).trans (hb4.mono (by have:=HS.out;have:=hb12.size;omega))
theorem Zyx{n:Nat}(h:(enc n).size<8):n<72057594037927936:=by
 have:=(@Zh n 7).1 ω;simpa using this
theorem ZrP{x y c:Nat}(hx:x<4294967296)(hy:y<4294967296)(hc:c<=1):∃n C:Nat,
  ((c:Int)+(x:Int)+(y:Int))%4294967296=(n:Int)/\((c:Int)+(x:Int)+(y:Int))/4294967296=(C:Int)/\n<4294967296/\C<=1/\n+C*4294967296=c+x+y:=by
 refine⟨(c+x+y)%4294967296,(c+x+y)/4294967296,?_,?_,?_,?_,?_⟩<;>omega
theorem ZrQ{x c:Nat}(hx:x<4294967296)(hc:c<=1):∃n C:Nat,
  ((c:Int)+(x:Int))%4294967296=(n:Int)/\((c:Int)+(x:Int))/4294967296=(C:Int)/\n<4294967296/\C<=1/\n+C*4294967296=c+x+0:=by
 refine⟨(c+x)%4294967296,(c+x)/4294967296,?_,?_,?_,?_,?_⟩<;>omega
theorem Zag{Z:List Nat}{k N n:Nat}(hZ:Z.length=k)(hk:k<N):(Z++replicate (N-k) 0).set k n=(Z++[n])++replicate (N-(k+1)) 0:=by
 rw[List.set_append_right _ _ ω,List.append_assoc];congr 1;rw[show k-Z.length=0 by omega,show N-k=(N-(k+1))+1 by omega,List.replicate_succ];rfl
theorem Add_any(a b:ByteArray)(w:World)(ha:a.size<=70368744177663)(hb:b.size<=70368744177663):
  Calls Tryz.prog 99 #[.string a,.string b] w fun e w'=>e= .returned (.string (enc (nv a+nv b)))/\Below w.heap.size w w':=by
 obtain⟨n,hn⟩:∃n,nv a=n:=⟨_,rfl⟩;obtain⟨m,hm⟩:∃m,nv b=m:=⟨_,rfl⟩;have hla:(enc n).size<=70368744177663:=by rw[<-hn];exact Nat.le_trans (ZN a) ha
 have hlb:(enc m).size<=70368744177663:=by rw[<-hm];exact Nat.le_trans (ZN b) hb
 rw[hn,hm];have Hn:=Lib.hid hn;have Hm:=Lib.hid hm;clear hm hn ha hb;by_cases h8:(enc n).size<8/\(enc m).size<8
 .obtain⟨h1,h2⟩:=h8;have hn7:=Zyx h1;have hm7:=Zyx h2;have H1:=Lib.hid (show n<2^64 by omega);have H2:=Lib.hid (show m<2^64 by omega);have H3:=Lib.hid (show n+m<2^64 by omega)
  go_enter Tryz.func99,Tryz.ntmps99
  go_wp2_with (first|(go_at_call 150;refine(Zz _ _).mono ?_;rintro e w' ⟨rfl,rfl⟩;first|rw[Hn.out]|rw[Hm.out]));refine(ZW n _ H1.out).mono ?_;rintro e w' ⟨rfl,rfl⟩;go_wp2_with fail;refine(ZW m _ H2.out).mono ?_;rintro e w' ⟨rfl,rfl⟩;go_wp2_with fail;rw[show ((n:Int)+(m:Int))=((n+m:Nat):Int) from rfl];refine(ZU _ _ H3.out).mono ?_;rintro e w' ⟨rfl,hb⟩;go_wp2_with fail
  go_ret
  exact⟨rfl,hb⟩
 .go_enter Tryz.func99,Tryz.ntmps99
  go_upto_region 2 with (first|(go_at_call 150;refine(Zz _ _).mono ?_;rintro e w' ⟨rfl,rfl⟩;first|rw[Hn.out]|rw[Hm.out]))
  go_cut [22] (fun s wx=>s= .bool false/\w=wx)
  case first=>
   by_cases h1:(enc n).size<8
   .have H2:=Lib.hid (show Value.bool (decide (((enc m).size:Int)<8))=Value.bool false by simp;omega);clear h8;go_wp2_with fail
    go_meet
    exact⟨H2.out,rfl⟩
   .clear h8;go_wp2_with fail
    go_meet
    exact⟨rfl,rfl⟩
  case rest=>
   obtain⟨rfl,rfl⟩:=hcut;clear h8;go_wp2_with fail;refine(ZaL (enc n) _ ω).mono ?_;rintro e w1 ⟨bx,rfl,hX,hbx,hb1⟩;go_wp2_with fail;refine(ZaL (enc m) _ ω).mono ?_;rintro e w2 ⟨by',rfl,hY,hby,hb2⟩;rw[Ze]at hX hY;rw[Ze,Ze];have hX2:=hX.below hb2 hX.lt;have hbxl:=hX.lt;clear hX;have hwn:=ZZ hla;have hwm:=ZZ hlb
   go_upto_if 37 with (fail)
   go_cut [5,6] (fun s5 s6 wx=>w2=wx/\∃(b1 c1 b2 c2:Nat)(X Y:List Nat),s5= .slice (some ⟨b1,0,none⟩) X.length c1/\s6= .slice (some ⟨b2,0,none⟩) Y.length c2/\Row w2 b1 151 (nums .u32 X)/\Row w2 b2 151 (nums .u32 Y)/\
    Hid (∀d∈X,d<4294967296)/\Hid (∀d∈Y,d<4294967296)/\Y.length<=X.length/\X.length<=70368744177663/\Hid (lv 4294967296 X+lv 4294967296 Y=n+m))
   case first=>
    by_cases hsw:wlen 4 n<wlen 4 m
    .go_wp2_with fail
     go_meet
     exact⟨rfl,_,_,_,_,w32 m,w32 n,by rw[Zi],by rw[Zi],hY,hX2,Zb1 _,Zb1 _,by rw[Zi,Zi];omega,by rw[Zi];exact hwm,by rw[Zbg,Zbg];exact Nat.add_comm _ _⟩
    .go_wp2_with fail
     go_meet
     exact⟨rfl,_,_,_,_,w32 n,w32 m,by rw[Zi],by rw[Zi],hX2,hY,Zb1 _,Zb1 _,by rw[Zi,Zi];omega,by rw[Zi];exact hwn,by rw[Zbg,Zbg];rfl⟩
   case rest=>
    obtain⟨rfl,b1,c1,b2,c2,X,Y,rfl,rfl,hRX,hRY,HX,HY,hlen,hmax,HS⟩:=hcut;go_wp2_with (first|(at_make;refine Zu _ rfl _ _ _ rfl 151 _ 4 Tryz.underlying49 info151 rfl _ _ _ _ (X.length+1) rfl rfl ω ω ω ω ?_));intro w3 hR3 hg3 hsz3;have hRX3:=hRX.grown hg3 (by simp);have hRY3:=hRY.grown hg3 (by simp);have hb1l:=hRX.lt;have hb2l:=hRY.lt;have hB2:Below w.heap.size w w2:=hb1.trans (hb2.mono hb1.size);have hB3:Below w.heap.size w w3:=hB2.grown hg3 hB2.size (by simp);have hR30:Row w3 w2.heap.size 151 (nums .u32 ([]++replicate (X.length+1-0) 0)):=by simpa[nums]using hR3
    clear hRX hRY hR3 hX2 hY hg3;go_wp2
    go_loopw [8,46] (fun br i wr=>∃(k c:Nat)(Z:List Nat),k<=X.length/\i= .int .i64 k/\br= .int .u64 c/\c<=1/\Hid (Z.length=k)/\Hid (∀d∈Z,d<4294967296)/\
     Hid (lv 4294967296 Z+c*4294967296^k=lv 4294967296 (X.take k)+lv 4294967296 (Y.take k))/\Row wr w2.heap.size 151 (nums .u32 (Z++replicate (X.length+1-k) 0))/\w3.grownBy wr (some w2.heap.size)/\Hid (wr.heap.size=w3.heap.size)) (fun _ i _=>X.length-(intOf i).toNat)
    case atStart=>exact⟨0,0, [],Nat.zero_le _,rfl,rfl,ω,rfl,(by intro d hd;cases hd),by simp[Hid,lv],hR30,World.grownBy.refl _ _,rfl⟩
    case round=>
     obtain⟨k,c,Z,hk,rfl,rfl,hc1,hZl,hZ,hlv,hRk,hgk,hsz⟩:=hrel;clear hR30;by_cases hlt:k<X.length
     .obtain⟨x,hx⟩:∃x:Nat,x=X.getD k 0:=⟨_,rfl⟩;have hxl:x<4294967296:=by rw[hx];exact Zs ω HX.out k
      have hcx:=(hRX3.grown hgk ωi).int (i:=k) hlt;rw[<-hx]at hcx;have hco:=hRk.int (i:=k) (by have:=hZl.out;simp;omega);have hfo:=hRk.frozen k;have Hx:=Lib.hid hx;clear hx;by_cases hy:k<Y.length
      .obtain⟨y,hy'⟩:∃y:Nat,y=Y.getD k 0:=⟨_,rfl⟩;have hyl:y<4294967296:=by rw[hy'];exact Zs ω HY.out k
       have hcy:=(hRY3.grown hgk ωi).int (i:=k) hy;rw[<-hy']at hcy;have Hy:=Lib.hid hy';obtain⟨v,C,e1,e2,hv,hC,hsum⟩:=ZrP hxl hyl hc1;have E1:=Lib.hid e1;have E2:=Lib.hid e2;have HS':=Lib.hid hsum;clear hy' e1 e2 hsum;go_wp2
       go_roundw
       case rel=>
        rw[E1.out,E2.out];have hR':=hRk.int_set k v;rw[Zag hZl.out ω]at hR';refine⟨k+1,C,Z++[v],ω,by go_num,rfl,hC,by have:=hZl.out;simp[Hid,this],ZE hZ.out hv,Zay hZl.out hlv.out ?_,hR',ZA hgk _ _,Z4 hsz _ _⟩;rw[<-Hx.out,<-Hy.out];exact HS'.out
       case measure=>simp[intOf];omega
      .obtain⟨v,C,e1,e2,hv,hC,hsum⟩:=ZrQ hxl hc1;have E1:=Lib.hid e1;have E2:=Lib.hid e2;have HS':=Lib.hid hsum;clear e1 e2 hsum;go_wp2
       go_roundw
       case rel=>
        rw[E1.out,E2.out];have hR':=hRk.int_set k v;rw[Zag hZl.out ω]at hR';refine⟨k+1,C,Z++[v],ω,by go_num,rfl,hC,by have:=hZl.out;simp[Hid,this],ZE hZ.out hv,Zay hZl.out hlv.out ?_,hR',ZA hgk _ _,Z4 hsz _ _⟩;rw[<-Hx.out,show Y.getD k 0=0 by simp[getD,getElem?_eq_none (Nat.le_of_not_lt hy)]];exact HS'.out
       case measure=>simp[intOf];omega
     .have HK:=Lib.hid (show k=X.length by omega);have hR':=hRk.int_set k c;rw[Zag hZl.out ω,show X.length+1-(k+1)=0 by omega,HK.out]at hR';have hco:=hRk.int (i:=X.length) (by have:=hZl.out;simp;omega);have hfo:=hRk.frozen X.length;clear hk;go_wp2_with fail;have hl:=hZl.out;have htext:=Zc0 w2.heap.size (X.length+1) (Z++[c]) _ (by simpa using hR') (ZE hZ.out ω) (by have:=HK.out;simp;omega);rw[show (Z++[c]).length=X.length+1 by simp;have:=HK.out;omega]at htext;refine htext.mono ?_;rintro e w5 ⟨rfl,hb5⟩;have Hl:=Lib.hid hl;clear hl htext;go_wp2_with fail
      go_ret
      have h1:=hlv.out;rw[HK.out,Zg _ _ hlen,Zg _ _ (Nat.le_refl _),HS.out]at h1;have h2:lv 4294967296 (Z++[c])=n+m:=by rw[ZbP,Hl.out,HK.out,Nat.mul_comm];exact h1
      refine⟨Z5 (by rw[h2]),?_⟩;have hB4:Below w.heap.size w (wr.setCell ⟨w2.heap.size,X.length,none⟩ (.int .u32 c)):=(hB3.grown hgk hB3.size (by intro j hj;have:=sI hj;have:=hB2.size;omega)).setCell hB2.size _;exact hB4.trans (hb5.mono hB4.size)
end Go.Proofs.YtnhfpbcbhnfeaaaGreatDoor.natD
namespace Go.Proofs.YtnhfpbcbhnfeaaaGreatDoor.num
theorem Zcz{B:Nat}:∀{l:List Nat}{j d:Nat},j<l.length->lv B (l.set j d)+B^j*l.getD j 0=lv B l+B^j*d
 | [],_,_,h=>by simp at h
 |x::l,0,d,_=>by
  rw[List.set_cons_zero,Zai,Zai,Nat.pow_zero,Nat.one_mul,Nat.one_mul];show d+B*lv B l+x=_;omega
 |x::l,j+1,d,h=>by
  have ih:=Zcz (B:=B) (l:=l) (j:=j) (d:=d) (by simpa using h);rw[List.set_cons_succ,Zai,Zai,Nat.pow_succ];have e:(x::l).getD (j+1) 0=l.getD j 0:=rfl;rw[e,Nat.mul_comm (B^j) B,Nat.mul_assoc,Nat.mul_assoc];have:=congrArg (fun v=>B*v) ih;simp only[Nat.mul_add]at this;omega
theorem ZaQ{B:Nat}{l:List Nat}{j d:Nat}(h:∀x∈l,x<B)(hd:d<B):∀x∈l.set j d,x<B:=by
 intro x hx;rcases List.mem_or_eq_of_mem_set hx with h1|h1
 .exact h x h1
 .rw[h1];exact hd
theorem ZG{l:List Nat}{j k d:Nat}(h:j≠k):(l.set j d).getD k 0=l.getD k 0:=by
 simp[getD,h]
theorem ZpO{B S w c t k i:Nat}{O Y:List Nat}(hi:i+k<O.length)(h:lv B O+c*B^(i+k)=S+w*B^i*lv B (Y.take k))(ht:t=c+(w*Y.getD k 0+O.getD (i+k) 0)):
  lv B (O.set (i+k) (t%B))+t/B*B^(i+(k+1))=S+w*B^i*lv B (Y.take (k+1)):=by
 have h1:=Zcz (B:=B) (l:=O) (j:=i+k) (d:=t%B) hi;rw[Zp,Nat.mul_add];have e1:w*B^i*(B^k*Y.getD k 0)=B^(i+k)*(w*Y.getD k 0):=by
  rw[Nat.pow_add];simp only[Nat.mul_comm,Nat.mul_left_comm,Nat.mul_assoc]
 have e2:t/B*B^(i+(k+1))=B^(i+k)*(B*(t/B)):=by
  rw[<-Nat.add_assoc,Nat.pow_succ];simp only[Nat.mul_comm,Nat.mul_left_comm,Nat.mul_assoc]
 have e3:B^(i+k)*(t%B)+B^(i+k)*(B*(t/B))=B^(i+k)*t:=by rw[<-Nat.mul_add,Nat.mod_add_div]
 have e4:B^(i+k)*t=B^(i+k)*c+(B^(i+k)*(w*Y.getD k 0)+B^(i+k)*O.getD (i+k) 0):=by rw[ht,Nat.mul_add,Nat.mul_add]
 rw[e1,e2];rw[Nat.mul_comm c]at h;omega
theorem Zof{B o i d x low b c c' b' P:Nat}{U:List Nat}{Y:List Nat}(hi:o+i<U.length)
 (h:lv B U+B^o*(P*lv B (Y.take i))=x+(c+b)*B^(o+i))(h1:d+low+b=U.getD (o+i) 0+b'*B)(h2:low+c'*B=c+P*Y.getD i 0):
  lv B (U.set (o+i) d)+B^o*(P*lv B (Y.take (i+1)))=x+(c'+b')*B^(o+(i+1)):=by
 have hs:=Zcz (B:=B) (l:=U) (j:=o+i) (d:=d) hi;rw[Zp,Nat.mul_add,Nat.mul_add];have e1:B^o*(P*(B^i*Y.getD i 0))=B^(o+i)*(P*Y.getD i 0):=by
  rw[Nat.pow_add];simp only[Nat.mul_left_comm,Nat.mul_assoc]
 have e2:(c'+b')*B^(o+(i+1))=B^(o+i)*(c'*B)+B^(o+i)*(b'*B):=by
  rw[<-Nat.add_assoc,Nat.pow_succ,<-Nat.mul_add,<-Nat.add_mul];simp only[Nat.mul_comm,Nat.mul_left_comm,Nat.mul_assoc]
 have g1:=congrArg (fun v=>B^(o+i)*v) h1;have g2:=congrArg (fun v=>B^(o+i)*v) h2;simp only[Nat.mul_add]at g1 g2;rw[Nat.add_mul,Nat.mul_comm c,Nat.mul_comm b]at h;rw[e1,e2];omega
theorem ZsX{B o i d c c':Nat}{U Y:List Nat}{x:Nat}(hi:o+i<U.length)
 (h:lv B U+c*B^(o+i)=x+B^o*lv B (Y.take i))(h1:d+c'*B=c+(U.getD (o+i) 0+Y.getD i 0)):
  lv B (U.set (o+i) d)+c'*B^(o+(i+1))=x+B^o*lv B (Y.take (i+1)):=by
 have hs:=Zcz (B:=B) (l:=U) (j:=o+i) (d:=d) hi;rw[Zp,Nat.mul_add];have e1:B^o*(B^i*Y.getD i 0)=B^(o+i)*Y.getD i 0:=by rw[Nat.pow_add,Nat.mul_assoc]
 have e2:c'*B^(o+(i+1))=B^(o+i)*(c'*B):=by
  rw[<-Nat.add_assoc,Nat.pow_succ];simp only[Nat.mul_comm,Nat.mul_left_comm,Nat.mul_assoc]
 have g1:=congrArg (fun v=>B^(o+i)*v) h1;simp only[Nat.mul_add]at g1;rw[Nat.mul_comm c]at h;rw[e1,e2];omega
theorem ZbI{l:List Nat}{o j d:Nat}(h:o<=j):(l.set j d).take o=l.take o:=by
 rw[List.take_set,List.set_eq_of_length_le (by simp;omega)]
theorem Z6(B:Nat)(l:List Nat)(o:Nat)(h:o<=l.length):lv B l=lv B (l.take o)+B^o*lv B (l.drop o):=by
 conv=>lhs;rw[<-List.take_append_drop o l]
 rw[Ziv];simp[Nat.min_eq_left h]
end Go.Proofs.YtnhfpbcbhnfeaaaGreatDoor.num
namespace Go.Proofs.YtnhfpbcbhnfeaaaGreatDoor.natE
open Go.RowKit num mem natA natB natC natD
theorem ZpN{n m:Nat}(h:(enc n).size+(enc m).size<=8):n<2^64/\m<2^64/\n*m<2^64:=by
 have h1:=(@Zh n (enc n).size).1 (Nat.le_refl _);have h2:=(@Zh m (enc m).size).1 (Nat.le_refl _);have h3:256^(enc n).size*256^(enc m).size<=2^64:=by
  rw[<-Nat.pow_add];have:256^((enc n).size+(enc m).size)<=256^8:=Nat.pow_le_pow_right ω h;simpa using this
 have p1:0<256^(enc n).size:=Nat.pow_pos ω;have p2:0<256^(enc m).size:=Nat.pow_pos ω;refine⟨?_,?_,?_⟩
 .have:256^(enc n).size*1<=256^(enc n).size*256^(enc m).size:=Nat.mul_le_mul_left _ p2;omega
 .have:1*256^(enc m).size<=256^(enc n).size*256^(enc m).size:=Nat.mul_le_mul_right _ p1;omega
 .have:=Nat.mul_lt_mul'' h1 h2;omega
theorem Ztb{w y c d:Nat}(hw:w<4294967296)(hy:y<4294967296)(hc:c<4294967296)(hd:d<4294967296):∃t:Nat,t=c+(w*y+d)/\t/4294967296<4294967296/\
  IntKind.u64.wrap ((c:Int)+IntKind.u64.wrap (IntKind.u64.wrap ((w:Int)*(y:Int))+(d:Int)))=(t:Int):=by
 have h1:w*y<=4294967295*4294967295:=Nat.mul_le_mul ω ω;have h2:((w:Int)*(y:Int))=((w*y:Nat):Int):=by simp
 refine⟨_,rfl,ω,?_⟩;rw[h2];generalize w*y=p at h1;simp only[IntKind.wrap_u64];omega
theorem ZbA(a b:ByteArray)(w:World)(ha:a.size<=35184372088832)(hb:b.size<=35184372088832):
  Calls Tryz.prog 93 #[.string a,.string b] w fun e w'=>e= .returned (.string (enc (nv a*nv b)))/\Below w.heap.size w w':=by
 obtain⟨n,hn⟩:∃n,nv a=n:=⟨_,rfl⟩;obtain⟨m,hm⟩:∃m,nv b=m:=⟨_,rfl⟩;have hla:(enc n).size<=35184372088832:=by rw[<-hn];exact Nat.le_trans (ZN a) ha
 have hlb:(enc m).size<=35184372088832:=by rw[<-hm];exact Nat.le_trans (ZN b) hb
 rw[hn,hm];have Hn:=Lib.hid hn;have Hm:=Lib.hid hm;clear hm hn ha hb;by_cases h8:(enc n).size+(enc m).size<=8
 .obtain⟨h1,h2,h3⟩:=ZpN h8;have H1:=Lib.hid h1;have H2:=Lib.hid h2;have H3:=Lib.hid h3;obtain⟨p,hp⟩:∃p:Nat,IntKind.u64.wrap ((n:Int)*(m:Int))=(p:Int)/\p=n*m:=⟨n*m,by
   rw[<-Int.natCast_mul,IntKind.wrap_u64];omega,rfl⟩
  have HP:=Lib.hid hp.1;have HP2:=Lib.hid hp.2;clear h1 h2 h3 hp
  go_enter Tryz.func93,Tryz.ntmps93
  go_wp2_with (first|(go_at_call 150;refine(Zz _ _).mono ?_;rintro e w' ⟨rfl,rfl⟩;first|rw[Hn.out]|rw[Hm.out]));refine(ZW n _ H1.out).mono ?_;rintro e w' ⟨rfl,rfl⟩;go_wp2_with fail;refine(ZW m _ H2.out).mono ?_;rintro e w' ⟨rfl,rfl⟩;go_wp2_with fail;rw[HP.out];refine(ZU p _ (by rw[HP2.out];exact H3.out)).mono ?_;rintro e w' ⟨rfl,hb⟩;go_wp2_with fail
  go_ret
  exact⟨Z5 (by rw[HP2.out]),hb⟩
 .go_enter Tryz.func93,Tryz.ntmps93
  go_wp2_with (first|(go_at_call 150;refine(Zz _ _).mono ?_;rintro e w' ⟨rfl,rfl⟩;first|rw[Hn.out]|rw[Hm.out]));refine(ZaL (enc n) _ ω).mono ?_;rintro e w1 ⟨bx,rfl,hX,hbx,hb1⟩;go_wp2_with fail;refine(ZaL (enc m) _ ω).mono ?_;rintro e w2 ⟨by',rfl,hY,hby,hb2⟩;rw[Ze]at hX hY;rw[Ze,Ze];have hX2:=hX.below hb2 hX.lt;have hbxl:=hX.lt;clear hX h8;have hwn:=ZZ hla;have hwm:=ZZ hlb;obtain⟨p,hp⟩:∃p,wlen 4 n=p:=⟨_,rfl⟩;obtain⟨q,hq⟩:∃q,wlen 4 m=q:=⟨_,rfl⟩;rw[hp]at hwn⊢;rw[hq]at hwm⊢;obtain⟨X,hXX⟩:∃X,X=w32 n:=⟨_,rfl⟩;obtain⟨Y,hYY⟩:∃Y,Y=w32 m:=⟨_,rfl⟩;have HX:=Lib.hid (show (∀d∈X,d<4294967296)/\lv 4294967296 X=n/\X.length=p by rw[hXX];exact⟨Zb1 _,Zbg _,by rw[Zi,hp]⟩);have HY:=Lib.hid (show (∀d∈Y,d<4294967296)/\lv 4294967296 Y=m/\Y.length=q by rw[hYY];exact⟨Zb1 _,Zbg _,by rw[Zi,hq]⟩);rw[<-hXX]at hX2;rw[<-hYY]at hY;clear hp hq hXX hYY;go_wp2_with (first|(at_make;refine Zu _ rfl _ _ _ rfl 151 _ 4 Tryz.underlying49 info151 rfl _ _ _ _ (p+q) rfl rfl ω ω ω ω ?_));intro w3 hR3 hg3 hsz3;have hX3:=hX2.grown hg3 (by simp);have hY3:=hY.grown hg3 (by simp);have hbl1:=hX2.lt;have hbl2:=hY.lt;have hB2:Below w.heap.size w w2:=hb1.trans (hb2.mono hb1.size);have hB3:Below w.heap.size w w3:=hB2.grown hg3 hB2.size (by simp);have hR30:Row w3 w2.heap.size 151 (nums .u32 (replicate (p+q) 0)):=by simpa[nums]using hR3
  clear hX2 hY hR3 hg3;go_wp2
  go_loopw [41] (fun i wr=>∃(k:Nat)(O:List Nat),k<=p/\i= .int .i64 k/\Hid (O.length=p+q)/\Hid (∀d∈O,d<4294967296)/\Hid (lv 4294967296 O=lv 4294967296 (X.take k)*m)/\Hid (∀j,k+q<=j->O.getD j 0=0)/\
   Row wr w2.heap.size 151 (nums .u32 O)/\w3.grownBy wr (some w2.heap.size)) (fun i _=>p-(intOf i).toNat)
  case atStart=>
   refine⟨0,replicate (p+q) 0,Nat.zero_le _,rfl,by simp[Hid],?_,?_,?_,hR30,World.grownBy.refl _ _⟩
   .intro d hd;have:=List.eq_of_mem_replicate hd;omega
   .show _=_;rw[ZaE];simp[lv]
   .intro j _;simp[getD,List.getElem?_replicate];split<;>rfl
  case round=>
   obtain⟨wo,rfl⟩:∃wo:World,wo=wr:=⟨_,rfl⟩;obtain⟨i,O,hi,rfl,hOl,hO,hlv,hz,hRo,hgo⟩:=hrel;clear hR30;by_cases hlt:i<p
   .obtain⟨x,hx⟩:∃x:Nat,x=X.getD i 0:=⟨_,rfl⟩;have hxl:x<4294967296:=by rw[hx];exact Zs ω HX.out.1 i
    have hcx:=(hX3.grown hgo ωi).int (i:=i) (by rw[HX.out.2.2];exact hlt);rw[<-hx]at hcx;have Hx:=Lib.hid hx;clear hx;go_wp2
    go_loopw [10,48] (fun cr s wr=>∃(k c:Nat)(O':List Nat),k<=q/\s= .int .i64 k/\cr= .int .u64 c/\c<4294967296/\Hid (O'.length=p+q)/\Hid (∀d∈O',d<4294967296)/\
     Hid (lv 4294967296 O'+c*4294967296^(i+k)=lv 4294967296 O+x*4294967296^i*lv 4294967296 (Y.take k))/\Hid (∀j,i+k<=j->O'.getD j 0=O.getD j 0)/\
     Row wr w2.heap.size 151 (nums .u32 O')/\w3.grownBy wr (some w2.heap.size)) (fun _ s _=>q-(intOf s).toNat)
    case atStart=>exact⟨0,0,O,Nat.zero_le _,rfl,rfl,ω,hOl,hO,by simp[Hid,lv],fun _ _=>rfl,hRo,hgo⟩
    case round=>
     obtain⟨k,c,O',hk,rfl,rfl,hc,hOl',hO',hlv',hsame,hRk,hgk⟩:=hrel;by_cases hlk:k<q
     .obtain⟨y,hy⟩:∃y:Nat,y=Y.getD k 0:=⟨_,rfl⟩;have hyl:y<4294967296:=by rw[hy];exact Zs ω HY.out.1 k
      have hcy:=(hY3.grown hgk ωi).int (i:=k) (by rw[HY.out.2.2];exact hlk);rw[<-hy]at hcy;obtain⟨d,hd⟩:∃d:Nat,d=O'.getD (i+k) 0:=⟨_,rfl⟩;have hdl:d<4294967296:=by rw[hd];exact Zs ω hO'.out (i+k)
      have hco:=hRk.int (i:=i+k) (by have:=hOl'.out;omega);rw[<-hd]at hco;have hfo:=hRk.frozen (i+k);obtain⟨t,ht,htl,hwr⟩:=Ztb hxl hyl hc hdl;have HT:=Lib.hid ht;have HW:=Lib.hid hwr;have Hd:=Lib.hid hd;have Hy:=Lib.hid hy;clear ht hwr hd hy;go_wp2
      go_roundw
      case rel=>
       rw[HW.out];have hR':=hRk.int_set (i+k) (t%4294967296);refine⟨k+1,t/4294967296,O'.set (i+k) (t%4294967296),ω,by go_num,rfl,htl,by have:=hOl'.out;simp[Hid,this],ZaQ hO'.out (Nat.mod_lt _ ω),ZpO (by have:=hOl'.out;omega) hlv'.out (by rw[HT.out,Hy.out,Hd.out]),?_,hR',ZA hgk _ _⟩;intro j hj;rw[ZG ω];exact hsame.out j ω
      case measure=>simp[intOf]<;>omega
     .have HK:=Lib.hid (show k=q by omega);have hR':=hRk.int_set (i+q) c;have hco:=hRk.int (i:=i+q) (by have:=hOl'.out;omega);have hfo:=hRk.frozen (i+q);have h0:O'.getD (i+q) 0=0:=by
       rw[hsame.out (i+q) (by have:=HK.out;omega)];exact hz.out (i+q) (Nat.le_refl _)
      have h1:=Zcz (B:=4294967296) (l:=O') (j:=i+q) (d:=c) (by have:=hOl'.out;omega);rw[h0,Nat.mul_zero,Nat.add_zero,Nat.mul_comm]at h1;have h2:=hlv'.out;rw[HK.out,Zg _ _ (by rw[HY.out.2.2];exact Nat.le_refl _),HY.out.2.1,hlv.out]at h2;rw[h2,Hx.out]at h1;have HLV:=Lib.hid (show lv 4294967296 (O'.set (i+q) c)=lv 4294967296 (X.take (i+1))*m by
       rw[h1,Zp,Nat.add_mul,Nat.mul_comm (X.getD i 0)])
      clear h0 h1 h2;go_wp2
      go_roundw
      case rel=>
       refine⟨i+1,O'.set (i+q) c,ω,by go_num,by have:=hOl'.out;simp[Hid,this],ZaQ hO'.out hc,HLV.out,?_,hR',ZA hgk _ _⟩;intro j hj;rw[ZG ω,hsame.out j (by have:=HK.out;omega)];exact hz.out j ω
      case measure=>simp[intOf]<;>omega
   .have hP:i=p:=ω;have htext:=Zc0 w2.heap.size (p+q) O wo hRo hO.out (by have:=hOl.out;omega);rw[hOl.out,hlv.out,hP,Zg _ _ (by rw[HX.out.2.2];exact Nat.le_refl _),HX.out.2.1]at htext;clear hP;go_wp2_with fail;refine htext.mono ?_;rintro e w5 ⟨rfl,hb5⟩;clear htext;go_wp2_with fail
    go_ret
    have hB4:Below w.heap.size w wo:=hB3.grown hgo hB3.size (by intro j hj;have:=sI hj;have:=hB2.size;omega);exact⟨rfl,hB4.trans (hb5.mono hB4.size)⟩
