/- Joined by wip/bundle.py: XNatF XNatG XNatH XNatI. -/
import Derived.Test.YtnhfpbcbhnfeaaaGreatDoorQGrpK
import Derived.Lib.ItoaNum
import Derived.Deep.LoopGhost
import Derived.Deep.CutBlock
import Derived.Deep.RegionWith
import Derived.BigQuiet
import Derived.Deep.QuietTactic
set_option maxHeartbeats 4000000
open List (replicate append_assoc getD length_take)
namespace Go.Proofs.YtnhfpbcbhnfeaaaGreatDoor.natF
open Go.RowKit num mem natA natB natC natD natE
theorem ZnQ{p y c:Nat}(hp:p<4294967296)(hy:y<4294967296)(hc:c<4294967296):IntKind.u64.wrap ((c:Int)+IntKind.u64.wrap ((p:Int)*(y:Int)))=((c+p*y:Nat):Int)/\c+p*y<=18446744073709551615:=by
 have h1:p*y<=4294967295*4294967295:=Nat.mul_le_mul ω ω;have h2:((p:Int)*(y:Int))=((p*y:Nat):Int):=by simp
 rw[h2];generalize p*y=z at h1;simp only[IntKind.wrap_u64];omega
theorem Zmb{low u b:Nat}(hl:low<4294967296)(hu:u<4294967296)(hb:b<=1):∃d b':Nat,
  IntKind.u64.wrap (IntKind.u64.wrap ((u:Int)-(low:Int))-(b:Int))%4294967296=(d:Int)/\IntKind.u64.wrap (IntKind.u64.wrap ((u:Int)-(low:Int))-(b:Int))/9223372036854775808=(b':Int)/\
  d<4294967296/\b'<=1/\d+low+b=u+b'*4294967296:=by
 simp only[IntKind.wrap_u64];by_cases h:low+b<=u
 .refine⟨u-low-b,0,?_,?_,?_,?_,?_⟩<;>omega
 .refine⟨u+4294967296-low-b,1,?_,?_,?_,?_,?_⟩<;>omega
theorem ZrL{p y c u b:Nat}(hp:p<4294967296)(hy:y<4294967296)(hc:c<4294967296)(hu:u<4294967296)(hb:b<=1):∃low d c' b':Nat,
  IntKind.u64.wrap ((c:Int)+IntKind.u64.wrap ((p:Int)*(y:Int)))/4294967296=(c':Int)/\
  IntKind.u64.wrap (IntKind.u64.wrap ((u:Int)-IntKind.u64.wrap ((c:Int)+IntKind.u64.wrap ((p:Int)*(y:Int)))%4294967296)-(b:Int))%4294967296=(d:Int)/\
  IntKind.u64.wrap (IntKind.u64.wrap ((u:Int)-IntKind.u64.wrap ((c:Int)+IntKind.u64.wrap ((p:Int)*(y:Int)))%4294967296)-(b:Int))/9223372036854775808=(b':Int)/\
  d<4294967296/\b'<=1/\c'<4294967296/\d+low+b=u+b'*4294967296/\low+c'*4294967296=c+p*y:=by
 obtain⟨e,hle⟩:=ZnQ hp hy hc;rw[e];generalize c+p*y=z at hle;have e2:((z:Int)%4294967296)=((z%4294967296:Nat):Int):=ω;rw[e2];obtain⟨d,b',h1,h2,h3,h4,h5⟩:=Zmb (low:=z%4294967296) (u:=u) (b:=b) ω hu hb;exact⟨z%4294967296,d,z/4294967296,b',ω,h1,h2,h3,h4,ω,h5,ω⟩
theorem ZhK(bu off cu bv cv pc:Nat)(U V:List Nat)(p:Nat)(w:World)(hU:Row w bu 151 (nums .u32 U))(hV:Pre w bv 151 pc (nums .u32 V))(hne:bu≠bv)
 (lU:∀d∈U,d<4294967296)(lV:∀d∈V,d<4294967296)(hlen:off+V.length+1<=U.length)(hmax:U.length<=70368744177664)(hp:p<4294967296):
  Calls Tryz.prog 228 #[.slice (some ⟨bu,off,none⟩) (V.length+1) cu,.slice (some ⟨bv,0,none⟩) V.length cv,.int .u64 p] w fun e w'=>∃(neg:Nat)(Z:List Nat),e= .returned (.bool (decide (neg=1)))/\neg<=1/\
   Z.length=U.length/\(∀d∈Z,d<4294967296)/\lv 4294967296 Z+4294967296^off*(p*lv 4294967296 V)=lv 4294967296 U+neg*4294967296^(off+V.length+1)/\Z.take off=U.take off/\(∀j,off+V.length<j->Z.getD j 0=U.getD j 0)/\
   Row w' bu 151 (nums .u32 Z)/\w.grownBy w' (some bu)/\w'.heap.size=w.heap.size:=by
 have HU:=Lib.hid lU;have HV:=Lib.hid lV;clear lU lV;have hbu:=hU.lt;have hbv:=hV.lt
 go_enter Tryz.func228,Tryz.ntmps228
 go_wp2
 go_loopw [7,8,15] (fun cr br i wr=>∃(k c b:Nat)(Z:List Nat),k<=V.length/\i= .int .i64 k/\cr= .int .u64 c/\c<4294967296/\br= .int .u64 b/\b<=1/\Hid (Z.length=U.length)/\Hid (∀d∈Z,d<4294967296)/\
   Hid (lv 4294967296 Z+4294967296^off*(p*lv 4294967296 (V.take k))=lv 4294967296 U+(c+b)*4294967296^(off+k))/\Hid (Z.take off=U.take off)/\Hid (∀j,off+k<=j->Z.getD j 0=U.getD j 0)/\
   Row wr bu 151 (nums .u32 Z)/\w.grownBy wr (some bu)/\Hid (wr.heap.size=w.heap.size)) (fun _ _ i _=>V.length-(intOf i).toNat)
 case atStart=>exact⟨0,0,0,U,Nat.zero_le _,rfl,rfl,ω,rfl,ω,rfl,HU.out,by simp[Hid,lv],rfl,fun _ _=>rfl,hU,World.grownBy.refl _ _,rfl⟩
 case round=>
  obtain⟨k,c,b,Z,hk,rfl,rfl,hc,rfl,hb1,hZl,hZ,hlv,htk,habove,hRk,hgk,hsz⟩:=hrel;by_cases hlt:k<V.length
  .obtain⟨y,hy⟩:∃y:Nat,y=V.getD k 0:=⟨_,rfl⟩;have hyl:y<4294967296:=by rw[hy];exact Zs ω HV.out k
   have hcy:=(hV.grown hgk (fun e=>hne (sI e).symm)).int (i:=k) hlt;rw[<-hy]at hcy;obtain⟨u,hu⟩:∃u:Nat,u=Z.getD (off+k) 0:=⟨_,rfl⟩;have hul:u<4294967296:=by rw[hu];exact Zs ω hZ.out _
   have hcu:=hRk.int (i:=off+k) (by have:=hZl.out;omega);rw[<-hu]at hcu;have hfu:=hRk.frozen (off+k);obtain⟨low,d,c',b',e1,e2,e3,hd,hb',hc',h5,h6⟩:=ZrL hp hyl hc hul hb1;have hst:=Lib.hid (Zof (B:=4294967296) (Y:=V) (P:=p) (d:=d) (c':=c') (b':=b') (low:=low) (by have:=hZl.out;omega) hlv.out (by rw[<-hu];exact h5) (by rw[<-hy];exact h6));have E1:=Lib.hid e1;have E2:=Lib.hid e2;have E3:=Lib.hid e3;clear hy hu e1 e2 e3 h5 h6;go_wp2
   go_roundw
   case rel=>
    rw[E1.out,E2.out,E3.out];have hR':=hRk.int_set (off+k) d;refine⟨k+1,c',b',Z.set (off+k) d,ω,by go_num,rfl,hc',rfl,hb',by have:=hZl.out;simp[Hid,this],ZaQ hZ.out hd,hst.out,?_,?_,hR',ZA hgk _ _,Z4 hsz _ _⟩
    .show _=_;rw[ZbI ω];exact htk.out
    .intro j hj;rw[ZG ω];exact habove.out j ω
   case measure=>simp[intOf]<;>omega
  .obtain⟨u,hu⟩:∃u:Nat,u=Z.getD (off+V.length) 0:=⟨_,rfl⟩;have hul:u<4294967296:=by rw[hu];exact Zs ω hZ.out _
   have hcu:=hRk.int (i:=off+V.length) (by have:=hZl.out;omega);rw[<-hu]at hcu;have hfu:=hRk.frozen (off+V.length);obtain⟨d,b',e1,e2,hd,hb',h5⟩:=Zmb (low:=c) (u:=u) (b:=b) hc hul hb1;have HK:k=V.length:=ω;have hst:=Lib.hid (show lv 4294967296 (Z.set (off+V.length) d)+4294967296^off*(p*lv 4294967296 V)=lv 4294967296 U+b'*4294967296^(off+V.length+1) by
    have hs:=Zcz (B:=4294967296) (l:=Z) (j:=off+V.length) (d:=d) (by have:=hZl.out;omega);have h1:=hlv.out;rw[HK,Zg _ _ (Nat.le_refl _)]at h1;rw[<-hu]at hs;have g:=congrArg (fun v=>4294967296^(off+V.length)*v) h5;simp only[Nat.mul_add]at g;rw[Nat.add_mul,Nat.mul_comm c,Nat.mul_comm b]at h1;rw[Nat.pow_succ,show b'*(4294967296^(off+V.length)*4294967296)=4294967296^(off+V.length)*(b'*4294967296) by rw[Nat.mul_left_comm]];omega)
   have hpos:decide ((0:Int)<(b':Int))=decide (b'=1):=by
    rcases (show b'=0\/b'=1 by omega) with h|h<;>subst h<;>rfl
   have HP:=Lib.hid hpos;have HKK:=Lib.hid HK;have E1:=Lib.hid e1;have E2:=Lib.hid e2;clear hu e1 e2 h5 hpos HK;go_wp2;rw[E1.out,E2.out];go_wp2
   go_ret
   have hR':=hRk.int_set (off+V.length) d;refine⟨b',Z.set (off+V.length) d,Zaf HP.out,hb',by have:=hZl.out;simp[this],ZaQ hZ.out hd,hst.out,?_,?_,hR',ZA hgk _ _,Z4 hsz _ _⟩
   .rw[ZbI ω];exact htk.out
   .intro j hj;rw[ZG ω];exact habove.out j (by have:=HKK.out;omega)
theorem Zwe{c u y:Nat}(hc:c<=1)(hu:u<4294967296)(hy:y<4294967296):∃d c':Nat,
  ((c:Int)+((u:Int)+(y:Int)))%4294967296=(d:Int)/\((c:Int)+((u:Int)+(y:Int)))/4294967296=(c':Int)/\d<4294967296/\c'<=1/\d+c'*4294967296=c+(u+y):=by
 refine⟨(c+(u+y))%4294967296,(c+(u+y))/4294967296,?_,?_,?_,?_,?_⟩<;>omega
theorem ZjG(bu off cu bv cv pc:Nat)(U V:List Nat)(w:World)(hU:Row w bu 151 (nums .u32 U))(hV:Pre w bv 151 pc (nums .u32 V))(hne:bu≠bv)
 (lU:∀d∈U,d<4294967296)(lV:∀d∈V,d<4294967296)(hlen:off+V.length+1<=U.length)(hmax:U.length<=70368744177664):
  Calls Tryz.prog 229 #[.slice (some ⟨bu,off,none⟩) (V.length+1) cu,.slice (some ⟨bv,0,none⟩) V.length cv] w fun e w'=>e= .returned (.tuple #[])/\∃(c:Nat)(Z:List Nat), 
   Z.length=U.length/\(∀d∈Z,d<4294967296)/\lv 4294967296 Z+c*4294967296^(off+V.length+1)=lv 4294967296 U+4294967296^off*lv 4294967296 V/\Z.take off=U.take off/\(∀j,off+V.length<j->Z.getD j 0=U.getD j 0)/\
   Row w' bu 151 (nums .u32 Z)/\w.grownBy w' (some bu)/\w'.heap.size=w.heap.size:=by
 have HU:=Lib.hid lU;have HV:=Lib.hid lV;clear lU lV;have hbu:=hU.lt;have hbv:=hV.lt
 go_enter Tryz.func229,Tryz.ntmps229
 go_wp2
 go_loopw [4,9] (fun cr i wr=>∃(k c:Nat)(Z:List Nat),k<=V.length/\i= .int .i64 k/\cr= .int .u64 c/\c<=1/\Hid (Z.length=U.length)/\Hid (∀d∈Z,d<4294967296)/\
   Hid (lv 4294967296 Z+c*4294967296^(off+k)=lv 4294967296 U+4294967296^off*lv 4294967296 (V.take k))/\Hid (Z.take off=U.take off)/\Hid (∀j,off+k<=j->Z.getD j 0=U.getD j 0)/\
   Row wr bu 151 (nums .u32 Z)/\w.grownBy wr (some bu)/\Hid (wr.heap.size=w.heap.size)) (fun _ i _=>V.length-(intOf i).toNat)
 case atStart=>exact⟨0,0,U,Nat.zero_le _,rfl,rfl,ω,rfl,HU.out,by simp[Hid,lv],rfl,fun _ _=>rfl,hU,World.grownBy.refl _ _,rfl⟩
 case round=>
  obtain⟨k,c,Z,hk,rfl,rfl,hc,hZl,hZ,hlv,htk,habove,hRk,hgk,hsz⟩:=hrel;by_cases hlt:k<V.length
  .obtain⟨y,hy⟩:∃y:Nat,y=V.getD k 0:=⟨_,rfl⟩;have hyl:y<4294967296:=by rw[hy];exact Zs ω HV.out k
   have hcy:=(hV.grown hgk (fun e=>hne (sI e).symm)).int (i:=k) hlt;rw[<-hy]at hcy;obtain⟨u,hu⟩:∃u:Nat,u=Z.getD (off+k) 0:=⟨_,rfl⟩;have hul:u<4294967296:=by rw[hu];exact Zs ω hZ.out _
   have hcu:=hRk.int (i:=off+k) (by have:=hZl.out;omega);rw[<-hu]at hcu;have hfu:=hRk.frozen (off+k);obtain⟨d,c',e1,e2,hd,hc',h5⟩:=Zwe hc hul hyl;have hst:=Lib.hid (ZsX (B:=4294967296) (Y:=V) (d:=d) (c':=c') (by have:=hZl.out;omega) hlv.out (by rw[<-hu,<-hy];exact h5));have E1:=Lib.hid e1;have E2:=Lib.hid e2;clear hy hu e1 e2 h5;go_wp2
   go_roundw
   case rel=>
    rw[E1.out,E2.out];have hR':=hRk.int_set (off+k) d;refine⟨k+1,c',Z.set (off+k) d,ω,by go_num,rfl,hc',by have:=hZl.out;simp[Hid,this],ZaQ hZ.out hd,hst.out,?_,?_,hR',ZA hgk _ _,Z4 hsz _ _⟩
    .show _=_;rw[ZbI ω];exact htk.out
    .intro j hj;rw[ZG ω];exact habove.out j ω
   case measure=>simp[intOf]<;>omega
  .obtain⟨u,hu⟩:∃u:Nat,u=Z.getD (off+V.length) 0:=⟨_,rfl⟩;have hul:u<4294967296:=by rw[hu];exact Zs ω hZ.out _
   have hcu:=hRk.int (i:=off+V.length) (by have:=hZl.out;omega);rw[<-hu]at hcu;have hfu:=hRk.frozen (off+V.length);obtain⟨d,hd⟩:∃d,d=(u+c)%4294967296:=⟨_,rfl⟩;have hdl:d<4294967296:=ω;have HK:k=V.length:=ω;have hst:=Lib.hid (show lv 4294967296 (Z.set (off+V.length) d)+(u+c)/4294967296*4294967296^(off+V.length+1)=lv 4294967296 U+4294967296^off*lv 4294967296 V by
    have hs:=Zcz (B:=4294967296) (l:=Z) (j:=off+V.length) (d:=d) (by have:=hZl.out;omega);have h1:=hlv.out;rw[HK,Zg _ _ (Nat.le_refl _)]at h1;rw[<-hu]at hs;have h5:d+(u+c)/4294967296*4294967296=u+c:=ω;have g:=congrArg (fun v=>4294967296^(off+V.length)*v) h5;simp only[Nat.mul_add]at g;rw[Nat.mul_comm c]at h1;rw[Nat.pow_succ,show (u+c)/4294967296*(4294967296^(off+V.length)*4294967296)=4294967296^(off+V.length)*((u+c)/4294967296*4294967296) by rw[Nat.mul_left_comm]];omega)
   have HKK:=Lib.hid HK;have E1:=Lib.hid (show ((u:Int)+(c:Int))%4294967296=(d:Int) by omega);clear hu hd HK;go_wp2
   go_end0
   have hR':=hRk.int_set (off+V.length) d;refine⟨rfl,(u+c)/4294967296,Z.set (off+V.length) d,by have:=hZl.out;simp[this],ZaQ hZ.out hdl,hst.out,?_,?_,?_,?_,?_⟩
   .rw[ZbI ω];exact htk.out
   .intro j hj;rw[ZG ω];exact habove.out j (by have:=HKK.out;omega)
   .rw[E1.out];exact hR'
   .exact ZA hgk _ _
   .exact Z4 hsz _ _
end Go.Proofs.YtnhfpbcbhnfeaaaGreatDoor.natF
namespace Go.Proofs.YtnhfpbcbhnfeaaaGreatDoor.natG
open Go.RowKit num mem natA natB natC natD natE natF
theorem Zp9{c x s:Nat}(hc:c<2^s)(hx:x<4294967296)(hs:s<=31):∃d c':Nat,
  bits .or .u32 (c:Int) (IntKind.u64.wrap ((x:Int)*2^s)%4294967296)=(d:Int)/\IntKind.u64.wrap ((x:Int)*2^s)/4294967296%4294967296=(c':Int)/\d<4294967296/\c'<2^s/\d+c'*4294967296=c+x*2^s:=by
 have hp:2^s<=2^31:=Nat.pow_le_pow_right ω hs;have hp31:(2:Nat)^31=2147483648:=ωd;have hm:x*2^s<=4294967295*2147483648:=Nat.mul_le_mul ω ω;have e:IntKind.u64.wrap ((x:Int)*2^s)=((x*2^s:Nat):Int):=by
  have:((x:Int)*2^s)=((x*2^s:Nat):Int):=by simp
  rw[this,IntKind.wrap_u64];omega
 rw[e];have h32:(4294967296:Nat)=2^(32-s)*2^s:=by
  rw[<-Nat.pow_add,show 32-s+s=32 by omega]
 have hq:x*2^s%4294967296=x%2^(32-s)*2^s:=by
  conv=>lhs;rw[h32]
  exact Nat.mul_mod_mul_right _ _ _
 have hql:x%2^(32-s)<2^(32-s):=Nat.mod_lt _ (Nat.pow_pos ω);have hd:x%2^(32-s)*2^s+c<4294967296:=by
  have:(x%2^(32-s)+1)*2^s<=2^(32-s)*2^s:=Nat.mul_le_mul_right _ hql;rw[<-h32,Nat.add_mul]at this;omega
 have hor:c|||x%2^(32-s)*2^s=x%2^(32-s)*2^s+c:=by rw[Nat.or_comm];exact ZbM s _ _ hc
 refine⟨x*2^s%4294967296+c,x*2^s/4294967296,?_,ω,ω,?_,ω⟩
 .have:((x*2^s:Nat):Int)%4294967296=((x*2^s%4294967296:Nat):Int):=ω;rw[this,u32_or_nat _ _ ω ω,hq,hor]
 .rw[Nat.div_lt_iff_lt_mul ω,Nat.mul_comm];exact Nat.mul_lt_mul_of_pos_left hx (Nat.pow_pos ω)
theorem Zp8{Z:List Nat}{k N c d c':Nat}(hZ:Z.length=k)(hk:k<N):(((Z++[c])++replicate (N-k) 0).set k d).set (k+1) c'=((Z++[d])++[c'])++replicate (N-(k+1)) 0:=by
 have e:((Z++[c])++replicate (N-k) 0).set k d=(Z++[d])++replicate (N-k) 0:=by
  rw[append_assoc,List.set_append_right _ _ ω,show k-Z.length=0 by omega,append_assoc];rfl
 rw[e];have:=Zag (Z:=Z++[d]) (k:=k+1) (N:=N+1) (n:=c') (by simp[hZ]) ω
 rwa[show N+1-(k+1)=N-k by omega,show N+1-(k+1+1)=N-(k+1) by omega]at this
theorem Zp5{B S c d c' k:Nat}{Z X:List Nat}(hZ:Z.length=k)(h:lv B Z+c*B^k=lv B (X.take k)*S)(hs:d+c'*B=c+X.getD k 0*S):
  lv B (Z++[d])+c'*B^(k+1)=lv B (X.take (k+1))*S:=by
 rw[ZbP,Zp,hZ,Nat.pow_succ,Nat.add_mul,<-h];have g:=congrArg (fun v=>B^k*v) hs;simp only[Nat.mul_add]at g;rw[show c'*(B^k*B)=B^k*(c'*B) by rw[Nat.mul_left_comm],Nat.mul_assoc (B^k),Nat.mul_comm c];omega
theorem Zlt(bx cx:Nat)(X:List Nat)(s:Nat)(w:World)(hX:Row w bx 151 (nums .u32 X))(lX:∀d∈X,d<4294967296)(hs:s<=31)(hmax:X.length<=35184372088832):
  Calls Tryz.prog 227 #[.slice (some ⟨bx,0,none⟩) X.length cx,.int .i64 s] w fun e w'=>∃(b:Nat)(Z:List Nat),e= .returned (.slice (some ⟨b,0,none⟩) (X.length+1) (X.length+1))/\w.heap.size<=b/\
   Z.length=X.length+1/\(∀d∈Z,d<4294967296)/\lv 4294967296 Z=lv 4294967296 X*2^s/\Row w' b 151 (nums .u32 Z)/\Below w.heap.size w w':=by
 have HX:=Lib.hid lX;have hbx:=hX.lt;clear lX
 go_enter Tryz.func227,Tryz.ntmps227
 go_wp2_with (first|(at_make;refine Zu _ rfl _ _ _ rfl 151 _ 4 Tryz.underlying49 info151 rfl _ _ _ _ (X.length+1) rfl rfl ω ω ω ω ?_));intro w1 hR1 hg1 hsz1;have hX1:=hX.grown hg1 (by simp);have hB1:Below w.heap.size w w1:=(Below.refl _ _).grown hg1 (Nat.le_refl _) (by simp);have hR0:Row w1 w.heap.size 151 (nums .u32 (([]++[0])++replicate (X.length-0) 0)):=by
  have e:([]++[0])++replicate (X.length-0) 0=replicate (X.length+1) 0:=by simp[List.replicate_succ]
  rw[e];simpa[nums]using hR1
 clear hR1 hg1 hX;go_wp2
 go_loopw [15] (fun i wr=>∃(k c:Nat)(Z:List Nat),k<=X.length/\i= .int .i64 k/\Hid (c<2^s)/\Hid (Z.length=k)/\Hid (∀d∈Z,d<4294967296)/\
   Hid (lv 4294967296 Z+c*4294967296^k=lv 4294967296 (X.take k)*2^s)/\Row wr w.heap.size 151 (nums .u32 ((Z++[c])++replicate (X.length-k) 0))/\w1.grownBy wr (some w.heap.size)) (fun i _=>X.length-(intOf i).toNat)
 case atStart=>exact⟨0,0, [],Nat.zero_le _,rfl,Nat.pow_pos ω,rfl,(by intro d hd;cases hd),by simp[Hid,lv],hR0,World.grownBy.refl _ _⟩
 case round=>
  obtain⟨k,c,Z,hk,rfl,hc,hZl,hZ,hlv,hRk,hgk⟩:=hrel;clear hR0;by_cases hlt:k<X.length
  .obtain⟨x,hx⟩:∃x:Nat,x=X.getD k 0:=⟨_,rfl⟩;have hxl:x<4294967296:=by rw[hx];exact Zs ω HX.out k
   have hcx:=(hX1.grown hgk ωi).int (i:=k) hlt;rw[<-hx]at hcx;have c1:=hRk.int (i:=k) (by have:=hZl.out;simp;omega);have c2:=hRk.int (i:=k+1) (by have:=hZl.out;simp;omega);have f1:=hRk.frozen k;have f2:=hRk.frozen (k+1);have e1:((Z++[c])++replicate (X.length-k) 0).getD k 0=c:=by
    have:=hZl.out;simp[getD,this]
   rw[e1]at c1;obtain⟨d,c',e2,e3,hd,hc',h5⟩:=Zp9 hc.out hxl hs;have hst:=Lib.hid (Zp5 (B:=4294967296) (X:=X) (d:=d) (c':=c') hZl.out hlv.out (by rw[<-hx];exact h5));have E2:=Lib.hid e2;have E3:=Lib.hid e3;have Hc':=Lib.hid hc';clear hx e1 e2 e3 h5 hc';go_wp2
   go_roundw
   case rel=>
    rw[E2.out,E3.out];have hR':=(hRk.int_set k d).int_set (k+1) c';rw[Zp8 hZl.out hlt]at hR';exact⟨k+1,c',Z++[d],ω,by go_num,Hc'.out,by have:=hZl.out;simp[Hid,this],ZE hZ.out hd,hst.out,hR',ZA (ZA hgk _ _) _ _⟩
   case measure=>simp[intOf]<;>omega
  .obtain rfl:k=X.length:=ω;go_wp2
   go_ret
   rw[Nat.sub_self,List.replicate_zero,List.append_nil]at hRk;have hcW:c<4294967296:=by
    have h1:=hc.out;have h2:2^s<=2^31:=Nat.pow_le_pow_right ω hs;have h3:(2:Nat)^31=2147483648:=ωd;omega
   refine⟨w.heap.size,Z++[c],rfl,Nat.le_refl _,by have:=hZl.out;simp[this],ZE hZ.out hcW,?_,hRk,hB1.grown hgk hB1.size (by intro j hj;have:=sI hj;omega)⟩;rw[ZbP,hZl.out,Nat.mul_comm];have h1:=hlv.out;rw[Zg _ _ (Nat.le_refl _)]at h1;exact h1
end Go.Proofs.YtnhfpbcbhnfeaaaGreatDoor.natG
namespace Go.Proofs.YtnhfpbcbhnfeaaaGreatDoor.natH
open Go.RowKit num mem natA natB natC natD natE natF natG
theorem lead{x:Nat}(h0:0<x)(hx:x<4294967296):∃s:Nat,(32:Int)-(Lib.bitLen ((x:Int).toNat):Int)=(s:Int)/\s<=31/\(x+1)*2^s<=4294967296:=by
 have h:=Lib.bitLenAux_bounds 64 x ω ω;have hle:=Lib.bitLen_le x 32 ω (by simpa using hx);rw[Int.toNat_natCast];have e:Lib.bitLen x=Lib.bitLenAux 64 x:=rfl;rw[<-e]at h;obtain⟨h1,h2,h3⟩:=h;generalize Lib.bitLen x=b at*;refine⟨32-b,ω,ω,?_⟩;have:(x+1)*2^(32-b)<=2^b*2^(32-b):=Nat.mul_le_mul_right _ h3;rw[<-Nat.pow_add,show b+(32-b)=32 by omega]at this;simpa using this
theorem Zsu{x y s t:Nat}(hx:x<4294967296)(hy:y<4294967296)(hs:s<=31)(ht:t=32-s):∃z:Nat,
  bits .or .u32 ((x:Int)/2^s) (IntKind.u64.wrap ((y:Int)*2^t)%4294967296)=(z:Int)/\z<4294967296/\z*2^s+x%2^s=x+y%2^s*4294967296:=by
 have h32:(4294967296:Nat)=2^s*2^t:=by rw[<-Nat.pow_add,ht,show s+(32-s)=32 by omega]
 have ht32:2^t<=2^32:=Nat.pow_le_pow_right ω ω;have h2:(2:Nat)^32=4294967296:=ωd;have hm:y*2^t<=4294967295*4294967296:=Nat.mul_le_mul ω ω;have e1:IntKind.u64.wrap ((y:Int)*2^t)=((y*2^t:Nat):Int):=by
  have:((y:Int)*2^t)=((y*2^t:Nat):Int):=by simp
  rw[this,IntKind.wrap_u64];omega
 have e2:((y*2^t:Nat):Int)%4294967296=((y%2^s*2^t:Nat):Int):=by
  have:y*2^t%4294967296=y%2^s*2^t:=by
   conv=>lhs;rw[h32]
   exact Nat.mul_mod_mul_right _ _ _
  omega
 have e3:((x:Int)/2^s)=((x/2^s:Nat):Int):=by simp
 have hs0:0<2^s:=Nat.pow_pos ω;have hlo:x/2^s<2^t:=by
  rw[Nat.div_lt_iff_lt_mul hs0,Nat.mul_comm,<-h32];exact hx
 have hq:y%2^s<2^s:=Nat.mod_lt _ hs0;have hz:y%2^s*2^t+x/2^s<4294967296:=by
  have:(y%2^s+1)*2^t<=2^s*2^t:=Nat.mul_le_mul_right _ hq;rw[<-h32,Nat.add_mul]at this;omega
 have hor:x/2^s|||y%2^s*2^t=y%2^s*2^t+x/2^s:=by rw[Nat.or_comm];exact ZbM t _ _ hlo
 refine⟨y%2^s*2^t+x/2^s,?_,hz,?_⟩
 .rw[e1,e2,e3,u32_or_nat _ _ ω ω,hor]
 .rw[Nat.add_mul,Nat.mul_assoc,Nat.mul_comm (2^t),<-h32];have:=Nat.div_add_mod x (2^s);rw[Nat.mul_comm]at this;omega
theorem ZkU{B S n k z r0:Nat}{Z U:List Nat}(_hk:k<n)(hZ:Z.length=k)(h:lv B Z*S+r0=lv B (U.take k)+U.getD k 0%S*B^k)(hz:z*S+U.getD k 0%S=U.getD k 0+(if k+1<n then U.getD (k+1) 0%S else 0)*B):
  lv B (Z++[z])*S+r0=lv B (U.take (k+1))+(if k+1<n then U.getD (k+1) 0%S*B^(k+1) else 0):=by
 rw[ZbP,Zp,hZ,Nat.pow_succ,Nat.add_mul,Nat.mul_assoc];have g:=congrArg (fun v=>B^k*v) hz;simp only[Nat.mul_add]at g;rw[Nat.mul_comm (U.getD k 0%S)]at h;by_cases hl:k+1<n
 .rw[if_pos hl]at g⊢;rw[show U.getD (k+1) 0%S*(B^k*B)=B^k*(U.getD (k+1) 0%S*B) by rw[Nat.mul_left_comm]];omega
 .rw[if_neg hl]at g⊢;rw[Nat.zero_mul,Nat.mul_zero]at g;omega
theorem Zx8{a b c d:Value}(h:a=c)(h':b=d):Ending.returned (.tuple #[a,b])= .returned (.tuple #[c,d]):=by rw[h,h']
theorem Row.drewN{w:World}{b T:Nat}{l:List Value}(h:Row w b T l)(q:Nat):Row (w.drewN q) b T l:=h
theorem Pre.drewN{w:World}{b T cap:Nat}{l:List Value}(h:Pre w b T cap l)(q:Nat):Pre (w.drewN q) b T cap l:=h
theorem Below.drewN'{B:Nat}{a w:World}(h:Below B a w)(q:Nat):Below B a (w.drewN q):=⟨h.os,h.tape,h.output,h.size,h.block⟩
set_option maxRecDepth 100000 in
theorem Ztp(bx by' cx cy:Nat)(X Y:List Nat)(w:World)(hX:Row w bx 151 (nums .u32 X))(hY:Row w by' 151 (nums .u32 Y))(hlX:∀d∈X,d<4294967296)(hlY:∀d∈Y,d<4294967296)
 (hn:2<=Y.length)(hnm:Y.length<=X.length)(htop:0<Y.getD (Y.length-1) 0)(hmax:X.length<=35184372088832):
  Calls Tryz.prog 198 #[.slice (some ⟨bx,0,none⟩) X.length cx,.slice (some ⟨by',0,none⟩) Y.length cy] w fun e w'=>∃(bq bu:Nat)(Q R:List Nat),
   e= .returned (.tuple #[.slice (some ⟨bq,0,none⟩) Q.length Q.length,.slice (some ⟨bu,0,none⟩) R.length (X.length+1)])/\(∀d∈Q,d<4294967296)/\(∀d∈R,d<4294967296)/\Q.length<=X.length+1/\R.length<=X.length/\
   lv 4294967296 Q=lv 4294967296 X/lv 4294967296 Y/\lv 4294967296 R=lv 4294967296 X%lv 4294967296 Y/\Row w' bq 151 (nums .u32 Q)/\Pre w' bu 151 (X.length+1) (nums .u32 R)/\Below w.heap.size w w':=by
 have HX:=Lib.hid hlX;have HY:=Lib.hid hlY;obtain⟨n,hn'⟩:∃n,Y.length=n:=⟨_,rfl⟩;obtain⟨m,hm'⟩:∃m,X.length=m:=⟨_,rfl⟩;rw[hn']at hn hnm htop;rw[hm']at hnm hmax;obtain⟨y,hy⟩:∃y,y=Y.getD (n-1) 0:=⟨_,rfl⟩;rw[<-hy]at htop;have hyl:y<4294967296:=by rw[hy];exact Zs ω hlY _
 have hcy:=hY.int (i:=n-1) ω;rw[<-hy]at hcy;have hbx:=hX.lt;have hby:=hY.lt;obtain⟨s,hs,hs31,hhi⟩:=lead htop hyl;have Htop:=Lib.hid htop;have Hs:=Lib.hid hs;have HS:=Lib.hid hhi;have Hn:=Lib.hid hn';have Hm:=Lib.hid hm';have Hy:=Lib.hid hy;rw[hn',hm'];have hp:((n:Int)-1)=((n-1:Nat):Int):=ω;have hp2:n-1<n:=ω;clear hlX hlY hn' hm' hy hs hhi
 go_enter Tryz.func198,Tryz.ntmps198
 go_wp2_with fail;refine(Tryz.bits_LeadingZeros32 _ _ ω ω).mono ?_;rintro e w' ⟨rfl,hw⟩;obtain rfl:=hw.symm;rw[Hs.out]
 go_upto_region 3 with fail
 go_cut [8,9] (fun s8 s9 wx=>∃(bu bv:Nat)(U V:List Nat),s8= .slice (some ⟨bu,0,none⟩) (m+1) (m+1)/\s9= .slice (some ⟨bv,0,none⟩) n (n+1)/\w.heap.size<=bu/\bu<bv/\Hid (U.length=m+1)/\Hid (V.length=n)/\Hid (∀d∈U,d<4294967296)/\Hid (∀d∈V,d<4294967296)/\
   Hid (lv 4294967296 U=lv 4294967296 X*2^s)/\Hid (lv 4294967296 V=lv 4294967296 Y*2^s)/\Hid (1<=V.getD (n-1) 0)/\Row wx bu 151 (nums .u32 U)/\Pre wx bv 151 (n+1) (nums .u32 V)/\Below w.heap.size w wx)
 case first=>
  have hL1:=fun (wx:World) (h:Row wx bx 151 (nums .u32 X))=>Zlt bx cx X s wx h HX.out hs31 (by rw[Hm.out];exact hmax);have hL2:=fun (wx:World) (h:Row wx by' 151 (nums .u32 Y))=>Zlt by' cy Y s wx h HY.out hs31 (by rw[Hn.out];omega);simp only[Hm.out,Hn.out]at hL1 hL2;have HL1:=Lib.hid hL1;have HL2:=Lib.hid hL2;have q1:(0:Int)<=(n:Int):=ω;have q2:(n:Int)<=(n:Int)+1:=ω;clear hL1 hL2 hcy hp hp2 htop hyl
  go_region_with (first|(go_at_call_of 227 (Value.slice (some ⟨bx,0,none⟩) m cx);refine(HL1.out _ ?_).mono ?_;exact hX;rintro e wa ⟨bu,U,rfl,gu1,gu2,gu3,gu4,gu5,gu6⟩)|(go_at_call_of 227 (Value.slice (some ⟨by',0,none⟩) n cy);refine(HL2.out _ ?_).mono ?_;exact hY.drew.below gu6 hby;rintro e wb ⟨bv,V,rfl,gv1,gv2,gv3,gv4,gv5,gv6⟩))
  all_goals
   go_wp2_with fail
   go_meet
   obtain⟨k1,k2,k3⟩:=ZpC (B:=4294967296) (S:=2^s) (y:=y) ω ω gv2 HY.out Hn.out Hy.out Htop.out HS.out (Nat.pow_pos ω) gv3 gv4;have gr:=gv5.pre.take n;rw[Za3,gv2,ZeM]at gr;have hlt:=gu5.lt;exact⟨bu,bv,U,V.take n,rfl,rfl,gu1,ω,gu2,k1,gu3,fun d hd=>gv3 d (List.mem_of_mem_take hd),gu4,k2,k3,gu5.below gv6 hlt,gr,((Below.refl w.heap.size w).drew.trans gu6).trans (gv6.mono gu6.size)⟩
 case rest=>
  obtain⟨bu,bv,U0,V,rfl,rfl,hbu,hbuv,hUl,hVl,hU0,hV,hlvU,hlvV,hVt,hRu,hPv,hB1⟩:=hcut;clear hcy hp hp2 htop hyl hX hY;obtain⟨L,hL⟩:∃L:Nat,(m:Int)+1-(n:Int)=(L:Int):=⟨m+1-n,ω⟩;have HL:=Lib.hid (show L=m+1-n/\1<=L by omega);have hL1:1<=L:=ω;have hLm:L<=35184372088832:=ω
  go_upto_region 5 with (first|(at_make;refine Zu _ rfl _ _ _ rfl 151 _ 4 Tryz.underlying49 info151 rfl _ _ _ _ L rfl rfl ω ω ω ω ?_))
  intro w2 hRq hg2 hsz2;obtain⟨bq,hbq⟩:∃bq,bq=wc.heap.size:=⟨_,rfl⟩;have hRu2:=hRu.grown hg2 (by simp);have hPv2:=hPv.grown hg2 (by simp);have hB2:Below w.heap.size w w2:=hB1.grown hg2 hB1.size (by simp);have hRq0:Row w2 bq 151 (nums .u32 (replicate L 0)):=by rw[hbq];simpa[nums]using hRq
  have hbu2:bu<bq:=by rw[hbq];exact hRu.lt
  have hbv2:bv<bq:=by rw[hbq];exact hPv.lt
  have hbq2:w.heap.size<=bq:=ω;rw[<-hbq];have hst0:=Lib.hid (show lv 4294967296 (U0.drop L)<lv 4294967296 V by
   rw[hlvV.out];have hl:=HL.out.1;have h1:=Z6 4294967296 U0 L (by rw[hUl.out];omega);have h2:lv 4294967296 X<4294967296^m:=by rw[<-Hm.out];exact ZdI HX.out
   have h3:lv 4294967296 Y>=4294967296^(n-1):=by
    have h4:=Zw 4294967296 Y (n-1) (by rw[Hn.out];omega);rw[show n-1+1=n by omega,Zg _ Y (by rw[Hn.out];exact Nat.le_refl _),<-Hy.out]at h4;have h5:4294967296^(n-1)*1<=4294967296^(n-1)*y:=Nat.mul_le_mul_left _ Htop.out;omega
   rw[hlvU.out]at h1;have h6:4294967296^m=4294967296^L*4294967296^(n-1):=by rw[<-Nat.pow_add];congr 1;omega
   have h7:lv 4294967296 X*2^s<4294967296^m*2^s:=Nat.mul_lt_mul_of_pos_right h2 (Nat.pow_pos ω);have h8:4294967296^(n-1)*2^s<=lv 4294967296 Y*2^s:=Nat.mul_le_mul_right _ h3;rw[h6,Nat.mul_assoc]at h7;have h9:4294967296^L*lv 4294967296 (U0.drop L)<4294967296^L*(4294967296^(n-1)*2^s):=ω;exact Nat.lt_of_lt_of_le (Nat.lt_of_mul_lt_mul_left h9) h8)
  clear hRu hPv hRq hg2 hB1 hsz2 hbq;go_wp2_with fail
  go_loopg [10] L (fun g s10 wr=>∃(j:Nat)(e:Int)(U Q:List Nat),g=j/\s10= .int .i64 e/\Hid (e=(j:Int)-1)/\j<=L/\Hid (U.length=m+1)/\Hid (∀d∈U,d<4294967296)/\Hid (Q.length=L)/\Hid (∀d∈Q,d<4294967296)/\
   Hid (lv 4294967296 U+lv 4294967296 (Q.drop j)*4294967296^j*lv 4294967296 V=lv 4294967296 U0)/\Hid (lv 4294967296 (U.drop j)<lv 4294967296 V)/\Row wr bu 151 (nums .u32 U)/\Row wr bq 151 (nums .u32 Q)/\Pre wr bv 151 (n+1) (nums .u32 V)/\Below w.heap.size w wr)
  case atStart=>
   refine⟨L,_,U0,replicate L 0,rfl,rfl,rfl,Nat.le_refl _,hUl,hU0,by simp[Hid],?_,?_,hst0,hRu2,hRq0,hPv2,hB2⟩
   .intro d hd;have:=List.eq_of_mem_replicate hd;omega
   .show _=_;rw[List.drop_of_length_le (by simp)];simp[lv]
  case round=>
   obtain⟨wo,rfl⟩:∃wo:World,wo=wr:=⟨_,rfl⟩;obtain⟨j,e,U,Q,rfl,rfl,he,hj,hUl1,hU1,hQl1,hQ1,hinv,hrem,hRu1,hRq1,hPv1,hBo⟩:=hrel;clear hRu2 hPv2 hB2 hRq0 hst0 hUl hU0;rcases gk with _|k
   .obtain rfl:e=-1:=by have:=he.out;simpa using this
    have hnm1:n<=m+1:=ω;go_wp2_with fail
    go_loopw [146] (fun i wr=>∃(k:Nat)(Z:List Nat),k<=n/\i= .int .i64 k/\Hid (Z.length=k)/\Hid (∀d∈Z,d<4294967296)/\Hid (lv 4294967296 Z*2^s+U.getD 0 0%2^s=lv 4294967296 (U.take k)+(if k<n then U.getD k 0%2^s*4294967296^k else 0))/\
     Row wr bu 151 (nums .u32 (Z++U.drop k))/\Row wr bq 151 (nums .u32 Q)/\Below w.heap.size w wr) (fun i _=>n-(intOf i).toNat)
    case atStart=>exact⟨0, [],Nat.zero_le _,rfl,rfl,(by intro d hd;cases hd),by show _=_;rw[if_pos ω];simp[lv],hRu1,hRq1,hBo⟩
    case round=>
     obtain⟨k,Z,hk,rfl,hZl,hZ,hlv,hRk,hRqk,hBk⟩:=hrel;clear hRu1 hRq1 hPv1 hBo;by_cases hlt:k<n
     .obtain⟨x,hx⟩:∃x,x=U.getD k 0:=⟨_,rfl⟩;obtain⟨x',hx'⟩:∃x,x=U.getD (k+1) 0:=⟨_,rfl⟩;have hxl:x<4294967296:=by rw[hx];exact Zs ω hU1.out _
      have hxl':x'<4294967296:=by rw[hx'];exact Zs ω hU1.out _
      have c1:=hRk.int (i:=k) (by have:=hZl.out;have:=hUl1.out;simp;omega);rw[Zah hZl.out,<-hx]at c1;have f1:=hRk.frozen k;by_cases hlast:k+1<n
      .have c2:=hRk.int (i:=k+1) (by have:=hZl.out;have:=hUl1.out;simp;omega);rw[show (Z++U.drop k).getD (k+1) 0=x' by have:=hZl.out;rw[hx'];simp[getD,this,List.getElem?_append_right,List.getElem?_drop]]at c2;obtain⟨t,ht⟩:∃t:Nat,t=32-s:=⟨_,rfl⟩;have e1:IntKind.i64.wrap (32-(s:Int))=(t:Int):=by rw[IntWalk.i64_in _ ω];omega
       have ht32:t<=32:=ω;have Ht:=Lib.hid ht;have Hx:=Lib.hid (And.intro hx hx');clear ht hx hx';obtain⟨z,ez,hz,hzs⟩:=Zsu hxl hxl' hs31 Ht.out;have Hzs:=Lib.hid hzs;have Ez:=Lib.hid ez;clear hzs ez;go_wp2_with fail
       go_region
       clear e1;go_wp2_with fail;rw[Ez.out]
       go_roundw
       case rel=>
        have hR':=(hRk.set k (.int .u32 ((x:Int)/2^s))).set k (.int .u32 ((z:Nat):Int));rw[List.set_set,Zem,ZS hZl.out (by rw[hUl1.out];omega)]at hR';refine⟨k+1,Z++[z],ω,by go_num,by have:=hZl.out;simp[Hid,this],ZE hZ.out hz,?_,hR'.drew,(((hRqk.set_ne (by show bu≠bq;omega) _).set_ne (by show bu≠bq;omega) _)).drew,((hBk.setCell hbu _).setCell hbu _).drew⟩;have h1:=hlv.out;rw[if_pos hlt]at h1;exact ZkU hlt hZl.out h1 (by rw[if_pos hlast,<-Hx.out.1,<-Hx.out.2];exact Hzs.out)
       case measure=>simp[intOf]<;>omega
      .have hz:x/2^s<4294967296:=Nat.lt_of_le_of_lt (Nat.div_le_self _ _) hxl;have ez:((x:Int)/2^s)=((x/2^s:Nat):Int):=by simp
       have Ez:=Lib.hid ez;have Hx:=Lib.hid hx;clear ez hx hx';go_wp2_with fail
       go_roundw
       case rel=>
        have hR':=hRk.int_set k (x/2^s);rw[ZS hZl.out (by rw[hUl1.out];omega),<-Ez.out]at hR';refine⟨k+1,Z++[x/2^s],ω,by go_num,by have:=hZl.out;simp[Hid,this],ZE hZ.out hz,?_,hR',hRqk.set_ne (by show bu≠bq;omega) _,hBk.setCell hbu _⟩;have h1:=hlv.out;rw[if_pos hlt]at h1;refine ZkU hlt hZl.out h1 ?_;rw[if_neg hlast,<-Hx.out,Nat.zero_mul,Nat.add_zero,Nat.mul_comm];exact Nat.div_add_mod x (2^s)
       case measure=>simp[intOf]<;>omega
     .obtain rfl:k=n:=ω;have hfin:=hlv.out;rw[if_neg ω,Nat.add_zero]at hfin;have hVn:lv 4294967296 V<4294967296^k:=by rw[<-hVl.out];exact ZdI hV.out
      have hU0:lv 4294967296 U<lv 4294967296 V:=by have:=hrem.out;simpa using this
      have hhz:=Zdi (B:=4294967296) (n:=k) (l:=U) (by rw[hUl1.out];omega) ω;have hsp:=Z6 4294967296 U k (by rw[hUl1.out];omega);rw[hhz,Nat.mul_zero,Nat.add_zero]at hsp;have hin:=hinv.out;rw[List.drop_zero,Nat.pow_zero,Nat.mul_one,hlvU.out]at hin;have hS0:0<2^s:=Nat.pow_pos ω;have hV0:0<lv 4294967296 V:=ω;have hqv:lv 4294967296 Q=lv 4294967296 X/lv 4294967296 Y:=by
       have h1:lv 4294967296 X*2^s/lv 4294967296 V=lv 4294967296 Q:=by
        rw[<-hin,Nat.mul_comm (lv 4294967296 Q),Nat.add_mul_div_left _ _ hV0,Nat.div_eq_of_lt hU0,Nat.zero_add]
       rw[hlvV.out,Nat.mul_div_mul_right _ _ hS0]at h1;exact h1.symm
      have hrv:lv 4294967296 U=(lv 4294967296 X%lv 4294967296 Y)*2^s:=by
       have h1:lv 4294967296 X*2^s%lv 4294967296 V=lv 4294967296 U:=by
        rw[<-hin,Nat.add_mul_mod_self_right,Nat.mod_eq_of_lt hU0]
       rw[hlvV.out,Nat.mul_mod_mul_right]at h1;exact h1.symm
      have hzv:lv 4294967296 Z=lv 4294967296 X%lv 4294967296 Y:=by
       rw[<-hsp,hrv]at hfin;have h2:U.getD 0 0%2^s<2^s:=Nat.mod_lt _ hS0;have h3:=congrArg (fun v=>v/2^s) hfin;simp only[Nat.mul_div_cancel _ hS0]at h3;rw[Nat.add_comm,Nat.add_mul_div_right _ _ hS0,Nat.div_eq_of_lt h2,Nat.zero_add]at h3;exact h3
      have HQv:=Lib.hid hqv;have HZv:=Lib.hid hzv;have hPre:=hRk.pre.take k;rw[Za3,ZeM,List.take_append_of_le_length (by rw[hZl.out];exact Nat.le_refl _),List.take_of_length_le (by rw[hZl.out];exact Nat.le_refl _),List.length_append,List.length_drop,hZl.out,hUl1.out,show k+(m+1-k)=m+1 by omega]at hPre;clear hfin hVn hU0 hhz hsp hin hS0 hV0 hqv hrv hzv;go_wp2_with fail
      go_ret2
      have hq':Value.slice (some ⟨bq,0,none⟩) L L=Value.slice (some ⟨bq,0,none⟩) Q.length Q.length:=by rw[hQl1.out]
      have hr':Value.slice (some ⟨bu,0,none⟩) k (m+1)=Value.slice (some ⟨bu,0,none⟩) Z.length (m+1):=by rw[hZl.out]
      exact⟨bq,bu,Q,Z,Zx8 hq' hr',hQ1.out,hZ.out,by rw[hQl1.out];omega,by rw[hZl.out];omega,HQv.out,HZv.out,hRqk,hPre,hBk⟩
   .obtain rfl:e=(k:Int):=by have:=he.out;omega
    have hkn:k+n<=m:=by have:=HL.out;omega
    obtain⟨u0,hu0⟩:∃x,x=U.getD (k+n) 0:=⟨_,rfl⟩;obtain⟨u1,hu1⟩:∃x,x=U.getD (k+n-1) 0:=⟨_,rfl⟩;obtain⟨u2,hu2⟩:∃x,x=U.getD (k+n-2) 0:=⟨_,rfl⟩;obtain⟨vt,hvt⟩:∃x,x=V.getD (n-1) 0:=⟨_,rfl⟩;obtain⟨vs,hvs⟩:∃x,x=V.getD (n-2) 0:=⟨_,rfl⟩;obtain⟨q,hq⟩:∃q,q=lv 4294967296 (U.drop k)/lv 4294967296 V:=⟨_,rfl⟩;have hkr:=ZjZ (B:=4294967296) ω hn hUl1.out hVl.out hU1.out hV.out hVt.out (show k+n+1<=m+1 by omega) hrem.out;rw[<-hu0,<-hu1,<-hu2,<-hvt,<-hvs,<-hq]at hkr;have hvt1:1<=vt:=by rw[hvt];exact hVt.out
    have hul0:u0<4294967296:=by rw[hu0];exact Zs ω hU1.out _
    have hul1:u1<4294967296:=by rw[hu1];exact Zs ω hU1.out _
    have hul2:u2<4294967296:=by rw[hu2];exact Zs ω hU1.out _
    have hvlt:vt<4294967296:=by rw[hvt];exact Zs ω hV.out _
    have hvls:vs<4294967296:=by rw[hvs];exact Zs ω hV.out _
    obtain⟨p0,hp0⟩:∃p,p=k+n:=⟨_,rfl⟩;obtain⟨p1,hp1⟩:∃p,p=k+n-1:=⟨_,rfl⟩;obtain⟨p2,hp2⟩:∃p,p=k+n-2:=⟨_,rfl⟩;obtain⟨r1,hr1⟩:∃p,p=n-1:=⟨_,rfl⟩;obtain⟨r2,hr2⟩:∃p,p=n-2:=⟨_,rfl⟩;have HP:=Lib.hid (show (p0=k+n/\p1=k+n-1/\p2=k+n-2)/\r1=n-1/\r2=n-2 from⟨⟨hp0,hp1,hp2⟩,hr1,hr2⟩);have o0:p0<m+1:=ω;have o1:p1<m+1:=ω;have o2:p2<m+1:=ω;have o3:r1<n:=ω;have o4:r2<n:=ω;have c0:=hRu1.int (i:=p0) (by rw[hUl1.out];omega);have c1:=hRu1.int (i:=p1) (by rw[hUl1.out];omega);have c2:=hRu1.int (i:=p2) (by rw[hUl1.out];omega);have c3:=hPv1.int (i:=r1) (by rw[hVl.out];omega);have c4:=hPv1.int (i:=r2) (by rw[hVl.out];omega);have e0:IntKind.i64.wrap ((k:Int)+(n:Int))=(p0:Int):=by rw[IntWalk.i64_in _ ω];omega
    have e1:IntKind.i64.wrap ((p0:Int)-1)=(p1:Int):=by rw[IntWalk.i64_in _ ω];omega
    have e2:IntKind.i64.wrap ((p0:Int)-2)=(p2:Int):=by rw[IntWalk.i64_in _ ω];omega
    have e3:IntKind.i64.wrap ((n:Int)-1)=(r1:Int):=by rw[IntWalk.i64_in _ ω];omega
    have e4:IntKind.i64.wrap ((n:Int)-2)=(r2:Int):=by rw[IntWalk.i64_in _ ω];omega
    rw[<-hp0]at hu0;rw[<-hp1]at hu1;rw[<-hp2]at hu2;rw[<-hr1]at hvt;rw[<-hr2]at hvs;clear hp0 hp1 hp2 hr1 hr2;rw[<-hu0]at c0;rw[<-hu1]at c1;rw[<-hu2]at c2;rw[<-hvt]at c3;rw[<-hvs]at c4;have HK:=Lib.hid hkr;have Hq:=Lib.hid hq;have HU:=Lib.hid (show u0=U.getD p0 0/\u1=U.getD p1 0/\u2=U.getD p2 0/\vt=V.getD r1 0/\vs=V.getD r2 0 from⟨hu0,hu1,hu2,hvt,hvs⟩);obtain⟨T,hT⟩:∃T,T=u1+4294967296*u0:=⟨_,rfl⟩;have eT:bits .or .u64 ((u0:Int)*4294967296) (u1:Int)=(T:Int):=by
     have:=Zba 32 u0 u1 (by simpa using hul1) (by simp;omega);rw[hT];simp at this⊢;omega
    have HT:=Lib.hid hT;clear hkr hu0 hu1 hu2 hvt hvs hq hT;go_wp2_with fail
    go_region
    clear eT;go_wp2_with fail
    go_region
    have hTle:T<=vt*4294967296+4294967295:=by
     have:=HT.out;have h1:=HK.out.1;have h2:u0*4294967296<=vt*4294967296:=Nat.mul_le_mul_right _ h1;omega
    obtain⟨d0,hd0⟩:∃d,d=T/vt:=⟨_,rfl⟩;obtain⟨r0,hr0⟩:∃r,r=T%vt:=⟨_,rfl⟩;have hd0l:d0<=8589934591:=by
     rw[hd0];have h1:vt*4294967296+4294967295<=8589934591*vt:=ω;exact Nat.div_le_of_le_mul (by rw[Nat.mul_comm vt];omega)
    have hr0l:r0<vt:=by rw[hr0];exact Nat.mod_lt _ ω
    have hdm:d0*vt+r0=T:=by rw[hd0,hr0,Nat.mul_comm];exact Nat.div_add_mod T vt
    have hqd:q<=d0:=by
     rw[hd0,Nat.le_div_iff_mul_le ω,<-hdm];exact HK.out.2.2.1 d0 r0 (by rw[hdm,HT.out])
    have eD:IntKind.u64.wrap ((T:Int)/(vt:Int))=(d0:Int):=by
     rw[<-Int.natCast_ediv,<-hd0];exact IntWalk.u64_in _ ω
    have eR:((T:Int)%(vt:Int))=(r0:Int):=by rw[<-Int.natCast_emod,<-hr0]
    rw[eD,eR];have HTle:=Lib.hid hTle;have Hdm:=Lib.hid hdm;have Hqd:=Lib.hid hqd;have hRu3:Row wo.drew.drew bu 151 (nums .u32 U):=hRu1;have hRq3:Row wo.drew.drew bq 151 (nums .u32 Q):=hRq1;have hPv3:Pre wo.drew.drew bv 151 (n+1) (nums .u32 V):=hPv1;have hB3:Below w.heap.size w wo.drew.drew:=hBo.drew.drew;clear hTle hd0 hr0 hdm hqd eD eR hRu1 hRq1 hPv1 hBo c0 c1 c2 c3 c4;generalize wo.drew.drew=wp at*
    go_upto_block 2 with (fail)
    go_cut [12,13] (fun s12 s13 wx=>∃d:Nat,s12= .int .u64 d/\d<=4294967295/\Hid (q<=d/\d<=q+1)/\Row wx bu 151 (nums .u32 U)/\Row wx bq 151 (nums .u32 Q)/\Pre wx bv 151 (n+1) (nums .u32 V)/\Below w.heap.size w wx)
    case first=>
     go_wp2_with fail
     go_loopg [12,13] d0 (fun g s12 s13 wr=>∃(r:Nat),s12= .int .u64 g/\s13= .int .u64 r/\g<=8589934591/\r<4294967296/\Hid (g*vt+r=T)/\Hid (q<=g)/\Row wr bu 151 (nums .u32 U)/\Row wr bq 151 (nums .u32 Q)/\Pre wr bv 151 (n+1) (nums .u32 V)/\Below w.heap.size w wr)
     case atStart=>exact⟨r0,rfl,rfl,hd0l,ω,Hdm,Hqd,hRu3,hRq3,hPv3,hB3⟩
     case round=>
      obtain⟨r,rfl,rfl,hd,hr,hdm,hqd,hRu4,hRq4,hPv4,hB4⟩:=hrel;clear hRu3 hRq3 hPv3 hB3 hd0l hr0l;have c2:=hRu4.int (i:=p2) (by rw[hUl1.out];omega);have c3:=hPv4.int (i:=r1) (by rw[hVl.out];omega);have c4:=hPv4.int (i:=r2) (by rw[hVl.out];omega);rw[<-HU.out.2.2.1]at c2;rw[<-HU.out.2.2.2.1]at c3;rw[<-HU.out.2.2.2.2]at c4;by_cases hdW:4294967296<=gk
      .have hg:decide ((0:Int)<(gk:Int)/4294967296)=true:=by simp;omega
       have hq1:1<=gk/\q<=gk-1:=by have:=HK.out.2.1;omega
       have Hq1:=Lib.hid hq1;clear hq1;go_wp2_with fail
       go_quiet (fail)
       have hq1l:=Hq1.out.1;have e5:((gk:Int)-1)=((gk-1:Nat):Int):=ω;have E5:=Lib.hid e5;have hstep:=Lib.hid (show (gk-1)*vt+(r+vt)=T by
        have h1:=hdm.out;obtain⟨d,hd'⟩:∃d,gk=d+1:=⟨gk-1,ω⟩;rw[hd',Nat.add_mul,Nat.one_mul]at h1;rw[hd',Nat.add_sub_cancel];omega)
       clear e5;by_cases hbr:4294967296<=r+vt
       .have hb:decide ((0:Int)<((r:Int)+(vt:Int))/4294967296)=true:=by simp;omega
        have hfin:=Lib.hid (show gk-1<=4294967295/\gk-1<=q+1 by
         have h1:gk-1<=4294967295:=by
          apply Nat.le_of_not_lt;intro hgt;have h2:4294967297*vt<=gk*vt:=Nat.mul_le_mul_right _ ω;have h3:=hdm.out;have h4:=HTle.out;omega
         refine⟨h1,HK.out.2.2.2.2 (gk-1) (r+vt) (by rw[hstep.out,HT.out]) ?_ ω⟩;have h5:(gk-1)*vs<=4294967295*4294967295:=Nat.mul_le_mul h1 ω;have h6:4294967296*4294967296<=(r+vt)*4294967296:=Nat.mul_le_mul_right _ hbr;omega)
        go_wp2_with fail
        go_meet
        exact⟨gk-1,by rw[E5.out],hfin.out.1,⟨Hq1.out.2,hfin.out.2⟩,Row.drewN hRu4 _,Row.drewN hRq4 _,Pre.drewN hPv4 _,Below.drewN' hB4 _⟩
       .have hb:decide ((0:Int)<((r:Int)+(vt:Int))/4294967296)=false:=by simp;omega
        go_wp2_with fail
        go_roundg (gk-1)
        case measure=>omega
        case rel=>exact⟨r+vt,by rw[E5.out],rfl,ω,ω,hstep.out,Hq1.out.2,Row.drewN hRu4 _,Row.drewN hRq4 _,Pre.drewN hPv4 _,Below.drewN' hB4 _⟩
      .obtain⟨P,hP⟩:∃P,P=gk*vs:=⟨_,rfl⟩;obtain⟨S2,hS2⟩:∃S,S=r*4294967296+u2:=⟨_,rfl⟩;have hg:decide ((0:Int)<(gk:Int)/4294967296)=false:=by simp;omega
       have hPl:P<=4294967295*4294967295:=by rw[hP];exact Nat.mul_le_mul ω ω
       have eP:IntKind.u64.wrap ((gk:Int)*(vs:Int))=(P:Int):=by
        rw[<-Int.natCast_mul,<-hP];exact IntWalk.u64_in _ ω
       have eS:bits .or .u64 ((r:Int)*4294967296) (u2:Int)=(S2:Int):=by
        have:=Zba 32 r u2 (by simpa using hul2) (by simp;omega);rw[hS2];simpa using this
       by_cases htest:S2<P
       .have hq1:1<=gk/\q<=gk-1:=by
         have:=HK.out.2.2.2.1 gk r (by rw[hdm.out,HT.out]) (by rw[<-hS2,<-hP];exact htest);omega
        have Hq1:=Lib.hid hq1;clear hq1 hP hS2;go_wp2_with fail
        go_quiet (fail)
        clear eP eS;have hq1l:=Hq1.out.1;have e5:((gk:Int)-1)=((gk-1:Nat):Int):=ω;have E5:=Lib.hid e5;have hstep:=Lib.hid (show (gk-1)*vt+(r+vt)=T by
         have h1:=hdm.out;obtain⟨d,hd'⟩:∃d,gk=d+1:=⟨gk-1,ω⟩;rw[hd',Nat.add_mul,Nat.one_mul]at h1;rw[hd',Nat.add_sub_cancel];omega)
        clear e5;by_cases hbr:4294967296<=r+vt
        .have hb:decide ((0:Int)<((r:Int)+(vt:Int))/4294967296)=true:=by simp;omega
         have hfin:=Lib.hid (show gk-1<=4294967295/\gk-1<=q+1 by
          have h1:gk-1<=4294967295:=by
           apply Nat.le_of_not_lt;intro hgt;have h2:4294967297*vt<=gk*vt:=Nat.mul_le_mul_right _ ω;have h3:=hdm.out;have h4:=HTle.out;omega
          refine⟨h1,HK.out.2.2.2.2 (gk-1) (r+vt) (by rw[hstep.out,HT.out]) ?_ ω⟩;have h5:(gk-1)*vs<=4294967295*4294967295:=Nat.mul_le_mul h1 ω;have h6:4294967296*4294967296<=(r+vt)*4294967296:=Nat.mul_le_mul_right _ hbr;omega)
         go_wp2_with fail
         go_meet
         exact⟨gk-1,by rw[E5.out],hfin.out.1,⟨Hq1.out.2,hfin.out.2⟩,Row.drewN hRu4 _,Row.drewN hRq4 _,Pre.drewN hPv4 _,Below.drewN' hB4 _⟩
        .have hb:decide ((0:Int)<((r:Int)+(vt:Int))/4294967296)=false:=by simp;omega
         go_wp2_with fail
         go_roundg (gk-1)
         case measure=>omega
         case rel=>exact⟨r+vt,by rw[E5.out],rfl,ω,ω,hstep.out,Hq1.out.2,Row.drewN hRu4 _,Row.drewN hRq4 _,Pre.drewN hPv4 _,Below.drewN' hB4 _⟩
       .have hfin:=Lib.hid (show gk<=4294967295/\gk<=q+1 by
         refine⟨ω,HK.out.2.2.2.2 gk r (by rw[hdm.out,HT.out]) (by rw[<-hS2,<-hP];omega) ω⟩)
        have hnt:decide ((S2:Int)<(P:Int))=false:=by simp;omega
        clear hP hS2;go_wp2_with fail
        go_quiet (fail)
        clear eP eS;go_wp2_with fail
        go_meet
        exact⟨gk,rfl,hfin.out.1,⟨hqd.out,hfin.out.2⟩,Row.drewN hRu4 _,Row.drewN hRq4 _,Pre.drewN hPv4 _,Below.drewN' hB4 _⟩
    case rest=>
     obtain⟨d,rfl,hd,hqd2,hRu5,hRq5,hPv5,hB5⟩:=hcut;clear hRu3 hRq3 hPv3 hB3 hd0l hr0l;have hkm:k<m+1:=ω;have hkp:k<=p0:=by have:=HP.out.1.1;omega
     have hlen:=Lib.hid (show p0+1-k=n+1 by have:=HP.out.1.1;omega);have hkL:k<L:=ω;have hVpos:0<lv 4294967296 V:=by have:=hrem.out;omega
     have hVn:lv 4294967296 V<4294967296^n:=by rw[<-hVl.out];exact ZdI hV.out
     have HVp:=Lib.hid (And.intro hVpos hVn);have htake:=ZhK bu k (m+1-k) bv (n+1) (n+1) U V d wc hRu5 hPv5 ω hU1.out hV.out (by rw[hVl.out,hUl1.out];omega) (by rw[hUl1.out];omega) ω;rw[hVl.out]at htake;have Htake:=Lib.hid htake;clear htake hVpos hVn;go_wp2_with fail;rw[hlen.out];refine Htake.out.mono ?_;rintro e w5 ⟨neg,Z,rfl,hneg,hZl,hZ,hlvZ,hZt,hZa,hRu6,hg6,hs6⟩;clear Htake;have hRq6:=hRq5.grown hg6 ωi;have hPv6:=hPv5.grown hg6 ωi;have hB6:Below w.heap.size w w5:=hB5.grown hg6 hB5.size (by intro j hj;have:=sI hj;omega);clear hRu5 hRq5 hPv5 hB5 hg6 hs6;have hcq:=hRq6.int (i:=k) (by rw[hQl1.out];omega);have hfq:=hRq6.frozen k;by_cases hneg0:neg=0
     .subst hneg0;have hfit:=ZrO (B:=4294967296) (d:=d) ω hZl (by rw[hUl1.out];omega) HVp.out.1 hZt (by rw[<-Hq.out];exact hqd2.out.1) (by rw[hlvZ,Nat.zero_mul,Nat.add_zero]);have hqs:=Zic (B:=4294967296) (k:=k) (q:=d) (Q:=Q) (U':=Z) (by rw[hQl1.out];omega) hinv.out (by rw[hlvZ,Nat.zero_mul,Nat.add_zero]);have Hfit:=Lib.hid hfit;have Hqs:=Lib.hid hqs;have HZ:=Lib.hid (And.intro hZl hZ);clear hfit hqs hlvZ hZt hZa hZl hZ;go_wp2_with fail
      go_roundg k
      case measure=>omega
      case rel=>
       have hR':=hRq6.int_set k d;exact⟨k,(k:Int)-1,Z,Q.set k d,rfl,by go_num,rfl,ω,by rw[Hid,HZ.out.1];exact hUl1.out,HZ.out.2,by have:=hQl1.out;simp[Hid,this],ZaQ hQ1.out ω,Hqs.out,Hfit.out.2,hRu6.set_ne (by show bq≠bu;omega) _,hR',hPv6.set_ne (by show bq≠bv;omega) _,hB6.setCell hbq2 _⟩
     .obtain rfl:neg=1:=ω;have hlvZ1:lv 4294967296 Z+4294967296^k*(d*lv 4294967296 V)=lv 4294967296 U+4294967296^(k+n+1):=by rw[hlvZ,Nat.one_mul]
      have hd1:=Ztc (B:=4294967296) (n:=n) (V:=V) (U:=U) (k:=k) (d:=d) ω hZ hZl (by rw[hUl1.out];omega) HVp.out.2 hrem.out hZt hZa hlvZ1;have hput:=ZjG bu k (m+1-k) bv (n+1) (n+1) Z V w5 hRu6 hPv6 ω hZ hV.out (by rw[hVl.out,hZl,hUl1.out];omega) (by rw[hZl,hUl1.out];omega);rw[hVl.out]at hput;have Hput:=Lib.hid hput;have HZ:=Lib.hid (And.intro hZl (And.intro hZ (And.intro hZt hZa)));have HlvZ:=Lib.hid hlvZ1;have e5:((d:Int)-1)=((d-1:Nat):Int):=ω;have E5:=Lib.hid e5;clear hput hlvZ hlvZ1 hZt hZa hZl hZ hcq hfq e5;go_wp2_with fail;rw[hlen.out];refine Hput.out.mono ?_;rintro e w7 ⟨rfl,c,Z',hZl',hZ',hlv',hZt',hZa',hRu7,hg7,hs7⟩;clear Hput;have hRq7:=hRq6.grown hg7 ωi;have hPv7:=hPv6.grown hg7 ωi;have hB7:Below w.heap.size w w7:=hB6.grown hg7 hB6.size (by intro j hj;have:=sI hj;omega);have hcq:=hRq7.int (i:=k) (by rw[hQl1.out];omega);have hfq:=hRq7.frozen k;have hmuch:=Znu (B:=4294967296) (n:=n) (k:=k) (V:=V) (U:=U) (Z:=Z) (Z':=Z') (d:=d) (c:=c) ω hU1.out HZ.out.2.1 hZ' HZ.out.1 hZl' (by rw[hUl1.out];omega) HVp.out.2 HVp.out.1 hrem.out HZ.out.2.2.1 hZt' HZ.out.2.2.2 hZa' (by rw[<-Hq.out];exact hqd2.out.2) HlvZ.out hlv';have hqs:=Zic (B:=4294967296) (k:=k) (q:=d-1) (Q:=Q) (U':=Z') (by rw[hQl1.out];omega) hinv.out hmuch.2.2;have Hmuch:=Lib.hid hmuch;have Hqs:=Lib.hid hqs;have HZ':=Lib.hid (And.intro hZl' hZ');clear hmuch hqs hlv' hZt' hZa' hZl' hZ' hRu6 hRq6 hPv6 hB6 hg7 hs7;go_wp2_with fail;rw[E5.out];go_wp2_with fail
      go_roundg k
      case measure=>omega
      case rel=>
       have hR':=hRq7.int_set k (d-1);exact⟨k,(k:Int)-1,Z',Q.set k (d-1),rfl,by go_num,rfl,ω,by rw[Hid,HZ'.out.1,HZ.out.1];exact hUl1.out,HZ'.out.2,by have:=hQl1.out;simp[Hid,this],ZaQ hQ1.out ω,Hqs.out,Hmuch.out.2.1,hRu7.set_ne (by show bq≠bu;omega) _,hR',hPv7.set_ne (by show bq≠bv;omega) _,hB7.setCell hbq2 _⟩
end Go.Proofs.YtnhfpbcbhnfeaaaGreatDoor.natH
namespace Go.Proofs.YtnhfpbcbhnfeaaaGreatDoor.natI
open Go.RowKit num mem natA natB natC natD natE natF natG natH
theorem wlen_mono{n m:Nat}(h:m<=n):wlen 4 m<=wlen 4 n:=by
 have h1:=@ZcL 4 n ω;exact(ZaB ω).2 (Nat.lt_of_le_of_lt h h1)
theorem ZkF{n:Nat}(h:0<n):1<=wlen 4 n:=by
 rcases Nat.lt_or_ge 0 (wlen 4 n) with h1|h1
 .exact h1
 .have:=(@ZaB 4 n 0 ω).1 h1;simp at this;omega
theorem ZvO{n:Nat}(h:0<n):0<(w32 n).getD ((w32 n).length-1) 0:=by
 have hp:=ZkF h;rw[Zi];unfold w32;rw[Zhr ω];have h1:¬wlen 4 n<=wlen 4 n-1:=ω;rw[ZaB ω]at h1;have h2:=@ZcL 4 n ω;have e:(256^4)^wlen 4 n=(256^4)^(wlen 4 n-1)*256^4:=by rw[<-Nat.pow_succ,Nat.succ_eq_add_one,Nat.sub_add_cancel hp]
 have e4:(256:Nat)^4=4294967296:=ωd;rw[e4]at h1 h2 e;have hp2:0<4294967296^(wlen 4 n-1):=Nat.pow_pos ω;rw[e]at h2;generalize 4294967296^(wlen 4 n-1)=P at*;have h3:1<=n/P:=(Nat.le_div_iff_mul_le hp2).2 ω;have h4:n/P<4294967296:=Nat.div_lt_of_lt_mul h2;rw[Nat.mod_eq_of_lt h4];omega
theorem ret3{a b c d:ByteArray}(h:a=c)(h':b=d)(k:Int):Ending.returned (.tuple #[.string a,.string b,.int .i64 k])= .returned (.tuple #[.string c,.string d,.int .i64 k]):=by rw[h,h']
theorem Zri(n m:Nat)(h1:n<2^64):∃q r:Nat,IntKind.u64.wrap ((n:Int)/(m:Int))=(q:Int)/\(n:Int)%(m:Int)=(r:Int)/\q=n/m/\r=n%m/\q<2^64/\r<2^64:=by
 have h3:n/m<=n:=Nat.div_le_self _ _;have h4:n%m<=n:=Nat.mod_le _ _;refine⟨n/m,n%m,?_,by simp,rfl,rfl,ω,ω⟩;rw[<-Int.natCast_ediv];generalize n/m=q at h3;rw[IntKind.wrap_u64];omega
theorem Zo6{r x y:Nat}(hr:r<y)(hy:y<4294967296)(hx:x<4294967296):∃q r':Nat,
  IntKind.u64.wrap ((bits .or .u64 ((r:Int)*4294967296) (x:Int)).tdiv (y:Int))%4294967296=(q:Int)/\
  (bits .or .u64 ((r:Int)*4294967296) (x:Int)).tmod (y:Int)=(r':Int)/\q<4294967296/\r'<y/\q*y+r'=r*4294967296+x:=by
 have h1:bits .or .u64 ((r:Int)*4294967296) (x:Int)=((r*4294967296+x:Nat):Int):=by
  have h:=Zba 32 r x hx ω;simpa using h
 rw[h1];have hq:(r*4294967296+x)/y<4294967296:=by
  rw[Nat.div_lt_iff_lt_mul ω];have:(r+1)*4294967296<=y*4294967296:=Nat.mul_le_mul_right _ hr;omega
 have hm:(r*4294967296+x)%y<y:=Nat.mod_lt _ ω;have hd:=Nat.div_add_mod (r*4294967296+x) y;refine⟨(r*4294967296+x)/y,(r*4294967296+x)%y,?_,?_,hq,hm,?_⟩
 .rw[show ((r*4294967296+x:Nat):Int).tdiv (y:Int)=(((r*4294967296+x)/y:Nat):Int) from rfl];generalize (r*4294967296+x)/y=q at hq;rw[IntKind.wrap_u64];omega
 .rfl
 .rw[Nat.mul_comm];exact hd
theorem Zb6{n:Nat}(h:(enc n).size<=8):n<2^64:=by
 have:=(@Zh n 8).1 h;simpa using this
theorem ZhD(a b:ByteArray)(w:World)(ha:a.size<=35184372088832)(hb:b.size<=35184372088832)(hb0:0<nv b):
  Calls Tryz.prog 157 #[.string a,.string b] w fun e w'=>e= .returned (.tuple #[.string (enc (nv a/nv b)),.string (enc (nv a%nv b)),.int .i64 0])/\Below w.heap.size w w':=by
 obtain⟨n,hn⟩:∃n,nv a=n:=⟨_,rfl⟩;obtain⟨m,hm⟩:∃m,nv b=m:=⟨_,rfl⟩;have hla:(enc n).size<=35184372088832:=by rw[<-hn];exact Nat.le_trans (ZN a) ha
 have hlb:(enc m).size<=35184372088832:=by rw[<-hm];exact Nat.le_trans (ZN b) hb
 rw[hn,hm];rw[hm]at hb0;have Hn:=Lib.hid hn;have Hm:=Lib.hid hm;have Hb0:=Lib.hid hb0;clear hm hn ha hb;have hne:(enc m).data.toList= []->False:=fun h=>by rw[ZiO]at h;omega
 have hsm:0<(enc m).size:=by
  rw[<-ba_length]
  cases h:(enc m).data.toList with
  |nil=>exact(hne h).elim
  |cons x l=>simp
 have hemp:(enc m).toList.isEmpty=false:=by
  rw[Lib.toList_data]
  cases h:(enc m).data.toList with
  |nil=>exact(hne h).elim
  |cons x l=>rfl
 clear hne;by_cases hs:(enc n).size<=8/\(enc m).size<=8
 .obtain⟨h1,h2⟩:=hs;obtain⟨q,r,hq,hr,hqe,hre,hql,hrl⟩:=Zri n m (Zb6 h1);have H1:=Lib.hid (Zb6 h1);have H2:=Lib.hid (Zb6 h2);have HQ:=Lib.hid hq;have HR:=Lib.hid hr;have HQE:=Lib.hid hqe;have HRE:=Lib.hid hre;have HQL:=Lib.hid hql;have HRL:=Lib.hid hrl;clear hq hr hqe hre hql hrl
  go_enter Tryz.func157,Tryz.ntmps157
  go_wp2_with fail;refine(Zz a _).mono ?_;rintro e w' ⟨rfl,rfl⟩;rw[Hn.out];go_wp2_with fail;refine(Zz b _).mono ?_;rintro e w' ⟨rfl,rfl⟩;rw[Hm.out];go_wp2_with fail;refine(ZW n _ H1.out).mono ?_;rintro e w' ⟨rfl,rfl⟩;go_wp2_with fail;refine(ZW m _ H2.out).mono ?_;rintro e w' ⟨rfl,rfl⟩;go_wp2_with fail;rw[HQ.out];refine(ZU q _ HQL.out).mono ?_;rintro e w1 ⟨rfl,hb1⟩;go_wp2_with fail;refine(ZW n _ H1.out).mono ?_;rintro e w' ⟨rfl,rfl⟩;go_wp2_with fail;refine(ZW m _ H2.out).mono ?_;rintro e w' ⟨rfl,rfl⟩;go_wp2_with fail;rw[HR.out];refine(ZU r _ HRL.out).mono ?_;rintro e w2 ⟨rfl,hb2⟩;go_wp2_with fail
  go_ret3
  exact⟨ret3 (by rw[HQE.out]) (by rw[HRE.out]) 0,hb1.trans (hb2.mono hb1.size)⟩
 .by_cases hlt:n<m
  .have HQ:=Lib.hid (show enc (n/m)=⟨#[]⟩ by rw[Nat.div_eq_of_lt hlt,ZV]);have HR:=Lib.hid (show n%m=n from Nat.mod_eq_of_lt hlt);have HC:=Lib.hid (show cmpN n m=-1 by unfold cmpN;rw[if_pos hlt]);clear hlt
   go_enter Tryz.func157,Tryz.ntmps157
   go_wp2_with fail;refine(Zz a _).mono ?_;rintro e w' ⟨rfl,rfl⟩;rw[Hn.out];go_wp2_with fail;refine(Zz b _).mono ?_;rintro e w' ⟨rfl,rfl⟩;rw[Hm.out];go_wp2_with fail
   all_goals
    refine(ZdV _ _ _).mono ?_;rintro e w' ⟨rfl,rfl⟩;rw[Ze,Ze,HC.out];go_wp2_with fail
    go_ret3
    exact⟨ret3 HQ.out.symm (by rw[HR.out]) 0,Below.refl _ _⟩
  .have hmn:m<=n:=ω;have hms:(enc m).size<=(enc n).size:=ZaJ hmn;have hs8:8<(enc n).size:=ω;have HC:=Lib.hid (show cmpN n m=0\/cmpN n m=1 by unfold cmpN;rw[if_neg hlt];split<;>simp);have Hmn:=Lib.hid hmn;clear hmn hlt hs hms
   go_enter Tryz.func157,Tryz.ntmps157
   go_wp2_with fail;refine(Zz a _).mono ?_;rintro e w' ⟨rfl,rfl⟩;rw[Hn.out];go_wp2_with fail;refine(Zz b _).mono ?_;rintro e w' ⟨rfl,rfl⟩;rw[Hm.out];go_wp2_with fail;refine(ZdV _ _ _).mono ?_;rintro e w' ⟨rfl,rfl⟩;rw[Ze,Ze];obtain⟨c,hc⟩:∃c,cmpN n m=c:=⟨_,rfl⟩;rw[hc];have hc0:0<=c:=by have:=HC.out;omega
   clear hc;go_wp2_with fail;refine(ZaL (enc n) _ ω).mono ?_;rintro e w1 ⟨bx,rfl,hX,hbx,hb1⟩;go_wp2_with fail;refine(ZaL (enc m) _ ω).mono ?_;rintro e w2 ⟨by',rfl,hY,hby,hb2⟩;rw[Ze]at hX hY;rw[Ze,Ze];have hX2:=hX.below hb2 hX.lt;have hbxl:=hX.lt;clear hX;have hwn:=ZZ hla;have hwm:=ZZ hlb;have hwle:=wlen_mono Hmn.out;have hpos:=ZkF Hb0.out;obtain⟨p,hp⟩:∃p,wlen 4 n=p:=⟨_,rfl⟩;obtain⟨q,hq⟩:∃q,wlen 4 m=q:=⟨_,rfl⟩;rw[hp]at hwn hwle⊢;rw[hq]at hwm hwle hpos⊢;obtain⟨X,hXX⟩:∃X,X=w32 n:=⟨_,rfl⟩;obtain⟨Y,hYY⟩:∃Y,Y=w32 m:=⟨_,rfl⟩;have HX:=Lib.hid (show (∀d∈X,d<4294967296)/\lv 4294967296 X=n/\X.length=p by rw[hXX];exact⟨Zb1 _,Zbg _,by rw[Zi,hp]⟩);have HY:=Lib.hid (show (∀d∈Y,d<4294967296)/\lv 4294967296 Y=m/\Y.length=q by rw[hYY];exact⟨Zb1 _,Zbg _,by rw[Zi,hq]⟩);have HT:=Lib.hid (show 0<Y.getD (Y.length-1) 0 by rw[hYY];exact ZvO Hb0.out);rw[<-hXX]at hX2;rw[<-hYY]at hY;clear hp hq hXX hYY;by_cases hq1:q=1
   .subst hq1;obtain⟨y,hy⟩:∃y:Nat,y=Y.getD 0 0:=⟨_,rfl⟩;have hym:lv 4294967296 Y=y:=by
     have h1:=Zw 4294967296 Y 0 (by rw[HY.out.2.2];omega);rw[Zg _ Y (by rw[HY.out.2.2];omega),<-hy]at h1;simpa[lv]using h1
    have hyl:y<4294967296:=by rw[hy];exact Zs ω HY.out.1 _
    have hy0:0<y:=by have:=HT.out;rw[HY.out.2.2]at this;rw[hy];exact this
    have hcy:=hY.int (i:=0) (by rw[HY.out.2.2];omega);rw[<-hy]at hcy;have Hym:=Lib.hid hym;have Hy:=Lib.hid hy;have hbxy:bx≠by':=ω;have hbl:=hX2.lt;have hB2:Below w.heap.size w w2:=hb1.trans (hb2.mono hb1.size);clear hy hym hb1 hb2;go_wp2_with fail
    go_loopw [9,10] (fun rr i wr=>∃(k r:Nat)(e:Int)(Z:List Nat),k<=p/\i= .int .i64 e/\e=(k:Int)-1/\rr= .int .u64 r/\r<y/\Hid (Z.length=p-k)/\Hid (∀d∈Z,d<4294967296)/\Hid (lv 4294967296 Z*y+r=lv 4294967296 (X.drop k))/\
     Row wr bx 151 (nums .u32 (X.take k++Z))/\Row wr by' 151 (nums .u32 Y)/\Below w.heap.size w wr) (fun _ i _=>(intOf i+1).toNat)
    case atStart=>
     refine⟨p,0,_, [],Nat.le_refl _,rfl,rfl,rfl,hy0,by simp[Hid],(by intro d hd;cases hd),?_,?_,hY,hB2⟩
     .show _=_;rw[List.drop_of_length_le (by rw[HX.out.2.2];exact Nat.le_refl _)];simp[lv]
     .rw[List.append_nil,List.take_of_length_le (by rw[HX.out.2.2];exact Nat.le_refl _)];exact hX2
    case round=>
     obtain⟨k,r,e,Z,hk,rfl,he,rfl,hr,hZl,hZ,hlv,hRx,hRy,hBr⟩:=hrel;clear hX2 hY hcy hB2;have hcy:=hRy.int (i:=0) (by rw[HY.out.2.2];omega);rw[<-Hy.out]at hcy;rcases k with _|j
     .obtain rfl:e=-1:=by simpa using he
      clear he;rw[Nat.sub_zero]at hZl;have hRz:Row wr bx 151 (nums .u32 Z):=hRx;obtain⟨hq,hr'⟩:lv 4294967296 Z=n/m/\r=n%m:=by
       have h1:=hlv.out;rw[List.drop_zero,HX.out.2.1]at h1;rw[<-HY.out.2.1,Hym.out,<-h1,Nat.mul_comm,Nat.mul_add_div ω,Nat.div_eq_of_lt hr,Nat.mul_add_mod,Nat.mod_eq_of_lt hr];exact⟨rfl,rfl⟩
      have HQ:=Lib.hid hq;have HR:=Lib.hid hr';have hrl:r<2^64:=ω;clear hq hr';obtain rfl:=hZl.out.symm;go_wp2_with fail;refine(Zc0 bx _ Z _ hRz hZ.out ω).mono ?_;rintro e w4 ⟨rfl,hb4⟩;go_wp2_with fail;refine(ZU r _ hrl).mono ?_;rintro e w5 ⟨rfl,hb5⟩;go_wp2_with fail
      go_ret3
      have h4:=hBr.trans (hb4.mono hBr.size);exact⟨ret3 (by rw[HQ.out]) (by rw[HR.out]) 0,h4.trans (hb5.mono h4.size)⟩
     .obtain rfl:e=(j:Int):=ω;clear he;obtain⟨x,hx⟩:∃x:Nat,x=X.getD j 0:=⟨_,rfl⟩;have hxl:x<4294967296:=by rw[hx];exact Zs ω HX.out.1 j
      have c1:=hRx.int (i:=j) (by rw[List.length_append,length_take,HX.out.2.2,hZl.out];omega);rw[show (X.take (j+1)++Z).getD j 0=x by rw[hx];rw[getD,List.getElem?_append_left (by rw[length_take,HX.out.2.2];omega),List.getElem?_take_of_lt ω];rfl]at c1;have f1:=hRx.frozen j;have Hx:=Lib.hid hx;clear hx;obtain⟨q,r',e1,e2,hq,hr',h5⟩:=Zo6 hr hyl hxl;have E1:=Lib.hid e1;have E2:=Lib.hid e2;have H5:=Lib.hid h5;clear e1 e2 h5;go_wp2_with fail
      go_region
      rw[E1.out,E2.out];go_wp2_with fail
      go_roundw
      case rel=>
       have hR':=hRx.int_set j q;have hl:(X.take j).length=j:=by rw[length_take,HX.out.2.2];omega
       have e:(X.take (j+1)++Z).set j q=X.take j++(q::Z):=by
        rw[List.take_succ_eq_append_getElem (by rw[HX.out.2.2];omega),append_assoc,List.set_append_right _ _ (by rw[hl];exact Nat.le_refl _),hl,Nat.sub_self];rfl
       rw[e]at hR';refine⟨j,r',_,q::Z,ω,rfl,by go_num,rfl,hr',by have:=hZl.out;simp[Hid,this];omega,?_,?_,hR'.drew,(hRy.set_ne hbxy _).drew,(hBr.setCell hbx _).drew⟩
       .intro d hd;rcases List.mem_cons.1 hd with rfl|hd
        .exact hq
        .exact hZ.out d hd
       .show _=_;have hd:X.drop j=x::X.drop (j+1):=by
         rw[List.drop_eq_getElem_cons (by rw[HX.out.2.2];omega)];congr 1;rw[Hx.out];simp[getD,gE (show j<X.length by rw[HX.out.2.2];omega)]
        rw[hd,Zai,Zai,<-hlv.out,Nat.add_mul,Nat.mul_add,Nat.mul_assoc];have:=H5.out;generalize lv 4294967296 Z*y=z at*;omega
      case measure=>simp[intOf]<;>omega
   .have hq2:2<=q:=ω;clear hq1 hpos;go_wp2_with fail;obtain rfl:=HX.out.2.2.symm;obtain rfl:=HY.out.2.2.symm;refine(Ztp bx by' _ _ X Y w2 hX2 hY HX.out.1 HY.out.1 ω ω HT.out ω).mono ?_;rintro e w3 ⟨bq,bu,Q,R,rfl,hQd,hRd,hQs,hRs,hQv,hRv,hQ,hR,hb3⟩;have HQd:=Lib.hid hQd;have HRd:=Lib.hid hRd;have HQv:=Lib.hid hQv;have HRv:=Lib.hid hRv;clear hQd hRd hQv hRv;go_wp2_with fail;refine(Zc0 bq _ Q _ hQ HQd.out ω).mono ?_;rintro e w4 ⟨rfl,hb4⟩;have hR4:=hR.below hb4 hR.lt;go_wp2_with fail;refine(ZkK bu _ _ R _ hR4 HRd.out ω).mono ?_;rintro e w5 ⟨rfl,hb5⟩;go_wp2_with fail
    go_ret3
    have h12:=hb1.trans (hb2.mono hb1.size);have h13:=h12.trans (hb3.mono h12.size);have h14:=h13.trans (hb4.mono h13.size);exact⟨ret3 (by rw[HQv.out,HX.out.2.1,HY.out.2.1]) (by rw[HRv.out,HX.out.2.1,HY.out.2.1]) 0,h14.trans (hb5.mono h14.size)⟩
