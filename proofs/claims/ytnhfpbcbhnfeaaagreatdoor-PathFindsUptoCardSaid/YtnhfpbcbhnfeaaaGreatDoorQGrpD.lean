/- Joined by wip/bundle.py: XNatL XNatM XNatN XNatO. -/
import Derived.Test.YtnhfpbcbhnfeaaaGreatDoorQSeg
import Derived.Test.YtnhfpbcbhnfeaaaGreatDoorQBin
import Derived.Test.YtnhfpbcbhnfeaaaGreatDoorQGrpF
set_option maxHeartbeats 4000000
open List (getD replicate)
namespace Go.Proofs.YtnhfpbcbhnfeaaaGreatDoor.natL
open Go.RowKit num mem natA natB natC natD seg
theorem info152:(Tryz.prog.info? 152).map (fun i=>(i.zero,i.size,i.bytes))=some (some (.int .u64 0),1,8):=ωr
theorem Zgh(x y:Nat)(w:World)(hx:x<18446744073709551616)(hy:y<18446744073709551616):
  Calls Tryz.prog 196 #[.int .u64 x,.int .u64 y] w fun e w'=>e= .returned (.int .u64 (Nat.gcd x y))/\Below w.heap.size w w':=by
 obtain⟨G,hG⟩:∃G,Nat.gcd x y=G:=⟨_,rfl⟩;rw[hG];have HG:=Lib.hid hG;clear hG
 go_enter Tryz.func196,Tryz.ntmps196
 go_wp2_with fail
 go_loopw [0,1] (fun sx sy wr=>∃a b:Nat,sx= .int .u64 a/\sy= .int .u64 b/\a<18446744073709551616/\b<18446744073709551616/\Hid (Nat.gcd a b=G)/\Below w.heap.size w wr) (fun _ sy _=>(intOf sy).toNat)
 case atStart=>exact⟨x,y,rfl,rfl,hx,hy,HG,Below.refl _ _⟩
 case round=>
  obtain⟨a,b,rfl,rfl,ha,hb,hg,hB⟩:=hrel;by_cases h0:0<b
  .have hm:a%b<b:=Nat.mod_lt _ h0;go_wp2_with fail
   go_region
   go_wp2_with fail
   go_roundw
   case rel=>exact⟨b,a%b,rfl,by simp,hb,ω,by show _=_;rw[gcd_mod'];exact hg.out,hB.drew⟩
   case measure=>simp[intOf];omega
  .obtain rfl:b=0:=ω;have e:=hg.out;rw[Nat.gcd_zero_right]at e;have E:=Lib.hid e;clear e;go_wp2_with fail
   go_ret
   exact⟨ZaD (by rw[E.out]),hB⟩
theorem Zig{r:Nat}(h:r<=7):(256:Nat)^r<=72057594037927936:=by
 have:(256:Nat)^r<=256^7:=Nat.pow_le_pow_right ω h;simpa using this
theorem Zm0{n k p x:Nat}(hk:k<(enc n).size)(hp:((enc n).size:Int)-1-(k:Int)=(p:Int))(hp2:p<(enc n).size)(hx:x<256^(k%8)):
  bits .or .u64 (x:Int) (IntKind.u64.wrap (IntKind.u64.wrap ((enc n)[p].toNat:Int)*2^(k%8*8)))=((x+n/256^k%256*256^(k%8):Nat):Int):=by
 obtain rfl:p=(enc n).size-1-k:=ω;have e:=ZcS n k hk;rw[e];have hc:n/256^k%256<256:=Nat.mod_lt _ ω;generalize n/256^k%256=c at hc;have hr:k%8<=7:=ω;generalize k%8=r at hx hr;have hp3:=Zig hr;have h3:c*256^r<=255*72057594037927936:=Nat.mul_le_mul ω hp3;have e2:IntKind.u64.wrap (IntKind.u64.wrap (c:Int)*2^(r*8))=((c*256^r:Nat):Int):=by
  rw[IntWalk.u64_in (c:Int) ω,IntKind.wrap_u64];have h2:((2:Int)^(r*8))=((256^r:Nat):Int):=by rw[<-Zcp];simp
  rw[h2,<-Int.natCast_mul];omega
 rw[e2];have hx':x<2^(r*8):=by rw[Zcp];exact hx
 rw[u64_or_nat _ _ ω ω,Nat.or_comm];have:=ZbM (r*8) c x hx';rw[Zcp]at this;rw[this,Nat.add_comm]
theorem Zix(n:Nat)(w:World)(hz:(enc n).size<=70368744177664):
  Calls Tryz.prog 222 #[.string (enc n)] w fun e w'=>∃b,e= .returned (.slice (some ⟨b,0,none⟩) (wlen 8 n) (wlen 8 n))/\Row w' b 152 (nums .u64 (w64 n))/\w.heap.size<=b/\Below w.heap.size w w':=by
 have hw:wlen 8 n<=8796093022209:=by unfold wlen;omega
 go_enter Tryz.func222,Tryz.ntmps222
 go_wp2_with (first|(at_make;refine Zu _ rfl _ _ _ rfl 152 _ 8 Tryz.underlying272 info152 rfl _ _ _ _ (wlen 8 n) rfl rfl (by unfold wlen;omega) (by unfold wlen;omega) ω ω ?_));intro w1 hR hg hsz;have hB0:Below w.heap.size w w1:=(Below.refl _ _).grown hg (Nat.le_refl _) (by simp);have hR0:Row w1 w.heap.size 152 (nums .u64 (prt 8 n 0 (wlen 8 n))):=by rw[ZgY];simpa[nums]using hR
 clear hR hg;go_wp2
 go_loopw [12] (fun i wr=>∃k:Nat,k<=(enc n).size/\i= .int .i64 k/\Row wr w.heap.size 152 (nums .u64 (prt 8 n k (wlen 8 n)))/\Below w.heap.size w wr) (fun i _=>(enc n).size-(intOf i).toNat)
 case atStart=>exact⟨0,Nat.zero_le _,rfl,hR0,hB0⟩
 case round=>
  obtain⟨k,hk,rfl,hRk,hBk⟩:=hrel;clear hR0 hB0;by_cases hlt:k<(enc n).size
  .have hq:k/8<wlen 8 n:=by unfold wlen;omega
   obtain⟨x,hx⟩:∃x:Nat,x=(prt 8 n k (wlen 8 n)).getD (k/8) 0:=⟨_,rfl⟩;have hc:=hRk.int (i:=k/8) (by rw[ZdB];exact hq);rw[<-hx]at hc;have hf:=hRk.frozen (k/8);have hxb:x<256^(k%8):=by rw[hx];exact ZjH ω hq
   have Hxb:=Lib.hid hxb;have Hx:=Lib.hid hx;clear hx hxb;obtain⟨p,hp⟩:∃p:Nat,((enc n).size:Int)-1-(k:Int)=(p:Int):=⟨(enc n).size-1-k,ω⟩;have hp2:p<(enc n).size:=ω;have Hp:=Lib.hid hp;go_wp2
   go_region
   have hR':=hRk.int_set (k/8) (x+n/256^k%256*256^(k%8));rw[Hx.out,ZgZ ω]at hR';have HV:=Lib.hid (Zm0 hlt Hp.out hp2 Hxb.out);go_wp2
   go_roundw
   case rel=>exact⟨k+1,ω,by go_num,by rw[HV.out,Hx.out];exact hR',(hBk.setCell (Nat.le_refl _) _).drew⟩
   case measure=>simp[intOf];omega
  .go_wp2
   go_ret
   refine⟨w.heap.size,rfl,?_,Nat.le_refl _,hBk⟩;have hk':k=(enc n).size:=ω;have hn':n<256^k:=by rw[hk',<-Zh];exact Nat.le_refl _
   rw[ZjI ω hn']at hRk;exact hRk
theorem Zj9(b o cap:Nat)(l:List Nat)(w:World)(hS:Seg w b 152 o (nums .u64 l))(hl:∀d∈l,d<18446744073709551616)(hc:l.length<=cap)(hmax:l.length<=70368744177664):
  Calls Tryz.prog 238 #[.slice (some ⟨b,o,none⟩) l.length cap] w fun e w'=>w=w'/\∃Z:List Nat,e= .returned (.slice (some ⟨b,o,none⟩) Z.length cap)/\Seg w b 152 o (nums .u64 Z)/\(∀d∈Z,d<18446744073709551616)/\
   lv 18446744073709551616 Z=lv 18446744073709551616 l/\Top Z/\Z.length<=l.length:=by
 have HL:=Lib.hid hl;clear hl
 go_enter Tryz.func238,Tryz.ntmps238
 go_wp2_with fail
 go_loop [0] (fun s=>∃k:Nat,k<=l.length/\s= .slice (some ⟨b,o,none⟩) k cap/\Hid (lv 18446744073709551616 (l.take k)=lv 18446744073709551616 l)) (fun s=>match s with| .slice _ k _=>k|_=>0)
 case atStart=>exact⟨l.length,Nat.le_refl _,rfl,by show _=_;rw[Zg _ _ (Nat.le_refl _)]⟩
 case round=>
  obtain⟨k,hk,rfl,hlv⟩:=hrel;rcases k with _|j
  .go_wp2_with fail
   go_ret
   refine⟨rfl, [],rfl,?_,(by intro d hd;cases hd),?_,?_,Nat.zero_le _⟩
   .simpa[nums]using hS.take 0
   .have:=hlv.out;rw[List.take_zero]at this;exact this
   .intro h;simp at h
  .obtain⟨x,hx⟩:∃x:Nat,x=l.getD j 0:=⟨_,rfl⟩;have hcx:=hS.int (i:=j) ω;rw[<-hx]at hcx;have Hx:=Lib.hid hx;clear hx;by_cases h0:x=0
   .subst h0;go_wp2_with fail
    go_round
    case rel=>
     refine⟨j,ω,rfl,?_⟩;show _=_;have h:=hlv.out;rw[Zp,<-Hx.out,Nat.mul_zero,Nat.add_zero]at h;exact h
    case measure=>simp<;>omega
   .go_wp2_with fail
    go_ret
    have hlen:(l.take (j+1)).length=j+1:=by rw[List.length_take];omega
    refine⟨rfl,l.take (j+1),by rw[hlen];rfl,?_,ZeR HL.out _,hlv.out,?_,by rw[hlen];exact hk⟩
    .rw[<-ZeM];exact hS.take _
    .intro _;rw[hlen,show j+1-1=j by omega,Zdm ω,<-Hx.out];omega
theorem ZxM(x:Nat)(w:World)(h0:0<x)(hx:x<18446744073709551616)(hT:Tab w):
  Calls Tryz.prog 237 #[.int .u64 x] w fun e w'=>∃t m:Nat,e= .returned (.int .i64 t)/\x=2^t*(2*m+1)/\t<64/\w=w':=by
 refine(Any7.bits_TrailingZeros64 Tryz.lays7_29 x hx w (fun _=>hT)).mono ?_;rintro e w' ⟨rfl,rfl⟩;have e:Lib.ctz 64 x=Lib.ctzFrom 64 x:=by unfold Lib.ctz;rw[if_neg ω]
 obtain⟨m,hm,hk⟩:=Lib.ctzFrom_spec 64 x h0 hx;exact⟨_,m,by rw[e],hm,hk,rfl⟩
theorem Zfc(b o cap:Nat)(l:List Nat)(w:World)(hS:Seg w b 152 o (nums .u64 l))(hl:∀d∈l,d<18446744073709551616)(hmax:l.length<=70368744177664)(hpos:0<lv 18446744073709551616 l)(hT:Tab w):
  Calls Tryz.prog 223 #[.slice (some ⟨b,o,none⟩) l.length cap] w fun e w'=>∃t q:Nat,e= .returned (.int .i64 t)/\lv 18446744073709551616 l=2^t*(2*q+1)/\t/64<l.length/\w=w':=by
 have HL:=Lib.hid hl;have HP:=Lib.hid hpos;clear hl hpos
 go_enter Tryz.func223,Tryz.ntmps223
 go_wp2_with fail
 go_loop [3] (fun s=>∃k:Nat,k<l.length/\s= .int .i64 k/\Hid (lv 18446744073709551616 (l.take k)=0)) (fun s=>l.length-(intOf s).toNat)
 case atStart=>
  refine⟨0,?_,rfl,by show _=_;rw[List.take_zero,Zda]⟩;rcases l with _|⟨x,l⟩
  .have:=HP.out;rw[Zda]at this;omega
  .simp
 case round=>
  obtain⟨k,hk,rfl,hlv⟩:=hrel;obtain⟨x,hx⟩:∃x:Nat,x=l.getD k 0:=⟨_,rfl⟩;have hcx:=hS.int (i:=k) hk;rw[<-hx]at hcx;have hxl:x<18446744073709551616:=by rw[hx];exact Zs ω HL.out k
  have Hx:=Lib.hid hx;clear hx;by_cases h0:x=0
  .subst h0;have hlt:k+1<l.length:=by
    apply Nat.lt_of_not_le;intro hle;have h:=Zp 18446744073709551616 l k;rw[<-Hx.out,hlv.out,Zg _ _ hle]at h;have:=HP.out;omega
   have HN:=Lib.hid (show lv 18446744073709551616 (l.take (k+1))=0 by rw[Zp,<-Hx.out,hlv.out,Nat.mul_zero]);go_wp2_with fail
   go_round
   case rel=>exact⟨k+1,hlt,by go_num,HN⟩
   case measure=>simp[intOf]<;>omega
  .go_wp2_with fail;refine(ZxM x w ω hxl hT).mono ?_;rintro e w' ⟨t,m,rfl,hm,ht,rfl⟩;obtain⟨q,hq⟩:=Zq4 hlv.out hk Hx.out.symm hm ht;have HQ:=Lib.hid hq;clear hq hm;go_wp2_with fail
   go_ret
   exact⟨64*k+t,q,ZaD ω,HQ.out,ω,rfl⟩
end Go.Proofs.YtnhfpbcbhnfeaaaGreatDoor.natL
namespace Go.Proofs.YtnhfpbcbhnfeaaaGreatDoor.natM
open Go.RowKit num mem natA natB natC natD seg natL
theorem Zne{w w':World}{r:Option Nat}(h:w.grownBy w' r):w.grownBy w'.drew r:=⟨h.os,h.tape,h.output,h.size,h.block⟩
theorem ZeI(b o cap t:Nat)(l:List Nat)(w:World)(hS:Seg w b 152 o (nums .u64 l))(hl:∀d∈l,d<18446744073709551616)(hc:l.length<=cap)(hcap:cap<=70368744177664)(ht:t/64<l.length):
  Calls Tryz.prog 224 #[.slice (some ⟨b,o,none⟩) l.length cap,.int .i64 t] w fun e w'=>∃(Z:List Nat)(o' cap':Nat),e= .returned (.slice (some ⟨b,o',none⟩) Z.length cap')/\Seg w' b 152 o' (nums .u64 Z)/\(∀d∈Z,d<18446744073709551616)/\
   lv 18446744073709551616 Z=lv 18446744073709551616 l/2^t/\Top Z/\Z.length<=cap'/\cap'<=cap/\w.grownBy w' (some b)/\w'.heap.size=w.heap.size:=by
 have HL:=Lib.hid hl;clear hl;obtain⟨q,hq⟩:∃q,q=t/64:=⟨_,rfl⟩;obtain⟨r,hr⟩:∃r,r=t%64:=⟨_,rfl⟩;have hqt:(t:Int)/64=(q:Int):=ω;have hrt:(t:Int)%64=(r:Int):=ω;have ht64:t<=4503599627370496+64:=ω;have Ht:=Lib.hid (show t=64*q+r by omega);have hr64:r<64:=ω;have hql:q<l.length:=ω;clear hq hr ht
 go_enter Tryz.func224,Tryz.ntmps224
 obtain⟨L,hLd⟩:∃L,L=l.drop q:=⟨_,rfl⟩;have hLl:l.length-q=L.length:=by rw[hLd,List.length_drop]
 have hSL:Seg w b 152 (o+q) (nums .u64 L):=by
  have:=hS.drop (n:=q) (by rw[Za3];omega)
  rwa[Zpy,<-hLd]at this
 have HLL:=Lib.hid (show ∀d∈L,d<18446744073709551616 by rw[hLd];exact ZbO HL.out q);have HV:=Lib.hid (show lv 18446744073709551616 L/2^r=lv 18446744073709551616 l/2^t by
  have h1:=Z6 18446744073709551616 l q ω;have h2:=ZY HL.out (k:=q) ω;rw[<-hLd]at h1;rw[Ht.out,Nat.pow_add,<-Nat.div_div_eq_div_mul,Nat.pow_mul,show (2:Nat)^64=18446744073709551616 by decide,h1,Nat.add_mul_div_left _ _ (Nat.pow_pos ω),Nat.div_eq_of_lt h2,Nat.zero_add])
 have HD:=Lib.hid hLd;have hLpos:0<L.length:=ω;clear hLd;by_cases h0:r=0
 .subst h0;go_wp2_with fail;refine(Zj9 b (o+q) (cap-q) L w hSL HLL.out ω ω).mono ?_;rintro e w' ⟨rfl,Z,rfl,hS',hZ',hlv',hT',hl'⟩;have HLV:=Lib.hid hlv';have HZ':=Lib.hid hZ';clear hlv' hZ';go_wp2_with fail
  go_ret
  exact⟨Z,_,_,rfl,hS',HZ'.out,by rw[HLV.out,<-HV.out,Nat.pow_zero,Nat.div_one],hT',ω,ω,World.grownBy.refl _ _,rfl⟩
 .go_wp2_with fail;rw[hrt]
  go_loopw [16] (fun i wr=>∃k:Nat,k<=L.length/\i= .int .i64 k/\Seg wr b 152 (o+q) (nums .u64 ((dg 18446744073709551616 (lv 18446744073709551616 L/2^r) L.length).take k++L.drop k))/\w.grownBy wr (some b)/\Hid (wr.heap.size=w.heap.size)) (fun i _=>L.length-(intOf i).toNat)
  case atStart=>exact⟨0,Nat.zero_le _,rfl,by simpa using hSL,World.grownBy.refl _ _,rfl⟩
  case round=>
   obtain⟨k,hk,rfl,hRk,hgk,hsz⟩:=hrel;by_cases hlt:k<L.length
   .have hTl:((dg 18446744073709551616 (lv 18446744073709551616 L/2^r) L.length).take k).length=k:=by rw[List.length_take,Zax];omega
    have hAl:((dg 18446744073709551616 (lv 18446744073709551616 L/2^r) L.length).take k++L.drop k).length=L.length:=by rw[List.length_append,hTl,List.length_drop];omega
    obtain⟨x,hx⟩:∃x:Nat,x=L.getD k 0:=⟨_,rfl⟩;have hxl:x<18446744073709551616:=by rw[hx];exact Zs ω HLL.out k
    have hcx:=hRk.int (i:=k) (by rw[hAl];exact hlt);rw[Zah hTl,<-hx]at hcx;have hfx:=hRk.frozen (o+q+k);have Hx:=Lib.hid hx;have HA:=Lib.hid (And.intro hTl hAl);clear hx hTl hAl;by_cases hlt2:k+1<L.length
    .obtain⟨y,hy⟩:∃y:Nat,y=L.getD (k+1) 0:=⟨_,rfl⟩;have hcy:=hRk.int (i:=k+1) (by rw[HA.out.2];exact hlt2);rw[show ((dg 18446744073709551616 (lv 18446744073709551616 L/2^r) L.length).take k++L.drop k).getD (k+1) 0=y by
      rw[hy];simp only[getD];rw[List.getElem?_append_right (by rw[HA.out.1];omega),HA.out.1,List.getElem?_drop,show k+(k+1-k)=k+1 by omega]]at hcy
     have Hy:=Lib.hid hy;clear hy;have hD:=Zh2 HLL.out (show r<=64 by omega) hlt Hx.out.symm Hy.out.symm;have hval:=Zmk (y:=y) hxl (show r<=64 by omega);have hset:=Zfh (B:=18446744073709551616) (n:=lv 18446744073709551616 L/2^r) (l:=L) rfl hlt;rw[hD]at hset;have HS:=Lib.hid hset;have HVL:=Lib.hid hval;clear hD hval hset;go_wp2_with fail
     go_region
     go_wp2_with fail
     go_roundw
     case rel=>
      have hR':=(hRk.int_set k (x/2^r)).int_set k (x/2^r+y%2^r*2^(64-r));rw[List.set_set,HS.out]at hR';rw[HVL.out];exact⟨k+1,ω,by go_num,by simpa using hR'.drew,Zne (ZA (ZA hgk _ _) _ _),Z4 (Z4 hsz _ _) _ _⟩
     case measure=>simp[intOf]<;>omega
    .have hD:=Zh2 (y:=0) HLL.out (show r<=64 by omega) hlt Hx.out.symm (by simp[getD,List.getElem?_eq_none (Nat.le_of_not_lt hlt2)]);rw[Nat.zero_mod,Nat.zero_mul,Nat.add_zero]at hD;have hset:=Zfh (B:=18446744073709551616) (n:=lv 18446744073709551616 L/2^r) (l:=L) rfl hlt;rw[hD]at hset;have HS:=Lib.hid hset;clear hD hset;go_wp2_with fail
     go_roundw
     case rel=>
      have hR':=hRk.int_set k (x/2^r);rw[HS.out]at hR';exact⟨k+1,ω,by go_num,by simpa using hR',ZA hgk _ _,Z4 hsz _ _⟩
     case measure=>simp[intOf]<;>omega
   .have HK:=Lib.hid (show k=L.length by omega);have hdl:∀d∈dg 18446744073709551616 (lv 18446744073709551616 L/2^r) L.length,d<18446744073709551616:=Zw9 ω _ _;have hRz:Seg wr b 152 (o+q) (nums .u64 (dg 18446744073709551616 (lv 18446744073709551616 L/2^r) L.length)):=by
     rw[HK.out,List.drop_length,List.append_nil,List.take_of_length_le (by rw[Zax];exact Nat.le_refl _)]at hRk;exact hRk
    have hval:lv 18446744073709551616 (dg 18446744073709551616 (lv 18446744073709551616 L/2^r) L.length)=lv 18446744073709551616 l/2^t:=by
     rw[ZbQ,HV.out];exact Nat.lt_of_le_of_lt (Nat.div_le_self _ _) (ZdI HLL.out)
    have hcut:=Zj9 b (o+q) (cap-q) (dg 18446744073709551616 (lv 18446744073709551616 L/2^r) L.length) wr hRz hdl (by rw[Zax];omega) (by rw[Zax];omega);rw[hval,Zax]at hcut;clear hval hk hRk hdl hRz;go_wp2_with fail;refine hcut.mono ?_;rintro e w' ⟨rfl,Z',rfl,hS',hZ',hlv',hT',hl'⟩;have HLV:=Lib.hid hlv';have HZ':=Lib.hid hZ';clear hcut hlv' hZ';go_wp2_with fail
    go_ret
    exact⟨Z',_,_,rfl,hS',HZ'.out,HLV.out,hT',ω,ω,hgk,hsz⟩
theorem ZrI(bx ox cx by' oy cy:Nat)(X Y:List Nat)(w:World)(hX:Seg w bx 152 ox (nums .u64 X))(hY:Seg w by' 152 oy (nums .u64 Y))(lX:∀d∈X,d<18446744073709551616)(lY:∀d∈Y,d<18446744073709551616)(tX:Top X)(tY:Top Y)
 (hmx:X.length<=70368744177664)(_hmy:Y.length<=70368744177664):
  Calls Tryz.prog 225 #[.slice (some ⟨bx,ox,none⟩) X.length cx,.slice (some ⟨by',oy,none⟩) Y.length cy] w fun e w'=>e= .returned (.bool (decide (lv 18446744073709551616 X<lv 18446744073709551616 Y)))/\Below w.heap.size w w':=by
 have HX:=Lib.hid (And.intro lX tX);have HY:=Lib.hid (And.intro lY tY);clear lX lY tX tY;by_cases hlen:X.length=Y.length
 .rw[<-hlen];have Hlen:=Lib.hid hlen;clear _hmy hlen
  go_enter Tryz.func225,Tryz.ntmps225
  go_wp2_with fail
  go_loopw [5] (fun s wr=>∃(k:Nat)(e:Int),s= .int .i64 e/\e=(k:Int)-1/\k<=X.length/\Hid (X.drop k=Y.drop k)/\Below w.heap.size w wr) (fun s _=>(intOf s+1).toNat)
  case atStart=>exact⟨X.length,_,rfl,rfl,Nat.le_refl _,by show _=_;rw[List.drop_of_length_le (Nat.le_refl _),List.drop_of_length_le (by rw[Hlen.out];exact Nat.le_refl _)],Below.refl _ _⟩
  case round=>
   obtain⟨k,e,rfl,he,hk,hd,hB⟩:=hrel;rcases k with _|j
   .obtain rfl:e=-1:=by simpa using he
    have hXY:X=Y:=by simpa using hd.out
    have HE:=Lib.hid (show decide (lv 18446744073709551616 X<lv 18446744073709551616 Y)=false by rw[hXY];simp);clear hXY he;go_wp2_with fail
    go_ret
    exact⟨Zaf HE.out.symm,hB⟩
   .obtain rfl:e=(j:Int):=ω;clear he;obtain⟨x,hx⟩:∃x:Nat,x=X.getD j 0:=⟨_,rfl⟩;obtain⟨y,hy⟩:∃y:Nat,y=Y.getD j 0:=⟨_,rfl⟩;have hcx:=(hX.below hB hX.lt).int (i:=j) ω;have hcy:=(hY.below hB hY.lt).int (i:=j) (by have:=Hlen.out;omega);rw[<-hx]at hcx;rw[<-hy]at hcy;have Hx:=Lib.hid hx;have Hy:=Lib.hid hy;clear hx hy;by_cases hne:x=y
    .subst hne;go_wp2_with fail
     go_region
     go_wp2_with fail
     go_roundw
     case rel=>exact⟨j,_,rfl,by go_num,ω,ZiQ Hlen.out ω hd.out (by rw[<-Hx.out,<-Hy.out]),hB.drew⟩
     case measure=>simp[intOf]<;>omega
    .have HB:=Lib.hid (Zki HX.out.1 HY.out.1 Hlen.out ω hd.out (by rw[<-Hx.out,<-Hy.out];exact hne));go_wp2_with fail
     go_region
     go_wp2_with fail
     go_region
     go_wp2_with fail
     go_ret
     exact⟨Zaf (decide_eq_decide.2 (by rw[Hx.out,Hy.out];exact HB.out.symm)),hB.drew.drew⟩
 .have Hlen:=Lib.hid hlen;have HE:=Lib.hid (show decide (X.length<Y.length)=decide (lv 18446744073709551616 X<lv 18446744073709551616 Y) by
   apply decide_eq_decide.2;constructor
   .intro h;exact Za5 HX.out.1 ω HY.out.2 ω
   .intro h;apply Nat.lt_of_not_le;intro hge;have:=Za5 HY.out.1 ω HX.out.2 (show Y.length<X.length by have:=Hlen.out;omega);omega)
  have hn:((X.length:Int)==(Y.length:Int))=false:=by simp;omega
  clear hlen
  go_enter Tryz.func225,Tryz.ntmps225
  go_wp2_with fail
  go_ret
  exact⟨Zaf HE.out,Below.refl _ _⟩
def subN(x y b:Nat):Nat:=(x+18446744073709551616-y-b)%18446744073709551616
def subC(x y b:Nat):Nat:=if x<y+b then 1 else 0
theorem sub64(x y b:Nat)(hb:b<=1)(w:World):(callFunc 239 #[.int .u64 (x:Int),.int .u64 (y:Int),.int .u64 (b:Int)]).run Tryz.prog w=
  .ok (.value (.tuple #[.int .u64 ((subN x y b:Nat):Int),.int .u64 ((subC x y b:Nat):Int)])) w:=
 Any7.bits_Sub64 Tryz.lays7_26 x y b hb w
theorem ZvT(x b:Nat)(hb:b<=1)(w:World):(callFunc 239 #[.int .u64 (x:Int),.int .u64 0,.int .u64 (b:Int)]).run Tryz.prog w=
  .ok (.value (.tuple #[.int .u64 ((subN x 0 b:Nat):Int),.int .u64 ((subC x 0 b:Nat):Int)])) w:=
 sub64 x 0 b hb w
theorem Zol{x y b:Nat}(hx:x<18446744073709551616)(hy:y<18446744073709551616)(hb:b<=1):subN x y b+y+b=x+subC x y b*18446744073709551616/\subN x y b<18446744073709551616/\subC x y b<=1:=by
 unfold subN subC;split<;>omega
theorem ZpQ(bx ox cx by' oy cy:Nat)(X Y:List Nat)(w:World)(hX:Seg w bx 152 ox (nums .u64 X))(hY:Seg w by' 152 oy (nums .u64 Y))(hne:bx≠by')(lX:∀d∈X,d<18446744073709551616)(lY:∀d∈Y,d<18446744073709551616)
 (hlen:Y.length<=X.length)(hcx:X.length<=cx)(hmax:X.length<=70368744177664)(hle:lv 18446744073709551616 Y<=lv 18446744073709551616 X):
  Calls Tryz.prog 226 #[.slice (some ⟨bx,ox,none⟩) X.length cx,.slice (some ⟨by',oy,none⟩) Y.length cy] w fun e w'=>∃Z:List Nat,e= .returned (.slice (some ⟨bx,ox,none⟩) Z.length cx)/\Seg w' bx 152 ox (nums .u64 Z)/\(∀d∈Z,d<18446744073709551616)/\
   lv 18446744073709551616 Z=lv 18446744073709551616 X-lv 18446744073709551616 Y/\Top Z/\Z.length<=X.length/\w.grownBy w' (some bx)/\w'.heap.size=w.heap.size:=by
 have HX:=Lib.hid lX;have HY:=Lib.hid lY;have Hle:=Lib.hid hle;clear lX lY hle
 go_enter Tryz.func226,Tryz.ntmps226
 go_wp2_with fail
 go_loopw [5,10] (fun br i wr=>∃(k c:Nat)(Z:List Nat),k<=X.length/\i= .int .i64 k/\br= .int .u64 c/\c<=1/\Hid (Z.length=k)/\Hid (∀d∈Z,d<18446744073709551616)/\
   Hid (lv 18446744073709551616 Z+lv 18446744073709551616 (Y.take k)=lv 18446744073709551616 (X.take k)+c*18446744073709551616^k)/\Seg wr bx 152 ox (nums .u64 (Z++X.drop k))/\w.grownBy wr (some bx)/\Hid (wr.heap.size=w.heap.size)) (fun _ i _=>X.length-(intOf i).toNat)
 case atStart=>exact⟨0,0, [],Nat.zero_le _,rfl,rfl,ω,rfl,(by intro d hd;cases hd),by simp[Hid,lv],by simpa using hX,World.grownBy.refl _ _,rfl⟩
 case round=>
  obtain⟨k,c,Z,hk,rfl,rfl,hc1,hZl,hZ,hlv,hRk,hgk,hsz⟩:=hrel;by_cases hlt:k<X.length
  .obtain⟨x,hx⟩:∃x:Nat,x=X.getD k 0:=⟨_,rfl⟩;have hxl:x<18446744073709551616:=by rw[hx];exact Zs ω HX.out k
   have hcx':=hRk.int (i:=k) (by have:=hZl.out;simp;omega);rw[Zah hZl.out,<-hx]at hcx';have hfx:=hRk.frozen (ox+k);have Hx:=Lib.hid hx;clear hx;by_cases hy:k<Y.length
   .obtain⟨y,hy'⟩:∃y:Nat,y=Y.getD k 0:=⟨_,rfl⟩;have hyl:y<18446744073709551616:=by rw[hy'];exact Zs ω HY.out k
    have hcy:=(hY.grown hgk (fun e=>hne (sI e).symm)).int (i:=k) hy;rw[<-hy']at hcy;have Hy:=Lib.hid hy';obtain⟨hsum,hn,hC⟩:=Zol hxl hyl hc1;have HS:=Lib.hid hsum;have hsub:=sub64 x y c hc1;generalize subN x y c=n at*;generalize subC x y c=C at*;clear hy' hsum;go_wp2_with (simp only[hsub])
    go_roundw
    case rel=>
     have hR':=hRk.int_set k n;rw[ZS hZl.out hlt]at hR';refine⟨k+1,C,Z++[n],ω,by go_num,rfl,hC,by have:=hZl.out;simp[Hid,this],ZE hZ.out hn,ZbC hZl.out hlv.out ?_,hR',ZA hgk _ _,Z4 hsz _ _⟩;rw[<-Hx.out,<-Hy.out];exact HS.out
    case measure=>simp[intOf];omega
   .obtain⟨hsum,hn,hC⟩:=Zol (y:=0) hxl ω hc1;have HS:=Lib.hid hsum;have hsub:=ZvT x c hc1;generalize subN x 0 c=n at*;generalize subC x 0 c=C at*;clear hsum;go_wp2_with (simp only[hsub])
    go_roundw
    case rel=>
     have hR':=hRk.int_set k n;rw[ZS hZl.out hlt]at hR';refine⟨k+1,C,Z++[n],ω,by go_num,rfl,hC,by have:=hZl.out;simp[Hid,this],ZE hZ.out hn,ZbC hZl.out hlv.out ?_,hR',ZA hgk _ _,Z4 hsz _ _⟩;rw[<-Hx.out,show Y.getD k 0=0 by simp[getD,List.getElem?_eq_none (Nat.le_of_not_lt hy)]];exact HS.out
    case measure=>simp[intOf];omega
  .have HK:=Lib.hid (show k=X.length by omega);have hRz:Seg wr bx 152 ox (nums .u64 Z):=by
    rw[HK.out,List.drop_length,List.append_nil]at hRk;exact hRk
   have hval:lv 18446744073709551616 Z=lv 18446744073709551616 X-lv 18446744073709551616 Y:=by
    have h1:=hlv.out;have h2:=ZdI hZ.out;rw[HK.out,Zg _ _ hlen,Zg _ _ (Nat.le_refl _)]at h1;rw[hZl.out,HK.out]at h2;have h3:=Hle.out;have hc0:c=0:=by
     rcases Nat.lt_or_ge c 1 with h|h
     .omega
     .have:1*18446744073709551616^X.length<=c*18446744073709551616^X.length:=Nat.mul_le_mul_right _ h;omega
    rw[hc0]at h1;omega
   have HV:=Lib.hid hval;have hZX:Z.length=X.length:=by rw[hZl.out,HK.out]
   have hcut:=Zj9 bx ox cx Z wr hRz hZ.out ω ω;rw[hZX]at hcut;clear hval hk hRk;go_wp2_with fail;refine hcut.mono ?_;rintro e w' ⟨rfl,Z',rfl,hS',hZ',hlv',hT',hl'⟩;have HLV:=Lib.hid hlv';have HZ':=Lib.hid hZ';clear hcut hlv' hZ';go_wp2_with fail
   go_ret
   exact⟨Z',rfl,hS',HZ'.out,by rw[HLV.out,HV.out],hT',hl',hgk,hsz⟩
end Go.Proofs.YtnhfpbcbhnfeaaaGreatDoor.natM
namespace Go.Proofs.YtnhfpbcbhnfeaaaGreatDoor.natN
open Go.RowKit num mem natA natB natC natD natE seg natL natM
theorem Zvy{x y B:Nat}(hx:x<B)(hy:y<B):Nat.gcd x y<B:=by
 by_cases h:x=0
 .subst h;rw[Nat.gcd_zero_left];exact hy
 .exact Nat.lt_of_le_of_lt (Nat.gcd_le_left _ ω) hx
set_option maxRecDepth 100000 in
theorem Znd(n m:Nat)(w:World)(hn:0<n)(hm:0<m)(sn:(enc n).size<=17592186044416)(sm:(enc m).size<=17592186044416)(hT:Tab w):
  Calls Tryz.prog 197 #[.string (enc n),.string (enc m)] w fun e w'=>e= .returned (.string (enc (Nat.gcd n m)))/\Below w.heap.size w w':=by
 have Hn:=Lib.hid hn;have Hm:=Lib.hid hm;have hwn:wlen 8 n<=2199023255553:=by unfold wlen;omega
 have hwm:wlen 8 m<=2199023255553:=by unfold wlen;omega
 clear hn hm
 go_enter Tryz.func197,Tryz.ntmps197
 go_wp2_with fail;refine(Zix n w ω).mono ?_;rintro e w1 ⟨bx,rfl,hX,hbx,hb1⟩;go_wp2_with fail;refine(Zix m w1 ω).mono ?_;rintro e w2 ⟨by',rfl,hY,hby,hb2⟩;have hX2:=hX.below hb2 hX.lt;have hbxl:=hX.lt;have hB2:=hb1.trans (hb2.mono hb1.size);have hT2:=hT.below hB2 (Nat.le_refl _);have hTl:=hT.lt;clear hX hb1 hb2;obtain⟨X,hXX⟩:∃X,X=w64 n:=⟨_,rfl⟩;obtain⟨Y,hYY⟩:∃Y,Y=w64 m:=⟨_,rfl⟩;have HX:=Lib.hid (show (∀d∈X,d<18446744073709551616)/\lv 18446744073709551616 X=n by rw[hXX];exact⟨ZuG _,Zvf _⟩);have HY:=Lib.hid (show (∀d∈Y,d<18446744073709551616)/\lv 18446744073709551616 Y=m by rw[hYY];exact⟨ZuG _,Zvf _⟩);have eX:wlen 8 n=X.length:=by rw[hXX,ZfB]
 have eY:wlen 8 m=Y.length:=by rw[hYY,ZfB]
 rw[<-hXX]at hX2;rw[<-hYY]at hY;rw[eX]at hwn⊢;rw[eY]at hwm⊢;clear hXX hYY eX eY;have sX:Seg w2 bx 152 0 (nums .u64 X):=Seg.of_row hX2;have sY:Seg w2 by' 152 0 (nums .u64 Y):=Seg.of_row hY;have hbyl:=hY.lt;have hne:bx≠by':=ω;clear hX2 hY;go_wp2_with fail;refine(Zfc bx 0 X.length X w2 sX HX.out.1 ω (by rw[HX.out.2];exact Hn.out) hT2).mono ?_;rintro e w' ⟨t,q1,rfl,hq1,ht,rfl⟩;have Hq1:=Lib.hid hq1;clear hq1;go_wp2_with fail;refine(Zfc by' 0 Y.length Y w2 sY HY.out.1 ω (by rw[HY.out.2];exact Hm.out) hT2).mono ?_;rintro e w' ⟨s,q2,rfl,hq2,hs,rfl⟩;have Hq2:=Lib.hid hq2;clear hq2;go_wp2_with fail;refine(ZeI bx 0 X.length t X w2 sX HX.out.1 (Nat.le_refl _) ω ht).mono ?_;rintro e w3 ⟨A,oa,ca,rfl,sA,dA,vA,tA,lA,cA,g3,z3⟩;have sY3:=sY.grown g3 ωi;have hB3:Below w.heap.size w w3:=hB2.grown g3 hB2.size (by intro j hj;have:=sI hj;omega);have hT3:=hT.below hB3 (Nat.le_refl _);have HA:=Lib.hid (show (∀d∈A,d<18446744073709551616)/\lv 18446744073709551616 A=2*q1+1/\Top A by
  refine⟨dA,?_,tA⟩;rw[vA,Hq1.out,Nat.mul_div_cancel_left _ (Nat.pow_pos ω)])
 clear sX sY dA vA tA g3;go_wp2_with fail;refine(ZeI by' 0 Y.length s Y w3 sY3 HY.out.1 (Nat.le_refl _) ω hs).mono ?_;rintro e w4 ⟨B,ob,cb,rfl,sB,dB,vB,tB,lB,cB,g4,z4⟩;have sA4:=sA.grown g4 ωi;have hB4:Below w.heap.size w w4:=hB3.grown g4 hB3.size (by intro j hj;have:=sI hj;have:=hB2.size;omega);have hT4:=hT.below hB4 (Nat.le_refl _);have HB:=Lib.hid (show (∀d∈B,d<18446744073709551616)/\lv 18446744073709551616 B=2*q2+1/\Top B by
  refine⟨dB,?_,tB⟩;rw[vB,Hq2.out,Nat.mul_div_cancel_left _ (Nat.pow_pos ω)])
 clear sA sY3 dB vB tB g4 hT2 hT3 hB2 hB3;obtain⟨G,hG⟩:∃G,G=Nat.gcd (2*q1+1) (2*q2+1):=⟨_,rfl⟩;have HG:=Lib.hid (show Nat.gcd n m=G*2^min t s by
  rw[<-HX.out.2,<-HY.out.2,Hq1.out,Hq2.out,Znf _ _ _ _ ω ω,hG])
 have Hg:=Lib.hid hG;clear hG
 go_upto_block 0 with (fail)
 go_cut [5,6] (fun s5 s6 wx=>∃(b1 o1 c1 b2 o2 c2:Nat)(A B:List Nat),s5= .slice (some ⟨b1,o1,none⟩) A.length c1/\s6= .slice (some ⟨b2,o2,none⟩) B.length c2/\b1≠b2/\w.heap.size<=b1/\w.heap.size<=b2/\Seg wx b1 152 o1 (nums .u64 A)/\Seg wx b2 152 o2 (nums .u64 B)/\
   Hid ((∀d∈A,d<18446744073709551616)/\(∀d∈B,d<18446744073709551616))/\B.length<=2199023255553/\Hid (A.length=0/\lv 18446744073709551616 B=G\/A.length=1/\B.length=1/\Nat.gcd (lv 18446744073709551616 A) (lv 18446744073709551616 B)=G)/\Below w.heap.size w wx)
 case first=>
  go_wp2_with fail
  go_loopg [5,6] (lv 18446744073709551616 A+lv 18446744073709551616 B) (fun g s5 s6 wr=>∃(b1 o1 c1 b2 o2 c2:Nat)(A B:List Nat),s5= .slice (some ⟨b1,o1,none⟩) A.length c1/\s6= .slice (some ⟨b2,o2,none⟩) B.length c2/\b1≠b2/\w.heap.size<=b1/\w.heap.size<=b2/\Seg wr b1 152 o1 (nums .u64 A)/\Seg wr b2 152 o2 (nums .u64 B)/\
   Hid ((∀d∈A,d<18446744073709551616)/\(∀d∈B,d<18446744073709551616)/\Top A/\Top B)/\A.length<=c1/\c1<=2199023255553/\B.length<=c2/\c2<=2199023255553/\
   Hid (lv 18446744073709551616 A%2=1/\lv 18446744073709551616 B%2=1/\Nat.gcd (lv 18446744073709551616 A) (lv 18446744073709551616 B)=G/\g=lv 18446744073709551616 A+lv 18446744073709551616 B)/\Below w.heap.size w wr)
  case atStart=>
   exact⟨bx,oa,ca,by',ob,cb,A,B,rfl,rfl,hne,hbx,ω,sA4,sB,⟨HA.out.1,HB.out.1,HA.out.2.2,HB.out.2.2⟩,lA,ω,lB,ω,⟨by rw[HA.out.2.1];omega,by rw[HB.out.2.1];omega,by rw[HA.out.2.1,HB.out.2.1,Hg.out],rfl⟩,hB4⟩
  case round=>
   clear HA HB sA4 sB hB4 hT4 lA cA lB cB;obtain⟨b1,o1,c1,b2,o2,c2,A',B',rfl,rfl,hne',hb1,hb2,sA,sB,hdig,lA,cA,lB,cB,hval,hB⟩:=hrel;by_cases hend:A'.length<=1/\B'.length<=1
   .obtain⟨e1,e2⟩:=hend;have hA1:A'.length=1:=by
     rcases A' with _|⟨x,A'⟩
     .have:=hval.out.1;rw[Zda]at this;omega
     .simp at e1⊢;omega
    have hB1:B'.length=1:=by
     rcases B' with _|⟨x,B'⟩
     .have:=hval.out.2.1;rw[Zda]at this;omega
     .simp at e2⊢;omega
    have HF:=Lib.hid (And.intro hA1 (And.intro hB1 hval.out.2.2.1));go_wp2_with fail
    go_meet
    exact⟨b1,o1,c1,b2,o2,c2,A',B',by rw[HF.out.1],by rw[HF.out.2.1],hne',hb1,hb2,sA,sB,⟨hdig.out.1,hdig.out.2.1⟩,ω,.inr ⟨HF.out.1,HF.out.2.1,HF.out.2.2⟩,hB⟩
   .have Hend:=Lib.hid hend
    go_upto_region 4 with (fail)
    go_cut [35] (fun s wx=>s= .bool true/\wr=wx)
    case first=>
     by_cases h1:1<A'.length
     .clear hend;go_wp2_with fail
      go_meet
      exact⟨rfl,rfl⟩
     .have H2:=Lib.hid (show Value.bool (decide ((1:Int)<(A'.length:Int))||decide ((1:Int)<(B'.length:Int)))=Value.bool true by simp;omega);clear hend;go_wp2_with fail
      go_meet
      exact⟨H2.out,rfl⟩
    case rest=>
     obtain⟨rfl,rfl⟩:=hcut;clear hend;go_wp2_with fail;refine(ZrI b1 o1 c1 b2 o2 c2 A' B' wr sA sB hdig.out.1 hdig.out.2.1 hdig.out.2.2.1 hdig.out.2.2.2 ω ω).mono ?_;rintro e w5 ⟨rfl,hb5⟩;have sA5:=sA.below hb5 sA.lt;have sB5:=sB.below hb5 sB.lt;have hB5:=hB.trans (hb5.mono hB.size);clear sA sB hB hb5
     go_upto_if 38 with (fail)
     go_cut [5,6] (fun s5 s6 wx=>∃(b1 o1 c1 b2 o2 c2:Nat)(A B:List Nat),s5= .slice (some ⟨b1,o1,none⟩) A.length c1/\s6= .slice (some ⟨b2,o2,none⟩) B.length c2/\b1≠b2/\w.heap.size<=b1/\w.heap.size<=b2/\Seg wx b1 152 o1 (nums .u64 A)/\Seg wx b2 152 o2 (nums .u64 B)/\
      Hid ((∀d∈A,d<18446744073709551616)/\(∀d∈B,d<18446744073709551616)/\Top A/\Top B)/\A.length<=c1/\c1<=2199023255553/\B.length<=c2/\c2<=2199023255553/\
      Hid (lv 18446744073709551616 A%2=1/\lv 18446744073709551616 B%2=1/\Nat.gcd (lv 18446744073709551616 A) (lv 18446744073709551616 B)=G/\gk=lv 18446744073709551616 A+lv 18446744073709551616 B/\lv 18446744073709551616 B<=lv 18446744073709551616 A)/\Below w.heap.size w wx)
     case first=>
      by_cases hlt:lv 18446744073709551616 A'<lv 18446744073709551616 B'
      .have hd:decide (lv 18446744073709551616 A'<lv 18446744073709551616 B')=true:=by simpa using hlt
       have Hlt:=Lib.hid hlt;clear hlt;rw[hd];go_wp2_with fail
       go_meet
       exact⟨b2,o2,c2,b1,o1,c1,B',A',rfl,rfl,fun e=>hne' e.symm,hb2,hb1,sB5,sA5,⟨hdig.out.2.1,hdig.out.1,hdig.out.2.2.2,hdig.out.2.2.1⟩,lB,cB,lA,cA,⟨hval.out.2.1,hval.out.1,by rw[Nat.gcd_comm];exact hval.out.2.2.1,by rw[Nat.add_comm];exact hval.out.2.2.2,Nat.le_of_lt Hlt.out⟩,hB5⟩
      .have hd:decide (lv 18446744073709551616 A'<lv 18446744073709551616 B')=false:=by simpa using hlt
       have Hlt:=Lib.hid hlt;clear hlt;rw[hd];go_wp2_with fail
       go_meet
       exact⟨b1,o1,c1,b2,o2,c2,A',B',rfl,rfl,hne',hb1,hb2,sA5,sB5,hdig,lA,cA,lB,cB,⟨hval.out.1,hval.out.2.1,hval.out.2.2.1,hval.out.2.2.2,Nat.le_of_not_lt Hlt.out⟩,hB5⟩
     case rest=>
      clear sA5 sB5 hB5 hdig lA cA lB cB hne' hb1 hb2 hval Hend;obtain⟨b1,o1,c1,b2,o2,c2,A',B',rfl,rfl,hne',hb1,hb2,sA,sB,hdig,lA,cA,lB,cB,hval,hB⟩:=hcut;have hBA:=Ziy hdig.out.1 ω hdig.out.2.2.2 hval.out.2.2.2.2;go_wp2_with fail;refine(ZpQ b1 o1 c1 b2 o2 c2 A' B' wc sA sB hne' hdig.out.1 hdig.out.2.1 hBA lA ω hval.out.2.2.2.2).mono ?_;rintro e w6 ⟨Z,rfl,sZ,dZ,vZ,tZ,lZ,g6,z6⟩;have sB6:=sB.grown g6 ωi;have hB6:Below w.heap.size w w6:=hB.grown g6 hB.size (by intro j hj;have:=sI hj;omega);have HZ:=Lib.hid (And.intro dZ (And.intro vZ tZ));clear sA sB hB g6 z6 dZ vZ tZ;by_cases h0:Z.length=0
      .have hZ0:Z= []:=List.eq_nil_of_length_eq_zero h0;have HF:=Lib.hid (show lv 18446744073709551616 B'=G by
        have h1:=HZ.out.2.1;rw[hZ0,Zda]at h1;have h2:lv 18446744073709551616 A'=lv 18446744073709551616 B':=by have:=hval.out.2.2.2.2;omega
        rw[<-hval.out.2.2.1,h2,Nat.gcd_self])
       clear hZ0;go_wp2_with fail
       go_meet
       exact⟨b1,o1,c1,b2,o2,c2,Z,B',by rw[h0],rfl,hne',hb1,hb2,sZ,sB6,⟨HZ.out.1,hdig.out.2.1⟩,ω,.inl ⟨h0,HF.out⟩,hB6⟩
      .have hZpos:0<lv 18446744073709551616 Z:=top_pos ω HZ.out.2.2 ω;have HZp:=Lib.hid hZpos;have hT6:=hT.below hB6 (Nat.le_refl _);clear hZpos;go_wp2_with fail;refine(Zfc b1 o1 c1 Z w6 sZ HZ.out.1 ω HZp.out hT6).mono ?_;rintro e w' ⟨t',q',rfl,hq',ht',rfl⟩;have Hq':=Lib.hid hq';clear hq';go_wp2_with fail;refine(ZeI b1 o1 c1 t' Z w6 sZ HZ.out.1 ω ω ht').mono ?_;rintro e w7 ⟨Z',o',c',rfl,sZ',dZ',vZ',tZ',lZ',cZ',g7,z7⟩;have sB7:=sB6.grown g7 ωi;have hB7:Below w.heap.size w w7:=hB6.grown g7 hB6.size (by intro j hj;have:=sI hj;omega);have vq:lv 18446744073709551616 Z'=2*q'+1:=by rw[vZ',Hq'.out,Nat.mul_div_cancel_left _ (Nat.pow_pos ω)]
       have hle':lv 18446744073709551616 Z'<=lv 18446744073709551616 Z:=by rw[vZ'];exact Nat.div_le_self _ _
       have hgcd:Nat.gcd (lv 18446744073709551616 Z') (lv 18446744073709551616 B')=G:=by
        rw[vq,<-ZcQ t' _ hval.out.2.1,<-Hq'.out,HZ.out.2.1,ZqS hval.out.2.2.2.2,hval.out.2.2.1]
       have HN:=Lib.hid (show lv 18446744073709551616 Z'%2=1/\Nat.gcd (lv 18446744073709551616 Z') (lv 18446744073709551616 B')=G/\lv 18446744073709551616 Z'+lv 18446744073709551616 B'<gk by
        refine⟨ω,hgcd,?_⟩;have h1:=HZ.out.2.1;have h2:=hval.out;have:0<lv 18446744073709551616 B':=ω;omega)
       have HD':=Lib.hid (And.intro dZ' tZ');clear sZ sB6 hB6 g7 z7 vq hle' hgcd dZ' tZ' vZ';go_wp2_with fail
       go_roundg (lv 18446744073709551616 Z'+lv 18446744073709551616 B')
       case measure=>exact HN.out.2.2
       case rel=>exact⟨b1,o',c',b2,o2,c2,Z',B',rfl,rfl,hne',hb1,hb2,sZ',sB7,⟨HD'.out.1,hdig.out.2.1,HD'.out.2,hdig.out.2.2.2⟩,lZ',ω,lB,cB,⟨HN.out.1,hval.out.2.1,HN.out.2.1,rfl⟩,hB7⟩
 case rest=>
  clear HA HB sA4 sB hB4 hT4 lA cA lB cB hne hbxl hbyl;obtain⟨b1,o1,c1,b2,o2,c2,A,B,rfl,rfl,hne,hb1,hb2,sA,sB,hdig,lB,hcase,hB⟩:=hcut
  go_upto_region 10 with (fail)
  go_cut [58] (fun s wx=>s= .bool (decide (A.length=1))/\wc=wx)
  case first=>
   rcases hcase.out with ⟨h1,_⟩|⟨h1,h2,_⟩
   .have H2:=Lib.hid (show Value.bool false=Value.bool (decide (A.length=1)) by rw[h1];rfl);go_wp2_with fail
    go_meet
    exact⟨H2.out,rfl⟩
   .have H2:=Lib.hid (show Value.bool true=Value.bool (decide (A.length=1)) by rw[h1];rfl);go_wp2_with fail
    go_meet
    exact⟨H2.out,rfl⟩
  case rest=>
   obtain⟨rfl,rfl⟩:=hcut
   go_upto_if 58 with (fail)
   go_cut [6] (fun s6 wx=>∃(b2 o2 c2:Nat)(B:List Nat),s6= .slice (some ⟨b2,o2,none⟩) B.length c2/\w.heap.size<=b2/\Seg wx b2 152 o2 (nums .u64 B)/\Hid (∀d∈B,d<18446744073709551616)/\B.length<=2199023255553/\Hid (lv 18446744073709551616 B=G)/\Below w.heap.size w wx)
   case first=>
    rcases hcase.out with ⟨h1,h2⟩|⟨h1,h2,h3⟩
    .have hd:decide (A.length=1)=false:=by rw[h1];rfl
     have HF:=Lib.hid h2;clear h1 h2;rw[hd];go_wp2_with fail
     go_meet
     exact⟨b2,o2,c2,B,rfl,hb2,sB,hdig.out.2,lB,HF,hB⟩
    .have hd:decide (A.length=1)=true:=by rw[h1];rfl
     obtain⟨x,hx⟩:∃x:Nat,A= [x]:=List.length_eq_one_iff.1 h1;obtain⟨y,hy⟩:∃y:Nat,B= [y]:=List.length_eq_one_iff.1 h2;have hcx:=sA.int (i:=0) ω;have hcy:=sB.int (i:=0) ω;have hfy:=sB.frozen (o2+0);subst hx;subst hy;have HF:=Lib.hid (show Nat.gcd x y=G by simpa[lv]using h3);have hxl:x<18446744073709551616:=hdig.out.1 x (by simp);have hyl:y<18446744073709551616:=hdig.out.2 y (by simp);rw[hd];clear h1 h2 h3;simp only[getD,List.getElem?_cons_zero,Option.getD_some,Nat.add_zero]at hcx hcy hfy;have sB0:Seg wc.drew b2 152 o2 (nums .u64 [y]):=sB.drew;go_wp2_with fail
     go_region_with (first|(go_at_call 196;refine(Zgh x y wc.drew hxl hyl).mono ?_;rintro e w5 ⟨rfl,hb5⟩;have sB5:=sB0.below hb5 sB0.lt;have hcy5:w5.cell? ⟨b2,o2,none⟩=some (.int .u64 (y:Int)):=sB5.int (i:=0) (by simp);have hfy5:=sB5.frozen o2;rw[HF.out]))
     all_goals
      go_wp2_with fail
      go_meet
      exact⟨b2,o2,c2, [G],rfl,hb2,sB5.int_set 0 G,(by intro d hd;rw[List.mem_singleton]at hd;rw[hd,<-HF.out];exact Zvy hxl hyl),by simp,(by show _=_;simp[lv]),(hB.drew.trans (hb5.mono hB.drew.size)).setCell hb2 _⟩
   case rest=>
    clear sA sB hB hdig hcase lB hne hb1 hb2;obtain⟨b,o,c,Y,rfl,hb,sY,hdY,lY,hG,hB⟩:=hcut;obtain⟨L,hL⟩:∃L,Y.length=L:=⟨_,rfl⟩;rw[hL]at lY⊢;have HL:=Lib.hid hL;have hyv:=hdY.out;have Hpos:=Lib.hid (show Hid (lv 18446744073709551616 Y<256^(8*L)) by
     show _<_;rw[Nat.pow_mul,<-HL.out];exact ZdI hyv)
    clear hL hyv;go_wp2_with (first|(at_make;refine Zu _ rfl _ _ _ rfl 5 _ 1 Tryz.underlying234 info5 rfl _ _ _ _ (8*L) rfl rfl ω ω ω ω ?_));intro w8 hR8 hg8 hsz8;have sY8:=sY.grown hg8 (by simp);have hbl:=sY.lt;have hB8:Below w.heap.size w w8:=hB.grown hg8 hB.size (by simp);have hwc:=hB.size;have hR80:Row w8 wc.heap.size 5 (nums .u8 (laidW G (8*L) 0 0)):=by rw[Zm2];simpa[nums]using hR8
    clear sY hR8 hg8 hB;go_wp2
    go_loopw [74] (fun si wr=>∃k:Nat,k<=L/\si= .int .i64 k/\Row wr wc.heap.size 5 (nums .u8 (laidW G (8*L) k 0))/\Seg wr b 152 o (nums .u64 Y)/\Below w.heap.size w wr) (fun si _=>L-(intOf si).toNat)
    case atStart=>exact⟨0,Nat.zero_le _,rfl,hR80,sY8,hB8⟩
    case round=>
     obtain⟨wo,rfl⟩:∃wo:World,wo=wr:=⟨_,rfl⟩;obtain⟨k,hk,rfl,hRk,sYk,hBk⟩:=hrel;clear hR80 sY8 hB8;by_cases hlt:k<L
     .obtain⟨x,hx⟩:∃x:Nat,x=Y.getD k 0:=⟨_,rfl⟩;have hcx:=sYk.int (i:=k) (by rw[HL.out];exact hlt);rw[<-hx]at hcx;have Hx:=Lib.hid hx;clear hx;go_wp2
      go_loopw [79] (fun si wr=>∃j:Nat,j<=8/\si= .int .i64 j/\Row wr wc.heap.size 5 (nums .u8 (laidW G (8*L) k j))/\Seg wr b 152 o (nums .u64 Y)/\Below w.heap.size w wr) (fun si _=>8-(intOf si).toNat)
      case atStart=>exact⟨0,Nat.zero_le _,rfl,hRk,sYk,hBk⟩
      case round=>
       obtain⟨j,hj,rfl,hRj,sYj,hBj⟩:=hrel;clear hRk sYk hBk hcx;by_cases hj8:j<8
       .obtain⟨p,hp⟩:∃p:Nat,(8:Int)*((L:Int)-1-(k:Int))+(j:Int)=(p:Int):=⟨8*(L-1-k)+j,ω⟩;have hp2:p<8*L:=ω;have hcp:=hRj.int (i:=p) (by rw[Ziz];exact hp2);have hfp:=hRj.frozen p;have Hp:=Lib.hid (show p=8*L-8*(k+1)+j by omega);have hval:((x:Int)/2^(56-8*j)%256)=((G/256^(8*k+(7-j))%256:Nat):Int):=by
         have h1:=Zap (W:=18446744073709551616) (s:=8) (V:=G) (k:=k) (t:=7-j) rfl ω;have h2:x=G/18446744073709551616^k%18446744073709551616:=by rw[Hx.out,<-hG.out];exact Zga ω hdY.out (by rw[HL.out];exact hlt)
         rw[<-h1,<-h2,show (256:Nat)^(7-j)=2^(56-8*j) by rw[show (256:Nat)=2^8 by decide,<-Nat.pow_mul];congr 1;omega];simp
        have HV:=Lib.hid hval;clear hval;go_wp2
        go_roundw
        case rel=>
         have hR':=hRj.int_set p (G/256^(8*k+(7-j))%256);rw[show (laidW G (8*L) k j).set p (G/256^(8*k+(7-j))%256)=laidW G (8*L) k (j+1) by rw[Hp.out];exact Zqa ω hj8]at hR';rw[HV.out];exact⟨j+1,ω,by go_num,hR',sYj.set_ne (by show wc.heap.size≠b;omega) _,hBj.setCell hwc _⟩
        case measure=>simp[intOf]<;>omega
       .obtain rfl:j=8:=ω;rw[Zm3 _ _ _ ω]at hRj;go_wp2
        go_roundw
        case rel=>exact⟨k+1,ω,by go_num,hRj,sYj,hBj⟩
        case measure=>simp[intOf]<;>omega
     .have HK:=Lib.hid (show k=L by omega);rw[HK.out,ZiA]at hRk;clear hk;obtain⟨u,hu⟩:∃u,u=min t s:=⟨_,rfl⟩;have hul:u/8<=17592186044424:=ω;have hmin:min (t:Int) (s:Int)=(u:Int):=ω;have Hu:=Lib.hid hu;have hbr:wc.heap.size<wo.heap.size:=hRk.lt;clear hu;go_wp2_with (first|(at_make;refine Zu _ rfl _ _ _ rfl 5 _ 1 Tryz.underlying234 info5 rfl _ _ _ _ (u/8+1) rfl rfl ω ω ω ω ?_));intro w9 hR9 hg9 hsz9;have hl9:=hRk.grown hg9 (by simp);have hB9:Below w.heap.size w w9:=hBk.grown hg9 hBk.size (by simp);have hR90:Row w9 wo.heap.size 5 (nums .u8 (0::replicate (u/8) 0)):=by
       rw[List.replicate_succ]at hR9;simpa[nums]using hR9
      have hc0:=hR90.int (i:=0) (by simp);have hf0:=hR90.frozen 0;obtain⟨v,hv⟩:∃v:Nat,v=2^(u%8):=⟨_,rfl⟩;have hpw:v<256:=by rw[hv];exact Nat.lt_of_le_of_lt (Nat.pow_le_pow_right ω (show u%8<=7 by omega)) ωd
      have hve:((2:Int)^(u%8)%256)=(v:Int):=by
       have h1:((2:Int)^(u%8))=((2^(u%8):Nat):Int):=by simp
       rw[h1,<-hv];omega
      have hB10:Below w.heap.size w (w9.setCell ⟨wo.heap.size,0,none⟩ (.int .u8 (v:Int))):=hB9.setCell hBk.size _;have hR10:=hR90.int_set 0 v;rw[List.set_cons_zero]at hR10;have hl10:=hl9.set_ne (a:=⟨wo.heap.size,0,none⟩) (by show wo.heap.size≠wc.heap.size;omega) (.int .u8 (v:Int));have hcl:=Zfm hl10 (by rw[<-ZiA];exact Ztw _ _ _ _) (8*L) (Zbi _ _ _);have hcp:=Zfm hR10 (by
       intro d hd;rcases List.mem_cons.1 hd with rfl|hd
       .exact hpw
       .have:=List.eq_of_mem_replicate hd;omega) (u/8+1) (by simp)
      have hvl:nv ⟨((laidB G (8*L) (8*L)).map fun d=>UInt8.ofNat d).toArray⟩=G:=Zin (by have:=Hpos.out.out;rw[hG.out]at this;exact this);have hvp:nv ⟨((v::replicate (u/8) 0).map fun d=>UInt8.ofNat d).toArray⟩=2^u:=by rw[hv];exact Zpw u
      have hsl:(⟨((laidB G (8*L) (8*L)).map fun d=>UInt8.ofNat d).toArray⟩:ByteArray).size=8*L:=by simp[ByteArray.size,Zbi]
      have hsp:(⟨((v::replicate (u/8) 0).map fun d=>UInt8.ofNat d).toArray⟩:ByteArray).size=u/8+1:=by simp[ByteArray.size]
      generalize (⟨((laidB G (8*L) (8*L)).map fun d=>UInt8.ofNat d).toArray⟩:ByteArray)=sl at*;generalize (⟨((v::replicate (u/8) 0).map fun d=>UInt8.ofNat d).toArray⟩:ByteArray)=sp at*;have HF:=Lib.hid (show nv sl*nv sp=Nat.gcd n m by rw[hvl,hvp,HG.out,Hu.out]);have HZ:=Lib.hid (And.intro hsl hsp);clear hR9 hl9 hR90 hR10 hl10 hvl hvp hsl hsp hRk sYk hBk hB9 hg9 hv;go_wp2_with fail;refine(ZbA sl sp _ (by rw[HZ.out.1];omega) (by rw[HZ.out.2];omega)).mono ?_;rintro e w11 ⟨rfl,hb11⟩;rw[HF.out];go_wp2_with fail
      go_ret
      exact⟨rfl,hB10.trans (hb11.mono hB10.size)⟩
end Go.Proofs.YtnhfpbcbhnfeaaaGreatDoor.natN
namespace Go.Proofs.YtnhfpbcbhnfeaaaGreatDoor.natO
open Go.RowKit num mem natA natB natC natD natE natI seg natL natM natN
theorem enc_ne{n:Nat}(h:0<n):(enc n).toList.isEmpty=false:=by
 rw[Lib.toList_data,Zbn]
 cases hd:digs n with
 |nil=>rw[ZcU]at hd;omega
 |cons x l=>rfl
theorem ZrR(s:ByteArray):s++⟨#[]⟩=s:=by apply ZcE;simp
theorem Zra(s:ByteArray):⟨#[]⟩++s=s:=by apply ZcE;simp
theorem Zkz(a b:ByteArray)(w:World)(ha:a.size<=17592186044416)(hb:b.size<=17592186044416)(hT:Tab w):
  Calls Tryz.prog 156 #[.string a,.string b] w fun e w'=>e= .returned (.string (enc (Nat.gcd (nv a) (nv b))))/\Below w.heap.size w w':=by
 obtain⟨n,hn⟩:∃n,nv a=n:=⟨_,rfl⟩;obtain⟨m,hm⟩:∃m,nv b=m:=⟨_,rfl⟩;have hla:(enc n).size<=17592186044416:=by rw[<-hn];exact Nat.le_trans (ZN a) ha
 have hlb:(enc m).size<=17592186044416:=by rw[<-hm];exact Nat.le_trans (ZN b) hb
 rw[hn,hm];have Hn:=Lib.hid hn;have Hm:=Lib.hid hm;clear hm hn ha hb;obtain⟨G,hG⟩:∃G,Nat.gcd n m=G:=⟨_,rfl⟩;rw[hG];have HG:=Lib.hid hG;clear hG
 go_enter Tryz.func156,Tryz.ntmps156
 go_wp2_with fail;refine(Zz a _).mono ?_;rintro e w' ⟨rfl,rfl⟩;rw[Hn.out];go_wp2_with fail;refine(Zz b _).mono ?_;rintro e w' ⟨rfl,rfl⟩;rw[Hm.out];go_wp2_with fail
 go_loopg [0,1] (n+m) (fun g s0 s1 wr=>∃x y:Nat,s0= .string (enc x)/\s1= .string (enc y)/\(enc x).size<=17592186044416/\(enc y).size<=17592186044416/\Hid (Nat.gcd x y=G)/\g=x+y/\Below w.heap.size w wr)
 case atStart=>exact⟨n,m,rfl,rfl,hla,hlb,HG,rfl,Below.refl _ _⟩
 case round=>
  clear HG Hn Hm hla hlb;obtain⟨x,y,rfl,rfl,hx,hy,hg,hgk,hB⟩:=hrel;by_cases hx0:x=0
  .subst hx0;have HE:=Lib.hid (show G=y by rw[<-hg.out,Nat.gcd_zero_left]);rw[ZV];go_wp2_with fail
   go_ret
   exact⟨Z5 (by rw[HE.out,Zra]),hB⟩
  .by_cases hy0:y=0
   .subst hy0;have HE:=Lib.hid (show G=x by rw[<-hg.out,Nat.gcd_zero_right]);have hxe:=enc_ne (show 0<x by omega);rw[ZV];go_wp2_with fail
    go_ret
    exact⟨Z5 (by rw[HE.out,ZrR]),hB⟩
   .have hxe:=enc_ne (show 0<x by omega);have hye:=enc_ne (show 0<y by omega);have Hx0:=Lib.hid (show 0<x by omega);have Hy0:=Lib.hid (show 0<y by omega);have Hgk:=Lib.hid hgk;clear hgk
    go_upto_if 22 with (fail)
    go_cut [0,1] (fun s0 s1 wx=>wr=wx/\∃x y:Nat,s0= .string (enc x)/\s1= .string (enc y)/\(enc x).size<=17592186044416/\(enc y).size<=(enc x).size/\Hid (Nat.gcd x y=G)/\Hid (0<x/\0<y)/\Hid (gk=x+y))
    case first=>
     by_cases hs:(enc x).size<(enc y).size
     .go_wp2_with fail
      go_meet
      exact⟨rfl,y,x,rfl,rfl,hy,ω,by show _=_;rw[Nat.gcd_comm];exact hg.out,⟨Hy0.out,Hx0.out⟩,by show _=_;rw[Nat.add_comm];exact Hgk.out⟩
     .go_wp2_with fail
      go_meet
      exact⟨rfl,x,y,rfl,rfl,hx,ω,hg,⟨Hx0.out,Hy0.out⟩,Hgk⟩
    case rest=>
     clear Hx0 Hy0 hxe hye hx0 hy0 hx hy hg Hgk;obtain⟨rfl,x,y,rfl,rfl,hx,hyx,hg,h0,hgk⟩:=hcut;by_cases h8:(enc x).size<=8
     .have hxl:=Zb6 h8;have hyl:=Zb6 (n:=y) ω;have Hx:=Lib.hid hxl;have Hy:=Lib.hid hyl;have hGl:G<2^64:=by rw[<-hg.out];exact Zvy hxl hyl
      have HGl:=Lib.hid hGl;have Hx':=Lib.hid (show x<18446744073709551616 from hxl);have Hy':=Lib.hid (show y<18446744073709551616 from hyl);clear hxl hyl hGl;go_wp2_with fail;refine(ZW x _ Hx.out).mono ?_;rintro e w' ⟨rfl,rfl⟩;go_wp2_with fail;refine(ZW y _ Hy.out).mono ?_;rintro e w' ⟨rfl,rfl⟩;go_wp2_with fail;refine(Zgh x y wr Hx'.out Hy'.out).mono ?_;rintro e w5 ⟨rfl,hb5⟩;rw[hg.out];go_wp2_with fail;refine(ZU G w5 HGl.out).mono ?_;rintro e w6 ⟨rfl,hb6⟩;go_wp2_with fail
      go_ret
      have h5:=hB.trans (hb5.mono hB.size);exact⟨rfl,h5.trans (hb6.mono h5.size)⟩
     .by_cases hnear:(enc x).size<=(enc y).size+8
      .have hTr:=hT.below hB (Nat.le_refl _);go_wp2_with fail;refine(Znd x y wr h0.out.1 h0.out.2 hx ω hTr).mono ?_;rintro e w5 ⟨rfl,hb5⟩;rw[hg.out];go_wp2_with fail
       go_ret
       exact⟨rfl,hB.trans (hb5.mono hB.size)⟩
      .go_wp2_with fail;refine(ZhD (enc x) (enc y) wr ω ω (by rw[Ze];exact h0.out.2)).mono ?_;rintro e w5 ⟨rfl,hb5⟩;rw[Ze,Ze];have HM:=Lib.hid (show x%y<y from Nat.mod_lt _ h0.out.2);have Hyx:=Lib.hid (show y<=x by
        apply Nat.le_of_not_lt;intro hlt;have:=ZaJ (Nat.le_of_lt hlt);omega)
       go_wp2_with fail
       go_roundg (y+x%y)
       case measure=>have:=hgk.out;have:=HM.out;have:=Hyx.out;omega
       case rel=>exact⟨y,x%y,rfl,rfl,ω,Nat.le_trans (ZaJ (Nat.le_of_lt HM.out)) ω,by show _=_;rw[gcd_mod'];exact hg.out,rfl,hB.trans (hb5.mono hB.size)⟩
