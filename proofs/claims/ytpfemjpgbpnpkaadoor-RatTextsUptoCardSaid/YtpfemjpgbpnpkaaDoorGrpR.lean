/- Joined by wip/bundle.py: XRefC XRefD XConv XRefE XRefF XOwn XNatK XRefG XLawA XRefH XRefI. -/
import Derived.Test.YtpfemjpgbpnpkaaDoorGrpJ
import Derived.Test.YtpfemjpgbpnpkaaDoorGrpC
import Derived.StillTailTactics
import Derived.Test.YtpfemjpgbpnpkaaDoorGrpB
import Derived.Lib.ConvBytes
import Derived.Shelf.Strings.SlTrimAscii
set_option maxRecDepth 100000
namespace Go.Proofs.YtpfemjpgbpnpkaaDoor.refC
open Go.RowKit num mem natA natB natC natD refA refB
theorem Zjt {a:ByteArray} {i:Nat} (h:a.size≤i):dig a i=0:=by
 unfold dig
 have h1:=Zbl a
 have h2:256 ^ a.size≤256 ^ i:=Nat.pow_le_pow_right (by omega) h
 rw [Nat.div_eq_of_lt (by omega)]
def digN (a:ByteArray) (N:Nat):List Nat:=dg 256 (nv a) N
theorem Zcj {a:ByteArray} {N:Nat} (h:a.size≤N):lv 256 (digN a N)=nv a:=
 ZV (Nat.lt_of_lt_of_le (Zbl a) (Nat.pow_le_pow_right (by omega) h))
def addN (a b:ByteArray) (N:Nat):List Nat:=(List.range N).map fun i=>dig a i+dig b i
theorem Zga (B:Nat) (f g:Nat→Nat) (N:Nat):lv B ((List.range N).map fun i=>f i+g i)=lv B ((List.range N).map f)+lv B ((List.range N).map g):=by
 induction N with
 |zero=>rfl
 |succ N ih=>
  rw [List.range_succ,List.map_append,List.map_append,List.map_append]
  simp only [List.map_cons,List.map_nil,Zac,List.length_map,List.length_range,ih,Nat.mul_add]
  omega
theorem ZiY {a b:ByteArray} {N:Nat} (ha:a.size≤N) (hb:b.size≤N):lv 256 (addN a b N)=nv a+nv b:=by
 unfold addN
 rw [Zga]
 have h1:=Zcj ha
 have h2:=Zcj hb
 unfold digN dg at h1 h2
 unfold dig
 rw [h1,h2]
theorem ZU (f:Nat→Nat) {k:Nat} (l:List Nat) (hl:l=(List.range k).map f):l++ [f k]=(List.range (k+1)).map f:=by
 subst hl;rw [List.range_succ,List.map_append];rfl
theorem Z8 (a b:ByteArray) (w:World) (ha:a.size≤35184372088832) (hb:b.size≤35184372088832):
  Calls Tryd.prog 76 #[.string a,.string b] w fun e w'=>e= .returned (.string (enc (nv a+nv b)))∧Below w.heap.size w w':=by
 obtain⟨N,hN⟩:∃ N:Nat,max (a.size:Int) (b.size:Int)=(N:Int):=⟨max a.size b.size,by omega⟩
 have hN1:N≤35184372088832:=by omega
 have Ha:=Lib.hid (show a.size≤N by omega)
 have Hb:=Lib.hid (show b.size≤N by omega)
 go_enter Tryd.func76,Tryd.ntmps76
 go_wp2_with (first|(at_make;refine Zj _ rfl _ _ _ rfl 3 _ 8 Tryd.underlying56 refA.info3 rfl _ _ _ _ N rfl rfl (by omega) (by omega) (by omega) (by omega) ?_))
 intro w1 hR hg hsz
 have hB0:Below w.heap.size w w1:=(Below.refl _ _).grown hg (Nat.le_refl _) (by simp)
 have hR0:Row w1 w.heap.size 3 (nums .i64 ((List.range 0).map (fun i=>dig a i+dig b i)++List.replicate (N - 0) 0)):=by simpa [nums] using hR
 clear hR hg hN
 go_wp2
 go_loopw [15] (fun i wr=>∃ k:Nat,k≤N∧i= .int .i64 k∧Row wr w.heap.size 3 (nums .i64 ((List.range k).map (fun i=>dig a i+dig b i)++List.replicate (N - k) 0))∧Below w.heap.size w wr) (fun i _=>N - (intOf i).toNat)
 case atStart=>exact⟨0,Nat.zero_le _,rfl,hR0,hB0⟩
 case round=>
  obtain⟨k,hk,rfl,hRk,hBk⟩:=hrel
  clear hR0 hB0
  by_cases hlt:k< N
  ·have hcx:=hRk.int (i:=k) (by simp;omega)
   have hfx:=hRk.frozen k
   have hx:=Zag a k
   have hy:=Zag b k
   obtain⟨x,hxx⟩:∃ x,x=dig a k:=⟨_,rfl⟩
   obtain⟨y,hyy⟩:∃ y,y=dig b k:=⟨_,rfl⟩
   rw [← hxx] at hx
   rw [← hyy] at hy
   have Hx:=Lib.hid hxx
   have Hy:=Lib.hid hyy
   clear hxx hyy
   go_wp2_with fail
   refine(ZA a k _ (by omega) (by omega)).mono ?_
   rintro e w' ⟨rfl,rfl⟩
   rw [← Hx.out]
   go_wp2_with fail
   refine(ZA b k _ (by omega) (by omega)).mono ?_
   rintro e w' ⟨rfl,rfl⟩
   rw [← Hy.out]
   go_wp2_with fail
   go_roundw
   case rel=>
    have hS:=hRk.int_set k (x+y)
    rw [Zt (by simp) hlt,Hx.out,Hy.out,ZU (fun i=>dig a i+dig b i) _ rfl,← Hx.out,← Hy.out] at hS
    exact⟨k+1,by omega,by go_num,hS,hBk.setCell (Nat.le_refl _) _⟩
   case measure=>simp [intOf]<;>omega
  ·obtain rfl:k=N:=by omega
   have hP:=hRk.pre
   rw [Nat.sub_self,List.replicate_zero,List.append_nil] at hP
   rw [show (nums .i64 ((List.range k).map fun i=>dig a i+dig b i)).length=k by simp [nums]] at hP
   have hnum:=Zat w.heap.size k (addN a b k) wr hP (by
    intro d hd
    simp only [addN,List.mem_map] at hd
    obtain⟨j,_,rfl⟩:=hd
    have:=Zag a j;have:=Zag b j;omega) (by simp [addN];omega)
   rw [show (addN a b k).length=k by simp [addN],ZiY Ha.out Hb.out] at hnum
   go_wp2_with fail
   refine hnum.mono ?_
   rintro e w' ⟨rfl,hb'⟩
   clear hnum
   go_wp2_with fail
   go_ret
   exact⟨rfl,hBk.trans (hb'.mono hBk.size)⟩
end Go.Proofs.YtpfemjpgbpnpkaaDoor.refC
namespace Go.Proofs.YtpfemjpgbpnpkaaDoor.refD
open Go.RowKit num mem natA natB natC natD refA refB refC
theorem Zcs {a:ByteArray} {N k:Nat} (h:k< N):(digN a N).getD k 0=dig a k:=Zcu h
theorem Zgc {x y c:Nat} (hx:x≤255) (hy:y≤255) (hc:c≤1):
  ∃ n C:Nat,n< 256∧C≤1∧n+y+c=x+C*256∧(C=0→(x:Int) - (y:Int) - (c:Int)=(n:Int))∧(C=1→(x:Int) - (y:Int) - (c:Int)+256=(n:Int))∧(C=0↔y+c≤x):=by
 by_cases h:y+c≤x
 ·exact⟨x - y - c,0,by omega,by omega,by omega,by omega,by omega,by omega⟩
 ·exact⟨x+256 - y - c,1,by omega,by omega,by omega,by omega,by omega,by omega⟩
theorem ZdG (a b:ByteArray) (w:World) (ha:a.size≤35184372088832) (hb:b.size≤35184372088832) (hle:nv b≤nv a):
  Calls Tryd.prog 97 #[.string a,.string b] w fun e w'=>e= .returned (.string (enc (nv a - nv b)))∧Below w.heap.size w w':=by
 have Hle:=Lib.hid hle
 clear hle
 go_enter Tryd.func97,Tryd.ntmps97
 go_wp2_with (first|(at_make;refine Zj _ rfl _ _ _ rfl 3 _ 8 Tryd.underlying56 refA.info3 rfl _ _ _ _ a.size rfl rfl (by omega) (by omega) (by omega) (by omega) ?_))
 intro w1 hR hg hsz
 have hB0:Below w.heap.size w w1:=(Below.refl _ _).grown hg (Nat.le_refl _) (by simp)
 have hR0:Row w1 w.heap.size 3 (nums .i64 ([]++List.replicate (a.size - 0) 0)):=by simpa [nums] using hR
 clear hR hg
 go_wp2
 go_loopw [6,13] (fun br i wr=>∃ (k c:Nat) (Z:List Nat),k≤a.size∧i= .int .i64 k∧br= .int .i64 c∧c≤1∧Hid (Z.length=k)∧Hid (∀ d∈Z,d< 256)∧
   Hid (lv 256 Z+lv 256 ((digN b a.size).take k)=lv 256 ((digN a a.size).take k)+c*256 ^ k)∧Row wr w.heap.size 3 (nums .i64 (Z++List.replicate (a.size - k) 0))∧Below w.heap.size w wr) (fun _ i _=>a.size - (intOf i).toNat)
 case atStart=>exact⟨0,0, [],Nat.zero_le _,rfl,rfl,by omega,rfl,(by intro d hd;cases hd),by simp [Hid,lv],hR0,hB0⟩
 case round=>
  obtain⟨k,c,Z,hk,rfl,rfl,hc1,hZl,hZ,hlv,hRk,hBk⟩:=hrel
  clear hR0 hB0
  by_cases hlt:k< a.size
  ·have hcx:=hRk.int (i:=k) (by have:=hZl.out;simp;omega)
   have hfx:=hRk.frozen k
   have hx:=Zag a k
   have hy:=Zag b k
   obtain⟨x,hxx⟩:∃ x,x=dig a k:=⟨_,rfl⟩
   obtain⟨y,hyy⟩:∃ y,y=dig b k:=⟨_,rfl⟩
   rw [← hxx] at hx
   rw [← hyy] at hy
   obtain⟨n,C,hn,hC,hsum,e0,e1,hiff⟩:=Zgc hx hy hc1
   have Hx:=Lib.hid hxx
   have Hy:=Lib.hid hyy
   have HS:=Lib.hid hsum
   have E0:=Lib.hid e0
   have E1:=Lib.hid e1
   have HI:=Lib.hid hiff
   have hstep:=Lib.hid (Zb2 (B:=256) (X:=digN a a.size) (Y:=digN b a.size) (n:=n) (C:=C) hZl.out hlv.out (by rw [Zcs hlt,Zcs hlt,← hxx,← hyy];exact hsum))
   clear hxx hyy hsum e0 e1 hiff
   by_cases hneg:y+c≤x
   ·have hnn:¬ ((x:Int) - (y:Int) - (c:Int)< 0):=by omega
    have HC:=Lib.hid (HI.out.2 hneg)
    go_wp2_with fail
    refine(ZA a k _ (by omega) (by omega)).mono ?_
    rintro e w' ⟨rfl,rfl⟩
    rw [← Hx.out]
    go_wp2_with fail
    refine(ZA b k _ (by omega) (by omega)).mono ?_
    rintro e w' ⟨rfl,rfl⟩
    rw [← Hy.out]
    go_wp2_with fail
    go_roundw
    case rel=>
     have hS:=hRk.int_set k n
     rw [Zt hZl.out hlt,← E0.out HC.out] at hS
     exact⟨k+1,C,Z++ [n],by omega,by go_num,by rw [HC.out];rfl,hC,by have:=hZl.out;simp [Hid,this],ZB hZ.out hn,hstep.out,hS,hBk.setCell (Nat.le_refl _) _⟩
    case measure=>simp [intOf]<;>omega
   ·have hnn:((x:Int) - (y:Int) - (c:Int)< 0):=by omega
    have HC:=Lib.hid (show C=1 by have:=HI.out;omega)
    go_wp2_with fail
    refine(ZA a k _ (by omega) (by omega)).mono ?_
    rintro e w' ⟨rfl,rfl⟩
    rw [← Hx.out]
    go_wp2_with fail
    refine(ZA b k _ (by omega) (by omega)).mono ?_
    rintro e w' ⟨rfl,rfl⟩
    rw [← Hy.out]
    go_wp2_with fail
    go_roundw
    case rel=>
     have hS:=(hRk.set k (.int .i64 ((x:Int) - (y:Int) - (c:Int)))).set k (.int .i64 ((n:Nat):Int))
     rw [List.set_set,Zbm,Zt hZl.out hlt,← E1.out HC.out] at hS
     exact⟨k+1,C,Z++ [n],by omega,by go_num,by rw [HC.out];rfl,hC,by have:=hZl.out;simp [Hid,this],ZB hZ.out hn,hstep.out,hS,(hBk.setCell (Nat.le_refl _) _).setCell (Nat.le_refl _) _⟩
    case measure=>simp [intOf]<;>omega
  ·have HK:=Lib.hid (show k=a.size by omega)
   have hP:=hRk.pre
   rw [show a.size - k=0 by omega,List.replicate_zero,List.append_nil] at hP
   rw [show (nums .i64 Z).length=a.size by rw [Za,hZl.out,HK.out]] at hP
   have hnum:=Zat w.heap.size a.size Z wr hP (fun d hd=>by have:=hZ.out d hd;omega) (by rw [hZl.out,HK.out];omega)
   have hval:lv 256 Z=nv a - nv b:=by
    have h1:=hlv.out
    have h2:=Zci hZ.out
    have h3:=Hle.out
    rw [HK.out,Zd _ _ (by simp [digN,ZJ]),Zd _ _ (by simp [digN,ZJ]),Zcj (Nat.le_refl _)] at h1
    have h4:lv 256 (digN b a.size)=nv b:=ZV (Nat.lt_of_le_of_lt h3 (Zbl a))
    rw [h4] at h1
    rw [hZl.out,HK.out] at h2
    have hc0:c=0:=by
     rcases Nat.lt_or_ge c 1 with h|h
     ·omega
     ·have:1*256 ^ a.size≤c*256 ^ a.size:=Nat.mul_le_mul_right _ h
      omega
    rw [hc0] at h1
    omega
   rw [hZl.out,HK.out,hval] at hnum
   go_wp2_with fail
   refine hnum.mono ?_
   rintro e w' ⟨rfl,hb'⟩
   clear hnum
   go_wp2_with fail
   go_ret
   exact⟨rfl,hBk.trans (hb'.mono hBk.size)⟩
theorem ZfW {n q k:Nat} {D:List Nat} (hD:D.length=k) (h:lv 256 D+q*256 ^ k=n):lv 256 (D++ [q % 256])+q / 256*256 ^ (k+1)=n:=by
 rw [Zac,hD,Nat.pow_succ,← h]
 have e:q=q % 256+256*(q / 256):=by omega
 have:q*256 ^ k=256 ^ k*(q % 256)+q / 256*(256 ^ k*256):=by
  conv=>lhs;rw [e]
  rw [Nat.add_mul,Nat.mul_comm (q % 256)]
  simp only [Nat.mul_comm,Nat.mul_left_comm,Nat.mul_assoc]
 omega
theorem ZiL {n q k:Nat} {D:List Nat} (h:lv 256 D+q*256 ^ k=n) (hn:n≤9223372036854775807) (hq:0< q):k≤7:=by
 apply Nat.le_of_not_lt
 intro h7
 have h1:256 ^ 8≤256 ^ k:=Nat.pow_le_pow_right (by omega) h7
 have h2:1*256 ^ k≤q*256 ^ k:=Nat.mul_le_mul_right _ hq
 have h3:(256:Nat) ^ 8=18446744073709551616:=by decide
 omega
theorem ZhJ (n:Int) (w:World) (hn:n≤9223372036854775807):
  Calls Tryd.prog 78 #[.int .i64 n] w fun e w'=>e= .returned (.string (enc n.toNat))∧Below w.heap.size w w':=by
 by_cases h0:n< 1
 ·have HV:=Lib.hid (show enc 0=enc n.toNat by rw [show n.toNat=0 by omega])
  go_enter Tryd.func78,Tryd.ntmps78
  go_wp2_with fail
  refine wp_loop_rounds 1 ?_
  rw [rounds_succ]
  go_wp2_with fail
  refine(Zf8 0 w).mono ?_
  rintro e w' ⟨rfl,hb⟩
  go_wp2_with fail
  go_ret
  exact⟨Zo HV.out,hb⟩
 ·obtain⟨m,rfl⟩:∃ m:Nat,n=m:=⟨n.toNat,by omega⟩
  rw [Int.toNat_natCast]
  have hm0:0< m:=by omega
  have HM:=Lib.hid (show m≤9223372036854775807 by omega)
  clear h0
  go_enter Tryd.func78,Tryd.ntmps78
  go_wp2_with fail
  go_loopw [0,3] (fun s v wr=>∃ (k q:Nat) (D:List Nat),s= .int .i64 q∧q≤9223372036854775807∧k≤8∧Hid (D.length=k)∧Hid (∀ d∈D,d< 256)∧Hid (lv 256 D+q*256 ^ k=m)∧
   wr.ownsRow w.heap.size 3 1 v D.length (nums .i64 D)∧Below w.heap.size w wr) (fun s _ _=>(intOf s).toNat)
  case atStart=>exact⟨0,m, [],rfl,HM.out,by omega,rfl,(by intro d hd;cases hd),by simp [Hid,lv],World.ownsRow_nil _ _ _ _,Below.refl _ _⟩
  case round=>
   obtain⟨k,q,D,rfl,hq,hk,hDl,hD,hlv,hown,hB⟩:=hrel
   by_cases hq0:0< q
   ·have hk7:=ZiL hlv.out HM.out hq0
    go_wp2_with (first|(at_builtin;refine ZM rfl _ _ _ rfl w.heap.size 3 _ 8 Tryd.underlying56 refA.info3 rfl _ (nums .i64 D) rfl (by rw [Za];exact hown.alloc _) _ _ rfl (Z6 _ _ _) rfl (by have:=hDl.out;rw [Za];omega) (by have:=hDl.out;rw [Za];omega) (by have:=hB.size;simp;omega) ?_))
    intro v' w1 hown1 hg1
    have hB1:Below w.heap.size w w1:=(hB.alloc hB.size _).grown hg1 (hB.alloc hB.size _).size (ZE hown)
    clear hg1 hown
    go_wp2
    go_roundw
    case rel=>
     rw [show ((q:Int) % 256)=((q % 256:Nat):Int) by omega,Zas,Za] at hown1
     exact⟨k+1,q / 256,D++ [q % 256],by go_num,by omega,by omega,by have:=hDl.out;simp [Hid,this],ZB hD.out (Nat.mod_lt _ (by omega)),ZfW hDl.out hlv.out,by rw [List.length_append];exact hown1,hB1⟩
    case measure=>simp [intOf]<;>omega
   ·obtain rfl:q=0:=by omega
    have HV:=Lib.hid (show lv 256 D=m by have:=hlv.out;omega)
    rcases Zbi (by rw [Za];exact hown) with ⟨rfl,hnil⟩|⟨g,cp,rfl,hg,hP⟩
    ·have hD0:D= []:=by simpa [nums] using hnil
     subst hD0
     have:m=0:=by have:=HV.out;simp [lv] at this;omega
     omega
    ·rw [Za] at*
     clear hown
     have hnum:=Zat g cp D wr hP (fun d hd=>by have:=hD.out d hd;omega) (by rw [hDl.out];omega)
     rw [HV.out] at hnum
     go_wp2_with fail
     refine hnum.mono ?_
     rintro e w' ⟨rfl,hb'⟩
     clear hnum
     go_wp2_with fail
     go_ret
     exact⟨rfl,hB.trans (hb'.mono hB.size)⟩
end Go.Proofs.YtpfemjpgbpnpkaaDoor.refD
namespace Go.Proofs.YtpfemjpgbpnpkaaDoor.num
theorem ZbF {Z:List Nat} {k m:Nat} (hZ:Z.length=k):(Z++List.replicate m 0).getD k 0=0:=by
 simp only [List.getD,List.getElem?_append_right (show Z.length≤k by omega),List.getElem?_replicate]
 split<;>rfl
theorem Zb8 {l:List Nat} {j d:Nat} (h:j< l.length):(l.set j d).getD j 0=d:=by
 simp [List.getD,h]
theorem ZhV {l:List Nat} {j:Nat} (h:j< l.length) (h0:l.getD j 0=0):l.set j 0=l:=by
 apply Zq (by simp)
 intro i _
 by_cases e:j=i
 ·subst e;rw [Zb8 h,h0]
 ·rw [ZT e]
def sumTo (f:Nat→Nat):Nat→Nat
 |0=>0
 |n+1=>sumTo f n+f n
theorem Zb1 (f:Nat→Nat):∀ n,sumTo f (n+1)=f 0+sumTo (fun k=>f (k+1)) n
 |0=>by simp [sumTo]
 |n+1=>by
  rw [sumTo,Zb1 f n,sumTo]
  omega
theorem Zaw {f g:Nat→Nat}:∀ n,(∀ k,k< n→f k=g k)→sumTo f n=sumTo g n
 |0,_=>rfl
 |n+1,h=>by
  rw [sumTo,sumTo,Zaw n (fun k hk=>h k (by omega)),h n (by omega)]
theorem Zdj {f:Nat→Nat} {M:Nat}:∀ n,(∀ k,k< n→f k≤M)→sumTo f n≤n*M
 |0,_=>by simp [sumTo]
 |n+1,h=>by
  rw [sumTo,Nat.succ_mul]
  have:=Zdj n (fun k hk=>h k (by omega))
  have:=h n (by omega)
  omega
theorem ZcL:∀ n,sumTo (fun _=>0) n=0
 |0=>rfl
 |n+1=>by rw [sumTo,ZcL n]
def conv (f g:Nat→Nat) (i:Nat):Nat:=sumTo (fun k=>f k*g (i - k)) (i+1)
theorem ZF (B:Nat) (f:Nat→Nat) (N:Nat):lv B ((List.range (N+1)).map f)=f 0+B*lv B ((List.range N).map fun k=>f (k+1)):=by
 rw [List.range_succ_eq_map,List.map_cons,List.map_map,ZG]
 rfl
theorem Zeg (B:Nat) (f g:Nat→Nat) (N:Nat):lv B ((List.range N).map fun i=>f i+g i)=lv B ((List.range N).map f)+lv B ((List.range N).map g):=by
 induction N generalizing f g with
 |zero=>rfl
 |succ N ih=>rw [ZF,ZF,ZF,ih,Nat.mul_add];omega
theorem Zef (B x:Nat) (g:Nat→Nat) (N:Nat):lv B ((List.range N).map fun i=>x*g i)=x*lv B ((List.range N).map g):=by
 induction N generalizing g with
 |zero=>rfl
 |succ N ih=>rw [ZF,ZF,ih (fun k=>g (k+1)),Nat.mul_add];simp only [Nat.mul_left_comm]
theorem Zdx (B N:Nat):lv B ((List.range N).map fun _=>0)=0:=by
 induction N with
 |zero=>rfl
 |succ N ih=>rw [ZF,ih];simp
theorem Zg4 (B:Nat) (g:Nat→Nat) (lb vb:Nat) (hg:∀ N,lb≤N→lv B ((List.range N).map g)=vb):
  ∀ (A:List Nat) (N:Nat),A.length+lb≤N→lv B ((List.range N).map fun i=>conv (fun k=>A.getD k 0) g i)=lv B A*vb
 | [],N,_=>by
  have e:∀ i,conv (fun k=>([]:List Nat).getD k 0) g i=0:=by
   intro i
   unfold conv
   rw [Zaw (g:=fun _=>0) _ (fun k _=>by show 0*_=0;rw [Nat.zero_mul]),ZcL]
  rw [show (fun i=>conv (fun k=>([]:List Nat).getD k 0) g i)=fun _=>0 from funext e,Zdx]
  simp [lv]
 |x :: A,N,h=>by
  obtain⟨M,rfl⟩:∃ M,N=M+1:=⟨N - 1,by simp at h;omega⟩
  have ih:=Zg4 B g lb vb hg A M (by simp at h;omega)
  have e:∀ i,conv (fun k=>(x :: A).getD k 0) g i=x*g i+(match i with|0=>0|i+1=>conv (fun k=>A.getD k 0) g i):=by
   intro i
   unfold conv
   rw [Zb1]
   cases i with
   |zero=>rfl
   |succ i=>
    show x*g (i+1)+_=_
    congr 1
    apply Zaw
    intro k _
    show A.getD k 0*g (i+1 - (k+1))=A.getD k 0*g (i - k)
    rw [Nat.add_sub_add_right]
  rw [show (fun i=>conv (fun k=>(x :: A).getD k 0) g i)=fun i=>x*g i+(match i with|0=>0|i+1=>conv (fun k=>A.getD k 0) g i) from funext e,
   Zeg B (fun i=>x*g i),Zef,hg _ (by simp at h;omega),ZF B (fun i=>match i with|0=>0|i+1=>conv (fun k=>A.getD k 0) g i),ZG]
  show x*vb+(0+B*lv B ((List.range M).map fun k=>conv (fun k=>A.getD k 0) g k))=_
  rw [ih,Nat.zero_add,Nat.add_mul,Nat.mul_assoc]
end Go.Proofs.YtpfemjpgbpnpkaaDoor.num
namespace Go.Proofs.YtpfemjpgbpnpkaaDoor.refE
open Go.RowKit num mem natA natB natC natD refA refB refC refD
theorem Zi8 (a:ByteArray) (N:Nat) (h:a.size≤N):lv 256 ((List.range N).map fun i=>dig a i)=nv a:=Zcj h
theorem Zia {a b:ByteArray} {N:Nat} (h:a.size+b.size≤N):lv 256 ((List.range N).map fun i=>conv (dig a) (dig b) i)=nv a*nv b:=by
 have e:=Zg4 256 (dig b) b.size (nv b) (fun N hN=>Zi8 b N hN) (digN a a.size) N (by simpa [digN,ZJ] using h)
 rw [Zcj (Nat.le_refl _)] at e
 rw [← e]
 congr 1
 apply List.map_congr_left
 intro i _
 unfold conv
 apply Zaw
 intro k _
 congr 1
 by_cases hk:k< a.size
 ·exact(Zcs hk).symm
 ·rw [Zjt (by omega)]
  simp [digN,dg,List.getD,hk]
theorem ZbB (a b:ByteArray) (i j:Nat):dig a i*dig b j≤65025:=
 Nat.mul_le_mul (Zag a i) (Zag b j)
theorem Zcr (a:ByteArray) (i:Nat) (w:World) (ha:a.size≤140737488355328) (hi:i≤1152921504606846976):
  Calls Tryd.prog 108 #[.string a,.int .i64 i] w fun e w'=>e= .returned (.int .i64 (dig a i))∧w'=w:=
 (ZA a i w ha hi).mono fun _ _ h=>⟨h.1,h.2.symm⟩
set_option maxHeartbeats 1000000 in
theorem ZeB (a b:ByteArray) (w:World) (hs:a.size+b.size≤35184372088832):
  Calls Tryd.prog 77 #[.string a,.string b] w fun e w'=>e= .returned (.string (enc (nv a*nv b)))∧Below w.heap.size w w':=by
 obtain⟨N,hN⟩:∃ N:Nat,(a.size:Int)+(b.size:Int)=(N:Int):=⟨a.size+b.size,by omega⟩
 have hN1:N≤35184372088832:=by omega
 have Hs:=Lib.hid (show a.size+b.size≤N by omega)
 go_enter Tryd.func77,Tryd.ntmps77
 go_wp2_with (first|(at_make;refine Zj _ rfl _ _ _ rfl 3 _ 8 Tryd.underlying56 refA.info3 rfl _ _ _ _ N rfl rfl (by omega) (by omega) (by omega) (by omega) ?_))
 intro w1 hR hg hsz
 have hB0:Below w.heap.size w w1:=(Below.refl _ _).grown hg (Nat.le_refl _) (by simp)
 have hR0:Row w1 w.heap.size 3 (nums .i64 ((List.range 0).map (fun i=>conv (dig a) (dig b) i)++List.replicate (N - 0) 0)):=by simpa [nums] using hR
 clear hR hg hN
 go_wp2
 go_loopw [16] (fun s wr=>∃ i:Nat,i≤N∧s= .int .i64 i∧Row wr w.heap.size 3 (nums .i64 ((List.range i).map (fun i=>conv (dig a) (dig b) i)++List.replicate (N - i) 0))∧Below w.heap.size w wr) (fun s _=>N - (intOf s).toNat)
 case atStart=>exact⟨0,Nat.zero_le _,rfl,hR0,hB0⟩
 case round=>
  obtain⟨wo,rfl⟩:∃ wo:World,wo=wr:=⟨_,rfl⟩
  obtain⟨i,hi,rfl,hRo,hBo⟩:=hrel
  clear hR0 hB0
  by_cases hlt:i< N
  ·obtain⟨L,hL⟩:∃ L,L=(List.range i).map (fun i=>conv (dig a) (dig b) i)++List.replicate (N - i) 0:=⟨_,rfl⟩
   have hLi:L.getD i 0=0:=by rw [hL];exact ZbF (by simp)
   have hLl:L.length=N:=by rw [hL];simp;omega
   have hLs:L.set i (conv (dig a) (dig b) i)=(List.range (i+1)).map (fun i=>conv (dig a) (dig b) i)++List.replicate (N - (i+1)) 0:=by
    rw [hL,Zt (by simp) hlt,ZU (fun i=>conv (dig a) (dig b) i) _ rfl]
   have hL0:L.set i 0=L:=ZhV (by omega) hLi
   rw [← hL] at hRo
   have HL:=Lib.hid hLl
   have HS:=Lib.hid hLs
   have H0:=Lib.hid hL0
   clear hL hLi hLl hLs hL0
   go_wp2
   go_loopw [7] (fun s wr=>∃ k:Nat,k≤i+1∧s= .int .i64 k∧Row wr w.heap.size 3 (nums .i64 (L.set i (sumTo (fun k=>dig a k*dig b (i - k)) k)))∧Below w.heap.size w wr) (fun s _=>i+1 - (intOf s).toNat)
   case atStart=>exact⟨0,Nat.zero_le _,rfl,by rw [show sumTo (fun k=>dig a k*dig b (i - k)) 0=0 from rfl,H0.out];exact hRo,hBo⟩
   case round=>
    obtain⟨k,hk,rfl,hRk,hBk⟩:=hrel
    clear hRo
    by_cases hlk:k≤i
    ·obtain⟨S,hS⟩:∃ S,S=sumTo (fun k=>dig a k*dig b (i - k)) k:=⟨_,rfl⟩
     have hSl:S≤2305843009213693952:=by
      rw [hS]
      have:=Zdj (f:=fun k=>dig a k*dig b (i - k)) (M:=65025) k (fun j _=>ZbB a b j (i - j))
      omega
     rw [← hS] at hRk
     have hcx:=hRk.int (i:=i) (by have:=HL.out;simp;omega)
     rw [Zb8 (by have:=HL.out;omega)] at hcx
     have hfx:=hRk.frozen i
     obtain⟨m,hm⟩:∃ m:Nat,(i:Int) - (k:Int)=(m:Int):=⟨i - k,by omega⟩
     have hm2:m≤i:=by omega
     obtain⟨x,hx⟩:∃ x,x=dig a k:=⟨_,rfl⟩
     obtain⟨y,hy⟩:∃ y,y=dig b m:=⟨_,rfl⟩
     obtain⟨z,hz⟩:∃ z,z=x*y:=⟨_,rfl⟩
     have hzl:z≤65025:=by rw [hz,hx,hy];exact ZbB a b k m
     obtain⟨T,hT⟩:∃ T,T=S+z:=⟨_,rfl⟩
     have hd1:=fun wx=>Zcr a k wx (by omega) (by omega)
     have hd2:=fun wx=>Zcr b m wx (by omega) (by omega)
     simp only [← hx] at hd1
     simp only [← hy] at hd2
     have Hd1:=Lib.hid hd1
     have Hd2:=Lib.hid hd2
     have Hm:=Lib.hid (show i - k=m by omega)
     have HSS:=Lib.hid (show T=sumTo (fun k=>dig a k*dig b (i - k)) (k+1) by
      rw [sumTo,← hS,hT,hz,hx,hy]
      show _=_+dig a k*dig b (i - k)
      rw [show i - k=m by omega])
     have q1:IntKind.i64.wrap (m:Int)=(m:Int):=IntWalk.i64_in _ (by omega)
     have q2:IntKind.i64.wrap ((x:Int)*(y:Int))=(z:Int):=by rw [← Int.natCast_mul,← hz];exact IntWalk.i64_in _ (by omega)
     have q3:IntKind.i64.wrap ((S:Int)+(z:Int))=(T:Int):=by rw [IntWalk.i64_in _ (by omega),hT];rfl
     clear hd1 hd2 hS hx hy hz hT
     go_wp2_with fail
     go_still_tail 14,(by kernel_rfl)
     still_call (Hd1.out _)
     repeat still_step
     still_call (Hd2.out _)
     repeat still_step
     refine wpStill_nil ?_
     change wpList _ _ _ _ _ wr.drew
     clear q1 q2 q3
     go_wp2
     go_roundw
     case rel=>
      have hS2:=hRk.int_set i T
      rw [List.set_set] at hS2
      exact⟨k+1,by omega,by go_num,by rw [← HSS.out];exact hS2.drew,(hBk.setCell (Nat.le_refl _) _).drew⟩
     case measure=>simp [intOf]<;>omega
    ·have hk1:k=i+1:=by omega
     rw [hk1] at hRk
     have hRk':Row wr w.heap.size 3 (nums .i64 (L.set i (conv (dig a) (dig b) i))):=hRk
     rw [HS.out] at hRk'
     clear hRk hk1
     go_wp2
     go_roundw
     case rel=>exact⟨i+1,by omega,by go_num,hRk',hBk⟩
     case measure=>simp [intOf]<;>omega
  ·obtain rfl:i=N:=by omega
   have hP:=hRo.pre
   rw [Nat.sub_self,List.replicate_zero,List.append_nil] at hP
   rw [show (nums .i64 ((List.range i).map fun i=>conv (dig a) (dig b) i)).length=i by simp [nums]] at hP
   have hnum:=Zat w.heap.size i _ wo hP (by
    intro d hd
    simp only [List.mem_map,List.mem_range] at hd
    obtain⟨j,hj,rfl⟩:=hd
    have:=Zdj (f:=fun k=>dig a k*dig b (j - k)) (M:=65025) (j+1) (fun k _=>ZbB a b k (j - k))
    unfold conv
    omega) (by simp;omega)
   rw [show ((List.range i).map fun i=>conv (dig a) (dig b) i).length=i by simp,Zia Hs.out] at hnum
   go_wp2_with fail
   refine hnum.mono ?_
   rintro e w' ⟨rfl,hb'⟩
   clear hnum
   go_wp2_with fail
   go_ret
   exact⟨rfl,hBo.trans (hb'.mono hBo.size)⟩
end Go.Proofs.YtpfemjpgbpnpkaaDoor.refE
namespace Go.Proofs.YtpfemjpgbpnpkaaDoor.refF
open Go.RowKit num mem natA natB natC natD refA refB refC refD refE
theorem Zjw (n i:Nat):n / 256 ^ (i / 8) % 256 / 2 ^ (i % 8) % 2=n / 2 ^ i % 2:=by
 have e:2 ^ i=256 ^ (i / 8)*2 ^ (i % 8):=by
  rw [show (256:Nat)=2 ^ 8 from rfl,← Nat.pow_mul,← Nat.pow_add]
  congr 1
  omega
 rw [e,← Nat.div_div_eq_div_mul]
 generalize n / 256 ^ (i / 8)=x
 rcases (show i % 8=0∨i % 8=1∨i % 8=2∨i % 8=3∨i % 8=4∨i % 8=5∨i % 8=6∨i % 8=7 by omega) with h|h|h|h|h|h|h|h<;>rw [h]<;>omega
theorem Ze2 (x r:Nat) (hx:x≤255):bits .and .i64 ((x:Int) / 2 ^ r) 1=((x / 2 ^ r % 2:Nat):Int):=by
 have h:x / 2 ^ r≤255:=Nat.le_trans (Nat.div_le_self _ _) hx
 have e:((x:Int) / 2 ^ r)=((x / 2 ^ r:Nat):Int):=by simp
 rw [e]
 generalize x / 2 ^ r=y at h
 have k:∀ y:Fin 256,bits .and .i64 (y.val:Int) 1=((y.val % 2:Nat):Int):=by decide+kernel
 exact k ⟨y,by omega⟩
theorem Zfb (a:ByteArray) (i:Nat) (w:World) (ha:a.size≤140737488355328) (hi:i≤1152921504606846976):
  Calls Tryd.prog 94 #[.string a,.int .i64 i] w fun e w'=>e= .returned (.int .i64 ((nv a / 2 ^ i % 2:Nat):Int))∧w=w':=by
 have hx:=Zag a (i / 8)
 obtain⟨x,hxx⟩:∃ x,x=dig a (i / 8):=⟨_,rfl⟩
 have HV:=Lib.hid (show (((x / 2 ^ (i % 8) % 2:Nat)):Int)=((nv a / 2 ^ i % 2:Nat):Int) by rw [hxx];unfold dig;rw [Zjw])
 rw [← hxx] at hx
 obtain⟨p,hp⟩:∃ p:Nat,(i:Int) / 8=(p:Int):=⟨i / 8,by omega⟩
 obtain⟨r,hr⟩:∃ r:Nat,(i:Int) % 8=(r:Int):=⟨i % 8,by omega⟩
 have Hx:=Lib.hid (show dig a p=x by rw [hxx];congr 1;omega)
 have hr2:r< 8:=by omega
 have Hr:=Lib.hid (show i % 8=r by omega)
 have hp2:p≤i:=by omega
 clear hxx
 go_enter Tryd.func94,Tryd.ntmps94
 go_wp2_with fail
 refine(ZA a p _ ha (by omega)).mono ?_
 rintro e w' ⟨rfl,rfl⟩
 rw [Hx.out]
 go_wp2_with fail
 go_ret
 exact⟨Zab (by rw [Ze2 x r hx,← Hr.out];exact HV.out),rfl⟩
theorem ZfY {v t m:Nat} (hm:0< m) (ht:t≤1):
  (m≤2*(v % m)+t→(2*v+t) / m=2*(v / m)+1∧(2*v+t) % m=2*(v % m)+t - m)∧(¬ m≤2*(v % m)+t→(2*v+t) / m=2*(v / m)∧(2*v+t) % m=2*(v % m)+t):=by
 have h1:=Nat.div_add_mod v m
 have h2:=Nat.mod_lt v hm
 have e:2*v+t=m*(2*(v / m))+(2*(v % m)+t):=by
  rw [Nat.mul_left_comm]
  omega
 generalize v % m=r at*
 generalize v / m=q at*
 constructor
 ·intro h
  have e2:2*v+t=m*(2*q+1)+(2*r+t - m):=by
   rw [Nat.mul_add];omega
  rw [e2,Nat.mul_add_div hm,Nat.mul_add_mod,Nat.div_eq_of_lt (by omega),Nat.mod_eq_of_lt (by omega)]
  exact⟨rfl,rfl⟩
 ·intro h
  rw [e,Nat.mul_add_div hm,Nat.mul_add_mod,Nat.div_eq_of_lt (by omega),Nat.mod_eq_of_lt (by omega)]
  exact⟨rfl,rfl⟩
theorem nv_one:nv ⟨#[1]⟩=1:=by decide
set_option maxHeartbeats 1000000 in
theorem ZhK (a b:ByteArray) (w:World) (ha:a.size≤17592186044416) (hb:b.size≤17592186044416) (hb0:0< nv b):
  Calls Tryd.prog 79 #[.string a,.string b] w fun e w'=>e= .returned (.tuple #[.string (enc (nv a / nv b)),.string (enc (nv a % nv b))])∧Below w.heap.size w w':=by
 obtain⟨n,hn⟩:∃ n,nv a=n:=⟨_,rfl⟩
 obtain⟨m,hm⟩:∃ m,nv b=m:=⟨_,rfl⟩
 rw [hn,hm]
 rw [hm] at hb0
 have Hn:=Lib.hid hn
 have Hm:=Lib.hid hm
 have Hsz:=Lib.hid (show ∀ x,x≤n→(enc x).size≤a.size by
  intro x hx
  refine Nat.le_trans (Zan hx) ?_
  rw [← hn];exact ZI a)
 clear hn hm
 go_enter Tryd.func79,Tryd.ntmps79
 go_wp2_with fail
 go_loopw [6,7,8] (fun qs rs i wr=>∃ (k:Nat) (e:Int),i= .int .i64 e∧e=(k:Int) - 1∧k≤8*a.size∧qs= .string (enc (n / 2 ^ k / m))∧rs= .string (enc (n / 2 ^ k % m))∧Below w.heap.size w wr) (fun _ _ i _=>(intOf i+1).toNat)
 case atStart=>
  have hz:n / 2 ^ (8*a.size)=0:=by
   apply Nat.div_eq_of_lt
   rw [Nat.pow_mul,← Hn.out]
   exact Zbl a
  refine⟨8*a.size,_,rfl,by go_num,Nat.le_refl _,?_,?_,Below.refl _ _⟩
  ·rw [hz,Nat.zero_div,Zy]
  ·rw [hz,Nat.zero_mod,Zy]
 case round=>
  obtain⟨k,e,rfl,he,hk,rfl,rfl,hB⟩:=hrel
  rcases k with _|j
  ·obtain rfl:e=-1:=by simpa using he
   rw [show n / 2 ^ 0=n by simp]
   clear he
   go_wp2_with fail
   go_ret2
   exact⟨rfl,hB⟩
  ·obtain rfl:e=(j:Int):=by omega
   clear he
   obtain⟨v,hv⟩:∃ v,v=n / 2 ^ (j+1):=⟨_,rfl⟩
   obtain⟨t,ht⟩:∃ t,t=n / 2 ^ j % 2:=⟨_,rfl⟩
   have hvt:n / 2 ^ j=2*v+t:=by
    rw [hv,ht,Nat.pow_succ,← Nat.div_div_eq_div_mul];omega
   have ht1:t=0∨t=1:=by omega
   rw [← hv]
   have hvn:2*v+t≤n:=by rw [← hvt];exact Nat.div_le_self _ _
   have hsh:=ZfY (v:=v) (t:=t) hb0 (by omega)
   obtain⟨q,hq⟩:∃ q,q=v / m:=⟨_,rfl⟩
   obtain⟨r,hr⟩:∃ r,r=v % m:=⟨_,rfl⟩
   have hqv:q≤v:=by rw [hq];exact Nat.div_le_self _ _
   have hrv:r≤v:=by rw [hr];exact Nat.mod_le _ _
   rw [← hq,← hr]
   rw [← hq,← hr] at hsh
   have HT:=Lib.hid (show nv a / 2 ^ j % 2=t by rw [Hn.out,ht])
   have HVT:=Lib.hid hvt
   have HS:=Lib.hid hsh
   have s1:(enc q).size≤17592186044416:=Nat.le_trans (Hsz.out _ (by omega)) ha
   have s2:(enc r).size≤17592186044416:=Nat.le_trans (Hsz.out _ (by omega)) ha
   have s3:(enc (r+r)).size≤17592186044416:=Nat.le_trans (Hsz.out _ (by omega)) ha
   have s5:(enc (r+r+t)).size≤17592186044416:=Nat.le_trans (Hsz.out _ (by omega)) ha
   have HR:=Lib.hid (show q+q≤n by omega)
   have s4:(enc (q+q)).size≤17592186044416:=Nat.le_trans (Hsz.out _ HR.out) ha
   clear hv ht hvt hvn hsh hq hr hqv hrv
   rcases ht1 with rfl|rfl
   ·go_wp2_with fail
    refine(Z8 (enc q) (enc q) wr (by omega) (by omega)).mono ?_
    rintro e w1 ⟨rfl,hb1⟩
    rw [Zc]
    go_wp2_with fail
    refine(Z8 (enc r) (enc r) w1 (by omega) (by omega)).mono ?_
    rintro e w2 ⟨rfl,hb2⟩
    rw [Zc]
    have hB1:=hB.trans (hb1.mono hB.size)
    have hB2:=hB1.trans (hb2.mono hB1.size)
    clear hB hb1 hb2 hB1
    go_wp2_with fail
    refine(Zfb a j w2 (by omega) (by omega)).mono ?_
    rintro e w' ⟨rfl,rfl⟩
    rw [HT.out]
    go_wp2_with fail
    have hBc:=hB2
    clear hB2
    by_cases hge:m≤r+r
    ·have HG:=Lib.hid hge
     have HC:=Lib.hid (show cmpN (r+r) m=0∨cmpN (r+r) m=1 by unfold cmpN;rw [if_neg (by omega)];split<;>simp)
     clear hge
     go_wp2_with fail
     refine(Zah (enc (r+r)) b w2 (by omega) (by omega)).mono ?_
     rintro e w' ⟨rfl,rfl⟩
     rw [Zc,Hm.out]
     obtain⟨c,hc⟩:∃ c,cmpN (r+r) m=c:=⟨_,rfl⟩
     rw [hc]
     have hc0:0≤c:=by have:=HC.out;omega
     clear hc
     go_wp2_with fail
     refine(ZdG (enc (r+r)) b w2 (by omega) (by omega) (by rw [Zc,Hm.out];exact HG.out)).mono ?_
     rintro e w4 ⟨rfl,hb4⟩
     rw [Zc,Hm.out]
     go_wp2_with fail
     refine(Z8 (enc (q+q)) ⟨#[1]⟩ w4 (by omega) (by decide)).mono ?_
     rintro e w5 ⟨rfl,hb5⟩
     rw [Zc,nv_one]
     go_wp2_with fail
     go_roundw
     case rel=>
      have hB4:=hBc.trans (hb4.mono hBc.size)
      have h:=HS.out.1 (by have:=HG.out;omega)
      refine⟨j,_,rfl,by go_num,by omega,?_,?_,hB4.trans (hb5.mono hB4.size)⟩
      ·rw [HVT.out,h.1,Nat.two_mul]
      ·rw [HVT.out,h.2,Nat.two_mul]<;>rfl
     case measure=>simp [intOf]<;>omega
    ·have HG:=Lib.hid hge
     have HC:=Lib.hid (show cmpN (r+r) m=-1 by unfold cmpN;rw [if_pos (by omega)])
     clear hge
     go_wp2_with fail
     refine(Zah (enc (r+r)) b w2 (by omega) (by omega)).mono ?_
     rintro e w' ⟨rfl,rfl⟩
     rw [Zc,Hm.out,HC.out]
     go_wp2_with fail
     go_roundw
     case rel=>
      have h:=HS.out.2 (by have:=HG.out;omega)
      refine⟨j,_,rfl,by go_num,by omega,?_,?_,hBc⟩
      ·rw [HVT.out,h.1,Nat.two_mul]
      ·rw [HVT.out,h.2,Nat.two_mul]<;>rfl
     case measure=>simp [intOf]<;>omega
   ·go_wp2_with fail
    refine(Z8 (enc q) (enc q) wr (by omega) (by omega)).mono ?_
    rintro e w1 ⟨rfl,hb1⟩
    rw [Zc]
    go_wp2_with fail
    refine(Z8 (enc r) (enc r) w1 (by omega) (by omega)).mono ?_
    rintro e w2 ⟨rfl,hb2⟩
    rw [Zc]
    have hB1:=hB.trans (hb1.mono hB.size)
    have hB2:=hB1.trans (hb2.mono hB1.size)
    clear hB hb1 hb2 hB1
    go_wp2_with fail
    refine(Zfb a j w2 (by omega) (by omega)).mono ?_
    rintro e w' ⟨rfl,rfl⟩
    rw [HT.out]
    go_wp2_with fail
    refine(Z8 (enc (r+r)) ⟨#[1]⟩ w2 (by omega) (by decide)).mono ?_
    rintro e w3 ⟨rfl,hb3⟩
    rw [Zc,nv_one]
    have hBc:=hB2.trans (hb3.mono hB2.size)
    clear hB2 hb3
    by_cases hge:m≤r+r+1
    ·have HG:=Lib.hid hge
     have HC:=Lib.hid (show cmpN (r+r+1) m=0∨cmpN (r+r+1) m=1 by unfold cmpN;rw [if_neg (by omega)];split<;>simp)
     clear hge
     go_wp2_with fail
     refine(Zah (enc (r+r+1)) b w3 (by omega) (by omega)).mono ?_
     rintro e w' ⟨rfl,rfl⟩
     rw [Zc,Hm.out]
     obtain⟨c,hc⟩:∃ c,cmpN (r+r+1) m=c:=⟨_,rfl⟩
     rw [hc]
     have hc0:0≤c:=by have:=HC.out;omega
     clear hc
     go_wp2_with fail
     refine(ZdG (enc (r+r+1)) b w3 (by omega) (by omega) (by rw [Zc,Hm.out];exact HG.out)).mono ?_
     rintro e w4 ⟨rfl,hb4⟩
     rw [Zc,Hm.out]
     go_wp2_with fail
     refine(Z8 (enc (q+q)) ⟨#[1]⟩ w4 (by omega) (by decide)).mono ?_
     rintro e w5 ⟨rfl,hb5⟩
     rw [Zc,nv_one]
     go_wp2_with fail
     go_roundw
     case rel=>
      have hB4:=hBc.trans (hb4.mono hBc.size)
      have h:=HS.out.1 (by have:=HG.out;omega)
      refine⟨j,_,rfl,by go_num,by omega,?_,?_,hB4.trans (hb5.mono hB4.size)⟩
      ·rw [HVT.out,h.1,Nat.two_mul]
      ·rw [HVT.out,h.2,Nat.two_mul]<;>rfl
     case measure=>simp [intOf]<;>omega
    ·have HG:=Lib.hid hge
     have HC:=Lib.hid (show cmpN (r+r+1) m=-1 by unfold cmpN;rw [if_pos (by omega)])
     clear hge
     go_wp2_with fail
     refine(Zah (enc (r+r+1)) b w3 (by omega) (by omega)).mono ?_
     rintro e w' ⟨rfl,rfl⟩
     rw [Zc,Hm.out,HC.out]
     go_wp2_with fail
     go_roundw
     case rel=>
      have h:=HS.out.2 (by have:=HG.out;omega)
      refine⟨j,_,rfl,by go_num,by omega,?_,?_,hBc⟩
      ·rw [HVT.out,h.1,Nat.two_mul]
      ·rw [HVT.out,h.2,Nat.two_mul]<;>rfl
     case measure=>simp [intOf]<;>omega
end Go.Proofs.YtpfemjpgbpnpkaaDoor.refF
namespace Go.Proofs.YtpfemjpgbpnpkaaDoor.mem
open Go.RowKit
theorem Zh2 {w:World} {base e g cap:Nat} {xs:List Value} (h:Pre w g e cap xs) (hb:base≤g) (hm:cap≤maxLen):w.ownsRow base e 1 (.slice (some ⟨g,0,none⟩) xs.length cap) xs.length xs:=by
 obtain⟨cur,hc,hs,hl,ht⟩:=h
 exact⟨by simp,.inr ⟨g,cap,cur,rfl,hb,hc,hl,hm,by simpa using hs,by simpa using ht⟩⟩
theorem owns_pre' {w:World} {base e:Nat} {v:Value} {xs:List Value} (h:w.ownsRow base e 1 v xs.length xs):(v= .slice none 0 0∧xs= [])∨∃ g cap,v= .slice (some ⟨g,0,none⟩) xs.length cap∧base≤g∧cap≤maxLen∧Pre w g e cap xs:=by
 obtain⟨h1,h2⟩:=h
 rcases h2 with ⟨hv,hn⟩|⟨g,cap,cur,hv,hb,hg,hle,hm,hs,ht⟩
 ·exact .inl ⟨hv,List.eq_nil_of_length_eq_zero hn⟩
 ·exact .inr ⟨g,cap,hv,hb,hm,cur,hg,by simpa using hs,hle,by simpa using ht⟩
end Go.Proofs.YtpfemjpgbpnpkaaDoor.mem
namespace Go.Proofs.YtpfemjpgbpnpkaaDoor.natK
open Go.RowKit num mem natA natB natC natD natE natI dec refA refB natJ
def chr (s:ByteArray) (j:Nat):Nat:=(s.data.toList.getD j 0).toNat
theorem Zdb (s:ByteArray) (j:Nat) (h:j< s.size):s[j].toNat=chr s j:=by
 unfold chr
 rw [List.getD,List.getElem?_eq_getElem (by rw [ba_length];exact h)]
 rfl
theorem Zju (s:ByteArray) (j:Nat):chr s j< 256:=UInt8.toNat_lt _
def readable (s:ByteArray):Prop:=s.size≠0∧¬ (1< s.size∧chr s 0=48)∧∀ j,j< s.size→48≤chr s j∧chr s j≤57
instance (s:ByteArray):Decidable (readable s):=by unfold readable;infer_instance
def readV (s:ByteArray) (k:Nat):Nat:=numv ((List.range k).map fun j=>chr s j - 48)
theorem ZcV (s:ByteArray) (k:Nat):readV s (k+1)=readV s k*10+(chr s k - 48):=by
 unfold readV
 rw [List.range_succ,List.map_append]
 exact Zeb _ _
def readS (s:ByteArray):ByteArray:=if readable s then enc (readV s s.size) else ⟨#[]⟩
def readE (s:ByteArray):Int:=if readable s then 0 else 15
theorem ZhP (cap:Nat) (w:World):
  Calls Tryd.prog 70 #[.slice none 0 cap] w fun e w'=>e= .returned (.string (enc 0))∧Below w.heap.size w w':=by
 go_enter Tryd.func70,Tryd.ntmps70
 go_wp2_with (first|(at_make;refine Zj _ rfl _ _ _ rfl 5 _ 1 Tryd.underlying67 info5 rfl _ _ _ _ 0 rfl rfl (by omega) (by omega) (by omega) (by omega) ?_))
 intro w1 hR1 hg hsz
 have hB0:Below w.heap.size w w1:=(Below.refl _ _).grown hg (Nat.le_refl _) (by simp)
 have hR0:Row w1 w.heap.size 5 (nums .u8 []):=hR1
 clear hR1 hg
 have hcv:=Zbt hR0 (fun d hd=>by cases hd) 0 rfl
 have HF:=Lib.hid (show nv ⟨(([]:List Nat).map fun d=>UInt8.ofNat d).toArray⟩=0 from rfl)
 go_wp2_with fail
 refine wp_loop_rounds 1 ?_
 rw [rounds_succ]
 go_wp2_with (first|(go_at_call 82;refine(Zx _ _).mono ?_;rintro e w' ⟨rfl,rfl⟩))
 go_ret
 exact⟨Zo (congrArg enc HF.out),hB0⟩
theorem ZhQ {c x:Nat} (hc:c< 10) (hx:x< 4294967296):∃ t:Nat,t=c+10*x∧t< 42949672960∧(c:Int)+10*(x:Int)=(t:Int):=
 ⟨_,rfl,by omega,by omega⟩
theorem Zjd {B d j c t:Nat} {Z X:List Nat} (hZ:Z.length=j) (h:lv B Z+c*B ^ j=lv B (X.take j)*10+d) (ht:t=c+10*X.getD j 0):
  lv B (Z++ [t % B])+t / B*B ^ (j+1)=lv B (X.take (j+1))*10+d:=by
 rw [Zac,hZ,Zm,Nat.pow_succ,Nat.add_mul]
 have h1:=Nat.mod_add_div t B
 have h2:=congrArg (fun v=>B ^ j*v) h1
 simp only [Nat.mul_add] at h2
 rw [ht,Nat.mul_add] at h2
 have e1:t / B*(B ^ j*B)=B ^ j*(B*(t / B)):=by
  rw [Nat.mul_comm,Nat.mul_assoc]
 have e2:B ^ j*X.getD j 0*10=B ^ j*(10*X.getD j 0):=by
  rw [Nat.mul_assoc,Nat.mul_comm (X.getD j 0)]
 rw [← ht] at h2
 rw [e1,e2]
 rw [Nat.mul_comm c] at h
 omega
theorem ZbH {a b:ByteArray} {c d:Int} (h:a=b) (h':c=d):Ending.returned (.tuple #[.string a,.int .i64 c])= .returned (.tuple #[.string b,.int .i64 d]):=by rw [h,h']
set_option maxHeartbeats 1000000 in
theorem Ziu (s:ByteArray) (w:World) (hs:s.size≤2000):
  Calls Tryd.prog 43 #[.string s] w fun e w'=>e= .returned (.tuple #[.string (readS s),.int .i64 (readE s)])∧Below w.heap.size w w':=by
 obtain⟨rs,hrs⟩:∃ x,x=readS s:=⟨_,rfl⟩
 obtain⟨re,hre⟩:∃ x,x=readE s:=⟨_,rfl⟩
 have HBAD:=Lib.hid (show ¬ readable s→rs=⟨#[]⟩∧re=15 by
  intro h;rw [hrs,hre];unfold readS readE;rw [if_neg h,if_neg h];exact⟨rfl,rfl⟩)
 have HGOOD:=Lib.hid (show readable s→rs=enc (readV s s.size)∧re=0 by
  intro h;rw [hrs,hre];unfold readS readE;rw [if_pos h,if_pos h];exact⟨rfl,rfl⟩)
 rw [← hrs,← hre]
 clear hrs hre
 by_cases h0:s.size=0
 ·obtain⟨H1,H2⟩:=HBAD.out (fun h=>h.1 h0)
  subst H1
  subst H2
  have he:s.toList.isEmpty=true:=by
   rw [Lib.toList_data,List.isEmpty_iff]
   exact List.eq_nil_of_length_eq_zero (by rw [ba_length];exact h0)
  clear HBAD HGOOD h0
  go_enter Tryd.func43,Tryd.ntmps43
  go_wp2_with fail
  go_ret2
  exact⟨rfl,Below.refl _ _⟩
 ·have h0':0< s.size:=by omega
  have he:s.toList.isEmpty=false:=by
   rw [Lib.toList_data]
   cases h:s.data.toList with
   |nil=>exact absurd (show s.size=0 by rw [← ba_length,h];rfl) h0
   |cons x l=>rfl
  have hc0:=Zdb s 0 h0'
  clear h0
  by_cases h1:1< s.size∧chr s 0=48
  ·obtain⟨H1,H2⟩:=HBAD.out (fun h=>h.2.1 h1)
   subst H1
   subst H2
   obtain⟨h1,h2⟩:=h1
   have h3:(((s[0]).toNat:Int)==48)=true:=by rw [hc0,h2];rfl
   clear HBAD HGOOD h2 hc0
   go_enter Tryd.func43,Tryd.ntmps43
   go_wp2_with fail
   go_ret2
   exact⟨rfl,Below.refl _ _⟩
  ·have key:¬ 1< s.size∨(1< s.size∧(((s[0]).toNat:Int)==48)=false):=by
    by_cases h:1< s.size
    ·refine .inr ⟨h,?_⟩
     rw [hc0]
     have:chr s 0≠48:=fun e=>h1 ⟨h,e⟩
     simp;omega
    ·exact .inl h
   have H1:=Lib.hid h1
   have H0:=Lib.hid h0'
   clear h1 hc0
   rcases key with h1|⟨h1,h3⟩
   all_goals
    go_enter Tryd.func43,Tryd.ntmps43
    go_wp2_with fail
    go_loopw [4,25] (fun vl i wr=>∃ (k:Nat) (X:List Nat) (vo:Value),vo=vl∧k≤s.size∧i= .int .i64 k∧Hid (∀ j,j< k→48≤chr s j∧chr s j≤57)∧Hid (lv 4294967296 X=readV s k)∧Hid (∀ d∈X,d< 4294967296)∧X.length≤k∧
     wr.ownsRow w.heap.size 84 1 vo X.length (nums .u32 X)∧Below w.heap.size w wr) (fun _ i _=>s.size - (intOf i).toNat)
    case atStart=>exact⟨0, [],_,rfl,Nat.zero_le _,rfl,(by intro j hj;exact absurd hj (Nat.not_lt_zero _)),rfl,(by intro d hd;cases hd),Nat.le_refl _,World.ownsRow_nil _ _ _ _,Below.refl _ _⟩
    case round=>
     obtain⟨k,X,vo,rfl,hk,rfl,hdig,hlv,hX,hXl,hown,hB⟩:=hrel
     by_cases hlt:k< s.size
     ·obtain⟨c,hc⟩:∃ c,chr s k=c:=⟨_,rfl⟩
      have hck:=Zdb s k hlt
      rw [hc] at hck
      have hc256:c< 256:=by rw [← hc];exact Zju s k
      by_cases hlo:c< 48
      ·have HE:=Lib.hid (HBAD.out (fun h=>by have:=(h.2.2 k hlt).1;omega))
       clear hc hc256
       go_wp2_with fail
       go_ret2
       exact⟨ZbH HE.out.1.symm HE.out.2.symm,hB⟩
      ·by_cases hhi:57< c
       ·have HE:=Lib.hid (HBAD.out (fun h=>by have:=(h.2.2 k hlt).2;omega))
        clear hc hc256
        go_wp2_with fail
        go_ret2
        exact⟨ZbH HE.out.1.symm HE.out.2.symm,hB⟩
       ·obtain⟨d,hd⟩:∃ d,c=d+48:=⟨c - 48,by omega⟩
        have hd10:d< 10:=by omega
        have hl3:((c:Int) - 48)=(d:Int):=by omega
        have Hdig:=Lib.hid (show ∀ j,j< k+1→48≤chr s j∧chr s j≤57 by
         intro j hj
         by_cases e:j=k
         ·subst e;omega
         ·exact hdig.out j (by omega))
        have HV:=Lib.hid (show readV s (k+1)=lv 4294967296 X*10+d by rw [ZcV,hlv.out,hc,hd,Nat.add_sub_cancel])
        have Hd:=Lib.hid hd
        clear hc hc256 hd hdig hlv
        rcases owns_pre' (by rw [Za];exact hown) with ⟨rfl,hnil⟩|⟨g,cp,rfl,hg,hcm,hP⟩
        ·have hX0:X= []:=by simpa [nums] using hnil
         subst hX0
         by_cases hd0:d=0
         ·subst hd0
          go_wp2_with fail
          refine wp_loop_rounds 1 ?_
          rw [rounds_succ]
          go_wp2_with fail
          go_roundw
          case rel=>exact⟨k+1, [],_,rfl,by omega,by go_num,Hdig.out,by rw [HV.out];rfl,hX,by simp,hown,hB⟩
          case measure=>simp [intOf]<;>omega
         ·have hd1:(0:Int)< (d:Int):=by omega
          go_wp2_with fail
          refine wp_loop_rounds 1 ?_
          rw [rounds_succ]
          go_wp2_with (first|(at_builtin;refine ZM rfl _ _ _ rfl w.heap.size 84 _ 4 Tryd.underlying34 natB.info84 rfl _ (nums .u32 []) rfl (by rw [Za];exact hown.alloc _) _ _ rfl (Z6 _ _ _) rfl (by rw [Za];simp) (by rw [Za];simp) (by have:=hB.size;simp;omega) ?_))
          intro v' w2 hown2 hg2
          have hB2:Below w.heap.size w w2:=(hB.alloc hB.size _).grown hg2 (hB.alloc hB.size _).size (ZE hown)
          clear hown hg2 hB
          go_wp2_with fail
          go_roundw
          case rel=>
           refine⟨k+1, [d],v',rfl,by omega,by go_num,Hdig.out,?_,?_,by simp,hown2,hB2⟩
           ·rw [HV.out];simp [Hid,lv]
           ·intro x hx
            rw [List.mem_singleton] at hx
            omega
          case measure=>simp [intOf]<;>omega
        ·rw [Za] at*
         clear hown
         have HX:=Lib.hid hX
         have hP0:Pre wr g 84 cp (nums .u32 ([]++X.drop 0)):=hP
         clear hP
         obtain⟨wo,rfl⟩:∃ wo:World,wo=wr:=⟨_,rfl⟩
         go_wp2_with fail
         go_loopw [6,45] (fun cr i wr=>∃ (j c:Nat) (Z:List Nat),j≤X.length∧i= .int .i64 j∧cr= .int .u64 c∧c< 10∧Hid (Z.length=j)∧Hid (∀ d∈Z,d< 4294967296)∧Hid (lv 4294967296 Z+c*4294967296 ^ j=lv 4294967296 (X.take j)*10+d)∧
          Pre wr g 84 cp (nums .u32 (Z++X.drop j))∧Below w.heap.size w wr) (fun _ i _=>X.length - (intOf i).toNat)
         case atStart=>exact⟨0,d, [],Nat.zero_le _,rfl,rfl,hd10,rfl,(by intro d hd;cases hd),by simp [Hid,lv],hP0,hB⟩
         case round=>
          obtain⟨j,c',Z,hj,rfl,rfl,hc',hZl,hZ,hlv,hPj,hBj⟩:=hrel
          clear hP0 hB
          by_cases hlj:j< X.length
          ·first
           |(exfalso;omega)
           |(obtain⟨x,hx⟩:∃ x,x=X.getD j 0:=⟨_,rfl⟩
             have hxl:x< 4294967296:=by rw [hx];exact Zr (by omega) HX.out j
             have c1:=hPj.int (i:=j) (by have:=hZl.out;simp;omega)
             rw [ZS hZl.out,← hx] at c1
             have f1:=hPj.frozen j
             obtain⟨t,ht,htl,hw⟩:=ZhQ hc' hxl
             have hst:=Lib.hid (Zjd (t:=t) hZl.out hlv.out (ht.trans (by rw [hx])))
             have HW:=Lib.hid hw
             have ht2:(t:Int) % 4294967296=((t % 4294967296:Nat):Int):=by omega
             have ht3:(t:Int) / 4294967296=((t / 4294967296:Nat):Int):=by omega
             have HT:=Lib.hid (And.intro ht2 ht3)
             clear hx ht hw ht2 ht3
             go_wp2_with fail
             go_roundw
             case rel=>
              rw [HW.out,HT.out.1,HT.out.2]
              have hR':=hPj.int_set j (t % 4294967296)
              rw [ZO hZl.out hlj] at hR'
              exact⟨j+1,t / 4294967296,Z++ [t % 4294967296],by omega,by go_num,rfl,by omega,by have:=hZl.out;simp [Hid,this],ZB hZ.out (Nat.mod_lt _ (by omega)),hst.out,hR',hBj.setCell hg _⟩
             case measure=>simp [intOf]<;>omega)
          ·obtain rfl:j=X.length:=by omega
           rw [List.drop_of_length_le (Nat.le_refl _),List.append_nil] at hPj
           have hown':=Zh2 hPj hg hcm
           rw [Za,hZl.out] at hown'
           have HF:=Lib.hid (show lv 4294967296 Z+c'*4294967296 ^ Z.length=readV s (k+1) by
            rw [HV.out,hZl.out]
            have:=hlv.out
            rw [Zd _ _ (Nat.le_refl _)] at this
            exact this)
           clear hPj hlj hlv
           by_cases hc0:c'=0
           ·subst hc0
            go_wp2_with fail
            go_roundw
            case rel=>
             refine⟨k+1,Z,_,rfl,by omega,by go_num,Hdig.out,?_,hZ.out,by rw [hZl.out];omega,by rw [hZl.out];exact hown',hBj⟩
             have:=HF.out
             rw [Nat.zero_mul,Nat.add_zero] at this
             exact this
            case measure=>simp [intOf]<;>omega
           ·have hc1:(0:Int)< (c':Int):=by omega
            go_wp2_with (first|(at_builtin;refine ZM rfl _ _ _ rfl w.heap.size 84 _ 4 Tryd.underlying34 natB.info84 rfl _ (nums .u32 Z) rfl (by rw [Za,hZl.out];exact hown'.alloc _) _ _ rfl (Z6 _ _ _) rfl (by rw [Za];rw [hZl.out];omega) (by rw [Za];rw [hZl.out];omega) (by have:=hBj.size;simp;omega) ?_))
            intro v' w2 hown2 hg2
            have hB2:Below w.heap.size w w2:=(hBj.alloc hBj.size _).grown hg2 (hBj.alloc hBj.size _).size (ZE hown')
            rw [Zas,Za] at hown2
            clear hown' hg2 hBj
            go_wp2_with fail
            go_roundw
            case rel=>
             refine⟨k+1,Z++ [c'],v',rfl,by omega,by go_num,Hdig.out,?_,ZB hZ.out (by omega),by rw [List.length_append,hZl.out];simp;omega,by rw [List.length_append];exact hown2,hB2⟩
             rw [Zac,Nat.mul_comm (4294967296 ^ Z.length)]
             exact HF.out
            case measure=>simp [intOf]<;>omega
     ·obtain rfl:k=s.size:=by omega
      have HE:=Lib.hid (HGOOD.out ⟨by have:=H0.out;omega,H1.out,hdig.out⟩)
      have HV:=Lib.hid hlv.out
      rcases owns_pre' (by rw [Za];exact hown) with ⟨rfl,hnil⟩|⟨g,cp,rfl,hg,hcm,hP⟩
      ·have hX0:X= []:=by simpa [nums] using hnil
       subst hX0
       go_wp2_with fail
       refine(ZhP _ _).mono ?_
       rintro e w' ⟨rfl,hb⟩
       go_wp2_with fail
       go_ret2
       exact⟨ZbH (by rw [HE.out.1,← HV.out];rfl) HE.out.2.symm,hB.trans (hb.mono hB.size)⟩
      ·rw [Za] at*
       go_wp2_with fail
       refine(Zdi g _ _ X _ hP hX.out (by omega)).mono ?_
       rintro e w' ⟨rfl,hb⟩
       go_wp2_with fail
       go_ret2
       exact⟨ZbH (by rw [HE.out.1,HV.out]) HE.out.2.symm,hB.trans (hb.mono hB.size)⟩
end Go.Proofs.YtpfemjpgbpnpkaaDoor.natK
namespace Go.Proofs.YtpfemjpgbpnpkaaDoor.refG
open Go.RowKit num mem natA natB natC natD dec refA refB natJ natK
def bv (l:List Nat):Nat:=l.foldl (fun v d=>v*256+d) 0
theorem Zjv:bv []=0:=rfl
theorem Zfa (l:List Nat) (d:Nat):bv (l++ [d])=bv l*256+d:=by unfold bv;rw [List.foldl_append];rfl
theorem ZcB (l:List Nat) (k:Nat) (h:k< l.length):l.take (k+1)=l.take k++ [l.getD k 0]:=by
 rw [List.take_succ_eq_append_getElem h]
 simp [List.getD,List.getElem?_eq_getElem h]
theorem Zis:∀ (l:List UInt8),bv (l.map (·.toNat))=nvl l:=by
 intro l
 unfold bv nvl
 rw [List.foldl_map]
def Cells (w:World) (b:Nat) (L:List Nat):Prop:=∀ i,i< L.length→w.cell? ⟨b,i,none⟩=some (.int .u8 ((L.getD i 0:Nat):Int))
theorem Cells.below {w w':World} {b B:Nat} {L:List Nat} (h:Cells w b L) (hb:Below B w w') (hB:b< B):Cells w' b L:=by
 intro i hi
 have:=h i hi
 unfold World.cell? at this ⊢
 rw [hb.block b hB]
 exact this
theorem Pre.cells {w:World} {b T cap:Nat} {L:List Nat} (h:Pre w b T cap (nums .u8 L)):Cells w b L:=fun _ hi=>h.int hi
theorem Zin {V c r Q:Nat} (hr:r=V % 10) (hQ:Q=V / 10):(V*256+c) / 10=Q*256+(256*r+c) / 10∧(V*256+c) % 10=(256*r+c) % 10:=by omega
theorem Zgs (D:List Nat) (r:Nat):ascii (D++ [r])=⟨#[UInt8.ofNat (48+r)]++(ascii D).data⟩:=by
 unfold ascii
 simp
theorem ZhC (D:List Nat) (r:Nat):(⟨#[UInt8.ofNat (48+r)]⟩:ByteArray)++ascii D=ascii (D++ [r]):=by
 rw [Zgs]
 apply ZaQ
 simp [ByteArray.data_append]
theorem Ze9 (w:World) (e:TypeId) (s:ByteArray):Below w.heap.size w (Lib.bytesWorld w e s):=
 ⟨rfl,rfl,rfl,by rw [Lib.bytesWorld_size];omega,fun k hk=>Lib.bytesWorld_at_old w e s k hk⟩
theorem Ze8 (w:World) (e:TypeId) (s:ByteArray):Cells (Lib.bytesWorld w e s) w.heap.size (s.data.toList.map (·.toNat)):=by
 intro i hi
 rw [List.length_map,ba_length] at hi
 rw [Lib.bytesWorld_cell w e s i hi]
 have hl:i< s.data.toList.length:=by rw [ba_length];exact hi
 simp [List.getD,List.getElem?_eq_getElem hl]
theorem Zdd (D:List Nat):(ascii D).size=D.length:=by
 unfold ascii
 simp [ByteArray.size]
theorem Zep {r:Nat} (hr:r< 10):Utf8.encode (48+(r:Int))=⟨#[UInt8.ofNat (48+r)]⟩:=by
 have k:∀ r:Fin 10,Utf8.encode (48+((r.val:Nat):Int))=⟨#[UInt8.ofNat (48+r.val)]⟩:=by decide+kernel
 exact k ⟨r,hr⟩
theorem ZiT {w:World} {base e:Nat} {v:Value} {Q:List Nat} (h:w.ownsRow base e 1 v Q.length (nums .u8 Q)) (u:World):
  (Builtin.len_ #[67] 3 #[v]).run Tryd.prog u= .ok (.int .i64 (Q.length:Nat)) u:=by
 rcases Zbi (by rw [Za];exact h) with ⟨rfl,hnil⟩|⟨g,cp,rfl,_,_⟩
 ·have:Q= []:=by simpa [nums] using hnil
  subst this
  simp [Builtin.len_,goInt]
 ·rw [Za]
  simp [Builtin.len_,goInt]
set_option maxHeartbeats 1000000 in
theorem Zfj (a:ByteArray) (w:World) (ha:a.size≤17592186044416):
  Calls Tryd.prog 14 #[.string a] w fun e w'=>e= .returned (.string (dec (nv a)))∧Below w.heap.size w w':=by
 obtain⟨n,hn⟩:∃ n,nv a=n:=⟨_,rfl⟩
 have hdl:(decL n).length≤52776558133248:=by
  have h1:=ZbC (Zbl a)
  rw [hn] at h1
  omega
 have hla:(enc n).size≤17592186044416:=by rw [← hn];exact Nat.le_trans (ZI a) ha
 rw [hn]
 have Hn:=Lib.hid hn
 have Hdl:=Lib.hid hdl
 clear hdl hn
 have hcv:=Lib.run_convert_string_bytes (P:=Tryd.prog) w 9 67 5 (enc n) Tryd.underlying9 Tryd.underlying67 Tryd.underlying5
 obtain⟨w1,hw1⟩:∃ x,Lib.bytesWorld w 5 (enc n)=x:=⟨_,rfl⟩
 have hC1:=Ze8 w 5 (enc n)
 have hB1:=Ze9 w 5 (enc n)
 have hs1:w1.heap.size=w.heap.size+1:=by rw [← hw1,Lib.bytesWorld_size]
 rw [hw1] at hcv hC1 hB1
 obtain⟨cap,hcap⟩:∃ x,grownCap w (enc n).size 0 5=x:=⟨_,rfl⟩
 rw [hcap] at hcv
 have HW:=Lib.hid (And.intro hw1 hcap)
 clear hw1 hcap
 go_enter Tryd.func14,Tryd.ntmps14
 go_wp2_with fail
 refine(Zbu a _).mono ?_
 rintro e w' ⟨rfl,rfl⟩
 rw [Hn.out]
 go_wp2_with fail
 go_loopg [3,4] (decL n).length (fun g ss sl wr=>∃ (D L:List Nat),g=(decL (bv L)).length∧ss= .string (ascii D)∧Hid (decL n=D++decL (bv L))∧Hid (0< L.length→0< bv L)∧Hid (∀ d∈L,d< 256)∧L.length≤17592186044416∧
   ((sl= .slice none 0 0∧L= [])∨∃ b cp,sl= .slice (some ⟨b,0,none⟩) L.length cp∧Hid (Cells wr b L)∧b< wr.heap.size)∧Below w.heap.size w wr)
 case atStart=>
  have hbv:bv ((enc n).data.toList.map (·.toNat))=n:=by rw [Zis];exact Zc n
  have hll:((enc n).data.toList.map (·.toNat)).length=(enc n).size:=by rw [List.length_map,ba_length]
  refine⟨[],_,by rw [hbv],rfl,by rw [hbv];rfl,?_,?_,by rw [hll];exact hla,.inr ⟨w.heap.size,cap,by rw [hll],hC1,by omega⟩,hB1⟩
  ·intro h
   rw [hll] at h
   rw [hbv]
   apply Nat.pos_of_ne_zero
   intro h0
   rw [h0,Zy] at h
   exact absurd h (by decide)
  ·intro d hd
   obtain⟨x,_,rfl⟩:=List.mem_map.1 hd
   exact UInt8.toNat_lt _
 case round=>
  obtain⟨wo,rfl⟩:∃ wo:World,wo=wr:=⟨_,rfl⟩
  obtain⟨D,L,hg,rfl,hdec,hpos,hLd,hLl,hsl,hB⟩:=hrel
  clear hC1 hB1 hcv hs1
  by_cases hL0:L.length=0
  ·have hLn:L= []:=List.eq_nil_of_length_eq_zero hL0
   subst hLn
   have hD:decL n=D:=by have:=hdec.out;rw [Zjv,decL_zero,List.append_nil] at this;exact this
   clear hg hdec hpos hLd hLl hL0
   by_cases hn0:n=0
   ·have hD0:D= []:=by rw [← hD,hn0,decL_zero]
    subst hD0
    have HV:=Lib.hid (show dec n=⟨#[48]⟩ by rw [hn0,ZdF])
    have h1:ascii []=⟨#[]⟩:=rfl
    rw [h1]
    clear hD hn0 h1
    rcases hsl with ⟨rfl,_⟩|⟨b,cp,rfl,_,_⟩
    all_goals
     go_wp2_with fail
     go_ret
     exact⟨Zo HV.out.symm,hB⟩
   ·have HV:=Lib.hid (show dec n=ascii D by rw [dec_pos hn0,hD])
    obtain⟨x,hx⟩:∃ x,ascii D=x:=⟨_,rfl⟩
    have hne:x.toList.isEmpty=false:=by
     rw [← hx,Lib.toList_data]
     cases h:(ascii D).data.toList with
     |nil=>
      have h2:(ascii D).data.toList.length=0:=by rw [h];rfl
      rw [ba_length,Zdd] at h2
      exact absurd (hD.trans (List.eq_nil_of_length_eq_zero h2)) (Zcx hn0)
     |cons x l=>rfl
    rw [hx] at HV ⊢
    clear hD hn0 hx
    rcases hsl with ⟨rfl,_⟩|⟨b,cp,rfl,_,_⟩
    all_goals
     go_wp2_with fail
     go_ret
     exact⟨Zo HV.out.symm,hB⟩
  ·have hsl2:∃ b cp,_∧Hid (Cells wo b L)∧b< wo.heap.size:=hsl.resolve_left (fun h=>hL0 (by rw [h.2];rfl))
   obtain⟨b,cp,rfl,hC,hb⟩:=hsl2
   have hv0:=hpos.out (by omega)
   have hgk:gk=(decL (bv L / 10)).length+1:=by rw [hg,decL_pos (by omega)];rfl
   subst hgk
   clear hg hsl
   have hL1:0< L.length:=by omega
   go_wp2_with fail
   go_loopw [5,6,17] (fun q rr i wr=>∃ (k r:Nat) (Q:List Nat) (vo:Value),vo=q∧k≤L.length∧i= .int .i64 k∧rr= .int .i64 r∧r< 10∧Hid (bv Q=bv (L.take k) / 10∧r=bv (L.take k) % 10)∧Hid (0< Q.length→0< bv Q)∧Hid (∀ d∈Q,d< 256)∧Q.length≤k∧
     wr.ownsRow wo.heap.size 5 1 vo Q.length (nums .u8 Q)∧Below wo.heap.size wo wr) (fun _ _ i _=>L.length - (intOf i).toNat)
   case atStart=>exact⟨0,0, [],_,rfl,Nat.zero_le _,rfl,rfl,by omega,(by show _∧_;rw [List.take_zero];exact⟨rfl,rfl⟩),(by intro h;exact absurd h (Nat.lt_irrefl _)),(by intro d hd;cases hd),Nat.le_refl _,World.ownsRow_nil _ _ _ _,Below.refl _ _⟩
   case round=>
    obtain⟨k,r,Q,vo,rfl,hk,rfl,rfl,hr,hQ,hQp,hQd,hQl,hown,hBr⟩:=hrel
    by_cases hlt:k< L.length
    ·obtain⟨c,hc⟩:∃ c,c=L.getD k 0:=⟨_,rfl⟩
     have hcl:c< 256:=by rw [hc];exact Zr (by omega) hLd.out k
     have c1:wr.cell? ⟨b,k,none⟩=some (.int .u8 (c:Int)):=by rw [hc];exact(hC.out.below hBr hb) k hlt
     have hst:=Zin (V:=bv (L.take k)) (c:=c) hQ.out.2 hQ.out.1
     have htk:bv (L.take (k+1))=bv (L.take k)*256+c:=by rw [ZcB L k hlt,Zfa,hc]
     rw [← htk] at hst
     have hlen:=ZiT hown wr
     obtain⟨T,hT⟩:∃ T,T=256*r+c:=⟨_,rfl⟩
     have hTl:T≤2559:=by omega
     have hTc:(256:Int)*(r:Int)+(c:Int)=(T:Int):=by omega
     rw [← hT] at hst
     have hT2:(T:Int) % 10=((T % 10:Nat):Int):=by omega
     have hT3:(T:Int) / 10=((T / 10:Nat):Int):=by omega
     have HST:=Lib.hid hst
     have HTT:=Lib.hid (And.intro hT2 hT3)
     clear hc hst htk hT hT2 hT3
     by_cases hQ0:0< Q.length
     ·go_wp2_with (first|(at_builtin;refine ZM rfl _ _ _ rfl wo.heap.size 5 _ 1 Tryd.underlying67 natB.info5 rfl _ (nums .u8 Q) rfl (by rw [Za];exact hown.alloc _) _ _ rfl (Z6 _ _ _) rfl (by rw [Za];omega) (by rw [Za];omega) (by have:=hBr.size;simp;omega) ?_))
      intro v' w2 hown2 hg2
      have hB2:Below wo.heap.size wo w2:=(hBr.alloc hBr.size _).grown hg2 (hBr.alloc hBr.size _).size (ZE hown)
      clear hown hg2 hBr hlen c1
      go_wp2_with fail
      rw [HTT.out.2,Zas,Za] at hown2
      go_roundw
      case rel=>
       refine⟨k+1,T % 10,Q++ [T / 10],v',rfl,by omega,by go_num,by rw [HTT.out.1],by omega,?_,?_,ZB hQd.out (by omega),by rw [List.length_append];simp;omega,by rw [List.length_append];exact hown2,hB2⟩
       ·show _∧_
        rw [Zfa,HST.out.1,HST.out.2]
        exact⟨rfl,rfl⟩
       ·intro _
        rw [Zfa]
        have:=hQp.out hQ0
        omega
      case measure=>simp [intOf]<;>omega
     ·have hQn:Q= []:=List.eq_nil_of_length_eq_zero (by omega)
      subst hQn
      by_cases hT9:9< T
      ·go_wp2_with (first|(at_builtin;refine ZM rfl _ _ _ rfl wo.heap.size 5 _ 1 Tryd.underlying67 natB.info5 rfl _ (nums .u8 []) rfl (by exact hown.alloc _) _ _ rfl (Z6 _ _ _) rfl (by simp [nums]) (by simp [nums]) (by have:=hBr.size;simp;omega) ?_))
       intro v' w2 hown2 hg2
       have hB2:Below wo.heap.size wo w2:=(hBr.alloc hBr.size _).grown hg2 (hBr.alloc hBr.size _).size (ZE hown)
       clear hown hg2 hBr hlen c1
       go_wp2_with fail
       rw [HTT.out.2] at hown2
       go_roundw
       case rel=>
        refine⟨k+1,T % 10, [T / 10],v',rfl,by omega,by go_num,by rw [HTT.out.1],by omega,?_,?_,?_,by simp,hown2,hB2⟩
        ·show _∧_
         rw [HST.out.1,HST.out.2]
         exact⟨by simp [bv],rfl⟩
        ·intro _
         show 0< bv [T / 10]
         simp [bv]
         omega
        ·intro d hd
         rw [List.mem_singleton] at hd
         omega
       case measure=>simp [intOf]<;>omega
      ·go_wp2_with fail
       go_roundw
       case rel=>
        refine⟨k+1,T % 10, [],_,rfl,by omega,by go_num,by rw [HTT.out.1],by omega,?_,hQp.out,hQd.out,by simp,hown,hBr⟩
        show _∧_
        rw [HST.out.1,HST.out.2]
        exact⟨by simp [bv];omega,rfl⟩
       case measure=>simp [intOf]<;>omega
    ·obtain rfl:k=L.length:=by omega
     have hfin:=hQ.out
     rw [List.take_of_length_le (Nat.le_refl _)] at hfin
     have HF:=Lib.hid hfin
     clear hfin hQ hlt
     obtain⟨en,hen⟩:∃ en,Utf8.encode (48+(r:Int))=en:=⟨_,rfl⟩
     have hen2:en=⟨#[UInt8.ofNat (48+r)]⟩:=by rw [← hen];exact Zep hr
     have hDl:D.length≤52776558133248:=by
      have h1:=Hdl.out
      rw [hdec.out,List.length_append] at h1
      omega
     have hz:¬ 9223372036854775807< en.size+(ascii D).size:=by
      rw [hen2,Zdd]
      show ¬ _< 1+D.length
      omega
     have HE:=Lib.hid hen2
     clear hen2
     go_wp2_with fail
     go_roundg (decL (bv L / 10)).length
     case measure=>omega
     case rel=>
      refine⟨D++ [r],Q,by rw [HF.out.1],?_,?_,hQp.out,hQd.out,by omega,?_,hB.trans (hBr.mono hB.size)⟩
      ·rw [HE.out,ZhC]
      ·show _=_
       rw [HF.out.1,HF.out.2]
       exact Zcw hdec.out (by omega)
      ·rcases Zbi (by rw [Za];exact hown) with ⟨rfl,hnil⟩|⟨g,cq,rfl,hgb,hP⟩
       ·exact .inl ⟨rfl,by simpa [nums] using hnil⟩
       ·exact .inr ⟨g,cq,by rw [Za],Pre.cells hP,hP.lt⟩
end Go.Proofs.YtpfemjpgbpnpkaaDoor.refG
namespace Go.Proofs.YtpfemjpgbpnpkaaDoor.lawA
open Go.RowKit num mem natA natB natC natD refA refB refC refD
theorem Zi5 (s:ByteArray) (c:UInt8) (r:List UInt8) (hs:s.data.toList=c :: r) (hc:c≠0) (n:Nat) (hn:nv s=n):enc n=s:=by
 rw [← hn]
 apply Z5
 intro c' r' h
 rw [hs] at h
 injection h with h1 _
 rw [← h1];exact hc
end Go.Proofs.YtpfemjpgbpnpkaaDoor.lawA
namespace Go.Proofs.YtpfemjpgbpnpkaaDoor.refH
open Go.RowKit num mem natA natB natC natD dec refA refB refC refD refE natJ natK lawA
theorem ZaG (s:ByteArray) (w:World) (hs:s.size≤2000):
  Calls Tryd.prog 75 #[.string s,.string ⟨#[48,49,50,51,52,53,54,55,56,57]⟩] w fun e w'=>e= .returned (.string ⟨(Lib.trimS s.data.toList [48,49,50,51,52,53,54,55,56,57]).toArray⟩)∧Below w.heap.size w w':=
 Any.strings_Trim_laid Tryd.lays160 (by kernel_rfl) s ⟨#[48,49,50,51,52,53,54,55,56,57]⟩ w (by omega) (by decide) (ascii_of_all (by decide))
theorem Zjj:nv ⟨#[10]⟩=10:=by decide
theorem enc_one:enc 1=⟨#[1]⟩:=Zi5 _ 1 [] rfl (by decide) _ (by decide)
theorem ZaF (p:UInt8→Bool):∀ l:List UInt8,l.dropWhile p= []↔∀ x∈l,p x=true:=by
 intro l
 induction l with
 |nil=>simp
 |cons c l ih=>
  rw [List.dropWhile_cons]
  by_cases h:p c=true
  ·rw [if_pos h,ih];simp [h]
  ·rw [if_neg h];simp [h]
theorem ZcF (p:UInt8→Bool):∀ (l:List UInt8) (c:UInt8) (r:List UInt8),l.dropWhile p=c :: r→p c=false:=by
 intro l
 induction l with
 |nil=>intro c r h;simp at h
 |cons d l ih=>
  intro c r h
  rw [List.dropWhile_cons] at h
  by_cases hd:p d=true
  ·rw [if_pos hd] at h;exact ih c r h
  ·rw [if_neg hd] at h
   injection h with h1 h2
   rw [← h1]
   simpa using hd
theorem Zgx (l cs:List UInt8):Lib.trimS l cs= []↔∀ x∈l,cs.contains x=true:=by
 unfold Lib.trimS Lib.trimLeftS Lib.trimRightS
 rw [ZaF]
 constructor
 ·intro h
  cases hr:l.reverse.dropWhile (cs.contains ·) with
  |nil=>
   have:=(ZaF _ _).1 hr
   intro x hx
   exact this x (List.mem_reverse.2 hx)
  |cons c r=>
   have h1:=ZcF _ _ _ _ hr
   have h2:=h c (by rw [hr];simp)
   rw [h1] at h2
   cases h2
 ·intro h x hx
  have h1:l.reverse.dropWhile (cs.contains ·)= []:=(ZaF _ _).2 (fun y hy=>h y (List.mem_reverse.1 hy))
  rw [h1] at hx
  cases hx
theorem Zev (x:UInt8):([48,49,50,51,52,53,54,55,56,57]:List UInt8).contains x=true↔48≤x.toNat∧x.toNat≤57:=by
 have k:∀ n:Fin 256,(([48,49,50,51,52,53,54,55,56,57]:List UInt8).contains (UInt8.ofNat n.val)=true↔48≤n.val∧n.val≤57):=by decide+kernel
 have:=k ⟨x.toNat,UInt8.toNat_lt x⟩
 simpa using this
theorem ZbZ (s:ByteArray):Lib.trimS s.data.toList [48,49,50,51,52,53,54,55,56,57]= []↔∀ j,j< s.size→48≤chr s j∧chr s j≤57:=by
 rw [Zgx]
 constructor
 ·intro h j hj
  rw [← Zdb s j hj]
  exact(Zev _).1 (h _ (by rw [show s[j]=s.data.toList[j]'(by rw [ba_length];exact hj) from rfl];exact List.getElem_mem _))
 ·intro h x hx
  obtain⟨j,hj,rfl⟩:=List.getElem_of_mem hx
  rw [ba_length] at hj
  have:=h j hj
  rw [← Zdb s j hj] at this
  exact(Zev _).2 this
theorem Zd5 (m:Nat):(enc (10 ^ m)).size≤m+1:=by
 rw [Zg]
 have h1:10 ^ m< 10 ^ (m+1):=Nat.pow_lt_pow_right (by omega) (by omega)
 have h2:10 ^ (m+1)≤256 ^ (m+1):=Nat.pow_le_pow_left (by omega) _
 omega
theorem Zcl {x m:Nat} (h:x< 10 ^ m):(enc x).size≤m:=by
 rw [Zg]
 have h2:10 ^ m≤256 ^ m:=Nat.pow_le_pow_left (by omega) _
 omega
theorem Zh6 {s:ByteArray} {j U S d V:Nat} (h:readV s (j+1)*U+S=V) (hd:chr s j - 48=d):readV s j*(U*10)+(S+U*d)=V:=by
 rw [← h,ZcV,hd,Nat.add_mul,Nat.mul_assoc,Nat.mul_comm 10 U,Nat.mul_comm d U]
 omega
set_option maxHeartbeats 1000000 in
theorem Zff (s:ByteArray) (w:World) (hs:s.size≤2000):
  Calls Tryd.prog 47 #[.string s] w fun e w'=>e= .returned (.tuple #[.string (readS s),.int .i64 (readE s)])∧Below w.heap.size w w':=by
 obtain⟨rs,hrs⟩:∃ x,x=readS s:=⟨_,rfl⟩
 obtain⟨re,hre⟩:∃ x,x=readE s:=⟨_,rfl⟩
 have HBAD:=Lib.hid (show ¬ readable s→rs=⟨#[]⟩∧re=15 by
  intro h;rw [hrs,hre];unfold readS readE;rw [if_neg h,if_neg h];exact⟨rfl,rfl⟩)
 have HGOOD:=Lib.hid (show readable s→rs=enc (readV s s.size)∧re=0 by
  intro h;rw [hrs,hre];unfold readS readE;rw [if_pos h,if_pos h];exact⟨rfl,rfl⟩)
 rw [← hrs,← hre]
 clear hrs hre
 obtain⟨tr,htr⟩:∃ x,Lib.trimS s.data.toList [48,49,50,51,52,53,54,55,56,57]=x:=⟨_,rfl⟩
 have hnil:=ZbZ s
 rw [htr] at hnil
 have HTR:=Lib.hid htr
 clear htr
 by_cases hall:∀ j,j< s.size→48≤chr s j∧chr s j≤57
 ·have htn:=hnil.2 hall
  subst htn
  have Hall:=Lib.hid hall
  clear hnil hall
  by_cases h0:s.size=0
  ·have HE:=Lib.hid (HBAD.out (fun h=>h.1 h0))
   have he:s.toList.isEmpty=true:=by
    rw [Lib.toList_data,List.isEmpty_iff]
    exact List.eq_nil_of_length_eq_zero (by rw [ba_length];exact h0)
   clear h0
   go_enter Tryd.func47,Tryd.ntmps47
   go_wp2_with fail
   refine(ZaG s _ hs).mono ?_
   rintro e w1 ⟨rfl,hb1⟩
   rw [HTR.out]
   go_wp2_with fail
   go_ret2
   exact⟨ZbH HE.out.1.symm HE.out.2.symm,hb1⟩
  ·have h0':0< s.size:=by omega
   have he:s.toList.isEmpty=false:=by
    rw [Lib.toList_data]
    cases h:s.data.toList with
    |nil=>exact absurd (show s.size=0 by rw [← ba_length,h];rfl) h0
    |cons x l=>rfl
   have hc0:=Zdb s 0 h0'
   clear h0
   by_cases h1:1< s.size∧chr s 0=48
   ·have HE:=Lib.hid (HBAD.out (fun h=>h.2.1 h1))
    obtain⟨h1,h2⟩:=h1
    have h3:(((s[0]).toNat:Int)==48)=true:=by rw [hc0,h2];rfl
    have h4:(s.toList== [48])=false:=by
     rw [Lib.toList_data]
     apply beq_false_of_ne
     intro e
     have:=congrArg List.length e
     rw [ba_length] at this
     simp at this
     omega
    clear h2 hc0
    go_enter Tryd.func47,Tryd.ntmps47
    go_wp2_with fail
    refine(ZaG s _ hs).mono ?_
    rintro e w1 ⟨rfl,hb1⟩
    rw [HTR.out]
    go_wp2_with fail
    go_ret2
    exact⟨ZbH HE.out.1.symm HE.out.2.symm,hb1⟩
   ·have H1:=Lib.hid h1
    have key:(s.toList== [48])=true∨((s.toList== [48])=false∧(((s[0]).toNat:Int)==48)=false):=by
     by_cases h48:s.toList= [48]
     ·exact .inl (by rw [h48];rfl)
     ·refine .inr ⟨beq_false_of_ne h48,?_⟩
      rw [hc0]
      have:chr s 0≠48:=by
       intro e
       apply h48
       have hs1:s.data.toList.length=1:=by
        rw [ba_length]
        have:¬ 1< s.size:=fun h=>h1 ⟨h,e⟩
        omega
       rw [Lib.toList_data]
       unfold chr at e
       match hl:s.data.toList,hs1 with
       | [x],_=>
        rw [hl] at e
        have:x.toNat=48:=e
        rw [UInt8.toNat_inj.1 (show x.toNat=(48:UInt8).toNat from this)]
      simp;omega
    have H0:=Lib.hid h0'
    clear h1 hc0
    rcases key with h4|⟨h4,h3⟩
    all_goals
     go_enter Tryd.func47,Tryd.ntmps47
     go_wp2_with fail
     refine(ZaG s _ hs).mono ?_
     rintro e w1 ⟨rfl,hb1⟩
     rw [HTR.out]
     go_wp2_with fail
     go_loopw [4,5,6] (fun ss us i wr=>∃ (k S m:Nat) (e:Int),i= .int .i64 e∧e=(k:Int) - 1∧k+m=s.size∧ss= .string (enc S)∧us= .string (enc (10 ^ m))∧Hid (S< 10 ^ m)∧Hid (readV s k*10 ^ m+S=readV s s.size)∧Below w.heap.size w wr) (fun _ _ i _=>(intOf i+1).toNat)
     case atStart=>exact⟨s.size,0,0,_,rfl,by go_num,rfl,by rw [Zy],by rw [Nat.pow_zero,enc_one],by simp [Hid],by show _=_;rw [Nat.pow_zero,Nat.mul_one,Nat.add_zero],hb1⟩
     case round=>
      obtain⟨k,S,m,e,rfl,he1,hkm,rfl,rfl,hS,hV,hB⟩:=hrel
      rcases k with _|j
      ·obtain rfl:e=-1:=by simpa using he1
       have HE:=Lib.hid (HGOOD.out ⟨by have:=H0.out;omega,H1.out,Hall.out⟩)
       have HSV:=Lib.hid (show S=readV s s.size by have:=hV.out;rw [show readV s 0=0 from rfl,Nat.zero_mul,Nat.zero_add] at this;exact this)
       clear he1
       go_wp2_with fail
       go_ret2
       exact⟨ZbH (by rw [HE.out.1,HSV.out]) HE.out.2.symm,hB⟩
      ·obtain rfl:e=(j:Int):=by omega
       have hj:j< s.size:=by omega
       obtain⟨d,hd⟩:∃ d,chr s j=d+48:=⟨chr s j - 48,by have:=Hall.out j hj;omega⟩
       have hd10:d< 10:=by have:=Hall.out j hj;omega
       have hcj:=Zdb s j hj
       have hl3:((s[j]).toNat:Int) - 48=(d:Int):=by rw [hcj,hd];omega
       have HD:=Lib.hid hd
       obtain⟨U,hU⟩:∃ U,U=10 ^ m:=⟨_,rfl⟩
       rw [← hU]
       have z1:(enc U).size≤2001:=by rw [hU];exact Nat.le_trans (Zd5 m) (by omega)
       have z2:(enc d).size≤1:=by rw [Zg];omega
       have z3:(enc S).size≤2001:=Nat.le_trans (Zcl hS.out) (by omega)
       have z4:(enc (U*d)).size≤2002:=by
        refine Nat.le_trans (Zcl (m:=m+1) ?_) (by omega)
        rw [Nat.pow_succ,← hU]
        exact Nat.mul_lt_mul_of_pos_left hd10 (by rw [hU];exact Nat.pow_pos (by omega))
       have HS:=Lib.hid (show S+U*d< 10 ^ (m+1) by
        have h1:=hS.out
        rw [← hU] at h1
        rw [Nat.pow_succ,← hU]
        have:U*d≤U*9:=Nat.mul_le_mul_left _ (by omega)
        omega)
       have HV:=Lib.hid (show readV s j*10 ^ (m+1)+(S+U*d)=readV s s.size by
        rw [Nat.pow_succ,← hU]
        refine Zh6 ?_ (by rw [hd,Nat.add_sub_cancel])
        rw [hU];exact hV.out)
       have HU:=Lib.hid hU
       clear he1 hcj hd hU hS hV
       go_wp2_with fail
       refine(ZhJ d _ (by omega)).mono ?_
       rintro e w2 ⟨rfl,hb2⟩
       rw [Int.toNat_natCast]
       go_wp2_with fail
       refine(ZeB (enc U) (enc d) _ (by omega)).mono ?_
       rintro e w3 ⟨rfl,hb3⟩
       rw [Zc,Zc]
       go_wp2_with fail
       refine(Z8 (enc S) (enc (U*d)) _ (by omega) (by omega)).mono ?_
       rintro e w4 ⟨rfl,hb4⟩
       rw [Zc,Zc]
       go_wp2_with fail
       refine(ZeB (enc U) ⟨#[10]⟩ _ (by show _+1≤_;omega)).mono ?_
       rintro e w5 ⟨rfl,hb5⟩
       rw [Zc,Zjj]
       go_wp2_with fail
       go_roundw
       case rel=>
        have hB2:=hB.trans (hb2.mono hB.size)
        have hB3:=hB2.trans (hb3.mono hB2.size)
        have hB4:=hB3.trans (hb4.mono hB3.size)
        exact⟨j,S+U*d,m+1,_,rfl,by go_num,by omega,rfl,by rw [Nat.pow_succ,← HU.out],HS.out,HV.out,hB4.trans (hb5.mono hB4.size)⟩
       case measure=>simp [intOf]<;>omega
 ·have HE:=Lib.hid (HBAD.out (fun h=>hall h.2.2))
  obtain⟨c,r,rfl⟩:∃ c r,tr=c :: r:=by
   cases tr with
   |nil=>exact absurd (hnil.1 rfl) hall
   |cons c r=>exact⟨c,r,rfl⟩
  clear hnil hall
  go_enter Tryd.func47,Tryd.ntmps47
  go_wp2_with fail
  refine(ZaG s _ hs).mono ?_
  rintro e w1 ⟨rfl,hb1⟩
  rw [HTR.out]
  go_wp2_with fail
  go_ret2
  exact⟨ZbH HE.out.1.symm HE.out.2.symm,hb1⟩
end Go.Proofs.YtpfemjpgbpnpkaaDoor.refH
namespace Go.Proofs.YtpfemjpgbpnpkaaDoor.refI
open Go.RowKit num mem natA natB natC natD refA refB refC refD refE refF
theorem Zii (n i:Nat):n / 2 / 256 ^ i % 256=n / 256 ^ i % 256 / 2+n / 256 ^ (i+1) % 256 % 2*128:=by
 rw [Nat.div_div_eq_div_mul,Nat.mul_comm 2,← Nat.div_div_eq_div_mul,Nat.pow_succ,← Nat.div_div_eq_div_mul]
 generalize n / 256 ^ i=x
 omega
def halfN (a:ByteArray) (N:Nat):List Nat:=(List.range N).map fun i=>dig a i / 2+dig a (i+1) % 2*128
theorem Zic {a:ByteArray} {N:Nat} (h:a.size≤N):lv 256 (halfN a N)=nv a / 2:=by
 have e:halfN a N=dg 256 (nv a / 2) N:=by
  unfold halfN dg dig
  refine List.map_congr_left fun i _=> ?_
  exact(Zii (nv a) i).symm
 rw [e]
 have h1:=Zbl a
 have h2:256 ^ a.size≤256 ^ N:=Nat.pow_le_pow_right (by omega) h
 exact ZV (by omega)
theorem Zi7 (x y:Nat):((x:Int) / 2+(y:Int) % 2*128)=((x / 2+y % 2*128:Nat):Int):=by omega
theorem Zgk (a:ByteArray) (w:World) (ha:a.size≤35184372088832):
  Calls Tryd.prog 95 #[.string a] w fun e w'=>e= .returned (.string (enc (nv a / 2)))∧Below w.heap.size w w':=by
 obtain⟨N,hN⟩:∃ N:Nat,(a.size:Int)=(N:Int):=⟨a.size,rfl⟩
 have hN1:N≤35184372088832:=by omega
 have Ha:=Lib.hid (show a.size≤N by omega)
 go_enter Tryd.func95,Tryd.ntmps95
 go_wp2_with (first|(at_make;refine Zj _ rfl _ _ _ rfl 3 _ 8 Tryd.underlying56 refA.info3 rfl _ _ _ _ N rfl rfl (by omega) (by omega) (by omega) (by omega) ?_))
 intro w1 hR hg hsz
 have hB0:Below w.heap.size w w1:=(Below.refl _ _).grown hg (Nat.le_refl _) (by simp)
 have hR0:Row w1 w.heap.size 3 (nums .i64 ((List.range 0).map (fun i=>dig a i / 2+dig a (i+1) % 2*128)++List.replicate (N - 0) 0)):=by simpa [nums] using hR
 clear hR hg hN
 go_wp2
 go_loopw [10] (fun i wr=>∃ k:Nat,k≤N∧i= .int .i64 k∧Row wr w.heap.size 3 (nums .i64 ((List.range k).map (fun i=>dig a i / 2+dig a (i+1) % 2*128)++List.replicate (N - k) 0))∧Below w.heap.size w wr) (fun i _=>N - (intOf i).toNat)
 case atStart=>exact⟨0,Nat.zero_le _,rfl,hR0,hB0⟩
 case round=>
  obtain⟨k,hk,rfl,hRk,hBk⟩:=hrel
  clear hR0 hB0
  by_cases hlt:k< N
  ·have hcx:=hRk.int (i:=k) (by simp;omega)
   have hfx:=hRk.frozen k
   have hx:=Zag a k
   have hy:=Zag a (k+1)
   obtain⟨x,hxx⟩:∃ x,x=dig a k:=⟨_,rfl⟩
   obtain⟨y,hyy⟩:∃ y,y=dig a (k+1):=⟨_,rfl⟩
   rw [← hxx] at hx
   rw [← hyy] at hy
   have Hx:=Lib.hid hxx
   have Hy:=Lib.hid hyy
   clear hxx hyy
   go_wp2_with fail
   refine(ZA a k _ (by omega) (by omega)).mono ?_
   rintro e w' ⟨rfl,rfl⟩
   rw [← Hx.out]
   go_wp2_with fail
   rw [show ((k:Int)+1)=((k+1:Nat):Int) by omega]
   refine(ZA a (k+1) _ (by omega) (by omega)).mono ?_
   rintro e w' ⟨rfl,rfl⟩
   rw [← Hy.out]
   go_wp2_with fail
   rw [Zi7]
   go_roundw
   case rel=>
    have hS:=hRk.int_set k (x / 2+y % 2*128)
    rw [Zt (by simp) hlt,Hx.out,Hy.out,ZU (fun i=>dig a i / 2+dig a (i+1) % 2*128) _ rfl,← Hx.out,← Hy.out] at hS
    exact⟨k+1,by omega,by go_num,hS,hBk.setCell (Nat.le_refl _) _⟩
   case measure=>simp [intOf]<;>omega
  ·obtain rfl:k=N:=by omega
   have hP:=hRk.pre
   rw [Nat.sub_self,List.replicate_zero,List.append_nil] at hP
   rw [show (nums .i64 ((List.range k).map fun i=>dig a i / 2+dig a (i+1) % 2*128)).length=k by simp [nums]] at hP
   have hnum:=Zat w.heap.size k (halfN a k) wr hP (by
    intro d hd
    simp only [halfN,List.mem_map] at hd
    obtain⟨j,_,rfl⟩:=hd
    have:=Zag a j;have:=Zag a (j+1);omega) (by simp [halfN];omega)
   rw [show (halfN a k).length=k by simp [halfN],Zic Ha.out] at hnum
   go_wp2_with fail
   refine hnum.mono ?_
   rintro e w' ⟨rfl,hb'⟩
   clear hnum
   go_wp2_with fail
   go_ret
   exact⟨rfl,hBk.trans (hb'.mono hBk.size)⟩
end Go.Proofs.YtpfemjpgbpnpkaaDoor.refI
