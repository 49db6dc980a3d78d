/- Joined by wip/bundle.py: XRefC XRefD XConv XRefE XRefF XOwn XNatK XRefG XLawA XRefH XRefI. -/
import Derived.Test.YtpfemjpgbpnpkaaGreatDoorGrpJ
import Derived.Test.YtpfemjpgbpnpkaaGreatDoorGrpC
import Derived.StillTailTactics
import Derived.Test.YtpfemjpgbpnpkaaGreatDoorGrpB
import Derived.Lib.ConvBytes
import Derived.Shelf.Strings.SlTrimAscii
namespace Go.Proofs.YtpfemjpgbpnpkaaGreatDoor.refC
open Go.RowKit num mem natA natB natC natD refA refB
theorem Zw7 {a:ByteArray} {i:Nat} (h:a.size≤i):dig a i=0:=by
 unfold dig
 have h1:=Ze9 a
 have h2:256 ^ a.size≤256 ^ i:=Nat.pow_le_pow_right (by omega) h
 rw [Nat.div_eq_of_lt (by omega)]
def digN (a:ByteArray) (N:Nat):List Nat:=dg 256 (nv a) N
theorem Zfi {a:ByteArray} {N:Nat} (h:a.size≤N):lv 256 (digN a N)=nv a:=
 ZaL (Nat.lt_of_lt_of_le (Ze9 a) (Nat.pow_le_pow_right (by omega) h))
def addN (a b:ByteArray) (N:Nat):List Nat:=(List.range N).map fun i=>dig a i+dig b i
theorem Zme (B:Nat) (f g:Nat→Nat) (N:Nat):lv B ((List.range N).map fun i=>f i+g i)=lv B ((List.range N).map f)+lv B ((List.range N).map g):=by
 induction N with
 |zero=>rfl
 |succ N ih=>
  rw [List.range_succ,List.map_append,List.map_append,List.map_append]
  simp only [List.map_cons,List.map_nil,Zbu,List.length_map,List.length_range,ih,Nat.mul_add]
  omega
theorem ZuG {a b:ByteArray} {N:Nat} (ha:a.size≤N) (hb:b.size≤N):lv 256 (addN a b N)=nv a+nv b:=by
 unfold addN
 rw [Zme]
 have h1:=Zfi ha
 have h2:=Zfi hb
 unfold digN dg at h1 h2
 unfold dig
 rw [h1,h2]
theorem Za4 (f:Nat→Nat) {k:Nat} (l:List Nat) (hl:l=(List.range k).map f):l++ [f k]=(List.range (k+1)).map f:=by
 subst hl;rw [List.range_succ,List.map_append];rfl
theorem Zs5 (a b:ByteArray) (w:World) (ha:a.size≤35184372088832) (hb:b.size≤35184372088832):
  Calls Tryz.prog 132 #[.string a,.string b] w fun e w'=>e= .returned (.string (enc (nv a+nv b)))∧Below w.heap.size w w':=by
 obtain⟨N,hN⟩:∃ N:Nat,max (a.size:Int) (b.size:Int)=(N:Int):=⟨max a.size b.size,by omega⟩
 have hN1:N≤35184372088832:=by omega
 have Ha:=Lib.hid (show a.size≤N by omega)
 have Hb:=Lib.hid (show b.size≤N by omega)
 go_enter Tryz.func132,Tryz.ntmps132
 go_wp2_with (first|(at_make;refine Zx _ rfl _ _ _ rfl 3 _ 8 Tryz.underlying88 refA.info3 rfl _ _ _ _ N rfl rfl (by omega) (by omega) (by omega) (by omega) ?_))
 intro w1 hR hg hsz
 have hB0:Below w.heap.size w w1:=(Below.refl _ _).grown hg (Nat.le_refl _) (by simp)
 have hR0:Row w1 w.heap.size 3 (nums .i64 ((List.range 0).map (fun i=>dig a i+dig b i)++List.replicate (N - 0) 0)):=by simpa [nums] using hR
 clear hR hg hN
 go_wp2
 go_loopw [15] (fun i wr=>∃ k:Nat,k≤N∧i= .int .i64 k∧Row wr w.heap.size 3 (nums .i64 ((List.range k).map (fun i=>dig a i+dig b i)++List.replicate (N - k) 0))∧Below w.heap.size w wr) (fun i _=>N - (intOf i).toNat)
 case atStart=>exact⟨0,Nat.zero_le _,rfl,hR0,hB0⟩
 case round=>
  obtain⟨k,hk,rfl,hRk,hBk⟩:=hrel
  clear hR0 hB0
  by_cases hlt:k< N
  ·have hcx:=hRk.int (i:=k) (by simp;omega)
   have hfx:=hRk.frozen k
   have hx:=dig_lt a k
   have hy:=dig_lt b k
   obtain⟨x,hxx⟩:∃ x,x=dig a k:=⟨_,rfl⟩
   obtain⟨y,hyy⟩:∃ y,y=dig b k:=⟨_,rfl⟩
   rw [← hxx] at hx
   rw [← hyy] at hy
   have Hx:=Lib.hid hxx
   have Hy:=Lib.hid hyy
   clear hxx hyy
   go_wp2_with fail
   refine(Z6 a k _ (by omega) (by omega)).mono ?_
   rintro e w' ⟨rfl,rfl⟩
   rw [← Hx.out]
   go_wp2_with fail
   refine(Z6 b k _ (by omega) (by omega)).mono ?_
   rintro e w' ⟨rfl,rfl⟩
   rw [← Hy.out]
   go_wp2_with fail
   go_roundw
   case rel=>
    have hS:=hRk.int_set k (x+y)
    rw [ZH (by simp) hlt,Hx.out,Hy.out,Za4 (fun i=>dig a i+dig b i) _ rfl,← Hx.out,← Hy.out] at hS
    exact⟨k+1,by omega,by go_num,hS,hBk.setCell (Nat.le_refl _) _⟩
   case measure=>simp [intOf]<;>omega
  ·obtain rfl:k=N:=by omega
   have hP:=hRk.pre
   rw [Nat.sub_self,List.replicate_zero,List.append_nil] at hP
   rw [show (nums .i64 ((List.range k).map fun i=>dig a i+dig b i)).length=k by simp [nums]] at hP
   have hnum:=ZdY w.heap.size k (addN a b k) wr hP (by
    intro d hd
    simp only [addN,List.mem_map] at hd
    obtain⟨j,_,rfl⟩:=hd
    have:=dig_lt a j;have:=dig_lt b j;omega) (by simp [addN];omega)
   rw [show (addN a b k).length=k by simp [addN],ZuG Ha.out Hb.out] at hnum
   go_wp2_with fail
   refine hnum.mono ?_
   rintro e w' ⟨rfl,hb'⟩
   clear hnum
   go_wp2_with fail
   go_ret
   exact⟨rfl,hBk.trans (hb'.mono hBk.size)⟩
end Go.Proofs.YtpfemjpgbpnpkaaGreatDoor.refC
namespace Go.Proofs.YtpfemjpgbpnpkaaGreatDoor.refD
open Go.RowKit num mem natA natB natC natD refA refB refC
theorem ZfB {a:ByteArray} {N k:Nat} (h:k< N):(digN a N).getD k 0=dig a k:=ZfD h
theorem Zmi {x y c:Nat} (hx:x≤255) (hy:y≤255) (hc:c≤1):
  ∃ n C:Nat,n< 256∧C≤1∧n+y+c=x+C*256∧(C=0→(x:Int) - (y:Int) - (c:Int)=(n:Int))∧(C=1→(x:Int) - (y:Int) - (c:Int)+256=(n:Int))∧(C=0↔y+c≤x):=by
 by_cases h:y+c≤x
 ·exact⟨x - y - c,0,by omega,by omega,by omega,by omega,by omega,by omega⟩
 ·exact⟨x+256 - y - c,1,by omega,by omega,by omega,by omega,by omega,by omega⟩
theorem Zs9 (a b:ByteArray) (w:World) (ha:a.size≤35184372088832) (hb:b.size≤35184372088832) (hle:nv b≤nv a):
  Calls Tryz.prog 135 #[.string a,.string b] w fun e w'=>e= .returned (.string (enc (nv a - nv b)))∧Below w.heap.size w w':=by
 have Hle:=Lib.hid hle
 clear hle
 go_enter Tryz.func135,Tryz.ntmps135
 go_wp2_with (first|(at_make;refine Zx _ rfl _ _ _ rfl 3 _ 8 Tryz.underlying88 refA.info3 rfl _ _ _ _ a.size rfl rfl (by omega) (by omega) (by omega) (by omega) ?_))
 intro w1 hR hg hsz
 have hB0:Below w.heap.size w w1:=(Below.refl _ _).grown hg (Nat.le_refl _) (by simp)
 have hR0:Row w1 w.heap.size 3 (nums .i64 ([]++List.replicate (a.size - 0) 0)):=by simpa [nums] using hR
 clear hR hg
 go_wp2
 go_loopw [6,13] (fun br i wr=>∃ (k c:Nat) (Z:List Nat),k≤a.size∧i= .int .i64 k∧br= .int .i64 c∧c≤1∧Hid (Z.length=k)∧Hid (∀ d∈Z,d< 256)∧
   Hid (lv 256 Z+lv 256 ((digN b a.size).take k)=lv 256 ((digN a a.size).take k)+c*256 ^ k)∧Row wr w.heap.size 3 (nums .i64 (Z++List.replicate (a.size - k) 0))∧Below w.heap.size w wr) (fun _ i _=>a.size - (intOf i).toNat)
 case atStart=>exact⟨0,0, [],Nat.zero_le _,rfl,rfl,by omega,rfl,(by intro d hd;cases hd),by simp [Hid,lv],hR0,hB0⟩
 case round=>
  obtain⟨k,c,Z,hk,rfl,rfl,hc1,hZl,hZ,hlv,hRk,hBk⟩:=hrel
  clear hR0 hB0
  by_cases hlt:k< a.size
  ·have hcx:=hRk.int (i:=k) (by have:=hZl.out;simp;omega)
   have hfx:=hRk.frozen k
   have hx:=dig_lt a k
   have hy:=dig_lt b k
   obtain⟨x,hxx⟩:∃ x,x=dig a k:=⟨_,rfl⟩
   obtain⟨y,hyy⟩:∃ y,y=dig b k:=⟨_,rfl⟩
   rw [← hxx] at hx
   rw [← hyy] at hy
   obtain⟨n,C,hn,hC,hsum,e0,e1,hiff⟩:=Zmi hx hy hc1
   have Hx:=Lib.hid hxx
   have Hy:=Lib.hid hyy
   have HS:=Lib.hid hsum
   have E0:=Lib.hid e0
   have E1:=Lib.hid e1
   have HI:=Lib.hid hiff
   have hstep:=Lib.hid (Za1 (B:=256) (X:=digN a a.size) (Y:=digN b a.size) (n:=n) (C:=C) hZl.out hlv.out (by rw [ZfB hlt,ZfB hlt,← hxx,← hyy];exact hsum))
   clear hxx hyy hsum e0 e1 hiff
   by_cases hneg:y+c≤x
   ·have hnn:¬ ((x:Int) - (y:Int) - (c:Int)< 0):=by omega
    have HC:=Lib.hid (HI.out.2 hneg)
    go_wp2_with fail
    refine(Z6 a k _ (by omega) (by omega)).mono ?_
    rintro e w' ⟨rfl,rfl⟩
    rw [← Hx.out]
    go_wp2_with fail
    refine(Z6 b k _ (by omega) (by omega)).mono ?_
    rintro e w' ⟨rfl,rfl⟩
    rw [← Hy.out]
    go_wp2_with fail
    go_roundw
    case rel=>
     have hS:=hRk.int_set k n
     rw [ZH hZl.out hlt,← E0.out HC.out] at hS
     exact⟨k+1,C,Z++ [n],by omega,by go_num,by rw [HC.out];rfl,hC,by have:=hZl.out;simp [Hid,this],ZG hZ.out hn,hstep.out,hS,hBk.setCell (Nat.le_refl _) _⟩
    case measure=>simp [intOf]<;>omega
   ·have hnn:((x:Int) - (y:Int) - (c:Int)< 0):=by omega
    have HC:=Lib.hid (show C=1 by have:=HI.out;omega)
    go_wp2_with fail
    refine(Z6 a k _ (by omega) (by omega)).mono ?_
    rintro e w' ⟨rfl,rfl⟩
    rw [← Hx.out]
    go_wp2_with fail
    refine(Z6 b k _ (by omega) (by omega)).mono ?_
    rintro e w' ⟨rfl,rfl⟩
    rw [← Hy.out]
    go_wp2_with fail
    go_roundw
    case rel=>
     have hS:=(hRk.set k (.int .i64 ((x:Int) - (y:Int) - (c:Int)))).set k (.int .i64 ((n:Nat):Int))
     rw [List.set_set,Zdq,ZH hZl.out hlt,← E1.out HC.out] at hS
     exact⟨k+1,C,Z++ [n],by omega,by go_num,by rw [HC.out];rfl,hC,by have:=hZl.out;simp [Hid,this],ZG hZ.out hn,hstep.out,hS,(hBk.setCell (Nat.le_refl _) _).setCell (Nat.le_refl _) _⟩
    case measure=>simp [intOf]<;>omega
  ·have HK:=Lib.hid (show k=a.size by omega)
   have hP:=hRk.pre
   rw [show a.size - k=0 by omega,List.replicate_zero,List.append_nil] at hP
   rw [show (nums .i64 Z).length=a.size by rw [Zl,hZl.out,HK.out]] at hP
   have hnum:=ZdY w.heap.size a.size Z wr hP (fun d hd=>by have:=hZ.out d hd;omega) (by rw [hZl.out,HK.out];omega)
   have hval:lv 256 Z=nv a - nv b:=by
    have h1:=hlv.out
    have h2:=Zdt hZ.out
    have h3:=Hle.out
    rw [HK.out,Zf _ _ (by simp [digN,Z7]),Zf _ _ (by simp [digN,Z7]),Zfi (Nat.le_refl _)] at h1
    have h4:lv 256 (digN b a.size)=nv b:=ZaL (Nat.lt_of_le_of_lt h3 (Ze9 a))
    rw [h4] at h1
    rw [hZl.out,HK.out] at h2
    have hc0:c=0:=by
     rcases Nat.lt_or_ge c 1 with h|h
     ·omega
     ·have:1*256 ^ a.size≤c*256 ^ a.size:=Nat.mul_le_mul_right _ h
      omega
    rw [hc0] at h1
    omega
   rw [hZl.out,HK.out,hval] at hnum
   go_wp2_with fail
   refine hnum.mono ?_
   rintro e w' ⟨rfl,hb'⟩
   clear hnum
   go_wp2_with fail
   go_ret
   exact⟨rfl,hBk.trans (hb'.mono hBk.size)⟩
end Go.Proofs.YtpfemjpgbpnpkaaGreatDoor.refD
namespace Go.Proofs.YtpfemjpgbpnpkaaGreatDoor.num
theorem Zeb {Z:List Nat} {k m:Nat} (hZ:Z.length=k):(Z++List.replicate m 0).getD k 0=0:=by
 simp only [List.getD,List.getElem?_append_right (show Z.length≤k by omega),List.getElem?_replicate]
 split<;>rfl
theorem ZeZ {l:List Nat} {j d:Nat} (h:j< l.length):(l.set j d).getD j 0=d:=by
 simp [List.getD,h]
theorem Zrb {l:List Nat} {j:Nat} (h:j< l.length) (h0:l.getD j 0=0):l.set j 0=l:=by
 apply ZB (by simp)
 intro i _
 by_cases e:j=i
 ·subst e;rw [ZeZ h,h0]
 ·rw [ZL e]
def sumTo (f:Nat→Nat):Nat→Nat
 |0=>0
 |n+1=>sumTo f n+f n
theorem ZeR (f:Nat→Nat):∀ n,sumTo f (n+1)=f 0+sumTo (fun k=>f (k+1)) n
 |0=>by simp [sumTo]
 |n+1=>by
  rw [sumTo,ZeR f n,sumTo]
  omega
theorem ZbG {f g:Nat→Nat}:∀ n,(∀ k,k< n→f k=g k)→sumTo f n=sumTo g n
 |0,_=>rfl
 |n+1,h=>by
  rw [sumTo,sumTo,ZbG n (fun k hk=>h k (by omega)),h n (by omega)]
theorem ZgH {f:Nat→Nat} {M:Nat}:∀ n,(∀ k,k< n→f k≤M)→sumTo f n≤n*M
 |0,_=>by simp [sumTo]
 |n+1,h=>by
  rw [sumTo,Nat.succ_mul]
  have:=ZgH n (fun k hk=>h k (by omega))
  have:=h n (by omega)
  omega
theorem Zf1:∀ n,sumTo (fun _=>0) n=0
 |0=>rfl
 |n+1=>by rw [sumTo,Zf1 n]
def conv (f g:Nat→Nat) (i:Nat):Nat:=sumTo (fun k=>f k*g (i - k)) (i+1)
theorem Z2 (B:Nat) (f:Nat→Nat) (N:Nat):lv B ((List.range (N+1)).map f)=f 0+B*lv B ((List.range N).map fun k=>f (k+1)):=by
 rw [List.range_succ_eq_map,List.map_cons,List.map_map,Z3]
 rfl
theorem Zih (B:Nat) (f g:Nat→Nat) (N:Nat):lv B ((List.range N).map fun i=>f i+g i)=lv B ((List.range N).map f)+lv B ((List.range N).map g):=by
 induction N generalizing f g with
 |zero=>rfl
 |succ N ih=>rw [Z2,Z2,Z2,ih,Nat.mul_add];omega
theorem Zig (B x:Nat) (g:Nat→Nat) (N:Nat):lv B ((List.range N).map fun i=>x*g i)=x*lv B ((List.range N).map g):=by
 induction N generalizing g with
 |zero=>rfl
 |succ N ih=>rw [Z2,Z2,ih (fun k=>g (k+1)),Nat.mul_add];simp only [Nat.mul_left_comm]
theorem Zha (B N:Nat):lv B ((List.range N).map fun _=>0)=0:=by
 induction N with
 |zero=>rfl
 |succ N ih=>rw [Z2,ih];simp
theorem ZoT (B:Nat) (g:Nat→Nat) (lb vb:Nat) (hg:∀ N,lb≤N→lv B ((List.range N).map g)=vb):
  ∀ (A:List Nat) (N:Nat),A.length+lb≤N→lv B ((List.range N).map fun i=>conv (fun k=>A.getD k 0) g i)=lv B A*vb
 | [],N,_=>by
  have e:∀ i,conv (fun k=>([]:List Nat).getD k 0) g i=0:=by
   intro i
   unfold conv
   rw [ZbG (g:=fun _=>0) _ (fun k _=>by show 0*_=0;rw [Nat.zero_mul]),Zf1]
  rw [show (fun i=>conv (fun k=>([]:List Nat).getD k 0) g i)=fun _=>0 from funext e,Zha]
  simp [lv]
 |x :: A,N,h=>by
  obtain⟨M,rfl⟩:∃ M,N=M+1:=⟨N - 1,by simp at h;omega⟩
  have ih:=ZoT B g lb vb hg A M (by simp at h;omega)
  have e:∀ i,conv (fun k=>(x :: A).getD k 0) g i=x*g i+(match i with|0=>0|i+1=>conv (fun k=>A.getD k 0) g i):=by
   intro i
   unfold conv
   rw [ZeR]
   cases i with
   |zero=>rfl
   |succ i=>
    show x*g (i+1)+_=_
    congr 1
    apply ZbG
    intro k _
    show A.getD k 0*g (i+1 - (k+1))=A.getD k 0*g (i - k)
    rw [Nat.add_sub_add_right]
  rw [show (fun i=>conv (fun k=>(x :: A).getD k 0) g i)=fun i=>x*g i+(match i with|0=>0|i+1=>conv (fun k=>A.getD k 0) g i) from funext e,
   Zih B (fun i=>x*g i),Zig,hg _ (by simp at h;omega),Z2 B (fun i=>match i with|0=>0|i+1=>conv (fun k=>A.getD k 0) g i),Z3]
  show x*vb+(0+B*lv B ((List.range M).map fun k=>conv (fun k=>A.getD k 0) g k))=_
  rw [ih,Nat.zero_add,Nat.add_mul,Nat.mul_assoc]
end Go.Proofs.YtpfemjpgbpnpkaaGreatDoor.num
namespace Go.Proofs.YtpfemjpgbpnpkaaGreatDoor.refE
open Go.RowKit num mem natA natB natC natD refA refB refC refD
theorem Zvj (a:ByteArray) (N:Nat) (h:a.size≤N):lv 256 ((List.range N).map fun i=>dig a i)=nv a:=Zfi h
theorem Zr0 {a b:ByteArray} {N:Nat} (h:a.size+b.size≤N):lv 256 ((List.range N).map fun i=>conv (dig a) (dig b) i)=nv a*nv b:=by
 have e:=ZoT 256 (dig b) b.size (nv b) (fun N hN=>Zvj b N hN) (digN a a.size) N (by simpa [digN,Z7] using h)
 rw [Zfi (Nat.le_refl _)] at e
 rw [← e]
 congr 1
 apply List.map_congr_left
 intro i _
 unfold conv
 apply ZbG
 intro k _
 congr 1
 by_cases hk:k< a.size
 ·exact(ZfB hk).symm
 ·rw [Zw7 (by omega)]
  simp [digN,dg,List.getD,hk]
theorem Zd4 (a b:ByteArray) (i j:Nat):dig a i*dig b j≤65025:=
 Nat.mul_le_mul (dig_lt a i) (dig_lt b j)
theorem ZfA (a:ByteArray) (i:Nat) (w:World) (ha:a.size≤140737488355328) (hi:i≤1152921504606846976):
  Calls Tryz.prog 137 #[.string a,.int .i64 i] w fun e w'=>e= .returned (.int .i64 (dig a i))∧w'=w:=
 (Z6 a i w ha hi).mono fun _ _ h=>⟨h.1,h.2.symm⟩
set_option maxHeartbeats 1000000 in
set_option maxRecDepth 100000 in
theorem Zqs (a b:ByteArray) (w:World) (hs:a.size+b.size≤35184372088832):
  Calls Tryz.prog 37 #[.string a,.string b] w fun e w'=>e= .returned (.string (enc (nv a*nv b)))∧Below w.heap.size w w':=by
 obtain⟨N,hN⟩:∃ N:Nat,(a.size:Int)+(b.size:Int)=(N:Int):=⟨a.size+b.size,by omega⟩
 have hN1:N≤35184372088832:=by omega
 have Hs:=Lib.hid (show a.size+b.size≤N by omega)
 go_enter Tryz.func37,Tryz.ntmps37
 go_wp2_with (first|(at_make;refine Zx _ rfl _ _ _ rfl 3 _ 8 Tryz.underlying88 refA.info3 rfl _ _ _ _ N rfl rfl (by omega) (by omega) (by omega) (by omega) ?_))
 intro w1 hR hg hsz
 have hB0:Below w.heap.size w w1:=(Below.refl _ _).grown hg (Nat.le_refl _) (by simp)
 have hR0:Row w1 w.heap.size 3 (nums .i64 ((List.range 0).map (fun i=>conv (dig a) (dig b) i)++List.replicate (N - 0) 0)):=by simpa [nums] using hR
 clear hR hg hN
 go_wp2
 go_loopw [16] (fun s wr=>∃ i:Nat,i≤N∧s= .int .i64 i∧Row wr w.heap.size 3 (nums .i64 ((List.range i).map (fun i=>conv (dig a) (dig b) i)++List.replicate (N - i) 0))∧Below w.heap.size w wr) (fun s _=>N - (intOf s).toNat)
 case atStart=>exact⟨0,Nat.zero_le _,rfl,hR0,hB0⟩
 case round=>
  obtain⟨wo,rfl⟩:∃ wo:World,wo=wr:=⟨_,rfl⟩
  obtain⟨i,hi,rfl,hRo,hBo⟩:=hrel
  clear hR0 hB0
  by_cases hlt:i< N
  ·obtain⟨L,hL⟩:∃ L,L=(List.range i).map (fun i=>conv (dig a) (dig b) i)++List.replicate (N - i) 0:=⟨_,rfl⟩
   have hLi:L.getD i 0=0:=by rw [hL];exact Zeb (by simp)
   have hLl:L.length=N:=by rw [hL];simp;omega
   have hLs:L.set i (conv (dig a) (dig b) i)=(List.range (i+1)).map (fun i=>conv (dig a) (dig b) i)++List.replicate (N - (i+1)) 0:=by
    rw [hL,ZH (by simp) hlt,Za4 (fun i=>conv (dig a) (dig b) i) _ rfl]
   have hL0:L.set i 0=L:=Zrb (by omega) hLi
   rw [← hL] at hRo
   have HL:=Lib.hid hLl
   have HS:=Lib.hid hLs
   have H0:=Lib.hid hL0
   clear hL hLi hLl hLs hL0
   go_wp2
   go_loopw [7] (fun s wr=>∃ k:Nat,k≤i+1∧s= .int .i64 k∧Row wr w.heap.size 3 (nums .i64 (L.set i (sumTo (fun k=>dig a k*dig b (i - k)) k)))∧Below w.heap.size w wr) (fun s _=>i+1 - (intOf s).toNat)
   case atStart=>exact⟨0,Nat.zero_le _,rfl,by rw [show sumTo (fun k=>dig a k*dig b (i - k)) 0=0 from rfl,H0.out];exact hRo,hBo⟩
   case round=>
    obtain⟨k,hk,rfl,hRk,hBk⟩:=hrel
    clear hRo
    by_cases hlk:k≤i
    ·obtain⟨S,hS⟩:∃ S,S=sumTo (fun k=>dig a k*dig b (i - k)) k:=⟨_,rfl⟩
     have hSl:S≤2305843009213693952:=by
      rw [hS]
      have:=ZgH (f:=fun k=>dig a k*dig b (i - k)) (M:=65025) k (fun j _=>Zd4 a b j (i - j))
      omega
     rw [← hS] at hRk
     have hcx:=hRk.int (i:=i) (by have:=HL.out;simp;omega)
     rw [ZeZ (by have:=HL.out;omega)] at hcx
     have hfx:=hRk.frozen i
     obtain⟨m,hm⟩:∃ m:Nat,(i:Int) - (k:Int)=(m:Int):=⟨i - k,by omega⟩
     have hm2:m≤i:=by omega
     obtain⟨x,hx⟩:∃ x,x=dig a k:=⟨_,rfl⟩
     obtain⟨y,hy⟩:∃ y,y=dig b m:=⟨_,rfl⟩
     obtain⟨z,hz⟩:∃ z,z=x*y:=⟨_,rfl⟩
     have hzl:z≤65025:=by rw [hz,hx,hy];exact Zd4 a b k m
     obtain⟨T,hT⟩:∃ T,T=S+z:=⟨_,rfl⟩
     have hd1:=fun wx=>ZfA a k wx (by omega) (by omega)
     have hd2:=fun wx=>ZfA b m wx (by omega) (by omega)
     simp only [← hx] at hd1
     simp only [← hy] at hd2
     have Hd1:=Lib.hid hd1
     have Hd2:=Lib.hid hd2
     have Hm:=Lib.hid (show i - k=m by omega)
     have HSS:=Lib.hid (show T=sumTo (fun k=>dig a k*dig b (i - k)) (k+1) by
      rw [sumTo,← hS,hT,hz,hx,hy]
      show _=_+dig a k*dig b (i - k)
      rw [show i - k=m by omega])
     have q1:IntKind.i64.wrap (m:Int)=(m:Int):=IntWalk.i64_in _ (by omega)
     have q2:IntKind.i64.wrap ((x:Int)*(y:Int))=(z:Int):=by rw [← Int.natCast_mul,← hz];exact IntWalk.i64_in _ (by omega)
     have q3:IntKind.i64.wrap ((S:Int)+(z:Int))=(T:Int):=by rw [IntWalk.i64_in _ (by omega),hT];rfl
     clear hd1 hd2 hS hx hy hz hT
     go_wp2_with fail
     go_still_tail 14,(by kernel_rfl)
     still_call (Hd1.out _)
     repeat still_step
     still_call (Hd2.out _)
     repeat still_step
     refine wpStill_nil ?_
     change wpList _ _ _ _ _ wr.drew
     clear q1 q2 q3
     go_wp2
     go_roundw
     case rel=>
      have hS2:=hRk.int_set i T
      rw [List.set_set] at hS2
      exact⟨k+1,by omega,by go_num,by rw [← HSS.out];exact hS2.drew,(hBk.setCell (Nat.le_refl _) _).drew⟩
     case measure=>simp [intOf]<;>omega
    ·have hk1:k=i+1:=by omega
     rw [hk1] at hRk
     have hRk':Row wr w.heap.size 3 (nums .i64 (L.set i (conv (dig a) (dig b) i))):=hRk
     rw [HS.out] at hRk'
     clear hRk hk1
     go_wp2
     go_roundw
     case rel=>exact⟨i+1,by omega,by go_num,hRk',hBk⟩
     case measure=>simp [intOf]<;>omega
  ·obtain rfl:i=N:=by omega
   have hP:=hRo.pre
   rw [Nat.sub_self,List.replicate_zero,List.append_nil] at hP
   rw [show (nums .i64 ((List.range i).map fun i=>conv (dig a) (dig b) i)).length=i by simp [nums]] at hP
   have hnum:=ZdY w.heap.size i _ wo hP (by
    intro d hd
    simp only [List.mem_map,List.mem_range] at hd
    obtain⟨j,hj,rfl⟩:=hd
    have:=ZgH (f:=fun k=>dig a k*dig b (j - k)) (M:=65025) (j+1) (fun k _=>Zd4 a b k (j - k))
    unfold conv
    omega) (by simp;omega)
   rw [show ((List.range i).map fun i=>conv (dig a) (dig b) i).length=i by simp,Zr0 Hs.out] at hnum
   go_wp2_with fail
   refine hnum.mono ?_
   rintro e w' ⟨rfl,hb'⟩
   clear hnum
   go_wp2_with fail
   go_ret
   exact⟨rfl,hBo.trans (hb'.mono hBo.size)⟩
end Go.Proofs.YtpfemjpgbpnpkaaGreatDoor.refE
namespace Go.Proofs.YtpfemjpgbpnpkaaGreatDoor.refF
open Go.RowKit num mem natA natB natC natD refA refB refC refD refE
theorem Zxp (n i:Nat):n / 256 ^ (i / 8) % 256 / 2 ^ (i % 8) % 2=n / 2 ^ i % 2:=by
 have e:2 ^ i=256 ^ (i / 8)*2 ^ (i % 8):=by
  rw [show (256:Nat)=2 ^ 8 from rfl,← Nat.pow_mul,← Nat.pow_add]
  congr 1
  omega
 rw [e,← Nat.div_div_eq_div_mul]
 generalize n / 256 ^ (i / 8)=x
 rcases (show i % 8=0∨i % 8=1∨i % 8=2∨i % 8=3∨i % 8=4∨i % 8=5∨i % 8=6∨i % 8=7 by omega) with h|h|h|h|h|h|h|h<;>rw [h]<;>omega
theorem ZjQ (x r:Nat) (hx:x≤255):bits .and .i64 ((x:Int) / 2 ^ r) 1=((x / 2 ^ r % 2:Nat):Int):=by
 have h:x / 2 ^ r≤255:=Nat.le_trans (Nat.div_le_self _ _) hx
 have e:((x:Int) / 2 ^ r)=((x / 2 ^ r:Nat):Int):=by simp
 rw [e]
 generalize x / 2 ^ r=y at h
 have k:∀ y:Fin 256,bits .and .i64 (y.val:Int) 1=((y.val % 2:Nat):Int):=by decide+kernel
 exact k ⟨y,by omega⟩
theorem Zvy (a:ByteArray) (i:Nat) (w:World) (ha:a.size≤140737488355328) (hi:i≤1152921504606846976):
  Calls Tryz.prog 133 #[.string a,.int .i64 i] w fun e w'=>e= .returned (.int .i64 ((nv a / 2 ^ i % 2:Nat):Int))∧w=w':=by
 have hx:=dig_lt a (i / 8)
 obtain⟨x,hxx⟩:∃ x,x=dig a (i / 8):=⟨_,rfl⟩
 have HV:=Lib.hid (show (((x / 2 ^ (i % 8) % 2:Nat)):Int)=((nv a / 2 ^ i % 2:Nat):Int) by rw [hxx];unfold dig;rw [Zxp])
 rw [← hxx] at hx
 obtain⟨p,hp⟩:∃ p:Nat,(i:Int) / 8=(p:Int):=⟨i / 8,by omega⟩
 obtain⟨r,hr⟩:∃ r:Nat,(i:Int) % 8=(r:Int):=⟨i % 8,by omega⟩
 have Hx:=Lib.hid (show dig a p=x by rw [hxx];congr 1;omega)
 have hr2:r< 8:=by omega
 have Hr:=Lib.hid (show i % 8=r by omega)
 have hp2:p≤i:=by omega
 clear hxx
 go_enter Tryz.func133,Tryz.ntmps133
 go_wp2_with fail
 refine(Z6 a p _ ha (by omega)).mono ?_
 rintro e w' ⟨rfl,rfl⟩
 rw [Hx.out]
 go_wp2_with fail
 go_ret
 exact⟨Z9 (by rw [ZjQ x r hx,← Hr.out];exact HV.out),rfl⟩
theorem nv_one:nv ⟨#[1]⟩=1:=by decide
end Go.Proofs.YtpfemjpgbpnpkaaGreatDoor.refF
namespace Go.Proofs.YtpfemjpgbpnpkaaGreatDoor.mem
open Go.RowKit
end Go.Proofs.YtpfemjpgbpnpkaaGreatDoor.mem
namespace Go.Proofs.YtpfemjpgbpnpkaaGreatDoor.natK
open Go.RowKit num mem natA natB natC natD natE natI dec refA refB natJ
def chr (s:ByteArray) (j:Nat):Nat:=(s.data.toList.getD j 0).toNat
def readable (s:ByteArray):Prop:=s.size≠0∧¬ (1< s.size∧chr s 0=48)∧∀ j,j< s.size→48≤chr s j∧chr s j≤57
instance (s:ByteArray):Decidable (readable s):=by unfold readable;infer_instance
end Go.Proofs.YtpfemjpgbpnpkaaGreatDoor.natK
namespace Go.Proofs.YtpfemjpgbpnpkaaGreatDoor.refG
open Go.RowKit num mem natA natB natC natD dec refA refB natJ natK
def bv (l:List Nat):Nat:=l.foldl (fun v d=>v*256+d) 0
def Cells (w:World) (b:Nat) (L:List Nat):Prop:=∀ i,i< L.length→w.cell? ⟨b,i,none⟩=some (.int .u8 ((L.getD i 0:Nat):Int))
theorem Cells.below {w w':World} {b B:Nat} {L:List Nat} (h:Cells w b L) (hb:Below B w w') (hB:b< B):Cells w' b L:=by
 intro i hi
 have:=h i hi
 unfold World.cell? at this ⊢
 rw [hb.block b hB]
 exact this
theorem Pre.cells {w:World} {b T cap:Nat} {L:List Nat} (h:Pre w b T cap (nums .u8 L)):Cells w b L:=fun _ hi=>h.int hi
end Go.Proofs.YtpfemjpgbpnpkaaGreatDoor.refG
namespace Go.Proofs.YtpfemjpgbpnpkaaGreatDoor.lawA
open Go.RowKit num mem natA natB natC natD refA refB refC refD
theorem Zvi (s:ByteArray) (c:UInt8) (r:List UInt8) (hs:s.data.toList=c :: r) (hc:c≠0) (n:Nat) (hn:nv s=n):enc n=s:=by
 rw [← hn]
 apply Zaz
 intro c' r' h
 rw [hs] at h
 injection h with h1 _
 rw [← h1];exact hc
end Go.Proofs.YtpfemjpgbpnpkaaGreatDoor.lawA
namespace Go.Proofs.YtpfemjpgbpnpkaaGreatDoor.refH
open Go.RowKit num mem natA natB natC natD dec refA refB refC refD refE natJ natK lawA
theorem enc_one:enc 1=⟨#[1]⟩:=Zvi _ 1 [] rfl (by decide) _ (by decide)
end Go.Proofs.YtpfemjpgbpnpkaaGreatDoor.refH
namespace Go.Proofs.YtpfemjpgbpnpkaaGreatDoor.refI
open Go.RowKit num mem natA natB natC natD refA refB refC refD refE refF
end Go.Proofs.YtpfemjpgbpnpkaaGreatDoor.refI
