/- Joined by wip/bundle.py: XRefC XRefD XConv XRefE XRefF XOwn XNatK XRefG XLawA XRefH XRefI. -/
import Derived.Test.YtbgokkfhohodgaaGreatDoorGrpJ
import Derived.Test.YtbgokkfhohodgaaGreatDoorGrpC
import Derived.StillTailTactics
import Derived.Test.YtbgokkfhohodgaaGreatDoorGrpB
import Derived.Lib.ConvBytes
import Derived.Shelf.Strings.SlTrimAscii
namespace Go.Proofs.YtbgokkfhohodgaaGreatDoor.refC
open Go.RowKit num mem natA natB natC natD refA refB
def digN (a:ByteArray) (N:Nat):List Nat:=dg 256 (nv a) N
theorem Zfm {a:ByteArray} {N:Nat} (h:a.size≤N):lv 256 (digN a N)=nv a:=
 ZX (Nat.lt_of_lt_of_le (Zcz a) (Nat.pow_le_pow_right (by omega) h))
def addN (a b:ByteArray) (N:Nat):List Nat:=(List.range N).map fun i=>dig a i+dig b i
theorem Zg0 (B:Nat) (f g:Nat→Nat) (N:Nat):lv B ((List.range N).map fun i=>f i+g i)=lv B ((List.range N).map f)+lv B ((List.range N).map g):=by
 induction N with
 |zero=>rfl
 |succ N ih=>
  rw [List.range_succ,List.map_append,List.map_append,List.map_append]
  simp only [List.map_cons,List.map_nil,Za0,List.length_map,List.length_range,ih,Nat.mul_add]
  omega
theorem ZkA {a b:ByteArray} {N:Nat} (ha:a.size≤N) (hb:b.size≤N):lv 256 (addN a b N)=nv a+nv b:=by
 unfold addN
 rw [Zg0]
 have h1:=Zfm ha
 have h2:=Zfm hb
 unfold digN dg at h1 h2
 unfold dig
 rw [h1,h2]
theorem Zae (f:Nat→Nat) {k:Nat} (l:List Nat) (hl:l=(List.range k).map f):l++ [f k]=(List.range (k+1)).map f:=by
 subst hl;rw [List.range_succ,List.map_append];rfl
theorem Zav (a b:ByteArray) (w:World) (ha:a.size≤35184372088832) (hb:b.size≤35184372088832):
  Calls Tryz.prog 81 #[.string a,.string b] w fun e w'=>e= .returned (.string (enc (nv a+nv b)))∧Below w.heap.size w w':=by
 obtain⟨N,hN⟩:∃ N:Nat,max (a.size:Int) (b.size:Int)=(N:Int):=⟨max a.size b.size,by omega⟩
 have hN1:N≤35184372088832:=by omega
 have Ha:=Lib.hid (show a.size≤N by omega)
 have Hb:=Lib.hid (show b.size≤N by omega)
 go_enter Tryz.func81,Tryz.ntmps81
 go_wp2_with (first|(at_make;refine Zm _ rfl _ _ _ rfl 3 _ 8 Tryz.underlying90 refA.info3 rfl _ _ _ _ N rfl rfl (by omega) (by omega) (by omega) (by omega) ?_))
 intro w1 hR hg hsz
 have hB0:Below w.heap.size w w1:=(Below.refl _ _).grown hg (Nat.le_refl _) (by simp)
 have hR0:Row w1 w.heap.size 3 (nums .i64 ((List.range 0).map (fun i=>dig a i+dig b i)++List.replicate (N - 0) 0)):=by simpa [nums] using hR
 clear hR hg hN
 go_wp2
 go_loopw [15] (fun i wr=>∃ k:Nat,k≤N∧i= .int .i64 k∧Row wr w.heap.size 3 (nums .i64 ((List.range k).map (fun i=>dig a i+dig b i)++List.replicate (N - k) 0))∧Below w.heap.size w wr) (fun i _=>N - (intOf i).toNat)
 case atStart=>exact⟨0,Nat.zero_le _,rfl,hR0,hB0⟩
 case round=>
  obtain⟨k,hk,rfl,hRk,hBk⟩:=hrel
  clear hR0 hB0
  by_cases hlt:k< N
  ·have hcx:=hRk.int (i:=k) (by simp;omega)
   have hfx:=hRk.frozen k
   have hx:=ZaA a k
   have hy:=ZaA b k
   obtain⟨x,hxx⟩:∃ x,x=dig a k:=⟨_,rfl⟩
   obtain⟨y,hyy⟩:∃ y,y=dig b k:=⟨_,rfl⟩
   rw [← hxx] at hx
   rw [← hyy] at hy
   have Hx:=Lib.hid hxx
   have Hy:=Lib.hid hyy
   clear hxx hyy
   go_wp2_with fail
   refine(ZD a k _ (by omega) (by omega)).mono ?_
   rintro e w' ⟨rfl,rfl⟩
   rw [← Hx.out]
   go_wp2_with fail
   refine(ZD b k _ (by omega) (by omega)).mono ?_
   rintro e w' ⟨rfl,rfl⟩
   rw [← Hy.out]
   go_wp2_with fail
   go_roundw
   case rel=>
    have hS:=hRk.int_set k (x+y)
    rw [Zv (by simp) hlt,Hx.out,Hy.out,Zae (fun i=>dig a i+dig b i) _ rfl,← Hx.out,← Hy.out] at hS
    exact⟨k+1,by omega,by go_num,hS,hBk.setCell (Nat.le_refl _) _⟩
   case measure=>simp [intOf]<;>omega
  ·obtain rfl:k=N:=by omega
   have hP:=hRk.pre
   rw [Nat.sub_self,List.replicate_zero,List.append_nil] at hP
   rw [show (nums .i64 ((List.range k).map fun i=>dig a i+dig b i)).length=k by simp [nums]] at hP
   have hnum:=ZbR w.heap.size k (addN a b k) wr hP (by
    intro d hd
    simp only [addN,List.mem_map] at hd
    obtain⟨j,_,rfl⟩:=hd
    have:=ZaA a j;have:=ZaA b j;omega) (by simp [addN];omega)
   rw [show (addN a b k).length=k by simp [addN],ZkA Ha.out Hb.out] at hnum
   go_wp2_with fail
   refine hnum.mono ?_
   rintro e w' ⟨rfl,hb'⟩
   clear hnum
   go_wp2_with fail
   go_ret
   exact⟨rfl,hBk.trans (hb'.mono hBk.size)⟩
end Go.Proofs.YtbgokkfhohodgaaGreatDoor.refC
namespace Go.Proofs.YtbgokkfhohodgaaGreatDoor.refD
open Go.RowKit num mem natA natB natC natD refA refB refC
theorem ZeP {a:ByteArray} {N k:Nat} (h:k< N):(digN a N).getD k 0=dig a k:=ZcN h
theorem Zg2 {x y c:Nat} (hx:x≤255) (hy:y≤255) (hc:c≤1):
  ∃ n C:Nat,n< 256∧C≤1∧n+y+c=x+C*256∧(C=0→(x:Int) - (y:Int) - (c:Int)=(n:Int))∧(C=1→(x:Int) - (y:Int) - (c:Int)+256=(n:Int))∧(C=0↔y+c≤x):=by
 by_cases h:y+c≤x
 ·exact⟨x - y - c,0,by omega,by omega,by omega,by omega,by omega,by omega⟩
 ·exact⟨x+256 - y - c,1,by omega,by omega,by omega,by omega,by omega,by omega⟩
theorem Zd1 (a b:ByteArray) (w:World) (ha:a.size≤35184372088832) (hb:b.size≤35184372088832) (hle:nv b≤nv a):
  Calls Tryz.prog 187 #[.string a,.string b] w fun e w'=>e= .returned (.string (enc (nv a - nv b)))∧Below w.heap.size w w':=by
 have Hle:=Lib.hid hle
 clear hle
 go_enter Tryz.func187,Tryz.ntmps187
 go_wp2_with (first|(at_make;refine Zm _ rfl _ _ _ rfl 3 _ 8 Tryz.underlying90 refA.info3 rfl _ _ _ _ a.size rfl rfl (by omega) (by omega) (by omega) (by omega) ?_))
 intro w1 hR hg hsz
 have hB0:Below w.heap.size w w1:=(Below.refl _ _).grown hg (Nat.le_refl _) (by simp)
 have hR0:Row w1 w.heap.size 3 (nums .i64 ([]++List.replicate (a.size - 0) 0)):=by simpa [nums] using hR
 clear hR hg
 go_wp2
 go_loopw [6,13] (fun br i wr=>∃ (k c:Nat) (Z:List Nat),k≤a.size∧i= .int .i64 k∧br= .int .i64 c∧c≤1∧Hid (Z.length=k)∧Hid (∀ d∈Z,d< 256)∧
   Hid (lv 256 Z+lv 256 ((digN b a.size).take k)=lv 256 ((digN a a.size).take k)+c*256 ^ k)∧Row wr w.heap.size 3 (nums .i64 (Z++List.replicate (a.size - k) 0))∧Below w.heap.size w wr) (fun _ i _=>a.size - (intOf i).toNat)
 case atStart=>exact⟨0,0, [],Nat.zero_le _,rfl,rfl,by omega,rfl,(by intro d hd;cases hd),by simp [Hid,lv],hR0,hB0⟩
 case round=>
  obtain⟨k,c,Z,hk,rfl,rfl,hc1,hZl,hZ,hlv,hRk,hBk⟩:=hrel
  clear hR0 hB0
  by_cases hlt:k< a.size
  ·have hcx:=hRk.int (i:=k) (by have:=hZl.out;simp;omega)
   have hfx:=hRk.frozen k
   have hx:=ZaA a k
   have hy:=ZaA b k
   obtain⟨x,hxx⟩:∃ x,x=dig a k:=⟨_,rfl⟩
   obtain⟨y,hyy⟩:∃ y,y=dig b k:=⟨_,rfl⟩
   rw [← hxx] at hx
   rw [← hyy] at hy
   obtain⟨n,C,hn,hC,hsum,e0,e1,hiff⟩:=Zg2 hx hy hc1
   have Hx:=Lib.hid hxx
   have Hy:=Lib.hid hyy
   have HS:=Lib.hid hsum
   have E0:=Lib.hid e0
   have E1:=Lib.hid e1
   have HI:=Lib.hid hiff
   have hstep:=Lib.hid (ZaU (B:=256) (X:=digN a a.size) (Y:=digN b a.size) (n:=n) (C:=C) hZl.out hlv.out (by rw [ZeP hlt,ZeP hlt,← hxx,← hyy];exact hsum))
   clear hxx hyy hsum e0 e1 hiff
   by_cases hneg:y+c≤x
   ·have hnn:¬ ((x:Int) - (y:Int) - (c:Int)< 0):=by omega
    have HC:=Lib.hid (HI.out.2 hneg)
    go_wp2_with fail
    refine(ZD a k _ (by omega) (by omega)).mono ?_
    rintro e w' ⟨rfl,rfl⟩
    rw [← Hx.out]
    go_wp2_with fail
    refine(ZD b k _ (by omega) (by omega)).mono ?_
    rintro e w' ⟨rfl,rfl⟩
    rw [← Hy.out]
    go_wp2_with fail
    go_roundw
    case rel=>
     have hS:=hRk.int_set k n
     rw [Zv hZl.out hlt,← E0.out HC.out] at hS
     exact⟨k+1,C,Z++ [n],by omega,by go_num,by rw [HC.out];rfl,hC,by have:=hZl.out;simp [Hid,this],ZH hZ.out hn,hstep.out,hS,hBk.setCell (Nat.le_refl _) _⟩
    case measure=>simp [intOf]<;>omega
   ·have hnn:((x:Int) - (y:Int) - (c:Int)< 0):=by omega
    have HC:=Lib.hid (show C=1 by have:=HI.out;omega)
    go_wp2_with fail
    refine(ZD a k _ (by omega) (by omega)).mono ?_
    rintro e w' ⟨rfl,rfl⟩
    rw [← Hx.out]
    go_wp2_with fail
    refine(ZD b k _ (by omega) (by omega)).mono ?_
    rintro e w' ⟨rfl,rfl⟩
    rw [← Hy.out]
    go_wp2_with fail
    go_roundw
    case rel=>
     have hS:=(hRk.set k (.int .i64 ((x:Int) - (y:Int) - (c:Int)))).set k (.int .i64 ((n:Nat):Int))
     rw [List.set_set,ZbF,Zv hZl.out hlt,← E1.out HC.out] at hS
     exact⟨k+1,C,Z++ [n],by omega,by go_num,by rw [HC.out];rfl,hC,by have:=hZl.out;simp [Hid,this],ZH hZ.out hn,hstep.out,hS,(hBk.setCell (Nat.le_refl _) _).setCell (Nat.le_refl _) _⟩
    case measure=>simp [intOf]<;>omega
  ·have HK:=Lib.hid (show k=a.size by omega)
   have hP:=hRk.pre
   rw [show a.size - k=0 by omega,List.replicate_zero,List.append_nil] at hP
   rw [show (nums .i64 Z).length=a.size by rw [Zf,hZl.out,HK.out]] at hP
   have hnum:=ZbR w.heap.size a.size Z wr hP (fun d hd=>by have:=hZ.out d hd;omega) (by rw [hZl.out,HK.out];omega)
   have hval:lv 256 Z=nv a - nv b:=by
    have h1:=hlv.out
    have h2:=Zb6 hZ.out
    have h3:=Hle.out
    rw [HK.out,Zc _ _ (by simp [digN,ZQ]),Zc _ _ (by simp [digN,ZQ]),Zfm (Nat.le_refl _)] at h1
    have h4:lv 256 (digN b a.size)=nv b:=ZX (Nat.lt_of_le_of_lt h3 (Zcz a))
    rw [h4] at h1
    rw [hZl.out,HK.out] at h2
    have hc0:c=0:=by
     rcases Nat.lt_or_ge c 1 with h|h
     ·omega
     ·have:1*256 ^ a.size≤c*256 ^ a.size:=Nat.mul_le_mul_right _ h
      omega
    rw [hc0] at h1
    omega
   rw [hZl.out,HK.out,hval] at hnum
   go_wp2_with fail
   refine hnum.mono ?_
   rintro e w' ⟨rfl,hb'⟩
   clear hnum
   go_wp2_with fail
   go_ret
   exact⟨rfl,hBk.trans (hb'.mono hBk.size)⟩
end Go.Proofs.YtbgokkfhohodgaaGreatDoor.refD
namespace Go.Proofs.YtbgokkfhohodgaaGreatDoor.num
def sumTo (f:Nat→Nat):Nat→Nat
 |0=>0
 |n+1=>sumTo f n+f n
def conv (f g:Nat→Nat) (i:Nat):Nat:=sumTo (fun k=>f k*g (i - k)) (i+1)
end Go.Proofs.YtbgokkfhohodgaaGreatDoor.num
namespace Go.Proofs.YtbgokkfhohodgaaGreatDoor.refE
open Go.RowKit num mem natA natB natC natD refA refB refC refD
end Go.Proofs.YtbgokkfhohodgaaGreatDoor.refE
namespace Go.Proofs.YtbgokkfhohodgaaGreatDoor.refF
open Go.RowKit num mem natA natB natC natD refA refB refC refD refE
theorem ZlA (n i:Nat):n / 256 ^ (i / 8) % 256 / 2 ^ (i % 8) % 2=n / 2 ^ i % 2:=by
 have e:2 ^ i=256 ^ (i / 8)*2 ^ (i % 8):=by
  rw [show (256:Nat)=2 ^ 8 from rfl,← Nat.pow_mul,← Nat.pow_add]
  congr 1
  omega
 rw [e,← Nat.div_div_eq_div_mul]
 generalize n / 256 ^ (i / 8)=x
 rcases (show i % 8=0∨i % 8=1∨i % 8=2∨i % 8=3∨i % 8=4∨i % 8=5∨i % 8=6∨i % 8=7 by omega) with h|h|h|h|h|h|h|h<;>rw [h]<;>omega
theorem Zfq (x r:Nat) (hx:x≤255):bits .and .i64 ((x:Int) / 2 ^ r) 1=((x / 2 ^ r % 2:Nat):Int):=by
 have h:x / 2 ^ r≤255:=Nat.le_trans (Nat.div_le_self _ _) hx
 have e:((x:Int) / 2 ^ r)=((x / 2 ^ r:Nat):Int):=by simp
 rw [e]
 generalize x / 2 ^ r=y at h
 have k:∀ y:Fin 256,bits .and .i64 (y.val:Int) 1=((y.val % 2:Nat):Int):=by decide+kernel
 exact k ⟨y,by omega⟩
theorem ZfE (a:ByteArray) (i:Nat) (w:World) (ha:a.size≤140737488355328) (hi:i≤1152921504606846976):
  Calls Tryz.prog 82 #[.string a,.int .i64 i] w fun e w'=>e= .returned (.int .i64 ((nv a / 2 ^ i % 2:Nat):Int))∧w=w':=by
 have hx:=ZaA a (i / 8)
 obtain⟨x,hxx⟩:∃ x,x=dig a (i / 8):=⟨_,rfl⟩
 have HV:=Lib.hid (show (((x / 2 ^ (i % 8) % 2:Nat)):Int)=((nv a / 2 ^ i % 2:Nat):Int) by rw [hxx];unfold dig;rw [ZlA])
 rw [← hxx] at hx
 obtain⟨p,hp⟩:∃ p:Nat,(i:Int) / 8=(p:Int):=⟨i / 8,by omega⟩
 obtain⟨r,hr⟩:∃ r:Nat,(i:Int) % 8=(r:Int):=⟨i % 8,by omega⟩
 have Hx:=Lib.hid (show dig a p=x by rw [hxx];congr 1;omega)
 have hr2:r< 8:=by omega
 have Hr:=Lib.hid (show i % 8=r by omega)
 have hp2:p≤i:=by omega
 clear hxx
 go_enter Tryz.func82,Tryz.ntmps82
 go_wp2_with fail
 refine(ZD a p _ ha (by omega)).mono ?_
 rintro e w' ⟨rfl,rfl⟩
 rw [Hx.out]
 go_wp2_with fail
 go_ret
 exact⟨ZL (by rw [Zfq x r hx,← Hr.out];exact HV.out),rfl⟩
theorem ZgL {v t m:Nat} (hm:0< m) (ht:t≤1):
  (m≤2*(v % m)+t→(2*v+t) / m=2*(v / m)+1∧(2*v+t) % m=2*(v % m)+t - m)∧(¬ m≤2*(v % m)+t→(2*v+t) / m=2*(v / m)∧(2*v+t) % m=2*(v % m)+t):=by
 have h1:=Nat.div_add_mod v m
 have h2:=Nat.mod_lt v hm
 have e:2*v+t=m*(2*(v / m))+(2*(v % m)+t):=by
  rw [Nat.mul_left_comm]
  omega
 generalize v % m=r at*
 generalize v / m=q at*
 constructor
 ·intro h
  have e2:2*v+t=m*(2*q+1)+(2*r+t - m):=by
   rw [Nat.mul_add];omega
  rw [e2,Nat.mul_add_div hm,Nat.mul_add_mod,Nat.div_eq_of_lt (by omega),Nat.mod_eq_of_lt (by omega)]
  exact⟨rfl,rfl⟩
 ·intro h
  rw [e,Nat.mul_add_div hm,Nat.mul_add_mod,Nat.div_eq_of_lt (by omega),Nat.mod_eq_of_lt (by omega)]
  exact⟨rfl,rfl⟩
theorem nv_one:nv ⟨#[1]⟩=1:=by decide
set_option maxHeartbeats 1000000 in
theorem Zjc (a b:ByteArray) (w:World) (ha:a.size≤17592186044416) (hb:b.size≤17592186044416) (hb0:0< nv b):
  Calls Tryz.prog 143 #[.string a,.string b] w fun e w'=>e= .returned (.tuple #[.string (enc (nv a / nv b)),.string (enc (nv a % nv b))])∧Below w.heap.size w w':=by
 obtain⟨n,hn⟩:∃ n,nv a=n:=⟨_,rfl⟩
 obtain⟨m,hm⟩:∃ m,nv b=m:=⟨_,rfl⟩
 rw [hn,hm]
 rw [hm] at hb0
 have Hn:=Lib.hid hn
 have Hm:=Lib.hid hm
 have Hsz:=Lib.hid (show ∀ x,x≤n→(enc x).size≤a.size by
  intro x hx
  refine Nat.le_trans (Z7 hx) ?_
  rw [← hn];exact ZI a)
 clear hn hm
 go_enter Tryz.func143,Tryz.ntmps143
 go_wp2_with fail
 go_loopw [6,7,8] (fun qs rs i wr=>∃ (k:Nat) (e:Int),i= .int .i64 e∧e=(k:Int) - 1∧k≤8*a.size∧qs= .string (enc (n / 2 ^ k / m))∧rs= .string (enc (n / 2 ^ k % m))∧Below w.heap.size w wr) (fun _ _ i _=>(intOf i+1).toNat)
 case atStart=>
  have hz:n / 2 ^ (8*a.size)=0:=by
   apply Nat.div_eq_of_lt
   rw [Nat.pow_mul,← Hn.out]
   exact Zcz a
  refine⟨8*a.size,_,rfl,by go_num,Nat.le_refl _,?_,?_,Below.refl _ _⟩
  ·rw [hz,Nat.zero_div,ZB]
  ·rw [hz,Nat.zero_mod,ZB]
 case round=>
  obtain⟨k,e,rfl,he,hk,rfl,rfl,hB⟩:=hrel
  rcases k with _|j
  ·obtain rfl:e=-1:=by simpa using he
   rw [show n / 2 ^ 0=n by simp]
   clear he
   go_wp2_with fail
   go_ret2
   exact⟨rfl,hB⟩
  ·obtain rfl:e=(j:Int):=by omega
   clear he
   obtain⟨v,hv⟩:∃ v,v=n / 2 ^ (j+1):=⟨_,rfl⟩
   obtain⟨t,ht⟩:∃ t,t=n / 2 ^ j % 2:=⟨_,rfl⟩
   have hvt:n / 2 ^ j=2*v+t:=by
    rw [hv,ht,Nat.pow_succ,← Nat.div_div_eq_div_mul];omega
   have ht1:t=0∨t=1:=by omega
   rw [← hv]
   have hvn:2*v+t≤n:=by rw [← hvt];exact Nat.div_le_self _ _
   have hsh:=ZgL (v:=v) (t:=t) hb0 (by omega)
   obtain⟨q,hq⟩:∃ q,q=v / m:=⟨_,rfl⟩
   obtain⟨r,hr⟩:∃ r,r=v % m:=⟨_,rfl⟩
   have hqv:q≤v:=by rw [hq];exact Nat.div_le_self _ _
   have hrv:r≤v:=by rw [hr];exact Nat.mod_le _ _
   rw [← hq,← hr]
   rw [← hq,← hr] at hsh
   have HT:=Lib.hid (show nv a / 2 ^ j % 2=t by rw [Hn.out,ht])
   have HVT:=Lib.hid hvt
   have HS:=Lib.hid hsh
   have s1:(enc q).size≤17592186044416:=Nat.le_trans (Hsz.out _ (by omega)) ha
   have s2:(enc r).size≤17592186044416:=Nat.le_trans (Hsz.out _ (by omega)) ha
   have s3:(enc (r+r)).size≤17592186044416:=Nat.le_trans (Hsz.out _ (by omega)) ha
   have s5:(enc (r+r+t)).size≤17592186044416:=Nat.le_trans (Hsz.out _ (by omega)) ha
   have HR:=Lib.hid (show q+q≤n by omega)
   have s4:(enc (q+q)).size≤17592186044416:=Nat.le_trans (Hsz.out _ HR.out) ha
   clear hv ht hvt hvn hsh hq hr hqv hrv
   rcases ht1 with rfl|rfl
   ·go_wp2_with fail
    refine(Zav (enc q) (enc q) wr (by omega) (by omega)).mono ?_
    rintro e w1 ⟨rfl,hb1⟩
    rw [Za]
    go_wp2_with fail
    refine(Zav (enc r) (enc r) w1 (by omega) (by omega)).mono ?_
    rintro e w2 ⟨rfl,hb2⟩
    rw [Za]
    have hB1:=hB.trans (hb1.mono hB.size)
    have hB2:=hB1.trans (hb2.mono hB1.size)
    clear hB hb1 hb2 hB1
    go_wp2_with fail
    refine(ZfE a j w2 (by omega) (by omega)).mono ?_
    rintro e w' ⟨rfl,rfl⟩
    rw [HT.out]
    go_wp2_with fail
    have hBc:=hB2
    clear hB2
    by_cases hge:m≤r+r
    ·have HG:=Lib.hid hge
     have HC:=Lib.hid (show cmpN (r+r) m=0∨cmpN (r+r) m=1 by unfold cmpN;rw [if_neg (by omega)];split<;>simp)
     clear hge
     go_wp2_with fail
     refine(Zak (enc (r+r)) b w2 (by omega) (by omega)).mono ?_
     rintro e w' ⟨rfl,rfl⟩
     rw [Za,Hm.out]
     obtain⟨c,hc⟩:∃ c,cmpN (r+r) m=c:=⟨_,rfl⟩
     rw [hc]
     have hc0:0≤c:=by have:=HC.out;omega
     clear hc
     go_wp2_with fail
     refine(Zd1 (enc (r+r)) b w2 (by omega) (by omega) (by rw [Za,Hm.out];exact HG.out)).mono ?_
     rintro e w4 ⟨rfl,hb4⟩
     rw [Za,Hm.out]
     go_wp2_with fail
     refine(Zav (enc (q+q)) ⟨#[1]⟩ w4 (by omega) (by decide)).mono ?_
     rintro e w5 ⟨rfl,hb5⟩
     rw [Za,nv_one]
     go_wp2_with fail
     go_roundw
     case rel=>
      have hB4:=hBc.trans (hb4.mono hBc.size)
      have h:=HS.out.1 (by have:=HG.out;omega)
      refine⟨j,_,rfl,by go_num,by omega,?_,?_,hB4.trans (hb5.mono hB4.size)⟩
      ·rw [HVT.out,h.1,Nat.two_mul]
      ·rw [HVT.out,h.2,Nat.two_mul]<;>rfl
     case measure=>simp [intOf]<;>omega
    ·have HG:=Lib.hid hge
     have HC:=Lib.hid (show cmpN (r+r) m=-1 by unfold cmpN;rw [if_pos (by omega)])
     clear hge
     go_wp2_with fail
     refine(Zak (enc (r+r)) b w2 (by omega) (by omega)).mono ?_
     rintro e w' ⟨rfl,rfl⟩
     rw [Za,Hm.out,HC.out]
     go_wp2_with fail
     go_roundw
     case rel=>
      have h:=HS.out.2 (by have:=HG.out;omega)
      refine⟨j,_,rfl,by go_num,by omega,?_,?_,hBc⟩
      ·rw [HVT.out,h.1,Nat.two_mul]
      ·rw [HVT.out,h.2,Nat.two_mul]<;>rfl
     case measure=>simp [intOf]<;>omega
   ·go_wp2_with fail
    refine(Zav (enc q) (enc q) wr (by omega) (by omega)).mono ?_
    rintro e w1 ⟨rfl,hb1⟩
    rw [Za]
    go_wp2_with fail
    refine(Zav (enc r) (enc r) w1 (by omega) (by omega)).mono ?_
    rintro e w2 ⟨rfl,hb2⟩
    rw [Za]
    have hB1:=hB.trans (hb1.mono hB.size)
    have hB2:=hB1.trans (hb2.mono hB1.size)
    clear hB hb1 hb2 hB1
    go_wp2_with fail
    refine(ZfE a j w2 (by omega) (by omega)).mono ?_
    rintro e w' ⟨rfl,rfl⟩
    rw [HT.out]
    go_wp2_with fail
    refine(Zav (enc (r+r)) ⟨#[1]⟩ w2 (by omega) (by decide)).mono ?_
    rintro e w3 ⟨rfl,hb3⟩
    rw [Za,nv_one]
    have hBc:=hB2.trans (hb3.mono hB2.size)
    clear hB2 hb3
    by_cases hge:m≤r+r+1
    ·have HG:=Lib.hid hge
     have HC:=Lib.hid (show cmpN (r+r+1) m=0∨cmpN (r+r+1) m=1 by unfold cmpN;rw [if_neg (by omega)];split<;>simp)
     clear hge
     go_wp2_with fail
     refine(Zak (enc (r+r+1)) b w3 (by omega) (by omega)).mono ?_
     rintro e w' ⟨rfl,rfl⟩
     rw [Za,Hm.out]
     obtain⟨c,hc⟩:∃ c,cmpN (r+r+1) m=c:=⟨_,rfl⟩
     rw [hc]
     have hc0:0≤c:=by have:=HC.out;omega
     clear hc
     go_wp2_with fail
     refine(Zd1 (enc (r+r+1)) b w3 (by omega) (by omega) (by rw [Za,Hm.out];exact HG.out)).mono ?_
     rintro e w4 ⟨rfl,hb4⟩
     rw [Za,Hm.out]
     go_wp2_with fail
     refine(Zav (enc (q+q)) ⟨#[1]⟩ w4 (by omega) (by decide)).mono ?_
     rintro e w5 ⟨rfl,hb5⟩
     rw [Za,nv_one]
     go_wp2_with fail
     go_roundw
     case rel=>
      have hB4:=hBc.trans (hb4.mono hBc.size)
      have h:=HS.out.1 (by have:=HG.out;omega)
      refine⟨j,_,rfl,by go_num,by omega,?_,?_,hB4.trans (hb5.mono hB4.size)⟩
      ·rw [HVT.out,h.1,Nat.two_mul]
      ·rw [HVT.out,h.2,Nat.two_mul]<;>rfl
     case measure=>simp [intOf]<;>omega
    ·have HG:=Lib.hid hge
     have HC:=Lib.hid (show cmpN (r+r+1) m=-1 by unfold cmpN;rw [if_pos (by omega)])
     clear hge
     go_wp2_with fail
     refine(Zak (enc (r+r+1)) b w3 (by omega) (by omega)).mono ?_
     rintro e w' ⟨rfl,rfl⟩
     rw [Za,Hm.out,HC.out]
     go_wp2_with fail
     go_roundw
     case rel=>
      have h:=HS.out.2 (by have:=HG.out;omega)
      refine⟨j,_,rfl,by go_num,by omega,?_,?_,hBc⟩
      ·rw [HVT.out,h.1,Nat.two_mul]
      ·rw [HVT.out,h.2,Nat.two_mul]<;>rfl
     case measure=>simp [intOf]<;>omega
end Go.Proofs.YtbgokkfhohodgaaGreatDoor.refF
namespace Go.Proofs.YtbgokkfhohodgaaGreatDoor.mem
open Go.RowKit
end Go.Proofs.YtbgokkfhohodgaaGreatDoor.mem
namespace Go.Proofs.YtbgokkfhohodgaaGreatDoor.natK
open Go.RowKit num mem natA natB natC natD natE natI dec refA refB natJ
def chr (s:ByteArray) (j:Nat):Nat:=(s.data.toList.getD j 0).toNat
def readable (s:ByteArray):Prop:=s.size≠0∧¬ (1< s.size∧chr s 0=48)∧∀ j,j< s.size→48≤chr s j∧chr s j≤57
instance (s:ByteArray):Decidable (readable s):=by unfold readable;infer_instance
end Go.Proofs.YtbgokkfhohodgaaGreatDoor.natK
namespace Go.Proofs.YtbgokkfhohodgaaGreatDoor.refG
open Go.RowKit num mem natA natB natC natD dec refA refB natJ natK
def bv (l:List Nat):Nat:=l.foldl (fun v d=>v*256+d) 0
def Cells (w:World) (b:Nat) (L:List Nat):Prop:=∀ i,i< L.length→w.cell? ⟨b,i,none⟩=some (.int .u8 ((L.getD i 0:Nat):Int))
theorem Cells.below {w w':World} {b B:Nat} {L:List Nat} (h:Cells w b L) (hb:Below B w w') (hB:b< B):Cells w' b L:=by
 intro i hi
 have:=h i hi
 unfold World.cell? at this ⊢
 rw [hb.block b hB]
 exact this
theorem Pre.cells {w:World} {b T cap:Nat} {L:List Nat} (h:Pre w b T cap (nums .u8 L)):Cells w b L:=fun _ hi=>h.int hi
end Go.Proofs.YtbgokkfhohodgaaGreatDoor.refG
namespace Go.Proofs.YtbgokkfhohodgaaGreatDoor.lawA
open Go.RowKit num mem natA natB natC natD refA refB refC refD
theorem ZkI (s:ByteArray) (c:UInt8) (r:List UInt8) (hs:s.data.toList=c :: r) (hc:c≠0) (n:Nat) (hn:nv s=n):enc n=s:=by
 rw [← hn]
 apply Z9
 intro c' r' h
 rw [hs] at h
 injection h with h1 _
 rw [← h1];exact hc
end Go.Proofs.YtbgokkfhohodgaaGreatDoor.lawA
namespace Go.Proofs.YtbgokkfhohodgaaGreatDoor.refH
open Go.RowKit num mem natA natB natC natD dec refA refB refC refD refE natJ natK lawA
theorem enc_one:enc 1=⟨#[1]⟩:=ZkI _ 1 [] rfl (by decide) _ (by decide)
end Go.Proofs.YtbgokkfhohodgaaGreatDoor.refH
namespace Go.Proofs.YtbgokkfhohodgaaGreatDoor.refI
open Go.RowKit num mem natA natB natC natD refA refB refC refD refE refF
theorem ZjR (n i:Nat):n / 2 / 256 ^ i % 256=n / 256 ^ i % 256 / 2+n / 256 ^ (i+1) % 256 % 2*128:=by
 rw [Nat.div_div_eq_div_mul,Nat.mul_comm 2,← Nat.div_div_eq_div_mul,Nat.pow_succ,← Nat.div_div_eq_div_mul]
 generalize n / 256 ^ i=x
 omega
def halfN (a:ByteArray) (N:Nat):List Nat:=(List.range N).map fun i=>dig a i / 2+dig a (i+1) % 2*128
theorem ZjK {a:ByteArray} {N:Nat} (h:a.size≤N):lv 256 (halfN a N)=nv a / 2:=by
 have e:halfN a N=dg 256 (nv a / 2) N:=by
  unfold halfN dg dig
  refine List.map_congr_left fun i _=> ?_
  exact(ZjR (nv a) i).symm
 rw [e]
 have h1:=Zcz a
 have h2:256 ^ a.size≤256 ^ N:=Nat.pow_le_pow_right (by omega) h
 exact ZX (by omega)
theorem ZkJ (x y:Nat):((x:Int) / 2+(y:Int) % 2*128)=((x / 2+y % 2*128:Nat):Int):=by omega
theorem Zhb (a:ByteArray) (w:World) (ha:a.size≤35184372088832):
  Calls Tryz.prog 83 #[.string a] w fun e w'=>e= .returned (.string (enc (nv a / 2)))∧Below w.heap.size w w':=by
 obtain⟨N,hN⟩:∃ N:Nat,(a.size:Int)=(N:Int):=⟨a.size,rfl⟩
 have hN1:N≤35184372088832:=by omega
 have Ha:=Lib.hid (show a.size≤N by omega)
 go_enter Tryz.func83,Tryz.ntmps83
 go_wp2_with (first|(at_make;refine Zm _ rfl _ _ _ rfl 3 _ 8 Tryz.underlying90 refA.info3 rfl _ _ _ _ N rfl rfl (by omega) (by omega) (by omega) (by omega) ?_))
 intro w1 hR hg hsz
 have hB0:Below w.heap.size w w1:=(Below.refl _ _).grown hg (Nat.le_refl _) (by simp)
 have hR0:Row w1 w.heap.size 3 (nums .i64 ((List.range 0).map (fun i=>dig a i / 2+dig a (i+1) % 2*128)++List.replicate (N - 0) 0)):=by simpa [nums] using hR
 clear hR hg hN
 go_wp2
 go_loopw [10] (fun i wr=>∃ k:Nat,k≤N∧i= .int .i64 k∧Row wr w.heap.size 3 (nums .i64 ((List.range k).map (fun i=>dig a i / 2+dig a (i+1) % 2*128)++List.replicate (N - k) 0))∧Below w.heap.size w wr) (fun i _=>N - (intOf i).toNat)
 case atStart=>exact⟨0,Nat.zero_le _,rfl,hR0,hB0⟩
 case round=>
  obtain⟨k,hk,rfl,hRk,hBk⟩:=hrel
  clear hR0 hB0
  by_cases hlt:k< N
  ·have hcx:=hRk.int (i:=k) (by simp;omega)
   have hfx:=hRk.frozen k
   have hx:=ZaA a k
   have hy:=ZaA a (k+1)
   obtain⟨x,hxx⟩:∃ x,x=dig a k:=⟨_,rfl⟩
   obtain⟨y,hyy⟩:∃ y,y=dig a (k+1):=⟨_,rfl⟩
   rw [← hxx] at hx
   rw [← hyy] at hy
   have Hx:=Lib.hid hxx
   have Hy:=Lib.hid hyy
   clear hxx hyy
   go_wp2_with fail
   refine(ZD a k _ (by omega) (by omega)).mono ?_
   rintro e w' ⟨rfl,rfl⟩
   rw [← Hx.out]
   go_wp2_with fail
   rw [show ((k:Int)+1)=((k+1:Nat):Int) by omega]
   refine(ZD a (k+1) _ (by omega) (by omega)).mono ?_
   rintro e w' ⟨rfl,rfl⟩
   rw [← Hy.out]
   go_wp2_with fail
   rw [ZkJ]
   go_roundw
   case rel=>
    have hS:=hRk.int_set k (x / 2+y % 2*128)
    rw [Zv (by simp) hlt,Hx.out,Hy.out,Zae (fun i=>dig a i / 2+dig a (i+1) % 2*128) _ rfl,← Hx.out,← Hy.out] at hS
    exact⟨k+1,by omega,by go_num,hS,hBk.setCell (Nat.le_refl _) _⟩
   case measure=>simp [intOf]<;>omega
  ·obtain rfl:k=N:=by omega
   have hP:=hRk.pre
   rw [Nat.sub_self,List.replicate_zero,List.append_nil] at hP
   rw [show (nums .i64 ((List.range k).map fun i=>dig a i / 2+dig a (i+1) % 2*128)).length=k by simp [nums]] at hP
   have hnum:=ZbR w.heap.size k (halfN a k) wr hP (by
    intro d hd
    simp only [halfN,List.mem_map] at hd
    obtain⟨j,_,rfl⟩:=hd
    have:=ZaA a j;have:=ZaA a (j+1);omega) (by simp [halfN];omega)
   rw [show (halfN a k).length=k by simp [halfN],ZjK Ha.out] at hnum
   go_wp2_with fail
   refine hnum.mono ?_
   rintro e w' ⟨rfl,hb'⟩
   clear hnum
   go_wp2_with fail
   go_ret
   exact⟨rfl,hBk.trans (hb'.mono hBk.size)⟩
end Go.Proofs.YtbgokkfhohodgaaGreatDoor.refI
