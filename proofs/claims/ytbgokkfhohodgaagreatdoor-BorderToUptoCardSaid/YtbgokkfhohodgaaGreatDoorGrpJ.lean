/- Joined by wip/bundle.py: XDec XRefA XRefB XNatJ XRatF. -/
import Derived.Test.YtbgokkfhohodgaaGreatDoorGrpC
import Derived.Lib.TrimByte
import Derived.Test.YtbgokkfhohodgaaGreatDoorGrpF
import Derived.Test.YtbgokkfhohodgaaGreatDoorGrpE
namespace Go.Proofs.YtbgokkfhohodgaaGreatDoor.dec
open num
def decL (n:Nat):List Nat:=if _h:n=0 then [] else n % 10 :: decL (n / 10)
termination_by n
decreasing_by omega
theorem decL_zero:decL 0= []:=by rw [decL];simp
theorem decL_pos {n:Nat} (h:n≠0):decL n=n % 10 :: decL (n / 10):=by
 rw [decL];simp [h]
theorem ZkL:∀ (n:Nat),∀ d∈decL n,d< 10:=by
 intro n
 induction n using Nat.strongRecOn with
 |ind n ih=>
  by_cases h:n=0
  ·subst h;rw [decL_zero];intro d hd;cases hd
  ·rw [decL_pos h]
   intro d hd
   rcases List.mem_cons.1 hd with rfl|hd
   ·omega
   ·exact ih (n / 10) (by omega) d hd
theorem Zfz {m : Nat} : ∀ {n : Nat}, n < 10 ^ m → (decL n).length ≤ m := by
  induction m with
  | zero => intro n h; have : n = 0 := by simpa using h
            subst this; rw [decL_zero]; exact Nat.le_refl _
  | succ m ih =>
    intro n h
    by_cases h0 : n = 0
    · subst h0; rw [decL_zero]; exact Nat.zero_le _
    · rw [decL_pos h0, List.length_cons]
      have : n / 10 < 10 ^ m := by rw [Nat.pow_succ] at h; omega
      exact Nat.succ_le_succ (ih this)
theorem Zhi {n k:Nat} (h:n< 256 ^ k):(decL n).length≤3*k:=by
 apply Zfz
 have h1:256 ^ k≤(10 ^ 3) ^ k:=Nat.pow_le_pow_left (by decide) k
 rw [← Nat.pow_mul] at h1
 omega
theorem ZeR {n:Nat} {D:List Nat} {v:Nat} (h:decL n=D++decL v) (hv:v≠0):decL n=(D++ [v % 10])++decL (v / 10):=by
 rw [h,decL_pos hv,List.append_assoc];rfl
def ascii (l:List Nat):ByteArray:=⟨(l.reverse.map fun d=>UInt8.ofNat (48+d)).toArray⟩
def dec (n:Nat):ByteArray:=if n=0 then ⟨#[48]⟩ else ascii (decL n)
theorem Zgr:dec 0=⟨#[48]⟩:=by unfold dec;rw [if_pos rfl]
theorem dec_pos {n:Nat} (h:n≠0):dec n=ascii (decL n):=by unfold dec;rw [if_neg h]
theorem Zfy {n:Nat} (h:n≠0):decL n≠ []:=by rw [decL_pos h];simp
theorem Zgs {n:Nat} (h:decL n= []):n=0:=Decidable.byContradiction fun h0=>Zfy h0 h
theorem Zla {B:Nat} {l:List Nat} {k:Nat} (hl:l.length=k+1) (h:0< l.getD k 0) (hB:0< B):0< lv B l:=by
 have h1:=Zt B l k (by omega)
 rw [Zc _ _ (by omega)] at h1
 have:0< B ^ k*l.getD k 0:=Nat.mul_pos (Nat.pow_pos hB) h
 omega
theorem Zez {B:Nat} {l:List Nat} {k:Nat} (h:l.getD k 0=0):lv B (l.take (k+1))=lv B (l.take k):=by
 rw [Zo,h,Nat.mul_zero,Nat.add_zero]
end Go.Proofs.YtbgokkfhohodgaaGreatDoor.dec
namespace Go.Proofs.YtbgokkfhohodgaaGreatDoor.refA
open Go.RowKit num mem natA natB natC natD
theorem info3:(Tryz.prog.info? 3).map (fun i=>(i.zero,i.size,i.bytes))=some (some (.int .i64 0),1,8):=by kernel_rfl
theorem Zd3 (a:ByteArray):(⟨(Lib.trimLeftB a.data.toList 0).toArray⟩:ByteArray)=enc (nv a):=by
 apply ZbO
 rw [ZaL]
 show strip _=_
 exact ZfS _
theorem Zd2 (a:ByteArray) (w:World):
  Calls Tryz.prog 80 #[.string a] w fun e w'=>e= .returned (.string (enc (nv a)))∧w=w':=by
 go_enter Tryz.func80,Tryz.ntmps80
 go_wp2_with fail
 refine(Tryz.strings_TrimLeft_one a 0 (by decide) w).mono ?_
 rintro e w' ⟨rfl,rfl⟩
 go_wp2_with fail
 go_ret
 exact⟨Zw (Zd3 a),rfl⟩
def dig (a:ByteArray) (i:Nat):Nat:=nv a / 256 ^ i % 256
theorem ZaA (a:ByteArray) (i:Nat):dig a i≤255:=by unfold dig;have:=Nat.mod_lt (nv a / 256 ^ i) (show 0< 256 by omega);omega
theorem Zfj:∀ (l:List UInt8) (i:Nat) (h:i< l.length),(l[l.length - 1 - i]'(by omega)).toNat=nvl l / 256 ^ i % 256:=by
 intro l
 induction l with
 |nil=>intro i h;simp at h
 |cons c l ih=>
  intro i h
  rw [Zaq]
  by_cases hi:i=l.length
  ·subst hi
   have hl:=Zcy l
   have hp:0< 256 ^ l.length:=Nat.pow_pos (by omega)
   rw [Nat.add_comm,Nat.add_mul_div_right _ _ hp,Nat.div_eq_of_lt hl,Nat.zero_add]
   have hc:=c.toNat_lt
   simp
  ·have hi':i< l.length:=by simp at h;omega
   have e:(c :: l)[(c :: l).length - 1 - i]'(by omega)=l[l.length - 1 - i]'(by omega):=by
    simp only [List.length_cons]
    rw [List.getElem_cons,dif_neg (by omega)]
    congr 1
    omega
   rw [e,ih i hi']
   obtain⟨d,hd⟩:∃ d,l.length=i+1+d:=⟨l.length - i - 1,by omega⟩
   have hp:0< 256 ^ i:=Nat.pow_pos (by omega)
   rw [hd,Nat.pow_add,Nat.pow_succ,show c.toNat*(256 ^ i*256*256 ^ d)=(256*(c.toNat*256 ^ d))*256 ^ i by
    simp only [Nat.mul_comm,Nat.mul_left_comm,Nat.mul_assoc],Nat.add_comm,Nat.add_mul_div_right _ _ hp,Nat.add_mul_mod_self_left]
theorem ZD (a:ByteArray) (i:Nat) (w:World) (ha:a.size≤140737488355328) (hi:i≤1152921504606846976):
  Calls Tryz.prog 140 #[.string a,.int .i64 i] w fun e w'=>e= .returned (.int .i64 (dig a i))∧w=w':=by
 by_cases h:i< a.size
 ·obtain⟨p,hp⟩:∃ p:Nat,(a.size:Int) - 1 - (i:Int)=(p:Int):=⟨a.size - 1 - i,by omega⟩
  have hp2:p< a.size:=by omega
  have Hp:=Lib.hid hp
  have HV:=Lib.hid (show (((a[p]).toNat:Nat):Int)=((dig a i:Nat):Int) by
   obtain rfl:p=a.size - 1 - i:=by omega
   have:=Zfj a.data.toList i (by rw [ba_length];exact h)
   simp only [ba_length] at this
   unfold dig nv
   rw [← this]
   rfl)
  go_enter Tryz.func140,Tryz.ntmps140
  go_wp2
  go_ret
  exact⟨ZL (by rw [IntWalk.wrap64_in _ (by have:=(a[p]).toNat_lt;omega)];exact HV.out),rfl⟩
 ·have HV:=Lib.hid (show dig a i=0 by
   unfold dig
   have h1:=Zcz a
   have h2:256 ^ a.size≤256 ^ i:=Nat.pow_le_pow_right (by omega) (by omega)
   rw [Nat.div_eq_of_lt (by omega)])
  go_enter Tryz.func140,Tryz.ntmps140
  go_wp2
  go_ret
  exact⟨ZL (by rw [HV.out];rfl),rfl⟩
theorem Zcf (a:ByteArray) (j:Nat):nv a / 256 ^ j=256*(nv a / 256 ^ (j+1))+dig a j:=by
 unfold dig
 rw [Nat.pow_succ,← Nat.div_div_eq_div_mul]
 omega
theorem Zgu {a b:ByteArray} {j:Nat} (h:nv a / 256 ^ (j+1)=nv b / 256 ^ (j+1)) (hd:dig a j< dig b j):nv a< nv b:=by
 have h1:=Zcf a j
 have h2:=Zcf b j
 apply Nat.lt_of_not_le
 intro hle
 have:=Nat.div_le_div_right (c:=256 ^ j) hle
 omega
theorem ZjZ {a b:ByteArray} {j:Nat} (h:nv a / 256 ^ (j+1)=nv b / 256 ^ (j+1)) (hd:dig a j=dig b j):nv a / 256 ^ j=nv b / 256 ^ j:=by
 rw [Zcf a j,Zcf b j,h,hd]
theorem Zak (a b:ByteArray) (w:World) (ha:a.size≤140737488355328) (hb:b.size≤140737488355328):
  Calls Tryz.prog 186 #[.string a,.string b] w fun e w'=>e= .returned (.int .i64 (cmpN (nv a) (nv b)))∧w=w':=by
 obtain⟨c,hc⟩:∃ c,cmpN (nv a) (nv b)=c:=⟨_,rfl⟩
 have HC:=Lib.hid hc
 rw [hc]
 clear hc
 go_enter Tryz.func186,Tryz.ntmps186
 go_wp2
 go_loop [5] (fun i=>∃ (k:Nat) (j:Int),i= .int .i64 j∧Hid (j=(k:Int) - 1)∧k≤140737488355328∧Hid (nv a / 256 ^ k=nv b / 256 ^ k)) (fun i=>(intOf i+1).toNat)
 case atStart=>
  refine⟨max a.size b.size,_,rfl,?_,by omega,?_⟩
  ·show _=_;omega
  ·have h1:nv a< 256 ^ (max a.size b.size):=Nat.lt_of_lt_of_le (Zcz a) (Nat.pow_le_pow_right (by omega) (by omega))
   have h2:nv b< 256 ^ (max a.size b.size):=Nat.lt_of_lt_of_le (Zcz b) (Nat.pow_le_pow_right (by omega) (by omega))
   show _=_
   rw [Nat.div_eq_of_lt h1,Nat.div_eq_of_lt h2]
 case round=>
  obtain⟨k,j,rfl,hj,hk,hq⟩:=hrel
  rcases k with _|q
  ·obtain rfl:j=-1:=by have:=hj.out;simpa using this
   have H0:=Lib.hid (show c=0 by
    have:=hq.out
    simp only [Nat.pow_zero,Nat.div_one] at this
    rw [← HC.out,this];unfold cmpN;simp)
   go_wp2
   go_ret
   exact⟨ZL H0.out.symm,rfl⟩
  ·obtain rfl:j=(q:Int):=by have:=hj.out;omega
   have hx:=ZaA a q
   have hy:=ZaA b q
   by_cases hd:dig a q=dig b q
   ·have HQ:=Lib.hid (ZjZ hq.out hd)
    obtain⟨x,hxx⟩:∃ x,dig a q=x:=⟨_,rfl⟩
    have HX:=Lib.hid hxx
    have HY:=Lib.hid (hd.symm.trans hxx)
    clear hd hxx hx hy
    go_wp2_with fail
    refine(ZD a q _ ha (by omega)).mono ?_
    rintro e w' ⟨rfl,rfl⟩
    rw [HX.out]
    go_wp2_with fail
    refine(ZD b q _ hb (by omega)).mono ?_
    rintro e w' ⟨rfl,rfl⟩
    rw [HY.out]
    go_wp2_with fail
    go_round
    case rel=>exact⟨q,_,rfl,rfl,by omega,HQ.out⟩
    case measure=>simp [intOf]<;>omega
   ·obtain⟨x,hxx⟩:∃ x,dig a q=x:=⟨_,rfl⟩
    obtain⟨y,hyy⟩:∃ y,dig b q=y:=⟨_,rfl⟩
    rw [hxx,hyy] at hd
    have hne:((x:Int) - (y:Int)==0)=false:=by simp;omega
    have hne2:((x:Int) - (y:Int) !=0)=true:=by simp;omega
    have HV:=Lib.hid (show max (-1) (min 1 ((x:Int) - (y:Int)))=c by
     rw [← HC.out]
     unfold cmpN
     rcases Nat.lt_or_gt_of_ne hd with h|h
     ·rw [if_pos (Zgu hq.out (by rw [hxx,hyy];exact h))];omega
     ·have h2:=Zgu hq.out.symm (by rw [hxx,hyy];exact h)
      rw [if_neg (by omega),if_pos h2];omega)
    have HX:=Lib.hid hxx
    have HY:=Lib.hid hyy
    rw [hxx] at hx
    rw [hyy] at hy
    clear hd hxx hyy
    go_wp2_with fail
    refine(ZD a q _ ha (by omega)).mono ?_
    rintro e w' ⟨rfl,rfl⟩
    rw [HX.out]
    go_wp2_with fail
    refine(ZD b q _ hb (by omega)).mono ?_
    rintro e w' ⟨rfl,rfl⟩
    rw [HY.out]
    go_wp2_with fail
    go_ret
    exact⟨ZL HV.out,rfl⟩
end Go.Proofs.YtbgokkfhohodgaaGreatDoor.refA
namespace Go.Proofs.YtbgokkfhohodgaaGreatDoor.refB
open Go.RowKit num mem natA natB natC natD refA
def bigN:Nat:=9223372036854775808
def numLeft (len:Nat) (c i:Value):Nat:=(len - (intOf i).toNat)*bigN+(intOf c).toNat
theorem Zf7 {L D:List Nat} {k q x:Nat} (hD:D.length=k) (h:lv 256 D+q*256 ^ k=lv 256 (L.take k)) (hx:x=L.getD k 0):
  lv 256 (D++ [(q+x) % 256])+(q+x) / 256*256 ^ (k+1)=lv 256 (L.take (k+1)):=by
 have:=ZcT (B:=256) (Y:= []) (X:=L) (n:=(q+x) % 256) (C:=(q+x) / 256) (c:=q) hD (by simpa only [List.take_nil,Zbc,Nat.add_zero] using h) (by rw [← hx,show ([]:List Nat).getD k 0=0 from rfl];omega)
 simpa only [List.take_nil,Zbc,Nat.add_zero] using this
theorem Zif {q r:Nat} (h:q*256 ^ r≤36028797018963968) (hq:0< q):r≤7:=by
 apply Nat.le_of_not_lt
 intro h7
 have h1:256 ^ 8≤256 ^ r:=Nat.pow_le_pow_right (by omega) h7
 have h2:1*256 ^ r≤q*256 ^ r:=Nat.mul_le_mul_right _ hq
 have h3:(256:Nat) ^ 8=18446744073709551616:=by decide
 omega
theorem Zie {q r:Nat} (h:q*256 ^ r≤36028797018963968):q / 256*256 ^ (r+1)≤36028797018963968:=by
 rw [Nat.pow_succ]
 have:q / 256*(256 ^ r*256)=(q / 256*256)*256 ^ r:=by rw [Nat.mul_comm (256 ^ r),Nat.mul_assoc]
 rw [this]
 have h1:q / 256*256≤q:=Nat.div_mul_le_self q 256
 exact Nat.le_trans (Nat.mul_le_mul_right _ h1) h
theorem Zih {len k q q':Nat} (h:k< len) (hq:q'≤36028797018963968):numLeft len (.int .i64 (q':Int)) (.int .i64 ((k:Int)+1))< numLeft len (.int .i64 (q:Int)) (.int .i64 (k:Int)):=by
 unfold numLeft bigN
 simp only [intOf]
 have e1:((k:Int)+1).toNat=k+1:=by omega
 rw [e1,Int.toNat_natCast,Int.toNat_natCast,Int.toNat_natCast]
 have:len - k=(len - (k+1))+1:=by omega
 rw [this,Nat.add_mul]
 omega
theorem Zig {len k q:Nat} (h:¬ k< len) (hq:0< q):numLeft len (.int .i64 ((q:Int) / 256)) (.int .i64 ((k:Int)+1))< numLeft len (.int .i64 (q:Int)) (.int .i64 (k:Int)):=by
 unfold numLeft
 simp only [intOf]
 have e1:((k:Int)+1).toNat=k+1:=by omega
 rw [e1,Int.toNat_natCast,Int.toNat_natCast,show len - k=0 by omega,show len - (k+1)=0 by omega]
 omega
set_option maxHeartbeats 1000000 in
theorem ZbR (b cap:Nat) (L:List Nat) (w:World) (hR:Pre w b 3 cap (nums .i64 L)) (hL:∀ d∈L,d≤4611686018427387904) (hs:L.length≤35184372088832):
  Calls Tryz.prog 141 #[.slice (some ⟨b,0,none⟩) L.length cap] w fun e w'=>e= .returned (.string (enc (lv 256 L)))∧Below w.heap.size w w':=by
 have hb:=hR.lt
 have HL:=Lib.hid hL
 clear hL
 obtain⟨i0,hi,hz0,hz1,hz2⟩:=info_parts natB.info5
 have Hi0:=Lib.hid hz0
 have Hi1:=Lib.hid hz1
 have Hi2:=Lib.hid hz2
 have Hi:=Lib.hid hi
 clear hz0 hz1 hz2 hi
 go_enter Tryz.func141,Tryz.ntmps141
 go_wp2
 go_loopw [3,4,5] (fun v c i wr=>∃ (k q:Nat) (D:List Nat),i= .int .i64 k∧c= .int .i64 q∧q≤36028797018963968∧k≤35184372088842∧Hid (k≤L.length+8∧(L.length≤k→q*256 ^ (k - L.length)≤36028797018963968))∧Hid (D.length=k)∧Hid (∀ d∈D,d< 256)∧Hid (lv 256 D+q*256 ^ k=lv 256 (L.take k))∧
   wr.ownsRow w.heap.size 5 1 v D.length (nums .u8 D)∧Below w.heap.size w wr) (fun _ c i _=>numLeft L.length c i)
 case atStart=>exact⟨0,0, [],rfl,rfl,by omega,by omega,⟨by omega,by intro h;simp⟩,rfl,(by intro d hd;cases hd),by simp [Hid,lv],World.ownsRow_nil _ _ _ _,Below.refl _ _⟩
 case round=>
  obtain⟨k,q,D,rfl,rfl,hq,hk,hk2,hDl,hD,hlv,hown,hB⟩:=hrel
  by_cases hlt:k< L.length
  ·obtain⟨x,hx⟩:∃ x:Nat,x=L.getD k 0:=⟨_,rfl⟩
   have hxl:x≤4611686018427387904:=by
    rw [hx];have:=Zq (B:=4611686018427387905) (by omega) (fun d hd=>by have:=HL.out d hd;omega) k (l:=L);omega
   have hcx:=(hR.below hB hb).int (i:=k) hlt
   rw [← hx] at hcx
   have Hx:=Lib.hid hx
   clear hx
   go_wp2_with (first|(at_builtin;refine Zbe rfl _ _ _ rfl w.heap.size 5 _ 1 Tryz.underlying118 natB.info5 rfl _ (nums .u8 D) rfl (by rw [Zf];exact hown.alloc _) _ _ rfl (ZcP _ _ _) rfl (by have:=hDl.out;rw [Zf];omega) (by have:=hDl.out;rw [Zf];omega) (by have:=hB.size;simp;omega) ?_))
   intro v' w1 hown1 hg1
   have hB1:Below w.heap.size w w1:=(hB.alloc hB.size _).grown hg1 (hB.alloc hB.size _).size (ZaF hown)
   clear hg1 hown hcx
   go_wp2
   go_roundw
   case rel=>
    rw [show (((q:Int)+(x:Int)) % 256)=(((q+x) % 256:Nat):Int) by omega,ZcA,Zf] at hown1
    refine⟨k+1,(q+x) / 256,D++ [(q+x) % 256],by go_num,by rw [show (((q:Int)+(x:Int)) / 256)=(((q+x) / 256:Nat):Int) by omega],by omega,by omega,⟨by omega,?_⟩,by have:=hDl.out;simp [Hid,this],ZH hD.out (Nat.mod_lt _ (by omega)),Zf7 hDl.out hlv.out Hx.out,by rw [List.length_append];exact hown1,hB1⟩
    intro h
    rw [show k+1 - L.length=0 by omega]
    simp
    omega
   case measure=>
    rw [show (((q:Int)+(x:Int)) / 256)=(((q+x) / 256:Nat):Int) by omega]
    exact Zih hlt (by omega)
  ·by_cases hq0:0< q
   ·go_wp2_with (first|(at_builtin;refine Zbe rfl _ _ _ rfl w.heap.size 5 _ 1 Tryz.underlying118 natB.info5 rfl _ (nums .u8 D) rfl (by rw [Zf];exact hown.alloc _) _ _ rfl (ZcP _ _ _) rfl (by have:=hDl.out;rw [Zf];omega) (by have:=hDl.out;rw [Zf];omega) (by have:=hB.size;simp;omega) ?_))
    intro v' w1 hown1 hg1
    have hB1:Below w.heap.size w w1:=(hB.alloc hB.size _).grown hg1 (hB.alloc hB.size _).size (ZaF hown)
    clear hg1 hown
    go_wp2
    go_roundw
    case rel=>
     rw [show ((q:Int) % 256)=(((q+0) % 256:Nat):Int) by omega,ZcA,Zf] at hown1
     have hb7:=Zif (hk2.out.2 (by omega)) hq0
     refine⟨k+1,(q+0) / 256,D++ [(q+0) % 256],by go_num,by rw [show ((q:Int) / 256)=(((q+0) / 256:Nat):Int) by omega],by omega,by omega,⟨by omega,?_⟩,by have:=hDl.out;simp [Hid,this],ZH hD.out (Nat.mod_lt _ (by omega)),Zf7 hDl.out hlv.out ?_,by rw [List.length_append];exact hown1,hB1⟩
     ·intro _
      rw [show k+1 - L.length=(k - L.length)+1 by omega]
      exact Zie (hk2.out.2 (by omega))
     ·simp [List.getD,List.getElem?_eq_none (Nat.le_of_not_lt hlt)]
    case measure=>exact Zig hlt hq0
   ·obtain rfl:q=0:=by omega
    have HV:=Lib.hid (show lv 256 D=lv 256 L by
     have:=hlv.out
     rw [Zc _ _ (by omega)] at this
     omega)
    clear hq0 hlv hk2
    rcases Zf5 (by rw [Zf];exact hown) with ⟨rfl,hnil⟩|⟨g,cp,rfl,hg,hP⟩
    ·have hD0:D= []:=by simpa [nums] using hnil
     subst hD0
     have hcv:=run_convert_bytes_nil (P:=Tryz.prog) wr 118 5 Tryz.underlying118 Tryz.underlying5 0 0 9 Tryz.underlying9
     go_wp2_with fail
     refine wp_loop_rounds 1 ?_
     rw [rounds_succ]
     go_wp2_with (first|(go_at_call 80;refine(Zd2 _ _).mono ?_;rintro e w' ⟨rfl,rfl⟩))
     go_ret
     exact⟨Zw (congrArg enc HV.out),hB⟩
    ·rw [Zf] at*
     clear hown
     have hn1:D.length≤35184372088842:=by have:=hDl.out;omega
     have hP0:Pre wr g 5 cp (nums .u8 (revTo D 0)):=by rw [Zdg];exact hP
     clear hP hDl
     obtain⟨n,hn⟩:∃ n,n=D.length:=⟨_,rfl⟩
     rw [← hn] at hn1 ⊢
     have Hn:=Lib.hid hn
     clear hn
     go_wp2_with fail
     go_loopw [6,7] (fun s6 s7 wx=>∃ (j:Nat) (e:Int),s6= .int .i64 j∧s7= .int .i64 e∧Hid (e=(n:Int) - 1 - (j:Int))∧2*j≤n∧Pre wx g 5 cp (nums .u8 (revTo D j))∧Below w.heap.size w wx) (fun s6 _ _=>n - (intOf s6).toNat)
     case atStart=>exact⟨0,_,rfl,rfl,by simp [Hid],by omega,hP0,hB⟩
     case round=>
      rename_i wx
      obtain⟨j,e,rfl,rfl,he,hj,hPj,hBj⟩:=hrel
      clear hP0 hB
      by_cases hlj:2*j+1< n
      ·obtain⟨m,hm⟩:∃ m:Nat,e=(m:Int):=⟨n - 1 - j,by have:=he.out;omega⟩
       subst hm
       have hm2:m=n - 1 - j:=by have:=he.out;omega
       have hjm:j< m:=by omega
       have hmn:m< n:=by omega
       have Hm:=Lib.hid hm2
       clear hm2
       have c1:=hPj.int (i:=j) (by rw [Zao,← Hn.out];omega)
       have c2:=hPj.int (i:=m) (by rw [Zao,← Hn.out];omega)
       rw [ZbA (Nat.le_refl _) (by rw [← Hn.out];omega)] at c1
       rw [ZbA (by omega) (by rw [← Hn.out];have:=Hm.out;omega)] at c2
       obtain⟨x,hx⟩:∃ x,x=D.getD j 0:=⟨_,rfl⟩
       obtain⟨y,hy⟩:∃ y,y=D.getD m 0:=⟨_,rfl⟩
       rw [← hx] at c1
       rw [← hy] at c2
       have f1:=hPj.frozen j
       have f2:=hPj.frozen m
       have Hx:=Lib.hid hx
       have Hy:=Lib.hid hy
       clear hx hy
       go_wp2
       go_region
       go_wp2
       go_roundw
       case rel=>
        have hS:=(hPj.int_set j y).int_set m x
        rw [Hx.out,Hy.out,Hm.out,Hn.out,Zdh (by rw [← Hn.out];exact hlj)] at hS
        refine⟨j+1,(m:Int) - 1,by go_num,by go_num,?_,by omega,?_,((hBj.setCell hg _).setCell hg _).drew⟩
        ·have:=he.out;show _=_;omega
        ·rw [Hx.out,Hy.out,Hm.out,Hn.out];exact hS.drew
       case measure=>simp [intOf]<;>omega
      ·have hnj:n≤2*j+1:=by omega
       have HE:=Lib.hid (Zel (D:=D) (j:=j) (by rw [← Hn.out];exact hj) (by rw [← Hn.out];exact hnj))
       rw [HE.out] at hPj
       have hcv:=ZeV hPj (fun d hd=>hD.out d (by simpa using hd)) n (by rw [List.length_reverse,← Hn.out])
       have HF:=Lib.hid (show nv ⟨(D.reverse.map fun d=>UInt8.ofNat d).toArray⟩=lv 256 L by
        show nvl _=_
        rw [Zdk _ (fun d hd=>hD.out d (by simpa using hd)),List.reverse_reverse,HV.out])
       have he0:e=(n:Int) - 1 - (j:Int):=he.out
       have hej:¬ (j:Int)< e:=by omega
       clear he0 hnj hlj
       go_wp2_with (first|(go_at_call 80;refine(Zd2 _ _).mono ?_;rintro e w' ⟨rfl,rfl⟩))
       go_ret
       exact⟨Zw (congrArg enc (by rw [← List.map_reverse];exact HF.out)),hBj⟩
end Go.Proofs.YtbgokkfhohodgaaGreatDoor.refB
namespace Go.Proofs.YtbgokkfhohodgaaGreatDoor.natJ
open Go.RowKit num mem natA natB natC natD natE natF natG natH natI dec refA refB
def sliceLen:Value→Nat| .slice _ n _=>n|_=>0
theorem Zjs {r x:Nat} (hr:r< 10) (hx:x< 4294967296):∃ q r':Nat,
  IntKind.u64.wrap ((bits .or .u64 ((r:Int)*4294967296) (x:Int)).tdiv 10) % 4294967296=(q:Int)∧
  (bits .or .u64 ((r:Int)*4294967296) (x:Int)).tmod 10=(r':Int)∧q< 4294967296∧r'< 10∧q*10+r'=r*4294967296+x:=
 Zem (y:=10) hr (by omega) hx
set_option maxHeartbeats 1000000 in
set_option maxRecDepth 100000 in
theorem Text_any (a:ByteArray) (w:World) (ha:a.size≤17592186044416):
  Calls Tryz.prog 192 #[.string a] w fun e w'=>e= .returned (.string (dec (nv a)))∧Below w.heap.size w w':=by
 obtain⟨n,hn⟩:∃ n,nv a=n:=⟨_,rfl⟩
 have hdl:(decL n).length≤52776558133248:=by
  have h1:=Zhi (Zcz a)
  rw [hn] at h1
  omega
 rw [hn]
 have Hn:=Lib.hid hn
 have Hdl:=Lib.hid hdl
 clear hdl
 have hwn:wlen 4 n≤a.size:=by
  rw [← hn]
  refine(Zcj (by omega)).2 ?_
  have h1:=Zcz a
  have h2:256 ^ a.size≤(256 ^ 4) ^ a.size:=Nat.pow_le_pow_left (by decide) _
  exact Nat.lt_of_lt_of_le h1 h2
 clear hn
 obtain⟨p,hp⟩:∃ p,wlen 4 n=p:=⟨_,rfl⟩
 have Hp:=Lib.hid hp
 rw [hp] at hwn
 clear hp
 go_enter Tryz.func192,Tryz.ntmps192
 go_wp2_with fail
 refine(Z2 a _ (by omega)).mono ?_
 rintro e w1 ⟨b,rfl,hX,hbx,hb1⟩
 rw [Hn.out,Hp.out]
 rw [Hn.out] at hX
 have hbl:=hX.lt
 go_wp2_with fail
 go_loopg [3,4] (decL n).length (fun g sl so wr=>∃ (D X:List Nat) (vo:Value),vo=so∧g=(decL (lv 4294967296 X)).length∧sl= .slice (some ⟨b,0,none⟩) X.length p∧X.length≤p∧Hid (∀ d∈X,d< 4294967296)∧Hid (0< X.length→0< lv 4294967296 X)∧Hid (decL n=D++decL (lv 4294967296 X))∧
   Pre wr b 154 p (nums .u32 X)∧wr.ownsRow w1.heap.size 5 1 vo D.length (nums .u8 (D.map (48+ ·)))∧Below w.heap.size w wr∧Hid (w1.heap.size≤wr.heap.size))
 case atStart=>
  refine⟨[],w32 n,_,rfl,by rw [Zaf],by rw [Zk,Hp.out],by rw [Zk,Hp.out];exact Nat.le_refl _,ZaS n,?_,by show _=_;rw [Zaf];rfl,?_,World.ownsRow_nil _ _ _ _,hb1,Nat.le_refl _⟩
  ·intro h
   rw [Zaf]
   apply Nat.pos_of_ne_zero
   intro h0
   rw [Zk] at h
   have:=(@Zcj 4 n 0 (by omega)).2 (by rw [h0];simp)
   omega
  ·have:=hX.pre
   rw [Zf,Zk,Hp.out] at this
   exact this
 case round=>
  obtain⟨wo,rfl⟩:∃ wo:World,wo=wr:=⟨_,rfl⟩
  obtain⟨D,X,vo,rfl,hg,rfl,hXp,hXd,hXt,hdec,hP,hown,hB,hsz⟩:=hrel
  clear hX
  by_cases h0:0< X.length
  ·have hv0:=hXt.out h0
   have hgk:gk=(decL (lv 4294967296 X / 10)).length+1:=by rw [hg,decL_pos (by omega)];rfl
   subst hgk
   clear hg
   go_wp2_with fail
   go_loopw [5,6] (fun rr i wr=>∃ (k r:Nat) (e:Int) (Z:List Nat),k≤X.length∧i= .int .i64 e∧e=(k:Int) - 1∧rr= .int .u64 r∧r< 10∧Hid (Z.length=X.length - k)∧Hid (∀ d∈Z,d< 4294967296)∧Hid (lv 4294967296 Z*10+r=lv 4294967296 (X.drop k))∧
     Pre wr b 154 p (nums .u32 (X.take k++Z))∧wr.ownsRow w1.heap.size 5 1 vo D.length (nums .u8 (D.map (48+ ·)))∧Below w.heap.size w wr∧Hid (w1.heap.size≤wr.heap.size)) (fun _ i _=>(intOf i+1).toNat)
   case atStart=>
    refine⟨X.length,0,_, [],Nat.le_refl _,rfl,by go_num,rfl,by omega,by simp [Hid],(by intro d hd;cases hd),?_,?_,hown,hB,hsz⟩
    ·show _=_;rw [List.drop_of_length_le (Nat.le_refl _)];simp [lv]
    ·rw [List.append_nil,List.take_of_length_le (Nat.le_refl _)];exact hP
   case round=>
    obtain⟨k,r,e,Z,hk,rfl,he,rfl,hr,hZl,hZ,hlv,hPr,hownr,hBr,hszr⟩:=hrel
    clear hP hown hB hsz
    rcases k with _|j
    ·obtain rfl:e=-1:=by simpa using he
     clear he
     have hlz:lv 4294967296 Z=lv 4294967296 X / 10∧r=lv 4294967296 X % 10:=by
      have h1:=hlv.out
      rw [List.drop_zero] at h1
      omega
     have hPz:Pre wr b 154 p (nums .u32 Z):=hPr
     have HLZ:=Lib.hid hlz
     have hDl:D.length≤52776558133248:=by
      have h1:=Hdl.out
      rw [hdec.out,List.length_append] at h1
      omega
     rw [Nat.sub_zero] at hZl
     clear hlz hPr
     go_wp2_with (first|(at_builtin;refine Zbe rfl _ _ _ rfl w1.heap.size 5 _ 1 Tryz.underlying118 natB.info5 rfl _ (nums .u8 (D.map (48+ ·))) rfl (by rw [Zf,List.length_map];exact hownr.alloc _) _ _ rfl (ZcP _ _ _) rfl (by rw [Zf,List.length_map];omega) (by rw [Zf,List.length_map];omega) (by have:=hszr.out;simp;omega) ?_))
     intro v' w2 hown2 hg2
     have hPz2:=(hPz.alloc _).grown hg2 (by
      intro e
      have:=ZaF hownr b e.symm
      omega)
     have hB2:Below w.heap.size w w2:=(hBr.alloc hBr.size _).grown hg2 (hBr.alloc hBr.size _).size (by
      intro k hk
      have:=ZaF hownr k hk
      have:=hb1.size
      omega)
     have hsz2:=Lib.hid (show w1.heap.size≤w2.heap.size by
      have h1:=hg2.size
      have h2:=hszr.out
      simp at h1
      omega)
     rw [show (48:Int)+(r:Int)=((48+r:Nat):Int) by omega,ZcA,Zf,List.length_map] at hown2
     clear hownr hPz hg2 hBr hszr
     go_wp2_with fail
     go_loop [3] (fun sl=>∃ k:Nat,k≤Z.length∧sl= .slice (some ⟨b,0,none⟩) k p∧Hid (lv 4294967296 (Z.take k)=lv 4294967296 Z)) (fun sl=>sliceLen sl)
     case atStart=>exact⟨Z.length,Nat.le_refl _,by rw [hZl.out],by show _=_;rw [List.take_of_length_le (Nat.le_refl _)]⟩
     case round=>
      obtain⟨k,hkz,rfl,hz⟩:=hrel
      rcases k with _|j
      ·go_wp2_with fail
       go_roundg (decL (lv 4294967296 X / 10)).length
       case measure=>omega
       case rel=>
        have hPk:=hPz2.take (0)
        rw [ZaY] at hPk
        have hlk:(Z.take (0)).length=0:=by rw [List.length_take];omega
        refine⟨D++ [r],Z.take (0),v',rfl,by rw [hz.out,HLZ.out.1],by rw [hlk],by rw [hlk];omega,fun d hd=>hZ.out d (List.mem_of_mem_take hd),?_,?_,hPk,?_,hB2,hsz2⟩
        ·intro h
         simp at h
        ·show _=_
         rw [hz.out,HLZ.out.1,HLZ.out.2]
         exact ZeR hdec.out (by omega)
        ·rw [List.length_append,List.map_append];exact hown2
      ·have c1:=hPz2.int (i:=j) (by omega)
       obtain⟨x,hx⟩:∃ x,x=Z.getD j 0:=⟨_,rfl⟩
       rw [← hx] at c1
       obtain⟨k,hkj⟩:∃ k,k=j+1:=⟨_,rfl⟩
       have hkZ:k≤Z.length:=by omega
       have hkX:k≤X.length:=by have:=hZl.out;omega
       have e1:IntKind.i64.wrap ((k:Int) - 1)=(j:Int):=by rw [IntWalk.i64_in _ (by omega)];omega
       have hk0:0< k:=by omega
       have hjz:j< Z.length:=by omega
       have hjk:j< k:=by omega
       rw [← hkj] at hz ⊢
       have Hkj:=Lib.hid hkj
       clear hkj hkz
       by_cases hx0:x=0
       ·subst hx0
        have hz2:=Lib.hid (show lv 4294967296 (Z.take j)=lv 4294967296 Z by rw [← hz.out,Hkj.out];exact(Zez hx.symm).symm)
        clear hx
        go_wp2_with fail
        go_round
        case rel=>exact⟨j,by omega,rfl,hz2.out⟩
        case measure=>simp [sliceLen];exact hjk
       ·have hx1:((x:Int)==0)=false:=by simp;omega
        have Hx:=Lib.hid (show 0< Z.getD j 0 by omega)
        clear hx hx0
        go_wp2_with fail
        go_roundg (decL (lv 4294967296 X / 10)).length
        case measure=>omega
        case rel=>
         have hPk:=hPz2.take k
         rw [ZaY] at hPk
         have hlk:(Z.take k).length=k:=by rw [List.length_take];omega
         refine⟨D++ [r],Z.take k,v',rfl,by rw [hz.out,HLZ.out.1],by rw [hlk],by rw [hlk];omega,fun d hd=>hZ.out d (List.mem_of_mem_take hd),?_,?_,hPk,?_,hB2,hsz2⟩
         ·intro h
          refine Zla (k:=j) (by rw [hlk,Hkj.out]) ?_ (by omega)
          rw [List.getD,List.getElem?_take_of_lt (by omega)]
          exact Hx.out
         ·show _=_
          rw [hz.out,HLZ.out.1,HLZ.out.2]
          exact ZeR hdec.out (by omega)
         ·rw [List.length_append,List.map_append];exact hown2
    ·obtain rfl:e=(j:Int):=by omega
     clear he
     obtain⟨x,hx⟩:∃ x:Nat,x=X.getD j 0:=⟨_,rfl⟩
     have hxl:x< 4294967296:=by rw [hx];exact Zq (by omega) hXd.out j
     have c1:=hPr.int (i:=j) (by rw [List.length_append,List.length_take,hZl.out];omega)
     rw [show (X.take (j+1)++Z).getD j 0=x by rw [hx];rw [List.getD,List.getElem?_append_left (by rw [List.length_take];omega),List.getElem?_take_of_lt (by omega)];rfl] at c1
     have f1:=hPr.frozen j
     have Hx:=Lib.hid hx
     obtain⟨q,r',e1,e2,hq,hr',h5⟩:=Zjs hr hxl
     have E1:=Lib.hid e1
     have E2:=Lib.hid e2
     have H5:=Lib.hid h5
     clear hx e1 e2 h5
     go_wp2_with fail
     go_roundw
     case rel=>
      rw [E1.out,E2.out]
      have hR':=hPr.int_set j q
      have hl:(X.take j).length=j:=by rw [List.length_take];omega
      have e:(X.take (j+1)++Z).set j q=X.take j++(q :: Z):=by
       rw [List.take_succ_eq_append_getElem (by omega),List.append_assoc,List.set_append_right _ _ (by rw [hl];exact Nat.le_refl _),hl,Nat.sub_self]
       rfl
      rw [e] at hR'
      refine⟨j,r',_,q :: Z,by omega,rfl,by go_num,rfl,hr',by have:=hZl.out;simp [Hid,this];omega,?_,?_,hR',ownsRow_setCell_below hownr hbl _,hBr.setCell hbx _,by show _≤_;simp [World.setCell];exact hszr.out⟩
      ·intro d hd
       rcases List.mem_cons.1 hd with rfl|hd
       ·exact hq
       ·exact hZ.out d hd
      ·show _=_
       have hd:X.drop j=x :: X.drop (j+1):=by
        rw [List.drop_eq_getElem_cons (by omega)]
        congr 1
        rw [Hx.out]
        simp [List.getD,List.getElem?_eq_getElem (show j< X.length by omega)]
       rw [hd,ZO,ZO,← hlv.out,Nat.add_mul,Nat.mul_add,Nat.mul_assoc]
       have:=H5.out
       generalize lv 4294967296 Z*10=z at*
       omega
     case measure=>simp [intOf]<;>omega
  ·have hX0:X= []:=List.eq_nil_of_length_eq_zero (by omega)
   subst hX0
   have hD:decL n=D:=by have:=hdec.out;rw [Zbc,decL_zero,List.append_nil] at this;exact this
   clear hg hdec hXt hXd hXp h0 hP
   rcases Zf5 (by rw [Zf,List.length_map];exact hown) with ⟨rfl,hnil⟩|⟨g,cp,rfl,hg,hP⟩
   ·have hD0:D= []:=by simpa [nums] using hnil
    subst hD0
    have HV:=Lib.hid (show dec n=⟨#[48]⟩ by rw [Zgs hD,Zgr])
    clear hD
    go_wp2_with fail
    go_ret
    exact⟨Zw HV.out.symm,hB⟩
   ·rw [Zf,List.length_map] at*
    clear hown
    have hDl:D.length≤52776558133248:=by rw [← hD];exact Hdl.out
    have hDd:=Lib.hid (show ∀ d∈D,d< 10 by rw [← hD];exact ZkL n)
    have HD:=Lib.hid hD
    obtain⟨E,hE⟩:∃ E,E=D.map (48+ ·):=⟨_,rfl⟩
    have hEl:E.length=D.length:=by rw [hE,List.length_map]
    rw [← hE] at hP
    have hP0:Pre wo g 5 cp (nums .u8 (revTo E 0)):=by rw [Zdg];exact hP
    obtain⟨n',hn'⟩:∃ n,n=D.length:=⟨_,rfl⟩
    rw [← hn'] at hDl hEl ⊢
    by_cases hn0:n'=0
    ·have hD0:D= []:=List.eq_nil_of_length_eq_zero (by omega)
     subst hD0
     subst hn0
     have HV:=Lib.hid (show dec n=⟨#[48]⟩ by rw [Zgs hD,Zgr])
     clear hD hn' hP hP0 hE hEl
     go_wp2_with fail
     go_ret
     exact⟨Zw HV.out.symm,hB⟩
    ·have HE:=Lib.hid hE
     have HN:=Lib.hid (show E.length=n'∧n'=D.length from⟨hEl,hn'⟩)
     have hn1:0< n':=by omega
     clear hE hEl hP hD hn' hn0
     have hgw:w.heap.size≤g:=by have:=hb1.size;omega
     have HV:=Lib.hid (show (⟨(E.reverse.map fun d=>UInt8.ofNat d).toArray⟩:ByteArray)=dec n by
      have hn0:n≠0:=by
       intro h
       have h1:=HD.out
       rw [h,decL_zero] at h1
       have h2:=HN.out.2
       rw [← h1] at h2
       simp at h2
       omega
      rw [dec_pos hn0,HD.out,HE.out,← List.map_reverse,List.map_map]
      rfl)
     have HEd:=Lib.hid (show ∀ d∈E,d< 256 by
      rw [HE.out]
      intro d hd
      obtain⟨x,hx,rfl⟩:=List.mem_map.1 hd
      have:=hDd.out x hx
      show 48+x< 256
      omega)
     go_wp2_with fail
     go_loopw [7,8] (fun s6 s7 wx=>∃ (j:Nat) (e:Int),s6= .int .i64 j∧s7= .int .i64 e∧Hid (e=(n':Int) - 1 - (j:Int))∧2*j≤n'∧Pre wx g 5 cp (nums .u8 (revTo E j))∧Below w.heap.size w wx) (fun s6 _ _=>n' - (intOf s6).toNat)
     case atStart=>exact⟨0,_,rfl,rfl,by simp [Hid],by omega,hP0,hB⟩
     case round=>
      rename_i wx
      obtain⟨j,e,rfl,rfl,he,hj,hPj,hBj⟩:=hrel
      clear hP0 hB
      by_cases hlj:2*j+1< n'
      ·obtain⟨m,hm⟩:∃ m:Nat,e=(m:Int):=⟨n' - 1 - j,by have:=he.out;omega⟩
       subst hm
       have hm2:m=n' - 1 - j:=by have:=he.out;omega
       have hjm:j< m:=by omega
       have hmn:m< n':=by omega
       have Hm:=Lib.hid hm2
       clear hm2
       have c1:=hPj.int (i:=j) (by rw [Zao,HN.out.1];omega)
       have c2:=hPj.int (i:=m) (by rw [Zao,HN.out.1];omega)
       rw [ZbA (Nat.le_refl _) (by rw [HN.out.1];omega)] at c1
       rw [ZbA (by omega) (by rw [HN.out.1];have:=Hm.out;omega)] at c2
       obtain⟨x,hx⟩:∃ x,x=E.getD j 0:=⟨_,rfl⟩
       obtain⟨y,hy⟩:∃ y,y=E.getD m 0:=⟨_,rfl⟩
       rw [← hx] at c1
       rw [← hy] at c2
       have f1:=hPj.frozen j
       have f2:=hPj.frozen m
       have Hx:=Lib.hid hx
       have Hy:=Lib.hid hy
       clear hx hy
       go_wp2
       go_region
       go_wp2
       go_roundw
       case rel=>
        have hS:=(hPj.int_set j y).int_set m x
        rw [Hx.out,Hy.out,Hm.out,← HN.out.1,Zdh (by rw [HN.out.1];exact hlj)] at hS
        refine⟨j+1,(m:Int) - 1,by go_num,by go_num,?_,by omega,?_,((hBj.setCell hgw _).setCell hgw _).drew⟩
        ·have:=he.out;show _=_;omega
        ·rw [Hx.out,Hy.out,Hm.out,← HN.out.1];exact hS.drew
       case measure=>simp [intOf]<;>omega
      ·have hnj:n'≤2*j+1:=by omega
       have HR:=Lib.hid (Zel (D:=E) (j:=j) (by rw [HN.out.1];exact hj) (by rw [HN.out.1];exact hnj))
       rw [HR.out] at hPj
       have hcv:=ZeV hPj (fun d hd=>HEd.out d (by simpa using hd)) n' (by rw [List.length_reverse,HN.out.1])
       have he0:e=(n':Int) - 1 - (j:Int):=he.out
       have hej:¬ (j:Int)< e:=by omega
       clear he0 hnj hlj
       go_wp2_with fail
       go_ret
       exact⟨Zw (by rw [← List.map_reverse];exact HV.out),hBj⟩
end Go.Proofs.YtbgokkfhohodgaaGreatDoor.natJ
namespace Go.Proofs.YtbgokkfhohodgaaGreatDoor.ratF
open Go.RowKit num mem seg q ratA held ratB ratC ratD ratE vars
theorem Zku {p q:Rat} {u:Bool} {c f:ByteArray} {k:Int} (h:q=0∧u=false∧c=⟨#[]⟩∧f=⟨#[]⟩∧k=12∨q≠0∧k=0∧Is (p / q) u c f) (hq:q≠0):k=0∧Is (p / q) u c f:=by
 rcases h with h|h
 ·exact absurd h.1 hq
 ·exact h.2
def sgnQ (p:Rat):Int:=if p.num=0 then 0 else if p.num< 0 then -1 else 1
set_option maxHeartbeats 1000000 in
theorem ZhU (s:Bool) (a d:ByteArray) (w:World) (ha:a.size≤17592186044416) (hd:d.size≤17592186044416) (hT:Tab w):
  Calls Tryz.prog 71 #[.agg #[.bool s,.string a,.string d]] w fun x w'=>x= .returned (.int .i64 (sgnQ (qv s a d)))∧Below w.heap.size w w':=by
 have V0:=vars1 w 23 [.bool s,.string a,.string d]
 obtain⟨p,hp⟩:∃ p,qv s a d=p:=⟨_,rfl⟩
 rw [hp]
 have HP:=Lib.hid hp
 clear hp
 go_enter Tryz.func71,Tryz.ntmps71
 go_wp2_with fail
 refine(ZZ s a d _ ha hd (V0.tab hT)).mono ?_
 rintro _ w1 ⟨u,c,f,rfl,i1,hb1⟩
 rw [HP.out] at i1
 have V1:=V0.call hb1
 obtain⟨r0,r1,r2,f0,f1,f2⟩:=row3 (V1.row 0 rfl)
 obtain⟨n,m,rfl,rfl,hn,hm,hmp,hx⟩:=i1.parts
 have V2:=V1.put3 0 rfl (.bool u) (.string (enc n)) (.string (enc m))
 by_cases h0:n=0
 ·have HS:=Lib.hid (show sgnQ p=0 by unfold sgnQ;rw [if_pos (by rw [← hn,h0];unfold sg;simp)])
  subst h0
  rw [ZB] at V2 ⊢
  clear hn hm hmp hx i1
  go_wp2_with fail
  go_ret
  exact⟨ZL HS.out.symm,V2.1⟩
 ·have hne:=natO.enc_ne (show 0< n by omega)
  have hnum:p.num≠0:=by
   intro h;apply h0;rw [hx,h];rfl
  have hu:=i1.1
  cases u with
  |true=>
   have HS:=Lib.hid (show sgnQ p=-1 by unfold sgnQ;rw [if_neg hnum,if_pos (by simpa using hu.symm)])
   clear hn hm hmp hx i1 h0 hnum hu
   go_wp2_with fail
   go_ret
   exact⟨ZL HS.out.symm,V2.1⟩
  |false=>
   have HS:=Lib.hid (show sgnQ p=1 by unfold sgnQ;rw [if_neg hnum,if_neg (by simpa using hu.symm)])
   clear hn hm hmp hx i1 h0 hnum hu
   go_wp2_with fail
   go_ret
   exact⟨ZL HS.out.symm,V2.1⟩
theorem ZkH:enc 2=⟨#[2]⟩:=by
 have h:nv ⟨#[2]⟩=2:=by decide
 rw [← h]
 exact Z9 (by intro c r e;simp at e;rw [← e.1];decide)
theorem ZdT:Is (((2:Int):Rat) / ((-4:Int):Rat)) true ⟨#[1]⟩ ⟨#[2]⟩:=by
 have h1:(((2:Int):Rat) / ((-4:Int):Rat)).num=-1:=by decide+kernel
 have h2:(((2:Int):Rat) / ((-4:Int):Rat)).den=2:=by decide+kernel
 refine⟨?_,?_,?_⟩
 ·rw [h1];rfl
 ·rw [h1,← enc_one];rfl
 ·rw [h2,ZkH]
set_option maxHeartbeats 1000000 in
theorem Zjb (w:World) (hT:Tab w):Calls Tryz.prog 158 #[.agg #[.bool true,.string ⟨#[1]⟩,.string ⟨#[2]⟩]] w fun x w'=>x= .returned (.string ⟨#[45,49,47,50]⟩)∧Below w.heap.size w w':=by
 have V0:=vars1 w 23 [.bool true,.string ⟨#[1]⟩,.string ⟨#[2]⟩]
 have d1:dec.dec 1=⟨#[49]⟩:=by rw [dec.dec_pos (by decide),dec.decL_pos (by decide),show 1 / 10=0 from rfl,dec.decL_zero];rfl
 have d2:dec.dec 2=⟨#[50]⟩:=by rw [dec.dec_pos (by decide),dec.decL_pos (by decide),show 2 / 10=0 from rfl,dec.decL_zero];rfl
 have D1:=Lib.hid d1
 have D2:=Lib.hid d2
 clear d1 d2
 go_enter Tryz.func158,Tryz.ntmps158
 go_wp2_with fail
 refine(ZZ _ _ _ _ (by decide) (by decide) (V0.tab hT)).mono ?_
 rintro _ w1 ⟨u,c,f,rfl,i1,hb1⟩
 rw [ZdT.val] at i1
 obtain⟨rfl,rfl,rfl⟩:=i1.inj ZdT
 clear i1
 have V1:=V0.call hb1
 obtain⟨r0,r1,r2,f0,f1,f2⟩:=row3 (V1.row 0 rfl)
 have V2:=V1.put3 0 rfl (.bool true) (.string ⟨#[1]⟩) (.string ⟨#[2]⟩)
 go_wp2_with fail
 refine(natJ.Text_any ⟨#[1]⟩ _ (by decide)).mono ?_
 rintro _ w2 ⟨rfl,hb2⟩
 rw [show nv ⟨#[1]⟩=1 from nv_one,D1.out]
 have V3:=V2.call hb2
 obtain⟨r0,r1,r2,f0,f1,f2⟩:=row3 (V3.row 0 rfl)
 go_wp2_with fail
 refine(natJ.Text_any ⟨#[2]⟩ _ (by decide)).mono ?_
 rintro _ w4 ⟨rfl,hb4⟩
 rw [show nv ⟨#[2]⟩=2 by decide,D2.out]
 have V4:=V3.call hb4
 go_wp2_with fail
 go_ret
 exact⟨by rfl,V4.1⟩
set_option maxHeartbeats 1000000 in
theorem Zen (w:World) (hT:Tab w):Calls Tryz.prog 92 #[] w fun x w'=>x= .returned (.bool true)∧Below w.heap.size w w':=by
 have V0:=Vars.nil w
 have hg:decide (good true ⟨#[1]⟩ ⟨#[2]⟩)=true:=decide_eq_true ZdT.fine
 have HG:=Lib.hid hg
 clear hg
 go_enter Tryz.func92,Tryz.ntmps92
 go_wp2_with fail
 refine(Zep 2 (-4) _ (by decide) (by decide) (by decide) (by decide) (V0.tab hT)).mono ?_
 rintro _ w1 ⟨u,c,f,k,rfl,hq,hb1⟩
 obtain⟨rfl,i1⟩:=Zku hq (by decide+kernel)
 obtain⟨rfl,rfl,rfl⟩:=i1.inj ZdT
 clear hq i1
 have V1:=V0.call hb1
 have V2:=V1.push 23 [.bool true,.string ⟨#[1]⟩,.string ⟨#[2]⟩]
 obtain⟨r0,r1,r2,f0,f1,f2⟩:=row3 (V2.row 0 rfl)
 go_wp2_with fail
 refine(Zjb _ (V2.tab hT)).mono ?_
 rintro _ w2 ⟨rfl,hb2⟩
 have V3:=V2.call hb2
 obtain⟨r0,r1,r2,f0,f1,f2⟩:=row3 (V3.row 0 rfl)
 go_wp2_with fail
 refine(Zci _ _ _ _ (by decide) (by decide) (V3.tab hT)).mono ?_
 rintro _ w4 ⟨rfl,hb4⟩
 rw [HG.out]
 have V4:=V3.call hb4
 go_wp2_with fail
 go_ret
 exact⟨rfl,V4.1⟩
end Go.Proofs.YtbgokkfhohodgaaGreatDoor.ratF
