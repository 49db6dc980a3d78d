/- Joined by wip/bundle.py: XBrd0 XBrdA XBrdR XLawBrd. -/
import Derived.Test.YtbgokkfhohodgaaGreatDoorGrp7
import Derived.Test.YtbgokkfhohodgaaGreatDoorGrpS
import Derived.Test.YtbgokkfhohodgaaGreatDoorWg
import Derived.Laws.BitsAllLaws
set_option maxRecDepth 100000
namespace Go.Proofs.YtbgokkfhohodgaaGreatDoor.eng
open Go.RowKit num mem seg q held ratA ratB ratC ratD ratE vars ratF
set_option exponentiation.threshold 4000
section
variable {K : AV → Prop} {T : TypeId} {ox oy : Operand}
theorem bwu64 {m:Int} (h0:0≤m) (h1:m< 18446744073709551616):IntKind.u64.wrap m=m:=by
 unfold IntKind.wrap
 simp [IntKind.signed,IntKind.bits]
 omega
theorem Zj2 (n:Nat):IntKind.u8.wrap (n:Int)=((n % 256:Nat):Int):=by
 unfold IntKind.wrap
 simp [IntKind.signed,IntKind.bits]
theorem bwu8 {m:Int} (h0:0≤m) (h1:m< 256):IntKind.u8.wrap m=m:=by
 unfold IntKind.wrap
 simp [IntKind.signed,IntKind.bits]
 omega
theorem Zjm (T:TypeId) (ox oy:Operand) (k:IntKind) (n r:Nat) (hr:r≤64) (w:World):(do eqGuard .shr T ox oy (.int .u64 (n:Int)) (.int k (r:Int));binOp .shr T (.int .u64 (n:Int)) (.int k (r:Int)):Sem Value).run Tryz.prog w= .ok (.int .u64 ((n / 2 ^ r:Nat):Int)) w:=by
 have hg:eqGuard .shr T ox oy (.int .u64 (n:Int)) (.int k (r:Int))=pure ():=rfl
 rw [hg,binOp_shr]
 unfold Op.shift
 rw [if_neg (by omega)]
 have hm:min (r:Int).toNat IntKind.u64.bits=r:=by rw [Int.toNat_natCast];exact Nat.min_eq_left hr
 have e1:(n:Int).fdiv (2 ^ r)=((n / 2 ^ r:Nat):Int):=by
  have:(2:Int) ^ r=((2 ^ r:Nat):Int):=by rw [Int.natCast_pow];rfl
  rw [this,Int.fdiv_eq_ediv_of_nonneg _ (Int.natCast_nonneg _)]
  exact(Int.natCast_ediv _ _).symm
 simp only [hm,e1]
 rfl
theorem Zay {k:IntKind} {x y:Int} (n r d:Nat) (hx:x=n) (hy:y=r) (hd:2 ^ r=d) (hr:r≤64) (k1:K (one (.int .u64 ((n / d:Nat):Int)))):AskB .shr T ox oy (.int .u64 x) (.int k y) K:=by
 subst hx hy hd
 exact⟨_,⟨_,rfl,rfl,Zjm T ox oy k n r hr⟩,k1⟩
theorem Zjr (T:TypeId) (ox oy:Operand) (n m:Nat) (hn:n< 18446744073709551616) (hm:m< 18446744073709551616) (w:World):(do eqGuard .and T ox oy (.int .u64 (n:Int)) (.int .u64 (m:Int));binOp .and T (.int .u64 (n:Int)) (.int .u64 (m:Int)):Sem Value).run Tryz.prog w= .ok (.int .u64 ((n&&&m:Nat):Int)) w:=by
 rw [← u64_and_nat n m hn hm]
 simp [go_sem]
theorem ZcH {x y:Int} (n j d:Nat) (hx:x=n) (hd:2 ^ j=d) (hy:y=((d - 1:Nat):Int)) (hn:n< 18446744073709551616) (hj:d≤18446744073709551616) (k:K (one (.int .u64 ((n % d:Nat):Int)))):AskB .and T ox oy (.int .u64 x) (.int .u64 y) K:=by
 subst hx hy hd
 refine⟨_,⟨_,rfl,rfl,Zjr T ox oy n (2 ^ j - 1) hn (by omega)⟩,?_⟩
 rw [Nat.and_two_pow_sub_one_eq_mod];exact k
theorem ZhO (T:TypeId) (ox oy:Operand) (n m:Nat) (hn:n< 18446744073709551616) (hm:m< 18446744073709551616) (w:World):(do eqGuard .or T ox oy (.int .u64 (n:Int)) (.int .u64 (m:Int));binOp .or T (.int .u64 (n:Int)) (.int .u64 (m:Int)):Sem Value).run Tryz.prog w= .ok (.int .u64 ((n|||m:Nat):Int)) w:=by
 rw [← u64_or_nat n m hn hm]
 simp [go_sem]
theorem Ziy {x y:Int} (n j d:Nat) (hx:x=n) (hd:2 ^ j=d) (hy:y=(d:Int)) (hn:n< d) (hj:d< 18446744073709551616) (k:K (one (.int .u64 ((n+d:Nat):Int)))):AskB .or T ox oy (.int .u64 x) (.int .u64 y) K:=by
 subst hx hy hd
 refine⟨_,⟨_,rfl,rfl,ZhO T ox oy n (2 ^ j) (by omega) hj⟩,?_⟩
 have e:n|||2 ^ j=n+2 ^ j:=by
  have:=Nat.two_pow_add_eq_or_of_lt hn 1
  rw [Nat.mul_one,Nat.or_comm] at this
  omega
 rw [e];exact k
theorem Ze8 (T:TypeId) (ox oy:Operand) (n m:Nat) (hn:n< 18446744073709551616) (hm:m< 18446744073709551616) (w:World):(do eqGuard .andNot T ox oy (.int .u64 (n:Int)) (.int .u64 (m:Int));binOp .andNot T (.int .u64 (n:Int)) (.int .u64 (m:Int)):Sem Value).run Tryz.prog w= .ok (.int .u64 ((n&&&(18446744073709551615 - m):Nat):Int)) w:=by
 rw [← u64_andNot_nat n m hn hm]
 simp [go_sem]
theorem ZiB {x:Int} (n:Nat) (hx:x=n) (hn:n< 18446744073709551616) (k:K (one (.int .u64 ((n % 9223372036854775808:Nat):Int)))):AskB .andNot T ox oy (.int .u64 x) (.int .u64 9223372036854775808) K:=by
 subst hx
 refine⟨_,⟨_,rfl,rfl,Ze8 T ox oy n 9223372036854775808 hn (by decide)⟩,?_⟩
 rw [show 18446744073709551615 - 9223372036854775808=2 ^ 63 - 1 from by decide,Nat.and_two_pow_sub_one_eq_mod];exact k
theorem Zjn (T:TypeId) (ox oy:Operand) (n r:Nat) (hr:r≤8) (h:n*2 ^ r< 256) (w:World):(do eqGuard .shl T ox oy (.int .u8 (n:Int)) (.int .i64 (r:Int));binOp .shl T (.int .u8 (n:Int)) (.int .i64 (r:Int)):Sem Value).run Tryz.prog w= .ok (.int .u8 ((n*2 ^ r:Nat):Int)) w:=by
 have hg:eqGuard .shl T ox oy (.int .u8 (n:Int)) (.int .i64 (r:Int))=pure ():=rfl
 rw [hg,binOp_shl]
 unfold Op.shift
 rw [if_neg (by omega)]
 have hm:min (r:Int).toNat IntKind.u8.bits=r:=by rw [Int.toNat_natCast];exact Nat.min_eq_left hr
 have e1:(n:Int)*2 ^ r=((n*2 ^ r:Nat):Int):=by rw [Int.natCast_mul,Int.natCast_pow];rfl
 simp only [hm,e1]
 rw [bwu8 (by omega) (by omega)]
 rfl
theorem Zlh {y:Int} (r:Nat) (hy:y=r) (hr:r< 8) (k:K (one (.int .u8 ((2 ^ r:Nat):Int)))):AskB .shl T ox oy (.int .u8 1) (.int .i64 y) K:=by
 subst hy
 have h:2 ^ r≤2 ^ 7:=Nat.pow_le_pow_right (by decide) (by omega)
 have:=Zjn T ox oy 1 r (by omega) (by omega)
 rw [Nat.one_mul] at this
 exact⟨_,⟨_,rfl,rfl,this⟩,k⟩
theorem Zki:(Tryz.prog.underlying 57).isSome=true:=by kernel_rfl
theorem Zlz:Tryz.prog.underlying 3=some (.int .i64):=by kernel_rfl
theorem Zlx:Tryz.prog.underlying 5=some (.int .u8):=by kernel_rfl
theorem Zj4:Tryz.prog.underlying 118=some (.slice 5):=by kernel_rfl
theorem Zly:Tryz.prog.underlying 9=some .string:=by kernel_rfl
theorem ZcG {x:Int} (n:Nat) (hx:x=n) (hn:n< 9223372036854775808) (k:K (int (n:Int))):
  ∃ r,(∃ k',(Tryz.prog.underlying 57).isSome=true∧Tryz.prog.underlying 3=some (.int k')∧r=one (.int k' (k'.wrap x)))∧K r:=
 ⟨_,⟨.i64,Zki,Zlz,rfl⟩,by rw [hx,wrap64 _ (by omega) (by omega)];exact k⟩
theorem ZdQ {x:Int} (n:Nat) (hx:x=n) (k:K (one (.int .u8 ((n % 256:Nat):Int)))):
  ∃ r,(∃ k',(Tryz.prog.underlying 57).isSome=true∧Tryz.prog.underlying 5=some (.int k')∧r=one (.int k' (k'.wrap x)))∧K r:=
 ⟨_,⟨.u8,Zki,Zlx,rfl⟩,by rw [hx,Zj2];exact k⟩
def By (l:List Int):List (List D):=l.map fun n=> [D.v (.int .u8 n)]
theorem ZeG {xs:List (List D)} (ns:List Int) (s:ByteArray) (hx:xs=By ns) (hs:strOfNums ns=s) (k:K (str s)):
  ∃ r,(∃ (e:TypeId) (ns:List Int),xs=ns.map (fun n=> [D.v (.int .u8 n)])∧Tryz.prog.underlying 118=some (.slice e)∧Tryz.prog.underlying e=some (.int .u8)∧Tryz.prog.underlying 9=some .string∧r=one (.string (strOfNums ns)))∧K r:=
 ⟨_,⟨5,ns,hx,Zj4,Zlx,Zly,rfl⟩,by rw [hs];exact k⟩
end
theorem Za2 {K:AV→Prop} {xs:List (List D)} {m:Int} {o v n:Nat} (i:Nat) (hm:m=(i:Int)) (h:i< xs.length) (k:K (.val (.one (.rp o v n i 0)))):
  ∃ r,(0≤m∧m< (xs.length:Int)∧r= .val (.one (.rp o v n m.toNat 0)))∧K r:=⟨_,⟨by omega,by omega,rfl⟩,by subst hm;exact k⟩
def pwL (n:Nat):List Int:=((2 ^ (n % 8):Nat):Int) :: List.replicate (n / 8) 0
def pwB (n:Nat):ByteArray:=strOfNums (pwL n)
theorem Zk3 (n:Nat):(List.replicate (n / 8+1) [D.v (.int .u8 0)]).set 0 [D.v (.int .u8 ((2 ^ (n % 8):Nat):Int))]=By (pwL n):=by
 unfold By pwL
 rw [List.replicate_succ,List.set_cons_zero,List.map_cons,List.map_replicate]
theorem Zh2 (n:Nat):(pwB n).size=n / 8+1:=by
 unfold pwB pwL
 rw [strOfNums_size,List.length_cons,List.length_replicate]
theorem Zh9 (j:Nat):nvl (List.replicate j (0:UInt8))=0:=by
 induction j with
 |zero=>rfl
 |succ j ih=>rw [List.replicate_succ,Zab,ih]
theorem ZlG (n:Nat):nv (pwB n)=2 ^ n:=by
 have h:2 ^ (n % 8)≤2 ^ 7:=Nat.pow_le_pow_right (by decide) (by have:=Nat.mod_lt n (by decide:8 >0);omega)
 unfold nv pwB
 rw [strOfNums_data,pwL,List.map_cons,List.map_replicate,Zaq,show UInt8.ofNat (Int.toNat 0)=0 from rfl,Zh9,List.length_replicate,Int.toNat_natCast]
 rw [show (UInt8.ofNat (2 ^ (n % 8))).toNat=2 ^ (n % 8) from by simp;omega,show (256:Nat)=2 ^ 8 from rfl,← Nat.pow_mul,← Nat.pow_add,Nat.add_zero]
 congr 1
 omega
theorem Zk4 (n:Nat):pwB n=enc (2 ^ n):=by
 have hp:0< 2 ^ (n % 8):=Nat.two_pow_pos _
 have h:2 ^ (n % 8)≤2 ^ 7:=Nat.pow_le_pow_right (by decide) (by have:=Nat.mod_lt n (by decide:8 >0);omega)
 have hs:0< (pwB n).size:=by rw [Zh2];omega
 have h0:(pwB n)[0]=UInt8.ofNat (2 ^ (n % 8)):=rfl
 have:=ZdM (pwB n) hs (by
  rw [h0,beq_eq_false_iff_ne]
  have:(UInt8.ofNat (2 ^ (n % 8))).toNat=2 ^ (n % 8):=by simp;omega
  rw [this]
  omega)
 rw [← this,ZlG]
theorem Zk5 (n:Nat):(⟨false,pwB n,enc 1⟩:RV)=cn ((2 ^ n:Nat):Rat):=by
 rw [Zk4]
 have e:decide ((((2 ^ n:Nat):Rat)).num< 0)=false:=decide_eq_false (Int.not_lt.2 (Int.natCast_nonneg (2 ^ n)))
 unfold cn
 rw [e];rfl
theorem pw_z {n:Nat} (h:n≤2000):qs ((2 ^ n:Nat):Rat)≤300:=by
 rw [← cn_z,← Zk5]
 exact RV.z_of (by rw [Zh2];omega) (by rw [enc_one];decide)
theorem Zhu (n:Nat):((2 ^ n:Nat):Rat)≠0:=by
 have:0< 2 ^ n:=Nat.two_pow_pos n
 intro h
 have h2:((2 ^ n:Nat):Rat)=((0:Nat):Rat):=h
 have:=Rat.natCast_inj.1 h2
 omega
def fE (b:Nat):Nat:=b / 4503599627370496
def fe (b:Nat):Nat:=if fE b=0 then 1 else fE b
def fm (b:Nat):Nat:=if fE b=0 then b % 4503599627370496 else b % 4503599627370496+4503599627370496
def fF (b:Nat):Nat:=fm b*2 ^ fe b
def fltQ (b:Nat):Rat:=(fF b:Rat) / ((2 ^ 1075:Nat):Rat)
theorem Zfv {b:Nat} (h:b / 4503599627370496=0):fe b=1∧fm b=b % 4503599627370496:=⟨if_pos h,if_pos h⟩
theorem Zfw {b:Nat} (h:¬ b / 4503599627370496=0):fe b=b / 4503599627370496∧fm b=b % 4503599627370496+4503599627370496:=⟨if_neg h,if_neg h⟩
theorem ZjT (b:Nat):fm b< 9007199254740992:=by unfold fm;split<;>omega
theorem ZjW {b:Nat} (h:b≤9218868437227405312):1≤fe b∧fe b≤2047:=by unfold fe fE;split<;>omega
theorem Zft {a c:Nat} {B D:Nat} (hB:0< B) (hD:0< D) (h:a*D=c*B):(a:Rat) / (B:Rat)=(c:Rat) / (D:Rat):=by
 have b0:(B:Rat)≠0:=fun e=>by have:=Rat.natCast_inj.1 (show ((B:Nat):Rat)=((0:Nat):Rat) from e);omega
 have d0:(D:Rat)≠0:=fun e=>by have:=Rat.natCast_inj.1 (show ((D:Nat):Rat)=((0:Nat):Rat) from e);omega
 have hq:(a:Rat)*(D:Rat)=(c:Rat)*(B:Rat):=by rw [← Rat.natCast_mul,← Rat.natCast_mul,h]
 grind
theorem Zkh {b:Nat} (h:1075≤fe b):(fm b:Rat)*((2 ^ (fe b - 1075):Nat):Rat)=fltQ b:=by
 have e:=Zft (a:=fm b*2 ^ (fe b - 1075)) (c:=fF b) (B:=1) (D:=2 ^ 1075) (by decide) (Nat.two_pow_pos _) (by
  unfold fF
  rw [Nat.mul_assoc,← Nat.pow_add,Nat.sub_add_cancel h,Nat.mul_one])
 unfold fltQ
 rw [← e,Rat.natCast_mul,show ((1:Nat):Rat)=1 from rfl,Rat.div_def,show (1:Rat)⁻¹=1 from by decide+kernel,Rat.mul_one]
theorem ZiK {b:Nat} (h:fe b< 1075):(fm b:Rat) / ((2 ^ (1075 - fe b):Nat):Rat)=fltQ b:=
 Zft (Nat.two_pow_pos _) (Nat.two_pow_pos _) (by
  unfold fF
  rw [Nat.mul_assoc,← Nat.pow_add]
  congr 2
  omega)
theorem ZeI {b n d:Nat} (hd:0< d) (h:n*2 ^ (1075 - fe b)=fm b*2 ^ (fe b - 1075)*d):Fr ⟨false,enc n,enc d⟩ (fltQ b):=by
 refine⟨by show 0< nv (enc d);rw [Za];exact hd,?_⟩
 show mkRat (sg false (nv (enc n))) (nv (enc d))=_
 rw [Za,Za]
 show mkRat ((n:Nat):Int) d=_
 rw [Rat.mkRat_eq_div]
 show (n:Rat) / (d:Rat)=(fF b:Rat) / _
 refine Zft hd (Nat.two_pow_pos _) ?_
 unfold fF
 rcases Nat.lt_or_ge (fe b) 1075 with c|c
 ·rw [Nat.sub_eq_zero_of_le (Nat.le_of_lt c),Nat.pow_zero,Nat.mul_one] at h
  have e:(2:Nat) ^ 1075=2 ^ (1075 - fe b)*2 ^ fe b:=by rw [← Nat.pow_add];congr 1;omega
  rw [e,← Nat.mul_assoc,h,Nat.mul_assoc,Nat.mul_assoc,Nat.mul_comm d]
 ·rw [Nat.sub_eq_zero_of_le c,Nat.pow_zero,Nat.mul_one] at h
  have e:(2:Nat) ^ fe b=2 ^ (fe b - 1075)*2 ^ 1075:=by rw [← Nat.pow_add];congr 1;omega
  rw [e,h,← Nat.mul_assoc,Nat.mul_assoc (_*_) d,Nat.mul_comm d,← Nat.mul_assoc]
theorem ZkG (b:Nat):fF b≤fF (b+1):=by
 unfold fF
 rcases (show (b+1) / 4503599627370496=b / 4503599627370496∨((b+1) / 4503599627370496=b / 4503599627370496+1∧b % 4503599627370496=4503599627370495∧(b+1) % 4503599627370496=0) by omega) with h|⟨h,h1,h2⟩
 ·have hm:(b+1) % 4503599627370496=b % 4503599627370496+1:=by omega
  have e:fe (b+1)=fe b:=by unfold fe fE;rw [h]
  have m:fm (b+1)=fm b+1:=by unfold fm fE;rw [h,hm];split<;>omega
  rw [e,m]
  exact Nat.mul_le_mul_right _ (Nat.le_succ _)
 ·have m:fm (b+1)=4503599627370496:=by unfold fm fE;rw [if_neg (by omega),h2]
  have e:fe (b+1)=b / 4503599627370496+1:=by unfold fe fE;rw [if_neg (by omega),h]
  by_cases z:b / 4503599627370496=0
  ·rw [m,e,(Zfv z).1,(Zfv z).2,h1,z];decide
  ·rw [m,e,(Zfw z).1,(Zfw z).2,h1,Nat.pow_succ,← Nat.mul_assoc,Nat.mul_comm _ 2,← Nat.mul_assoc]
   exact Nat.mul_le_mul_right _ (by decide)
theorem Zba {a b:Nat} (h:a≤b):fltQ a≤fltQ b:=by
 have hF:fF a≤fF b:=by
  obtain⟨d,rfl⟩:=Nat.exists_eq_add_of_le h
  clear h
  induction d with
  |zero=>exact Nat.le_refl _
  |succ d ih=>exact Nat.le_trans ih (ZkG (a+d))
 unfold fltQ
 rw [Rat.div_def,Rat.div_def]
 exact Rat.mul_le_mul_of_nonneg_right (Rat.natCast_le_natCast.2 hF) (by decide+kernel)
theorem ZdV (b:Nat):0≤fltQ b:=by
 have:=Zba (Nat.zero_le b)
 have h0:fltQ 0=0:=by decide+kernel
 rw [h0] at this;exact this
theorem ZaQ {b:Nat} (h:b≤9218868437227405312):qs (fltQ b)≤1000:=by
 obtain⟨h1,h2⟩:=ZjW h
 have hm:=ZjT b
 have hk:(cn ((fm b:Nat):Rat)).z≤8:=by
  rw [cn_z]
  exact Zbb (n:=(fm b:Int)) (by omega) (by omega)
 rcases Nat.lt_or_ge (fe b) 1075 with c|c
 ·rw [← ZiK c]
  have:=ZfY ((fm b:Nat):Rat) ((2 ^ (1075 - fe b):Nat):Rat)
  have:=pw_z (n:=1075 - fe b) (by omega)
  rw [cn_z] at hk;omega
 ·rw [← Zkh c]
  have:=Zcw ((fm b:Nat):Rat) ((2 ^ (fe b - 1075):Nat):Rat)
  have:=pw_z (n:=fe b - 1075) (by omega)
  rw [cn_z] at hk;omega
def bHi (m:Nat):Rat:=((1:Int):Rat) / ((2:Int):Rat)*(fltQ m+fltQ (m+1))
def bLo (m:Nat):Rat:=if 0< m then ((1:Int):Rat) / ((2:Int):Rat)*(fltQ m+fltQ (m - 1)) else -bHi m
theorem Zd0 {m:Nat} (h:0< m):bLo m=((1:Int):Rat) / ((2:Int):Rat)*(fltQ m+fltQ (m - 1)):=if_pos h
theorem Zch {m:Nat} (h:¬ 0< m):bLo m=-bHi m:=if_neg h
theorem Zb2 (m:Nat):bLo m≤bHi m:=by
 have e:((1:Int):Rat) / ((2:Int):Rat)=1 / 2:=rfl
 have h1:=ZdV m
 have h2:=ZdV (m+1)
 by_cases h:0< m
 ·rw [Zd0 h]
  unfold bHi
  have h3:=Zba (show m - 1≤m+1 by omega)
  rw [e];grind
 ·rw [Zch h]
  unfold bHi
  rw [e];grind
def frLo (b:Nat):Rat:=if b / 9223372036854775808=1 then -bHi (b % 9223372036854775808) else bLo (b % 9223372036854775808)
def frHi (b:Nat):Rat:=if b / 9223372036854775808=1 then -bLo (b % 9223372036854775808) else bHi (b % 9223372036854775808)
def frE (b:Nat):Int:=if 9218868437227405312≤b % 9223372036854775808 then 3 else 0
def frA (b:Nat):RV:=if 9218868437227405312≤b % 9223372036854775808 then z0 else cn (frLo b)
def frB (b:Nat):RV:=if 9218868437227405312≤b % 9223372036854775808 then z0 else cn (frHi b)
theorem Zlu {b:Nat} (h:9218868437227405312≤b % 9223372036854775808):frE b=3∧frA b=z0∧frB b=z0:=⟨if_pos h,if_pos h,if_pos h⟩
theorem Zhf {b:Nat} (h:¬ 9218868437227405312≤b % 9223372036854775808):frE b=0∧frA b=cn (frLo b)∧frB b=cn (frHi b):=⟨if_neg h,if_neg h,if_neg h⟩
theorem Zgh {b:Nat} (h:b / 9223372036854775808=1):frLo b=-bHi (b % 9223372036854775808)∧frHi b=-bLo (b % 9223372036854775808):=⟨if_pos h,if_pos h⟩
theorem Zcd {b:Nat} (h:¬ b / 9223372036854775808=1):frLo b=bLo (b % 9223372036854775808)∧frHi b=bHi (b % 9223372036854775808):=⟨if_neg h,if_neg h⟩
def flL (m i:Nat):List (List D):=(List.range 8).map fun j=> [D.v (.int .u8 ((if j< i then m / 2 ^ (56 - 8*j) % 256 else 0:Nat):Int))]
theorem ZdW (m i:Nat):(flL m i).length=8:=by simp [flL]
theorem ZeK (m:Nat):List.replicate 8 [D.v (.int .u8 0)]=flL m 0:=rfl
theorem ZeJ {m i:Nat} (h:i< 8):(flL m i).set i [D.v (.int .u8 ((m / 2 ^ (56 - 8*i) % 256:Nat):Int))]=flL m (i+1):=by
 rcases (show i=0∨i=1∨i=2∨i=3∨i=4∨i=5∨i=6∨i=7 by omega) with rfl|rfl|rfl|rfl|rfl|rfl|rfl|rfl<;>rfl
def flN (m:Nat):List Int:= [(m:Int) / 72057594037927936 % 256,(m:Int) / 281474976710656 % 256,(m:Int) / 1099511627776 % 256,(m:Int) / 4294967296 % 256,(m:Int) / 16777216 % 256,(m:Int) / 65536 % 256,(m:Int) / 256 % 256,(m:Int) % 256]
theorem ZjV (m:Nat):flL m 8=By (flN m):=by
 have e:flL m 8= [[D.v (.int .u8 ((m / 72057594037927936 % 256:Nat):Int))], [D.v (.int .u8 ((m / 281474976710656 % 256:Nat):Int))], [D.v (.int .u8 ((m / 1099511627776 % 256:Nat):Int))], [D.v (.int .u8 ((m / 4294967296 % 256:Nat):Int))], [D.v (.int .u8 ((m / 16777216 % 256:Nat):Int))], [D.v (.int .u8 ((m / 65536 % 256:Nat):Int))], [D.v (.int .u8 ((m / 256 % 256:Nat):Int))], [D.v (.int .u8 ((m / 1 % 256:Nat):Int))]]:=rfl
 rw [e,Nat.div_one]
 simp only [By,flN,List.map_cons,List.map_nil,Int.natCast_emod,Int.natCast_ediv]
 rfl
theorem Zgk {m:Nat} (h:m< 18446744073709551616):nv (strOfNums (flN m))=m:=natA.nv_eight m (by omega)
end Go.Proofs.YtbgokkfhohodgaaGreatDoor.eng
namespace Go.Proofs.YtbgokkfhohodgaaGreatDoor.eng
open Go.RowKit num mem seg q held ratA ratB ratC ratD ratE vars ratF
set_option exponentiation.threshold 4000
section
variable {K : AV → Prop}
theorem ZgX (n:Nat) (hn:n≤2000):Spec Tryz.prog Tab 138 [int (n:Int)] (rat (cn ((2 ^ n:Nat):Rat))):=by
 have hwn:IntKind.i64.wrap (((n / 8:Nat):Int)+1)=((n / 8+1:Nat):Int):=by rw [wrap64 _ (by omega) (by omega)];omega
 refine Zy Tryz.func138 rfl rfl Tryz.ntmps138 rfl (by kernel_rfl) rfl rfl ?_
 refine Zlk n 8 (by first|rfl|omega|(rw [wrap64 _ (by omega) (by omega)];omega)|(rw [wrap64 _ (by omega) (by omega)];split<;>omega)) (by first|rfl|omega|(rw [wrap64 _ (by omega) (by omega)];omega)|(rw [wrap64 _ (by omega) (by omega)];split<;>omega)) (by omega) (by omega) ?_
 refine⟨⟨by rw [hwn];omega,rfl,(by show (IntKind.i64.wrap (((n / 8:Nat):Int)+1))*1≤_;rw [hwn];omega),by rw [hwn];omega⟩,?_⟩
 refine Zli n 8 (by first|rfl|omega|(rw [wrap64 _ (by omega) (by omega)];omega)|(rw [wrap64 _ (by omega) (by omega)];split<;>omega)) (by first|rfl|omega|(rw [wrap64 _ (by omega) (by omega)];omega)|(rw [wrap64 _ (by omega) (by omega)];split<;>omega)) (by omega) ?_
 refine Zlh (n % 8) rfl (by omega) ?_
 refine Za2 0 (by first|rfl|omega|(rw [wrap64 _ (by omega) (by omega)];omega)|(rw [wrap64 _ (by omega) (by omega)];split<;>omega)) (by rw [List.length_replicate,hwn];omega) ?_
 refine⟨(by rw [List.length_replicate,hwn];omega),?_⟩
 refine ZeG (pwL n) (pwB n) (by rw [show (IntKind.i64.wrap (((n / 8:Nat):Int)+1)).toNat=n / 8+1 from by rw [wrap64 _ (by omega) (by omega)];omega];exact Zk3 n) rfl ?_
 refine ZlP (n:=1) (by omega) ?_
 refine⟨by kernel_rfl,?_⟩
 refine Eq.trans (b:= .val (.agg [.d (.v (.bool z0.s)),.d (.v (.string (pwB n))),.d (.v (.string (enc 1)))])) ?_ rfl
 rw [← Zk5]
 rfl
theorem Zfp (n:Nat) {y:Int} (hy:y=(n:Int)) (hn:n≤2000) (k:∀ q,q=((2 ^ n:Nat):Rat)→(cn q).z≤300→K (rat (cn q))):Ask 138 [int y] K:=by
 subst hy;exact use (ZgX n hn) rfl (k _ rfl (pw_z hn))
set_option maxHeartbeats 2000000 in
theorem Zhg (b:Nat) (hb:b≤9218868437227405312):Spec Tryz.prog Tab 75 [.val (.one (.d (.v (.int .u64 ((b:Int))))))] (rat (cn (fltQ b))):=by
 have hle:=ZjW hb
 refine Zy Tryz.func75 rfl rfl Tryz.ntmps75 rfl (by kernel_rfl) rfl rfl ?_
 refine Zay (b) 52 4503599627370496 rfl rfl (by decide) (by decide) ?_
 refine ZcG ((b / 4503599627370496)) (by first|rfl|(rw [bwu64 (by omega) (by omega)];omega)) (by omega) ?_
 refine ZcH (b) 52 4503599627370496 rfl rfl rfl (by omega) (by decide) ?_
 refine⟨fun e1=> ?_,fun e1=> ?_⟩
 ·have f12:(((b / 4503599627370496):Nat):Int)=0:=Zal e1
  have hfe:=Zfv (b:=b) (by omega)
  refine ZcG ((b % 4503599627370496)) (by first|rfl|(rw [bwu64 (by omega) (by omega)];omega)) (by omega) ?_
  refine k_of ((((b % 4503599627370496):Nat):Int)) (by omega) (by omega) fun q17 h17 z17=> ?_
  simp only [cn_z] at z17
  refine⟨fun e=>absurd e (by decide),fun _=> ?_⟩
  refine Zfp (1075 - fe b) (by rw [wrap64 _ (by omega) (by omega)];omega) (by omega) fun q29 h29 z29=> ?_
  simp only [cn_z] at z29
  refine Zln (x:=cn q17) (y:=cn q29) (by simp only [cn_z];omega) (by simp only [cn_z];omega) (by rw [cn_q,h29];exact Zhu _) fun q30 h30 z30=> ?_
  simp only [cn_z] at z30
  simp only [cn_q] at h30
  refine⟨by kernel_rfl,?_⟩
  refine Eq.trans (b:=rat (cn q30)) ?_ rfl
  rw [show q30=fltQ b from by rw [h30,h17,h29,← ZiK (by omega),hfe.2];rfl]
  all_goals rfl
 ·have f12:¬ ((((b / 4503599627370496):Nat):Int)=0):=Zam e1
  have hfe:=Zfw (b:=b) (by omega)
  refine Ziy ((b % 4503599627370496)) 52 4503599627370496 rfl rfl rfl (by omega) (by decide) ?_
  refine ZcG (((b % 4503599627370496)+4503599627370496)) (by first|rfl|(rw [bwu64 (by omega) (by omega)];omega)) (by omega) ?_
  refine k_of (((((b % 4503599627370496)+4503599627370496):Nat):Int)) (by omega) (by omega) fun q17 h17 z17=> ?_
  simp only [cn_z] at z17
  refine⟨fun e2=> ?_,fun e2=> ?_⟩
  ·have f19:(((b / 4503599627370496):Nat):Int)≥1075:=of_decide_eq_true e2
   refine Zfp (fe b - 1075) (by rw [wrap64 _ (by omega) (by omega)];omega) (by omega) fun q23 h23 z23=> ?_
   simp only [cn_z] at z23
   refine Ziz (x:=cn q17) (y:=cn q23) (by simp only [cn_z];omega) (by simp only [cn_z];omega) fun q24 h24 z24=> ?_
   simp only [cn_z] at z24
   simp only [cn_q] at h24
   refine⟨by kernel_rfl,?_⟩
   refine Eq.trans (b:=rat (cn q24)) ?_ rfl
   rw [show q24=fltQ b from by rw [h24,h17,h23,← Zkh (by omega),hfe.2];rfl]
   all_goals rfl
  ·have f19:¬ ((((b / 4503599627370496):Nat):Int)≥1075):=of_decide_eq_false e2
   refine Zfp (1075 - fe b) (by rw [wrap64 _ (by omega) (by omega)];omega) (by omega) fun q29 h29 z29=> ?_
   simp only [cn_z] at z29
   refine Zln (x:=cn q17) (y:=cn q29) (by simp only [cn_z];omega) (by simp only [cn_z];omega) (by rw [cn_q,h29];exact Zhu _) fun q30 h30 z30=> ?_
   simp only [cn_z] at z30
   simp only [cn_q] at h30
   refine⟨by kernel_rfl,?_⟩
   refine Eq.trans (b:=rat (cn q30)) ?_ rfl
   rw [show q30=fltQ b from by rw [h30,h17,h29,← ZiK (by omega),hfe.2];rfl]
   all_goals rfl
theorem Zbn (b:Nat) {y:Int} (hy:y=(b:Int)) (hb:b≤9218868437227405312) (k:∀ q,q=fltQ b→(cn q).z≤1000→K (rat (cn q))):Ask 75 [.val (.one (.d (.v (.int .u64 y))))] K:=by
 subst hy;exact use (Zhg b hb) rfl (k _ rfl (ZaQ hb))
set_option maxHeartbeats 4000000 in
theorem Zjf (b:Nat) (hb:b< 18446744073709551616):Spec Tryz.prog Tab 66 [.val (.one (.d (.v (.int .u64 ((b:Int))))))] (.tup [.agg [.d (.v (.bool (frA b).s)),.d (.v (.string (frA b).a)),.d (.v (.string (frA b).d)),.d (.v (.bool (frB b).s)),.d (.v (.string (frB b).a)),.d (.v (.string (frB b).d))],.one (.d (.v (.int .i64 ((frE b)))))]):=by
 refine Zy Tryz.func66 rfl rfl Tryz.ntmps66 rfl (by kernel_rfl) rfl rfl ?_
 refine Zay (b) 63 9223372036854775808 rfl rfl (by decide) (by decide) ?_
 refine ZiB (b) rfl (by omega) ?_
 refine⟨fun e1=> ?_,fun e1=> ?_⟩
 ·have f20:((b % 9223372036854775808:Nat):Int)≥9218868437227405312:=of_decide_eq_true e1
  refine Eq.trans (b:= .tup [.agg [.d (.v (.bool z0.s)),.d (.v (.string z0.a)),.d (.v (.string z0.d)),.d (.v (.bool z0.s)),.d (.v (.string z0.a)),.d (.v (.string z0.d))],.one (.d (.v (.int .i64 (3))))]) ?_ rfl
  obtain⟨e1,e2,e3⟩:=Zlu (b:=b) (by omega)
  rw [e1,e2,e3]
  all_goals rfl
 ·have f20:¬ (((b % 9223372036854775808:Nat):Int)≥9218868437227405312):=of_decide_eq_false e1
  refine Zke 1 2 (by decide) (by decide) (by decide) (by decide) (by decide+kernel) fun q23 h23 z23=> ?_
  simp only [cn_z] at z23
  refine Zbn ((b % 9223372036854775808)) (by first|rfl|(rw [bwu64 (by omega) (by omega)];omega)) (by omega) fun q27 h27 z27=> ?_
  simp only [cn_z] at z27
  refine Zbn ((b % 9223372036854775808)+1) (by first|rfl|(rw [bwu64 (by omega) (by omega)];omega)) (by omega) fun q30 h30 z30=> ?_
  simp only [cn_z] at z30
  refine Zlp (x:=cn q27) (y:=cn q30) (by simp only [cn_z];omega) (by simp only [cn_z];omega) fun q34 h34 z34=> ?_
  simp only [cn_z] at z34
  simp only [cn_q] at h34
  refine Ziz (x:=cn q23) (y:=cn q34) (by simp only [cn_z];omega) (by simp only [cn_z];omega) fun q35 h35 z35=> ?_
  simp only [cn_z] at z35
  simp only [cn_q] at h35
  refine⟨by kernel_rfl,?_⟩
  refine Zbm (x:=cn q35) (by simp only [cn_z];omega) fun q37 h37 z37=> ?_
  simp only [cn_z] at z37
  simp only [cn_q] at h37
  refine⟨fun e2=> ?_,fun e2=> ?_⟩
  ·have f39:((b % 9223372036854775808:Nat):Int) >0:=of_decide_eq_true e2
   refine Zbn ((b % 9223372036854775808) - 1) (by first|rfl|(rw [bwu64 (by omega) (by omega)];omega)) (by omega) fun q44 h44 z44=> ?_
   simp only [cn_z] at z44
   refine Zlp (x:=cn q27) (y:=cn q44) (by simp only [cn_z];omega) (by simp only [cn_z];omega) fun q45 h45 z45=> ?_
   simp only [cn_z] at z45
   simp only [cn_q] at h45
   refine Ziz (x:=cn q23) (y:=cn q45) (by simp only [cn_z];omega) (by simp only [cn_z];omega) fun q46 h46 z46=> ?_
   simp only [cn_z] at z46
   simp only [cn_q] at h46
   refine⟨by kernel_rfl,?_⟩
   refine⟨fun e3=> ?_,fun e3=> ?_⟩
   ·have f47:((b / 9223372036854775808:Nat):Int)=1:=Zal e3
    refine Zbm (x:=cn q35) (by simp only [cn_z];omega) fun q49 h49 z49=> ?_
    simp only [cn_z] at z49
    simp only [cn_q] at h49
    refine Zbm (x:=cn q46) (by simp only [cn_z];omega) fun q51 h51 z51=> ?_
    simp only [cn_z] at z51
    simp only [cn_q] at h51
    refine⟨by kernel_rfl,?_⟩
    have hle:=Zb2 (b % 9223372036854775808)
    have hhi:q35=bHi (b % 9223372036854775808):=by unfold bHi;rw [h35,h23,h34,h27,h30]
    have hlo:q46=bLo (b % 9223372036854775808):=by rw [Zd0 (by omega),h46,h23,h45,h27,h44]
    refine Za1 (x:=cn q49) (y:=cn q51) (by simp only [cn_z];omega) (by simp only [cn_z];omega) (fun g=> ?_) (fun _ p55 q55 hp55 hq55 zp zq=> ?_)
    ·exfalso
     simp only [cn_q] at g
     grind
    simp only [cn_q] at hp55 hq55
    refine Eq.trans (b:= .tup [.agg [.d (.v (.bool (cn p55).s)),.d (.v (.string (cn p55).a)),.d (.v (.string (cn p55).d)),.d (.v (.bool (cn q55).s)),.d (.v (.string (cn q55).a)),.d (.v (.string (cn q55).d))],.one (.d (.v (.int .i64 (0))))]) ?_ rfl
    obtain⟨e1,e2,e3⟩:=Zhf (b:=b) (by omega)
    obtain⟨e4,e5⟩:=Zgh (b:=b) (by omega)
    rw [e1,e2,e3,e4,e5,← hhi,← hlo,hp55,hq55,h49,h51]
    all_goals rfl
   ·have f47:¬ (((b / 9223372036854775808:Nat):Int)=1):=Zam e3
    have hle:=Zb2 (b % 9223372036854775808)
    have hhi:q35=bHi (b % 9223372036854775808):=by unfold bHi;rw [h35,h23,h34,h27,h30]
    have hlo:q46=bLo (b % 9223372036854775808):=by rw [Zd0 (by omega),h46,h23,h45,h27,h44]
    refine Za1 (x:=cn q46) (y:=cn q35) (by simp only [cn_z];omega) (by simp only [cn_z];omega) (fun g=> ?_) (fun _ p55 q55 hp55 hq55 zp zq=> ?_)
    ·exfalso
     simp only [cn_q] at g
     grind
    simp only [cn_q] at hp55 hq55
    refine Eq.trans (b:= .tup [.agg [.d (.v (.bool (cn p55).s)),.d (.v (.string (cn p55).a)),.d (.v (.string (cn p55).d)),.d (.v (.bool (cn q55).s)),.d (.v (.string (cn q55).a)),.d (.v (.string (cn q55).d))],.one (.d (.v (.int .i64 (0))))]) ?_ rfl
    obtain⟨e1,e2,e3⟩:=Zhf (b:=b) (by omega)
    obtain⟨e4,e5⟩:=Zcd (b:=b) (by omega)
    rw [e1,e2,e3,e4,e5,← hhi,← hlo,hp55,hq55]
    all_goals rfl
  ·have f39:¬ (((b % 9223372036854775808:Nat):Int) >0):=of_decide_eq_false e2
   refine⟨fun e4=> ?_,fun e4=> ?_⟩
   ·have f47:((b / 9223372036854775808:Nat):Int)=1:=Zal e4
    refine Zbm (x:=cn q35) (by simp only [cn_z];omega) fun q49 h49 z49=> ?_
    simp only [cn_z] at z49
    simp only [cn_q] at h49
    refine Zbm (x:=cn q37) (by simp only [cn_z];omega) fun q51 h51 z51=> ?_
    simp only [cn_z] at z51
    simp only [cn_q] at h51
    refine⟨by kernel_rfl,?_⟩
    have hle:=Zb2 (b % 9223372036854775808)
    have hhi:q35=bHi (b % 9223372036854775808):=by unfold bHi;rw [h35,h23,h34,h27,h30]
    have hlo:q37=bLo (b % 9223372036854775808):=by rw [Zch (by omega),← hhi,h37]
    refine Za1 (x:=cn q49) (y:=cn q51) (by simp only [cn_z];omega) (by simp only [cn_z];omega) (fun g=> ?_) (fun _ p55 q55 hp55 hq55 zp zq=> ?_)
    ·exfalso
     simp only [cn_q] at g
     grind
    simp only [cn_q] at hp55 hq55
    refine Eq.trans (b:= .tup [.agg [.d (.v (.bool (cn p55).s)),.d (.v (.string (cn p55).a)),.d (.v (.string (cn p55).d)),.d (.v (.bool (cn q55).s)),.d (.v (.string (cn q55).a)),.d (.v (.string (cn q55).d))],.one (.d (.v (.int .i64 (0))))]) ?_ rfl
    obtain⟨e1,e2,e3⟩:=Zhf (b:=b) (by omega)
    obtain⟨e4,e5⟩:=Zgh (b:=b) (by omega)
    rw [e1,e2,e3,e4,e5,← hhi,← hlo,hp55,hq55,h49,h51]
    all_goals rfl
   ·have f47:¬ (((b / 9223372036854775808:Nat):Int)=1):=Zam e4
    have hle:=Zb2 (b % 9223372036854775808)
    have hhi:q35=bHi (b % 9223372036854775808):=by unfold bHi;rw [h35,h23,h34,h27,h30]
    have hlo:q37=bLo (b % 9223372036854775808):=by rw [Zch (by omega),← hhi,h37]
    refine Za1 (x:=cn q37) (y:=cn q35) (by simp only [cn_z];omega) (by simp only [cn_z];omega) (fun g=> ?_) (fun _ p55 q55 hp55 hq55 zp zq=> ?_)
    ·exfalso
     simp only [cn_q] at g
     grind
    simp only [cn_q] at hp55 hq55
    refine Eq.trans (b:= .tup [.agg [.d (.v (.bool (cn p55).s)),.d (.v (.string (cn p55).a)),.d (.v (.string (cn p55).d)),.d (.v (.bool (cn q55).s)),.d (.v (.string (cn q55).a)),.d (.v (.string (cn q55).d))],.one (.d (.v (.int .i64 (0))))]) ?_ rfl
    obtain⟨e1,e2,e3⟩:=Zhf (b:=b) (by omega)
    obtain⟨e4,e5⟩:=Zcd (b:=b) (by omega)
    rw [e1,e2,e3,e4,e5,← hhi,← hlo,hp55,hq55]
    all_goals rfl
theorem Zlq (b:Nat) {y:Int} (hy:y=(b:Int)) (hb:b< 18446744073709551616) (k:∀ x z n,n=frE b→x=frA b→z=frB b→K (two (pair x z) (int n))):Ask 66 [.val (.one (.d (.v (.int .u64 y))))] K:=by
 subst hy;exact use (Zjf b hb) rfl (k _ _ _ rfl rfl rfl)
end
end Go.Proofs.YtbgokkfhohodgaaGreatDoor.eng
namespace Go.Proofs.YtbgokkfhohodgaaGreatDoor.eng
open Go.RowKit num mem seg q held ratA ratB ratC ratD ratE vars ratF
set_option exponentiation.threshold 4000
section
variable {K : AV → Prop}
theorem ZiO {n:Nat}:enc n=⟨#[]⟩↔n=0:=by
 constructor
 ·intro h
  have e:=Za n
  rw [h] at e
  rw [← e];decide
 ·intro h
  rw [h,ZB]
theorem ZA {n k:Nat} (h:n≤2 ^ (8*k)):(enc n).size≤k+1:=by
 rw [Zj,Nat.pow_succ,show (256:Nat) ^ k=2 ^ (8*k) from by rw [show (256:Nat)=2 ^ 8 from rfl,← Nat.pow_mul]]
 have:=Nat.two_pow_pos (8*k)
 omega
theorem Zb1 {b i:Nat} (hi:i≤fe b - 1075) (hb:fe b≤2047):fm b*2 ^ i≤2 ^ (8*200):=by
 have h1:=ZjT b
 have h2:fm b*2 ^ i≤2 ^ 53*2 ^ i:=Nat.mul_le_mul_right _ (by omega)
 rw [← Nat.pow_add] at h2
 exact Nat.le_trans h2 (Nat.pow_le_pow_right (by decide) (by omega))
theorem Zf0 {d i:Nat} (h:d≤2 ^ i) (hi:i≤1075):d≤2 ^ (8*200):=Nat.le_trans h (Nat.pow_le_pow_right (by decide) (by omega))
set_option maxHeartbeats 4000000 in
theorem Zhq (b:Nat) (hb:b≤9218868437227405312):Spec Tryz.prog Tab 20 [.val (.one (.d (.v (.int .u64 ((b:Int))))))] (rat (cn (fltQ b))):=by
 have hle:=ZjW hb
 have hfm:=ZjT b
 refine Zy Tryz.func20 rfl rfl Tryz.ntmps20 rfl (by kernel_rfl) rfl rfl ?_
 refine Zay (b) 63 9223372036854775808 rfl rfl (by decide) (by decide) ?_
 refine Zay (b) 52 4503599627370496 rfl rfl (by decide) (by decide) ?_
 refine ZcH ((b / 4503599627370496)) 11 2048 rfl rfl rfl (by omega) (by decide) ?_
 refine ZcG (((b / 4503599627370496) % 2048)) (by first|rfl|(rw [bwu64 (by omega) (by omega)];omega)) (by omega) ?_
 refine ZcH (b) 52 4503599627370496 rfl rfl rfl (by omega) (by decide) ?_
 refine⟨fun e1=> ?_,fun e1=> ?_⟩
 ·have f20:((((b / 4503599627370496) % 2048):Nat):Int) >0:=of_decide_eq_true e1
  have hfe:=Zfw (b:=b) (by omega)
  refine⟨⟨by omega,rfl,(by show 8*1≤_;omega),by omega⟩,?_⟩
  have hL8:(List.replicate (8:Int).toNat [D.v (.int .u8 (0))]).length=8:=List.length_replicate ..
  refine⟨Nat,fun i=> [(2,.val (.one (.ptr 2 0))),(3,bool (((b / 9223372036854775808:Nat):Int)==1)),(4,int ((((b / 4503599627370496) % 2048):Nat):Int)),(5,.val (.one (.d (.v (.int .u64 (IntKind.u64.wrap (((b % 4503599627370496:Nat):Int)+4503599627370496))))))),(6,.val (.one (.row 23 0))),(25,int ((List.replicate (8:Int).toNat [D.v (.int .u8 (0))]).length:Int)),(26,int (i:Int))],
   fun i=> [(2,.var 23 [.d (.v (.bool z0.s)),.d (.v (.string z0.a)),.d (.v (.string z0.d))]),(23,.row 5 1 0 (flL (fm b) i) true)],fun i=>i≤8,fun i=>8 - i,0,?_,Nat.zero_le _,fun i hs=> ?_⟩
  ·constructor<;>(repeat' (first|exact rfl|exact True.intro|exact⟨_,_,rfl⟩|exact(by decide)|apply And.intro))
   all_goals first
    |exact ZeK _
    |exact(ZeK _).symm
    |exact congrArg (fun n:Int=>D.v (.int .u64 n)) (by omega)
  have hT:=ZdW (fm b) i
  have hw8:IntKind.i64.wrap (8*(i:Int))=8*(i:Int):=wrap64 _ (by omega) (by omega)
  refine⟨fun e2=> ?_,fun e2=> ?_⟩
  ·have f27:(i:Int)< ((List.replicate (8:Int).toNat [D.v (.int .u8 (0))]).length:Int):=of_decide_eq_true e2
   refine Zay (fm b) (56 - 8*i) (2 ^ (56 - 8*i)) (by first|omega|(rw [bwu64 (by omega) (by omega)];omega)) (by rw [hw8,wrap64 _ (by omega) (by omega)];omega) rfl (by omega) ?_
   refine ZdQ ((fm b / 2 ^ (56 - 8*i))) rfl ?_
   refine Za2 i (by first|rfl|omega|(rw [wrap64 _ (by omega) (by omega)];omega)|(rw [wrap64 _ (by omega) (by omega)];split<;>omega)) (by rw [hT];omega) ?_
   refine⟨(by rw [hT];omega),?_⟩
   refine⟨i+1,by omega,by simp only;omega,?_⟩
   constructor<;>(repeat' (first|exact rfl|exact True.intro|apply And.intro))
   all_goals first
    |exact(ZeJ (by omega)).symm
    |exact ZeJ (by omega)
    |exact congrArg (fun n:Int=>D.v (.int .i64 n)) (by rw [wrap64 _ (by omega) (by omega)];omega)
    |exact congrArg (fun n:Int=>D.v (.int .i64 n)) (by omega)
  ·have f27:¬ ((i:Int)< ((List.replicate (8:Int).toNat [D.v (.int .u8 (0))]).length:Int)):=of_decide_eq_false e2
   refine ZeG (flN (fm b)) (strOfNums (flN (fm b))) (by rw [show i=8 by omega];exact ZjV _) rfl ?_
   refine Zbk (fm b) (Zgk (by omega)) ?_
   refine⟨Nat,fun j=> [(2,.val (.one (.ptr 2 0))),(3,bool (((b / 9223372036854775808:Nat):Int)==1)),(4,int ((((b / 4503599627370496) % 2048):Nat):Int)),(8,str (enc (fm b*2 ^ j))),(9,str (ByteArray.mk #[1])),(44,int ((fe b - 1075:Nat):Int)),(45,int (j:Int))],
    fun j=> [(2,.var 23 [.d (.v (.bool z0.s)),.d (.v (.string z0.a)),.d (.v (.string z0.d))])],fun j=>j≤fe b - 1075,fun j=>fe b - 1075 - j,0,?_,Nat.zero_le _,fun j hs=> ?_⟩
   ·constructor<;>(repeat' (first|exact rfl|exact True.intro|exact⟨_,_,rfl⟩|exact(by decide)|apply And.intro))
    all_goals first
     |exact congrArg (fun n:Int=>D.v (.int .i64 n)) (by rw [wrap64 _ (by omega) (by omega)];split<;>omega)
     |exact congrArg (fun s:ByteArray=>D.v (.string s)) (by rw [Nat.pow_zero,Nat.mul_one])
     |exact congrArg (fun n:Int=>D.v (.int .i64 n)) (by omega)
   have hbz:=Zb1 hs hle.2
   refine⟨fun e3=> ?_,fun e3=> ?_⟩
   ·have f46:(j:Int)< ((fe b - 1075:Nat):Int):=of_decide_eq_true e3
    refine ZY (fm b*2 ^ j) (fm b*2 ^ j) (Za _) (Za _) (Nat.le_trans (ZA hbz) (by decide)) (Nat.le_trans (ZA hbz) (by decide)) ?_
    refine⟨j+1,by omega,by simp only;omega,?_⟩
    constructor<;>(repeat' (first|exact rfl|exact True.intro|apply And.intro))
    all_goals first
     |exact congrArg (fun s:ByteArray=>D.v (.string s)) (by rw [Nat.pow_succ,← Nat.mul_assoc,Nat.mul_two])
     |rfl
     |exact congrArg (fun n:Int=>D.v (.int .i64 n)) (by rw [wrap64 _ (by omega) (by omega)];omega)
     |exact congrArg (fun n:Int=>D.v (.int .i64 n)) (by omega)
   ·have f46:¬ ((j:Int)< ((fe b - 1075:Nat):Int)):=of_decide_eq_false e3
    have hj:j=fe b - 1075:=by omega
    refine⟨Nat×Nat×Nat,fun (k,n,d)=> [(2,.val (.one (.ptr 2 0))),(3,bool (((b / 9223372036854775808:Nat):Int)==1)),(8,str (enc n)),(9,str (enc d)),(53,int ((1075 - fe b:Nat):Int)),(54,int (k:Int))],
     fun (k,n,d)=> [(2,.var 23 [.d (.v (.bool z0.s)),.d (.v (.string z0.a)),.d (.v (.string z0.d))])],fun (k,n,d)=>k≤1075 - fe b∧0< d∧n*2 ^ k=fm b*2 ^ (fe b - 1075)*d∧n≤fm b*2 ^ (fe b - 1075)∧d≤2 ^ k,fun (k,n,d)=>1075 - fe b - k,(0,fm b*2 ^ j,1),?_,⟨Nat.zero_le _,Nat.one_pos,by rw [hj,Nat.pow_zero],by rw [hj];exact Nat.le_refl _,Nat.le_refl _⟩,fun s hs=> ?_⟩
    ·constructor<;>(repeat' (first|exact rfl|exact True.intro|exact⟨_,_,rfl⟩|exact(by decide)|apply And.intro))
     all_goals first
      |exact congrArg (fun n:Int=>D.v (.int .i64 n)) (by rw [wrap64 _ (by omega) (by omega)];split<;>omega)
      |exact congrArg (fun s:ByteArray=>D.v (.string s)) enc_one
      |exact congrArg (fun s:ByteArray=>D.v (.string s)) enc_one.symm
    obtain⟨k,n,d⟩:=s
    obtain⟨g1,h2,h3,h4,h5⟩:=hs
    try simp only at g1 h2 h3 h4 h5
    have hnz:n≤2 ^ (8*200):=Nat.le_trans h4 (Zb1 (Nat.le_refl _) hle.2)
    have hdz:d≤2 ^ (8*200):=Zf0 h5 (by omega)
    refine⟨fun e4=> ?_,fun e4=> ?_⟩
    ·have f55:(k:Int)< ((1075 - fe b:Nat):Int):=of_decide_eq_true e4
     refine Zb0 n 0 (Za _) rfl (Nat.le_trans (ZA hnz) (by decide)) (by decide) ?_
     refine fork (fun e5=> ?_) (fun e5=> ?_)
     ·have f59:((n / 2 ^ 0 % 2:Nat):Int)=1:=Zal e5
      refine⟨fun _=> ?_,fun e=>absurd e (by decide)⟩
      refine ZY (d) (d) (Za _) (Za _) (Nat.le_trans (ZA hdz) (by decide)) (Nat.le_trans (ZA hdz) (by decide)) ?_
      refine⟨(k+1,n,d+d),⟨by omega,by omega,by rw [Nat.pow_succ,← Nat.mul_assoc,h3,Nat.mul_assoc,Nat.mul_two],h4,by rw [Nat.pow_succ];omega⟩,by simp only;omega,?_⟩
      constructor<;>(repeat' (first|exact rfl|exact True.intro|apply And.intro))
      all_goals first
       |exact congrArg (fun n:Int=>D.v (.int .i64 n)) (by rw [wrap64 _ (by omega) (by omega)];omega)
       |exact congrArg (fun n:Int=>D.v (.int .i64 n)) (by omega)
     ·have f59:¬ (((n / 2 ^ 0 % 2:Nat):Int)=1):=Zam e5
      refine Zai (fun f61=> ?_) (fun f61=> ?_)
      ·refine⟨fun _=> ?_,fun e=>absurd e (by decide)⟩
       refine ZY (d) (d) (Za _) (Za _) (Nat.le_trans (ZA hdz) (by decide)) (Nat.le_trans (ZA hdz) (by decide)) ?_
       refine⟨(k+1,n,d+d),⟨by omega,by omega,by rw [Nat.pow_succ,← Nat.mul_assoc,h3,Nat.mul_assoc,Nat.mul_two],h4,by rw [Nat.pow_succ];omega⟩,by simp only;omega,?_⟩
       constructor<;>(repeat' (first|exact rfl|exact True.intro|apply And.intro))
       all_goals first
        |exact congrArg (fun n:Int=>D.v (.int .i64 n)) (by rw [wrap64 _ (by omega) (by omega)];omega)
        |exact congrArg (fun n:Int=>D.v (.int .i64 n)) (by omega)
      ·refine⟨fun e=>absurd e (by decide),fun _=> ?_⟩
       refine Z8 n (Za _) (Nat.le_trans (ZA hnz) (by decide)) ?_
       refine⟨(k+1,n / 2,d),⟨by omega,h2,by rw [Nat.pow_succ,Nat.mul_comm (2 ^ k) 2,← Nat.mul_assoc,show n / 2*2=n by omega];exact h3,by omega,by rw [Nat.pow_succ];omega⟩,by simp only;omega,?_⟩
       constructor<;>(repeat' (first|exact rfl|exact True.intro|apply And.intro))
       all_goals first
        |exact congrArg (fun n:Int=>D.v (.int .i64 n)) (by rw [wrap64 _ (by omega) (by omega)];omega)
        |exact congrArg (fun n:Int=>D.v (.int .i64 n)) (by omega)
    ·have f55:¬ ((k:Int)< ((1075 - fe b:Nat):Int)):=of_decide_eq_false e4
     refine fork (fun e6=> ?_) (fun e6=> ?_)
     ·have f70:((b / 9223372036854775808:Nat):Int)=1:=Zal e6
      exfalso
      omega
     ·have f70:¬ (((b / 9223372036854775808:Nat):Int)=1):=Zam e6
      refine Zdl (r:=⟨false,enc n,enc d⟩) (p:=fltQ b) (ZeI h2 (by rw [← h3];congr 2;omega)) (RV.z_of (Nat.le_trans (ZA hnz) (by decide)) (Nat.le_trans (ZA hdz) (by decide))) ?_
      refine Eq.trans (b:=rat (cn (fltQ b))) ?_ rfl
      rfl
 ·have f20:¬ (((((b / 4503599627370496) % 2048):Nat):Int) >0):=of_decide_eq_false e1
  have hfe:=Zfv (b:=b) (by omega)
  refine⟨⟨by omega,rfl,(by show 8*1≤_;omega),by omega⟩,?_⟩
  have hL8:(List.replicate (8:Int).toNat [D.v (.int .u8 (0))]).length=8:=List.length_replicate ..
  refine⟨Nat,fun i=> [(2,.val (.one (.ptr 2 0))),(3,bool (((b / 9223372036854775808:Nat):Int)==1)),(4,int 1),(5,.val (.one (.d (.v (.int .u64 (((b % 4503599627370496:Nat):Int))))))),(6,.val (.one (.row 23 0))),(25,int ((List.replicate (8:Int).toNat [D.v (.int .u8 (0))]).length:Int)),(26,int (i:Int))],
   fun i=> [(2,.var 23 [.d (.v (.bool z0.s)),.d (.v (.string z0.a)),.d (.v (.string z0.d))]),(23,.row 5 1 0 (flL (fm b) i) true)],fun i=>i≤8,fun i=>8 - i,0,?_,Nat.zero_le _,fun i hs=> ?_⟩
  ·constructor<;>(repeat' (first|exact rfl|exact True.intro|exact⟨_,_,rfl⟩|exact(by decide)|apply And.intro))
   all_goals first
    |exact ZeK _
    |exact(ZeK _).symm
    |exact congrArg (fun n:Int=>D.v (.int .u64 n)) (by omega)
  have hT:=ZdW (fm b) i
  have hw8:IntKind.i64.wrap (8*(i:Int))=8*(i:Int):=wrap64 _ (by omega) (by omega)
  refine⟨fun e7=> ?_,fun e7=> ?_⟩
  ·have f27:(i:Int)< ((List.replicate (8:Int).toNat [D.v (.int .u8 (0))]).length:Int):=of_decide_eq_true e7
   refine Zay (fm b) (56 - 8*i) (2 ^ (56 - 8*i)) (by first|omega|(rw [bwu64 (by omega) (by omega)];omega)) (by rw [hw8,wrap64 _ (by omega) (by omega)];omega) rfl (by omega) ?_
   refine ZdQ ((fm b / 2 ^ (56 - 8*i))) rfl ?_
   refine Za2 i (by first|rfl|omega|(rw [wrap64 _ (by omega) (by omega)];omega)|(rw [wrap64 _ (by omega) (by omega)];split<;>omega)) (by rw [hT];omega) ?_
   refine⟨(by rw [hT];omega),?_⟩
   refine⟨i+1,by omega,by simp only;omega,?_⟩
   constructor<;>(repeat' (first|exact rfl|exact True.intro|apply And.intro))
   all_goals first
    |exact(ZeJ (by omega)).symm
    |exact ZeJ (by omega)
    |exact congrArg (fun n:Int=>D.v (.int .i64 n)) (by rw [wrap64 _ (by omega) (by omega)];omega)
    |exact congrArg (fun n:Int=>D.v (.int .i64 n)) (by omega)
  ·have f27:¬ ((i:Int)< ((List.replicate (8:Int).toNat [D.v (.int .u8 (0))]).length:Int)):=of_decide_eq_false e7
   refine ZeG (flN (fm b)) (strOfNums (flN (fm b))) (by rw [show i=8 by omega];exact ZjV _) rfl ?_
   refine Zbk (fm b) (Zgk (by omega)) ?_
   refine⟨Nat,fun j=> [(2,.val (.one (.ptr 2 0))),(3,bool (((b / 9223372036854775808:Nat):Int)==1)),(4,int 1),(8,str (enc (fm b*2 ^ j))),(9,str (ByteArray.mk #[1])),(44,int ((fe b - 1075:Nat):Int)),(45,int (j:Int))],
    fun j=> [(2,.var 23 [.d (.v (.bool z0.s)),.d (.v (.string z0.a)),.d (.v (.string z0.d))])],fun j=>j≤fe b - 1075,fun j=>fe b - 1075 - j,0,?_,Nat.zero_le _,fun j hs=> ?_⟩
   ·constructor<;>(repeat' (first|exact rfl|exact True.intro|exact⟨_,_,rfl⟩|exact(by decide)|apply And.intro))
    all_goals first
     |exact congrArg (fun n:Int=>D.v (.int .i64 n)) (by rw [wrap64 _ (by omega) (by omega)];split<;>omega)
     |exact congrArg (fun s:ByteArray=>D.v (.string s)) (by rw [Nat.pow_zero,Nat.mul_one])
     |exact congrArg (fun n:Int=>D.v (.int .i64 n)) (by omega)
   have hbz:=Zb1 hs hle.2
   refine⟨fun e8=> ?_,fun e8=> ?_⟩
   ·have f46:(j:Int)< ((fe b - 1075:Nat):Int):=of_decide_eq_true e8
    refine ZY (fm b*2 ^ j) (fm b*2 ^ j) (Za _) (Za _) (Nat.le_trans (ZA hbz) (by decide)) (Nat.le_trans (ZA hbz) (by decide)) ?_
    refine⟨j+1,by omega,by simp only;omega,?_⟩
    constructor<;>(repeat' (first|exact rfl|exact True.intro|apply And.intro))
    all_goals first
     |exact congrArg (fun s:ByteArray=>D.v (.string s)) (by rw [Nat.pow_succ,← Nat.mul_assoc,Nat.mul_two])
     |rfl
     |exact congrArg (fun n:Int=>D.v (.int .i64 n)) (by rw [wrap64 _ (by omega) (by omega)];omega)
     |exact congrArg (fun n:Int=>D.v (.int .i64 n)) (by omega)
   ·have f46:¬ ((j:Int)< ((fe b - 1075:Nat):Int)):=of_decide_eq_false e8
    have hj:j=fe b - 1075:=by omega
    refine⟨Nat×Nat×Nat,fun (k,n,d)=> [(2,.val (.one (.ptr 2 0))),(3,bool (((b / 9223372036854775808:Nat):Int)==1)),(8,str (enc n)),(9,str (enc d)),(53,int ((1075 - fe b:Nat):Int)),(54,int (k:Int))],
     fun (k,n,d)=> [(2,.var 23 [.d (.v (.bool z0.s)),.d (.v (.string z0.a)),.d (.v (.string z0.d))])],fun (k,n,d)=>k≤1075 - fe b∧0< d∧n*2 ^ k=fm b*2 ^ (fe b - 1075)*d∧n≤fm b*2 ^ (fe b - 1075)∧d≤2 ^ k,fun (k,n,d)=>1075 - fe b - k,(0,fm b*2 ^ j,1),?_,⟨Nat.zero_le _,Nat.one_pos,by rw [hj,Nat.pow_zero],by rw [hj];exact Nat.le_refl _,Nat.le_refl _⟩,fun s hs=> ?_⟩
    ·constructor<;>(repeat' (first|exact rfl|exact True.intro|exact⟨_,_,rfl⟩|exact(by decide)|apply And.intro))
     all_goals first
      |exact congrArg (fun n:Int=>D.v (.int .i64 n)) (by rw [wrap64 _ (by omega) (by omega)];split<;>omega)
      |exact congrArg (fun s:ByteArray=>D.v (.string s)) enc_one
      |exact congrArg (fun s:ByteArray=>D.v (.string s)) enc_one.symm
    obtain⟨k,n,d⟩:=s
    obtain⟨g1,h2,h3,h4,h5⟩:=hs
    try simp only at g1 h2 h3 h4 h5
    have hnz:n≤2 ^ (8*200):=Nat.le_trans h4 (Zb1 (Nat.le_refl _) hle.2)
    have hdz:d≤2 ^ (8*200):=Zf0 h5 (by omega)
    refine⟨fun e9=> ?_,fun e9=> ?_⟩
    ·have f55:(k:Int)< ((1075 - fe b:Nat):Int):=of_decide_eq_true e9
     refine Zb0 n 0 (Za _) rfl (Nat.le_trans (ZA hnz) (by decide)) (by decide) ?_
     refine fork (fun e10=> ?_) (fun e10=> ?_)
     ·have f59:((n / 2 ^ 0 % 2:Nat):Int)=1:=Zal e10
      refine⟨fun _=> ?_,fun e=>absurd e (by decide)⟩
      refine ZY (d) (d) (Za _) (Za _) (Nat.le_trans (ZA hdz) (by decide)) (Nat.le_trans (ZA hdz) (by decide)) ?_
      refine⟨(k+1,n,d+d),⟨by omega,by omega,by rw [Nat.pow_succ,← Nat.mul_assoc,h3,Nat.mul_assoc,Nat.mul_two],h4,by rw [Nat.pow_succ];omega⟩,by simp only;omega,?_⟩
      constructor<;>(repeat' (first|exact rfl|exact True.intro|apply And.intro))
      all_goals first
       |exact congrArg (fun n:Int=>D.v (.int .i64 n)) (by rw [wrap64 _ (by omega) (by omega)];omega)
       |exact congrArg (fun n:Int=>D.v (.int .i64 n)) (by omega)
     ·have f59:¬ (((n / 2 ^ 0 % 2:Nat):Int)=1):=Zam e10
      refine Zai (fun f61=> ?_) (fun f61=> ?_)
      ·refine⟨fun _=> ?_,fun e=>absurd e (by decide)⟩
       refine ZY (d) (d) (Za _) (Za _) (Nat.le_trans (ZA hdz) (by decide)) (Nat.le_trans (ZA hdz) (by decide)) ?_
       refine⟨(k+1,n,d+d),⟨by omega,by omega,by rw [Nat.pow_succ,← Nat.mul_assoc,h3,Nat.mul_assoc,Nat.mul_two],h4,by rw [Nat.pow_succ];omega⟩,by simp only;omega,?_⟩
       constructor<;>(repeat' (first|exact rfl|exact True.intro|apply And.intro))
       all_goals first
        |exact congrArg (fun n:Int=>D.v (.int .i64 n)) (by rw [wrap64 _ (by omega) (by omega)];omega)
        |exact congrArg (fun n:Int=>D.v (.int .i64 n)) (by omega)
      ·refine⟨fun e=>absurd e (by decide),fun _=> ?_⟩
       refine Z8 n (Za _) (Nat.le_trans (ZA hnz) (by decide)) ?_
       refine⟨(k+1,n / 2,d),⟨by omega,h2,by rw [Nat.pow_succ,Nat.mul_comm (2 ^ k) 2,← Nat.mul_assoc,show n / 2*2=n by omega];exact h3,by omega,by rw [Nat.pow_succ];omega⟩,by simp only;omega,?_⟩
       constructor<;>(repeat' (first|exact rfl|exact True.intro|apply And.intro))
       all_goals first
        |exact congrArg (fun n:Int=>D.v (.int .i64 n)) (by rw [wrap64 _ (by omega) (by omega)];omega)
        |exact congrArg (fun n:Int=>D.v (.int .i64 n)) (by omega)
    ·have f55:¬ ((k:Int)< ((1075 - fe b:Nat):Int)):=of_decide_eq_false e9
     refine fork (fun e11=> ?_) (fun e11=> ?_)
     ·have f70:((b / 9223372036854775808:Nat):Int)=1:=Zal e11
      exfalso
      omega
     ·have f70:¬ (((b / 9223372036854775808:Nat):Int)=1):=Zam e11
      refine Zdl (r:=⟨false,enc n,enc d⟩) (p:=fltQ b) (ZeI h2 (by rw [← h3];congr 2;omega)) (RV.z_of (Nat.le_trans (ZA hnz) (by decide)) (Nat.le_trans (ZA hdz) (by decide))) ?_
      refine Eq.trans (b:=rat (cn (fltQ b))) ?_ rfl
      rfl
theorem ZaJ (b:Nat) {y:Int} (hy:y=(b:Int)) (hb:b≤9218868437227405312) (k:∀ q,q=fltQ b→(cn q).z≤1000→K (rat (cn q))):Ask 20 [.val (.one (.d (.v (.int .u64 y))))] K:=by
 subst hy;exact use (Zhq b hb) rfl (k _ rfl (ZaQ hb))
end
end Go.Proofs.YtbgokkfhohodgaaGreatDoor.eng
namespace Go.Proofs.YtbgokkfhohodgaaGreatDoor.eng
open Go.RowKit num mem seg q held ratA ratB ratC ratD ratE vars ratF
set_option exponentiation.threshold 4000
section
variable {K : AV → Prop}
theorem ZkO {m:Nat} (h:m< 9218868437227405312):qs (bHi m)≤3000:=by
 have:=ZaQ (b:=m) (by omega)
 have:=ZaQ (b:=m+1) (by omega)
 have:=ZfZ (fltQ m) (fltQ (m+1))
 have:=Zcw (((1:Int):Rat) / ((2:Int):Rat)) (fltQ m+fltQ (m+1))
 have:qs (((1:Int):Rat) / ((2:Int):Rat))≤8:=by decide+kernel
 unfold bHi;omega
theorem ZlB {m:Nat} (h:m< 9218868437227405312):qs (bLo m)≤3001:=by
 by_cases h0:0< m
 ·have:=ZaQ (b:=m) (by omega)
  have:=ZaQ (b:=m - 1) (by omega)
  have:=ZfZ (fltQ m) (fltQ (m - 1))
  have:=Zcw (((1:Int):Rat) / ((2:Int):Rat)) (fltQ m+fltQ (m - 1))
  have:qs (((1:Int):Rat) / ((2:Int):Rat))≤8:=by decide+kernel
  rw [Zd0 h0];omega
 ·have:=ZkO h
  have:=ZbC (bHi m)
  rw [Zch h0];omega
theorem ZlH:frE 4607182418800017408=0:=by decide
theorem ZlJ:frA 4607182418800017408=cn (bLo 4607182418800017408):=(Zhf (by decide)).2.1.trans (congrArg cn (Zcd (by decide)).1)
theorem ZlI:frB 4607182418800017408=cn (bHi 4607182418800017408):=(Zhf (by decide)).2.2.trans (congrArg cn (Zcd (by decide)).2)
set_option maxHeartbeats 2000000 in
theorem Zb8  :Spec Tryz.prog Tab 17 [] (bool true):=by
 refine Zy Tryz.func17 rfl rfl Tryz.ntmps17 rfl (by kernel_rfl) rfl rfl ?_
 refine Zlq 4607182418800017408 rfl (by decide) fun x4 z4 n4 hn4 hx4 hz4=> ?_
 rw [ZlH] at hn4
 rw [ZlJ] at hx4
 rw [ZlI] at hz4
 subst hn4 hx4 hz4
 refine Zfo ?_
 refine Zg9 1 1 (by decide) (by decide) (by decide) (by decide) (by decide+kernel) fun q14 h14 z14=> ?_
 simp only [cn_z] at z14
 refine Ziu (x:=cn (bLo 4607182418800017408)) (y:=cn (bHi 4607182418800017408)) (z:=cn q14) (Nat.le_trans (Nat.le_of_eq (cn_z _)) (Nat.le_trans (ZlB (by decide)) (by decide))) (Nat.le_trans (Nat.le_of_eq (cn_z _)) (Nat.le_trans (ZkO (by decide)) (by decide))) (by simp only [cn_z];omega) fun b15 hb15=> ?_
 have hv15:b15=true:=by rw [hb15,Zee (Zb2 _),Zeg (Zb2 _),cn_q,h14];decide+kernel
 subst hv15
 refine Zg9 2 1 (by decide) (by decide) (by decide) (by decide) (by decide+kernel) fun q19 h19 z19=> ?_
 simp only [cn_z] at z19
 refine Ziu (x:=cn (bLo 4607182418800017408)) (y:=cn (bHi 4607182418800017408)) (z:=cn q19) (Nat.le_trans (Nat.le_of_eq (cn_z _)) (Nat.le_trans (ZlB (by decide)) (by decide))) (Nat.le_trans (Nat.le_of_eq (cn_z _)) (Nat.le_trans (ZkO (by decide)) (by decide))) (by simp only [cn_z];omega) fun b20 hb20=> ?_
 have hv20:b20=false:=by rw [hb20,Zee (Zb2 _),Zeg (Zb2 _),cn_q,h19];decide+kernel
 subst hv20
 refine⟨by kernel_rfl,?_⟩
 refine Eq.trans (b:=bool true) ?_ rfl
 rfl
theorem ZdR (k:K (bool true)):Ask 17 [] K:=use Zb8 rfl k
end
end Go.Proofs.YtbgokkfhohodgaaGreatDoor.eng
