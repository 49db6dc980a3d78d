/- Joined by wip/bundle.py: XBrd0 XBrdA. -/
import Derived.Test.YtgkofgfiifgioaaGreatDoorQGrp7
import Derived.Laws.BitsAllLaws
set_option maxHeartbeats 4000000
set_option maxRecDepth 100000
namespace Go.Proofs.YtgkofgfiifgioaaGreatDoor.eng
open Go.RowKit num mem seg q held ratA ratB ratC ratD ratE vars ratF
set_option exponentiation.threshold 4000
section
variable {K : AV → Prop} {T : TypeId} {ox oy : Operand}
theorem bwu64 {m:Int} (h0:0≤m) (h1:m< 18446744073709551616):IntKind.u64.wrap m=m:=by
 unfold IntKind.wrap
 simp [IntKind.signed,IntKind.bits]
 omega
theorem bwu8 {m:Int} (h0:0≤m) (h1:m< 256):IntKind.u8.wrap m=m:=by
 unfold IntKind.wrap
 simp [IntKind.signed,IntKind.bits]
 omega
theorem Zm6 (T:TypeId) (ox oy:Operand) (k:IntKind) (n r:Nat) (hr:r≤64) (w:World):(do eqGuard .shr T ox oy (.int .u64 (n:Int)) (.int k (r:Int));binOp .shr T (.int .u64 (n:Int)) (.int k (r:Int)):Sem Value).run Tryz.prog w= .ok (.int .u64 ((n / 2 ^ r:Nat):Int)) w:=by
 have hg:eqGuard .shr T ox oy (.int .u64 (n:Int)) (.int k (r:Int))=pure ():=rfl
 rw [hg,binOp_shr]
 unfold Op.shift
 rw [if_neg ω]
 have hm:min (r:Int).toNat IntKind.u64.bits=r:=by rw [Int.toNat_natCast];exact Nat.min_eq_left hr
 have e1:(n:Int).fdiv (2 ^ r)=((n / 2 ^ r:Nat):Int):=by
  have:(2:Int) ^ r=((2 ^ r:Nat):Int):=by rw [Int.natCast_pow];rfl
  rw [this,Int.fdiv_eq_ediv_of_nonneg _ (Int.natCast_nonneg _)]
  exact(Int.natCast_ediv _ _).symm
 simp only [hm,e1]
 rfl
theorem ZoR {k:IntKind} {x y:Int} (n r d:Nat) (hx:x=n) (hy:y=r) (hd:2 ^ r=d) (hr:r≤64) (k1:K (one (.int .u64 ((n / d:Nat):Int)))):AskB .shr T ox oy (.int .u64 x) (.int k y) K:=by
 subst hx hy hd
 exact⟨_,⟨_,rfl,rfl,Zm6 T ox oy k n r hr⟩,k1⟩
theorem Zne (T:TypeId) (ox oy:Operand) (n m:Nat) (hn:n< 18446744073709551616) (hm:m< 18446744073709551616) (w:World):(do eqGuard .and T ox oy (.int .u64 (n:Int)) (.int .u64 (m:Int));binOp .and T (.int .u64 (n:Int)) (.int .u64 (m:Int)):Sem Value).run Tryz.prog w= .ok (.int .u64 ((n&&&m:Nat):Int)) w:=by
 rw [← u64_and_nat n m hn hm]
 simp [go_sem]
theorem Zst {x y:Int} (n j d:Nat) (hx:x=n) (hd:2 ^ j=d) (hy:y=((d - 1:Nat):Int)) (hn:n< 18446744073709551616) (hj:d≤18446744073709551616) (k:K (one (.int .u64 ((n % d:Nat):Int)))):AskB .and T ox oy (.int .u64 x) (.int .u64 y) K:=by
 subst hx hy hd
 refine⟨_,⟨_,rfl,rfl,Zne T ox oy n (2 ^ j - 1) hn ω⟩,?_⟩
 rw [Nat.and_two_pow_sub_one_eq_mod];exact k
theorem ZpN (T:TypeId) (ox oy:Operand) (n m:Nat) (hn:n< 18446744073709551616) (hm:m< 18446744073709551616) (w:World):(do eqGuard .or T ox oy (.int .u64 (n:Int)) (.int .u64 (m:Int));binOp .or T (.int .u64 (n:Int)) (.int .u64 (m:Int)):Sem Value).run Tryz.prog w= .ok (.int .u64 ((n|||m:Nat):Int)) w:=by
 rw [← u64_or_nat n m hn hm]
 simp [go_sem]
theorem Ztp {x y:Int} (n j d:Nat) (hx:x=n) (hd:2 ^ j=d) (hy:y=(d:Int)) (hn:n< d) (hj:d< 18446744073709551616) (k:K (one (.int .u64 ((n+d:Nat):Int)))):AskB .or T ox oy (.int .u64 x) (.int .u64 y) K:=by
 subst hx hy hd
 refine⟨_,⟨_,rfl,rfl,ZpN T ox oy n (2 ^ j) ω hj⟩,?_⟩
 have e:n|||2 ^ j=n+2 ^ j:=by
  have:=Nat.two_pow_add_eq_or_of_lt hn 1
  rw [Nat.mul_one,Nat.or_comm] at this
  omega
 rw [e];exact k
theorem ZgY (T:TypeId) (ox oy:Operand) (n m:Nat) (hn:n< 18446744073709551616) (hm:m< 18446744073709551616) (w:World):(do eqGuard .andNot T ox oy (.int .u64 (n:Int)) (.int .u64 (m:Int));binOp .andNot T (.int .u64 (n:Int)) (.int .u64 (m:Int)):Sem Value).run Tryz.prog w= .ok (.int .u64 ((n&&&(18446744073709551615 - m):Nat):Int)) w:=by
 rw [← u64_andNot_nat n m hn hm]
 simp [go_sem]
theorem ZlB {x:Int} (n:Nat) (hx:x=n) (hn:n< 18446744073709551616) (k:K (one (.int .u64 ((n % 9223372036854775808:Nat):Int)))):AskB .andNot T ox oy (.int .u64 x) (.int .u64 9223372036854775808) K:=by
 subst hx
 refine⟨_,⟨_,rfl,rfl,ZgY T ox oy n 9223372036854775808 hn ωd⟩,?_⟩
 rw [show 18446744073709551615 - 9223372036854775808=2 ^ 63 - 1 from by decide,Nat.and_two_pow_sub_one_eq_mod];exact k
theorem Zm7 (T:TypeId) (ox oy:Operand) (n r:Nat) (hr:r≤8) (h:n*2 ^ r< 256) (w:World):(do eqGuard .shl T ox oy (.int .u8 (n:Int)) (.int .i64 (r:Int));binOp .shl T (.int .u8 (n:Int)) (.int .i64 (r:Int)):Sem Value).run Tryz.prog w= .ok (.int .u8 ((n*2 ^ r:Nat):Int)) w:=by
 have hg:eqGuard .shl T ox oy (.int .u8 (n:Int)) (.int .i64 (r:Int))=pure ():=rfl
 rw [hg,binOp_shl]
 unfold Op.shift
 rw [if_neg ω]
 have hm:min (r:Int).toNat IntKind.u8.bits=r:=by rw [Int.toNat_natCast];exact Nat.min_eq_left hr
 have e1:(n:Int)*2 ^ r=((n*2 ^ r:Nat):Int):=by rw [Int.natCast_mul,Int.natCast_pow];rfl
 simp only [hm,e1]
 rw [bwu8 ω ω]
 rfl
theorem Zse {y:Int} (r:Nat) (hy:y=r) (hr:r< 8) (k:K (one (.int .u8 ((2 ^ r:Nat):Int)))):AskB .shl T ox oy (.int .u8 1) (.int .i64 y) K:=by
 subst hy
 have h:2 ^ r≤2 ^ 7:=Nat.pow_le_pow_right ωd ω
 have:=Zm7 T ox oy 1 r ω ω
 rw [Nat.one_mul] at this
 exact⟨_,⟨_,rfl,rfl,this⟩,k⟩
theorem Zs0:(Tryz.prog.underlying 72).isSome=true:=ωr
theorem Zs2:Tryz.prog.underlying 3=some (.int .i64):=ωr
theorem ZtL:Tryz.prog.underlying 5=some (.int .u8):=ωr
theorem Zoh:Tryz.prog.underlying 224=some (.slice 5):=ωr
theorem Zs1:Tryz.prog.underlying 9=some .string:=ωr
theorem Zhq {x:Int} (n:Nat) (hx:x=n) (hn:n< 9223372036854775808) (k:K (int (n:Int))):
  ∃ r,(∃ k',(Tryz.prog.underlying 72).isSome=true∧Tryz.prog.underlying 3=some (.int k')∧r=one (.int k' (k'.wrap x)))∧K r:=
 ⟨_,⟨.i64,Zs0,Zs2,rfl⟩,by rw [hx,wrap64 _ ω ω];exact k⟩
def By (l:List Int):List (List D):=l.map fun n=> [D.v (.int .u8 n)]
theorem Zss {xs:List (List D)} (ns:List Int) (s:ByteArray) (hx:xs=By ns) (hs:strOfNums ns=s) (k:K (str s)):
  ∃ r,(∃ (e:TypeId) (ns:List Int),xs=ns.map (fun n=> [D.v (.int .u8 n)])∧Tryz.prog.underlying 224=some (.slice e)∧Tryz.prog.underlying e=some (.int .u8)∧Tryz.prog.underlying 9=some .string∧r=one (.string (strOfNums ns)))∧K r:=
 ⟨_,⟨5,ns,hx,Zoh,ZtL,Zs1,rfl⟩,by rw [hs];exact k⟩
end
theorem ZlA {K:AV→Prop} {xs:List (List D)} {m:Int} {o v n:Nat} (i:Nat) (hm:m=(i:Int)) (h:i< xs.length) (k:K (.val (.one (.rp o v n i 0)))):
  ∃ r,(0≤m∧m< (xs.length:Int)∧r= .val (.one (.rp o v n m.toNat 0)))∧K r:=⟨_,⟨ω,ω,rfl⟩,by subst hm;exact k⟩
def pwL (n:Nat):List Int:=((2 ^ (n % 8):Nat):Int) :: List.replicate (n / 8) 0
def pwB (n:Nat):ByteArray:=strOfNums (pwL n)
theorem ZrM (n:Nat):(List.replicate (n / 8+1) [D.v (.int .u8 0)]).set 0 [D.v (.int .u8 ((2 ^ (n % 8):Nat):Int))]=By (pwL n):=by
 unfold By pwL
 rw [List.replicate_succ,List.set_cons_zero,List.map_cons,List.map_replicate]
theorem ZkR (n:Nat):(pwB n).size=n / 8+1:=by
 unfold pwB pwL
 rw [strOfNums_size,List.length_cons,List.length_replicate]
theorem ZkX (j:Nat):nvl (List.replicate j (0:UInt8))=0:=by
 induction j with
 |zero=>rfl
 |succ j ih=>rw [List.replicate_succ,Zar,ih]
theorem Zth (n:Nat):nv (pwB n)=2 ^ n:=by
 have h:2 ^ (n % 8)≤2 ^ 7:=Nat.pow_le_pow_right ωd (by have:=Nat.mod_lt n (by decide:8 >0);omega)
 unfold nv pwB
 rw [strOfNums_data,pwL,List.map_cons,List.map_replicate,ZaZ,show UInt8.ofNat (Int.toNat 0)=0 from rfl,ZkX,List.length_replicate,Int.toNat_natCast]
 rw [show (UInt8.ofNat (2 ^ (n % 8))).toNat=2 ^ (n % 8) from by simp;omega,show (256:Nat)=2 ^ 8 from rfl,← Nat.pow_mul,← Nat.pow_add,Nat.add_zero]
 congr 1
 omega
theorem ZrN (n:Nat):pwB n=enc (2 ^ n):=by
 have hp:0< 2 ^ (n % 8):=Nat.two_pow_pos _
 have h:2 ^ (n % 8)≤2 ^ 7:=Nat.pow_le_pow_right ωd (by have:=Nat.mod_lt n (by decide:8 >0);omega)
 have hs:0< (pwB n).size:=by rw [ZkR];omega
 have h0:(pwB n)[0]=UInt8.ofNat (2 ^ (n % 8)):=rfl
 have:=ZeS (pwB n) hs (by
  rw [h0,beq_eq_false_iff_ne]
  have:(UInt8.ofNat (2 ^ (n % 8))).toNat=2 ^ (n % 8):=by simp;omega
  rw [this]
  omega)
 rw [← this,Zth]
theorem ZrO (n:Nat):(⟨false,pwB n,enc 1⟩:RV)=cn ((2 ^ n:Nat):Rat):=by
 rw [ZrN]
 have e:decide ((((2 ^ n:Nat):Rat)).num< 0)=false:=decide_eq_false (Int.not_lt.2 (Int.natCast_nonneg (2 ^ n)))
 unfold cn
 rw [e];rfl
theorem pw_z {n:Nat} (h:n≤2000):qs ((2 ^ n:Nat):Rat)≤300:=by
 rw [← cn_z,← ZrO]
 exact RV.z_of (by rw [ZkR];omega) (by rw [enc_one];decide)
theorem Zj5 (n:Nat):((2 ^ n:Nat):Rat)≠0:=by
 have:0< 2 ^ n:=Nat.two_pow_pos n
 intro h
 have h2:((2 ^ n:Nat):Rat)=((0:Nat):Rat):=h
 have:=Rat.natCast_inj.1 h2
 omega
def fE (b:Nat):Nat:=b / 4503599627370496
def fe (b:Nat):Nat:=if fE b=0 then 1 else fE b
def fm (b:Nat):Nat:=if fE b=0 then b % 4503599627370496 else b % 4503599627370496+4503599627370496
def fF (b:Nat):Nat:=fm b*2 ^ fe b
def fltQ (b:Nat):Rat:=(fF b:Rat) / ((2 ^ 1075:Nat):Rat)
theorem ZqB {b:Nat} (h:b / 4503599627370496=0):fe b=1∧fm b=b % 4503599627370496:=⟨if_pos h,if_pos h⟩
theorem ZqC {b:Nat} (h:¬ b / 4503599627370496=0):fe b=b / 4503599627370496∧fm b=b % 4503599627370496+4503599627370496:=⟨if_neg h,if_neg h⟩
theorem Ztv (b:Nat):fm b< 9007199254740992:=by unfold fm;split<;>omega
theorem ZsC {b:Nat} (h:b≤9218868437227405312):1≤fe b∧fe b≤2047:=by unfold fe fE;split<;>omega
theorem ZlR {a c:Nat} {B D:Nat} (hB:0< B) (hD:0< D) (h:a*D=c*B):(a:Rat) / (B:Rat)=(c:Rat) / (D:Rat):=by
 have b0:(B:Rat)≠0:=fun e=>by have:=Rat.natCast_inj.1 (show ((B:Nat):Rat)=((0:Nat):Rat) from e);omega
 have d0:(D:Rat)≠0:=fun e=>by have:=Rat.natCast_inj.1 (show ((D:Nat):Rat)=((0:Nat):Rat) from e);omega
 have hq:(a:Rat)*(D:Rat)=(c:Rat)*(B:Rat):=by rw [← Rat.natCast_mul,← Rat.natCast_mul,h]
 grind
theorem Zo4 {b:Nat} (h:1075≤fe b):(fm b:Rat)*((2 ^ (fe b - 1075):Nat):Rat)=fltQ b:=by
 have e:=ZlR (a:=fm b*2 ^ (fe b - 1075)) (c:=fF b) (B:=1) (D:=2 ^ 1075) ωd (Nat.two_pow_pos _) (by
  unfold fF
  rw [Nat.mul_assoc,← Nat.pow_add,Nat.sub_add_cancel h,Nat.mul_one])
 unfold fltQ
 rw [← e,Rat.natCast_mul,show ((1:Nat):Rat)=1 from rfl,Rat.div_def,show (1:Rat)⁻¹=1 from by decide+kernel,Rat.mul_one]
theorem ZlX {b:Nat} (h:fe b< 1075):(fm b:Rat) / ((2 ^ (1075 - fe b):Nat):Rat)=fltQ b:=
 ZlR (Nat.two_pow_pos _) (Nat.two_pow_pos _) (by
  unfold fF
  rw [Nat.mul_assoc,← Nat.pow_add]
  congr 2
  omega)
theorem ZqD (b:Nat):fF b≤fF (b+1):=by
 unfold fF
 rcases (show (b+1) / 4503599627370496=b / 4503599627370496∨((b+1) / 4503599627370496=b / 4503599627370496+1∧b % 4503599627370496=4503599627370495∧(b+1) % 4503599627370496=0) by omega) with h|⟨h,h1,h2⟩
 ·have hm:(b+1) % 4503599627370496=b % 4503599627370496+1:=ω
  have e:fe (b+1)=fe b:=by unfold fe fE;rw [h]
  have m:fm (b+1)=fm b+1:=by unfold fm fE;rw [h,hm];split<;>omega
  rw [e,m]
  exact Nat.mul_le_mul_right _ (Nat.le_succ _)
 ·have m:fm (b+1)=4503599627370496:=by unfold fm fE;rw [if_neg ω,h2]
  have e:fe (b+1)=b / 4503599627370496+1:=by unfold fe fE;rw [if_neg ω,h]
  by_cases z:b / 4503599627370496=0
  ·rw [m,e,(ZqB z).1,(ZqB z).2,h1,z];decide
  ·rw [m,e,(ZqC z).1,(ZqC z).2,h1,Nat.pow_succ,← Nat.mul_assoc,Nat.mul_comm _ 2,← Nat.mul_assoc]
   exact Nat.mul_le_mul_right _ ωd
theorem ZiB {a b:Nat} (h:a≤b):fltQ a≤fltQ b:=by
 have hF:fF a≤fF b:=by
  obtain⟨d,rfl⟩:=Nat.exists_eq_add_of_le h
  clear h
  induction d with
  |zero=>exact Nat.le_refl _
  |succ d ih=>exact Nat.le_trans ih (ZqD (a+d))
 unfold fltQ
 rw [Rat.div_def,Rat.div_def]
 exact Rat.mul_le_mul_of_nonneg_right (Rat.natCast_le_natCast.2 hF) ωk
theorem ZlW (b:Nat):0≤fltQ b:=by
 have:=ZiB (Nat.zero_le b)
 have h0:fltQ 0=0:=by decide+kernel
 rw [h0] at this;exact this
theorem ZsA {b:Nat} (h:b≤9218868437227405312):qs (fltQ b)≤1000:=by
 obtain⟨h1,h2⟩:=ZsC h
 have hm:=Ztv b
 have hk:(cn ((fm b:Nat):Rat)).z≤8:=by
  rw [cn_z]
  exact ZaR (n:=(fm b:Int)) ω ω
 rcases Nat.lt_or_ge (fe b) 1075 with c|c
 ·rw [← ZlX c]
  have:=Zb2 ((fm b:Nat):Rat) ((2 ^ (1075 - fe b):Nat):Rat)
  have:=pw_z (n:=1075 - fe b) ω
  rw [cn_z] at hk;omega
 ·rw [← Zo4 c]
  have:=Z2 ((fm b:Nat):Rat) ((2 ^ (fe b - 1075):Nat):Rat)
  have:=pw_z (n:=fe b - 1075) ω
  rw [cn_z] at hk;omega
def bHi (m:Nat):Rat:=((1:Int):Rat) / ((2:Int):Rat)*(fltQ m+fltQ (m+1))
def bLo (m:Nat):Rat:=if 0< m then ((1:Int):Rat) / ((2:Int):Rat)*(fltQ m+fltQ (m - 1)) else -bHi m
theorem ZhG {m:Nat} (h:0< m):bLo m=((1:Int):Rat) / ((2:Int):Rat)*(fltQ m+fltQ (m - 1)):=if_pos h
theorem Zfi {m:Nat} (h:¬ 0< m):bLo m=-bHi m:=if_neg h
theorem ZiY (m:Nat):bLo m≤bHi m:=by
 have e:((1:Int):Rat) / ((2:Int):Rat)=1 / 2:=rfl
 have h1:=ZlW m
 have h2:=ZlW (m+1)
 by_cases h:0< m
 ·rw [ZhG h]
  unfold bHi
  have h3:=ZiB (show m - 1≤m+1 by omega)
  rw [e];grind
 ·rw [Zfi h]
  unfold bHi
  rw [e];grind
def frLo (b:Nat):Rat:=if b / 9223372036854775808=1 then -bHi (b % 9223372036854775808) else bLo (b % 9223372036854775808)
def frHi (b:Nat):Rat:=if b / 9223372036854775808=1 then -bLo (b % 9223372036854775808) else bHi (b % 9223372036854775808)
def frE (b:Nat):Int:=if 9218868437227405312≤b % 9223372036854775808 then 3 else 0
def frA (b:Nat):RV:=if 9218868437227405312≤b % 9223372036854775808 then z0 else cn (frLo b)
def frB (b:Nat):RV:=if 9218868437227405312≤b % 9223372036854775808 then z0 else cn (frHi b)
theorem Zsz {b:Nat} (h:9218868437227405312≤b % 9223372036854775808):frE b=3∧frA b=z0∧frB b=z0:=⟨if_pos h,if_pos h,if_pos h⟩
theorem ZlS {b:Nat} (h:¬ 9218868437227405312≤b % 9223372036854775808):frE b=0∧frA b=cn (frLo b)∧frB b=cn (frHi b):=⟨if_neg h,if_neg h,if_neg h⟩
theorem ZiA {b:Nat} (h:b / 9223372036854775808=1):frLo b=-bHi (b % 9223372036854775808)∧frHi b=-bLo (b % 9223372036854775808):=⟨if_pos h,if_pos h⟩
theorem Ziz {b:Nat} (h:¬ b / 9223372036854775808=1):frLo b=bLo (b % 9223372036854775808)∧frHi b=bHi (b % 9223372036854775808):=⟨if_neg h,if_neg h⟩
set_option exponentiation.threshold 4000
section
variable {K : AV → Prop}
theorem Zjt (n:Nat) (hn:n≤2000):Spec Tryz.prog Tab 165 [int (n:Int)] (rat (cn ((2 ^ n:Nat):Rat))):=by
 have hwn:IntKind.i64.wrap (((n / 8:Nat):Int)+1)=((n / 8+1:Nat):Int):=by rw [wrap64 _ ω ω];omega
 refine Zh Tryz.func165 rfl rfl Tryz.ntmps165 rfl ωr rfl rfl ?_
 refine ZoU n 8 ωf ωf ω ω ?_
 refine⟨⟨by rw [hwn];omega,rfl,(by show (IntKind.i64.wrap (((n / 8:Nat):Int)+1))*1≤_;rw [hwn];omega),by rw [hwn];omega⟩,?_⟩
 refine Zf6 n 8 ωf ωf ω ?_
 refine Zse (n % 8) rfl ω ?_
 refine ZlA 0 ωf (by rw [List.length_replicate,hwn];omega) ?_
 refine⟨(by rw [List.length_replicate,hwn];omega),?_⟩
 refine Zss (pwL n) (pwB n) (by rw [show (IntKind.i64.wrap (((n / 8:Nat):Int)+1)).toNat=n / 8+1 from by rw [wrap64 _ ω ω];omega];exact ZrM n) rfl ?_
 refine Ztq (n:=1) ω ?_
 refine⟨ωr,?_⟩
 refine Eq.trans (b:= .val (.agg [.d (.v (.bool z0.s)),.d (.v (.string (pwB n))),.d (.v (.string (enc 1)))])) ?_ rfl
 rw [← ZrO]
 rfl
theorem Zhl (n:Nat) {y:Int} (hy:y=(n:Int)) (hn:n≤2000) (k:∀ q,q=((2 ^ n:Nat):Rat)→(cn q).z≤300→K (rat (cn q))):Ask 165 [int y] K:=by
 subst hy;exact use (Zjt n hn) rfl (k _ rfl (pw_z hn))
theorem ZjM (b:Nat) (hb:b≤9218868437227405312):Spec Tryz.prog Tab 90 [.val (.one (.d (.v (.int .u64 ((b:Int))))))] (rat (cn (fltQ b))):=by
 have hle:=ZsC hb
 refine Zh Tryz.func90 rfl rfl Tryz.ntmps90 rfl ωr rfl rfl ?_
 refine ZoR (b) 52 4503599627370496 rfl rfl ωd ωd ?_
 refine Zhq ((b / 4503599627370496)) (by first|rfl|(rw [bwu64 ω ω];omega)) ω ?_
 refine Zst (b) 52 4503599627370496 rfl rfl rfl ω ωd ?_
 refine⟨fun e1=> ?_,fun e1=> ?_⟩
 ·have f12:(((b / 4503599627370496):Nat):Int)=0:=ZL e1
  have hfe:=ZqB (b:=b) ω
  refine Zhq ((b % 4503599627370496)) (by first|rfl|(rw [bwu64 ω ω];omega)) ω ?_
  refine k_of ((((b % 4503599627370496):Nat):Int)) ω ω fun q17 h17 z17=> ?_
  simp only [cn_z] at z17
  refine⟨fun e=>absurd e ωd,fun _=> ?_⟩
  refine Zhl (1075 - fe b) ωw ω fun q29 h29 z29=> ?_
  simp only [cn_z] at z29
  refine Zhp (x:=cn q17) (y:=cn q29) ωz ωz (by rw [cn_q,h29];exact Zj5 _) fun q30 h30 z30=> ?_
  simp only [cn_z] at z30
  simp only [cn_q] at h30
  refine⟨ωr,?_⟩
  refine Eq.trans (b:=rat (cn q30)) ?_ rfl
  rw [show q30=fltQ b from by rw [h30,h17,h29,← ZlX ω,hfe.2];rfl]
  all_goals rfl
 ·have f12:¬ ((((b / 4503599627370496):Nat):Int)=0):=ZM e1
  have hfe:=ZqC (b:=b) ω
  refine Ztp ((b % 4503599627370496)) 52 4503599627370496 rfl rfl rfl ω ωd ?_
  refine Zhq (((b % 4503599627370496)+4503599627370496)) (by first|rfl|(rw [bwu64 ω ω];omega)) ω ?_
  refine k_of (((((b % 4503599627370496)+4503599627370496):Nat):Int)) ω ω fun q17 h17 z17=> ?_
  simp only [cn_z] at z17
  refine⟨fun e2=> ?_,fun e2=> ?_⟩
  ·have f19:(((b / 4503599627370496):Nat):Int)≥1075:=of_decide_eq_true e2
   refine Zhl (fe b - 1075) ωw ω fun q23 h23 z23=> ?_
   simp only [cn_z] at z23
   refine Za8 (x:=cn q17) (y:=cn q23) ωz ωz fun q24 h24 z24=> ?_
   simp only [cn_z] at z24
   simp only [cn_q] at h24
   refine⟨ωr,?_⟩
   refine Eq.trans (b:=rat (cn q24)) ?_ rfl
   rw [show q24=fltQ b from by rw [h24,h17,h23,← Zo4 ω,hfe.2];rfl]
   all_goals rfl
  ·have f19:¬ ((((b / 4503599627370496):Nat):Int)≥1075):=of_decide_eq_false e2
   refine Zhl (1075 - fe b) ωw ω fun q29 h29 z29=> ?_
   simp only [cn_z] at z29
   refine Zhp (x:=cn q17) (y:=cn q29) ωz ωz (by rw [cn_q,h29];exact Zj5 _) fun q30 h30 z30=> ?_
   simp only [cn_z] at z30
   simp only [cn_q] at h30
   refine⟨ωr,?_⟩
   refine Eq.trans (b:=rat (cn q30)) ?_ rfl
   rw [show q30=fltQ b from by rw [h30,h17,h29,← ZlX ω,hfe.2];rfl]
   all_goals rfl
theorem Zhn (b:Nat) {y:Int} (hy:y=(b:Int)) (hb:b≤9218868437227405312) (k:∀ q,q=fltQ b→(cn q).z≤1000→K (rat (cn q))):Ask 90 [.val (.one (.d (.v (.int .u64 y))))] K:=by
 subst hy;exact use (ZjM b hb) rfl (k _ rfl (ZsA hb))
theorem ZmM (b:Nat) (hb:b< 18446744073709551616):Spec Tryz.prog Tab 33 [.val (.one (.d (.v (.int .u64 ((b:Int))))))] (.tup [.agg [.d (.v (.bool (frA b).s)),.d (.v (.string (frA b).a)),.d (.v (.string (frA b).d)),.d (.v (.bool (frB b).s)),.d (.v (.string (frB b).a)),.d (.v (.string (frB b).d))],.one (.d (.v (.int .i64 ((frE b)))))]):=by
 refine Zh Tryz.func33 rfl rfl Tryz.ntmps33 rfl ωr rfl rfl ?_
 refine ZoR (b) 63 9223372036854775808 rfl rfl ωd ωd ?_
 refine ZlB (b) rfl ω ?_
 refine⟨fun e1=> ?_,fun e1=> ?_⟩
 ·have f20:((b % 9223372036854775808:Nat):Int)≥9218868437227405312:=of_decide_eq_true e1
  refine Eq.trans (b:= .tup [.agg [.d (.v (.bool z0.s)),.d (.v (.string z0.a)),.d (.v (.string z0.d)),.d (.v (.bool z0.s)),.d (.v (.string z0.a)),.d (.v (.string z0.d))],.one (.d (.v (.int .i64 (3))))]) ?_ rfl
  obtain⟨e1,e2,e3⟩:=Zsz (b:=b) ω
  rw [e1,e2,e3]
  all_goals rfl
 ·have f20:¬ (((b % 9223372036854775808:Nat):Int)≥9218868437227405312):=of_decide_eq_false e1
  refine Zis 1 2 ωd ωd ωd ωd ωk fun q23 h23 z23=> ?_
  simp only [cn_z] at z23
  refine Zhn ((b % 9223372036854775808)) (by first|rfl|(rw [bwu64 ω ω];omega)) ω fun q27 h27 z27=> ?_
  simp only [cn_z] at z27
  refine Zhn ((b % 9223372036854775808)+1) (by first|rfl|(rw [bwu64 ω ω];omega)) ω fun q30 h30 z30=> ?_
  simp only [cn_z] at z30
  refine Za9 (x:=cn q27) (y:=cn q30) ωz ωz fun q34 h34 z34=> ?_
  simp only [cn_z] at z34
  simp only [cn_q] at h34
  refine Za8 (x:=cn q23) (y:=cn q34) ωz ωz fun q35 h35 z35=> ?_
  simp only [cn_z] at z35
  simp only [cn_q] at h35
  refine⟨ωr,?_⟩
  refine ZbG (x:=cn q35) ωz fun q37 h37 z37=> ?_
  simp only [cn_z] at z37
  simp only [cn_q] at h37
  refine⟨fun e2=> ?_,fun e2=> ?_⟩
  ·have f39:((b % 9223372036854775808:Nat):Int) >0:=of_decide_eq_true e2
   refine Zhn ((b % 9223372036854775808) - 1) (by first|rfl|(rw [bwu64 ω ω];omega)) ω fun q44 h44 z44=> ?_
   simp only [cn_z] at z44
   refine Za9 (x:=cn q27) (y:=cn q44) ωz ωz fun q45 h45 z45=> ?_
   simp only [cn_z] at z45
   simp only [cn_q] at h45
   refine Za8 (x:=cn q23) (y:=cn q45) ωz ωz fun q46 h46 z46=> ?_
   simp only [cn_z] at z46
   simp only [cn_q] at h46
   refine⟨ωr,?_⟩
   refine⟨fun e3=> ?_,fun e3=> ?_⟩
   ·have f47:((b / 9223372036854775808:Nat):Int)=1:=ZL e3
    refine ZbG (x:=cn q35) ωz fun q49 h49 z49=> ?_
    simp only [cn_z] at z49
    simp only [cn_q] at h49
    refine ZbG (x:=cn q46) ωz fun q51 h51 z51=> ?_
    simp only [cn_z] at z51
    simp only [cn_q] at h51
    refine⟨ωr,?_⟩
    have hle:=ZiY (b % 9223372036854775808)
    have hhi:q35=bHi (b % 9223372036854775808):=by unfold bHi;rw [h35,h23,h34,h27,h30]
    have hlo:q46=bLo (b % 9223372036854775808):=by rw [ZhG ω,h46,h23,h45,h27,h44]
    refine Zb8 (x:=cn q49) (y:=cn q51) ωz ωz (fun g=> ?_) (fun _ p55 q55 hp55 hq55 zp zq=> ?_)
    ·exfalso
     simp only [cn_q] at g
     grind
    simp only [cn_q] at hp55 hq55
    refine Eq.trans (b:= .tup [.agg [.d (.v (.bool (cn p55).s)),.d (.v (.string (cn p55).a)),.d (.v (.string (cn p55).d)),.d (.v (.bool (cn q55).s)),.d (.v (.string (cn q55).a)),.d (.v (.string (cn q55).d))],.one (.d (.v (.int .i64 (0))))]) ?_ rfl
    obtain⟨e1,e2,e3⟩:=ZlS (b:=b) ω
    obtain⟨e4,e5⟩:=ZiA (b:=b) ω
    rw [e1,e2,e3,e4,e5,← hhi,← hlo,hp55,hq55,h49,h51]
    all_goals rfl
   ·have f47:¬ (((b / 9223372036854775808:Nat):Int)=1):=ZM e3
    have hle:=ZiY (b % 9223372036854775808)
    have hhi:q35=bHi (b % 9223372036854775808):=by unfold bHi;rw [h35,h23,h34,h27,h30]
    have hlo:q46=bLo (b % 9223372036854775808):=by rw [ZhG ω,h46,h23,h45,h27,h44]
    refine Zb8 (x:=cn q46) (y:=cn q35) ωz ωz (fun g=> ?_) (fun _ p55 q55 hp55 hq55 zp zq=> ?_)
    ·exfalso
     simp only [cn_q] at g
     grind
    simp only [cn_q] at hp55 hq55
    refine Eq.trans (b:= .tup [.agg [.d (.v (.bool (cn p55).s)),.d (.v (.string (cn p55).a)),.d (.v (.string (cn p55).d)),.d (.v (.bool (cn q55).s)),.d (.v (.string (cn q55).a)),.d (.v (.string (cn q55).d))],.one (.d (.v (.int .i64 (0))))]) ?_ rfl
    obtain⟨e1,e2,e3⟩:=ZlS (b:=b) ω
    obtain⟨e4,e5⟩:=Ziz (b:=b) ω
    rw [e1,e2,e3,e4,e5,← hhi,← hlo,hp55,hq55]
    all_goals rfl
  ·have f39:¬ (((b % 9223372036854775808:Nat):Int) >0):=of_decide_eq_false e2
   refine⟨fun e4=> ?_,fun e4=> ?_⟩
   ·have f47:((b / 9223372036854775808:Nat):Int)=1:=ZL e4
    refine ZbG (x:=cn q35) ωz fun q49 h49 z49=> ?_
    simp only [cn_z] at z49
    simp only [cn_q] at h49
    refine ZbG (x:=cn q37) ωz fun q51 h51 z51=> ?_
    simp only [cn_z] at z51
    simp only [cn_q] at h51
    refine⟨ωr,?_⟩
    have hle:=ZiY (b % 9223372036854775808)
    have hhi:q35=bHi (b % 9223372036854775808):=by unfold bHi;rw [h35,h23,h34,h27,h30]
    have hlo:q37=bLo (b % 9223372036854775808):=by rw [Zfi ω,← hhi,h37]
    refine Zb8 (x:=cn q49) (y:=cn q51) ωz ωz (fun g=> ?_) (fun _ p55 q55 hp55 hq55 zp zq=> ?_)
    ·exfalso
     simp only [cn_q] at g
     grind
    simp only [cn_q] at hp55 hq55
    refine Eq.trans (b:= .tup [.agg [.d (.v (.bool (cn p55).s)),.d (.v (.string (cn p55).a)),.d (.v (.string (cn p55).d)),.d (.v (.bool (cn q55).s)),.d (.v (.string (cn q55).a)),.d (.v (.string (cn q55).d))],.one (.d (.v (.int .i64 (0))))]) ?_ rfl
    obtain⟨e1,e2,e3⟩:=ZlS (b:=b) ω
    obtain⟨e4,e5⟩:=ZiA (b:=b) ω
    rw [e1,e2,e3,e4,e5,← hhi,← hlo,hp55,hq55,h49,h51]
    all_goals rfl
   ·have f47:¬ (((b / 9223372036854775808:Nat):Int)=1):=ZM e4
    have hle:=ZiY (b % 9223372036854775808)
    have hhi:q35=bHi (b % 9223372036854775808):=by unfold bHi;rw [h35,h23,h34,h27,h30]
    have hlo:q37=bLo (b % 9223372036854775808):=by rw [Zfi ω,← hhi,h37]
    refine Zb8 (x:=cn q37) (y:=cn q35) ωz ωz (fun g=> ?_) (fun _ p55 q55 hp55 hq55 zp zq=> ?_)
    ·exfalso
     simp only [cn_q] at g
     grind
    simp only [cn_q] at hp55 hq55
    refine Eq.trans (b:= .tup [.agg [.d (.v (.bool (cn p55).s)),.d (.v (.string (cn p55).a)),.d (.v (.string (cn p55).d)),.d (.v (.bool (cn q55).s)),.d (.v (.string (cn q55).a)),.d (.v (.string (cn q55).d))],.one (.d (.v (.int .i64 (0))))]) ?_ rfl
    obtain⟨e1,e2,e3⟩:=ZlS (b:=b) ω
    obtain⟨e4,e5⟩:=Ziz (b:=b) ω
    rw [e1,e2,e3,e4,e5,← hhi,← hlo,hp55,hq55]
    all_goals rfl
theorem Zsu (b:Nat) {y:Int} (hy:y=(b:Int)) (hb:b< 18446744073709551616) (k:∀ x z n,n=frE b→x=frA b→z=frB b→K (two (pair x z) (int n))):Ask 33 [.val (.one (.d (.v (.int .u64 y))))] K:=by
 subst hy;exact use (ZmM b hb) rfl (k _ _ _ rfl rfl rfl)
end
