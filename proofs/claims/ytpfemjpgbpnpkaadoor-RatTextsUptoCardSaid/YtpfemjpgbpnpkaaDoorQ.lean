/- Plain arithmetic, no program: rational numbers as a sign and two strings of bytes. -/
import Derived.Test.YtpfemjpgbpnpkaaDoorGrpC
namespace Go.Proofs.YtpfemjpgbpnpkaaDoor.q
open Go.RowKit num
def sg (neg:Bool) (n:Nat):Int:=if neg then -(n:Int) else n
def good (s:Bool) (a d:ByteArray):Prop:=enc (nv a)=a∧enc (nv d)=d∧0< nv d∧(nv a=0→s=false)∧Nat.gcd (nv a) (nv d)=1
instance (s:Bool) (a d:ByteArray):Decidable (good s a d):=by unfold good;infer_instance
def qv (s:Bool) (a d:ByteArray):Rat:=if good s a d then mkRat (sg s (nv a)) (nv d) else 0
def Is (q:Rat) (s:Bool) (a d:ByteArray):Prop:=s=decide (q.num< 0)∧a=enc q.num.natAbs∧d=enc q.den
def rv (s:Bool) (a d:ByteArray):Value:= .agg #[.bool s,.string a,.string d]
def qs (q:Rat):Nat:=max (enc q.num.natAbs).size (enc q.den).size
theorem Zbe (s:Bool) (n:Nat):(sg s n).natAbs=n:=by unfold sg;split<;>simp
theorem Zfq (q:Rat):sg (decide (q.num< 0)) q.num.natAbs=q.num:=by
 unfold sg
 by_cases h:q.num< 0
 ·rw [if_pos (by simpa using h)];omega
 ·rw [if_neg (by simpa using h)];omega
theorem Zhf (q:Rat):good (decide (q.num< 0)) (enc q.num.natAbs) (enc q.den):=by
 refine⟨by rw [Zc],by rw [Zc],by rw [Zc];exact Nat.pos_of_ne_zero q.den_nz,?_,by rw [Zc,Zc];exact q.reduced⟩
 intro h
 rw [Zc] at h
 have:¬ q.num< 0:=by omega
 simpa using this
theorem ZjB (q:Rat):qv (decide (q.num< 0)) (enc q.num.natAbs) (enc q.den)=q:=by
 unfold qv
 rw [if_pos (Zhf q),Zc,Zc,Zfq,Rat.mkRat_self]
theorem Is.val {q:Rat} {s:Bool} {a d:ByteArray} (h:Is q s a d):qv s a d=q:=by
 obtain⟨rfl,rfl,rfl⟩:=h
 exact ZjB q
theorem Is.fine {q:Rat} {s:Bool} {a d:ByteArray} (h:Is q s a d):good s a d:=by
 obtain⟨rfl,rfl,rfl⟩:=h
 exact Zhf q
theorem Zjl {s:Bool} {n d:Nat} (hd:0< d) (hg:Nat.gcd n d=1):(mkRat (sg s n) d).num=sg s n∧(mkRat (sg s n) d).den=d:=by
 have h:mkRat (sg s n) d=⟨sg s n,d,by omega,by unfold Nat.Coprime;rw [Zbe];exact hg⟩:=(Rat.mk_eq_mkRat _ _ _ _).symm
 rw [h]
 exact⟨rfl,rfl⟩
theorem ZcZ {s:Bool} {a d:ByteArray} (h:good s a d):Is (qv s a d) s a d:=by
 unfold qv
 rw [if_pos h]
 obtain⟨h1,h2,h3,h4,h5⟩:=h
 obtain⟨e1,e2⟩:=Zjl (s:=s) h3 h5
 refine⟨?_,?_,?_⟩
 ·rw [e1]
  cases s with
  |false=>simp [sg]
  |true=>
   have:nv a≠0:=fun h=>by simpa using h4 h
   simp [sg];omega
 ·rw [e1,Zbe,h1]
 ·rw [e2,h2]
theorem Is.inj {q:Rat} {s s':Bool} {a a' d d':ByteArray} (h:Is q s a d) (h':Is q s' a' d'):s=s'∧a=a'∧d=d':=by
 obtain⟨rfl,rfl,rfl⟩:=h
 obtain⟨rfl,rfl,rfl⟩:=h'
 exact⟨rfl,rfl,rfl⟩
theorem Is.sz {q:Rat} {s:Bool} {a d:ByteArray} (h:Is q s a d):a.size≤qs q∧d.size≤qs q:=by
 obtain⟨rfl,rfl,rfl⟩:=h
 unfold qs
 exact⟨Nat.le_max_left _ _,Nat.le_max_right _ _⟩
theorem Is.num {q:Rat} {s:Bool} {a d:ByteArray} (h:Is q s a d):sg s (nv a)=q.num∧nv d=q.den:=by
 obtain⟨rfl,rfl,rfl⟩:=h
 rw [Zc,Zc]
 exact⟨Zfq q,rfl⟩
theorem Zhb:Is 0 false ⟨#[]⟩ ⟨#[1]⟩:=⟨rfl,by rw [show ((0:Rat).num.natAbs)=0 from rfl,Zy],by decide+kernel⟩
theorem qs_le {q:Rat} {k:Nat}:qs q≤k↔q.num.natAbs< 256 ^ k∧q.den< 256 ^ k:=by
 unfold qs
 rw [Nat.max_le,Zg,Zg]
theorem Zh9 (n:Int) {d:Nat} (hd:d≠0):(mkRat n d).num.natAbs≤n.natAbs∧(mkRat n d).den≤d:=by
 rw [Rat.num_mkRat,Rat.den_mkRat,if_neg hd,if_neg hd]
 exact⟨by rw [Int.natAbs_ediv_of_dvd (Int.ofNat_dvd_left.2 (Nat.gcd_dvd_right _ _))];exact Nat.div_le_self _ _,Nat.div_le_self _ _⟩
theorem Zh0 {n:Int} {d k:Nat} (hd:d≠0) (h1:n.natAbs< 256 ^ k) (h2:d< 256 ^ k):qs (mkRat n d)≤k:=by
 obtain⟨e1,e2⟩:=Zh9 n hd
 exact qs_le.2 ⟨by omega,by omega⟩
theorem Zji {n:Int} {k:Nat} (h:n.natAbs< 256 ^ k) (hk:0< k):qs (n:Rat)≤k:=by
 rw [qs_le,Rat.num_intCast,Rat.den_intCast]
 exact⟨h,Nat.one_lt_pow (by omega) (by omega)⟩
theorem Is.parts {q:Rat} {s:Bool} {a d:ByteArray} (h:Is q s a d):∃ n m:Nat,a=enc n∧d=enc m∧sg s n=q.num∧m=q.den∧0< m∧n=q.num.natAbs:=by
 obtain⟨rfl,rfl,rfl⟩:=h
 exact⟨_,_,rfl,rfl,Zfq q,rfl,Nat.pos_of_ne_zero q.den_nz,rfl⟩
theorem Zc7 {a b j k:Nat} (ha:(enc a).size≤j) (hb:(enc b).size≤k):(enc (a*b)).size≤j+k:=by
 rw [Zg] at*
 rw [Nat.pow_add]
 exact Nat.mul_lt_mul'' ha hb
end Go.Proofs.YtpfemjpgbpnpkaaDoor.q
