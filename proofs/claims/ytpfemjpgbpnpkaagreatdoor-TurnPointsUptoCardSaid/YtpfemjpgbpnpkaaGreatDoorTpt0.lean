/- Plain law: the length of a vector, if it is rational. No program. -/
import Derived.Test.YtpfemjpgbpnpkaaGreatDoorGrpT
import Derived.Test.YtpfemjpgbpnpkaaGreatDoorGrp9
import Derived.Test.YtpfemjpgbpnpkaaGreatDoorEngR
namespace Go.Proofs.YtpfemjpgbpnpkaaGreatDoor.eng
open Go.RowKit num mem seg q held ratA ratB ratC ratD ratE vars ratF trq
noncomputable def rtV (s:Rat):RV:=⟨false,enc (rootN s.num.natAbs),enc (rootN s.den)⟩
def isSq (s:Rat):Prop:=rootN s.num.natAbs*rootN s.num.natAbs=s.num.natAbs∧rootN s.den*rootN s.den=s.den
theorem rt_q {s:Rat} (g:(rtV s).good):(rtV s).q=mkRat (sg false (rootN s.num.natAbs)) (rootN s.den):=by
 unfold RV.q qv
 rw [if_pos (show q.good (rtV s).s (rtV s).a (rtV s).d from g)]
 show mkRat (sg false (nv (enc _))) (nv (enc _))=_
 rw [Zd,Zd]
theorem Zn1 {s:Rat} (h:isSq s):(rtV s).good:=by
 obtain⟨h1,h2⟩:=h
 have hd:0< rootN s.den:=by
  rcases Nat.eq_zero_or_pos (rootN s.den) with e|e
  ·rw [e] at h2;exact absurd h2.symm s.den_nz
  ·exact e
 have hg:Nat.gcd (rootN s.num.natAbs) (rootN s.den)=1:=by
  have hc:Nat.Coprime s.num.natAbs s.den:=s.reduced
  exact(hc.coprime_dvd_left ⟨_,h1.symm⟩).coprime_dvd_right ⟨_,h2.symm⟩
 show q.good false (enc _) (enc _)
 unfold q.good
 rw [Zd,Zd]
 exact⟨rfl,rfl,hd,fun _=>rfl,hg⟩
theorem ZxF (n:Nat):sg false n*sg false n=sg false (n*n):=by unfold sg;simp
theorem Ztr {s:Rat} (g:(rtV s).good):(rtV s).q*(rtV s).q=mkRat (sg false (rootN s.num.natAbs*rootN s.num.natAbs)) (rootN s.den*rootN s.den):=by
 rw [rt_q g,Rat.mkRat_mul_mkRat,ZxF]
theorem Ztp {s:Rat} (hs:0≤s) (h:isSq s):(rtV s).q*(rtV s).q=s:=by
 rw [Ztr (Zn1 h),h.1,h.2]
 have:sg false s.num.natAbs=s.num:=by
  have:=Rat.num_nonneg.2 hs
  unfold sg;simp only [Bool.false_eq_true,if_false];omega
 rw [this,Rat.mkRat_self]
theorem Zv8 {s:Rat} (g:(rtV s).good) (e:(rtV s).q*(rtV s).q=s):isSq s:=by
 rw [Ztr g] at e
 obtain⟨_,_,g3,_,g5⟩:=(show q.good false (enc _) (enc _) from g)
 rw [Zd] at g3
 rw [Zd,Zd] at g5
 have hg:Nat.gcd (rootN s.num.natAbs*rootN s.num.natAbs) (rootN s.den*rootN s.den)=1:=by
  have hc:Nat.Coprime (rootN s.num.natAbs) (rootN s.den):=g5
  exact Nat.Coprime.mul_left (Nat.Coprime.mul_right hc hc) (Nat.Coprime.mul_right hc hc)
 obtain⟨k1,k2⟩:=ZtD (s:=false) (Nat.mul_pos g3 g3) hg
 rw [e] at k1 k2
 refine⟨?_,k2.symm⟩
 have:sg false (rootN s.num.natAbs*rootN s.num.natAbs)=((rootN s.num.natAbs*rootN s.num.natAbs:Nat):Int):=rfl
 rw [this] at k1
 omega
theorem Znt {r x:Rat} (hr:r≠0):1+x / r=(r+x) / r:=by
 have h:=Rat.mul_inv_cancel r hr
 rw [Rat.div_def,Rat.div_def]
 grind
theorem to_H {r x:Rat} (hr:r≠0):((1:Int):Rat)+x / r=0↔r+x=0:=by
 have e:((1:Int):Rat)=1:=rfl
 rw [e,Znt hr]
 have h:=Rat.mul_inv_cancel r hr
 rw [Rat.div_def]
 constructor
 ·intro g
  have:(r+x)*r⁻¹*r=0:=by rw [g,Rat.zero_mul]
  grind
 ·intro g;rw [g,Rat.zero_mul]
theorem to_Q {r x y:Rat} (hr:r≠0) (hx:r+x≠0):y / r / (((1:Int):Rat)+x / r)=y / (r+x):=by
 have e:((1:Int):Rat)=1:=rfl
 rw [e,Znt hr]
 have h:=Rat.mul_inv_cancel r hr
 have h2:=Rat.mul_inv_cancel (r+x) hx
 have h3:(r+x)*r⁻¹≠0:=fun g=>by
  have:(r+x)*r⁻¹*r=0:=by rw [g,Rat.zero_mul]
  exact hx (by grind)
 have h4:=Rat.mul_inv_cancel _ h3
 simp only [Rat.div_def] at*
 have k:y*r⁻¹*((r+x)*r⁻¹)⁻¹*((r+x)*r⁻¹)=y*(r+x)⁻¹*((r+x)*r⁻¹):=by grind
 have k2:∀ a b c:Rat,c≠0→a*c=b*c→a=b:=fun a b c hc g=>by
  have:=Rat.mul_inv_cancel c hc
  have:a*c*c⁻¹=b*c*c⁻¹:=by rw [g]
  grind
 exact k2 _ _ _ h3 k
def sqQ (x y:RV):Rat:=x.q*x.q+y.q*y.q
open Classical in
noncomputable def toE (s:Rat):Int:=if s=0 then 12 else if isSq s then 0 else 3
noncomputable def toH (x y:RV):Bool:=if toE (sqQ x y)=0 then tofH (x.q / (rtV (sqQ x y)).q) else false
noncomputable def toT (x y:RV):RV:=if toE (sqQ x y)=0 then cn (tofQ (x.q / (rtV (sqQ x y)).q) (y.q / (rtV (sqQ x y)).q)) else z0
theorem Zug {s:Rat} (h:s=0):toE s=12:=if_pos h
theorem ZhE {s:Rat} (h:¬ s=0) (g:¬ isSq s):toE s=3:=by unfold toE;rw [if_neg h,if_neg g]
theorem Zi1 {s:Rat} (h:¬ s=0) (g:isSq s):toE s=0:=by unfold toE;rw [if_neg h,if_pos g]
theorem ZlM {x y:RV} (h:¬ toE (sqQ x y)=0):toH x y=false∧toT x y=z0:=⟨if_neg h,if_neg h⟩
theorem ZqW {x y:RV} (h:toE (sqQ x y)=0):toH x y=tofH (x.q / (rtV (sqQ x y)).q)∧toT x y=cn (tofQ (x.q / (rtV (sqQ x y)).q) (y.q / (rtV (sqQ x y)).q)):=⟨if_pos h,if_pos h⟩
theorem sq_pos (x y:RV):0≤sqQ x y:=by
 have h:∀ a:Rat,0≤a*a:=fun a=>by
  rcases Rat.le_total (a:=0) (b:=a) with h|h
  ·exact Rat.mul_nonneg h h
  ·have:=Rat.mul_nonneg (show 0≤-a by grind) (show 0≤-a by grind)
   grind
 have h1:=h x.q
 have h2:=h y.q
 unfold sqQ
 grind
theorem Zuq {s:Rat} (hs:0≤s) (h0:¬ s=0) (h:isSq s):(rtV s).q≠0:=fun e=>by
 have:=Ztp hs h
 rw [e] at this
 exact h0 (by rw [← this,Rat.zero_mul])
theorem Znr {x y:RV} (h0:¬ sqQ x y=0) (h:isSq (sqQ x y)) (g:(rtV (sqQ x y)).q+x.q=0):toH x y=true∧toT x y=cn ((0:Int):Rat):=by
 have e:=ZqW (Zi1 h0 h)
 have k:=(to_H (x:=x.q) (Zuq (sq_pos x y) h0 h)).2 g
 rw [e.1,e.2]
 unfold tofH tofQ
 rw [decide_eq_true k,if_pos k]
 exact⟨rfl,rfl⟩
theorem Zns {x y:RV} (h0:¬ sqQ x y=0) (h:isSq (sqQ x y)) (g:(rtV (sqQ x y)).q+x.q≠0):toH x y=false∧toT x y=cn (y.q / ((rtV (sqQ x y)).q+x.q)):=by
 have e:=ZqW (Zi1 h0 h)
 have nz:=Zuq (sq_pos x y) h0 h
 have k:¬ ((1:Int):Rat)+x.q / (rtV (sqQ x y)).q=0:=fun hh=>g ((to_H nz).1 hh)
 rw [e.1,e.2]
 unfold tofH tofQ
 rw [decide_eq_false k,if_neg k,to_Q nz g]
 exact⟨rfl,rfl⟩
end Go.Proofs.YtpfemjpgbpnpkaaGreatDoor.eng
