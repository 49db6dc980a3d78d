/- Joined by wip/bundle.py: XShb0 XShbA XShbR. -/
import Derived.Test.YtpfemjpgbpnpkaaGreatDoorGrpR
import Derived.Test.YtpfemjpgbpnpkaaGreatDoorGrpX
namespace Go.Proofs.YtpfemjpgbpnpkaaGreatDoor.eng
open Go.RowKit num mem seg q held ratA ratB ratC ratD ratE vars ratF trq
structure B4 where
 xl:Rat
 xh:Rat
 yl:Rat
 yh:Rat
def B4.le (b:B4):Prop:=b.xl≤b.xh∧b.yl≤b.yh
def B4.z (b:B4) (B:Nat):Prop:=(qs b.xl≤B∧qs b.xh≤B)∧qs b.yl≤B∧qs b.yh≤B
def atL (f:LF) (v:RV×RV):B4:=
 ⟨f.xl+(mulLo v.1.q v.1.q f.cl f.ch - mulHi v.2.q v.2.q f.sl f.sh),f.xh+(mulHi v.1.q v.1.q f.cl f.ch - mulLo v.2.q v.2.q f.sl f.sh),
  f.yl+(mulLo v.1.q v.1.q f.sl f.sh+mulLo v.2.q v.2.q f.cl f.ch),f.yh+(mulHi v.1.q v.1.q f.sl f.sh+mulHi v.2.q v.2.q f.cl f.ch)⟩
theorem ZtE {a b:Rat} {B:Nat} (h:qs a≤B) (g:qs b≤B):qs (minQ a b)≤B:=by unfold minQ;split<;>assumption
theorem ZtH {a b:Rat} {B:Nat} (h:qs a≤B) (g:qs b≤B):qs (maxQ a b)≤B:=by unfold maxQ;split<;>assumption
theorem atL_z {f:LF} {v:RV×RV} (hx:f.zx 28) (hc:f.zc 3) (hv:v.1.z≤8∧v.2.z≤8):(atL f v).z 400:=by
 obtain⟨⟨x1,x2⟩,x3,x4⟩:=hx
 obtain⟨⟨c1,c2⟩,c3,c4⟩:=hc
 have v1:=v.1.z1
 have v2:=v.2.z1
 obtain⟨a1,a2⟩:=ZkX v.1.q v.1.q f.cl f.ch
 obtain⟨b1,b2⟩:=ZkX v.2.q v.2.q f.sl f.sh
 obtain⟨d1,d2⟩:=ZkX v.1.q v.1.q f.sl f.sh
 obtain⟨e1,e2⟩:=ZkX v.2.q v.2.q f.cl f.ch
 have k1:=ZZ (mulLo v.1.q v.1.q f.cl f.ch) (mulHi v.2.q v.2.q f.sl f.sh)
 have k2:=ZZ (mulHi v.1.q v.1.q f.cl f.ch) (mulLo v.2.q v.2.q f.sl f.sh)
 have k3:=ZC (mulLo v.1.q v.1.q f.sl f.sh) (mulLo v.2.q v.2.q f.cl f.ch)
 have k4:=ZC (mulHi v.1.q v.1.q f.sl f.sh) (mulHi v.2.q v.2.q f.cl f.ch)
 have l1:=ZC f.xl (mulLo v.1.q v.1.q f.cl f.ch - mulHi v.2.q v.2.q f.sl f.sh)
 have l2:=ZC f.xh (mulHi v.1.q v.1.q f.cl f.ch - mulLo v.2.q v.2.q f.sl f.sh)
 have l3:=ZC f.yl (mulLo v.1.q v.1.q f.sl f.sh+mulLo v.2.q v.2.q f.cl f.ch)
 have l4:=ZC f.yh (mulHi v.1.q v.1.q f.sl f.sh+mulHi v.2.q v.2.q f.cl f.ch)
 unfold B4.z atL
 exact⟨⟨by simp only;omega,by simp only;omega⟩,by simp only;omega,by simp only;omega⟩
end Go.Proofs.YtpfemjpgbpnpkaaGreatDoor.eng
namespace Go.Proofs.YtpfemjpgbpnpkaaGreatDoor.eng
open Go.RowKit num mem seg q held ratA ratB ratC ratD ratE vars ratF trq
section
variable {K : AV → Prop}
end
end Go.Proofs.YtpfemjpgbpnpkaaGreatDoor.eng
namespace Go.Proofs.YtpfemjpgbpnpkaaGreatDoor.eng
open Go.RowKit num mem seg q held ratA ratB ratC ratD ratE vars ratF trq
section
variable {K : AV → Prop}
end
end Go.Proofs.YtpfemjpgbpnpkaaGreatDoor.eng
