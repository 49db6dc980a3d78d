/- Joined by wip/bundle.py: XSpr0 XSprA XSprR. -/
import Derived.Test.YtiekmbmgpachpaaGreatDoorFore0
import Derived.Test.YtiekmbmgpachpaaGreatDoorGrpQ
import Derived.Test.YtiekmbmgpachpaaGreatDoorGrpA
import Derived.Test.YtiekmbmgpachpaaGreatDoorForeA
import Derived.Test.YtiekmbmgpachpaaGreatDoorWg
import Derived.Test.YtiekmbmgpachpaaGreatDoorGrpZ
namespace Go.Proofs.YtiekmbmgpachpaaGreatDoor.eng
open Go.RowKit num mem seg q held ratA ratB ratC ratD ratE vars ratF trq
def sle (p q:Rat):Prop:=p≤q
theorem Zid {l h a:Rat}:hasQ l h a=true↔l≤a∧a≤h:=by
 unfold hasQ;rw [Bool.and_eq_true,decide_eq_true_iff,decide_eq_true_iff]
structure LF where
 xl:Rat
 xh:Rat
 yl:Rat
 yh:Rat
 cl:Rat
 ch:Rat
 sl:Rat
 sh:Rat
def LF.has (f:LF) (g:RF):Prop:=(f.xl≤g.x∧g.x≤f.xh)∧(f.yl≤g.y∧g.y≤f.yh)∧(f.cl≤g.c∧g.c≤f.ch)∧(f.sl≤g.s∧g.s≤f.sh)
def LF.le (f:LF):Prop:=sle f.xl f.xh∧sle f.yl f.yh∧sle f.cl f.ch∧sle f.sl f.sh
def LF.zc (f:LF) (B:Nat):Prop:=(qs f.cl≤B∧qs f.ch≤B)∧(qs f.sl≤B∧qs f.sh≤B)
end Go.Proofs.YtiekmbmgpachpaaGreatDoor.eng
namespace Go.Proofs.YtiekmbmgpachpaaGreatDoor.eng
open Go.RowKit num mem seg q held ratA ratB ratC ratD ratE vars ratF trq
section
variable {K : AV → Prop}
end
end Go.Proofs.YtiekmbmgpachpaaGreatDoor.eng
namespace Go.Proofs.YtiekmbmgpachpaaGreatDoor.eng
open Go.RowKit num mem seg q held ratA ratB ratC ratD ratE vars ratF trq
section
variable {K : AV → Prop}
section
variable  {p q r u : Rat}
end
section
variable  {p q r u : Rat}
end
section
variable  {p q r u : Rat}
end
end
end Go.Proofs.YtiekmbmgpachpaaGreatDoor.eng
