/- Joined by wip/bundle.py: XSpr0 XSprA XSprR. -/
import Derived.Test.YtbgokkfhohodgaaGreatDoorFore0
import Derived.Test.YtbgokkfhohodgaaGreatDoorGrpQ
import Derived.Test.YtbgokkfhohodgaaGreatDoorGrpA
import Derived.Test.YtbgokkfhohodgaaGreatDoorForeA
import Derived.Test.YtbgokkfhohodgaaGreatDoorWg
import Derived.Test.YtbgokkfhohodgaaGreatDoorGrpZ
namespace Go.Proofs.YtbgokkfhohodgaaGreatDoor.eng
open Go.RowKit num mem seg q held ratA ratB ratC ratD ratE vars ratF trq
structure LF where
 xl:Rat
 xh:Rat
 yl:Rat
 yh:Rat
 cl:Rat
 ch:Rat
 sl:Rat
 sh:Rat
def LF.has (f:LF) (g:RF):Prop:=(f.xl≤g.x∧g.x≤f.xh)∧(f.yl≤g.y∧g.y≤f.yh)∧(f.cl≤g.c∧g.c≤f.ch)∧(f.sl≤g.s∧g.s≤f.sh)
end Go.Proofs.YtbgokkfhohodgaaGreatDoor.eng
namespace Go.Proofs.YtbgokkfhohodgaaGreatDoor.eng
open Go.RowKit num mem seg q held ratA ratB ratC ratD ratE vars ratF trq
section
variable {K : AV → Prop}
end
end Go.Proofs.YtbgokkfhohodgaaGreatDoor.eng
namespace Go.Proofs.YtbgokkfhohodgaaGreatDoor.eng
open Go.RowKit num mem seg q held ratA ratB ratC ratD ratE vars ratF trq
section
variable {K : AV → Prop}
section
variable  {p q r u : Rat}
end
section
variable  {p q r u : Rat}
end
section
variable  {p q r u : Rat}
end
end
end Go.Proofs.YtbgokkfhohodgaaGreatDoor.eng
