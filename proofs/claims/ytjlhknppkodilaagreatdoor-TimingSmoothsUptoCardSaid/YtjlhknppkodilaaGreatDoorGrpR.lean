/- Joined by wip/bundle.py: XSpr0 XSprA XSprR. -/
import Derived.Test.YtjlhknppkodilaaGreatDoorFore0
import Derived.Test.YtjlhknppkodilaaGreatDoorGrpQ
import Derived.Test.YtjlhknppkodilaaGreatDoorGrpA
import Derived.Test.YtjlhknppkodilaaGreatDoorForeA
import Derived.Test.YtjlhknppkodilaaGreatDoorWg
import Derived.Test.YtjlhknppkodilaaGreatDoorGrpZ
namespace Go.Proofs.YtjlhknppkodilaaGreatDoor.eng
open Go.RowKit num mem seg q held ratA ratB ratC ratD ratE vars ratF trq
theorem Zii {l h a:Rat}:hasQ l h a=true↔l≤a∧a≤h:=by
 unfold hasQ;rw [Bool.and_eq_true,decide_eq_true_iff,decide_eq_true_iff]
structure LF where
 xl:Rat
 xh:Rat
 yl:Rat
 yh:Rat
 cl:Rat
 ch:Rat
 sl:Rat
 sh:Rat
def LF.has (f:LF) (g:RF):Prop:=(f.xl≤g.x∧g.x≤f.xh)∧(f.yl≤g.y∧g.y≤f.yh)∧(f.cl≤g.c∧g.c≤f.ch)∧(f.sl≤g.s∧g.s≤f.sh)
end Go.Proofs.YtjlhknppkodilaaGreatDoor.eng
namespace Go.Proofs.YtjlhknppkodilaaGreatDoor.eng
open Go.RowKit num mem seg q held ratA ratB ratC ratD ratE vars ratF trq
section
variable {K : AV → Prop}
end
end Go.Proofs.YtjlhknppkodilaaGreatDoor.eng
namespace Go.Proofs.YtjlhknppkodilaaGreatDoor.eng
open Go.RowKit num mem seg q held ratA ratB ratC ratD ratE vars ratF trq
section
variable {K : AV → Prop}
section
variable  {p q r u : Rat}
end
section
variable  {p q r u : Rat}
end
section
variable  {p q r u : Rat}
end
set_option maxRecDepth 100000 in
theorem ZjC (p q a:Rat) (hp:qs p≤536870912) (hq:qs q≤536870912) (ha:qs a≤536870912):Spec Tryz.prog Tab 42 [q3p p q,q3 a] (bool (hasQ p q a)):=by
 refine Zf Tryz.func42 rfl rfl Tryz.ntmps42 rfl (by kernel_rfl) rfl rfl ?_
 refine Zes (p:=p) (q:=a) (by omega) (by omega) fun n8 h8=> ?_
 refine fork (fun e1=> ?_) (fun e1=> ?_)
 ·have f10:p≤a:=(ZoO h8).1 (of_decide_eq_true e1)
  refine Zes (p:=a) (q:=q) (by omega) (by omega) fun n14 h14=> ?_
  refine Eq.trans (b:=bool (decide (n14≤0))) ?_ rfl
  rw [show hasQ p q a=decide (n14≤0) from by unfold hasQ;rw [decide_eq_true f10,Bool.true_and];exact decide_eq_decide.2 (ZoO h14).symm]
 ·have f10:¬ (p≤a):=fun hh=>of_decide_eq_false e1 ((ZoO h8).2 hh)
  refine Eq.trans (b:=bool false) ?_ rfl
  rw [show hasQ p q a=false from by unfold hasQ;rw [decide_eq_false f10];rfl]
theorem ZoB {p q a:Rat} (hp:qs p≤536870912) (hq:qs q≤536870912) (ha:qs a≤536870912) (k:∀ b,b=hasQ p q a→K (bool b)):Ask 42 [q3p p q,q3 a] K:=use (ZjC p q a hp hq ha) rfl (k _ rfl)
end
end Go.Proofs.YtjlhknppkodilaaGreatDoor.eng
