/- Joined by wip/bundle.py: XEngL XEngSpan XEngAro XEngSpan2 XEngSweep XEngBound. -/
import Derived.Test.YtcogfmileelkeaaDoorGrpEn
import Derived.Test.YtcogfmileelkeaaDoorGrpT
namespace Go.Proofs.YtcogfmileelkeaaDoor.eng
open Go.RowKit num mem seg q held ratA ratB ratC ratD ratE vars ratF
def rd (x:RV):List D:= [.v (.bool x.s),.v (.string x.a),.v (.string x.d)]
section
variable {K : AV → Prop}
theorem k_at {xs:List (List D)} {m:Int} {n:Nat} (cs:List D) (h0:0≤m) (h:xs[m.toNat]? =some cs) (hl:cs.length=n) (k:K (.val (.one (.ref cs)))):
  ∃ r,(∃ cs,0≤m∧xs[m.toNat]? =some cs∧cs.length=n∧r= .val (.one (.ref cs)))∧K r:=⟨_,⟨cs,h0,h,hl,rfl⟩,k⟩
theorem wrap64 (n:Int) (h1:-9223372036854775808≤n) (h2:n≤9223372036854775807):IntKind.i64.wrap n=n:=by
 unfold IntKind.wrap
 simp [IntKind.signed,IntKind.bits]
 split<;>omega
end
end Go.Proofs.YtcogfmileelkeaaDoor.eng
namespace Go.Proofs.YtcogfmileelkeaaDoor.eng
open Go.RowKit num mem seg q held ratA ratB ratC ratD ratE vars ratF trq
section
variable {x y z t : RV} {h g : Bool} {K : AV → Prop}
def sgd (x y:RV):Prop:=x.good∧y.good∧x.q≤y.q
instance (x y:RV):Decidable (sgd x y):=inferInstanceAs (Decidable (x.good∧y.good∧x.q≤y.q))
def hasQ (l h a:Rat):Bool:=decide (l≤a)&&decide (a≤h)
theorem hl (a b c:Rat) (h:a< b):hasQ a c b=decide (b≤c):=by simp [hasQ,Rat.le_of_lt h]
theorem he (a b c:Rat) (h:a=b):hasQ a c b=decide (b≤c):=by simp [hasQ,h]
theorem hg (a b c:Rat) (h:b< a):hasQ a c b=false:=by simp [hasQ,Rat.not_le.2 h]
theorem hl' (a b c:Rat) (h:a< b):hasQ b c a=false:=hg _ _ _ h
end
end Go.Proofs.YtcogfmileelkeaaDoor.eng
namespace Go.Proofs.YtcogfmileelkeaaDoor.eng
open Go.RowKit num mem seg q held ratA ratB ratC ratD ratE vars ratF trq
section
variable {x y z t : RV} {K : AV → Prop}
def fv (g:FuncId):AV:= .val (.one (.d (.v (.func (.func g) #[] #[]))))
end
end Go.Proofs.YtcogfmileelkeaaDoor.eng
namespace Go.Proofs.YtcogfmileelkeaaDoor.eng
open Go.RowKit num mem seg q held ratA ratB ratC ratD ratE vars ratF trq
section
variable {x y z t : RV} {K : AV → Prop}
end
end Go.Proofs.YtcogfmileelkeaaDoor.eng
namespace Go.Proofs.YtcogfmileelkeaaDoor.eng
open Go.RowKit num mem seg q held ratA ratB ratC ratD ratE vars ratF trq
section
variable {x y z t u v w : RV} {K : AV → Prop}
end
end Go.Proofs.YtcogfmileelkeaaDoor.eng
namespace Go.Proofs.YtcogfmileelkeaaDoor.eng
open Go.RowKit num mem seg q held ratA ratB ratC ratD ratE vars ratF trq
section
variable {x y z t : RV} {K : AV → Prop}
def rdv (p:RV×RV):List D:=rd p.1++rd p.2
end
end Go.Proofs.YtcogfmileelkeaaDoor.eng
