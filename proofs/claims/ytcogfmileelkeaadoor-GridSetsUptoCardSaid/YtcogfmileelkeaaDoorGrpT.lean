/- Joined by wip/bundle.py: XTrq XEngTurn. -/
import Derived.Test.YtcogfmileelkeaaDoorQ
import Derived.Test.YtcogfmileelkeaaDoorGrpEn
namespace Go.Proofs.YtcogfmileelkeaaDoor.trq
open q
end Go.Proofs.YtcogfmileelkeaaDoor.trq
namespace Go.Proofs.YtcogfmileelkeaaDoor.eng
open Go.RowKit num mem seg q held ratA ratB ratC ratD ratE vars ratF trq
section
variable {x y : RV} {h g : Bool} {K : AV → Prop}
theorem z0_q:z0.q=0:=by
 have:¬ q.good false ⟨#[]⟩ ⟨#[]⟩:=by decide+kernel
 show qv false ⟨#[]⟩ ⟨#[]⟩=0
 unfold qv
 rw [if_neg this]
theorem z0_z:z0.z=0:=rfl
end
end Go.Proofs.YtcogfmileelkeaaDoor.eng
