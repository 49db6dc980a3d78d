/- Joined by wip/bundle.py: XSingA XForcA XTrackA. -/
import Derived.Test.YtgkofgfiifgioaaGreatDoorQForeA
import Derived.Test.YtgkofgfiifgioaaGreatDoorQOpenA
namespace Go.Proofs.YtgkofgfiifgioaaGreatDoor.eng
open Go.RowKit num mem seg q held ratA ratB ratC ratD ratE vars ratF trq
section
variable {K : AV → Prop}
end
section
variable {K : AV → Prop}
end
open argopen
section
variable {K : AV → Prop}
def tz (t:List (Int×List RV)):Prop:=t.length≤1048576∧∀ k,k∈t→(-9223372036854775808≤k.1∧k.1≤9223372036854775807)∧k.2.length≤1048576∧∀ x,x∈k.2→x.z≤1048577
end
