/- The engine at this program: lists of numbers, loops over them. -/
import Derived.Test.YtpfemjpgbpnpkaaDoorEngU
namespace Go.Proofs.YtpfemjpgbpnpkaaDoor.eng
open Go.RowKit num mem seg q held ratA ratB ratC ratD ratE vars ratF
def rd (x:RV):List D:= [.v (.bool x.s),.v (.string x.a),.v (.string x.d)]
section
variable {K : AV → Prop}
theorem wrap64 (n:Int) (h1:-9223372036854775808≤n) (h2:n≤9223372036854775807):IntKind.i64.wrap n=n:=by
 unfold IntKind.wrap
 simp [IntKind.signed,IntKind.bits]
 split<;>omega
end
end Go.Proofs.YtpfemjpgbpnpkaaDoor.eng
