/- What the printed walks (wip/wg.py) lean on. -/
import Derived.Test.YtpfemjpgbpnpkaaDoorEngL
namespace Go.Proofs.YtpfemjpgbpnpkaaDoor.eng
open Go.RowKit num mem seg q held ratA ratB ratC ratD ratE vars ratF
section
variable {K : AV → Prop}
theorem ZbO {a b:Int} (h:(a !=b)=true):¬ a=b:=fun e=>by rw [e] at h;simp at h
theorem ZbP {a b:Int} (h:(a !=b)=false):a=b:=by simpa using h
theorem ZjC {b:Bool} (h:(!b)=true):b=false:=by simpa using h
theorem ZjD {b:Bool} (h:(!b)=false):b=true:=by simpa using h
variable {T : TypeId} {ox oy : Operand}
end
end Go.Proofs.YtpfemjpgbpnpkaaDoor.eng
