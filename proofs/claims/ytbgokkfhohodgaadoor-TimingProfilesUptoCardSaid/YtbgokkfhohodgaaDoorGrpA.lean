/- Joined by wip/bundle.py: XEngFl. -/
import Derived.Test.YtbgokkfhohodgaaDoorEngU
namespace Go.Proofs.YtbgokkfhohodgaaDoor.eng
open Go.RowKit num mem seg q held ratA ratB ratC ratD ratE vars ratF natC natD natI
def str (s:ByteArray):AV:= .val (.one (.d (.v (.string s))))
section
variable {x y : RV} {K : AV → Prop} {a b : ByteArray} {n m : Nat}
theorem Zho (ox oy:Operand) (s t:ByteArray) (w:World):(do eqGuard .neq 9 ox oy (.string s) (.string t);binOp .neq 9 (.string s) (.string t):Sem Value).run Tryd.prog w= .ok (.bool (!decide (s=t))) w:=by
 by_cases H:s=t
 ·obtain rfl:=H;simp [go_sem]
 ·rw [decide_eq_false H];simp [go_sem,Zia,H]
theorem ZhT (ox oy:Operand) (s t:ByteArray) (w:World):(do eqGuard .eql 9 ox oy (.string s) (.string t);binOp .eql 9 (.string s) (.string t):Sem Value).run Tryd.prog w= .ok (.bool (decide (s=t))) w:=by
 by_cases H:s=t
 ·obtain rfl:=H;simp [go_sem]
 ·rw [decide_eq_false H];simp [go_sem,Zia,H]
theorem Zal {ox oy:Operand} {s t:ByteArray} (k1:s=t→K (bool false)) (k0:¬ s=t→K (bool true)):AskB .neq 9 ox oy (.string s) (.string t) K:=by
 by_cases H:s=t
 ·exact useB (fun w=>by have:=Zho ox oy s t w;rw [decide_eq_true H] at this;exact this) (k1 H)
 ·exact useB (fun w=>by have:=Zho ox oy s t w;rw [decide_eq_false H] at this;exact this) (k0 H)
theorem Zct {ox oy:Operand} {s t:ByteArray} (k1:s=t→K (bool true)) (k0:¬ s=t→K (bool false)):AskB .eql 9 ox oy (.string s) (.string t) K:=by
 by_cases H:s=t
 ·exact useB (fun w=>by have:=ZhT ox oy s t w;rw [decide_eq_true H] at this;exact this) (k1 H)
 ·exact useB (fun w=>by have:=ZhT ox oy s t w;rw [decide_eq_false H] at this;exact this) (k0 H)
end
end Go.Proofs.YtbgokkfhohodgaaDoor.eng
