/- Joined by wip/bundle.py: XEngFl. -/
import Derived.Test.YtbgokkfhohodgaaGreatDoorEngU
namespace Go.Proofs.YtbgokkfhohodgaaGreatDoor.eng
open Go.RowKit num mem seg q held ratA ratB ratC ratD ratE vars ratF natC natD natI
def str (s:ByteArray):AV:= .val (.one (.d (.v (.string s))))
section
variable {x y : RV} {K : AV → Prop} {a b : ByteArray} {n m : Nat}
theorem ZjE (n:Int) (h:n≤9223372036854775807):Spec Tryz.prog Tab 136 [int n] (str (enc n.toNat)):=
 Zn (Zr Tryz.func136 rfl rfl) rfl rfl fun w _=>(Zje n w h).mono fun _ _ h=>h
theorem ZlP {n:Int} (h:n≤9223372036854775807) (k:K (str (enc n.toNat))):Ask 136 [int n] K:=use (ZjE n h) rfl k
theorem Zik (ox oy:Operand) (s t:ByteArray) (w:World):(do eqGuard .neq 9 ox oy (.string s) (.string t);binOp .neq 9 (.string s) (.string t):Sem Value).run Tryz.prog w= .ok (.bool (!decide (s=t))) w:=by
 by_cases H:s=t
 ·obtain rfl:=H;simp [go_sem]
 ·rw [decide_eq_false H];simp [go_sem,Zi3,H]
theorem ZiN (ox oy:Operand) (s t:ByteArray) (w:World):(do eqGuard .eql 9 ox oy (.string s) (.string t);binOp .eql 9 (.string s) (.string t):Sem Value).run Tryz.prog w= .ok (.bool (decide (s=t))) w:=by
 by_cases H:s=t
 ·obtain rfl:=H;simp [go_sem]
 ·rw [decide_eq_false H];simp [go_sem,Zi3,H]
theorem Zbl {ox oy:Operand} {s t:ByteArray} (k1:s=t→K (bool false)) (k0:¬ s=t→K (bool true)):AskB .neq 9 ox oy (.string s) (.string t) K:=by
 by_cases H:s=t
 ·exact useB (fun w=>by have:=Zik ox oy s t w;rw [decide_eq_true H] at this;exact this) (k1 H)
 ·exact useB (fun w=>by have:=Zik ox oy s t w;rw [decide_eq_false H] at this;exact this) (k0 H)
theorem Zai {ox oy:Operand} {s t:ByteArray} (k1:s=t→K (bool true)) (k0:¬ s=t→K (bool false)):AskB .eql 9 ox oy (.string s) (.string t) K:=by
 by_cases H:s=t
 ·exact useB (fun w=>by have:=ZiN ox oy s t w;rw [decide_eq_true H] at this;exact this) (k1 H)
 ·exact useB (fun w=>by have:=ZiN ox oy s t w;rw [decide_eq_false H] at this;exact this) (k0 H)
theorem ZaK {n:Nat}:enc n=⟨#[]⟩↔n=0:=by
 constructor
 ·intro h
  have:=Za n
  rw [h] at this
  rw [← this];exact ZbQ
 ·intro h;subst h;exact ZB
end
end Go.Proofs.YtbgokkfhohodgaaGreatDoor.eng
