/- gantlaw3.RoamNexts: it returns true. Printed by wip/gp_rnx.py. -/
import Derived.Test.YtobeklcimmjodaaRnxD
import Derived.Test.YtobeklcimmjodaaOpenS
namespace Go.Proofs.Ytobeklcimmjodaa.eng
open Go.RowKit mem argopen
section
variable {K : AV → Prop}
theorem roamNexts_walk (x0 x1 : Int) (v2 : Value) (l2 : List Int) (N : Nat) (w : World) (_ : 1 ≤ N) (hN : N ≤ 1048576) (_ : -9223372036854775808 ≤ x0 ∧ x0 ≤ 9223372036854775807) (_ : -9223372036854775808 ≤ x1 ∧ x1 ≤ 9223372036854775807)
    (h2 : Den w (fun b => b < w.heap.size) v2 (.list (l2.map intD))) (u2 : intsZ l2 N) (_ : True) :
    Calls Try.prog 3 #[.int .i64 x0, .int .i64 x1, v2] w fun e w' => e = .returned (.bool true) ∧ Below w.heap.size w w' := by
  have h := (roamNexts_spec x0 x1 l2 (Nat.le_trans u2.1 hN)).2 w (fun b => b < w.heap.size) [.int .i64 x0, .int .i64 x1, v2] trivial (fun _ h => h)
    (((Rel2.nil.cons (show DenAV w _ noBs noMem v2 (.val (.one (.d (.list _)))) from h2)).cons (show DenAV w _ noBs noMem (.int .i64 x1) (int x1) from Den.v _ rfl)).cons (show DenAV w _ noBs noMem (.int .i64 x0) (int x0) from Den.v _ rfl))
  refine Calls.mono h fun e w' ⟨y, he, hd, hb⟩ => ⟨?_, hb⟩
  rw [he, den_one hd]
end
end Go.Proofs.Ytobeklcimmjodaa.eng
