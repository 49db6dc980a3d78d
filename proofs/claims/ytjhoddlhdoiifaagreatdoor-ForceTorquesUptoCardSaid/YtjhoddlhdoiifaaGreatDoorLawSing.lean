/- Contract of gantlaw3.SingleColumns: it returns true. Printed by wip/gp_single.py. -/
import Derived.Test.YtjhoddlhdoiifaaGreatDoorSingA
import Derived.Test.YtjhoddlhdoiifaaGreatDoorGrpX
import Derived.Test.YtjhoddlhdoiifaaGreatDoorOpenA
namespace Go.Proofs.YtjhoddlhdoiifaaGreatDoor.eng
open Go.RowKit num mem seg q held ratA ratB ratC ratD ratE vars ratF argopen trq
section
variable {K : AV → Prop}
theorem samp_base (l : List Nat) : baseF (sampA l) = ⟨n0Q, n0Q, cosq false n0Q, sinq n0Q⟩ := by
  unfold baseF
  rw [show (sampA l).bx.q = n0Q from cn_q _, show (sampA l).by'.q = n0Q from cn_q _, show (sampA l).bt.q = n0Q from cn_q _]; rfl
theorem cols32 : colsV (sampA [3, 2]) (natRV [0, 0]) = [(n0Q, ((5 : Nat) : Rat)), (n0Q, n2Q)] := by
  have q0 : qAt (natRV [0, 0]) 0 = n0Q := (qAt_is rfl).trans (cn_q _)
  have q1 : qAt (natRV [0, 0]) 1 = n0Q := (qAt_is rfl).trans (cn_q _)
  have l0 : lenAt (sampA [3, 2]) 0 = ((3 : Nat) : Rat) := (lenAt_is rfl).trans (cn_q _)
  have l1 : lenAt (sampA [3, 2]) 1 = ((2 : Nat) : Rat) := (lenAt_is rfl).trans (cn_q _)
  rw [colsV_ok (sampA_has (by decide) (by decide) (by decide) rfl)]
  have e0 : linkF (sampA [3, 2]) (natRV [0, 0]) 0 = turnF ⟨n0Q, n0Q, cosq false n0Q, sinq n0Q⟩ n0Q := by
    show turnF (baseF _) (qAt _ 0) = _
    rw [samp_base, q0]
  have e1 : linkF (sampA [3, 2]) (natRV [0, 0]) 1 = turnF (longF (turnF ⟨n0Q, n0Q, cosq false n0Q, sinq n0Q⟩ n0Q) ((3 : Nat) : Rat)) n0Q := by
    show turnF (longF (linkF _ _ 0) (lenAt _ 0)) (qAt _ 1) = _
    rw [e0, q1, l0]
  have e2 : endF (sampA [3, 2]) (natRV [0, 0]) (sampA [3, 2]).links.length = longF (turnF (longF (turnF ⟨n0Q, n0Q, cosq false n0Q, sinq n0Q⟩ n0Q) ((3 : Nat) : Rat)) n0Q) ((2 : Nat) : Rat) := by
    show longF (linkF _ _ 1) (lenAt _ 1) = _
    rw [e1, l1]
  show [colF _ _ 0, colF _ _ 1] = _
  unfold colF
  rw [e0, e1, e2]
  decide +kernel
theorem samp_q {l : List Nat} (h : ∀ n, n ∈ l → n < 256) : ∀ x, x ∈ natRV l → x.z ≤ 1048576 := fun x hx => Nat.le_trans (natRV_z h x hx) (by decide)
end
end Go.Proofs.YtjhoddlhdoiifaaGreatDoor.eng
