/- Walk: gantlaw1.NatInts. -/
import Derived.Test.YtdhpmdkfmgpcmaaDoorRefD
namespace Go.Proofs.YtdhpmdkfmgpcmaaDoor.lawA
open Go.RowKit num mem natA natB natC natD refA refB refC refD

theorem enc_lit (s : ByteArray) (c : UInt8) (r : List UInt8) (hs : s.data.toList = c :: r) (hc : c ≠ 0) (n : Nat) (hn : nv s = n) : enc n = s := by
  rw [← hn]
  apply enc_nv_of_nz
  intro c' r' h
  rw [hs] at h
  injection h with h1 _
  rw [← h1]; exact hc
theorem enc_256 : enc 256 = ⟨#[1, 0]⟩ := enc_lit _ 1 [0] rfl (by decide) _ (by decide)
theorem nv_maxint : nv ⟨#[127, 255, 255, 255, 255, 255, 255, 255]⟩ = 9223372036854775807 := by decide

end Go.Proofs.YtdhpmdkfmgpcmaaDoor.lawA
