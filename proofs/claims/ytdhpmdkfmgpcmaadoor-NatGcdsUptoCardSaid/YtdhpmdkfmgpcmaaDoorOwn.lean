/- Memory, no program: from a row's first cells back to what a call owns. -/
import Derived.Test.YtdhpmdkfmgpcmaaDoorMem
namespace Go.Proofs.YtdhpmdkfmgpcmaaDoor.mem
open Go.RowKit

theorem pre_owns {w : World} {base e g cap : Nat} {xs : List Value} (h : Pre w g e cap xs) (hb : base ≤ g) (hm : cap ≤ maxLen) : w.ownsRow base e 1 (.slice (some ⟨g, 0, none⟩) xs.length cap) xs.length xs := by
  obtain ⟨cur, hc, hs, hl, ht⟩ := h
  exact ⟨by simp, .inr ⟨g, cap, cur, rfl, hb, hc, hl, hm, by simpa using hs, by simpa using ht⟩⟩
theorem owns_pre' {w : World} {base e : Nat} {v : Value} {xs : List Value} (h : w.ownsRow base e 1 v xs.length xs) : (v = .slice none 0 0 ∧ xs = []) ∨ ∃ g cap, v = .slice (some ⟨g, 0, none⟩) xs.length cap ∧ base ≤ g ∧ cap ≤ maxLen ∧ Pre w g e cap xs := by
  obtain ⟨h1, h2⟩ := h
  rcases h2 with ⟨hv, hn⟩ | ⟨g, cap, cur, hv, hb, hg, hle, hm, hs, ht⟩
  · exact .inl ⟨hv, List.eq_nil_of_length_eq_zero hn⟩
  · exact .inr ⟨g, cap, hv, hb, hm, cur, hg, by simpa using hs, hle, by simpa using ht⟩

end Go.Proofs.YtdhpmdkfmgpcmaaDoor.mem
