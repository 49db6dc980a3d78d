/-
  DERIVED. GIVEN WITH THE SEED: THE CARDS: each row of YtcogfmileelkeaaDoorRows.lean that lists a variable, with what it lists TIED to the program's text (the seventh form; the later family's looks); each row that meets fmt, with fmt's text TOLD by the authors' own Lean function (tested against real Go, not proved from fmt's source: count such statements apart). THE CARD IS WHAT COUNTS. Prove the row's statement (the work); the ties are given (YtcogfmileelkeaaDoorTie.lean); close each card by the builder's one call (the guide's Derived/Test/ToyasCard.lean, 'card_holds'). Laid BY PROGRAM, IN A SANDBOX (cutbox-door.mjs). By AI agents, Wed Nov 11 2026. No macro, syntax, notation, axiom, sorry.
-/
import Derived.Test.YtcogfmileelkeaaDoorRows
import GoSem.ClaimSeven
namespace Go.Proofs.YtcogfmileelkeaaDoor
namespace Rows

/-- THE TIED CARD OF 'gantlaw1.GridSets'. -/
def gridSetsCard : Claim7 := { stood := { row := gridSetsRow, standIns := [], harness := (true, "8dcf937c0919bafa06dae52c44200399db7de71f1c7f2caca484737f06331ecc"), looks := false }, kinds := [], alts := [], laidByText := true, laidKinds := [.data], laidTests := true, laidLooks := .later }
def GridSetsCardSaid : Prop := Claim7.holds Tryd.pinned (.plain (OpenSpec.ofChange gridSetsSpec)) gridSetsCard

/-- THE SECOND FORM's CARD OF 'gantlaw1.GridSets'. -/
def gridSetsUptoCard : Claim7 := { stood := { row := gridSetsUptoRow, standIns := [], harness := (true, "8dcf937c0919bafa06dae52c44200399db7de71f1c7f2caca484737f06331ecc"), looks := false }, kinds := [], alts := [], laidByText := true, laidKinds := [.data], laidTests := true, laidLooks := .later }
def GridSetsUptoCardSaid : Prop := Claim7.holds Tryd.pinned (.plain (OpenSpec.upto gridSetsSpec)) gridSetsUptoCard
end Rows
end Go.Proofs.YtcogfmileelkeaaDoor
