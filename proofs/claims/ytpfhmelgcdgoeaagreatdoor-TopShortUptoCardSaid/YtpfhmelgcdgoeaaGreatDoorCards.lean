/-
  DERIVED. GIVEN WITH THE SEED: THE CARDS: each row of YtpfhmelgcdgoeaaGreatDoorRows.lean that lists a variable, with what it lists TIED to the program's text (the seventh form; the later family's looks); each row that meets fmt, with fmt's text TOLD by the authors' own Lean function (tested against real Go, not proved from fmt's source: count such statements apart). THE CARD IS WHAT COUNTS. Prove the row's statement (the work); the ties are given (YtpfhmelgcdgoeaaGreatDoorTie.lean); close each card by the builder's one call (the guide's Derived/Test/ToyasCard.lean, 'card_holds'). Laid BY PROGRAM, IN A SANDBOX (cutbox-door.mjs). By AI agents, Wed Nov 11 2026. No macro, syntax, notation, axiom, sorry.
-/
import Derived.Test.YtpfhmelgcdgoeaaGreatDoorRows
import GoSem.ClaimSeven
namespace Go.Proofs.YtpfhmelgcdgoeaaGreatDoor
namespace Rows

/-- THE TIED CARD OF 'ganttop.TopShort'. -/
def topShortCard : Claim7 := { stood := { row := topShortRow, standIns := [], harness := (true, "ea2ee5b8c50d089983b059d47d7b4ec5401c53fcf8f2a6ef6293397ec07af732"), looks := false }, kinds := [], alts := [], laidByText := true, laidKinds := [.data], laidTests := true, laidLooks := .later }
def TopShortCardSaid : Prop := Claim7.holds Tryz.pinned (.plain (OpenSpec.ofChange topShortSpec)) topShortCard

/-- THE SECOND FORM's CARD OF 'ganttop.TopShort'. -/
def topShortUptoCard : Claim7 := { stood := { row := topShortUptoRow, standIns := [], harness := (true, "ea2ee5b8c50d089983b059d47d7b4ec5401c53fcf8f2a6ef6293397ec07af732"), looks := false }, kinds := [], alts := [], laidByText := true, laidKinds := [.data], laidTests := true, laidLooks := .later }
def TopShortUptoCardSaid : Prop := Claim7.holds Tryz.pinned (.plain (OpenSpec.upto topShortSpec)) topShortUptoCard
end Rows
end Go.Proofs.YtpfhmelgcdgoeaaGreatDoor
