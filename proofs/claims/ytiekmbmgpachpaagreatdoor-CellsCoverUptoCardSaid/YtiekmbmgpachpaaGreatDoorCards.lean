/-
  DERIVED. GIVEN WITH THE SEED: THE CARDS: each row of YtiekmbmgpachpaaGreatDoorRows.lean that lists a variable, with what it lists TIED to the program's text (the seventh form; the later family's looks); each row that meets fmt, with fmt's text TOLD by the authors' own Lean function (tested against real Go, not proved from fmt's source: count such statements apart). THE CARD IS WHAT COUNTS. Prove the row's statement (the work); the ties are given (YtiekmbmgpachpaaGreatDoorTie.lean); close each card by the builder's one call (the guide's Derived/Test/ToyasCard.lean, 'card_holds'). Laid BY PROGRAM, IN A SANDBOX (cutbox-door.mjs). By AI agents, Wed Nov 11 2026. No macro, syntax, notation, axiom, sorry.
-/
import Derived.Test.YtiekmbmgpachpaaGreatDoorRows
import GoSem.ClaimSeven
namespace Go.Proofs.YtiekmbmgpachpaaGreatDoor
namespace Rows

/-- THE TIED CARD OF 'ganttop.TurningCells'. -/
def turningCellsCard : Claim7 := { stood := { row := turningCellsRow, standIns := [], harness := (true, "214451f83cdb047d6c7c6bc38d2f6abbe3bdaab2d50d102e8afcfabcd7f02787"), looks := false }, kinds := [], alts := [], laidByText := true, laidKinds := [.data], laidTests := true, laidLooks := .later }
def TurningCellsCardSaid : Prop := Claim7.holds Tryz.pinned (.plain (OpenSpec.ofChange turningCellsSpec)) turningCellsCard

/-- THE TIED CARD OF 'ganttop.CellsCover'. -/
def cellsCoverCard : Claim7 := { stood := { row := cellsCoverRow, standIns := [], harness := (true, "214451f83cdb047d6c7c6bc38d2f6abbe3bdaab2d50d102e8afcfabcd7f02787"), looks := false }, kinds := [], alts := [], laidByText := true, laidKinds := [.data], laidTests := true, laidLooks := .later }
def CellsCoverCardSaid : Prop := Claim7.holds Tryz.pinned (.plain (OpenSpec.ofChange cellsCoverSpec)) cellsCoverCard

/-- THE SECOND FORM's CARD OF 'ganttop.TurningCells'. -/
def turningCellsUptoCard : Claim7 := { stood := { row := turningCellsUptoRow, standIns := [], harness := (true, "214451f83cdb047d6c7c6bc38d2f6abbe3bdaab2d50d102e8afcfabcd7f02787"), looks := false }, kinds := [], alts := [], laidByText := true, laidKinds := [.data], laidTests := true, laidLooks := .later }
def TurningCellsUptoCardSaid : Prop := Claim7.holds Tryz.pinned (.plain (OpenSpec.upto turningCellsSpec)) turningCellsUptoCard

/-- THE SECOND FORM's CARD OF 'ganttop.CellsCover'. -/
def cellsCoverUptoCard : Claim7 := { stood := { row := cellsCoverUptoRow, standIns := [], harness := (true, "214451f83cdb047d6c7c6bc38d2f6abbe3bdaab2d50d102e8afcfabcd7f02787"), looks := false }, kinds := [], alts := [], laidByText := true, laidKinds := [.data], laidTests := true, laidLooks := .later }
def CellsCoverUptoCardSaid : Prop := Claim7.holds Tryz.pinned (.plain (OpenSpec.upto cellsCoverSpec)) cellsCoverUptoCard
end Rows
end Go.Proofs.YtiekmbmgpachpaaGreatDoor
