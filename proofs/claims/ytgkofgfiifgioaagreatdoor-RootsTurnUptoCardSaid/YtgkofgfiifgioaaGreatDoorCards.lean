/-
  DERIVED. GIVEN WITH THE SEED: THE CARDS: each row of YtgkofgfiifgioaaGreatDoorRows.lean that lists a variable, with what it lists TIED to the program's text (the seventh form; the later family's looks); each row that meets fmt, with fmt's text TOLD by the authors' own Lean function (tested against real Go, not proved from fmt's source: count such statements apart). THE CARD IS WHAT COUNTS. Prove the row's statement (the work); the ties are given (YtgkofgfiifgioaaGreatDoorTie.lean); close each card by the builder's one call (the guide's Derived/Test/ToyasCard.lean, 'card_holds'). Laid BY PROGRAM, IN A SANDBOX (cutbox-door.mjs). By AI agents, Wed Nov 11 2026. No macro, syntax, notation, axiom, sorry.
-/
import Derived.Test.YtgkofgfiifgioaaGreatDoorRows
import GoSem.ClaimSeven
namespace Go.Proofs.YtgkofgfiifgioaaGreatDoor
namespace Rows

/-- THE TIED CARD OF 'ganttop.RootsTurn'. -/
def rootsTurnCard : Claim7 := { stood := { row := rootsTurnRow, standIns := [], harness := (true, "3962cbbd72fd2125584ac8e4d94920230f6649a3dc8be80a71798791e64e6c30"), looks := false }, kinds := [], alts := [], laidByText := true, laidKinds := [.data], laidTests := true, laidLooks := .later }
def RootsTurnCardSaid : Prop := Claim7.holds Tryz.pinned (.plain (OpenSpec.ofChange rootsTurnSpec)) rootsTurnCard

/-- THE TIED CARD OF 'gantlaw3.PathFinds'. -/
def pathFindsCard : Claim7 := { stood := { row := pathFindsRow, standIns := [], harness := (true, "3962cbbd72fd2125584ac8e4d94920230f6649a3dc8be80a71798791e64e6c30"), looks := false }, kinds := [], alts := [], laidByText := true, laidKinds := [.data, .data, .pinned], laidTests := true, laidLooks := .later }
def PathFindsCardSaid : Prop := Claim7.holds Tryz.pinned (.plain (OpenSpec.ofChange pathFindsSpec)) pathFindsCard

/-- THE SECOND FORM's CARD OF 'ganttop.RootsTurn'. -/
def rootsTurnUptoCard : Claim7 := { stood := { row := rootsTurnUptoRow, standIns := [], harness := (true, "3962cbbd72fd2125584ac8e4d94920230f6649a3dc8be80a71798791e64e6c30"), looks := false }, kinds := [], alts := [], laidByText := true, laidKinds := [.data], laidTests := true, laidLooks := .later }
def RootsTurnUptoCardSaid : Prop := Claim7.holds Tryz.pinned (.plain (OpenSpec.upto rootsTurnSpec)) rootsTurnUptoCard

/-- THE SECOND FORM's CARD OF 'gantlaw3.PathFinds'. -/
def pathFindsUptoCard : Claim7 := { stood := { row := pathFindsUptoRow, standIns := [], harness := (true, "3962cbbd72fd2125584ac8e4d94920230f6649a3dc8be80a71798791e64e6c30"), looks := false }, kinds := [], alts := [], laidByText := true, laidKinds := [.data, .data, .pinned], laidTests := true, laidLooks := .later }
def PathFindsUptoCardSaid : Prop := Claim7.holds Tryz.pinned (.plain (OpenSpec.upto pathFindsSpec)) pathFindsUptoCard
end Rows
end Go.Proofs.YtgkofgfiifgioaaGreatDoor
