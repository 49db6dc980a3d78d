/-
  DERIVED. GIVEN WITH THE SEED: THE CARDS: each row of YtnhfpbcbhnfeaaaGreatDoorRows.lean that lists a variable, with what it lists TIED to the program's text (the seventh form; the later family's looks); each row that meets fmt, with fmt's text TOLD by the authors' own Lean function (tested against real Go, not proved from fmt's source: count such statements apart). THE CARD IS WHAT COUNTS. Prove the row's statement (the work); the ties are given (YtnhfpbcbhnfeaaaGreatDoorTie.lean); close each card by the builder's one call (the guide's Derived/Test/ToyasCard.lean, 'card_holds'). Laid BY PROGRAM, IN A SANDBOX (cutbox-door.mjs). By AI agents, Wed Nov 11 2026. No macro, syntax, notation, axiom, sorry.
-/
import Derived.Test.YtnhfpbcbhnfeaaaGreatDoorRows
import GoSem.ClaimSeven
namespace Go.Proofs.YtnhfpbcbhnfeaaaGreatDoor
namespace Rows

/-- THE TIED CARD OF 'gantlaw3.PathFinds'. -/
def pathFindsCard : Claim7 := { stood := { row := pathFindsRow, standIns := [], harness := (true, "d52e0b709dd3dd47837e0e4894c9e5d6c6790558cb9e67d6de16f88e7aa834e1"), looks := false }, kinds := [], alts := [], laidByText := true, laidKinds := [.data, .data, .pinned], laidTests := true, laidLooks := .later }
def PathFindsCardSaid : Prop := Claim7.holds Tryz.pinned (.plain (OpenSpec.ofChange pathFindsSpec)) pathFindsCard

/-- THE SECOND FORM's CARD OF 'gantlaw3.PathFinds'. -/
def pathFindsUptoCard : Claim7 := { stood := { row := pathFindsUptoRow, standIns := [], harness := (true, "d52e0b709dd3dd47837e0e4894c9e5d6c6790558cb9e67d6de16f88e7aa834e1"), looks := false }, kinds := [], alts := [], laidByText := true, laidKinds := [.data, .data, .pinned], laidTests := true, laidLooks := .later }
def PathFindsUptoCardSaid : Prop := Claim7.holds Tryz.pinned (.plain (OpenSpec.upto pathFindsSpec)) pathFindsUptoCard
end Rows
end Go.Proofs.YtnhfpbcbhnfeaaaGreatDoor
