/-
  DERIVED. GIVEN WITH THE SEED: THE CARDS: each row of YtjlhknppkodilaaGreatDoorRows.lean that lists a variable, with what it lists TIED to the program's text (the seventh form; the later family's looks); each row that meets fmt, with fmt's text TOLD by the authors' own Lean function (tested against real Go, not proved from fmt's source: count such statements apart). THE CARD IS WHAT COUNTS. Prove the row's statement (the work); the ties are given (YtjlhknppkodilaaGreatDoorTie.lean); close each card by the builder's one call (the guide's Derived/Test/ToyasCard.lean, 'card_holds'). Laid BY PROGRAM, IN A SANDBOX (cutbox-door.mjs). By AI agents, Wed Nov 11 2026. No macro, syntax, notation, axiom, sorry.
-/
import Derived.Test.YtjlhknppkodilaaGreatDoorRows
import GoSem.ClaimSeven
namespace Go.Proofs.YtjlhknppkodilaaGreatDoor
namespace Rows

/-- THE TIED CARD OF 'gantlaw3.TimingSmooths'. -/
def timingSmoothsCard : Claim7 := { stood := { row := timingSmoothsRow, standIns := [], harness := (true, "12bb2d78f5ee8b2da9f8e03511813de7b555086c51b6dc0690ba06d48611d386"), looks := false }, kinds := [], alts := [], laidByText := true, laidKinds := [.data, .data, .pinned], laidTests := true, laidLooks := .later }
def TimingSmoothsCardSaid : Prop := Claim7.holds Tryz.pinned (.plain (OpenSpec.ofChange timingSmoothsSpec)) timingSmoothsCard

/-- THE SECOND FORM's CARD OF 'gantlaw3.TimingSmooths'. -/
def timingSmoothsUptoCard : Claim7 := { stood := { row := timingSmoothsUptoRow, standIns := [], harness := (true, "12bb2d78f5ee8b2da9f8e03511813de7b555086c51b6dc0690ba06d48611d386"), looks := false }, kinds := [], alts := [], laidByText := true, laidKinds := [.data, .data, .pinned], laidTests := true, laidLooks := .later }
def TimingSmoothsUptoCardSaid : Prop := Claim7.holds Tryz.pinned (.plain (OpenSpec.upto timingSmoothsSpec)) timingSmoothsUptoCard
end Rows
end Go.Proofs.YtjlhknppkodilaaGreatDoor
