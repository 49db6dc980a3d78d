/-
  DERIVED. GIVEN WITH THE SEED: THE CARDS: each row of YtncoimmjjfmhdaaGreatDoorRows.lean that lists a variable, with what it lists TIED to the program's text (the seventh form; the later family's looks); each row that meets fmt, with fmt's text TOLD by the authors' own Lean function (tested against real Go, not proved from fmt's source: count such statements apart). THE CARD IS WHAT COUNTS. Prove the row's statement (the work); the ties are given (YtncoimmjjfmhdaaGreatDoorTie.lean); close each card by the builder's one call (the guide's Derived/Test/ToyasCard.lean, 'card_holds'). Laid BY PROGRAM, IN A SANDBOX (cutbox-door.mjs). By AI agents, Wed Nov 11 2026. No macro, syntax, notation, axiom, sorry.
-/
import Derived.Test.YtncoimmjjfmhdaaGreatDoorRows
import GoSem.ClaimSeven
namespace Go.Proofs.YtncoimmjjfmhdaaGreatDoor
namespace Rows

/-- THE TIED CARD OF 'gantlaw1.SweepTells'. -/
def sweepTellsCard : Claim7 := { stood := { row := sweepTellsRow, standIns := [], harness := (true, "efe84763ab5d0182222673b5b51b8d1bfd886f26cbd01de31784b299bafe2744"), looks := false }, kinds := [], alts := [], laidByText := true, laidKinds := [.data], laidTests := true, laidLooks := .later }
def SweepTellsCardSaid : Prop := Claim7.holds Tryz.pinned (.plain (OpenSpec.ofChange sweepTellsSpec)) sweepTellsCard

/-- THE TIED CARD OF 'gantlaw3.TimingSmooths'. -/
def timingSmoothsCard : Claim7 := { stood := { row := timingSmoothsRow, standIns := [], harness := (true, "efe84763ab5d0182222673b5b51b8d1bfd886f26cbd01de31784b299bafe2744"), looks := false }, kinds := [], alts := [], laidByText := true, laidKinds := [.data, .data, .pinned], laidTests := true, laidLooks := .later }
def TimingSmoothsCardSaid : Prop := Claim7.holds Tryz.pinned (.plain (OpenSpec.ofChange timingSmoothsSpec)) timingSmoothsCard

/-- THE SECOND FORM's CARD OF 'gantlaw1.SweepTells'. -/
def sweepTellsUptoCard : Claim7 := { stood := { row := sweepTellsUptoRow, standIns := [], harness := (true, "efe84763ab5d0182222673b5b51b8d1bfd886f26cbd01de31784b299bafe2744"), looks := false }, kinds := [], alts := [], laidByText := true, laidKinds := [.data], laidTests := true, laidLooks := .later }
def SweepTellsUptoCardSaid : Prop := Claim7.holds Tryz.pinned (.plain (OpenSpec.upto sweepTellsSpec)) sweepTellsUptoCard

/-- THE SECOND FORM's CARD OF 'gantlaw3.TimingSmooths'. -/
def timingSmoothsUptoCard : Claim7 := { stood := { row := timingSmoothsUptoRow, standIns := [], harness := (true, "efe84763ab5d0182222673b5b51b8d1bfd886f26cbd01de31784b299bafe2744"), looks := false }, kinds := [], alts := [], laidByText := true, laidKinds := [.data, .data, .pinned], laidTests := true, laidLooks := .later }
def TimingSmoothsUptoCardSaid : Prop := Claim7.holds Tryz.pinned (.plain (OpenSpec.upto timingSmoothsSpec)) timingSmoothsUptoCard
end Rows
end Go.Proofs.YtncoimmjjfmhdaaGreatDoor
