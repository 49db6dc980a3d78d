/-
  DERIVED. GIVEN WITH THE SEED: THE CARDS: each row of YtbgokkfhohodgaaGreatDoorRows.lean that lists a variable, with what it lists TIED to the program's text (the seventh form; the later family's looks); each row that meets fmt, with fmt's text TOLD by the authors' own Lean function (tested against real Go, not proved from fmt's source: count such statements apart). THE CARD IS WHAT COUNTS. Prove the row's statement (the work); the ties are given (YtbgokkfhohodgaaGreatDoorTie.lean); close each card by the builder's one call (the guide's Derived/Test/ToyasCard.lean, 'card_holds'). Laid BY PROGRAM, IN A SANDBOX (cutbox-door.mjs). By AI agents, Wed Nov 11 2026. No macro, syntax, notation, axiom, sorry.
-/
import Derived.Test.YtbgokkfhohodgaaGreatDoorRows
import GoSem.ClaimSeven
namespace Go.Proofs.YtbgokkfhohodgaaGreatDoor
namespace Rows

/-- THE TIED CARD OF 'gantlaw3.TimingSmooths'. -/
def timingSmoothsCard : Claim7 := { stood := { row := timingSmoothsRow, standIns := [], harness := (true, "c33aa6394952b0559fcf23eded2d6dbb2304b63bf5ab7002814ef12ddca1c1ef"), looks := false }, kinds := [], alts := [], laidByText := true, laidKinds := [.data, .data, .pinned], laidTests := true, laidLooks := .later }
def TimingSmoothsCardSaid : Prop := Claim7.holds Tryz.pinned (.plain (OpenSpec.ofChange timingSmoothsSpec)) timingSmoothsCard

/-- THE TIED CARD OF 'gantlaw3.TrackSteps'. -/
def trackStepsCard : Claim7 := { stood := { row := trackStepsRow, standIns := [], harness := (true, "c33aa6394952b0559fcf23eded2d6dbb2304b63bf5ab7002814ef12ddca1c1ef"), looks := false }, kinds := [], alts := [], laidByText := true, laidKinds := [.data], laidTests := true, laidLooks := .later }
def TrackStepsCardSaid : Prop := Claim7.holds Tryz.pinned (.plain (OpenSpec.ofChange trackStepsSpec)) trackStepsCard

/-- THE TIED CARD OF 'gantlaw1.BorderTo'. -/
def borderToCard : Claim7 := { stood := { row := borderToRow, standIns := [], harness := (true, "c33aa6394952b0559fcf23eded2d6dbb2304b63bf5ab7002814ef12ddca1c1ef"), looks := false }, kinds := [], alts := [], laidByText := true, laidKinds := [.data, .data, .pinned], laidTests := true, laidLooks := .later }
def BorderToCardSaid : Prop := Claim7.holds Tryz.pinned (.plain (OpenSpec.ofChange borderToSpec)) borderToCard

/-- THE TIED CARD OF 'gantlaw1.SweepTells'. -/
def sweepTellsCard : Claim7 := { stood := { row := sweepTellsRow, standIns := [], harness := (true, "c33aa6394952b0559fcf23eded2d6dbb2304b63bf5ab7002814ef12ddca1c1ef"), looks := false }, kinds := [], alts := [], laidByText := true, laidKinds := [.data], laidTests := true, laidLooks := .later }
def SweepTellsCardSaid : Prop := Claim7.holds Tryz.pinned (.plain (OpenSpec.ofChange sweepTellsSpec)) sweepTellsCard

/-- THE SECOND FORM's CARD OF 'gantlaw3.TimingSmooths'. -/
def timingSmoothsUptoCard : Claim7 := { stood := { row := timingSmoothsUptoRow, standIns := [], harness := (true, "c33aa6394952b0559fcf23eded2d6dbb2304b63bf5ab7002814ef12ddca1c1ef"), looks := false }, kinds := [], alts := [], laidByText := true, laidKinds := [.data, .data, .pinned], laidTests := true, laidLooks := .later }
def TimingSmoothsUptoCardSaid : Prop := Claim7.holds Tryz.pinned (.plain (OpenSpec.upto timingSmoothsSpec)) timingSmoothsUptoCard

/-- THE SECOND FORM's CARD OF 'gantlaw3.TrackSteps'. -/
def trackStepsUptoCard : Claim7 := { stood := { row := trackStepsUptoRow, standIns := [], harness := (true, "c33aa6394952b0559fcf23eded2d6dbb2304b63bf5ab7002814ef12ddca1c1ef"), looks := false }, kinds := [], alts := [], laidByText := true, laidKinds := [.data], laidTests := true, laidLooks := .later }
def TrackStepsUptoCardSaid : Prop := Claim7.holds Tryz.pinned (.plain (OpenSpec.upto trackStepsSpec)) trackStepsUptoCard

/-- THE SECOND FORM's CARD OF 'gantlaw1.BorderTo'. -/
def borderToUptoCard : Claim7 := { stood := { row := borderToUptoRow, standIns := [], harness := (true, "c33aa6394952b0559fcf23eded2d6dbb2304b63bf5ab7002814ef12ddca1c1ef"), looks := false }, kinds := [], alts := [], laidByText := true, laidKinds := [.data, .data, .pinned], laidTests := true, laidLooks := .later }
def BorderToUptoCardSaid : Prop := Claim7.holds Tryz.pinned (.plain (OpenSpec.upto borderToSpec)) borderToUptoCard

/-- THE SECOND FORM's CARD OF 'gantlaw1.SweepTells'. -/
def sweepTellsUptoCard : Claim7 := { stood := { row := sweepTellsUptoRow, standIns := [], harness := (true, "c33aa6394952b0559fcf23eded2d6dbb2304b63bf5ab7002814ef12ddca1c1ef"), looks := false }, kinds := [], alts := [], laidByText := true, laidKinds := [.data], laidTests := true, laidLooks := .later }
def SweepTellsUptoCardSaid : Prop := Claim7.holds Tryz.pinned (.plain (OpenSpec.upto sweepTellsSpec)) sweepTellsUptoCard
end Rows
end Go.Proofs.YtbgokkfhohodgaaGreatDoor
