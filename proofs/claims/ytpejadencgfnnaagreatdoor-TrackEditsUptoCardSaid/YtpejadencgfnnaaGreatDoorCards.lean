/-
  DERIVED. GIVEN WITH THE SEED: THE CARDS: each row of YtpejadencgfnnaaGreatDoorRows.lean that lists a variable, with what it lists TIED to the program's text (the seventh form; the later family's looks); each row that meets fmt, with fmt's text TOLD by the authors' own Lean function (tested against real Go, not proved from fmt's source: count such statements apart). THE CARD IS WHAT COUNTS. Prove the row's statement (the work); the ties are given (YtpejadencgfnnaaGreatDoorTie.lean); close each card by the builder's one call (the guide's Derived/Test/ToyasCard.lean, 'card_holds'). Laid BY PROGRAM, IN A SANDBOX (cutbox-door.mjs). By AI agents, Wed Nov 11 2026. No macro, syntax, notation, axiom, sorry.
-/
import Derived.Test.YtpejadencgfnnaaGreatDoorRows
import GoSem.ClaimSeven
namespace Go.Proofs.YtpejadencgfnnaaGreatDoor
namespace Rows

/-- THE TIED CARD OF 'gantlaw3.ShapeBoxes'. -/
def shapeBoxesCard : Claim7 := { stood := { row := shapeBoxesRow, standIns := [], harness := (true, "83ac87b09dfcf1c6065d7caa7b0ef3ff8db112712f062816b6c020510062ed57"), looks := false }, kinds := [], alts := [], laidByText := true, laidKinds := [.data, .data, .pinned], laidTests := true, laidLooks := .later }
def ShapeBoxesCardSaid : Prop := Claim7.holds Tryz.pinned (.plain (OpenSpec.ofChange shapeBoxesSpec)) shapeBoxesCard

/-- THE TIED CARD OF 'gantlaw3.ClearMotions'. -/
def clearMotionsCard : Claim7 := { stood := { row := clearMotionsRow, standIns := [], harness := (true, "83ac87b09dfcf1c6065d7caa7b0ef3ff8db112712f062816b6c020510062ed57"), looks := false }, kinds := [], alts := [], laidByText := true, laidKinds := [.data, .data, .pinned], laidTests := true, laidLooks := .later }
def ClearMotionsCardSaid : Prop := Claim7.holds Tryz.pinned (.plain (OpenSpec.ofChange clearMotionsSpec)) clearMotionsCard

/-- THE TIED CARD OF 'gantlaw3.PathFrees'. -/
def pathFreesCard : Claim7 := { stood := { row := pathFreesRow, standIns := [], harness := (true, "83ac87b09dfcf1c6065d7caa7b0ef3ff8db112712f062816b6c020510062ed57"), looks := false }, kinds := [], alts := [], laidByText := true, laidKinds := [.data, .data, .pinned], laidTests := true, laidLooks := .later }
def PathFreesCardSaid : Prop := Claim7.holds Tryz.pinned (.plain (OpenSpec.ofChange pathFreesSpec)) pathFreesCard

/-- THE TIED CARD OF 'gantlaw3.ShortCuts'. -/
def shortCutsCard : Claim7 := { stood := { row := shortCutsRow, standIns := [], harness := (true, "83ac87b09dfcf1c6065d7caa7b0ef3ff8db112712f062816b6c020510062ed57"), looks := false }, kinds := [], alts := [], laidByText := true, laidKinds := [.data, .data, .pinned], laidTests := true, laidLooks := .later }
def ShortCutsCardSaid : Prop := Claim7.holds Tryz.pinned (.plain (OpenSpec.ofChange shortCutsSpec)) shortCutsCard

/-- THE TIED CARD OF 'gantlaw3.TimingTicks'. -/
def timingTicksCard : Claim7 := { stood := { row := timingTicksRow, standIns := [], harness := (true, "83ac87b09dfcf1c6065d7caa7b0ef3ff8db112712f062816b6c020510062ed57"), looks := false }, kinds := [], alts := [], laidByText := true, laidKinds := [.data, .data, .pinned], laidTests := true, laidLooks := .later }
def TimingTicksCardSaid : Prop := Claim7.holds Tryz.pinned (.plain (OpenSpec.ofChange timingTicksSpec)) timingTicksCard

/-- THE TIED CARD OF 'gantlaw3.TimingPlans'. -/
def timingPlansCard : Claim7 := { stood := { row := timingPlansRow, standIns := [], harness := (true, "83ac87b09dfcf1c6065d7caa7b0ef3ff8db112712f062816b6c020510062ed57"), looks := false }, kinds := [], alts := [], laidByText := true, laidKinds := [.data, .data, .pinned], laidTests := true, laidLooks := .later }
def TimingPlansCardSaid : Prop := Claim7.holds Tryz.pinned (.plain (OpenSpec.ofChange timingPlansSpec)) timingPlansCard

/-- THE TIED CARD OF 'gantlaw3.TrackEdits'. -/
def trackEditsCard : Claim7 := { stood := { row := trackEditsRow, standIns := [], harness := (true, "83ac87b09dfcf1c6065d7caa7b0ef3ff8db112712f062816b6c020510062ed57"), looks := false }, kinds := [], alts := [], laidByText := true, laidKinds := [.data, .data, .pinned], laidTests := true, laidLooks := .later }
def TrackEditsCardSaid : Prop := Claim7.holds Tryz.pinned (.plain (OpenSpec.ofChange trackEditsSpec)) trackEditsCard

/-- THE TIED CARD OF 'gantlaw3.ShapePlaces'. -/
def shapePlacesCard : Claim7 := { stood := { row := shapePlacesRow, standIns := [], harness := (true, "83ac87b09dfcf1c6065d7caa7b0ef3ff8db112712f062816b6c020510062ed57"), looks := false }, kinds := [], alts := [], laidByText := true, laidKinds := [.data, .data, .pinned], laidTests := true, laidLooks := .later }
def ShapePlacesCardSaid : Prop := Claim7.holds Tryz.pinned (.plain (OpenSpec.ofChange shapePlacesSpec)) shapePlacesCard

/-- THE TIED CARD OF 'gantlaw3.ArmSays'. -/
def armSaysCard : Claim7 := { stood := { row := armSaysRow, standIns := [], harness := (true, "83ac87b09dfcf1c6065d7caa7b0ef3ff8db112712f062816b6c020510062ed57"), looks := false }, kinds := [], alts := [], laidByText := true, laidKinds := [.data, .data, .pinned], laidTests := true, laidLooks := .later }
def ArmSaysCardSaid : Prop := Claim7.holds Tryz.pinned (.plain (OpenSpec.ofChange armSaysSpec)) armSaysCard

/-- THE TIED CARD OF 'gantlaw3.SingleMoves'. -/
def singleMovesCard : Claim7 := { stood := { row := singleMovesRow, standIns := [], harness := (true, "83ac87b09dfcf1c6065d7caa7b0ef3ff8db112712f062816b6c020510062ed57"), looks := false }, kinds := [], alts := [], laidByText := true, laidKinds := [.data, .data, .pinned], laidTests := true, laidLooks := .later }
def SingleMovesCardSaid : Prop := Claim7.holds Tryz.pinned (.plain (OpenSpec.ofChange singleMovesSpec)) singleMovesCard

/-- THE TIED CARD OF 'gantlaw1.TurnPoints'. -/
def turnPointsCard : Claim7 := { stood := { row := turnPointsRow, standIns := [], harness := (true, "83ac87b09dfcf1c6065d7caa7b0ef3ff8db112712f062816b6c020510062ed57"), looks := false }, kinds := [], alts := [], laidByText := true, laidKinds := [.data, .data, .pinned], laidTests := true, laidLooks := .later }
def TurnPointsCardSaid : Prop := Claim7.holds Tryz.pinned (.plain (OpenSpec.ofChange turnPointsSpec)) turnPointsCard

/-- THE SECOND FORM's CARD OF 'gantlaw3.ShapeBoxes'. -/
def shapeBoxesUptoCard : Claim7 := { stood := { row := shapeBoxesUptoRow, standIns := [], harness := (true, "83ac87b09dfcf1c6065d7caa7b0ef3ff8db112712f062816b6c020510062ed57"), looks := false }, kinds := [], alts := [], laidByText := true, laidKinds := [.data, .data, .pinned], laidTests := true, laidLooks := .later }
def ShapeBoxesUptoCardSaid : Prop := Claim7.holds Tryz.pinned (.plain (OpenSpec.upto shapeBoxesSpec)) shapeBoxesUptoCard

/-- THE SECOND FORM's CARD OF 'gantlaw3.ClearMotions'. -/
def clearMotionsUptoCard : Claim7 := { stood := { row := clearMotionsUptoRow, standIns := [], harness := (true, "83ac87b09dfcf1c6065d7caa7b0ef3ff8db112712f062816b6c020510062ed57"), looks := false }, kinds := [], alts := [], laidByText := true, laidKinds := [.data, .data, .pinned], laidTests := true, laidLooks := .later }
def ClearMotionsUptoCardSaid : Prop := Claim7.holds Tryz.pinned (.plain (OpenSpec.upto clearMotionsSpec)) clearMotionsUptoCard

/-- THE SECOND FORM's CARD OF 'gantlaw3.PathFrees'. -/
def pathFreesUptoCard : Claim7 := { stood := { row := pathFreesUptoRow, standIns := [], harness := (true, "83ac87b09dfcf1c6065d7caa7b0ef3ff8db112712f062816b6c020510062ed57"), looks := false }, kinds := [], alts := [], laidByText := true, laidKinds := [.data, .data, .pinned], laidTests := true, laidLooks := .later }
def PathFreesUptoCardSaid : Prop := Claim7.holds Tryz.pinned (.plain (OpenSpec.upto pathFreesSpec)) pathFreesUptoCard

/-- THE SECOND FORM's CARD OF 'gantlaw3.ShortCuts'. -/
def shortCutsUptoCard : Claim7 := { stood := { row := shortCutsUptoRow, standIns := [], harness := (true, "83ac87b09dfcf1c6065d7caa7b0ef3ff8db112712f062816b6c020510062ed57"), looks := false }, kinds := [], alts := [], laidByText := true, laidKinds := [.data, .data, .pinned], laidTests := true, laidLooks := .later }
def ShortCutsUptoCardSaid : Prop := Claim7.holds Tryz.pinned (.plain (OpenSpec.upto shortCutsSpec)) shortCutsUptoCard

/-- THE SECOND FORM's CARD OF 'gantlaw3.TimingTicks'. -/
def timingTicksUptoCard : Claim7 := { stood := { row := timingTicksUptoRow, standIns := [], harness := (true, "83ac87b09dfcf1c6065d7caa7b0ef3ff8db112712f062816b6c020510062ed57"), looks := false }, kinds := [], alts := [], laidByText := true, laidKinds := [.data, .data, .pinned], laidTests := true, laidLooks := .later }
def TimingTicksUptoCardSaid : Prop := Claim7.holds Tryz.pinned (.plain (OpenSpec.upto timingTicksSpec)) timingTicksUptoCard

/-- THE SECOND FORM's CARD OF 'gantlaw3.TimingPlans'. -/
def timingPlansUptoCard : Claim7 := { stood := { row := timingPlansUptoRow, standIns := [], harness := (true, "83ac87b09dfcf1c6065d7caa7b0ef3ff8db112712f062816b6c020510062ed57"), looks := false }, kinds := [], alts := [], laidByText := true, laidKinds := [.data, .data, .pinned], laidTests := true, laidLooks := .later }
def TimingPlansUptoCardSaid : Prop := Claim7.holds Tryz.pinned (.plain (OpenSpec.upto timingPlansSpec)) timingPlansUptoCard

/-- THE SECOND FORM's CARD OF 'gantlaw3.TrackEdits'. -/
def trackEditsUptoCard : Claim7 := { stood := { row := trackEditsUptoRow, standIns := [], harness := (true, "83ac87b09dfcf1c6065d7caa7b0ef3ff8db112712f062816b6c020510062ed57"), looks := false }, kinds := [], alts := [], laidByText := true, laidKinds := [.data, .data, .pinned], laidTests := true, laidLooks := .later }
def TrackEditsUptoCardSaid : Prop := Claim7.holds Tryz.pinned (.plain (OpenSpec.upto trackEditsSpec)) trackEditsUptoCard

/-- THE SECOND FORM's CARD OF 'gantlaw3.ShapePlaces'. -/
def shapePlacesUptoCard : Claim7 := { stood := { row := shapePlacesUptoRow, standIns := [], harness := (true, "83ac87b09dfcf1c6065d7caa7b0ef3ff8db112712f062816b6c020510062ed57"), looks := false }, kinds := [], alts := [], laidByText := true, laidKinds := [.data, .data, .pinned], laidTests := true, laidLooks := .later }
def ShapePlacesUptoCardSaid : Prop := Claim7.holds Tryz.pinned (.plain (OpenSpec.upto shapePlacesSpec)) shapePlacesUptoCard

/-- THE SECOND FORM's CARD OF 'gantlaw3.ArmSays'. -/
def armSaysUptoCard : Claim7 := { stood := { row := armSaysUptoRow, standIns := [], harness := (true, "83ac87b09dfcf1c6065d7caa7b0ef3ff8db112712f062816b6c020510062ed57"), looks := false }, kinds := [], alts := [], laidByText := true, laidKinds := [.data, .data, .pinned], laidTests := true, laidLooks := .later }
def ArmSaysUptoCardSaid : Prop := Claim7.holds Tryz.pinned (.plain (OpenSpec.upto armSaysSpec)) armSaysUptoCard

/-- THE SECOND FORM's CARD OF 'gantlaw3.SingleMoves'. -/
def singleMovesUptoCard : Claim7 := { stood := { row := singleMovesUptoRow, standIns := [], harness := (true, "83ac87b09dfcf1c6065d7caa7b0ef3ff8db112712f062816b6c020510062ed57"), looks := false }, kinds := [], alts := [], laidByText := true, laidKinds := [.data, .data, .pinned], laidTests := true, laidLooks := .later }
def SingleMovesUptoCardSaid : Prop := Claim7.holds Tryz.pinned (.plain (OpenSpec.upto singleMovesSpec)) singleMovesUptoCard

/-- THE SECOND FORM's CARD OF 'gantlaw1.TurnPoints'. -/
def turnPointsUptoCard : Claim7 := { stood := { row := turnPointsUptoRow, standIns := [], harness := (true, "83ac87b09dfcf1c6065d7caa7b0ef3ff8db112712f062816b6c020510062ed57"), looks := false }, kinds := [], alts := [], laidByText := true, laidKinds := [.data, .data, .pinned], laidTests := true, laidLooks := .later }
def TurnPointsUptoCardSaid : Prop := Claim7.holds Tryz.pinned (.plain (OpenSpec.upto turnPointsSpec)) turnPointsUptoCard
end Rows
end Go.Proofs.YtpejadencgfnnaaGreatDoor
