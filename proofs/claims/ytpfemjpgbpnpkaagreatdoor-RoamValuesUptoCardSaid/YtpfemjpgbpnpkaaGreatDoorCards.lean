/-
  DERIVED. GIVEN WITH THE SEED: THE CARDS: each row of YtpfemjpgbpnpkaaGreatDoorRows.lean that lists a variable, with what it lists TIED to the program's text (the seventh form; the later family's looks); each row that meets fmt, with fmt's text TOLD by the authors' own Lean function (tested against real Go, not proved from fmt's source: count such statements apart). THE CARD IS WHAT COUNTS. Prove the row's statement (the work); the ties are given (YtpfemjpgbpnpkaaGreatDoorTie.lean); close each card by the builder's one call (the guide's Derived/Test/ToyasCard.lean, 'card_holds'). Laid BY PROGRAM, IN A SANDBOX (cutbox-door.mjs). By AI agents, Wed Nov 11 2026. No macro, syntax, notation, axiom, sorry.
-/
import Derived.Test.YtpfemjpgbpnpkaaGreatDoorRows
import GoSem.ClaimSeven
namespace Go.Proofs.YtpfemjpgbpnpkaaGreatDoor
namespace Rows

/-- THE TIED CARD OF 'gantlaw3.ArmSays'. -/
def armSaysCard : Claim7 := { stood := { row := armSaysRow, standIns := [], harness := (true, "06edbacc3ef4af4985c4f86d5eafac1194ef9771608d5b0029fa5bfbc47cd05f"), looks := false }, kinds := [], alts := [], laidByText := true, laidKinds := [.data, .data, .pinned], laidTests := true, laidLooks := .later }
def ArmSaysCardSaid : Prop := Claim7.holds Tryz.pinned (.plain (OpenSpec.ofChange armSaysSpec)) armSaysCard

/-- THE TIED CARD OF 'gantlaw1.TurnPoints'. -/
def turnPointsCard : Claim7 := { stood := { row := turnPointsRow, standIns := [], harness := (true, "06edbacc3ef4af4985c4f86d5eafac1194ef9771608d5b0029fa5bfbc47cd05f"), looks := false }, kinds := [], alts := [], laidByText := true, laidKinds := [.data, .data, .pinned], laidTests := true, laidLooks := .later }
def TurnPointsCardSaid : Prop := Claim7.holds Tryz.pinned (.plain (OpenSpec.ofChange turnPointsSpec)) turnPointsCard

/-- THE TIED CARD OF 'gantlaw3.ShortMeasures'. -/
def shortMeasuresCard : Claim7 := { stood := { row := shortMeasuresRow, standIns := [], harness := (true, "06edbacc3ef4af4985c4f86d5eafac1194ef9771608d5b0029fa5bfbc47cd05f"), looks := false }, kinds := [], alts := [], laidByText := true, laidKinds := [.data, .data, .pinned], laidTests := true, laidLooks := .later }
def ShortMeasuresCardSaid : Prop := Claim7.holds Tryz.pinned (.plain (OpenSpec.ofChange shortMeasuresSpec)) shortMeasuresCard

/-- THE TIED CARD OF 'gantlaw3.RoamValues'. -/
def roamValuesCard : Claim7 := { stood := { row := roamValuesRow, standIns := [], harness := (true, "06edbacc3ef4af4985c4f86d5eafac1194ef9771608d5b0029fa5bfbc47cd05f"), looks := false }, kinds := [], alts := [], laidByText := true, laidKinds := [.data, .data, .pinned], laidTests := true, laidLooks := .later }
def RoamValuesCardSaid : Prop := Claim7.holds Tryz.pinned (.plain (OpenSpec.ofChange roamValuesSpec)) roamValuesCard

/-- THE TIED CARD OF 'gantlaw3.SingleMoves'. -/
def singleMovesCard : Claim7 := { stood := { row := singleMovesRow, standIns := [], harness := (true, "06edbacc3ef4af4985c4f86d5eafac1194ef9771608d5b0029fa5bfbc47cd05f"), looks := false }, kinds := [], alts := [], laidByText := true, laidKinds := [.data, .data, .pinned], laidTests := true, laidLooks := .later }
def SingleMovesCardSaid : Prop := Claim7.holds Tryz.pinned (.plain (OpenSpec.ofChange singleMovesSpec)) singleMovesCard

/-- THE TIED CARD OF 'gantlaw3.TrackEdits'. -/
def trackEditsCard : Claim7 := { stood := { row := trackEditsRow, standIns := [], harness := (true, "06edbacc3ef4af4985c4f86d5eafac1194ef9771608d5b0029fa5bfbc47cd05f"), looks := false }, kinds := [], alts := [], laidByText := true, laidKinds := [.data, .data, .pinned], laidTests := true, laidLooks := .later }
def TrackEditsCardSaid : Prop := Claim7.holds Tryz.pinned (.plain (OpenSpec.ofChange trackEditsSpec)) trackEditsCard

/-- THE TIED CARD OF 'gantlaw3.ShapePlaces'. -/
def shapePlacesCard : Claim7 := { stood := { row := shapePlacesRow, standIns := [], harness := (true, "06edbacc3ef4af4985c4f86d5eafac1194ef9771608d5b0029fa5bfbc47cd05f"), looks := false }, kinds := [], alts := [], laidByText := true, laidKinds := [.data, .data, .pinned], laidTests := true, laidLooks := .later }
def ShapePlacesCardSaid : Prop := Claim7.holds Tryz.pinned (.plain (OpenSpec.ofChange shapePlacesSpec)) shapePlacesCard

/-- THE TIED CARD OF 'gantlaw3.ShortCuts'. -/
def shortCutsCard : Claim7 := { stood := { row := shortCutsRow, standIns := [], harness := (true, "06edbacc3ef4af4985c4f86d5eafac1194ef9771608d5b0029fa5bfbc47cd05f"), looks := false }, kinds := [], alts := [], laidByText := true, laidKinds := [.data, .data, .pinned], laidTests := true, laidLooks := .later }
def ShortCutsCardSaid : Prop := Claim7.holds Tryz.pinned (.plain (OpenSpec.ofChange shortCutsSpec)) shortCutsCard

/-- THE TIED CARD OF 'gantlaw1.BorderTo'. -/
def borderToCard : Claim7 := { stood := { row := borderToRow, standIns := [], harness := (true, "06edbacc3ef4af4985c4f86d5eafac1194ef9771608d5b0029fa5bfbc47cd05f"), looks := false }, kinds := [], alts := [], laidByText := true, laidKinds := [.data, .data, .pinned], laidTests := true, laidLooks := .later }
def BorderToCardSaid : Prop := Claim7.holds Tryz.pinned (.plain (OpenSpec.ofChange borderToSpec)) borderToCard

/-- THE SECOND FORM's CARD OF 'gantlaw3.ArmSays'. -/
def armSaysUptoCard : Claim7 := { stood := { row := armSaysUptoRow, standIns := [], harness := (true, "06edbacc3ef4af4985c4f86d5eafac1194ef9771608d5b0029fa5bfbc47cd05f"), looks := false }, kinds := [], alts := [], laidByText := true, laidKinds := [.data, .data, .pinned], laidTests := true, laidLooks := .later }
def ArmSaysUptoCardSaid : Prop := Claim7.holds Tryz.pinned (.plain (OpenSpec.upto armSaysSpec)) armSaysUptoCard

/-- THE SECOND FORM's CARD OF 'gantlaw1.TurnPoints'. -/
def turnPointsUptoCard : Claim7 := { stood := { row := turnPointsUptoRow, standIns := [], harness := (true, "06edbacc3ef4af4985c4f86d5eafac1194ef9771608d5b0029fa5bfbc47cd05f"), looks := false }, kinds := [], alts := [], laidByText := true, laidKinds := [.data, .data, .pinned], laidTests := true, laidLooks := .later }
def TurnPointsUptoCardSaid : Prop := Claim7.holds Tryz.pinned (.plain (OpenSpec.upto turnPointsSpec)) turnPointsUptoCard

/-- THE SECOND FORM's CARD OF 'gantlaw3.ShortMeasures'. -/
def shortMeasuresUptoCard : Claim7 := { stood := { row := shortMeasuresUptoRow, standIns := [], harness := (true, "06edbacc3ef4af4985c4f86d5eafac1194ef9771608d5b0029fa5bfbc47cd05f"), looks := false }, kinds := [], alts := [], laidByText := true, laidKinds := [.data, .data, .pinned], laidTests := true, laidLooks := .later }
def ShortMeasuresUptoCardSaid : Prop := Claim7.holds Tryz.pinned (.plain (OpenSpec.upto shortMeasuresSpec)) shortMeasuresUptoCard

/-- THE SECOND FORM's CARD OF 'gantlaw3.RoamValues'. -/
def roamValuesUptoCard : Claim7 := { stood := { row := roamValuesUptoRow, standIns := [], harness := (true, "06edbacc3ef4af4985c4f86d5eafac1194ef9771608d5b0029fa5bfbc47cd05f"), looks := false }, kinds := [], alts := [], laidByText := true, laidKinds := [.data, .data, .pinned], laidTests := true, laidLooks := .later }
def RoamValuesUptoCardSaid : Prop := Claim7.holds Tryz.pinned (.plain (OpenSpec.upto roamValuesSpec)) roamValuesUptoCard

/-- THE SECOND FORM's CARD OF 'gantlaw3.SingleMoves'. -/
def singleMovesUptoCard : Claim7 := { stood := { row := singleMovesUptoRow, standIns := [], harness := (true, "06edbacc3ef4af4985c4f86d5eafac1194ef9771608d5b0029fa5bfbc47cd05f"), looks := false }, kinds := [], alts := [], laidByText := true, laidKinds := [.data, .data, .pinned], laidTests := true, laidLooks := .later }
def SingleMovesUptoCardSaid : Prop := Claim7.holds Tryz.pinned (.plain (OpenSpec.upto singleMovesSpec)) singleMovesUptoCard

/-- THE SECOND FORM's CARD OF 'gantlaw3.TrackEdits'. -/
def trackEditsUptoCard : Claim7 := { stood := { row := trackEditsUptoRow, standIns := [], harness := (true, "06edbacc3ef4af4985c4f86d5eafac1194ef9771608d5b0029fa5bfbc47cd05f"), looks := false }, kinds := [], alts := [], laidByText := true, laidKinds := [.data, .data, .pinned], laidTests := true, laidLooks := .later }
def TrackEditsUptoCardSaid : Prop := Claim7.holds Tryz.pinned (.plain (OpenSpec.upto trackEditsSpec)) trackEditsUptoCard

/-- THE SECOND FORM's CARD OF 'gantlaw3.ShapePlaces'. -/
def shapePlacesUptoCard : Claim7 := { stood := { row := shapePlacesUptoRow, standIns := [], harness := (true, "06edbacc3ef4af4985c4f86d5eafac1194ef9771608d5b0029fa5bfbc47cd05f"), looks := false }, kinds := [], alts := [], laidByText := true, laidKinds := [.data, .data, .pinned], laidTests := true, laidLooks := .later }
def ShapePlacesUptoCardSaid : Prop := Claim7.holds Tryz.pinned (.plain (OpenSpec.upto shapePlacesSpec)) shapePlacesUptoCard

/-- THE SECOND FORM's CARD OF 'gantlaw3.ShortCuts'. -/
def shortCutsUptoCard : Claim7 := { stood := { row := shortCutsUptoRow, standIns := [], harness := (true, "06edbacc3ef4af4985c4f86d5eafac1194ef9771608d5b0029fa5bfbc47cd05f"), looks := false }, kinds := [], alts := [], laidByText := true, laidKinds := [.data, .data, .pinned], laidTests := true, laidLooks := .later }
def ShortCutsUptoCardSaid : Prop := Claim7.holds Tryz.pinned (.plain (OpenSpec.upto shortCutsSpec)) shortCutsUptoCard

/-- THE SECOND FORM's CARD OF 'gantlaw1.BorderTo'. -/
def borderToUptoCard : Claim7 := { stood := { row := borderToUptoRow, standIns := [], harness := (true, "06edbacc3ef4af4985c4f86d5eafac1194ef9771608d5b0029fa5bfbc47cd05f"), looks := false }, kinds := [], alts := [], laidByText := true, laidKinds := [.data, .data, .pinned], laidTests := true, laidLooks := .later }
def BorderToUptoCardSaid : Prop := Claim7.holds Tryz.pinned (.plain (OpenSpec.upto borderToSpec)) borderToUptoCard
end Rows
end Go.Proofs.YtpfemjpgbpnpkaaGreatDoor
