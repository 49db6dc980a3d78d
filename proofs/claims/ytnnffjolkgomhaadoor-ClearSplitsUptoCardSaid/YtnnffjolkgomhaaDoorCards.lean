/-
  DERIVED. GIVEN WITH THE SEED: THE CARDS: each row of YtnnffjolkgomhaaDoorRows.lean that lists a variable, with what it lists TIED to the program's text (the seventh form; the later family's looks); each row that meets fmt, with fmt's text TOLD by the authors' own Lean function (tested against real Go, not proved from fmt's source: count such statements apart). THE CARD IS WHAT COUNTS. Prove the row's statement (the work); the ties are given (YtnnffjolkgomhaaDoorTie.lean); close each card by the builder's one call (the guide's Derived/Test/ToyasCard.lean, 'card_holds'). Laid BY PROGRAM, IN A SANDBOX (cutbox-door.mjs). By AI agents, Wed Nov 11 2026. No macro, syntax, notation, axiom, sorry.
-/
import Derived.Test.YtnnffjolkgomhaaDoorRows
import GoSem.ClaimSeven
namespace Go.Proofs.YtnnffjolkgomhaaDoor
namespace Rows

/-- THE TIED CARD OF 'gantlaw1.GridBoxes'. -/
def gridBoxesCard : Claim7 := { stood := { row := gridBoxesRow, standIns := [], harness := (true, "6ddbeda9e71fdc5885b909c9871d33d8feabf25f2789d641d09e112c4b37702e"), looks := false }, kinds := [], alts := [], laidByText := true, laidKinds := [.data], laidTests := true, laidLooks := .later }
def GridBoxesCardSaid : Prop := Claim7.holds Tryd.pinned (.plain (OpenSpec.ofChange gridBoxesSpec)) gridBoxesCard

/-- THE TIED CARD OF 'gantlaw3.TimingProfiles'. -/
def timingProfilesCard : Claim7 := { stood := { row := timingProfilesRow, standIns := [], harness := (true, "6ddbeda9e71fdc5885b909c9871d33d8feabf25f2789d641d09e112c4b37702e"), looks := false }, kinds := [], alts := [], laidByText := true, laidKinds := [.data], laidTests := true, laidLooks := .later }
def TimingProfilesCardSaid : Prop := Claim7.holds Tryd.pinned (.plain (OpenSpec.ofChange timingProfilesSpec)) timingProfilesCard

/-- THE TIED CARD OF 'gantlaw3.ClearSplits'. -/
def clearSplitsCard : Claim7 := { stood := { row := clearSplitsRow, standIns := [], harness := (true, "6ddbeda9e71fdc5885b909c9871d33d8feabf25f2789d641d09e112c4b37702e"), looks := false }, kinds := [], alts := [], laidByText := true, laidKinds := [.data], laidTests := true, laidLooks := .later }
def ClearSplitsCardSaid : Prop := Claim7.holds Tryd.pinned (.plain (OpenSpec.ofChange clearSplitsSpec)) clearSplitsCard

/-- THE TIED CARD OF 'gantlaw1.SweepBoxes'. -/
def sweepBoxesCard : Claim7 := { stood := { row := sweepBoxesRow, standIns := [], harness := (true, "6ddbeda9e71fdc5885b909c9871d33d8feabf25f2789d641d09e112c4b37702e"), looks := false }, kinds := [], alts := [], laidByText := true, laidKinds := [.data], laidTests := true, laidLooks := .later }
def SweepBoxesCardSaid : Prop := Claim7.holds Tryd.pinned (.plain (OpenSpec.ofChange sweepBoxesSpec)) sweepBoxesCard

/-- THE TIED CARD OF 'gantlaw1.TurnTells'. -/
def turnTellsCard : Claim7 := { stood := { row := turnTellsRow, standIns := [], harness := (true, "6ddbeda9e71fdc5885b909c9871d33d8feabf25f2789d641d09e112c4b37702e"), looks := false }, kinds := [], alts := [], laidByText := true, laidKinds := [.data], laidTests := true, laidLooks := .later }
def TurnTellsCardSaid : Prop := Claim7.holds Tryd.pinned (.plain (OpenSpec.ofChange turnTellsSpec)) turnTellsCard

/-- THE TIED CARD OF 'gantlaw1.SpanAdds'. -/
def spanAddsCard : Claim7 := { stood := { row := spanAddsRow, standIns := [], harness := (true, "6ddbeda9e71fdc5885b909c9871d33d8feabf25f2789d641d09e112c4b37702e"), looks := false }, kinds := [], alts := [], laidByText := true, laidKinds := [.data], laidTests := true, laidLooks := .later }
def SpanAddsCardSaid : Prop := Claim7.holds Tryd.pinned (.plain (OpenSpec.ofChange spanAddsSpec)) spanAddsCard

/-- THE TIED CARD OF 'gantlaw1.FrameTells'. -/
def frameTellsCard : Claim7 := { stood := { row := frameTellsRow, standIns := [], harness := (true, "6ddbeda9e71fdc5885b909c9871d33d8feabf25f2789d641d09e112c4b37702e"), looks := false }, kinds := [], alts := [], laidByText := true, laidKinds := [.data], laidTests := true, laidLooks := .later }
def FrameTellsCardSaid : Prop := Claim7.holds Tryd.pinned (.plain (OpenSpec.ofChange frameTellsSpec)) frameTellsCard

/-- THE TIED CARD OF 'gantlaw1.SpanMuls'. -/
def spanMulsCard : Claim7 := { stood := { row := spanMulsRow, standIns := [], harness := (true, "6ddbeda9e71fdc5885b909c9871d33d8feabf25f2789d641d09e112c4b37702e"), looks := false }, kinds := [], alts := [], laidByText := true, laidKinds := [.data], laidTests := true, laidLooks := .later }
def SpanMulsCardSaid : Prop := Claim7.holds Tryd.pinned (.plain (OpenSpec.ofChange spanMulsSpec)) spanMulsCard

/-- THE TIED CARD OF 'gantlaw1.PolyChecks'. -/
def polyChecksCard : Claim7 := { stood := { row := polyChecksRow, standIns := [], harness := (true, "6ddbeda9e71fdc5885b909c9871d33d8feabf25f2789d641d09e112c4b37702e"), looks := false }, kinds := [], alts := [], laidByText := true, laidKinds := [.data], laidTests := true, laidLooks := .later }
def PolyChecksCardSaid : Prop := Claim7.holds Tryd.pinned (.plain (OpenSpec.ofChange polyChecksSpec)) polyChecksCard

/-- THE TIED CARD OF 'gantlaw1.TurnSpans'. -/
def turnSpansCard : Claim7 := { stood := { row := turnSpansRow, standIns := [], harness := (true, "6ddbeda9e71fdc5885b909c9871d33d8feabf25f2789d641d09e112c4b37702e"), looks := false }, kinds := [], alts := [], laidByText := true, laidKinds := [.data], laidTests := true, laidLooks := .later }
def TurnSpansCardSaid : Prop := Claim7.holds Tryd.pinned (.plain (OpenSpec.ofChange turnSpansSpec)) turnSpansCard

/-- THE TIED CARD OF 'gantlaw1.ApartTells'. -/
def apartTellsCard : Claim7 := { stood := { row := apartTellsRow, standIns := [], harness := (true, "6ddbeda9e71fdc5885b909c9871d33d8feabf25f2789d641d09e112c4b37702e"), looks := false }, kinds := [], alts := [], laidByText := true, laidKinds := [.data], laidTests := true, laidLooks := .later }
def ApartTellsCardSaid : Prop := Claim7.holds Tryd.pinned (.plain (OpenSpec.ofChange apartTellsSpec)) apartTellsCard

/-- THE SECOND FORM's CARD OF 'gantlaw1.GridBoxes'. -/
def gridBoxesUptoCard : Claim7 := { stood := { row := gridBoxesUptoRow, standIns := [], harness := (true, "6ddbeda9e71fdc5885b909c9871d33d8feabf25f2789d641d09e112c4b37702e"), looks := false }, kinds := [], alts := [], laidByText := true, laidKinds := [.data], laidTests := true, laidLooks := .later }
def GridBoxesUptoCardSaid : Prop := Claim7.holds Tryd.pinned (.plain (OpenSpec.upto gridBoxesSpec)) gridBoxesUptoCard

/-- THE SECOND FORM's CARD OF 'gantlaw3.TimingProfiles'. -/
def timingProfilesUptoCard : Claim7 := { stood := { row := timingProfilesUptoRow, standIns := [], harness := (true, "6ddbeda9e71fdc5885b909c9871d33d8feabf25f2789d641d09e112c4b37702e"), looks := false }, kinds := [], alts := [], laidByText := true, laidKinds := [.data], laidTests := true, laidLooks := .later }
def TimingProfilesUptoCardSaid : Prop := Claim7.holds Tryd.pinned (.plain (OpenSpec.upto timingProfilesSpec)) timingProfilesUptoCard

/-- THE SECOND FORM's CARD OF 'gantlaw3.ClearSplits'. -/
def clearSplitsUptoCard : Claim7 := { stood := { row := clearSplitsUptoRow, standIns := [], harness := (true, "6ddbeda9e71fdc5885b909c9871d33d8feabf25f2789d641d09e112c4b37702e"), looks := false }, kinds := [], alts := [], laidByText := true, laidKinds := [.data], laidTests := true, laidLooks := .later }
def ClearSplitsUptoCardSaid : Prop := Claim7.holds Tryd.pinned (.plain (OpenSpec.upto clearSplitsSpec)) clearSplitsUptoCard

/-- THE SECOND FORM's CARD OF 'gantlaw1.SweepBoxes'. -/
def sweepBoxesUptoCard : Claim7 := { stood := { row := sweepBoxesUptoRow, standIns := [], harness := (true, "6ddbeda9e71fdc5885b909c9871d33d8feabf25f2789d641d09e112c4b37702e"), looks := false }, kinds := [], alts := [], laidByText := true, laidKinds := [.data], laidTests := true, laidLooks := .later }
def SweepBoxesUptoCardSaid : Prop := Claim7.holds Tryd.pinned (.plain (OpenSpec.upto sweepBoxesSpec)) sweepBoxesUptoCard

/-- THE SECOND FORM's CARD OF 'gantlaw1.TurnTells'. -/
def turnTellsUptoCard : Claim7 := { stood := { row := turnTellsUptoRow, standIns := [], harness := (true, "6ddbeda9e71fdc5885b909c9871d33d8feabf25f2789d641d09e112c4b37702e"), looks := false }, kinds := [], alts := [], laidByText := true, laidKinds := [.data], laidTests := true, laidLooks := .later }
def TurnTellsUptoCardSaid : Prop := Claim7.holds Tryd.pinned (.plain (OpenSpec.upto turnTellsSpec)) turnTellsUptoCard

/-- THE SECOND FORM's CARD OF 'gantlaw1.SpanAdds'. -/
def spanAddsUptoCard : Claim7 := { stood := { row := spanAddsUptoRow, standIns := [], harness := (true, "6ddbeda9e71fdc5885b909c9871d33d8feabf25f2789d641d09e112c4b37702e"), looks := false }, kinds := [], alts := [], laidByText := true, laidKinds := [.data], laidTests := true, laidLooks := .later }
def SpanAddsUptoCardSaid : Prop := Claim7.holds Tryd.pinned (.plain (OpenSpec.upto spanAddsSpec)) spanAddsUptoCard

/-- THE SECOND FORM's CARD OF 'gantlaw1.FrameTells'. -/
def frameTellsUptoCard : Claim7 := { stood := { row := frameTellsUptoRow, standIns := [], harness := (true, "6ddbeda9e71fdc5885b909c9871d33d8feabf25f2789d641d09e112c4b37702e"), looks := false }, kinds := [], alts := [], laidByText := true, laidKinds := [.data], laidTests := true, laidLooks := .later }
def FrameTellsUptoCardSaid : Prop := Claim7.holds Tryd.pinned (.plain (OpenSpec.upto frameTellsSpec)) frameTellsUptoCard

/-- THE SECOND FORM's CARD OF 'gantlaw1.SpanMuls'. -/
def spanMulsUptoCard : Claim7 := { stood := { row := spanMulsUptoRow, standIns := [], harness := (true, "6ddbeda9e71fdc5885b909c9871d33d8feabf25f2789d641d09e112c4b37702e"), looks := false }, kinds := [], alts := [], laidByText := true, laidKinds := [.data], laidTests := true, laidLooks := .later }
def SpanMulsUptoCardSaid : Prop := Claim7.holds Tryd.pinned (.plain (OpenSpec.upto spanMulsSpec)) spanMulsUptoCard

/-- THE SECOND FORM's CARD OF 'gantlaw1.PolyChecks'. -/
def polyChecksUptoCard : Claim7 := { stood := { row := polyChecksUptoRow, standIns := [], harness := (true, "6ddbeda9e71fdc5885b909c9871d33d8feabf25f2789d641d09e112c4b37702e"), looks := false }, kinds := [], alts := [], laidByText := true, laidKinds := [.data], laidTests := true, laidLooks := .later }
def PolyChecksUptoCardSaid : Prop := Claim7.holds Tryd.pinned (.plain (OpenSpec.upto polyChecksSpec)) polyChecksUptoCard

/-- THE SECOND FORM's CARD OF 'gantlaw1.TurnSpans'. -/
def turnSpansUptoCard : Claim7 := { stood := { row := turnSpansUptoRow, standIns := [], harness := (true, "6ddbeda9e71fdc5885b909c9871d33d8feabf25f2789d641d09e112c4b37702e"), looks := false }, kinds := [], alts := [], laidByText := true, laidKinds := [.data], laidTests := true, laidLooks := .later }
def TurnSpansUptoCardSaid : Prop := Claim7.holds Tryd.pinned (.plain (OpenSpec.upto turnSpansSpec)) turnSpansUptoCard

/-- THE SECOND FORM's CARD OF 'gantlaw1.ApartTells'. -/
def apartTellsUptoCard : Claim7 := { stood := { row := apartTellsUptoRow, standIns := [], harness := (true, "6ddbeda9e71fdc5885b909c9871d33d8feabf25f2789d641d09e112c4b37702e"), looks := false }, kinds := [], alts := [], laidByText := true, laidKinds := [.data], laidTests := true, laidLooks := .later }
def ApartTellsUptoCardSaid : Prop := Claim7.holds Tryd.pinned (.plain (OpenSpec.upto apartTellsSpec)) apartTellsUptoCard
end Rows
end Go.Proofs.YtnnffjolkgomhaaDoor
