/-
  DERIVED. GIVEN WITH THE SEED: THE CARDS: each row of YtdhpmdkfmgpcmaaDoorRows.lean that lists a variable, with what it lists TIED to the program's text (the seventh form; the later family's looks); each row that meets fmt, with fmt's text TOLD by the authors' own Lean function (tested against real Go, not proved from fmt's source: count such statements apart). THE CARD IS WHAT COUNTS. Prove the row's statement (the work); the ties are given (YtdhpmdkfmgpcmaaDoorTie.lean); close each card by the builder's one call (the guide's Derived/Test/ToyasCard.lean, 'card_holds'). Laid BY PROGRAM, IN A SANDBOX (cutbox-door.mjs). By AI agents, Wed Nov 11 2026. No macro, syntax, notation, axiom, sorry.
-/
import Derived.Test.YtdhpmdkfmgpcmaaDoorRows
import GoSem.ClaimSeven
namespace Go.Proofs.YtdhpmdkfmgpcmaaDoor
namespace Rows

/-- THE TIED CARD OF 'gantlaw3.TimingProfiles'. -/
def timingProfilesCard : Claim7 := { stood := { row := timingProfilesRow, standIns := [], harness := (true, "c21e961f9d1d1d82622de3824a27c19435a7f2db0ae9f505991dec0d72efc0e8"), looks := false }, kinds := [], alts := [], laidByText := true, laidKinds := [.data], laidTests := true, laidLooks := .later }
def TimingProfilesCardSaid : Prop := Claim7.holds Tryd.pinned (.plain (OpenSpec.ofChange timingProfilesSpec)) timingProfilesCard

/-- THE TIED CARD OF 'gantlaw1.PolyChecks'. -/
def polyChecksCard : Claim7 := { stood := { row := polyChecksRow, standIns := [], harness := (true, "c21e961f9d1d1d82622de3824a27c19435a7f2db0ae9f505991dec0d72efc0e8"), looks := false }, kinds := [], alts := [], laidByText := true, laidKinds := [.data], laidTests := true, laidLooks := .later }
def PolyChecksCardSaid : Prop := Claim7.holds Tryd.pinned (.plain (OpenSpec.ofChange polyChecksSpec)) polyChecksCard

/-- THE TIED CARD OF 'gantlaw1.ApartTells'. -/
def apartTellsCard : Claim7 := { stood := { row := apartTellsRow, standIns := [], harness := (true, "c21e961f9d1d1d82622de3824a27c19435a7f2db0ae9f505991dec0d72efc0e8"), looks := false }, kinds := [], alts := [], laidByText := true, laidKinds := [.data], laidTests := true, laidLooks := .later }
def ApartTellsCardSaid : Prop := Claim7.holds Tryd.pinned (.plain (OpenSpec.ofChange apartTellsSpec)) apartTellsCard

/-- THE TIED CARD OF 'gantlaw1.ApartBoxes'. -/
def apartBoxesCard : Claim7 := { stood := { row := apartBoxesRow, standIns := [], harness := (true, "c21e961f9d1d1d82622de3824a27c19435a7f2db0ae9f505991dec0d72efc0e8"), looks := false }, kinds := [], alts := [], laidByText := true, laidKinds := [.data], laidTests := true, laidLooks := .later }
def ApartBoxesCardSaid : Prop := Claim7.holds Tryd.pinned (.plain (OpenSpec.ofChange apartBoxesSpec)) apartBoxesCard

/-- THE TIED CARD OF 'gantlaw1.NatGcds'. -/
def natGcdsCard : Claim7 := { stood := { row := natGcdsRow, standIns := [], harness := (true, "c21e961f9d1d1d82622de3824a27c19435a7f2db0ae9f505991dec0d72efc0e8"), looks := false }, kinds := [], alts := [], laidByText := true, laidKinds := [.data, .data, .pinned], laidTests := true, laidLooks := .later }
def NatGcdsCardSaid : Prop := Claim7.holds Tryd.pinned (.plain (OpenSpec.ofChange natGcdsSpec)) natGcdsCard

/-- THE TIED CARD OF 'gantlaw1.RatTexts'. -/
def ratTextsCard : Claim7 := { stood := { row := ratTextsRow, standIns := [], harness := (true, "c21e961f9d1d1d82622de3824a27c19435a7f2db0ae9f505991dec0d72efc0e8"), looks := false }, kinds := [], alts := [], laidByText := true, laidKinds := [.data, .data, .pinned], laidTests := true, laidLooks := .later }
def RatTextsCardSaid : Prop := Claim7.holds Tryd.pinned (.plain (OpenSpec.ofChange ratTextsSpec)) ratTextsCard

/-- THE TIED CARD OF 'gantlaw1.SturmEvals'. -/
def sturmEvalsCard : Claim7 := { stood := { row := sturmEvalsRow, standIns := [], harness := (true, "c21e961f9d1d1d82622de3824a27c19435a7f2db0ae9f505991dec0d72efc0e8"), looks := false }, kinds := [], alts := [], laidByText := true, laidKinds := [.data], laidTests := true, laidLooks := .later }
def SturmEvalsCardSaid : Prop := Claim7.holds Tryd.pinned (.plain (OpenSpec.ofChange sturmEvalsSpec)) sturmEvalsCard

/-- THE TIED CARD OF 'gantlaw1.BorderFrom'. -/
def borderFromCard : Claim7 := { stood := { row := borderFromRow, standIns := [], harness := (true, "c21e961f9d1d1d82622de3824a27c19435a7f2db0ae9f505991dec0d72efc0e8"), looks := false }, kinds := [], alts := [], laidByText := true, laidKinds := [.data, .data, .pinned], laidTests := true, laidLooks := .later }
def BorderFromCardSaid : Prop := Claim7.holds Tryd.pinned (.plain (OpenSpec.ofChange borderFromSpec)) borderFromCard

/-- THE TIED CARD OF 'gantlaw1.PolyHulls'. -/
def polyHullsCard : Claim7 := { stood := { row := polyHullsRow, standIns := [], harness := (true, "c21e961f9d1d1d82622de3824a27c19435a7f2db0ae9f505991dec0d72efc0e8"), looks := false }, kinds := [], alts := [], laidByText := true, laidKinds := [.data], laidTests := true, laidLooks := .later }
def PolyHullsCardSaid : Prop := Claim7.holds Tryd.pinned (.plain (OpenSpec.ofChange polyHullsSpec)) polyHullsCard

/-- THE SECOND FORM's CARD OF 'gantlaw3.TimingProfiles'. -/
def timingProfilesUptoCard : Claim7 := { stood := { row := timingProfilesUptoRow, standIns := [], harness := (true, "c21e961f9d1d1d82622de3824a27c19435a7f2db0ae9f505991dec0d72efc0e8"), looks := false }, kinds := [], alts := [], laidByText := true, laidKinds := [.data], laidTests := true, laidLooks := .later }
def TimingProfilesUptoCardSaid : Prop := Claim7.holds Tryd.pinned (.plain (OpenSpec.upto timingProfilesSpec)) timingProfilesUptoCard

/-- THE SECOND FORM's CARD OF 'gantlaw1.PolyChecks'. -/
def polyChecksUptoCard : Claim7 := { stood := { row := polyChecksUptoRow, standIns := [], harness := (true, "c21e961f9d1d1d82622de3824a27c19435a7f2db0ae9f505991dec0d72efc0e8"), looks := false }, kinds := [], alts := [], laidByText := true, laidKinds := [.data], laidTests := true, laidLooks := .later }
def PolyChecksUptoCardSaid : Prop := Claim7.holds Tryd.pinned (.plain (OpenSpec.upto polyChecksSpec)) polyChecksUptoCard

/-- THE SECOND FORM's CARD OF 'gantlaw1.ApartTells'. -/
def apartTellsUptoCard : Claim7 := { stood := { row := apartTellsUptoRow, standIns := [], harness := (true, "c21e961f9d1d1d82622de3824a27c19435a7f2db0ae9f505991dec0d72efc0e8"), looks := false }, kinds := [], alts := [], laidByText := true, laidKinds := [.data], laidTests := true, laidLooks := .later }
def ApartTellsUptoCardSaid : Prop := Claim7.holds Tryd.pinned (.plain (OpenSpec.upto apartTellsSpec)) apartTellsUptoCard

/-- THE SECOND FORM's CARD OF 'gantlaw1.ApartBoxes'. -/
def apartBoxesUptoCard : Claim7 := { stood := { row := apartBoxesUptoRow, standIns := [], harness := (true, "c21e961f9d1d1d82622de3824a27c19435a7f2db0ae9f505991dec0d72efc0e8"), looks := false }, kinds := [], alts := [], laidByText := true, laidKinds := [.data], laidTests := true, laidLooks := .later }
def ApartBoxesUptoCardSaid : Prop := Claim7.holds Tryd.pinned (.plain (OpenSpec.upto apartBoxesSpec)) apartBoxesUptoCard

/-- THE SECOND FORM's CARD OF 'gantlaw1.NatGcds'. -/
def natGcdsUptoCard : Claim7 := { stood := { row := natGcdsUptoRow, standIns := [], harness := (true, "c21e961f9d1d1d82622de3824a27c19435a7f2db0ae9f505991dec0d72efc0e8"), looks := false }, kinds := [], alts := [], laidByText := true, laidKinds := [.data, .data, .pinned], laidTests := true, laidLooks := .later }
def NatGcdsUptoCardSaid : Prop := Claim7.holds Tryd.pinned (.plain (OpenSpec.upto natGcdsSpec)) natGcdsUptoCard

/-- THE SECOND FORM's CARD OF 'gantlaw1.RatTexts'. -/
def ratTextsUptoCard : Claim7 := { stood := { row := ratTextsUptoRow, standIns := [], harness := (true, "c21e961f9d1d1d82622de3824a27c19435a7f2db0ae9f505991dec0d72efc0e8"), looks := false }, kinds := [], alts := [], laidByText := true, laidKinds := [.data, .data, .pinned], laidTests := true, laidLooks := .later }
def RatTextsUptoCardSaid : Prop := Claim7.holds Tryd.pinned (.plain (OpenSpec.upto ratTextsSpec)) ratTextsUptoCard

/-- THE SECOND FORM's CARD OF 'gantlaw1.SturmEvals'. -/
def sturmEvalsUptoCard : Claim7 := { stood := { row := sturmEvalsUptoRow, standIns := [], harness := (true, "c21e961f9d1d1d82622de3824a27c19435a7f2db0ae9f505991dec0d72efc0e8"), looks := false }, kinds := [], alts := [], laidByText := true, laidKinds := [.data], laidTests := true, laidLooks := .later }
def SturmEvalsUptoCardSaid : Prop := Claim7.holds Tryd.pinned (.plain (OpenSpec.upto sturmEvalsSpec)) sturmEvalsUptoCard

/-- THE SECOND FORM's CARD OF 'gantlaw1.BorderFrom'. -/
def borderFromUptoCard : Claim7 := { stood := { row := borderFromUptoRow, standIns := [], harness := (true, "c21e961f9d1d1d82622de3824a27c19435a7f2db0ae9f505991dec0d72efc0e8"), looks := false }, kinds := [], alts := [], laidByText := true, laidKinds := [.data, .data, .pinned], laidTests := true, laidLooks := .later }
def BorderFromUptoCardSaid : Prop := Claim7.holds Tryd.pinned (.plain (OpenSpec.upto borderFromSpec)) borderFromUptoCard

/-- THE SECOND FORM's CARD OF 'gantlaw1.PolyHulls'. -/
def polyHullsUptoCard : Claim7 := { stood := { row := polyHullsUptoRow, standIns := [], harness := (true, "c21e961f9d1d1d82622de3824a27c19435a7f2db0ae9f505991dec0d72efc0e8"), looks := false }, kinds := [], alts := [], laidByText := true, laidKinds := [.data], laidTests := true, laidLooks := .later }
def PolyHullsUptoCardSaid : Prop := Claim7.holds Tryd.pinned (.plain (OpenSpec.upto polyHullsSpec)) polyHullsUptoCard
end Rows
end Go.Proofs.YtdhpmdkfmgpcmaaDoor
