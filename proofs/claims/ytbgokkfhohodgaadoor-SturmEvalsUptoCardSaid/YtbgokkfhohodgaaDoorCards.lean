/-
  DERIVED. GIVEN WITH THE SEED: THE CARDS: each row of YtbgokkfhohodgaaDoorRows.lean that lists a variable, with what it lists TIED to the program's text (the seventh form; the later family's looks); each row that meets fmt, with fmt's text TOLD by the authors' own Lean function (tested against real Go, not proved from fmt's source: count such statements apart). THE CARD IS WHAT COUNTS. Prove the row's statement (the work); the ties are given (YtbgokkfhohodgaaDoorTie.lean); close each card by the builder's one call (the guide's Derived/Test/ToyasCard.lean, 'card_holds'). Laid BY PROGRAM, IN A SANDBOX (cutbox-door.mjs). By AI agents, Wed Nov 11 2026. No macro, syntax, notation, axiom, sorry.
-/
import Derived.Test.YtbgokkfhohodgaaDoorRows
import GoSem.ClaimSeven
namespace Go.Proofs.YtbgokkfhohodgaaDoor
namespace Rows

/-- THE TIED CARD OF 'gantlaw3.TimingProfiles'. -/
def timingProfilesCard : Claim7 := { stood := { row := timingProfilesRow, standIns := [], harness := (true, "25a650943be32df9b72fe419c9060785357ef2a36867c0d67e3e3021a088af01"), looks := false }, kinds := [], alts := [], laidByText := true, laidKinds := [.data], laidTests := true, laidLooks := .later }
def TimingProfilesCardSaid : Prop := Claim7.holds Tryd.pinned (.plain (OpenSpec.ofChange timingProfilesSpec)) timingProfilesCard

/-- THE TIED CARD OF 'gantlaw1.PolyHulls'. -/
def polyHullsCard : Claim7 := { stood := { row := polyHullsRow, standIns := [], harness := (true, "25a650943be32df9b72fe419c9060785357ef2a36867c0d67e3e3021a088af01"), looks := false }, kinds := [], alts := [], laidByText := true, laidKinds := [.data], laidTests := true, laidLooks := .later }
def PolyHullsCardSaid : Prop := Claim7.holds Tryd.pinned (.plain (OpenSpec.ofChange polyHullsSpec)) polyHullsCard

/-- THE TIED CARD OF 'gantlaw1.GridSets'. -/
def gridSetsCard : Claim7 := { stood := { row := gridSetsRow, standIns := [], harness := (true, "25a650943be32df9b72fe419c9060785357ef2a36867c0d67e3e3021a088af01"), looks := false }, kinds := [], alts := [], laidByText := true, laidKinds := [.data], laidTests := true, laidLooks := .later }
def GridSetsCardSaid : Prop := Claim7.holds Tryd.pinned (.plain (OpenSpec.ofChange gridSetsSpec)) gridSetsCard

/-- THE TIED CARD OF 'gantlaw1.SturmEvals'. -/
def sturmEvalsCard : Claim7 := { stood := { row := sturmEvalsRow, standIns := [], harness := (true, "25a650943be32df9b72fe419c9060785357ef2a36867c0d67e3e3021a088af01"), looks := false }, kinds := [], alts := [], laidByText := true, laidKinds := [.data], laidTests := true, laidLooks := .later }
def SturmEvalsCardSaid : Prop := Claim7.holds Tryd.pinned (.plain (OpenSpec.ofChange sturmEvalsSpec)) sturmEvalsCard

/-- THE SECOND FORM's CARD OF 'gantlaw3.TimingProfiles'. -/
def timingProfilesUptoCard : Claim7 := { stood := { row := timingProfilesUptoRow, standIns := [], harness := (true, "25a650943be32df9b72fe419c9060785357ef2a36867c0d67e3e3021a088af01"), looks := false }, kinds := [], alts := [], laidByText := true, laidKinds := [.data], laidTests := true, laidLooks := .later }
def TimingProfilesUptoCardSaid : Prop := Claim7.holds Tryd.pinned (.plain (OpenSpec.upto timingProfilesSpec)) timingProfilesUptoCard

/-- THE SECOND FORM's CARD OF 'gantlaw1.PolyHulls'. -/
def polyHullsUptoCard : Claim7 := { stood := { row := polyHullsUptoRow, standIns := [], harness := (true, "25a650943be32df9b72fe419c9060785357ef2a36867c0d67e3e3021a088af01"), looks := false }, kinds := [], alts := [], laidByText := true, laidKinds := [.data], laidTests := true, laidLooks := .later }
def PolyHullsUptoCardSaid : Prop := Claim7.holds Tryd.pinned (.plain (OpenSpec.upto polyHullsSpec)) polyHullsUptoCard

/-- THE SECOND FORM's CARD OF 'gantlaw1.GridSets'. -/
def gridSetsUptoCard : Claim7 := { stood := { row := gridSetsUptoRow, standIns := [], harness := (true, "25a650943be32df9b72fe419c9060785357ef2a36867c0d67e3e3021a088af01"), looks := false }, kinds := [], alts := [], laidByText := true, laidKinds := [.data], laidTests := true, laidLooks := .later }
def GridSetsUptoCardSaid : Prop := Claim7.holds Tryd.pinned (.plain (OpenSpec.upto gridSetsSpec)) gridSetsUptoCard

/-- THE SECOND FORM's CARD OF 'gantlaw1.SturmEvals'. -/
def sturmEvalsUptoCard : Claim7 := { stood := { row := sturmEvalsUptoRow, standIns := [], harness := (true, "25a650943be32df9b72fe419c9060785357ef2a36867c0d67e3e3021a088af01"), looks := false }, kinds := [], alts := [], laidByText := true, laidKinds := [.data], laidTests := true, laidLooks := .later }
def SturmEvalsUptoCardSaid : Prop := Claim7.holds Tryd.pinned (.plain (OpenSpec.upto sturmEvalsSpec)) sturmEvalsUptoCard
end Rows
end Go.Proofs.YtbgokkfhohodgaaDoor
