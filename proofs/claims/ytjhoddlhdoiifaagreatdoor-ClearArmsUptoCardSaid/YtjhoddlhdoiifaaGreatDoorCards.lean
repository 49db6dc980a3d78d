/-
  DERIVED. GIVEN WITH THE SEED: THE CARDS: each row of YtjhoddlhdoiifaaGreatDoorRows.lean that lists a variable, with what it lists TIED to the program's text (the seventh form; the later family's looks); each row that meets fmt, with fmt's text TOLD by the authors' own Lean function (tested against real Go, not proved from fmt's source: count such statements apart). THE CARD IS WHAT COUNTS. Prove the row's statement (the work); the ties are given (YtjhoddlhdoiifaaGreatDoorTie.lean); close each card by the builder's one call (the guide's Derived/Test/ToyasCard.lean, 'card_holds'). Laid BY PROGRAM, IN A SANDBOX (cutbox-door.mjs). By AI agents, Wed Nov 11 2026. No macro, syntax, notation, axiom, sorry.
-/
import Derived.Test.YtjhoddlhdoiifaaGreatDoorRows
import GoSem.ClaimSeven
namespace Go.Proofs.YtjhoddlhdoiifaaGreatDoor
namespace Rows

/-- THE TIED CARD OF 'gantlaw3.InverseRings'. -/
def inverseRingsCard : Claim7 := { stood := { row := inverseRingsRow, standIns := [], harness := (true, "e3b39327cdb29702850e73c888eaa3722b990afdd5ddbd7faf84cbdf7fdba074"), looks := false }, kinds := [], alts := [], laidByText := true, laidKinds := [.data, .data, .pinned], laidTests := true, laidLooks := .later }
def InverseRingsCardSaid : Prop := Claim7.holds Tryz.pinned (.plain (OpenSpec.ofChange inverseRingsSpec)) inverseRingsCard

/-- THE TIED CARD OF 'gantlaw3.ForeFrames'. -/
def foreFramesCard : Claim7 := { stood := { row := foreFramesRow, standIns := [], harness := (true, "e3b39327cdb29702850e73c888eaa3722b990afdd5ddbd7faf84cbdf7fdba074"), looks := false }, kinds := [], alts := [], laidByText := true, laidKinds := [.data, .data, .pinned], laidTests := true, laidLooks := .later }
def ForeFramesCardSaid : Prop := Claim7.holds Tryz.pinned (.plain (OpenSpec.ofChange foreFramesSpec)) foreFramesCard

/-- THE TIED CARD OF 'gantlaw3.ForeSpreads'. -/
def foreSpreadsCard : Claim7 := { stood := { row := foreSpreadsRow, standIns := [], harness := (true, "e3b39327cdb29702850e73c888eaa3722b990afdd5ddbd7faf84cbdf7fdba074"), looks := false }, kinds := [], alts := [], laidByText := true, laidKinds := [.data, .data, .pinned], laidTests := true, laidLooks := .later }
def ForeSpreadsCardSaid : Prop := Claim7.holds Tryz.pinned (.plain (OpenSpec.ofChange foreSpreadsSpec)) foreSpreadsCard

/-- THE TIED CARD OF 'gantlaw3.SingleColumns'. -/
def singleColumnsCard : Claim7 := { stood := { row := singleColumnsRow, standIns := [], harness := (true, "e3b39327cdb29702850e73c888eaa3722b990afdd5ddbd7faf84cbdf7fdba074"), looks := false }, kinds := [], alts := [], laidByText := true, laidKinds := [.data, .data, .pinned], laidTests := true, laidLooks := .later }
def SingleColumnsCardSaid : Prop := Claim7.holds Tryz.pinned (.plain (OpenSpec.ofChange singleColumnsSpec)) singleColumnsCard

/-- THE TIED CARD OF 'gantlaw3.ForceTorques'. -/
def forceTorquesCard : Claim7 := { stood := { row := forceTorquesRow, standIns := [], harness := (true, "e3b39327cdb29702850e73c888eaa3722b990afdd5ddbd7faf84cbdf7fdba074"), looks := false }, kinds := [], alts := [], laidByText := true, laidKinds := [.data, .data, .pinned], laidTests := true, laidLooks := .later }
def ForceTorquesCardSaid : Prop := Claim7.holds Tryz.pinned (.plain (OpenSpec.ofChange forceTorquesSpec)) forceTorquesCard

/-- THE TIED CARD OF 'gantlaw3.ForceBounds'. -/
def forceBoundsCard : Claim7 := { stood := { row := forceBoundsRow, standIns := [], harness := (true, "e3b39327cdb29702850e73c888eaa3722b990afdd5ddbd7faf84cbdf7fdba074"), looks := false }, kinds := [], alts := [], laidByText := true, laidKinds := [.data, .data, .pinned], laidTests := true, laidLooks := .later }
def ForceBoundsCardSaid : Prop := Claim7.holds Tryz.pinned (.plain (OpenSpec.ofChange forceBoundsSpec)) forceBoundsCard

/-- THE TIED CARD OF 'gantlaw3.TrackAts'. -/
def trackAtsCard : Claim7 := { stood := { row := trackAtsRow, standIns := [], harness := (true, "e3b39327cdb29702850e73c888eaa3722b990afdd5ddbd7faf84cbdf7fdba074"), looks := false }, kinds := [], alts := [], laidByText := true, laidKinds := [.data], laidTests := true, laidLooks := .later }
def TrackAtsCardSaid : Prop := Claim7.holds Tryz.pinned (.plain (OpenSpec.ofChange trackAtsSpec)) trackAtsCard

/-- THE TIED CARD OF 'gantlaw3.TrackChecks'. -/
def trackChecksCard : Claim7 := { stood := { row := trackChecksRow, standIns := [], harness := (true, "e3b39327cdb29702850e73c888eaa3722b990afdd5ddbd7faf84cbdf7fdba074"), looks := false }, kinds := [], alts := [], laidByText := true, laidKinds := [.data, .data, .pinned], laidTests := true, laidLooks := .later }
def TrackChecksCardSaid : Prop := Claim7.holds Tryz.pinned (.plain (OpenSpec.ofChange trackChecksSpec)) trackChecksCard

/-- THE TIED CARD OF 'gantlaw3.ShapeBoxes'. -/
def shapeBoxesCard : Claim7 := { stood := { row := shapeBoxesRow, standIns := [], harness := (true, "e3b39327cdb29702850e73c888eaa3722b990afdd5ddbd7faf84cbdf7fdba074"), looks := false }, kinds := [], alts := [], laidByText := true, laidKinds := [.data, .data, .pinned], laidTests := true, laidLooks := .later }
def ShapeBoxesCardSaid : Prop := Claim7.holds Tryz.pinned (.plain (OpenSpec.ofChange shapeBoxesSpec)) shapeBoxesCard

/-- THE TIED CARD OF 'gantlaw3.ClearWalls'. -/
def clearWallsCard : Claim7 := { stood := { row := clearWallsRow, standIns := [], harness := (true, "e3b39327cdb29702850e73c888eaa3722b990afdd5ddbd7faf84cbdf7fdba074"), looks := false }, kinds := [], alts := [], laidByText := true, laidKinds := [.data, .data, .pinned], laidTests := true, laidLooks := .later }
def ClearWallsCardSaid : Prop := Claim7.holds Tryz.pinned (.plain (OpenSpec.ofChange clearWallsSpec)) clearWallsCard

/-- THE TIED CARD OF 'gantlaw3.ClearArms'. -/
def clearArmsCard : Claim7 := { stood := { row := clearArmsRow, standIns := [], harness := (true, "e3b39327cdb29702850e73c888eaa3722b990afdd5ddbd7faf84cbdf7fdba074"), looks := false }, kinds := [], alts := [], laidByText := true, laidKinds := [.data, .data, .pinned], laidTests := true, laidLooks := .later }
def ClearArmsCardSaid : Prop := Claim7.holds Tryz.pinned (.plain (OpenSpec.ofChange clearArmsSpec)) clearArmsCard

/-- THE SECOND FORM's CARD OF 'gantlaw3.InverseRings'. -/
def inverseRingsUptoCard : Claim7 := { stood := { row := inverseRingsUptoRow, standIns := [], harness := (true, "e3b39327cdb29702850e73c888eaa3722b990afdd5ddbd7faf84cbdf7fdba074"), looks := false }, kinds := [], alts := [], laidByText := true, laidKinds := [.data, .data, .pinned], laidTests := true, laidLooks := .later }
def InverseRingsUptoCardSaid : Prop := Claim7.holds Tryz.pinned (.plain (OpenSpec.upto inverseRingsSpec)) inverseRingsUptoCard

/-- THE SECOND FORM's CARD OF 'gantlaw3.ForeFrames'. -/
def foreFramesUptoCard : Claim7 := { stood := { row := foreFramesUptoRow, standIns := [], harness := (true, "e3b39327cdb29702850e73c888eaa3722b990afdd5ddbd7faf84cbdf7fdba074"), looks := false }, kinds := [], alts := [], laidByText := true, laidKinds := [.data, .data, .pinned], laidTests := true, laidLooks := .later }
def ForeFramesUptoCardSaid : Prop := Claim7.holds Tryz.pinned (.plain (OpenSpec.upto foreFramesSpec)) foreFramesUptoCard

/-- THE SECOND FORM's CARD OF 'gantlaw3.ForeSpreads'. -/
def foreSpreadsUptoCard : Claim7 := { stood := { row := foreSpreadsUptoRow, standIns := [], harness := (true, "e3b39327cdb29702850e73c888eaa3722b990afdd5ddbd7faf84cbdf7fdba074"), looks := false }, kinds := [], alts := [], laidByText := true, laidKinds := [.data, .data, .pinned], laidTests := true, laidLooks := .later }
def ForeSpreadsUptoCardSaid : Prop := Claim7.holds Tryz.pinned (.plain (OpenSpec.upto foreSpreadsSpec)) foreSpreadsUptoCard

/-- THE SECOND FORM's CARD OF 'gantlaw3.SingleColumns'. -/
def singleColumnsUptoCard : Claim7 := { stood := { row := singleColumnsUptoRow, standIns := [], harness := (true, "e3b39327cdb29702850e73c888eaa3722b990afdd5ddbd7faf84cbdf7fdba074"), looks := false }, kinds := [], alts := [], laidByText := true, laidKinds := [.data, .data, .pinned], laidTests := true, laidLooks := .later }
def SingleColumnsUptoCardSaid : Prop := Claim7.holds Tryz.pinned (.plain (OpenSpec.upto singleColumnsSpec)) singleColumnsUptoCard

/-- THE SECOND FORM's CARD OF 'gantlaw3.ForceTorques'. -/
def forceTorquesUptoCard : Claim7 := { stood := { row := forceTorquesUptoRow, standIns := [], harness := (true, "e3b39327cdb29702850e73c888eaa3722b990afdd5ddbd7faf84cbdf7fdba074"), looks := false }, kinds := [], alts := [], laidByText := true, laidKinds := [.data, .data, .pinned], laidTests := true, laidLooks := .later }
def ForceTorquesUptoCardSaid : Prop := Claim7.holds Tryz.pinned (.plain (OpenSpec.upto forceTorquesSpec)) forceTorquesUptoCard

/-- THE SECOND FORM's CARD OF 'gantlaw3.ForceBounds'. -/
def forceBoundsUptoCard : Claim7 := { stood := { row := forceBoundsUptoRow, standIns := [], harness := (true, "e3b39327cdb29702850e73c888eaa3722b990afdd5ddbd7faf84cbdf7fdba074"), looks := false }, kinds := [], alts := [], laidByText := true, laidKinds := [.data, .data, .pinned], laidTests := true, laidLooks := .later }
def ForceBoundsUptoCardSaid : Prop := Claim7.holds Tryz.pinned (.plain (OpenSpec.upto forceBoundsSpec)) forceBoundsUptoCard

/-- THE SECOND FORM's CARD OF 'gantlaw3.TrackAts'. -/
def trackAtsUptoCard : Claim7 := { stood := { row := trackAtsUptoRow, standIns := [], harness := (true, "e3b39327cdb29702850e73c888eaa3722b990afdd5ddbd7faf84cbdf7fdba074"), looks := false }, kinds := [], alts := [], laidByText := true, laidKinds := [.data], laidTests := true, laidLooks := .later }
def TrackAtsUptoCardSaid : Prop := Claim7.holds Tryz.pinned (.plain (OpenSpec.upto trackAtsSpec)) trackAtsUptoCard

/-- THE SECOND FORM's CARD OF 'gantlaw3.TrackChecks'. -/
def trackChecksUptoCard : Claim7 := { stood := { row := trackChecksUptoRow, standIns := [], harness := (true, "e3b39327cdb29702850e73c888eaa3722b990afdd5ddbd7faf84cbdf7fdba074"), looks := false }, kinds := [], alts := [], laidByText := true, laidKinds := [.data, .data, .pinned], laidTests := true, laidLooks := .later }
def TrackChecksUptoCardSaid : Prop := Claim7.holds Tryz.pinned (.plain (OpenSpec.upto trackChecksSpec)) trackChecksUptoCard

/-- THE SECOND FORM's CARD OF 'gantlaw3.ShapeBoxes'. -/
def shapeBoxesUptoCard : Claim7 := { stood := { row := shapeBoxesUptoRow, standIns := [], harness := (true, "e3b39327cdb29702850e73c888eaa3722b990afdd5ddbd7faf84cbdf7fdba074"), looks := false }, kinds := [], alts := [], laidByText := true, laidKinds := [.data, .data, .pinned], laidTests := true, laidLooks := .later }
def ShapeBoxesUptoCardSaid : Prop := Claim7.holds Tryz.pinned (.plain (OpenSpec.upto shapeBoxesSpec)) shapeBoxesUptoCard

/-- THE SECOND FORM's CARD OF 'gantlaw3.ClearWalls'. -/
def clearWallsUptoCard : Claim7 := { stood := { row := clearWallsUptoRow, standIns := [], harness := (true, "e3b39327cdb29702850e73c888eaa3722b990afdd5ddbd7faf84cbdf7fdba074"), looks := false }, kinds := [], alts := [], laidByText := true, laidKinds := [.data, .data, .pinned], laidTests := true, laidLooks := .later }
def ClearWallsUptoCardSaid : Prop := Claim7.holds Tryz.pinned (.plain (OpenSpec.upto clearWallsSpec)) clearWallsUptoCard

/-- THE SECOND FORM's CARD OF 'gantlaw3.ClearArms'. -/
def clearArmsUptoCard : Claim7 := { stood := { row := clearArmsUptoRow, standIns := [], harness := (true, "e3b39327cdb29702850e73c888eaa3722b990afdd5ddbd7faf84cbdf7fdba074"), looks := false }, kinds := [], alts := [], laidByText := true, laidKinds := [.data, .data, .pinned], laidTests := true, laidLooks := .later }
def ClearArmsUptoCardSaid : Prop := Claim7.holds Tryz.pinned (.plain (OpenSpec.upto clearArmsSpec)) clearArmsUptoCard
end Rows
end Go.Proofs.YtjhoddlhdoiifaaGreatDoor
