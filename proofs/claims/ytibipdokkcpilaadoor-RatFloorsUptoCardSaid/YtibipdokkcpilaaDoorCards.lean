/-
  DERIVED. GIVEN WITH THE SEED: THE CARDS: each row of YtibipdokkcpilaaDoorRows.lean that lists a variable, with what it lists TIED to the program's text (the seventh form; the later family's looks); each row that meets fmt, with fmt's text TOLD by the authors' own Lean function (tested against real Go, not proved from fmt's source: count such statements apart). THE CARD IS WHAT COUNTS. Prove the row's statement (the work); the ties are given (YtibipdokkcpilaaDoorTie.lean); close each card by the builder's one call (the guide's Derived/Test/ToyasCard.lean, 'card_holds'). Laid BY PROGRAM, IN A SANDBOX (cutbox-door.mjs). By AI agents, Wed Nov 11 2026. No macro, syntax, notation, axiom, sorry.
-/
import Derived.Test.YtibipdokkcpilaaDoorRows
import GoSem.ClaimSeven
namespace Go.Proofs.YtibipdokkcpilaaDoor
namespace Rows

/-- THE TIED CARD OF 'gantlaw1.ApartBoxes'. -/
def apartBoxesCard : Claim7 := { stood := { row := apartBoxesRow, standIns := [], harness := (true, "c507fc7a7ca4ee2a706d006d692c9871b04c9e3f48a4a8615f3a535af5aa8e9a"), looks := false }, kinds := [], alts := [], laidByText := true, laidKinds := [.data], laidTests := true, laidLooks := .later }
def ApartBoxesCardSaid : Prop := Claim7.holds Tryd.pinned (.plain (OpenSpec.ofChange apartBoxesSpec)) apartBoxesCard

/-- THE TIED CARD OF 'gantlaw1.RatMuls'. -/
def ratMulsCard : Claim7 := { stood := { row := ratMulsRow, standIns := [], harness := (true, "c507fc7a7ca4ee2a706d006d692c9871b04c9e3f48a4a8615f3a535af5aa8e9a"), looks := false }, kinds := [], alts := [], laidByText := true, laidKinds := [.data, .data, .pinned], laidTests := true, laidLooks := .later }
def RatMulsCardSaid : Prop := Claim7.holds Tryd.pinned (.plain (OpenSpec.ofChange ratMulsSpec)) ratMulsCard

/-- THE TIED CARD OF 'gantlaw1.RatFloors'. -/
def ratFloorsCard : Claim7 := { stood := { row := ratFloorsRow, standIns := [], harness := (true, "c507fc7a7ca4ee2a706d006d692c9871b04c9e3f48a4a8615f3a535af5aa8e9a"), looks := false }, kinds := [], alts := [], laidByText := true, laidKinds := [.data, .data, .pinned], laidTests := true, laidLooks := .later }
def RatFloorsCardSaid : Prop := Claim7.holds Tryd.pinned (.plain (OpenSpec.ofChange ratFloorsSpec)) ratFloorsCard

/-- THE TIED CARD OF 'gantlaw1.NatGcds'. -/
def natGcdsCard : Claim7 := { stood := { row := natGcdsRow, standIns := [], harness := (true, "c507fc7a7ca4ee2a706d006d692c9871b04c9e3f48a4a8615f3a535af5aa8e9a"), looks := false }, kinds := [], alts := [], laidByText := true, laidKinds := [.data, .data, .pinned], laidTests := true, laidLooks := .later }
def NatGcdsCardSaid : Prop := Claim7.holds Tryd.pinned (.plain (OpenSpec.ofChange natGcdsSpec)) natGcdsCard

/-- THE TIED CARD OF 'gantlaw1.RatAdds'. -/
def ratAddsCard : Claim7 := { stood := { row := ratAddsRow, standIns := [], harness := (true, "c507fc7a7ca4ee2a706d006d692c9871b04c9e3f48a4a8615f3a535af5aa8e9a"), looks := false }, kinds := [], alts := [], laidByText := true, laidKinds := [.data, .data, .pinned], laidTests := true, laidLooks := .later }
def RatAddsCardSaid : Prop := Claim7.holds Tryd.pinned (.plain (OpenSpec.ofChange ratAddsSpec)) ratAddsCard

/-- THE TIED CARD OF 'gantlaw1.RatTexts'. -/
def ratTextsCard : Claim7 := { stood := { row := ratTextsRow, standIns := [], harness := (true, "c507fc7a7ca4ee2a706d006d692c9871b04c9e3f48a4a8615f3a535af5aa8e9a"), looks := false }, kinds := [], alts := [], laidByText := true, laidKinds := [.data, .data, .pinned], laidTests := true, laidLooks := .later }
def RatTextsCardSaid : Prop := Claim7.holds Tryd.pinned (.plain (OpenSpec.ofChange ratTextsSpec)) ratTextsCard

/-- THE TIED CARD OF 'gantlaw1.BorderFrom'. -/
def borderFromCard : Claim7 := { stood := { row := borderFromRow, standIns := [], harness := (true, "c507fc7a7ca4ee2a706d006d692c9871b04c9e3f48a4a8615f3a535af5aa8e9a"), looks := false }, kinds := [], alts := [], laidByText := true, laidKinds := [.data, .data, .pinned], laidTests := true, laidLooks := .later }
def BorderFromCardSaid : Prop := Claim7.holds Tryd.pinned (.plain (OpenSpec.ofChange borderFromSpec)) borderFromCard

/-- THE TIED CARD OF 'gantlaw1.SturmEvals'. -/
def sturmEvalsCard : Claim7 := { stood := { row := sturmEvalsRow, standIns := [], harness := (true, "c507fc7a7ca4ee2a706d006d692c9871b04c9e3f48a4a8615f3a535af5aa8e9a"), looks := false }, kinds := [], alts := [], laidByText := true, laidKinds := [.data], laidTests := true, laidLooks := .later }
def SturmEvalsCardSaid : Prop := Claim7.holds Tryd.pinned (.plain (OpenSpec.ofChange sturmEvalsSpec)) sturmEvalsCard

/-- THE SECOND FORM's CARD OF 'gantlaw1.ApartBoxes'. -/
def apartBoxesUptoCard : Claim7 := { stood := { row := apartBoxesUptoRow, standIns := [], harness := (true, "c507fc7a7ca4ee2a706d006d692c9871b04c9e3f48a4a8615f3a535af5aa8e9a"), looks := false }, kinds := [], alts := [], laidByText := true, laidKinds := [.data], laidTests := true, laidLooks := .later }
def ApartBoxesUptoCardSaid : Prop := Claim7.holds Tryd.pinned (.plain (OpenSpec.upto apartBoxesSpec)) apartBoxesUptoCard

/-- THE SECOND FORM's CARD OF 'gantlaw1.RatMuls'. -/
def ratMulsUptoCard : Claim7 := { stood := { row := ratMulsUptoRow, standIns := [], harness := (true, "c507fc7a7ca4ee2a706d006d692c9871b04c9e3f48a4a8615f3a535af5aa8e9a"), looks := false }, kinds := [], alts := [], laidByText := true, laidKinds := [.data, .data, .pinned], laidTests := true, laidLooks := .later }
def RatMulsUptoCardSaid : Prop := Claim7.holds Tryd.pinned (.plain (OpenSpec.upto ratMulsSpec)) ratMulsUptoCard

/-- THE SECOND FORM's CARD OF 'gantlaw1.RatFloors'. -/
def ratFloorsUptoCard : Claim7 := { stood := { row := ratFloorsUptoRow, standIns := [], harness := (true, "c507fc7a7ca4ee2a706d006d692c9871b04c9e3f48a4a8615f3a535af5aa8e9a"), looks := false }, kinds := [], alts := [], laidByText := true, laidKinds := [.data, .data, .pinned], laidTests := true, laidLooks := .later }
def RatFloorsUptoCardSaid : Prop := Claim7.holds Tryd.pinned (.plain (OpenSpec.upto ratFloorsSpec)) ratFloorsUptoCard

/-- THE SECOND FORM's CARD OF 'gantlaw1.NatGcds'. -/
def natGcdsUptoCard : Claim7 := { stood := { row := natGcdsUptoRow, standIns := [], harness := (true, "c507fc7a7ca4ee2a706d006d692c9871b04c9e3f48a4a8615f3a535af5aa8e9a"), looks := false }, kinds := [], alts := [], laidByText := true, laidKinds := [.data, .data, .pinned], laidTests := true, laidLooks := .later }
def NatGcdsUptoCardSaid : Prop := Claim7.holds Tryd.pinned (.plain (OpenSpec.upto natGcdsSpec)) natGcdsUptoCard

/-- THE SECOND FORM's CARD OF 'gantlaw1.RatAdds'. -/
def ratAddsUptoCard : Claim7 := { stood := { row := ratAddsUptoRow, standIns := [], harness := (true, "c507fc7a7ca4ee2a706d006d692c9871b04c9e3f48a4a8615f3a535af5aa8e9a"), looks := false }, kinds := [], alts := [], laidByText := true, laidKinds := [.data, .data, .pinned], laidTests := true, laidLooks := .later }
def RatAddsUptoCardSaid : Prop := Claim7.holds Tryd.pinned (.plain (OpenSpec.upto ratAddsSpec)) ratAddsUptoCard

/-- THE SECOND FORM's CARD OF 'gantlaw1.RatTexts'. -/
def ratTextsUptoCard : Claim7 := { stood := { row := ratTextsUptoRow, standIns := [], harness := (true, "c507fc7a7ca4ee2a706d006d692c9871b04c9e3f48a4a8615f3a535af5aa8e9a"), looks := false }, kinds := [], alts := [], laidByText := true, laidKinds := [.data, .data, .pinned], laidTests := true, laidLooks := .later }
def RatTextsUptoCardSaid : Prop := Claim7.holds Tryd.pinned (.plain (OpenSpec.upto ratTextsSpec)) ratTextsUptoCard

/-- THE SECOND FORM's CARD OF 'gantlaw1.BorderFrom'. -/
def borderFromUptoCard : Claim7 := { stood := { row := borderFromUptoRow, standIns := [], harness := (true, "c507fc7a7ca4ee2a706d006d692c9871b04c9e3f48a4a8615f3a535af5aa8e9a"), looks := false }, kinds := [], alts := [], laidByText := true, laidKinds := [.data, .data, .pinned], laidTests := true, laidLooks := .later }
def BorderFromUptoCardSaid : Prop := Claim7.holds Tryd.pinned (.plain (OpenSpec.upto borderFromSpec)) borderFromUptoCard

/-- THE SECOND FORM's CARD OF 'gantlaw1.SturmEvals'. -/
def sturmEvalsUptoCard : Claim7 := { stood := { row := sturmEvalsUptoRow, standIns := [], harness := (true, "c507fc7a7ca4ee2a706d006d692c9871b04c9e3f48a4a8615f3a535af5aa8e9a"), looks := false }, kinds := [], alts := [], laidByText := true, laidKinds := [.data], laidTests := true, laidLooks := .later }
def SturmEvalsUptoCardSaid : Prop := Claim7.holds Tryd.pinned (.plain (OpenSpec.upto sturmEvalsSpec)) sturmEvalsUptoCard
end Rows
end Go.Proofs.YtibipdokkcpilaaDoor
