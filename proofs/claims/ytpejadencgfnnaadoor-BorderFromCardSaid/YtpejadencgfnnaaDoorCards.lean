/-
  DERIVED. GIVEN WITH THE SEED: THE CARDS: each row of YtpejadencgfnnaaDoorRows.lean that lists a variable, with what it lists TIED to the program's text (the seventh form; the later family's looks); each row that meets fmt, with fmt's text TOLD by the authors' own Lean function (tested against real Go, not proved from fmt's source: count such statements apart). THE CARD IS WHAT COUNTS. Prove the row's statement (the work); the ties are given (YtpejadencgfnnaaDoorTie.lean); close each card by the builder's one call (the guide's Derived/Test/ToyasCard.lean, 'card_holds'). Laid BY PROGRAM, IN A SANDBOX (cutbox-door.mjs). By AI agents, Wed Nov 11 2026. No macro, syntax, notation, axiom, sorry.
-/
import Derived.Test.YtpejadencgfnnaaDoorRows
import GoSem.ClaimSeven
namespace Go.Proofs.YtpejadencgfnnaaDoor
namespace Rows

/-- THE TIED CARD OF 'gantlaw1.BorderFrom'. -/
def borderFromCard : Claim7 := { stood := { row := borderFromRow, standIns := [], harness := (true, "8819759adcb73c67050b656d55b364f0f98f1758b2d546ff10f1102cc1b7e303"), looks := false }, kinds := [], alts := [], laidByText := true, laidKinds := [.data, .data, .pinned], laidTests := true, laidLooks := .later }
def BorderFromCardSaid : Prop := Claim7.holds Tryd.pinned (.plain (OpenSpec.ofChange borderFromSpec)) borderFromCard

/-- THE SECOND FORM's CARD OF 'gantlaw1.BorderFrom'. -/
def borderFromUptoCard : Claim7 := { stood := { row := borderFromUptoRow, standIns := [], harness := (true, "8819759adcb73c67050b656d55b364f0f98f1758b2d546ff10f1102cc1b7e303"), looks := false }, kinds := [], alts := [], laidByText := true, laidKinds := [.data, .data, .pinned], laidTests := true, laidLooks := .later }
def BorderFromUptoCardSaid : Prop := Claim7.holds Tryd.pinned (.plain (OpenSpec.upto borderFromSpec)) borderFromUptoCard
end Rows
end Go.Proofs.YtpejadencgfnnaaDoor
