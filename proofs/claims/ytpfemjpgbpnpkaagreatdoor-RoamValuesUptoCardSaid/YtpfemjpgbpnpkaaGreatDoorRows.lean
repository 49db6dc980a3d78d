/-
  NARROWER THAN 'FOR EVERY INPUT', by the rows' own cells (each row's printed sentence says how): ArmSays: laid · TurnPoints: laid · ShortMeasures: laid · RoamValues: laid · SingleMoves: laid · TrackEdits: laid · ShapePlaces: laid · ShortCuts: laid · BorderTo: laid.
  DERIVED. THE GIVEN ROWS OF THIS SEAT. 9 by the template 'for every input the law returns true; each argument reads behind the call as it read before'; 0 by the template 'total and deterministic' (their statements: YtpfemjpgbpnpkaaGreatDoorTotals.lean).
  GIVEN WITH THE SEED: the statements are not yours to turn. If you find one false, say at which input.
  Laid BY PROGRAM, IN A SANDBOX (cutbox-rows.mjs): the forced cells as the released guide's own fill.sh prints them over the translation f4a5d6b86093b96f… (all of the seat's roots in one cut). By AI agents, Wed Nov 11 2026. No macro, syntax, notation, axiom, sorry.
-/
import Derived.Test.YtpfemjpgbpnpkaaGreatDoorChecked
import GoSem.PinnedTables
import GoSem.Claim
import GoSem.ClaimJoined
import GoSem.ClaimMapViews
import Derived.JoinedTies
import Derived.KernelRfl
namespace Go.Proofs.YtpfemjpgbpnpkaaGreatDoor
/- THE CELL 'sum', in the pinned program and in every row, IS THE sha256 OF THE DUMP (.gsa) THAT YtpfemjpgbpnpkaaGreatDoorProg.lean LOADS. Nothing in Lean hashes anything: it is a label: what it is worth is what the hold of that sum in a sandbox is worth. -/
noncomputable def Tryz.pinned : Pinned := { name := "ytpfemjpgbpnpkaagreatdoor", sum := "f4a5d6b86093b96fa1c09bbcd8bbd59807514e02352711b0e207093384089589", checked := Tryz.checked }
namespace Rows
def none {H : Type} : Left H := { results := [], args := [] }

/- WHAT THE LISTED PACKAGE-LEVEL VARIABLES READ AS WHEN THE CALL BEGINS. Each datum BY PROGRAM (the guide's laid-datum.mjs) off the statement by which the dump's own 'gosem.cut.vars' lays the variable. In a bare row this is a premise. The card (YtpfemjpgbpnpkaaGreatDoorCards.lean) ties it to the program's text. -/
def laid_math_bits_deBruijn64tab {H : Type} : DataW H := .agg [.lit (.int .u8 0), .lit (.int .u8 1), .lit (.int .u8 56), .lit (.int .u8 2), .lit (.int .u8 57), .lit (.int .u8 49), .lit (.int .u8 28), .lit (.int .u8 3), .lit (.int .u8 61), .lit (.int .u8 58), .lit (.int .u8 42), .lit (.int .u8 50), .lit (.int .u8 38), .lit (.int .u8 29), .lit (.int .u8 17), .lit (.int .u8 4), .lit (.int .u8 62), .lit (.int .u8 47), .lit (.int .u8 59), .lit (.int .u8 36), .lit (.int .u8 45), .lit (.int .u8 43), .lit (.int .u8 51), .lit (.int .u8 22), .lit (.int .u8 53), .lit (.int .u8 39), .lit (.int .u8 33), .lit (.int .u8 30), .lit (.int .u8 24), .lit (.int .u8 18), .lit (.int .u8 12), .lit (.int .u8 5), .lit (.int .u8 63), .lit (.int .u8 55), .lit (.int .u8 48), .lit (.int .u8 27), .lit (.int .u8 60), .lit (.int .u8 41), .lit (.int .u8 37), .lit (.int .u8 16), .lit (.int .u8 46), .lit (.int .u8 35), .lit (.int .u8 44), .lit (.int .u8 21), .lit (.int .u8 52), .lit (.int .u8 32), .lit (.int .u8 23), .lit (.int .u8 11), .lit (.int .u8 54), .lit (.int .u8 26), .lit (.int .u8 40), .lit (.int .u8 15), .lit (.int .u8 34), .lit (.int .u8 20), .lit (.int .u8 31), .lit (.int .u8 10), .lit (.int .u8 25), .lit (.int .u8 14), .lit (.int .u8 19), .lit (.int .u8 9), .lit (.int .u8 13), .lit (.int .u8 8), .lit (.int .u8 7), .lit (.int .u8 6)]
def laid_unicode_utf8_acceptRanges {H : Type} : DataW H := .agg [.agg [.lit (.int .u8 128), .lit (.int .u8 191)], .agg [.lit (.int .u8 160), .lit (.int .u8 191)], .agg [.lit (.int .u8 128), .lit (.int .u8 159)], .agg [.lit (.int .u8 144), .lit (.int .u8 191)], .agg [.lit (.int .u8 128), .lit (.int .u8 143)], .agg [.lit (.int .u8 0), .lit (.int .u8 0)], .agg [.lit (.int .u8 0), .lit (.int .u8 0)], .agg [.lit (.int .u8 0), .lit (.int .u8 0)], .agg [.lit (.int .u8 0), .lit (.int .u8 0)], .agg [.lit (.int .u8 0), .lit (.int .u8 0)], .agg [.lit (.int .u8 0), .lit (.int .u8 0)], .agg [.lit (.int .u8 0), .lit (.int .u8 0)], .agg [.lit (.int .u8 0), .lit (.int .u8 0)], .agg [.lit (.int .u8 0), .lit (.int .u8 0)], .agg [.lit (.int .u8 0), .lit (.int .u8 0)], .agg [.lit (.int .u8 0), .lit (.int .u8 0)]]
/-- One of Go's own tables, pinned by name: the form's constant. -/
def laid_unicode_utf8_first : DataW Unit := Go.Pinned.utf8First

/-- 'gantlaw3.ArmSays': WHATEVER THE INPUT: true; the input reads as it did. -/
def armSaysSpec : ChangeSpec := { name := "armSays", fn := fun _ => fun
  | [d1, d2, d3, d4] => { results := [.lit (.bool true)], args := [d1, d2, d3, d4] }
  | _ => none }
def armSaysRow : OpenClaim := { program := "ytpfemjpgbpnpkaagreatdoor", sum := "f4a5d6b86093b96fa1c09bbcd8bbd59807514e02352711b0e207093384089589", func := "gantry/gantlaw3.ArmSays", spec := "armSays", inPlace := ["math/bits.Sub64", "internal/bytealg.abigen_runtime_cmpstring", "internal/bytealg.IndexByteString", "internal/bytealg.IndexString"], unfollowed := true, recurses := true, named := ["math/bits.deBruijn64tab", "unicode/utf8.first", "unicode/utf8.acceptRanges", "internal/bytealg.MaxLen"], apart := false, laid := [("math/bits.deBruijn64tab", laid_math_bits_deBruijn64tab), ("unicode/utf8.acceptRanges", laid_unicode_utf8_acceptRanges), ("unicode/utf8.first", laid_unicode_utf8_first)] }
def ArmSaysSaid : Prop := armSaysRow.holds Tryz.pinned (OpenSpec.ofChange armSaysSpec)

/-- ITS FALSE NEIGHBOUR: 'it returns false'. Refute it at one input. -/
def armSaysWrong : ChangeSpec := { name := "armSays", fn := fun _ => fun
  | [d1, d2, d3, d4] => { results := [.lit (.bool false)], args := [d1, d2, d3, d4] }
  | _ => none }
def ArmSaysWrongFalsely : Prop := armSaysRow.holds Tryz.pinned (OpenSpec.ofChange armSaysWrong)

/-- 'gantlaw1.TurnPoints': WHATEVER THE INPUT: true; the input reads as it did. -/
def turnPointsSpec : ChangeSpec := { name := "turnPoints", fn := fun _ => fun
  | [d] => { results := [.lit (.bool true)], args := [d] }
  | _ => none }
def turnPointsRow : OpenClaim := { program := "ytpfemjpgbpnpkaagreatdoor", sum := "f4a5d6b86093b96fa1c09bbcd8bbd59807514e02352711b0e207093384089589", func := "gantry/gantlaw1.TurnPoints", spec := "turnPoints", inPlace := ["math/bits.Sub64", "internal/bytealg.abigen_runtime_cmpstring", "internal/abi.NoEscape", "internal/bytealg.MakeNoZero", "internal/bytealg.IndexByteString", "internal/bytealg.IndexString"], named := ["math/bits.deBruijn64tab", "unicode/utf8.first", "unicode/utf8.acceptRanges", "internal/bytealg.MaxLen"], apart := false, laid := [("math/bits.deBruijn64tab", laid_math_bits_deBruijn64tab), ("unicode/utf8.acceptRanges", laid_unicode_utf8_acceptRanges), ("unicode/utf8.first", laid_unicode_utf8_first)] }
def TurnPointsSaid : Prop := turnPointsRow.holds Tryz.pinned (OpenSpec.ofChange turnPointsSpec)

/-- ITS FALSE NEIGHBOUR: 'it returns false'. Refute it at one input. -/
def turnPointsWrong : ChangeSpec := { name := "turnPoints", fn := fun _ => fun
  | [d] => { results := [.lit (.bool false)], args := [d] }
  | _ => none }
def TurnPointsWrongFalsely : Prop := turnPointsRow.holds Tryz.pinned (OpenSpec.ofChange turnPointsWrong)

/-- 'gantlaw3.ShortMeasures': WHATEVER THE INPUT: true; the input reads as it did. -/
def shortMeasuresSpec : ChangeSpec := { name := "shortMeasures", fn := fun _ => fun
  | [d1, d2] => { results := [.lit (.bool true)], args := [d1, d2] }
  | _ => none }
def shortMeasuresRow : OpenClaim := { program := "ytpfemjpgbpnpkaagreatdoor", sum := "f4a5d6b86093b96fa1c09bbcd8bbd59807514e02352711b0e207093384089589", func := "gantry/gantlaw3.ShortMeasures", spec := "shortMeasures", inPlace := ["math/bits.Sub64", "internal/bytealg.abigen_runtime_cmpstring", "internal/bytealg.IndexByteString", "internal/bytealg.IndexString"], unfollowed := true, recurses := true, named := ["math/bits.deBruijn64tab", "unicode/utf8.first", "unicode/utf8.acceptRanges", "internal/bytealg.MaxLen"], apart := false, laid := [("math/bits.deBruijn64tab", laid_math_bits_deBruijn64tab), ("unicode/utf8.acceptRanges", laid_unicode_utf8_acceptRanges), ("unicode/utf8.first", laid_unicode_utf8_first)] }
def ShortMeasuresSaid : Prop := shortMeasuresRow.holds Tryz.pinned (OpenSpec.ofChange shortMeasuresSpec)

/-- ITS FALSE NEIGHBOUR: 'it returns false'. Refute it at one input. -/
def shortMeasuresWrong : ChangeSpec := { name := "shortMeasures", fn := fun _ => fun
  | [d1, d2] => { results := [.lit (.bool false)], args := [d1, d2] }
  | _ => none }
def ShortMeasuresWrongFalsely : Prop := shortMeasuresRow.holds Tryz.pinned (OpenSpec.ofChange shortMeasuresWrong)

/-- 'gantlaw3.RoamValues': WHATEVER THE INPUT: true; the input reads as it did. -/
def roamValuesSpec : ChangeSpec := { name := "roamValues", fn := fun _ => fun
  | [d1, d2, d3, d4] => { results := [.lit (.bool true)], args := [d1, d2, d3, d4] }
  | _ => none }
def roamValuesRow : OpenClaim := { program := "ytpfemjpgbpnpkaagreatdoor", sum := "f4a5d6b86093b96fa1c09bbcd8bbd59807514e02352711b0e207093384089589", func := "gantry/gantlaw3.RoamValues", spec := "roamValues", inPlace := ["math/bits.Sub64", "internal/bytealg.abigen_runtime_cmpstring", "internal/bytealg.IndexByteString", "internal/bytealg.IndexString"], unfollowed := true, recurses := true, named := ["math/bits.deBruijn64tab", "unicode/utf8.first", "unicode/utf8.acceptRanges", "internal/bytealg.MaxLen"], apart := false, laid := [("math/bits.deBruijn64tab", laid_math_bits_deBruijn64tab), ("unicode/utf8.acceptRanges", laid_unicode_utf8_acceptRanges), ("unicode/utf8.first", laid_unicode_utf8_first)] }
def RoamValuesSaid : Prop := roamValuesRow.holds Tryz.pinned (OpenSpec.ofChange roamValuesSpec)

/-- ITS FALSE NEIGHBOUR: 'it returns false'. Refute it at one input. -/
def roamValuesWrong : ChangeSpec := { name := "roamValues", fn := fun _ => fun
  | [d1, d2, d3, d4] => { results := [.lit (.bool false)], args := [d1, d2, d3, d4] }
  | _ => none }
def RoamValuesWrongFalsely : Prop := roamValuesRow.holds Tryz.pinned (OpenSpec.ofChange roamValuesWrong)

/-- 'gantlaw3.SingleMoves': WHATEVER THE INPUT: true; the input reads as it did. -/
def singleMovesSpec : ChangeSpec := { name := "singleMoves", fn := fun _ => fun
  | [d1, d2, d3, d4, d5] => { results := [.lit (.bool true)], args := [d1, d2, d3, d4, d5] }
  | _ => none }
def singleMovesRow : OpenClaim := { program := "ytpfemjpgbpnpkaagreatdoor", sum := "f4a5d6b86093b96fa1c09bbcd8bbd59807514e02352711b0e207093384089589", func := "gantry/gantlaw3.SingleMoves", spec := "singleMoves", inPlace := ["math/bits.Sub64", "internal/bytealg.abigen_runtime_cmpstring", "internal/bytealg.IndexByteString", "internal/bytealg.IndexString"], unfollowed := true, recurses := true, named := ["math/bits.deBruijn64tab", "unicode/utf8.first", "unicode/utf8.acceptRanges", "internal/bytealg.MaxLen"], apart := false, laid := [("math/bits.deBruijn64tab", laid_math_bits_deBruijn64tab), ("unicode/utf8.acceptRanges", laid_unicode_utf8_acceptRanges), ("unicode/utf8.first", laid_unicode_utf8_first)] }
def SingleMovesSaid : Prop := singleMovesRow.holds Tryz.pinned (OpenSpec.ofChange singleMovesSpec)

/-- ITS FALSE NEIGHBOUR: 'it returns false'. Refute it at one input. -/
def singleMovesWrong : ChangeSpec := { name := "singleMoves", fn := fun _ => fun
  | [d1, d2, d3, d4, d5] => { results := [.lit (.bool false)], args := [d1, d2, d3, d4, d5] }
  | _ => none }
def SingleMovesWrongFalsely : Prop := singleMovesRow.holds Tryz.pinned (OpenSpec.ofChange singleMovesWrong)

/-- 'gantlaw3.TrackEdits': WHATEVER THE INPUT: true; the input reads as it did. -/
def trackEditsSpec : ChangeSpec := { name := "trackEdits", fn := fun _ => fun
  | [d1, d2, d3, d4, d5, d6] => { results := [.lit (.bool true)], args := [d1, d2, d3, d4, d5, d6] }
  | _ => none }
def trackEditsRow : OpenClaim := { program := "ytpfemjpgbpnpkaagreatdoor", sum := "f4a5d6b86093b96fa1c09bbcd8bbd59807514e02352711b0e207093384089589", func := "gantry/gantlaw3.TrackEdits", spec := "trackEdits", inPlace := ["math/bits.Sub64", "internal/bytealg.abigen_runtime_cmpstring", "internal/bytealg.IndexByteString", "internal/bytealg.IndexString"], named := ["math/bits.deBruijn64tab", "unicode/utf8.first", "unicode/utf8.acceptRanges", "internal/bytealg.MaxLen"], apart := false, laid := [("math/bits.deBruijn64tab", laid_math_bits_deBruijn64tab), ("unicode/utf8.acceptRanges", laid_unicode_utf8_acceptRanges), ("unicode/utf8.first", laid_unicode_utf8_first)] }
def TrackEditsSaid : Prop := trackEditsRow.holds Tryz.pinned (OpenSpec.ofChange trackEditsSpec)

/-- ITS FALSE NEIGHBOUR: 'it returns false'. Refute it at one input. -/
def trackEditsWrong : ChangeSpec := { name := "trackEdits", fn := fun _ => fun
  | [d1, d2, d3, d4, d5, d6] => { results := [.lit (.bool false)], args := [d1, d2, d3, d4, d5, d6] }
  | _ => none }
def TrackEditsWrongFalsely : Prop := trackEditsRow.holds Tryz.pinned (OpenSpec.ofChange trackEditsWrong)

/-- 'gantlaw3.ShapePlaces': WHATEVER THE INPUT: true; the input reads as it did. -/
def shapePlacesSpec : ChangeSpec := { name := "shapePlaces", fn := fun _ => fun
  | [d1, d2, d3] => { results := [.lit (.bool true)], args := [d1, d2, d3] }
  | _ => none }
def shapePlacesRow : OpenClaim := { program := "ytpfemjpgbpnpkaagreatdoor", sum := "f4a5d6b86093b96fa1c09bbcd8bbd59807514e02352711b0e207093384089589", func := "gantry/gantlaw3.ShapePlaces", spec := "shapePlaces", inPlace := ["math/bits.Sub64", "internal/bytealg.abigen_runtime_cmpstring", "internal/bytealg.IndexByteString", "internal/bytealg.IndexString"], unfollowed := true, recurses := true, named := ["math/bits.deBruijn64tab", "unicode/utf8.first", "unicode/utf8.acceptRanges", "internal/bytealg.MaxLen"], apart := false, laid := [("math/bits.deBruijn64tab", laid_math_bits_deBruijn64tab), ("unicode/utf8.acceptRanges", laid_unicode_utf8_acceptRanges), ("unicode/utf8.first", laid_unicode_utf8_first)] }
def ShapePlacesSaid : Prop := shapePlacesRow.holds Tryz.pinned (OpenSpec.ofChange shapePlacesSpec)

/-- ITS FALSE NEIGHBOUR: 'it returns false'. Refute it at one input. -/
def shapePlacesWrong : ChangeSpec := { name := "shapePlaces", fn := fun _ => fun
  | [d1, d2, d3] => { results := [.lit (.bool false)], args := [d1, d2, d3] }
  | _ => none }
def ShapePlacesWrongFalsely : Prop := shapePlacesRow.holds Tryz.pinned (OpenSpec.ofChange shapePlacesWrong)

/-- 'gantlaw3.ShortCuts': WHATEVER THE INPUT: true; the input reads as it did. -/
def shortCutsSpec : ChangeSpec := { name := "shortCuts", fn := fun _ => fun
  | [d1, d2, d3, d4] => { results := [.lit (.bool true)], args := [d1, d2, d3, d4] }
  | _ => none }
def shortCutsRow : OpenClaim := { program := "ytpfemjpgbpnpkaagreatdoor", sum := "f4a5d6b86093b96fa1c09bbcd8bbd59807514e02352711b0e207093384089589", func := "gantry/gantlaw3.ShortCuts", spec := "shortCuts", inPlace := ["math/bits.Sub64", "internal/bytealg.abigen_runtime_cmpstring", "internal/bytealg.IndexByteString", "internal/bytealg.IndexString"], unfollowed := true, recurses := true, named := ["math/bits.deBruijn64tab", "unicode/utf8.first", "unicode/utf8.acceptRanges", "internal/bytealg.MaxLen"], apart := false, laid := [("math/bits.deBruijn64tab", laid_math_bits_deBruijn64tab), ("unicode/utf8.acceptRanges", laid_unicode_utf8_acceptRanges), ("unicode/utf8.first", laid_unicode_utf8_first)] }
def ShortCutsSaid : Prop := shortCutsRow.holds Tryz.pinned (OpenSpec.ofChange shortCutsSpec)

/-- ITS FALSE NEIGHBOUR: 'it returns false'. Refute it at one input. -/
def shortCutsWrong : ChangeSpec := { name := "shortCuts", fn := fun _ => fun
  | [d1, d2, d3, d4] => { results := [.lit (.bool false)], args := [d1, d2, d3, d4] }
  | _ => none }
def ShortCutsWrongFalsely : Prop := shortCutsRow.holds Tryz.pinned (OpenSpec.ofChange shortCutsWrong)

/-- 'gantlaw1.BorderTo': WHATEVER THE INPUT: true; the input reads as it did. -/
def borderToSpec : ChangeSpec := { name := "borderTo", fn := fun _ => fun
  | [d] => { results := [.lit (.bool true)], args := [d] }
  | _ => none }
def borderToRow : OpenClaim := { program := "ytpfemjpgbpnpkaagreatdoor", sum := "f4a5d6b86093b96fa1c09bbcd8bbd59807514e02352711b0e207093384089589", func := "gantry/gantlaw1.BorderTo", spec := "borderTo", inPlace := ["math/bits.Sub64", "internal/bytealg.abigen_runtime_cmpstring", "math.Float64bits", "internal/bytealg.IndexByteString", "internal/bytealg.IndexString"], unfollowed := true, recurses := true, named := ["math/bits.deBruijn64tab", "unicode/utf8.first", "unicode/utf8.acceptRanges", "internal/bytealg.MaxLen"], apart := false, laid := [("math/bits.deBruijn64tab", laid_math_bits_deBruijn64tab), ("unicode/utf8.acceptRanges", laid_unicode_utf8_acceptRanges), ("unicode/utf8.first", laid_unicode_utf8_first)] }
def BorderToSaid : Prop := borderToRow.holds Tryz.pinned (OpenSpec.ofChange borderToSpec)

/-- ITS FALSE NEIGHBOUR: 'it returns false'. Refute it at one input. -/
def borderToWrong : ChangeSpec := { name := "borderTo", fn := fun _ => fun
  | [d] => { results := [.lit (.bool false)], args := [d] }
  | _ => none }
def BorderToWrongFalsely : Prop := borderToRow.holds Tryz.pinned (OpenSpec.ofChange borderToWrong)

/- THE SECOND FORM. 'bulk': how many values and letters a reading holds, each counted each time it is reached (what is shared counts as often as it is met; a slice's spare places count too). A statement '..UptoSaid' is the law's where the arguments, and the package variables that the reading takes, are together of bulk at most 1048576: NARROWER than '..Said'. Prove '..Said' where nothing that the law and all that it calls make is longer than what came in: it says more and counts as full. Else prove '..UptoSaid'. A law counts once. -/
mutual
def uptoBulk {H : Type} : DataW H → Nat
  | .lit (.string bytes) => bytes.length + 1
  | .lit _ => 1
  | .nil => 1
  | .ptr d => uptoBulk d + 1
  | .slice elems spare => uptoBulkAll elems + uptoBulkAll spare + 1
  | .agg parts => uptoBulkAll parts + 1
  | .iface _ d => uptoBulk d + 1
  | .map entries => uptoBulkEntries entries + 1
  | .held _ => 1
def uptoBulkAll {H : Type} : List (DataW H) → Nat
  | [] => 0
  | d :: r => uptoBulk d + uptoBulkAll r
def uptoBulkEntries {H : Type} : List (Lit × DataW H) → Nat
  | [] => 0
  | x :: r => uptoBulkEntry x + uptoBulkEntries r
def uptoBulkEntry {H : Type} : Lit × DataW H → Nat
  | (.string bytes, d) => bytes.length + uptoBulk d + 1
  | (_, d) => uptoBulk d + 1
 end
def uptoSmall : (H : Type) → List (DataW H) → Bool := fun _ ds => decide (uptoBulkAll ds ≤ 1048576)
def OpenSpec.upto (s : _root_.Go.ChangeSpec) : _root_.Go.OpenSpec := { _root_.Go.OpenSpec.ofChange s with cond := some uptoSmall }

/-- 'gantlaw3.ArmSays', WHERE WHAT IT READS IS OF BULK AT MOST 1048576: true; the input reads as it did. -/
def armSaysUptoRow : OpenClaim := { program := "ytpfemjpgbpnpkaagreatdoor", sum := "f4a5d6b86093b96fa1c09bbcd8bbd59807514e02352711b0e207093384089589", func := "gantry/gantlaw3.ArmSays", spec := "armSays", inPlace := ["math/bits.Sub64", "internal/bytealg.abigen_runtime_cmpstring", "internal/bytealg.IndexByteString", "internal/bytealg.IndexString"], unfollowed := true, recurses := true, named := ["math/bits.deBruijn64tab", "unicode/utf8.first", "unicode/utf8.acceptRanges", "internal/bytealg.MaxLen"], apart := false, laid := [("math/bits.deBruijn64tab", laid_math_bits_deBruijn64tab), ("unicode/utf8.acceptRanges", laid_unicode_utf8_acceptRanges), ("unicode/utf8.first", laid_unicode_utf8_first)], narrowed := true }
def ArmSaysUptoSaid : Prop := armSaysUptoRow.holds Tryz.pinned (OpenSpec.upto armSaysSpec)

/-- 'gantlaw1.TurnPoints', WHERE WHAT IT READS IS OF BULK AT MOST 1048576: true; the input reads as it did. -/
def turnPointsUptoRow : OpenClaim := { program := "ytpfemjpgbpnpkaagreatdoor", sum := "f4a5d6b86093b96fa1c09bbcd8bbd59807514e02352711b0e207093384089589", func := "gantry/gantlaw1.TurnPoints", spec := "turnPoints", inPlace := ["math/bits.Sub64", "internal/bytealg.abigen_runtime_cmpstring", "internal/abi.NoEscape", "internal/bytealg.MakeNoZero", "internal/bytealg.IndexByteString", "internal/bytealg.IndexString"], named := ["math/bits.deBruijn64tab", "unicode/utf8.first", "unicode/utf8.acceptRanges", "internal/bytealg.MaxLen"], apart := false, laid := [("math/bits.deBruijn64tab", laid_math_bits_deBruijn64tab), ("unicode/utf8.acceptRanges", laid_unicode_utf8_acceptRanges), ("unicode/utf8.first", laid_unicode_utf8_first)], narrowed := true }
def TurnPointsUptoSaid : Prop := turnPointsUptoRow.holds Tryz.pinned (OpenSpec.upto turnPointsSpec)

/-- 'gantlaw3.ShortMeasures', WHERE WHAT IT READS IS OF BULK AT MOST 1048576: true; the input reads as it did. -/
def shortMeasuresUptoRow : OpenClaim := { program := "ytpfemjpgbpnpkaagreatdoor", sum := "f4a5d6b86093b96fa1c09bbcd8bbd59807514e02352711b0e207093384089589", func := "gantry/gantlaw3.ShortMeasures", spec := "shortMeasures", inPlace := ["math/bits.Sub64", "internal/bytealg.abigen_runtime_cmpstring", "internal/bytealg.IndexByteString", "internal/bytealg.IndexString"], unfollowed := true, recurses := true, named := ["math/bits.deBruijn64tab", "unicode/utf8.first", "unicode/utf8.acceptRanges", "internal/bytealg.MaxLen"], apart := false, laid := [("math/bits.deBruijn64tab", laid_math_bits_deBruijn64tab), ("unicode/utf8.acceptRanges", laid_unicode_utf8_acceptRanges), ("unicode/utf8.first", laid_unicode_utf8_first)], narrowed := true }
def ShortMeasuresUptoSaid : Prop := shortMeasuresUptoRow.holds Tryz.pinned (OpenSpec.upto shortMeasuresSpec)

/-- 'gantlaw3.RoamValues', WHERE WHAT IT READS IS OF BULK AT MOST 1048576: true; the input reads as it did. -/
def roamValuesUptoRow : OpenClaim := { program := "ytpfemjpgbpnpkaagreatdoor", sum := "f4a5d6b86093b96fa1c09bbcd8bbd59807514e02352711b0e207093384089589", func := "gantry/gantlaw3.RoamValues", spec := "roamValues", inPlace := ["math/bits.Sub64", "internal/bytealg.abigen_runtime_cmpstring", "internal/bytealg.IndexByteString", "internal/bytealg.IndexString"], unfollowed := true, recurses := true, named := ["math/bits.deBruijn64tab", "unicode/utf8.first", "unicode/utf8.acceptRanges", "internal/bytealg.MaxLen"], apart := false, laid := [("math/bits.deBruijn64tab", laid_math_bits_deBruijn64tab), ("unicode/utf8.acceptRanges", laid_unicode_utf8_acceptRanges), ("unicode/utf8.first", laid_unicode_utf8_first)], narrowed := true }
def RoamValuesUptoSaid : Prop := roamValuesUptoRow.holds Tryz.pinned (OpenSpec.upto roamValuesSpec)

/-- 'gantlaw3.SingleMoves', WHERE WHAT IT READS IS OF BULK AT MOST 1048576: true; the input reads as it did. -/
def singleMovesUptoRow : OpenClaim := { program := "ytpfemjpgbpnpkaagreatdoor", sum := "f4a5d6b86093b96fa1c09bbcd8bbd59807514e02352711b0e207093384089589", func := "gantry/gantlaw3.SingleMoves", spec := "singleMoves", inPlace := ["math/bits.Sub64", "internal/bytealg.abigen_runtime_cmpstring", "internal/bytealg.IndexByteString", "internal/bytealg.IndexString"], unfollowed := true, recurses := true, named := ["math/bits.deBruijn64tab", "unicode/utf8.first", "unicode/utf8.acceptRanges", "internal/bytealg.MaxLen"], apart := false, laid := [("math/bits.deBruijn64tab", laid_math_bits_deBruijn64tab), ("unicode/utf8.acceptRanges", laid_unicode_utf8_acceptRanges), ("unicode/utf8.first", laid_unicode_utf8_first)], narrowed := true }
def SingleMovesUptoSaid : Prop := singleMovesUptoRow.holds Tryz.pinned (OpenSpec.upto singleMovesSpec)

/-- 'gantlaw3.TrackEdits', WHERE WHAT IT READS IS OF BULK AT MOST 1048576: true; the input reads as it did. -/
def trackEditsUptoRow : OpenClaim := { program := "ytpfemjpgbpnpkaagreatdoor", sum := "f4a5d6b86093b96fa1c09bbcd8bbd59807514e02352711b0e207093384089589", func := "gantry/gantlaw3.TrackEdits", spec := "trackEdits", inPlace := ["math/bits.Sub64", "internal/bytealg.abigen_runtime_cmpstring", "internal/bytealg.IndexByteString", "internal/bytealg.IndexString"], named := ["math/bits.deBruijn64tab", "unicode/utf8.first", "unicode/utf8.acceptRanges", "internal/bytealg.MaxLen"], apart := false, laid := [("math/bits.deBruijn64tab", laid_math_bits_deBruijn64tab), ("unicode/utf8.acceptRanges", laid_unicode_utf8_acceptRanges), ("unicode/utf8.first", laid_unicode_utf8_first)], narrowed := true }
def TrackEditsUptoSaid : Prop := trackEditsUptoRow.holds Tryz.pinned (OpenSpec.upto trackEditsSpec)

/-- 'gantlaw3.ShapePlaces', WHERE WHAT IT READS IS OF BULK AT MOST 1048576: true; the input reads as it did. -/
def shapePlacesUptoRow : OpenClaim := { program := "ytpfemjpgbpnpkaagreatdoor", sum := "f4a5d6b86093b96fa1c09bbcd8bbd59807514e02352711b0e207093384089589", func := "gantry/gantlaw3.ShapePlaces", spec := "shapePlaces", inPlace := ["math/bits.Sub64", "internal/bytealg.abigen_runtime_cmpstring", "internal/bytealg.IndexByteString", "internal/bytealg.IndexString"], unfollowed := true, recurses := true, named := ["math/bits.deBruijn64tab", "unicode/utf8.first", "unicode/utf8.acceptRanges", "internal/bytealg.MaxLen"], apart := false, laid := [("math/bits.deBruijn64tab", laid_math_bits_deBruijn64tab), ("unicode/utf8.acceptRanges", laid_unicode_utf8_acceptRanges), ("unicode/utf8.first", laid_unicode_utf8_first)], narrowed := true }
def ShapePlacesUptoSaid : Prop := shapePlacesUptoRow.holds Tryz.pinned (OpenSpec.upto shapePlacesSpec)

/-- 'gantlaw3.ShortCuts', WHERE WHAT IT READS IS OF BULK AT MOST 1048576: true; the input reads as it did. -/
def shortCutsUptoRow : OpenClaim := { program := "ytpfemjpgbpnpkaagreatdoor", sum := "f4a5d6b86093b96fa1c09bbcd8bbd59807514e02352711b0e207093384089589", func := "gantry/gantlaw3.ShortCuts", spec := "shortCuts", inPlace := ["math/bits.Sub64", "internal/bytealg.abigen_runtime_cmpstring", "internal/bytealg.IndexByteString", "internal/bytealg.IndexString"], unfollowed := true, recurses := true, named := ["math/bits.deBruijn64tab", "unicode/utf8.first", "unicode/utf8.acceptRanges", "internal/bytealg.MaxLen"], apart := false, laid := [("math/bits.deBruijn64tab", laid_math_bits_deBruijn64tab), ("unicode/utf8.acceptRanges", laid_unicode_utf8_acceptRanges), ("unicode/utf8.first", laid_unicode_utf8_first)], narrowed := true }
def ShortCutsUptoSaid : Prop := shortCutsUptoRow.holds Tryz.pinned (OpenSpec.upto shortCutsSpec)

/-- 'gantlaw1.BorderTo', WHERE WHAT IT READS IS OF BULK AT MOST 1048576: true; the input reads as it did. -/
def borderToUptoRow : OpenClaim := { program := "ytpfemjpgbpnpkaagreatdoor", sum := "f4a5d6b86093b96fa1c09bbcd8bbd59807514e02352711b0e207093384089589", func := "gantry/gantlaw1.BorderTo", spec := "borderTo", inPlace := ["math/bits.Sub64", "internal/bytealg.abigen_runtime_cmpstring", "math.Float64bits", "internal/bytealg.IndexByteString", "internal/bytealg.IndexString"], unfollowed := true, recurses := true, named := ["math/bits.deBruijn64tab", "unicode/utf8.first", "unicode/utf8.acceptRanges", "internal/bytealg.MaxLen"], apart := false, laid := [("math/bits.deBruijn64tab", laid_math_bits_deBruijn64tab), ("unicode/utf8.acceptRanges", laid_unicode_utf8_acceptRanges), ("unicode/utf8.first", laid_unicode_utf8_first)], narrowed := true }
def BorderToUptoSaid : Prop := borderToUptoRow.holds Tryz.pinned (OpenSpec.upto borderToSpec)

end Rows
end Go.Proofs.YtpfemjpgbpnpkaaGreatDoor
