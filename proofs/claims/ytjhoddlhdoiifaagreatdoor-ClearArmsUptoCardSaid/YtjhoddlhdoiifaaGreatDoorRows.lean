/-
  NARROWER THAN 'FOR EVERY INPUT', by the rows' own cells (each row's printed sentence says how): InverseRings: laid · ForeFrames: laid · ForeSpreads: laid · SingleColumns: laid · ForceTorques: laid · ForceBounds: laid · TrackAts: laid · TrackChecks: laid · ShapeBoxes: laid · ClearWalls: laid · ClearArms: laid.
  DERIVED. THE GIVEN ROWS OF THIS SEAT. 11 by the template 'for every input the law returns true; each argument reads behind the call as it read before'; 0 by the template 'total and deterministic' (their statements: YtjhoddlhdoiifaaGreatDoorTotals.lean).
  GIVEN WITH THE SEED: the statements are not yours to turn. If you find one false, say at which input.
  Laid BY PROGRAM, IN A SANDBOX (cutbox-rows.mjs): the forced cells as the released guide's own fill.sh prints them over the translation bf8cca21f8dd8c78… (all of the seat's roots in one cut). By AI agents, Wed Nov 11 2026. No macro, syntax, notation, axiom, sorry.
-/
import Derived.Test.YtjhoddlhdoiifaaGreatDoorChecked
import GoSem.PinnedTables
import GoSem.Claim
import GoSem.ClaimJoined
import GoSem.ClaimMapViews
import Derived.JoinedTies
import Derived.KernelRfl
namespace Go.Proofs.YtjhoddlhdoiifaaGreatDoor
/- THE CELL 'sum', in the pinned program and in every row, IS THE sha256 OF THE DUMP (.gsa) THAT YtjhoddlhdoiifaaGreatDoorProg.lean LOADS. Nothing in Lean hashes anything: it is a label: what it is worth is what the hold of that sum in a sandbox is worth. -/
noncomputable def Tryz.pinned : Pinned := { name := "ytjhoddlhdoiifaagreatdoor", sum := "bf8cca21f8dd8c785c206844ff97d8a0f6f54b35bc4be4923f50ceeb449d661f", checked := Tryz.checked }
namespace Rows
def none {H : Type} : Left H := { results := [], args := [] }

/- WHAT THE LISTED PACKAGE-LEVEL VARIABLES READ AS WHEN THE CALL BEGINS. Each datum BY PROGRAM (the guide's laid-datum.mjs) off the statement by which the dump's own 'gosem.cut.vars' lays the variable. In a bare row this is a premise. The card (YtjhoddlhdoiifaaGreatDoorCards.lean) ties it to the program's text. -/
def laid_math_bits_deBruijn64tab {H : Type} : DataW H := .agg [.lit (.int .u8 0), .lit (.int .u8 1), .lit (.int .u8 56), .lit (.int .u8 2), .lit (.int .u8 57), .lit (.int .u8 49), .lit (.int .u8 28), .lit (.int .u8 3), .lit (.int .u8 61), .lit (.int .u8 58), .lit (.int .u8 42), .lit (.int .u8 50), .lit (.int .u8 38), .lit (.int .u8 29), .lit (.int .u8 17), .lit (.int .u8 4), .lit (.int .u8 62), .lit (.int .u8 47), .lit (.int .u8 59), .lit (.int .u8 36), .lit (.int .u8 45), .lit (.int .u8 43), .lit (.int .u8 51), .lit (.int .u8 22), .lit (.int .u8 53), .lit (.int .u8 39), .lit (.int .u8 33), .lit (.int .u8 30), .lit (.int .u8 24), .lit (.int .u8 18), .lit (.int .u8 12), .lit (.int .u8 5), .lit (.int .u8 63), .lit (.int .u8 55), .lit (.int .u8 48), .lit (.int .u8 27), .lit (.int .u8 60), .lit (.int .u8 41), .lit (.int .u8 37), .lit (.int .u8 16), .lit (.int .u8 46), .lit (.int .u8 35), .lit (.int .u8 44), .lit (.int .u8 21), .lit (.int .u8 52), .lit (.int .u8 32), .lit (.int .u8 23), .lit (.int .u8 11), .lit (.int .u8 54), .lit (.int .u8 26), .lit (.int .u8 40), .lit (.int .u8 15), .lit (.int .u8 34), .lit (.int .u8 20), .lit (.int .u8 31), .lit (.int .u8 10), .lit (.int .u8 25), .lit (.int .u8 14), .lit (.int .u8 19), .lit (.int .u8 9), .lit (.int .u8 13), .lit (.int .u8 8), .lit (.int .u8 7), .lit (.int .u8 6)]
def laid_unicode_utf8_acceptRanges {H : Type} : DataW H := .agg [.agg [.lit (.int .u8 128), .lit (.int .u8 191)], .agg [.lit (.int .u8 160), .lit (.int .u8 191)], .agg [.lit (.int .u8 128), .lit (.int .u8 159)], .agg [.lit (.int .u8 144), .lit (.int .u8 191)], .agg [.lit (.int .u8 128), .lit (.int .u8 143)], .agg [.lit (.int .u8 0), .lit (.int .u8 0)], .agg [.lit (.int .u8 0), .lit (.int .u8 0)], .agg [.lit (.int .u8 0), .lit (.int .u8 0)], .agg [.lit (.int .u8 0), .lit (.int .u8 0)], .agg [.lit (.int .u8 0), .lit (.int .u8 0)], .agg [.lit (.int .u8 0), .lit (.int .u8 0)], .agg [.lit (.int .u8 0), .lit (.int .u8 0)], .agg [.lit (.int .u8 0), .lit (.int .u8 0)], .agg [.lit (.int .u8 0), .lit (.int .u8 0)], .agg [.lit (.int .u8 0), .lit (.int .u8 0)], .agg [.lit (.int .u8 0), .lit (.int .u8 0)]]
/-- One of Go's own tables, pinned by name: the form's constant. -/
def laid_unicode_utf8_first : DataW Unit := Go.Pinned.utf8First

/-- 'gantlaw3.InverseRings': WHATEVER THE INPUT: true; the input reads as it did. -/
def inverseRingsSpec : ChangeSpec := { name := "inverseRings", fn := fun _ => fun
  | [d] => { results := [.lit (.bool true)], args := [d] }
  | _ => none }
def inverseRingsRow : OpenClaim := { program := "ytjhoddlhdoiifaagreatdoor", sum := "bf8cca21f8dd8c785c206844ff97d8a0f6f54b35bc4be4923f50ceeb449d661f", func := "gantry/gantlaw3.InverseRings", spec := "inverseRings", inPlace := ["math/bits.Sub64", "internal/bytealg.abigen_runtime_cmpstring", "internal/bytealg.IndexByteString", "internal/bytealg.IndexString"], named := ["math/bits.deBruijn64tab", "unicode/utf8.first", "unicode/utf8.acceptRanges", "internal/bytealg.MaxLen"], apart := false, laid := [("math/bits.deBruijn64tab", laid_math_bits_deBruijn64tab), ("unicode/utf8.acceptRanges", laid_unicode_utf8_acceptRanges), ("unicode/utf8.first", laid_unicode_utf8_first)] }
def InverseRingsSaid : Prop := inverseRingsRow.holds Tryz.pinned (OpenSpec.ofChange inverseRingsSpec)

/-- ITS FALSE NEIGHBOUR: 'it returns false'. Refute it at one input. -/
def inverseRingsWrong : ChangeSpec := { name := "inverseRings", fn := fun _ => fun
  | [d] => { results := [.lit (.bool false)], args := [d] }
  | _ => none }
def InverseRingsWrongFalsely : Prop := inverseRingsRow.holds Tryz.pinned (OpenSpec.ofChange inverseRingsWrong)

/-- 'gantlaw3.ForeFrames': WHATEVER THE INPUT: true; the input reads as it did. -/
def foreFramesSpec : ChangeSpec := { name := "foreFrames", fn := fun _ => fun
  | [d1, d2] => { results := [.lit (.bool true)], args := [d1, d2] }
  | _ => none }
def foreFramesRow : OpenClaim := { program := "ytjhoddlhdoiifaagreatdoor", sum := "bf8cca21f8dd8c785c206844ff97d8a0f6f54b35bc4be4923f50ceeb449d661f", func := "gantry/gantlaw3.ForeFrames", spec := "foreFrames", inPlace := ["math/bits.Sub64", "internal/bytealg.abigen_runtime_cmpstring", "internal/bytealg.IndexByteString", "internal/bytealg.IndexString"], unfollowed := true, recurses := true, named := ["math/bits.deBruijn64tab", "unicode/utf8.first", "unicode/utf8.acceptRanges", "internal/bytealg.MaxLen"], apart := false, laid := [("math/bits.deBruijn64tab", laid_math_bits_deBruijn64tab), ("unicode/utf8.acceptRanges", laid_unicode_utf8_acceptRanges), ("unicode/utf8.first", laid_unicode_utf8_first)] }
def ForeFramesSaid : Prop := foreFramesRow.holds Tryz.pinned (OpenSpec.ofChange foreFramesSpec)

/-- ITS FALSE NEIGHBOUR: 'it returns false'. Refute it at one input. -/
def foreFramesWrong : ChangeSpec := { name := "foreFrames", fn := fun _ => fun
  | [d1, d2] => { results := [.lit (.bool false)], args := [d1, d2] }
  | _ => none }
def ForeFramesWrongFalsely : Prop := foreFramesRow.holds Tryz.pinned (OpenSpec.ofChange foreFramesWrong)

/-- 'gantlaw3.ForeSpreads': WHATEVER THE INPUT: true; the input reads as it did. -/
def foreSpreadsSpec : ChangeSpec := { name := "foreSpreads", fn := fun _ => fun
  | [d1, d2] => { results := [.lit (.bool true)], args := [d1, d2] }
  | _ => none }
def foreSpreadsRow : OpenClaim := { program := "ytjhoddlhdoiifaagreatdoor", sum := "bf8cca21f8dd8c785c206844ff97d8a0f6f54b35bc4be4923f50ceeb449d661f", func := "gantry/gantlaw3.ForeSpreads", spec := "foreSpreads", inPlace := ["math/bits.Sub64", "internal/bytealg.abigen_runtime_cmpstring", "internal/bytealg.IndexByteString", "internal/bytealg.IndexString"], unfollowed := true, recurses := true, named := ["math/bits.deBruijn64tab", "unicode/utf8.first", "unicode/utf8.acceptRanges", "internal/bytealg.MaxLen"], apart := false, laid := [("math/bits.deBruijn64tab", laid_math_bits_deBruijn64tab), ("unicode/utf8.acceptRanges", laid_unicode_utf8_acceptRanges), ("unicode/utf8.first", laid_unicode_utf8_first)] }
def ForeSpreadsSaid : Prop := foreSpreadsRow.holds Tryz.pinned (OpenSpec.ofChange foreSpreadsSpec)

/-- ITS FALSE NEIGHBOUR: 'it returns false'. Refute it at one input. -/
def foreSpreadsWrong : ChangeSpec := { name := "foreSpreads", fn := fun _ => fun
  | [d1, d2] => { results := [.lit (.bool false)], args := [d1, d2] }
  | _ => none }
def ForeSpreadsWrongFalsely : Prop := foreSpreadsRow.holds Tryz.pinned (OpenSpec.ofChange foreSpreadsWrong)

/-- 'gantlaw3.SingleColumns': WHATEVER THE INPUT: true; the input reads as it did. -/
def singleColumnsSpec : ChangeSpec := { name := "singleColumns", fn := fun _ => fun
  | [d1, d2] => { results := [.lit (.bool true)], args := [d1, d2] }
  | _ => none }
def singleColumnsRow : OpenClaim := { program := "ytjhoddlhdoiifaagreatdoor", sum := "bf8cca21f8dd8c785c206844ff97d8a0f6f54b35bc4be4923f50ceeb449d661f", func := "gantry/gantlaw3.SingleColumns", spec := "singleColumns", inPlace := ["math/bits.Sub64", "internal/bytealg.abigen_runtime_cmpstring", "internal/bytealg.IndexByteString", "internal/bytealg.IndexString"], unfollowed := true, recurses := true, named := ["math/bits.deBruijn64tab", "unicode/utf8.first", "unicode/utf8.acceptRanges", "internal/bytealg.MaxLen"], apart := false, laid := [("math/bits.deBruijn64tab", laid_math_bits_deBruijn64tab), ("unicode/utf8.acceptRanges", laid_unicode_utf8_acceptRanges), ("unicode/utf8.first", laid_unicode_utf8_first)] }
def SingleColumnsSaid : Prop := singleColumnsRow.holds Tryz.pinned (OpenSpec.ofChange singleColumnsSpec)

/-- ITS FALSE NEIGHBOUR: 'it returns false'. Refute it at one input. -/
def singleColumnsWrong : ChangeSpec := { name := "singleColumns", fn := fun _ => fun
  | [d1, d2] => { results := [.lit (.bool false)], args := [d1, d2] }
  | _ => none }
def SingleColumnsWrongFalsely : Prop := singleColumnsRow.holds Tryz.pinned (OpenSpec.ofChange singleColumnsWrong)

/-- 'gantlaw3.ForceTorques': WHATEVER THE INPUT: true; the input reads as it did. -/
def forceTorquesSpec : ChangeSpec := { name := "forceTorques", fn := fun _ => fun
  | [d1, d2, d3, d4] => { results := [.lit (.bool true)], args := [d1, d2, d3, d4] }
  | _ => none }
def forceTorquesRow : OpenClaim := { program := "ytjhoddlhdoiifaagreatdoor", sum := "bf8cca21f8dd8c785c206844ff97d8a0f6f54b35bc4be4923f50ceeb449d661f", func := "gantry/gantlaw3.ForceTorques", spec := "forceTorques", inPlace := ["math/bits.Sub64", "internal/bytealg.abigen_runtime_cmpstring", "internal/bytealg.IndexByteString", "internal/bytealg.IndexString"], named := ["math/bits.deBruijn64tab", "unicode/utf8.first", "unicode/utf8.acceptRanges", "internal/bytealg.MaxLen"], apart := false, laid := [("math/bits.deBruijn64tab", laid_math_bits_deBruijn64tab), ("unicode/utf8.acceptRanges", laid_unicode_utf8_acceptRanges), ("unicode/utf8.first", laid_unicode_utf8_first)] }
def ForceTorquesSaid : Prop := forceTorquesRow.holds Tryz.pinned (OpenSpec.ofChange forceTorquesSpec)

/-- ITS FALSE NEIGHBOUR: 'it returns false'. Refute it at one input. -/
def forceTorquesWrong : ChangeSpec := { name := "forceTorques", fn := fun _ => fun
  | [d1, d2, d3, d4] => { results := [.lit (.bool false)], args := [d1, d2, d3, d4] }
  | _ => none }
def ForceTorquesWrongFalsely : Prop := forceTorquesRow.holds Tryz.pinned (OpenSpec.ofChange forceTorquesWrong)

/-- 'gantlaw3.ForceBounds': WHATEVER THE INPUT: true; the input reads as it did. -/
def forceBoundsSpec : ChangeSpec := { name := "forceBounds", fn := fun _ => fun
  | [d1, d2, d3, d4] => { results := [.lit (.bool true)], args := [d1, d2, d3, d4] }
  | _ => none }
def forceBoundsRow : OpenClaim := { program := "ytjhoddlhdoiifaagreatdoor", sum := "bf8cca21f8dd8c785c206844ff97d8a0f6f54b35bc4be4923f50ceeb449d661f", func := "gantry/gantlaw3.ForceBounds", spec := "forceBounds", inPlace := ["math/bits.Sub64", "internal/bytealg.abigen_runtime_cmpstring", "internal/bytealg.IndexByteString", "internal/bytealg.IndexString"], unfollowed := true, recurses := true, named := ["math/bits.deBruijn64tab", "unicode/utf8.first", "unicode/utf8.acceptRanges", "internal/bytealg.MaxLen"], apart := false, laid := [("math/bits.deBruijn64tab", laid_math_bits_deBruijn64tab), ("unicode/utf8.acceptRanges", laid_unicode_utf8_acceptRanges), ("unicode/utf8.first", laid_unicode_utf8_first)] }
def ForceBoundsSaid : Prop := forceBoundsRow.holds Tryz.pinned (OpenSpec.ofChange forceBoundsSpec)

/-- ITS FALSE NEIGHBOUR: 'it returns false'. Refute it at one input. -/
def forceBoundsWrong : ChangeSpec := { name := "forceBounds", fn := fun _ => fun
  | [d1, d2, d3, d4] => { results := [.lit (.bool false)], args := [d1, d2, d3, d4] }
  | _ => none }
def ForceBoundsWrongFalsely : Prop := forceBoundsRow.holds Tryz.pinned (OpenSpec.ofChange forceBoundsWrong)

/-- 'gantlaw3.TrackAts': WHATEVER THE INPUT: true; the input reads as it did. -/
def trackAtsSpec : ChangeSpec := { name := "trackAts", fn := fun _ => fun
  | [d1, d2] => { results := [.lit (.bool true)], args := [d1, d2] }
  | _ => none }
def trackAtsRow : OpenClaim := { program := "ytjhoddlhdoiifaagreatdoor", sum := "bf8cca21f8dd8c785c206844ff97d8a0f6f54b35bc4be4923f50ceeb449d661f", func := "gantry/gantlaw3.TrackAts", spec := "trackAts", inPlace := ["math/bits.Sub64", "internal/bytealg.abigen_runtime_cmpstring"], named := ["math/bits.deBruijn64tab"], apart := false, laid := [("math/bits.deBruijn64tab", laid_math_bits_deBruijn64tab)] }
def TrackAtsSaid : Prop := trackAtsRow.holds Tryz.pinned (OpenSpec.ofChange trackAtsSpec)

/-- ITS FALSE NEIGHBOUR: 'it returns false'. Refute it at one input. -/
def trackAtsWrong : ChangeSpec := { name := "trackAts", fn := fun _ => fun
  | [d1, d2] => { results := [.lit (.bool false)], args := [d1, d2] }
  | _ => none }
def TrackAtsWrongFalsely : Prop := trackAtsRow.holds Tryz.pinned (OpenSpec.ofChange trackAtsWrong)

/-- 'gantlaw3.TrackChecks': WHATEVER THE INPUT: true; the input reads as it did. -/
def trackChecksSpec : ChangeSpec := { name := "trackChecks", fn := fun _ => fun
  | [d1, d2] => { results := [.lit (.bool true)], args := [d1, d2] }
  | _ => none }
def trackChecksRow : OpenClaim := { program := "ytjhoddlhdoiifaagreatdoor", sum := "bf8cca21f8dd8c785c206844ff97d8a0f6f54b35bc4be4923f50ceeb449d661f", func := "gantry/gantlaw3.TrackChecks", spec := "trackChecks", inPlace := ["math/bits.Sub64", "internal/bytealg.abigen_runtime_cmpstring", "internal/bytealg.IndexByteString", "internal/bytealg.IndexString"], named := ["math/bits.deBruijn64tab", "unicode/utf8.first", "unicode/utf8.acceptRanges", "internal/bytealg.MaxLen"], apart := false, laid := [("math/bits.deBruijn64tab", laid_math_bits_deBruijn64tab), ("unicode/utf8.acceptRanges", laid_unicode_utf8_acceptRanges), ("unicode/utf8.first", laid_unicode_utf8_first)] }
def TrackChecksSaid : Prop := trackChecksRow.holds Tryz.pinned (OpenSpec.ofChange trackChecksSpec)

/-- ITS FALSE NEIGHBOUR: 'it returns false'. Refute it at one input. -/
def trackChecksWrong : ChangeSpec := { name := "trackChecks", fn := fun _ => fun
  | [d1, d2] => { results := [.lit (.bool false)], args := [d1, d2] }
  | _ => none }
def TrackChecksWrongFalsely : Prop := trackChecksRow.holds Tryz.pinned (OpenSpec.ofChange trackChecksWrong)

/-- 'gantlaw3.ShapeBoxes': WHATEVER THE INPUT: true; the input reads as it did. -/
def shapeBoxesSpec : ChangeSpec := { name := "shapeBoxes", fn := fun _ => fun
  | [d1, d2] => { results := [.lit (.bool true)], args := [d1, d2] }
  | _ => none }
def shapeBoxesRow : OpenClaim := { program := "ytjhoddlhdoiifaagreatdoor", sum := "bf8cca21f8dd8c785c206844ff97d8a0f6f54b35bc4be4923f50ceeb449d661f", func := "gantry/gantlaw3.ShapeBoxes", spec := "shapeBoxes", inPlace := ["math/bits.Sub64", "internal/bytealg.abigen_runtime_cmpstring", "internal/bytealg.IndexByteString", "internal/bytealg.IndexString"], unfollowed := true, recurses := true, named := ["math/bits.deBruijn64tab", "unicode/utf8.first", "unicode/utf8.acceptRanges", "internal/bytealg.MaxLen"], apart := false, laid := [("math/bits.deBruijn64tab", laid_math_bits_deBruijn64tab), ("unicode/utf8.acceptRanges", laid_unicode_utf8_acceptRanges), ("unicode/utf8.first", laid_unicode_utf8_first)] }
def ShapeBoxesSaid : Prop := shapeBoxesRow.holds Tryz.pinned (OpenSpec.ofChange shapeBoxesSpec)

/-- ITS FALSE NEIGHBOUR: 'it returns false'. Refute it at one input. -/
def shapeBoxesWrong : ChangeSpec := { name := "shapeBoxes", fn := fun _ => fun
  | [d1, d2] => { results := [.lit (.bool false)], args := [d1, d2] }
  | _ => none }
def ShapeBoxesWrongFalsely : Prop := shapeBoxesRow.holds Tryz.pinned (OpenSpec.ofChange shapeBoxesWrong)

/-- 'gantlaw3.ClearWalls': WHATEVER THE INPUT: true; the input reads as it did. -/
def clearWallsSpec : ChangeSpec := { name := "clearWalls", fn := fun _ => fun
  | [d1, d2, d3] => { results := [.lit (.bool true)], args := [d1, d2, d3] }
  | _ => none }
def clearWallsRow : OpenClaim := { program := "ytjhoddlhdoiifaagreatdoor", sum := "bf8cca21f8dd8c785c206844ff97d8a0f6f54b35bc4be4923f50ceeb449d661f", func := "gantry/gantlaw3.ClearWalls", spec := "clearWalls", inPlace := ["internal/bytealg.IndexByteString", "internal/bytealg.IndexString", "math/bits.Sub64", "internal/bytealg.abigen_runtime_cmpstring"], named := ["unicode/utf8.first", "unicode/utf8.acceptRanges", "math/bits.deBruijn64tab", "internal/bytealg.MaxLen"], apart := false, laid := [("math/bits.deBruijn64tab", laid_math_bits_deBruijn64tab), ("unicode/utf8.acceptRanges", laid_unicode_utf8_acceptRanges), ("unicode/utf8.first", laid_unicode_utf8_first)] }
def ClearWallsSaid : Prop := clearWallsRow.holds Tryz.pinned (OpenSpec.ofChange clearWallsSpec)

/-- ITS FALSE NEIGHBOUR: 'it returns false'. Refute it at one input. -/
def clearWallsWrong : ChangeSpec := { name := "clearWalls", fn := fun _ => fun
  | [d1, d2, d3] => { results := [.lit (.bool false)], args := [d1, d2, d3] }
  | _ => none }
def ClearWallsWrongFalsely : Prop := clearWallsRow.holds Tryz.pinned (OpenSpec.ofChange clearWallsWrong)

/-- 'gantlaw3.ClearArms': WHATEVER THE INPUT: true; the input reads as it did. -/
def clearArmsSpec : ChangeSpec := { name := "clearArms", fn := fun _ => fun
  | [d1, d2, d3, d4] => { results := [.lit (.bool true)], args := [d1, d2, d3, d4] }
  | _ => none }
def clearArmsRow : OpenClaim := { program := "ytjhoddlhdoiifaagreatdoor", sum := "bf8cca21f8dd8c785c206844ff97d8a0f6f54b35bc4be4923f50ceeb449d661f", func := "gantry/gantlaw3.ClearArms", spec := "clearArms", inPlace := ["internal/bytealg.IndexByteString", "internal/bytealg.IndexString", "math/bits.Sub64", "internal/bytealg.abigen_runtime_cmpstring"], named := ["unicode/utf8.first", "unicode/utf8.acceptRanges", "math/bits.deBruijn64tab", "internal/bytealg.MaxLen"], apart := false, laid := [("math/bits.deBruijn64tab", laid_math_bits_deBruijn64tab), ("unicode/utf8.acceptRanges", laid_unicode_utf8_acceptRanges), ("unicode/utf8.first", laid_unicode_utf8_first)] }
def ClearArmsSaid : Prop := clearArmsRow.holds Tryz.pinned (OpenSpec.ofChange clearArmsSpec)

/-- ITS FALSE NEIGHBOUR: 'it returns false'. Refute it at one input. -/
def clearArmsWrong : ChangeSpec := { name := "clearArms", fn := fun _ => fun
  | [d1, d2, d3, d4] => { results := [.lit (.bool false)], args := [d1, d2, d3, d4] }
  | _ => none }
def ClearArmsWrongFalsely : Prop := clearArmsRow.holds Tryz.pinned (OpenSpec.ofChange clearArmsWrong)

/- THE SECOND FORM. 'bulk': how many values and letters a reading holds, each counted each time it is reached (what is shared counts as often as it is met; a slice's spare places count too). A statement '..UptoSaid' is the law's where the arguments, and the package variables that the reading takes, are together of bulk at most 1048576: NARROWER than '..Said'. Prove '..Said' where nothing that the law and all that it calls make is longer than what came in: it says more and counts as full. Else prove '..UptoSaid'. A law counts once. -/
mutual
def uptoBulk {H : Type} : DataW H → Nat
  | .lit (.string bytes) => bytes.length + 1
  | .lit _ => 1
  | .nil => 1
  | .ptr d => uptoBulk d + 1
  | .slice elems spare => uptoBulkAll elems + uptoBulkAll spare + 1
  | .agg parts => uptoBulkAll parts + 1
  | .iface _ d => uptoBulk d + 1
  | .map entries => uptoBulkEntries entries + 1
  | .held _ => 1
def uptoBulkAll {H : Type} : List (DataW H) → Nat
  | [] => 0
  | d :: r => uptoBulk d + uptoBulkAll r
def uptoBulkEntries {H : Type} : List (Lit × DataW H) → Nat
  | [] => 0
  | x :: r => uptoBulkEntry x + uptoBulkEntries r
def uptoBulkEntry {H : Type} : Lit × DataW H → Nat
  | (.string bytes, d) => bytes.length + uptoBulk d + 1
  | (_, d) => uptoBulk d + 1
 end
def uptoSmall : (H : Type) → List (DataW H) → Bool := fun _ ds => decide (uptoBulkAll ds ≤ 1048576)
def OpenSpec.upto (s : _root_.Go.ChangeSpec) : _root_.Go.OpenSpec := { _root_.Go.OpenSpec.ofChange s with cond := some uptoSmall }

/-- 'gantlaw3.InverseRings', WHERE WHAT IT READS IS OF BULK AT MOST 1048576: true; the input reads as it did. -/
def inverseRingsUptoRow : OpenClaim := { program := "ytjhoddlhdoiifaagreatdoor", sum := "bf8cca21f8dd8c785c206844ff97d8a0f6f54b35bc4be4923f50ceeb449d661f", func := "gantry/gantlaw3.InverseRings", spec := "inverseRings", inPlace := ["math/bits.Sub64", "internal/bytealg.abigen_runtime_cmpstring", "internal/bytealg.IndexByteString", "internal/bytealg.IndexString"], named := ["math/bits.deBruijn64tab", "unicode/utf8.first", "unicode/utf8.acceptRanges", "internal/bytealg.MaxLen"], apart := false, laid := [("math/bits.deBruijn64tab", laid_math_bits_deBruijn64tab), ("unicode/utf8.acceptRanges", laid_unicode_utf8_acceptRanges), ("unicode/utf8.first", laid_unicode_utf8_first)], narrowed := true }
def InverseRingsUptoSaid : Prop := inverseRingsUptoRow.holds Tryz.pinned (OpenSpec.upto inverseRingsSpec)

/-- 'gantlaw3.ForeFrames', WHERE WHAT IT READS IS OF BULK AT MOST 1048576: true; the input reads as it did. -/
def foreFramesUptoRow : OpenClaim := { program := "ytjhoddlhdoiifaagreatdoor", sum := "bf8cca21f8dd8c785c206844ff97d8a0f6f54b35bc4be4923f50ceeb449d661f", func := "gantry/gantlaw3.ForeFrames", spec := "foreFrames", inPlace := ["math/bits.Sub64", "internal/bytealg.abigen_runtime_cmpstring", "internal/bytealg.IndexByteString", "internal/bytealg.IndexString"], unfollowed := true, recurses := true, named := ["math/bits.deBruijn64tab", "unicode/utf8.first", "unicode/utf8.acceptRanges", "internal/bytealg.MaxLen"], apart := false, laid := [("math/bits.deBruijn64tab", laid_math_bits_deBruijn64tab), ("unicode/utf8.acceptRanges", laid_unicode_utf8_acceptRanges), ("unicode/utf8.first", laid_unicode_utf8_first)], narrowed := true }
def ForeFramesUptoSaid : Prop := foreFramesUptoRow.holds Tryz.pinned (OpenSpec.upto foreFramesSpec)

/-- 'gantlaw3.ForeSpreads', WHERE WHAT IT READS IS OF BULK AT MOST 1048576: true; the input reads as it did. -/
def foreSpreadsUptoRow : OpenClaim := { program := "ytjhoddlhdoiifaagreatdoor", sum := "bf8cca21f8dd8c785c206844ff97d8a0f6f54b35bc4be4923f50ceeb449d661f", func := "gantry/gantlaw3.ForeSpreads", spec := "foreSpreads", inPlace := ["math/bits.Sub64", "internal/bytealg.abigen_runtime_cmpstring", "internal/bytealg.IndexByteString", "internal/bytealg.IndexString"], unfollowed := true, recurses := true, named := ["math/bits.deBruijn64tab", "unicode/utf8.first", "unicode/utf8.acceptRanges", "internal/bytealg.MaxLen"], apart := false, laid := [("math/bits.deBruijn64tab", laid_math_bits_deBruijn64tab), ("unicode/utf8.acceptRanges", laid_unicode_utf8_acceptRanges), ("unicode/utf8.first", laid_unicode_utf8_first)], narrowed := true }
def ForeSpreadsUptoSaid : Prop := foreSpreadsUptoRow.holds Tryz.pinned (OpenSpec.upto foreSpreadsSpec)

/-- 'gantlaw3.SingleColumns', WHERE WHAT IT READS IS OF BULK AT MOST 1048576: true; the input reads as it did. -/
def singleColumnsUptoRow : OpenClaim := { program := "ytjhoddlhdoiifaagreatdoor", sum := "bf8cca21f8dd8c785c206844ff97d8a0f6f54b35bc4be4923f50ceeb449d661f", func := "gantry/gantlaw3.SingleColumns", spec := "singleColumns", inPlace := ["math/bits.Sub64", "internal/bytealg.abigen_runtime_cmpstring", "internal/bytealg.IndexByteString", "internal/bytealg.IndexString"], unfollowed := true, recurses := true, named := ["math/bits.deBruijn64tab", "unicode/utf8.first", "unicode/utf8.acceptRanges", "internal/bytealg.MaxLen"], apart := false, laid := [("math/bits.deBruijn64tab", laid_math_bits_deBruijn64tab), ("unicode/utf8.acceptRanges", laid_unicode_utf8_acceptRanges), ("unicode/utf8.first", laid_unicode_utf8_first)], narrowed := true }
def SingleColumnsUptoSaid : Prop := singleColumnsUptoRow.holds Tryz.pinned (OpenSpec.upto singleColumnsSpec)

/-- 'gantlaw3.ForceTorques', WHERE WHAT IT READS IS OF BULK AT MOST 1048576: true; the input reads as it did. -/
def forceTorquesUptoRow : OpenClaim := { program := "ytjhoddlhdoiifaagreatdoor", sum := "bf8cca21f8dd8c785c206844ff97d8a0f6f54b35bc4be4923f50ceeb449d661f", func := "gantry/gantlaw3.ForceTorques", spec := "forceTorques", inPlace := ["math/bits.Sub64", "internal/bytealg.abigen_runtime_cmpstring", "internal/bytealg.IndexByteString", "internal/bytealg.IndexString"], named := ["math/bits.deBruijn64tab", "unicode/utf8.first", "unicode/utf8.acceptRanges", "internal/bytealg.MaxLen"], apart := false, laid := [("math/bits.deBruijn64tab", laid_math_bits_deBruijn64tab), ("unicode/utf8.acceptRanges", laid_unicode_utf8_acceptRanges), ("unicode/utf8.first", laid_unicode_utf8_first)], narrowed := true }
def ForceTorquesUptoSaid : Prop := forceTorquesUptoRow.holds Tryz.pinned (OpenSpec.upto forceTorquesSpec)

/-- 'gantlaw3.ForceBounds', WHERE WHAT IT READS IS OF BULK AT MOST 1048576: true; the input reads as it did. -/
def forceBoundsUptoRow : OpenClaim := { program := "ytjhoddlhdoiifaagreatdoor", sum := "bf8cca21f8dd8c785c206844ff97d8a0f6f54b35bc4be4923f50ceeb449d661f", func := "gantry/gantlaw3.ForceBounds", spec := "forceBounds", inPlace := ["math/bits.Sub64", "internal/bytealg.abigen_runtime_cmpstring", "internal/bytealg.IndexByteString", "internal/bytealg.IndexString"], unfollowed := true, recurses := true, named := ["math/bits.deBruijn64tab", "unicode/utf8.first", "unicode/utf8.acceptRanges", "internal/bytealg.MaxLen"], apart := false, laid := [("math/bits.deBruijn64tab", laid_math_bits_deBruijn64tab), ("unicode/utf8.acceptRanges", laid_unicode_utf8_acceptRanges), ("unicode/utf8.first", laid_unicode_utf8_first)], narrowed := true }
def ForceBoundsUptoSaid : Prop := forceBoundsUptoRow.holds Tryz.pinned (OpenSpec.upto forceBoundsSpec)

/-- 'gantlaw3.TrackAts', WHERE WHAT IT READS IS OF BULK AT MOST 1048576: true; the input reads as it did. -/
def trackAtsUptoRow : OpenClaim := { program := "ytjhoddlhdoiifaagreatdoor", sum := "bf8cca21f8dd8c785c206844ff97d8a0f6f54b35bc4be4923f50ceeb449d661f", func := "gantry/gantlaw3.TrackAts", spec := "trackAts", inPlace := ["math/bits.Sub64", "internal/bytealg.abigen_runtime_cmpstring"], named := ["math/bits.deBruijn64tab"], apart := false, laid := [("math/bits.deBruijn64tab", laid_math_bits_deBruijn64tab)], narrowed := true }
def TrackAtsUptoSaid : Prop := trackAtsUptoRow.holds Tryz.pinned (OpenSpec.upto trackAtsSpec)

/-- 'gantlaw3.TrackChecks', WHERE WHAT IT READS IS OF BULK AT MOST 1048576: true; the input reads as it did. -/
def trackChecksUptoRow : OpenClaim := { program := "ytjhoddlhdoiifaagreatdoor", sum := "bf8cca21f8dd8c785c206844ff97d8a0f6f54b35bc4be4923f50ceeb449d661f", func := "gantry/gantlaw3.TrackChecks", spec := "trackChecks", inPlace := ["math/bits.Sub64", "internal/bytealg.abigen_runtime_cmpstring", "internal/bytealg.IndexByteString", "internal/bytealg.IndexString"], named := ["math/bits.deBruijn64tab", "unicode/utf8.first", "unicode/utf8.acceptRanges", "internal/bytealg.MaxLen"], apart := false, laid := [("math/bits.deBruijn64tab", laid_math_bits_deBruijn64tab), ("unicode/utf8.acceptRanges", laid_unicode_utf8_acceptRanges), ("unicode/utf8.first", laid_unicode_utf8_first)], narrowed := true }
def TrackChecksUptoSaid : Prop := trackChecksUptoRow.holds Tryz.pinned (OpenSpec.upto trackChecksSpec)

/-- 'gantlaw3.ShapeBoxes', WHERE WHAT IT READS IS OF BULK AT MOST 1048576: true; the input reads as it did. -/
def shapeBoxesUptoRow : OpenClaim := { program := "ytjhoddlhdoiifaagreatdoor", sum := "bf8cca21f8dd8c785c206844ff97d8a0f6f54b35bc4be4923f50ceeb449d661f", func := "gantry/gantlaw3.ShapeBoxes", spec := "shapeBoxes", inPlace := ["math/bits.Sub64", "internal/bytealg.abigen_runtime_cmpstring", "internal/bytealg.IndexByteString", "internal/bytealg.IndexString"], unfollowed := true, recurses := true, named := ["math/bits.deBruijn64tab", "unicode/utf8.first", "unicode/utf8.acceptRanges", "internal/bytealg.MaxLen"], apart := false, laid := [("math/bits.deBruijn64tab", laid_math_bits_deBruijn64tab), ("unicode/utf8.acceptRanges", laid_unicode_utf8_acceptRanges), ("unicode/utf8.first", laid_unicode_utf8_first)], narrowed := true }
def ShapeBoxesUptoSaid : Prop := shapeBoxesUptoRow.holds Tryz.pinned (OpenSpec.upto shapeBoxesSpec)

/-- 'gantlaw3.ClearWalls', WHERE WHAT IT READS IS OF BULK AT MOST 1048576: true; the input reads as it did. -/
def clearWallsUptoRow : OpenClaim := { program := "ytjhoddlhdoiifaagreatdoor", sum := "bf8cca21f8dd8c785c206844ff97d8a0f6f54b35bc4be4923f50ceeb449d661f", func := "gantry/gantlaw3.ClearWalls", spec := "clearWalls", inPlace := ["internal/bytealg.IndexByteString", "internal/bytealg.IndexString", "math/bits.Sub64", "internal/bytealg.abigen_runtime_cmpstring"], named := ["unicode/utf8.first", "unicode/utf8.acceptRanges", "math/bits.deBruijn64tab", "internal/bytealg.MaxLen"], apart := false, laid := [("math/bits.deBruijn64tab", laid_math_bits_deBruijn64tab), ("unicode/utf8.acceptRanges", laid_unicode_utf8_acceptRanges), ("unicode/utf8.first", laid_unicode_utf8_first)], narrowed := true }
def ClearWallsUptoSaid : Prop := clearWallsUptoRow.holds Tryz.pinned (OpenSpec.upto clearWallsSpec)

/-- 'gantlaw3.ClearArms', WHERE WHAT IT READS IS OF BULK AT MOST 1048576: true; the input reads as it did. -/
def clearArmsUptoRow : OpenClaim := { program := "ytjhoddlhdoiifaagreatdoor", sum := "bf8cca21f8dd8c785c206844ff97d8a0f6f54b35bc4be4923f50ceeb449d661f", func := "gantry/gantlaw3.ClearArms", spec := "clearArms", inPlace := ["internal/bytealg.IndexByteString", "internal/bytealg.IndexString", "math/bits.Sub64", "internal/bytealg.abigen_runtime_cmpstring"], named := ["unicode/utf8.first", "unicode/utf8.acceptRanges", "math/bits.deBruijn64tab", "internal/bytealg.MaxLen"], apart := false, laid := [("math/bits.deBruijn64tab", laid_math_bits_deBruijn64tab), ("unicode/utf8.acceptRanges", laid_unicode_utf8_acceptRanges), ("unicode/utf8.first", laid_unicode_utf8_first)], narrowed := true }
def ClearArmsUptoSaid : Prop := clearArmsUptoRow.holds Tryz.pinned (OpenSpec.upto clearArmsSpec)

end Rows
end Go.Proofs.YtjhoddlhdoiifaaGreatDoor
