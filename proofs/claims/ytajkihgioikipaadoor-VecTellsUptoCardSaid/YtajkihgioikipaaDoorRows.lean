/-
  NARROWER THAN 'FOR EVERY INPUT', by the rows' own cells (each row's printed sentence says how): NatInts: laid · NatAdds: laid · NatTexts: laid · NatMuls: laid · GridBoxes: laid · TimingProfiles: laid · ClearSplits: laid · VecTells: laid · SweepBoxes: laid · TurnTells: laid.
  DERIVED. THE GIVEN ROWS OF THIS SEAT. 10 by the template 'for every input the law returns true; each argument reads behind the call as it read before'; 0 by the template 'total and deterministic' (their statements: YtajkihgioikipaaDoorTotals.lean).
  GIVEN WITH THE SEED: the statements are not yours to turn. If you find one false, say at which input.
  Laid BY PROGRAM, IN A SANDBOX (cutbox-rows.mjs): the forced cells as the released guide's own fill.sh prints them over the translation b7718dfa40949479… (all of the seat's roots in one cut). By AI agents, Wed Nov 11 2026. No macro, syntax, notation, axiom, sorry.
-/
import Derived.Test.YtajkihgioikipaaDoorChecked
import GoSem.PinnedTables
import GoSem.Claim
import GoSem.ClaimJoined
import GoSem.ClaimMapViews
import Derived.JoinedTies
import Derived.KernelRfl
namespace Go.Proofs.YtajkihgioikipaaDoor
/- THE CELL 'sum', in the pinned program and in every row, IS THE sha256 OF THE DUMP (.gsa) THAT YtajkihgioikipaaDoorProg.lean LOADS. Nothing in Lean hashes anything: it is a label: what it is worth is what the hold of that sum in a sandbox is worth. -/
noncomputable def Tryd.pinned : Pinned := { name := "ytajkihgioikipaadoor", sum := "b7718dfa4094947953921c05e0d074241a7f58a647a1764d0df37ff36a06de2f", checked := Tryd.checked }
namespace Rows
def none {H : Type} : Left H := { results := [], args := [] }

/- WHAT THE LISTED PACKAGE-LEVEL VARIABLES READ AS WHEN THE CALL BEGINS. Each datum BY PROGRAM (the guide's laid-datum.mjs) off the statement by which the dump's own 'gosem.cut.vars' lays the variable. In a bare row this is a premise. The card (YtajkihgioikipaaDoorCards.lean) ties it to the program's text. -/
def laid_unicode_utf8_acceptRanges {H : Type} : DataW H := .agg [.agg [.lit (.int .u8 128), .lit (.int .u8 191)], .agg [.lit (.int .u8 160), .lit (.int .u8 191)], .agg [.lit (.int .u8 128), .lit (.int .u8 159)], .agg [.lit (.int .u8 144), .lit (.int .u8 191)], .agg [.lit (.int .u8 128), .lit (.int .u8 143)], .agg [.lit (.int .u8 0), .lit (.int .u8 0)], .agg [.lit (.int .u8 0), .lit (.int .u8 0)], .agg [.lit (.int .u8 0), .lit (.int .u8 0)], .agg [.lit (.int .u8 0), .lit (.int .u8 0)], .agg [.lit (.int .u8 0), .lit (.int .u8 0)], .agg [.lit (.int .u8 0), .lit (.int .u8 0)], .agg [.lit (.int .u8 0), .lit (.int .u8 0)], .agg [.lit (.int .u8 0), .lit (.int .u8 0)], .agg [.lit (.int .u8 0), .lit (.int .u8 0)], .agg [.lit (.int .u8 0), .lit (.int .u8 0)], .agg [.lit (.int .u8 0), .lit (.int .u8 0)]]
/-- One of Go's own tables, pinned by name: the form's constant. -/
def laid_unicode_utf8_first : DataW Unit := Go.Pinned.utf8First
def laid_math_bits_deBruijn64tab {H : Type} : DataW H := .agg [.lit (.int .u8 0), .lit (.int .u8 1), .lit (.int .u8 56), .lit (.int .u8 2), .lit (.int .u8 57), .lit (.int .u8 49), .lit (.int .u8 28), .lit (.int .u8 3), .lit (.int .u8 61), .lit (.int .u8 58), .lit (.int .u8 42), .lit (.int .u8 50), .lit (.int .u8 38), .lit (.int .u8 29), .lit (.int .u8 17), .lit (.int .u8 4), .lit (.int .u8 62), .lit (.int .u8 47), .lit (.int .u8 59), .lit (.int .u8 36), .lit (.int .u8 45), .lit (.int .u8 43), .lit (.int .u8 51), .lit (.int .u8 22), .lit (.int .u8 53), .lit (.int .u8 39), .lit (.int .u8 33), .lit (.int .u8 30), .lit (.int .u8 24), .lit (.int .u8 18), .lit (.int .u8 12), .lit (.int .u8 5), .lit (.int .u8 63), .lit (.int .u8 55), .lit (.int .u8 48), .lit (.int .u8 27), .lit (.int .u8 60), .lit (.int .u8 41), .lit (.int .u8 37), .lit (.int .u8 16), .lit (.int .u8 46), .lit (.int .u8 35), .lit (.int .u8 44), .lit (.int .u8 21), .lit (.int .u8 52), .lit (.int .u8 32), .lit (.int .u8 23), .lit (.int .u8 11), .lit (.int .u8 54), .lit (.int .u8 26), .lit (.int .u8 40), .lit (.int .u8 15), .lit (.int .u8 34), .lit (.int .u8 20), .lit (.int .u8 31), .lit (.int .u8 10), .lit (.int .u8 25), .lit (.int .u8 14), .lit (.int .u8 19), .lit (.int .u8 9), .lit (.int .u8 13), .lit (.int .u8 8), .lit (.int .u8 7), .lit (.int .u8 6)]

/-- 'gantlaw1.NatInts': WHATEVER THE INPUT: true; the input reads as it did. -/
def natIntsSpec : ChangeSpec := { name := "natInts", fn := fun _ => fun
  | [d1, d2] => { results := [.lit (.bool true)], args := [d1, d2] }
  | _ => none }
def natIntsRow : OpenClaim := { program := "ytajkihgioikipaadoor", sum := "b7718dfa4094947953921c05e0d074241a7f58a647a1764d0df37ff36a06de2f", func := "gantry/gantlaw1.NatInts", spec := "natInts", inPlace := ["internal/bytealg.IndexByteString", "internal/bytealg.IndexString"], named := ["unicode/utf8.first", "unicode/utf8.acceptRanges", "internal/bytealg.MaxLen"], apart := false, laid := [("unicode/utf8.acceptRanges", laid_unicode_utf8_acceptRanges), ("unicode/utf8.first", laid_unicode_utf8_first)] }
def NatIntsSaid : Prop := natIntsRow.holds Tryd.pinned (OpenSpec.ofChange natIntsSpec)

/-- ITS FALSE NEIGHBOUR: 'it returns false'. Refute it at one input. -/
def natIntsWrong : ChangeSpec := { name := "natInts", fn := fun _ => fun
  | [d1, d2] => { results := [.lit (.bool false)], args := [d1, d2] }
  | _ => none }
def NatIntsWrongFalsely : Prop := natIntsRow.holds Tryd.pinned (OpenSpec.ofChange natIntsWrong)

/-- 'gantlaw1.NatAdds': WHATEVER THE INPUT: true; the input reads as it did. -/
def natAddsSpec : ChangeSpec := { name := "natAdds", fn := fun _ => fun
  | [d1, d2] => { results := [.lit (.bool true)], args := [d1, d2] }
  | _ => none }
def natAddsRow : OpenClaim := { program := "ytajkihgioikipaadoor", sum := "b7718dfa4094947953921c05e0d074241a7f58a647a1764d0df37ff36a06de2f", func := "gantry/gantlaw1.NatAdds", spec := "natAdds", inPlace := ["internal/bytealg.abigen_runtime_cmpstring", "internal/bytealg.IndexByteString", "internal/bytealg.IndexString"], named := ["unicode/utf8.first", "unicode/utf8.acceptRanges", "internal/bytealg.MaxLen"], apart := false, laid := [("unicode/utf8.acceptRanges", laid_unicode_utf8_acceptRanges), ("unicode/utf8.first", laid_unicode_utf8_first)] }
def NatAddsSaid : Prop := natAddsRow.holds Tryd.pinned (OpenSpec.ofChange natAddsSpec)

/-- ITS FALSE NEIGHBOUR: 'it returns false'. Refute it at one input. -/
def natAddsWrong : ChangeSpec := { name := "natAdds", fn := fun _ => fun
  | [d1, d2] => { results := [.lit (.bool false)], args := [d1, d2] }
  | _ => none }
def NatAddsWrongFalsely : Prop := natAddsRow.holds Tryd.pinned (OpenSpec.ofChange natAddsWrong)

/-- 'gantlaw1.NatTexts': WHATEVER THE INPUT: true; the input reads as it did. -/
def natTextsSpec : ChangeSpec := { name := "natTexts", fn := fun _ => fun
  | [d1, d2] => { results := [.lit (.bool true)], args := [d1, d2] }
  | _ => none }
def natTextsRow : OpenClaim := { program := "ytajkihgioikipaadoor", sum := "b7718dfa4094947953921c05e0d074241a7f58a647a1764d0df37ff36a06de2f", func := "gantry/gantlaw1.NatTexts", spec := "natTexts", inPlace := ["internal/bytealg.IndexByteString", "internal/bytealg.IndexString"], named := ["unicode/utf8.first", "unicode/utf8.acceptRanges", "internal/bytealg.MaxLen"], apart := false, laid := [("unicode/utf8.acceptRanges", laid_unicode_utf8_acceptRanges), ("unicode/utf8.first", laid_unicode_utf8_first)] }
def NatTextsSaid : Prop := natTextsRow.holds Tryd.pinned (OpenSpec.ofChange natTextsSpec)

/-- ITS FALSE NEIGHBOUR: 'it returns false'. Refute it at one input. -/
def natTextsWrong : ChangeSpec := { name := "natTexts", fn := fun _ => fun
  | [d1, d2] => { results := [.lit (.bool false)], args := [d1, d2] }
  | _ => none }
def NatTextsWrongFalsely : Prop := natTextsRow.holds Tryd.pinned (OpenSpec.ofChange natTextsWrong)

/-- 'gantlaw1.NatMuls': WHATEVER THE INPUT: true; the input reads as it did. -/
def natMulsSpec : ChangeSpec := { name := "natMuls", fn := fun _ => fun
  | [d1, d2] => { results := [.lit (.bool true)], args := [d1, d2] }
  | _ => none }
def natMulsRow : OpenClaim := { program := "ytajkihgioikipaadoor", sum := "b7718dfa4094947953921c05e0d074241a7f58a647a1764d0df37ff36a06de2f", func := "gantry/gantlaw1.NatMuls", spec := "natMuls", inPlace := ["internal/bytealg.abigen_runtime_cmpstring", "internal/bytealg.IndexByteString", "internal/bytealg.IndexString"], named := ["unicode/utf8.first", "unicode/utf8.acceptRanges", "internal/bytealg.MaxLen"], apart := false, laid := [("unicode/utf8.acceptRanges", laid_unicode_utf8_acceptRanges), ("unicode/utf8.first", laid_unicode_utf8_first)] }
def NatMulsSaid : Prop := natMulsRow.holds Tryd.pinned (OpenSpec.ofChange natMulsSpec)

/-- ITS FALSE NEIGHBOUR: 'it returns false'. Refute it at one input. -/
def natMulsWrong : ChangeSpec := { name := "natMuls", fn := fun _ => fun
  | [d1, d2] => { results := [.lit (.bool false)], args := [d1, d2] }
  | _ => none }
def NatMulsWrongFalsely : Prop := natMulsRow.holds Tryd.pinned (OpenSpec.ofChange natMulsWrong)

/-- 'gantlaw1.GridBoxes': WHATEVER THE INPUT: true; the input reads as it did. -/
def gridBoxesSpec : ChangeSpec := { name := "gridBoxes", fn := fun _ => fun
  | [d] => { results := [.lit (.bool true)], args := [d] }
  | _ => none }
def gridBoxesRow : OpenClaim := { program := "ytajkihgioikipaadoor", sum := "b7718dfa4094947953921c05e0d074241a7f58a647a1764d0df37ff36a06de2f", func := "gantry/gantlaw1.GridBoxes", spec := "gridBoxes", inPlace := ["math/bits.Sub64", "internal/bytealg.abigen_runtime_cmpstring"], named := ["math/bits.deBruijn64tab"], apart := false, laid := [("math/bits.deBruijn64tab", laid_math_bits_deBruijn64tab)] }
def GridBoxesSaid : Prop := gridBoxesRow.holds Tryd.pinned (OpenSpec.ofChange gridBoxesSpec)

/-- ITS FALSE NEIGHBOUR: 'it returns false'. Refute it at one input. -/
def gridBoxesWrong : ChangeSpec := { name := "gridBoxes", fn := fun _ => fun
  | [d] => { results := [.lit (.bool false)], args := [d] }
  | _ => none }
def GridBoxesWrongFalsely : Prop := gridBoxesRow.holds Tryd.pinned (OpenSpec.ofChange gridBoxesWrong)

/-- 'gantlaw3.TimingProfiles': WHATEVER THE INPUT: true; the input reads as it did. -/
def timingProfilesSpec : ChangeSpec := { name := "timingProfiles", fn := fun _ => fun
  | [d1, d2, d3, d4] => { results := [.lit (.bool true)], args := [d1, d2, d3, d4] }
  | _ => none }
def timingProfilesRow : OpenClaim := { program := "ytajkihgioikipaadoor", sum := "b7718dfa4094947953921c05e0d074241a7f58a647a1764d0df37ff36a06de2f", func := "gantry/gantlaw3.TimingProfiles", spec := "timingProfiles", inPlace := ["math/bits.Sub64", "internal/bytealg.abigen_runtime_cmpstring"], named := ["math/bits.deBruijn64tab"], apart := false, laid := [("math/bits.deBruijn64tab", laid_math_bits_deBruijn64tab)] }
def TimingProfilesSaid : Prop := timingProfilesRow.holds Tryd.pinned (OpenSpec.ofChange timingProfilesSpec)

/-- ITS FALSE NEIGHBOUR: 'it returns false'. Refute it at one input. -/
def timingProfilesWrong : ChangeSpec := { name := "timingProfiles", fn := fun _ => fun
  | [d1, d2, d3, d4] => { results := [.lit (.bool false)], args := [d1, d2, d3, d4] }
  | _ => none }
def TimingProfilesWrongFalsely : Prop := timingProfilesRow.holds Tryd.pinned (OpenSpec.ofChange timingProfilesWrong)

/-- 'gantlaw3.ClearSplits': WHATEVER THE INPUT: true; the input reads as it did. -/
def clearSplitsSpec : ChangeSpec := { name := "clearSplits", fn := fun _ => fun
  | [d1, d2, d3, d4, d5] => { results := [.lit (.bool true)], args := [d1, d2, d3, d4, d5] }
  | _ => none }
def clearSplitsRow : OpenClaim := { program := "ytajkihgioikipaadoor", sum := "b7718dfa4094947953921c05e0d074241a7f58a647a1764d0df37ff36a06de2f", func := "gantry/gantlaw3.ClearSplits", spec := "clearSplits", inPlace := ["math/bits.Sub64", "internal/bytealg.abigen_runtime_cmpstring"], unfollowed := true, recurses := true, named := ["math/bits.deBruijn64tab"], apart := false, laid := [("math/bits.deBruijn64tab", laid_math_bits_deBruijn64tab)] }
def ClearSplitsSaid : Prop := clearSplitsRow.holds Tryd.pinned (OpenSpec.ofChange clearSplitsSpec)

/-- ITS FALSE NEIGHBOUR: 'it returns false'. Refute it at one input. -/
def clearSplitsWrong : ChangeSpec := { name := "clearSplits", fn := fun _ => fun
  | [d1, d2, d3, d4, d5] => { results := [.lit (.bool false)], args := [d1, d2, d3, d4, d5] }
  | _ => none }
def ClearSplitsWrongFalsely : Prop := clearSplitsRow.holds Tryd.pinned (OpenSpec.ofChange clearSplitsWrong)

/-- 'gantlaw1.VecTells': WHATEVER THE INPUT: true; the input reads as it did. -/
def vecTellsSpec : ChangeSpec := { name := "vecTells", fn := fun _ => fun
  | [d1, d2, d3, d4] => { results := [.lit (.bool true)], args := [d1, d2, d3, d4] }
  | _ => none }
def vecTellsRow : OpenClaim := { program := "ytajkihgioikipaadoor", sum := "b7718dfa4094947953921c05e0d074241a7f58a647a1764d0df37ff36a06de2f", func := "gantry/gantlaw1.VecTells", spec := "vecTells", inPlace := ["math/bits.Sub64", "internal/bytealg.abigen_runtime_cmpstring"], named := ["math/bits.deBruijn64tab"], apart := false, laid := [("math/bits.deBruijn64tab", laid_math_bits_deBruijn64tab)] }
def VecTellsSaid : Prop := vecTellsRow.holds Tryd.pinned (OpenSpec.ofChange vecTellsSpec)

/-- ITS FALSE NEIGHBOUR: 'it returns false'. Refute it at one input. -/
def vecTellsWrong : ChangeSpec := { name := "vecTells", fn := fun _ => fun
  | [d1, d2, d3, d4] => { results := [.lit (.bool false)], args := [d1, d2, d3, d4] }
  | _ => none }
def VecTellsWrongFalsely : Prop := vecTellsRow.holds Tryd.pinned (OpenSpec.ofChange vecTellsWrong)

/-- 'gantlaw1.SweepBoxes': WHATEVER THE INPUT: true; the input reads as it did. -/
def sweepBoxesSpec : ChangeSpec := { name := "sweepBoxes", fn := fun _ => fun
  | [d1, d2, d3] => { results := [.lit (.bool true)], args := [d1, d2, d3] }
  | _ => none }
def sweepBoxesRow : OpenClaim := { program := "ytajkihgioikipaadoor", sum := "b7718dfa4094947953921c05e0d074241a7f58a647a1764d0df37ff36a06de2f", func := "gantry/gantlaw1.SweepBoxes", spec := "sweepBoxes", inPlace := ["math/bits.Sub64", "internal/bytealg.abigen_runtime_cmpstring"], named := ["math/bits.deBruijn64tab"], apart := false, laid := [("math/bits.deBruijn64tab", laid_math_bits_deBruijn64tab)] }
def SweepBoxesSaid : Prop := sweepBoxesRow.holds Tryd.pinned (OpenSpec.ofChange sweepBoxesSpec)

/-- ITS FALSE NEIGHBOUR: 'it returns false'. Refute it at one input. -/
def sweepBoxesWrong : ChangeSpec := { name := "sweepBoxes", fn := fun _ => fun
  | [d1, d2, d3] => { results := [.lit (.bool false)], args := [d1, d2, d3] }
  | _ => none }
def SweepBoxesWrongFalsely : Prop := sweepBoxesRow.holds Tryd.pinned (OpenSpec.ofChange sweepBoxesWrong)

/-- 'gantlaw1.TurnTells': WHATEVER THE INPUT: true; the input reads as it did. -/
def turnTellsSpec : ChangeSpec := { name := "turnTells", fn := fun _ => fun
  | [d1, d2] => { results := [.lit (.bool true)], args := [d1, d2] }
  | _ => none }
def turnTellsRow : OpenClaim := { program := "ytajkihgioikipaadoor", sum := "b7718dfa4094947953921c05e0d074241a7f58a647a1764d0df37ff36a06de2f", func := "gantry/gantlaw1.TurnTells", spec := "turnTells", inPlace := ["math/bits.Sub64", "internal/bytealg.abigen_runtime_cmpstring"], named := ["math/bits.deBruijn64tab"], apart := false, laid := [("math/bits.deBruijn64tab", laid_math_bits_deBruijn64tab)] }
def TurnTellsSaid : Prop := turnTellsRow.holds Tryd.pinned (OpenSpec.ofChange turnTellsSpec)

/-- ITS FALSE NEIGHBOUR: 'it returns false'. Refute it at one input. -/
def turnTellsWrong : ChangeSpec := { name := "turnTells", fn := fun _ => fun
  | [d1, d2] => { results := [.lit (.bool false)], args := [d1, d2] }
  | _ => none }
def TurnTellsWrongFalsely : Prop := turnTellsRow.holds Tryd.pinned (OpenSpec.ofChange turnTellsWrong)

/- THE SECOND FORM. 'bulk': how many values and letters a reading holds, each counted each time it is reached (what is shared counts as often as it is met; a slice's spare places count too). A statement '..UptoSaid' is the law's where the arguments, and the package variables that the reading takes, are together of bulk at most 1048576: NARROWER than '..Said'. Prove '..Said' where nothing that the law and all that it calls make is longer than what came in: it says more and counts as full. Else prove '..UptoSaid'. A law counts once. -/
mutual
def uptoBulk {H : Type} : DataW H → Nat
  | .lit (.string bytes) => bytes.length + 1
  | .lit _ => 1
  | .nil => 1
  | .ptr d => uptoBulk d + 1
  | .slice elems spare => uptoBulkAll elems + uptoBulkAll spare + 1
  | .agg parts => uptoBulkAll parts + 1
  | .iface _ d => uptoBulk d + 1
  | .map entries => uptoBulkEntries entries + 1
  | .held _ => 1
def uptoBulkAll {H : Type} : List (DataW H) → Nat
  | [] => 0
  | d :: r => uptoBulk d + uptoBulkAll r
def uptoBulkEntries {H : Type} : List (Lit × DataW H) → Nat
  | [] => 0
  | x :: r => uptoBulkEntry x + uptoBulkEntries r
def uptoBulkEntry {H : Type} : Lit × DataW H → Nat
  | (.string bytes, d) => bytes.length + uptoBulk d + 1
  | (_, d) => uptoBulk d + 1
 end
def uptoSmall : (H : Type) → List (DataW H) → Bool := fun _ ds => decide (uptoBulkAll ds ≤ 1048576)
def OpenSpec.upto (s : _root_.Go.ChangeSpec) : _root_.Go.OpenSpec := { _root_.Go.OpenSpec.ofChange s with cond := some uptoSmall }

/-- 'gantlaw1.NatInts', WHERE WHAT IT READS IS OF BULK AT MOST 1048576: true; the input reads as it did. -/
def natIntsUptoRow : OpenClaim := { program := "ytajkihgioikipaadoor", sum := "b7718dfa4094947953921c05e0d074241a7f58a647a1764d0df37ff36a06de2f", func := "gantry/gantlaw1.NatInts", spec := "natInts", inPlace := ["internal/bytealg.IndexByteString", "internal/bytealg.IndexString"], named := ["unicode/utf8.first", "unicode/utf8.acceptRanges", "internal/bytealg.MaxLen"], apart := false, laid := [("unicode/utf8.acceptRanges", laid_unicode_utf8_acceptRanges), ("unicode/utf8.first", laid_unicode_utf8_first)], narrowed := true }
def NatIntsUptoSaid : Prop := natIntsUptoRow.holds Tryd.pinned (OpenSpec.upto natIntsSpec)

/-- 'gantlaw1.NatAdds', WHERE WHAT IT READS IS OF BULK AT MOST 1048576: true; the input reads as it did. -/
def natAddsUptoRow : OpenClaim := { program := "ytajkihgioikipaadoor", sum := "b7718dfa4094947953921c05e0d074241a7f58a647a1764d0df37ff36a06de2f", func := "gantry/gantlaw1.NatAdds", spec := "natAdds", inPlace := ["internal/bytealg.abigen_runtime_cmpstring", "internal/bytealg.IndexByteString", "internal/bytealg.IndexString"], named := ["unicode/utf8.first", "unicode/utf8.acceptRanges", "internal/bytealg.MaxLen"], apart := false, laid := [("unicode/utf8.acceptRanges", laid_unicode_utf8_acceptRanges), ("unicode/utf8.first", laid_unicode_utf8_first)], narrowed := true }
def NatAddsUptoSaid : Prop := natAddsUptoRow.holds Tryd.pinned (OpenSpec.upto natAddsSpec)

/-- 'gantlaw1.NatTexts', WHERE WHAT IT READS IS OF BULK AT MOST 1048576: true; the input reads as it did. -/
def natTextsUptoRow : OpenClaim := { program := "ytajkihgioikipaadoor", sum := "b7718dfa4094947953921c05e0d074241a7f58a647a1764d0df37ff36a06de2f", func := "gantry/gantlaw1.NatTexts", spec := "natTexts", inPlace := ["internal/bytealg.IndexByteString", "internal/bytealg.IndexString"], named := ["unicode/utf8.first", "unicode/utf8.acceptRanges", "internal/bytealg.MaxLen"], apart := false, laid := [("unicode/utf8.acceptRanges", laid_unicode_utf8_acceptRanges), ("unicode/utf8.first", laid_unicode_utf8_first)], narrowed := true }
def NatTextsUptoSaid : Prop := natTextsUptoRow.holds Tryd.pinned (OpenSpec.upto natTextsSpec)

/-- 'gantlaw1.NatMuls', WHERE WHAT IT READS IS OF BULK AT MOST 1048576: true; the input reads as it did. -/
def natMulsUptoRow : OpenClaim := { program := "ytajkihgioikipaadoor", sum := "b7718dfa4094947953921c05e0d074241a7f58a647a1764d0df37ff36a06de2f", func := "gantry/gantlaw1.NatMuls", spec := "natMuls", inPlace := ["internal/bytealg.abigen_runtime_cmpstring", "internal/bytealg.IndexByteString", "internal/bytealg.IndexString"], named := ["unicode/utf8.first", "unicode/utf8.acceptRanges", "internal/bytealg.MaxLen"], apart := false, laid := [("unicode/utf8.acceptRanges", laid_unicode_utf8_acceptRanges), ("unicode/utf8.first", laid_unicode_utf8_first)], narrowed := true }
def NatMulsUptoSaid : Prop := natMulsUptoRow.holds Tryd.pinned (OpenSpec.upto natMulsSpec)

/-- 'gantlaw1.GridBoxes', WHERE WHAT IT READS IS OF BULK AT MOST 1048576: true; the input reads as it did. -/
def gridBoxesUptoRow : OpenClaim := { program := "ytajkihgioikipaadoor", sum := "b7718dfa4094947953921c05e0d074241a7f58a647a1764d0df37ff36a06de2f", func := "gantry/gantlaw1.GridBoxes", spec := "gridBoxes", inPlace := ["math/bits.Sub64", "internal/bytealg.abigen_runtime_cmpstring"], named := ["math/bits.deBruijn64tab"], apart := false, laid := [("math/bits.deBruijn64tab", laid_math_bits_deBruijn64tab)], narrowed := true }
def GridBoxesUptoSaid : Prop := gridBoxesUptoRow.holds Tryd.pinned (OpenSpec.upto gridBoxesSpec)

/-- 'gantlaw3.TimingProfiles', WHERE WHAT IT READS IS OF BULK AT MOST 1048576: true; the input reads as it did. -/
def timingProfilesUptoRow : OpenClaim := { program := "ytajkihgioikipaadoor", sum := "b7718dfa4094947953921c05e0d074241a7f58a647a1764d0df37ff36a06de2f", func := "gantry/gantlaw3.TimingProfiles", spec := "timingProfiles", inPlace := ["math/bits.Sub64", "internal/bytealg.abigen_runtime_cmpstring"], named := ["math/bits.deBruijn64tab"], apart := false, laid := [("math/bits.deBruijn64tab", laid_math_bits_deBruijn64tab)], narrowed := true }
def TimingProfilesUptoSaid : Prop := timingProfilesUptoRow.holds Tryd.pinned (OpenSpec.upto timingProfilesSpec)

/-- 'gantlaw3.ClearSplits', WHERE WHAT IT READS IS OF BULK AT MOST 1048576: true; the input reads as it did. -/
def clearSplitsUptoRow : OpenClaim := { program := "ytajkihgioikipaadoor", sum := "b7718dfa4094947953921c05e0d074241a7f58a647a1764d0df37ff36a06de2f", func := "gantry/gantlaw3.ClearSplits", spec := "clearSplits", inPlace := ["math/bits.Sub64", "internal/bytealg.abigen_runtime_cmpstring"], unfollowed := true, recurses := true, named := ["math/bits.deBruijn64tab"], apart := false, laid := [("math/bits.deBruijn64tab", laid_math_bits_deBruijn64tab)], narrowed := true }
def ClearSplitsUptoSaid : Prop := clearSplitsUptoRow.holds Tryd.pinned (OpenSpec.upto clearSplitsSpec)

/-- 'gantlaw1.VecTells', WHERE WHAT IT READS IS OF BULK AT MOST 1048576: true; the input reads as it did. -/
def vecTellsUptoRow : OpenClaim := { program := "ytajkihgioikipaadoor", sum := "b7718dfa4094947953921c05e0d074241a7f58a647a1764d0df37ff36a06de2f", func := "gantry/gantlaw1.VecTells", spec := "vecTells", inPlace := ["math/bits.Sub64", "internal/bytealg.abigen_runtime_cmpstring"], named := ["math/bits.deBruijn64tab"], apart := false, laid := [("math/bits.deBruijn64tab", laid_math_bits_deBruijn64tab)], narrowed := true }
def VecTellsUptoSaid : Prop := vecTellsUptoRow.holds Tryd.pinned (OpenSpec.upto vecTellsSpec)

/-- 'gantlaw1.SweepBoxes', WHERE WHAT IT READS IS OF BULK AT MOST 1048576: true; the input reads as it did. -/
def sweepBoxesUptoRow : OpenClaim := { program := "ytajkihgioikipaadoor", sum := "b7718dfa4094947953921c05e0d074241a7f58a647a1764d0df37ff36a06de2f", func := "gantry/gantlaw1.SweepBoxes", spec := "sweepBoxes", inPlace := ["math/bits.Sub64", "internal/bytealg.abigen_runtime_cmpstring"], named := ["math/bits.deBruijn64tab"], apart := false, laid := [("math/bits.deBruijn64tab", laid_math_bits_deBruijn64tab)], narrowed := true }
def SweepBoxesUptoSaid : Prop := sweepBoxesUptoRow.holds Tryd.pinned (OpenSpec.upto sweepBoxesSpec)

/-- 'gantlaw1.TurnTells', WHERE WHAT IT READS IS OF BULK AT MOST 1048576: true; the input reads as it did. -/
def turnTellsUptoRow : OpenClaim := { program := "ytajkihgioikipaadoor", sum := "b7718dfa4094947953921c05e0d074241a7f58a647a1764d0df37ff36a06de2f", func := "gantry/gantlaw1.TurnTells", spec := "turnTells", inPlace := ["math/bits.Sub64", "internal/bytealg.abigen_runtime_cmpstring"], named := ["math/bits.deBruijn64tab"], apart := false, laid := [("math/bits.deBruijn64tab", laid_math_bits_deBruijn64tab)], narrowed := true }
def TurnTellsUptoSaid : Prop := turnTellsUptoRow.holds Tryd.pinned (OpenSpec.upto turnTellsSpec)

end Rows
end Go.Proofs.YtajkihgioikipaaDoor
