/-
  NARROWER THAN 'FOR EVERY INPUT', by the rows' own cells (each row's printed sentence says how): GridBoxes: laid · TimingProfiles: laid · ClearSplits: laid · SweepBoxes: laid · TurnTells: laid · SpanAdds: laid · FrameTells: laid · SpanMuls: laid · PolyChecks: laid · TurnSpans: laid · ApartTells: laid.
  DERIVED. THE GIVEN ROWS OF THIS SEAT. 11 by the template 'for every input the law returns true; each argument reads behind the call as it read before'; 0 by the template 'total and deterministic' (their statements: YtnnffjolkgomhaaDoorTotals.lean).
  GIVEN WITH THE SEED: the statements are not yours to turn. If you find one false, say at which input.
  Laid BY PROGRAM, IN A SANDBOX (cutbox-rows.mjs): the forced cells as the released guide's own fill.sh prints them over the translation 7d8443571043ef4c… (all of the seat's roots in one cut). By AI agents, Wed Nov 11 2026. No macro, syntax, notation, axiom, sorry.
-/
import Derived.Test.YtnnffjolkgomhaaDoorChecked
import GoSem.Claim
import GoSem.ClaimJoined
import GoSem.ClaimMapViews
import Derived.JoinedTies
import Derived.KernelRfl
namespace Go.Proofs.YtnnffjolkgomhaaDoor
/- THE CELL 'sum', in the pinned program and in every row, IS THE sha256 OF THE DUMP (.gsa) THAT YtnnffjolkgomhaaDoorProg.lean LOADS. Nothing in Lean hashes anything: it is a label: what it is worth is what the hold of that sum in a sandbox is worth. -/
noncomputable def Tryd.pinned : Pinned := { name := "ytnnffjolkgomhaadoor", sum := "7d8443571043ef4cdc1985a938ac8bf904cd9a89f6978a7da0c79f6bbd920ede", checked := Tryd.checked }
namespace Rows
def none {H : Type} : Left H := { results := [], args := [] }

/- WHAT THE LISTED PACKAGE-LEVEL VARIABLES READ AS WHEN THE CALL BEGINS. Each datum BY PROGRAM (the guide's laid-datum.mjs) off the statement by which the dump's own 'gosem.cut.vars' lays the variable. In a bare row this is a premise. The card (YtnnffjolkgomhaaDoorCards.lean) ties it to the program's text. -/
def laid_math_bits_deBruijn64tab {H : Type} : DataW H := .agg [.lit (.int .u8 0), .lit (.int .u8 1), .lit (.int .u8 56), .lit (.int .u8 2), .lit (.int .u8 57), .lit (.int .u8 49), .lit (.int .u8 28), .lit (.int .u8 3), .lit (.int .u8 61), .lit (.int .u8 58), .lit (.int .u8 42), .lit (.int .u8 50), .lit (.int .u8 38), .lit (.int .u8 29), .lit (.int .u8 17), .lit (.int .u8 4), .lit (.int .u8 62), .lit (.int .u8 47), .lit (.int .u8 59), .lit (.int .u8 36), .lit (.int .u8 45), .lit (.int .u8 43), .lit (.int .u8 51), .lit (.int .u8 22), .lit (.int .u8 53), .lit (.int .u8 39), .lit (.int .u8 33), .lit (.int .u8 30), .lit (.int .u8 24), .lit (.int .u8 18), .lit (.int .u8 12), .lit (.int .u8 5), .lit (.int .u8 63), .lit (.int .u8 55), .lit (.int .u8 48), .lit (.int .u8 27), .lit (.int .u8 60), .lit (.int .u8 41), .lit (.int .u8 37), .lit (.int .u8 16), .lit (.int .u8 46), .lit (.int .u8 35), .lit (.int .u8 44), .lit (.int .u8 21), .lit (.int .u8 52), .lit (.int .u8 32), .lit (.int .u8 23), .lit (.int .u8 11), .lit (.int .u8 54), .lit (.int .u8 26), .lit (.int .u8 40), .lit (.int .u8 15), .lit (.int .u8 34), .lit (.int .u8 20), .lit (.int .u8 31), .lit (.int .u8 10), .lit (.int .u8 25), .lit (.int .u8 14), .lit (.int .u8 19), .lit (.int .u8 9), .lit (.int .u8 13), .lit (.int .u8 8), .lit (.int .u8 7), .lit (.int .u8 6)]

/-- 'gantlaw1.GridBoxes': WHATEVER THE INPUT: true; the input reads as it did. -/
def gridBoxesSpec : ChangeSpec := { name := "gridBoxes", fn := fun _ => fun
  | [d] => { results := [.lit (.bool true)], args := [d] }
  | _ => none }
def gridBoxesRow : OpenClaim := { program := "ytnnffjolkgomhaadoor", sum := "7d8443571043ef4cdc1985a938ac8bf904cd9a89f6978a7da0c79f6bbd920ede", func := "gantry/gantlaw1.GridBoxes", spec := "gridBoxes", inPlace := ["math/bits.Sub64", "internal/bytealg.abigen_runtime_cmpstring"], named := ["math/bits.deBruijn64tab"], apart := false, laid := [("math/bits.deBruijn64tab", laid_math_bits_deBruijn64tab)] }
def GridBoxesSaid : Prop := gridBoxesRow.holds Tryd.pinned (OpenSpec.ofChange gridBoxesSpec)

/-- ITS FALSE NEIGHBOUR: 'it returns false'. Refute it at one input. -/
def gridBoxesWrong : ChangeSpec := { name := "gridBoxes", fn := fun _ => fun
  | [d] => { results := [.lit (.bool false)], args := [d] }
  | _ => none }
def GridBoxesWrongFalsely : Prop := gridBoxesRow.holds Tryd.pinned (OpenSpec.ofChange gridBoxesWrong)

/-- 'gantlaw3.TimingProfiles': WHATEVER THE INPUT: true; the input reads as it did. -/
def timingProfilesSpec : ChangeSpec := { name := "timingProfiles", fn := fun _ => fun
  | [d1, d2, d3, d4] => { results := [.lit (.bool true)], args := [d1, d2, d3, d4] }
  | _ => none }
def timingProfilesRow : OpenClaim := { program := "ytnnffjolkgomhaadoor", sum := "7d8443571043ef4cdc1985a938ac8bf904cd9a89f6978a7da0c79f6bbd920ede", func := "gantry/gantlaw3.TimingProfiles", spec := "timingProfiles", inPlace := ["math/bits.Sub64", "internal/bytealg.abigen_runtime_cmpstring"], named := ["math/bits.deBruijn64tab"], apart := false, laid := [("math/bits.deBruijn64tab", laid_math_bits_deBruijn64tab)] }
def TimingProfilesSaid : Prop := timingProfilesRow.holds Tryd.pinned (OpenSpec.ofChange timingProfilesSpec)

/-- ITS FALSE NEIGHBOUR: 'it returns false'. Refute it at one input. -/
def timingProfilesWrong : ChangeSpec := { name := "timingProfiles", fn := fun _ => fun
  | [d1, d2, d3, d4] => { results := [.lit (.bool false)], args := [d1, d2, d3, d4] }
  | _ => none }
def TimingProfilesWrongFalsely : Prop := timingProfilesRow.holds Tryd.pinned (OpenSpec.ofChange timingProfilesWrong)

/-- 'gantlaw3.ClearSplits': WHATEVER THE INPUT: true; the input reads as it did. -/
def clearSplitsSpec : ChangeSpec := { name := "clearSplits", fn := fun _ => fun
  | [d1, d2, d3, d4, d5] => { results := [.lit (.bool true)], args := [d1, d2, d3, d4, d5] }
  | _ => none }
def clearSplitsRow : OpenClaim := { program := "ytnnffjolkgomhaadoor", sum := "7d8443571043ef4cdc1985a938ac8bf904cd9a89f6978a7da0c79f6bbd920ede", func := "gantry/gantlaw3.ClearSplits", spec := "clearSplits", inPlace := ["math/bits.Sub64", "internal/bytealg.abigen_runtime_cmpstring"], unfollowed := true, recurses := true, named := ["math/bits.deBruijn64tab"], apart := false, laid := [("math/bits.deBruijn64tab", laid_math_bits_deBruijn64tab)] }
def ClearSplitsSaid : Prop := clearSplitsRow.holds Tryd.pinned (OpenSpec.ofChange clearSplitsSpec)

/-- ITS FALSE NEIGHBOUR: 'it returns false'. Refute it at one input. -/
def clearSplitsWrong : ChangeSpec := { name := "clearSplits", fn := fun _ => fun
  | [d1, d2, d3, d4, d5] => { results := [.lit (.bool false)], args := [d1, d2, d3, d4, d5] }
  | _ => none }
def ClearSplitsWrongFalsely : Prop := clearSplitsRow.holds Tryd.pinned (OpenSpec.ofChange clearSplitsWrong)

/-- 'gantlaw1.SweepBoxes': WHATEVER THE INPUT: true; the input reads as it did. -/
def sweepBoxesSpec : ChangeSpec := { name := "sweepBoxes", fn := fun _ => fun
  | [d1, d2, d3] => { results := [.lit (.bool true)], args := [d1, d2, d3] }
  | _ => none }
def sweepBoxesRow : OpenClaim := { program := "ytnnffjolkgomhaadoor", sum := "7d8443571043ef4cdc1985a938ac8bf904cd9a89f6978a7da0c79f6bbd920ede", func := "gantry/gantlaw1.SweepBoxes", spec := "sweepBoxes", inPlace := ["math/bits.Sub64", "internal/bytealg.abigen_runtime_cmpstring"], named := ["math/bits.deBruijn64tab"], apart := false, laid := [("math/bits.deBruijn64tab", laid_math_bits_deBruijn64tab)] }
def SweepBoxesSaid : Prop := sweepBoxesRow.holds Tryd.pinned (OpenSpec.ofChange sweepBoxesSpec)

/-- ITS FALSE NEIGHBOUR: 'it returns false'. Refute it at one input. -/
def sweepBoxesWrong : ChangeSpec := { name := "sweepBoxes", fn := fun _ => fun
  | [d1, d2, d3] => { results := [.lit (.bool false)], args := [d1, d2, d3] }
  | _ => none }
def SweepBoxesWrongFalsely : Prop := sweepBoxesRow.holds Tryd.pinned (OpenSpec.ofChange sweepBoxesWrong)

/-- 'gantlaw1.TurnTells': WHATEVER THE INPUT: true; the input reads as it did. -/
def turnTellsSpec : ChangeSpec := { name := "turnTells", fn := fun _ => fun
  | [d1, d2] => { results := [.lit (.bool true)], args := [d1, d2] }
  | _ => none }
def turnTellsRow : OpenClaim := { program := "ytnnffjolkgomhaadoor", sum := "7d8443571043ef4cdc1985a938ac8bf904cd9a89f6978a7da0c79f6bbd920ede", func := "gantry/gantlaw1.TurnTells", spec := "turnTells", inPlace := ["math/bits.Sub64", "internal/bytealg.abigen_runtime_cmpstring"], named := ["math/bits.deBruijn64tab"], apart := false, laid := [("math/bits.deBruijn64tab", laid_math_bits_deBruijn64tab)] }
def TurnTellsSaid : Prop := turnTellsRow.holds Tryd.pinned (OpenSpec.ofChange turnTellsSpec)

/-- ITS FALSE NEIGHBOUR: 'it returns false'. Refute it at one input. -/
def turnTellsWrong : ChangeSpec := { name := "turnTells", fn := fun _ => fun
  | [d1, d2] => { results := [.lit (.bool false)], args := [d1, d2] }
  | _ => none }
def TurnTellsWrongFalsely : Prop := turnTellsRow.holds Tryd.pinned (OpenSpec.ofChange turnTellsWrong)

/-- 'gantlaw1.SpanAdds': WHATEVER THE INPUT: true; the input reads as it did. -/
def spanAddsSpec : ChangeSpec := { name := "spanAdds", fn := fun _ => fun
  | [d1, d2, d3, d4] => { results := [.lit (.bool true)], args := [d1, d2, d3, d4] }
  | _ => none }
def spanAddsRow : OpenClaim := { program := "ytnnffjolkgomhaadoor", sum := "7d8443571043ef4cdc1985a938ac8bf904cd9a89f6978a7da0c79f6bbd920ede", func := "gantry/gantlaw1.SpanAdds", spec := "spanAdds", inPlace := ["math/bits.Sub64", "internal/bytealg.abigen_runtime_cmpstring"], unfollowed := true, recurses := true, named := ["math/bits.deBruijn64tab"], apart := false, laid := [("math/bits.deBruijn64tab", laid_math_bits_deBruijn64tab)] }
def SpanAddsSaid : Prop := spanAddsRow.holds Tryd.pinned (OpenSpec.ofChange spanAddsSpec)

/-- ITS FALSE NEIGHBOUR: 'it returns false'. Refute it at one input. -/
def spanAddsWrong : ChangeSpec := { name := "spanAdds", fn := fun _ => fun
  | [d1, d2, d3, d4] => { results := [.lit (.bool false)], args := [d1, d2, d3, d4] }
  | _ => none }
def SpanAddsWrongFalsely : Prop := spanAddsRow.holds Tryd.pinned (OpenSpec.ofChange spanAddsWrong)

/-- 'gantlaw1.FrameTells': WHATEVER THE INPUT: true; the input reads as it did. -/
def frameTellsSpec : ChangeSpec := { name := "frameTells", fn := fun _ => fun
  | [d1, d2, d3] => { results := [.lit (.bool true)], args := [d1, d2, d3] }
  | _ => none }
def frameTellsRow : OpenClaim := { program := "ytnnffjolkgomhaadoor", sum := "7d8443571043ef4cdc1985a938ac8bf904cd9a89f6978a7da0c79f6bbd920ede", func := "gantry/gantlaw1.FrameTells", spec := "frameTells", inPlace := ["math/bits.Sub64", "internal/bytealg.abigen_runtime_cmpstring"], named := ["math/bits.deBruijn64tab"], apart := false, laid := [("math/bits.deBruijn64tab", laid_math_bits_deBruijn64tab)] }
def FrameTellsSaid : Prop := frameTellsRow.holds Tryd.pinned (OpenSpec.ofChange frameTellsSpec)

/-- ITS FALSE NEIGHBOUR: 'it returns false'. Refute it at one input. -/
def frameTellsWrong : ChangeSpec := { name := "frameTells", fn := fun _ => fun
  | [d1, d2, d3] => { results := [.lit (.bool false)], args := [d1, d2, d3] }
  | _ => none }
def FrameTellsWrongFalsely : Prop := frameTellsRow.holds Tryd.pinned (OpenSpec.ofChange frameTellsWrong)

/-- 'gantlaw1.SpanMuls': WHATEVER THE INPUT: true; the input reads as it did. -/
def spanMulsSpec : ChangeSpec := { name := "spanMuls", fn := fun _ => fun
  | [d1, d2, d3] => { results := [.lit (.bool true)], args := [d1, d2, d3] }
  | _ => none }
def spanMulsRow : OpenClaim := { program := "ytnnffjolkgomhaadoor", sum := "7d8443571043ef4cdc1985a938ac8bf904cd9a89f6978a7da0c79f6bbd920ede", func := "gantry/gantlaw1.SpanMuls", spec := "spanMuls", inPlace := ["math/bits.Sub64", "internal/bytealg.abigen_runtime_cmpstring"], unfollowed := true, recurses := true, named := ["math/bits.deBruijn64tab"], apart := false, laid := [("math/bits.deBruijn64tab", laid_math_bits_deBruijn64tab)] }
def SpanMulsSaid : Prop := spanMulsRow.holds Tryd.pinned (OpenSpec.ofChange spanMulsSpec)

/-- ITS FALSE NEIGHBOUR: 'it returns false'. Refute it at one input. -/
def spanMulsWrong : ChangeSpec := { name := "spanMuls", fn := fun _ => fun
  | [d1, d2, d3] => { results := [.lit (.bool false)], args := [d1, d2, d3] }
  | _ => none }
def SpanMulsWrongFalsely : Prop := spanMulsRow.holds Tryd.pinned (OpenSpec.ofChange spanMulsWrong)

/-- 'gantlaw1.PolyChecks': WHATEVER THE INPUT: true; the input reads as it did. -/
def polyChecksSpec : ChangeSpec := { name := "polyChecks", fn := fun _ => fun
  | [d1, d2, d3] => { results := [.lit (.bool true)], args := [d1, d2, d3] }
  | _ => none }
def polyChecksRow : OpenClaim := { program := "ytnnffjolkgomhaadoor", sum := "7d8443571043ef4cdc1985a938ac8bf904cd9a89f6978a7da0c79f6bbd920ede", func := "gantry/gantlaw1.PolyChecks", spec := "polyChecks", inPlace := ["math/bits.Sub64", "internal/bytealg.abigen_runtime_cmpstring"], unfollowed := true, recurses := true, named := ["math/bits.deBruijn64tab"], apart := false, laid := [("math/bits.deBruijn64tab", laid_math_bits_deBruijn64tab)] }
def PolyChecksSaid : Prop := polyChecksRow.holds Tryd.pinned (OpenSpec.ofChange polyChecksSpec)

/-- ITS FALSE NEIGHBOUR: 'it returns false'. Refute it at one input. -/
def polyChecksWrong : ChangeSpec := { name := "polyChecks", fn := fun _ => fun
  | [d1, d2, d3] => { results := [.lit (.bool false)], args := [d1, d2, d3] }
  | _ => none }
def PolyChecksWrongFalsely : Prop := polyChecksRow.holds Tryd.pinned (OpenSpec.ofChange polyChecksWrong)

/-- 'gantlaw1.TurnSpans': WHATEVER THE INPUT: true; the input reads as it did. -/
def turnSpansSpec : ChangeSpec := { name := "turnSpans", fn := fun _ => fun
  | [d] => { results := [.lit (.bool true)], args := [d] }
  | _ => none }
def turnSpansRow : OpenClaim := { program := "ytnnffjolkgomhaadoor", sum := "7d8443571043ef4cdc1985a938ac8bf904cd9a89f6978a7da0c79f6bbd920ede", func := "gantry/gantlaw1.TurnSpans", spec := "turnSpans", inPlace := ["math/bits.Sub64", "internal/bytealg.abigen_runtime_cmpstring"], unfollowed := true, recurses := true, named := ["math/bits.deBruijn64tab"], apart := false, laid := [("math/bits.deBruijn64tab", laid_math_bits_deBruijn64tab)] }
def TurnSpansSaid : Prop := turnSpansRow.holds Tryd.pinned (OpenSpec.ofChange turnSpansSpec)

/-- ITS FALSE NEIGHBOUR: 'it returns false'. Refute it at one input. -/
def turnSpansWrong : ChangeSpec := { name := "turnSpans", fn := fun _ => fun
  | [d] => { results := [.lit (.bool false)], args := [d] }
  | _ => none }
def TurnSpansWrongFalsely : Prop := turnSpansRow.holds Tryd.pinned (OpenSpec.ofChange turnSpansWrong)

/-- 'gantlaw1.ApartTells': WHATEVER THE INPUT: true; the input reads as it did. -/
def apartTellsSpec : ChangeSpec := { name := "apartTells", fn := fun _ => fun
  | [d1, d2] => { results := [.lit (.bool true)], args := [d1, d2] }
  | _ => none }
def apartTellsRow : OpenClaim := { program := "ytnnffjolkgomhaadoor", sum := "7d8443571043ef4cdc1985a938ac8bf904cd9a89f6978a7da0c79f6bbd920ede", func := "gantry/gantlaw1.ApartTells", spec := "apartTells", inPlace := ["math/bits.Sub64", "internal/bytealg.abigen_runtime_cmpstring"], unfollowed := true, recurses := true, named := ["math/bits.deBruijn64tab"], apart := false, laid := [("math/bits.deBruijn64tab", laid_math_bits_deBruijn64tab)] }
def ApartTellsSaid : Prop := apartTellsRow.holds Tryd.pinned (OpenSpec.ofChange apartTellsSpec)

/-- ITS FALSE NEIGHBOUR: 'it returns false'. Refute it at one input. -/
def apartTellsWrong : ChangeSpec := { name := "apartTells", fn := fun _ => fun
  | [d1, d2] => { results := [.lit (.bool false)], args := [d1, d2] }
  | _ => none }
def ApartTellsWrongFalsely : Prop := apartTellsRow.holds Tryd.pinned (OpenSpec.ofChange apartTellsWrong)

/- THE SECOND FORM. 'bulk': how many values and letters a reading holds, each counted each time it is reached (what is shared counts as often as it is met; a slice's spare places count too). A statement '..UptoSaid' is the law's where the arguments, and the package variables that the reading takes, are together of bulk at most 1048576: NARROWER than '..Said'. Prove '..Said' where nothing that the law and all that it calls make is longer than what came in: it says more and counts as full. Else prove '..UptoSaid'. A law counts once. -/
mutual
def uptoBulk {H : Type} : DataW H → Nat
  | .lit (.string bytes) => bytes.length + 1
  | .lit _ => 1
  | .nil => 1
  | .ptr d => uptoBulk d + 1
  | .slice elems spare => uptoBulkAll elems + uptoBulkAll spare + 1
  | .agg parts => uptoBulkAll parts + 1
  | .iface _ d => uptoBulk d + 1
  | .map entries => uptoBulkEntries entries + 1
  | .held _ => 1
def uptoBulkAll {H : Type} : List (DataW H) → Nat
  | [] => 0
  | d :: r => uptoBulk d + uptoBulkAll r
def uptoBulkEntries {H : Type} : List (Lit × DataW H) → Nat
  | [] => 0
  | x :: r => uptoBulkEntry x + uptoBulkEntries r
def uptoBulkEntry {H : Type} : Lit × DataW H → Nat
  | (.string bytes, d) => bytes.length + uptoBulk d + 1
  | (_, d) => uptoBulk d + 1
 end
def uptoSmall : (H : Type) → List (DataW H) → Bool := fun _ ds => decide (uptoBulkAll ds ≤ 1048576)
def OpenSpec.upto (s : _root_.Go.ChangeSpec) : _root_.Go.OpenSpec := { _root_.Go.OpenSpec.ofChange s with cond := some uptoSmall }

/-- 'gantlaw1.GridBoxes', WHERE WHAT IT READS IS OF BULK AT MOST 1048576: true; the input reads as it did. -/
def gridBoxesUptoRow : OpenClaim := { program := "ytnnffjolkgomhaadoor", sum := "7d8443571043ef4cdc1985a938ac8bf904cd9a89f6978a7da0c79f6bbd920ede", func := "gantry/gantlaw1.GridBoxes", spec := "gridBoxes", inPlace := ["math/bits.Sub64", "internal/bytealg.abigen_runtime_cmpstring"], named := ["math/bits.deBruijn64tab"], apart := false, laid := [("math/bits.deBruijn64tab", laid_math_bits_deBruijn64tab)], narrowed := true }
def GridBoxesUptoSaid : Prop := gridBoxesUptoRow.holds Tryd.pinned (OpenSpec.upto gridBoxesSpec)

/-- 'gantlaw3.TimingProfiles', WHERE WHAT IT READS IS OF BULK AT MOST 1048576: true; the input reads as it did. -/
def timingProfilesUptoRow : OpenClaim := { program := "ytnnffjolkgomhaadoor", sum := "7d8443571043ef4cdc1985a938ac8bf904cd9a89f6978a7da0c79f6bbd920ede", func := "gantry/gantlaw3.TimingProfiles", spec := "timingProfiles", inPlace := ["math/bits.Sub64", "internal/bytealg.abigen_runtime_cmpstring"], named := ["math/bits.deBruijn64tab"], apart := false, laid := [("math/bits.deBruijn64tab", laid_math_bits_deBruijn64tab)], narrowed := true }
def TimingProfilesUptoSaid : Prop := timingProfilesUptoRow.holds Tryd.pinned (OpenSpec.upto timingProfilesSpec)

/-- 'gantlaw3.ClearSplits', WHERE WHAT IT READS IS OF BULK AT MOST 1048576: true; the input reads as it did. -/
def clearSplitsUptoRow : OpenClaim := { program := "ytnnffjolkgomhaadoor", sum := "7d8443571043ef4cdc1985a938ac8bf904cd9a89f6978a7da0c79f6bbd920ede", func := "gantry/gantlaw3.ClearSplits", spec := "clearSplits", inPlace := ["math/bits.Sub64", "internal/bytealg.abigen_runtime_cmpstring"], unfollowed := true, recurses := true, named := ["math/bits.deBruijn64tab"], apart := false, laid := [("math/bits.deBruijn64tab", laid_math_bits_deBruijn64tab)], narrowed := true }
def ClearSplitsUptoSaid : Prop := clearSplitsUptoRow.holds Tryd.pinned (OpenSpec.upto clearSplitsSpec)

/-- 'gantlaw1.SweepBoxes', WHERE WHAT IT READS IS OF BULK AT MOST 1048576: true; the input reads as it did. -/
def sweepBoxesUptoRow : OpenClaim := { program := "ytnnffjolkgomhaadoor", sum := "7d8443571043ef4cdc1985a938ac8bf904cd9a89f6978a7da0c79f6bbd920ede", func := "gantry/gantlaw1.SweepBoxes", spec := "sweepBoxes", inPlace := ["math/bits.Sub64", "internal/bytealg.abigen_runtime_cmpstring"], named := ["math/bits.deBruijn64tab"], apart := false, laid := [("math/bits.deBruijn64tab", laid_math_bits_deBruijn64tab)], narrowed := true }
def SweepBoxesUptoSaid : Prop := sweepBoxesUptoRow.holds Tryd.pinned (OpenSpec.upto sweepBoxesSpec)

/-- 'gantlaw1.TurnTells', WHERE WHAT IT READS IS OF BULK AT MOST 1048576: true; the input reads as it did. -/
def turnTellsUptoRow : OpenClaim := { program := "ytnnffjolkgomhaadoor", sum := "7d8443571043ef4cdc1985a938ac8bf904cd9a89f6978a7da0c79f6bbd920ede", func := "gantry/gantlaw1.TurnTells", spec := "turnTells", inPlace := ["math/bits.Sub64", "internal/bytealg.abigen_runtime_cmpstring"], named := ["math/bits.deBruijn64tab"], apart := false, laid := [("math/bits.deBruijn64tab", laid_math_bits_deBruijn64tab)], narrowed := true }
def TurnTellsUptoSaid : Prop := turnTellsUptoRow.holds Tryd.pinned (OpenSpec.upto turnTellsSpec)

/-- 'gantlaw1.SpanAdds', WHERE WHAT IT READS IS OF BULK AT MOST 1048576: true; the input reads as it did. -/
def spanAddsUptoRow : OpenClaim := { program := "ytnnffjolkgomhaadoor", sum := "7d8443571043ef4cdc1985a938ac8bf904cd9a89f6978a7da0c79f6bbd920ede", func := "gantry/gantlaw1.SpanAdds", spec := "spanAdds", inPlace := ["math/bits.Sub64", "internal/bytealg.abigen_runtime_cmpstring"], unfollowed := true, recurses := true, named := ["math/bits.deBruijn64tab"], apart := false, laid := [("math/bits.deBruijn64tab", laid_math_bits_deBruijn64tab)], narrowed := true }
def SpanAddsUptoSaid : Prop := spanAddsUptoRow.holds Tryd.pinned (OpenSpec.upto spanAddsSpec)

/-- 'gantlaw1.FrameTells', WHERE WHAT IT READS IS OF BULK AT MOST 1048576: true; the input reads as it did. -/
def frameTellsUptoRow : OpenClaim := { program := "ytnnffjolkgomhaadoor", sum := "7d8443571043ef4cdc1985a938ac8bf904cd9a89f6978a7da0c79f6bbd920ede", func := "gantry/gantlaw1.FrameTells", spec := "frameTells", inPlace := ["math/bits.Sub64", "internal/bytealg.abigen_runtime_cmpstring"], named := ["math/bits.deBruijn64tab"], apart := false, laid := [("math/bits.deBruijn64tab", laid_math_bits_deBruijn64tab)], narrowed := true }
def FrameTellsUptoSaid : Prop := frameTellsUptoRow.holds Tryd.pinned (OpenSpec.upto frameTellsSpec)

/-- 'gantlaw1.SpanMuls', WHERE WHAT IT READS IS OF BULK AT MOST 1048576: true; the input reads as it did. -/
def spanMulsUptoRow : OpenClaim := { program := "ytnnffjolkgomhaadoor", sum := "7d8443571043ef4cdc1985a938ac8bf904cd9a89f6978a7da0c79f6bbd920ede", func := "gantry/gantlaw1.SpanMuls", spec := "spanMuls", inPlace := ["math/bits.Sub64", "internal/bytealg.abigen_runtime_cmpstring"], unfollowed := true, recurses := true, named := ["math/bits.deBruijn64tab"], apart := false, laid := [("math/bits.deBruijn64tab", laid_math_bits_deBruijn64tab)], narrowed := true }
def SpanMulsUptoSaid : Prop := spanMulsUptoRow.holds Tryd.pinned (OpenSpec.upto spanMulsSpec)

/-- 'gantlaw1.PolyChecks', WHERE WHAT IT READS IS OF BULK AT MOST 1048576: true; the input reads as it did. -/
def polyChecksUptoRow : OpenClaim := { program := "ytnnffjolkgomhaadoor", sum := "7d8443571043ef4cdc1985a938ac8bf904cd9a89f6978a7da0c79f6bbd920ede", func := "gantry/gantlaw1.PolyChecks", spec := "polyChecks", inPlace := ["math/bits.Sub64", "internal/bytealg.abigen_runtime_cmpstring"], unfollowed := true, recurses := true, named := ["math/bits.deBruijn64tab"], apart := false, laid := [("math/bits.deBruijn64tab", laid_math_bits_deBruijn64tab)], narrowed := true }
def PolyChecksUptoSaid : Prop := polyChecksUptoRow.holds Tryd.pinned (OpenSpec.upto polyChecksSpec)

/-- 'gantlaw1.TurnSpans', WHERE WHAT IT READS IS OF BULK AT MOST 1048576: true; the input reads as it did. -/
def turnSpansUptoRow : OpenClaim := { program := "ytnnffjolkgomhaadoor", sum := "7d8443571043ef4cdc1985a938ac8bf904cd9a89f6978a7da0c79f6bbd920ede", func := "gantry/gantlaw1.TurnSpans", spec := "turnSpans", inPlace := ["math/bits.Sub64", "internal/bytealg.abigen_runtime_cmpstring"], unfollowed := true, recurses := true, named := ["math/bits.deBruijn64tab"], apart := false, laid := [("math/bits.deBruijn64tab", laid_math_bits_deBruijn64tab)], narrowed := true }
def TurnSpansUptoSaid : Prop := turnSpansUptoRow.holds Tryd.pinned (OpenSpec.upto turnSpansSpec)

/-- 'gantlaw1.ApartTells', WHERE WHAT IT READS IS OF BULK AT MOST 1048576: true; the input reads as it did. -/
def apartTellsUptoRow : OpenClaim := { program := "ytnnffjolkgomhaadoor", sum := "7d8443571043ef4cdc1985a938ac8bf904cd9a89f6978a7da0c79f6bbd920ede", func := "gantry/gantlaw1.ApartTells", spec := "apartTells", inPlace := ["math/bits.Sub64", "internal/bytealg.abigen_runtime_cmpstring"], unfollowed := true, recurses := true, named := ["math/bits.deBruijn64tab"], apart := false, laid := [("math/bits.deBruijn64tab", laid_math_bits_deBruijn64tab)], narrowed := true }
def ApartTellsUptoSaid : Prop := apartTellsUptoRow.holds Tryd.pinned (OpenSpec.upto apartTellsSpec)

end Rows
end Go.Proofs.YtnnffjolkgomhaaDoor
