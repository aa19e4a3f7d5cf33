/-
  NARROWER THAN 'FOR EVERY INPUT', by the rows' own cells (each row's printed sentence says how): ScalarDecodes: laid · ScalarAt: laid · ScalarEncodes: laid · ScalarValues: laid · ScalarBack: laid · ScalarCleans: laid · ScalarTwo: laid · ScalarUnits: laid · ScalarFeeds: laid · ScalarUnitFeeds: laid · ScalarMemory: laid · ScalarUnit: laid · ScalarPlaces: laid · ScalarCompares: laid.
  DERIVED. THE GIVEN ROWS OF THIS SEAT. 14 by the template 'for every input the law returns true; each argument reads behind the call as it read before'; 0 by the template 'total and deterministic' (their statements: YtgippjhkimohlaaDoorTotals.lean).
  GIVEN WITH THE SEED: the statements are not yours to turn. If you find one false, say at which input.
  Laid BY PROGRAM, IN A SANDBOX (cutbox-rows.mjs): the forced cells as the released guide's own fill.sh prints them over the translation ac33e2a5986eb05d… (all of the seat's roots in one cut). By AI agents, Wed Nov 11 2026. No macro, syntax, notation, axiom, sorry.
-/
import Derived.Test.YtgippjhkimohlaaDoorChecked
import GoSem.PinnedTables
import GoSem.Claim
import GoSem.ClaimJoined
import GoSem.ClaimMapViews
import Derived.JoinedTies
import Derived.KernelRfl
namespace Go.Proofs.YtgippjhkimohlaaDoor
/- THE CELL 'sum', in the pinned program and in every row, IS THE sha256 OF THE DUMP (.gsa) THAT YtgippjhkimohlaaDoorProg.lean LOADS. Nothing in Lean hashes anything: it is a label: what it is worth is what the hold of that sum in a sandbox is worth. -/
noncomputable def Tryd.pinned : Pinned := { name := "ytgippjhkimohlaadoor", sum := "ac33e2a5986eb05d3b8357b225a1907f083e7b25e9118b7b0429e5fb12e311bb", checked := Tryd.checked }
namespace Rows
def none {H : Type} : Left H := { results := [], args := [] }

/- WHAT THE LISTED PACKAGE-LEVEL VARIABLES READ AS WHEN THE CALL BEGINS. Each datum BY PROGRAM (the guide's laid-datum.mjs) off the statement by which the dump's own 'gosem.cut.vars' lays the variable. In a bare row this is a premise. The card (YtgippjhkimohlaaDoorCards.lean) ties it to the program's text. -/
def laid_unicode_utf8_acceptRanges {H : Type} : DataW H := .agg [.agg [.lit (.int .u8 128), .lit (.int .u8 191)], .agg [.lit (.int .u8 160), .lit (.int .u8 191)], .agg [.lit (.int .u8 128), .lit (.int .u8 159)], .agg [.lit (.int .u8 144), .lit (.int .u8 191)], .agg [.lit (.int .u8 128), .lit (.int .u8 143)], .agg [.lit (.int .u8 0), .lit (.int .u8 0)], .agg [.lit (.int .u8 0), .lit (.int .u8 0)], .agg [.lit (.int .u8 0), .lit (.int .u8 0)], .agg [.lit (.int .u8 0), .lit (.int .u8 0)], .agg [.lit (.int .u8 0), .lit (.int .u8 0)], .agg [.lit (.int .u8 0), .lit (.int .u8 0)], .agg [.lit (.int .u8 0), .lit (.int .u8 0)], .agg [.lit (.int .u8 0), .lit (.int .u8 0)], .agg [.lit (.int .u8 0), .lit (.int .u8 0)], .agg [.lit (.int .u8 0), .lit (.int .u8 0)], .agg [.lit (.int .u8 0), .lit (.int .u8 0)]]
/-- One of Go's own tables, pinned by name: the form's constant. -/
def laid_unicode_utf8_first : DataW Unit := Go.Pinned.utf8First

/-- 'posternlaw02.ScalarDecodes': WHATEVER THE INPUT: true; the input reads as it did. -/
def scalarDecodesSpec : ChangeSpec := { name := "scalarDecodes", fn := fun _ => fun
  | [d] => { results := [.lit (.bool true)], args := [d] }
  | _ => none }
def scalarDecodesRow : OpenClaim := { program := "ytgippjhkimohlaadoor", sum := "ac33e2a5986eb05d3b8357b225a1907f083e7b25e9118b7b0429e5fb12e311bb", func := "postern/posternlaw02.ScalarDecodes", spec := "scalarDecodes", inPlace := ["internal/abi.NoEscape"], named := ["unicode/utf8.first", "unicode/utf8.acceptRanges"], apart := false, laid := [("unicode/utf8.acceptRanges", laid_unicode_utf8_acceptRanges), ("unicode/utf8.first", laid_unicode_utf8_first)] }
def ScalarDecodesSaid : Prop := scalarDecodesRow.holds Tryd.pinned (OpenSpec.ofChange scalarDecodesSpec)

/-- ITS FALSE NEIGHBOUR: 'it returns false'. Refute it at one input. -/
def scalarDecodesWrong : ChangeSpec := { name := "scalarDecodes", fn := fun _ => fun
  | [d] => { results := [.lit (.bool false)], args := [d] }
  | _ => none }
def ScalarDecodesWrongFalsely : Prop := scalarDecodesRow.holds Tryd.pinned (OpenSpec.ofChange scalarDecodesWrong)

/-- 'posternlaw02.ScalarAt': WHATEVER THE INPUT: true; the input reads as it did. -/
def scalarAtSpec : ChangeSpec := { name := "scalarAt", fn := fun _ => fun
  | [d1, d2] => { results := [.lit (.bool true)], args := [d1, d2] }
  | _ => none }
def scalarAtRow : OpenClaim := { program := "ytgippjhkimohlaadoor", sum := "ac33e2a5986eb05d3b8357b225a1907f083e7b25e9118b7b0429e5fb12e311bb", func := "postern/posternlaw02.ScalarAt", spec := "scalarAt", inPlace := ["internal/abi.NoEscape"], named := ["unicode/utf8.first", "unicode/utf8.acceptRanges"], apart := false, laid := [("unicode/utf8.acceptRanges", laid_unicode_utf8_acceptRanges), ("unicode/utf8.first", laid_unicode_utf8_first)] }
def ScalarAtSaid : Prop := scalarAtRow.holds Tryd.pinned (OpenSpec.ofChange scalarAtSpec)

/-- ITS FALSE NEIGHBOUR: 'it returns false'. Refute it at one input. -/
def scalarAtWrong : ChangeSpec := { name := "scalarAt", fn := fun _ => fun
  | [d1, d2] => { results := [.lit (.bool false)], args := [d1, d2] }
  | _ => none }
def ScalarAtWrongFalsely : Prop := scalarAtRow.holds Tryd.pinned (OpenSpec.ofChange scalarAtWrong)

/-- 'posternlaw02.ScalarEncodes': WHATEVER THE INPUT: true; the input reads as it did. -/
def scalarEncodesSpec : ChangeSpec := { name := "scalarEncodes", fn := fun _ => fun
  | [d] => { results := [.lit (.bool true)], args := [d] }
  | _ => none }
def scalarEncodesRow : OpenClaim := { program := "ytgippjhkimohlaadoor", sum := "ac33e2a5986eb05d3b8357b225a1907f083e7b25e9118b7b0429e5fb12e311bb", func := "postern/posternlaw02.ScalarEncodes", spec := "scalarEncodes", inPlace := ["internal/abi.NoEscape"], named := ["unicode/utf8.first", "unicode/utf8.acceptRanges"], apart := false, laid := [("unicode/utf8.acceptRanges", laid_unicode_utf8_acceptRanges), ("unicode/utf8.first", laid_unicode_utf8_first)] }
def ScalarEncodesSaid : Prop := scalarEncodesRow.holds Tryd.pinned (OpenSpec.ofChange scalarEncodesSpec)

/-- ITS FALSE NEIGHBOUR: 'it returns false'. Refute it at one input. -/
def scalarEncodesWrong : ChangeSpec := { name := "scalarEncodes", fn := fun _ => fun
  | [d] => { results := [.lit (.bool false)], args := [d] }
  | _ => none }
def ScalarEncodesWrongFalsely : Prop := scalarEncodesRow.holds Tryd.pinned (OpenSpec.ofChange scalarEncodesWrong)

/-- 'posternlaw02.ScalarValues': WHATEVER THE INPUT: true; the input reads as it did. -/
def scalarValuesSpec : ChangeSpec := { name := "scalarValues", fn := fun _ => fun
  | [d] => { results := [.lit (.bool true)], args := [d] }
  | _ => none }
def scalarValuesRow : OpenClaim := { program := "ytgippjhkimohlaadoor", sum := "ac33e2a5986eb05d3b8357b225a1907f083e7b25e9118b7b0429e5fb12e311bb", func := "postern/posternlaw02.ScalarValues", spec := "scalarValues", inPlace := ["internal/abi.NoEscape"], named := ["unicode/utf8.first", "unicode/utf8.acceptRanges"], apart := false, laid := [("unicode/utf8.acceptRanges", laid_unicode_utf8_acceptRanges), ("unicode/utf8.first", laid_unicode_utf8_first)] }
def ScalarValuesSaid : Prop := scalarValuesRow.holds Tryd.pinned (OpenSpec.ofChange scalarValuesSpec)

/-- ITS FALSE NEIGHBOUR: 'it returns false'. Refute it at one input. -/
def scalarValuesWrong : ChangeSpec := { name := "scalarValues", fn := fun _ => fun
  | [d] => { results := [.lit (.bool false)], args := [d] }
  | _ => none }
def ScalarValuesWrongFalsely : Prop := scalarValuesRow.holds Tryd.pinned (OpenSpec.ofChange scalarValuesWrong)

/-- 'posternlaw02.ScalarBack': WHATEVER THE INPUT: true; the input reads as it did. -/
def scalarBackSpec : ChangeSpec := { name := "scalarBack", fn := fun _ => fun
  | [d] => { results := [.lit (.bool true)], args := [d] }
  | _ => none }
def scalarBackRow : OpenClaim := { program := "ytgippjhkimohlaadoor", sum := "ac33e2a5986eb05d3b8357b225a1907f083e7b25e9118b7b0429e5fb12e311bb", func := "postern/posternlaw02.ScalarBack", spec := "scalarBack", inPlace := ["internal/abi.NoEscape"], named := ["unicode/utf8.first", "unicode/utf8.acceptRanges"], apart := false, laid := [("unicode/utf8.acceptRanges", laid_unicode_utf8_acceptRanges), ("unicode/utf8.first", laid_unicode_utf8_first)] }
def ScalarBackSaid : Prop := scalarBackRow.holds Tryd.pinned (OpenSpec.ofChange scalarBackSpec)

/-- ITS FALSE NEIGHBOUR: 'it returns false'. Refute it at one input. -/
def scalarBackWrong : ChangeSpec := { name := "scalarBack", fn := fun _ => fun
  | [d] => { results := [.lit (.bool false)], args := [d] }
  | _ => none }
def ScalarBackWrongFalsely : Prop := scalarBackRow.holds Tryd.pinned (OpenSpec.ofChange scalarBackWrong)

/-- 'posternlaw02.ScalarCleans': WHATEVER THE INPUT: true; the input reads as it did. -/
def scalarCleansSpec : ChangeSpec := { name := "scalarCleans", fn := fun _ => fun
  | [d1, d2] => { results := [.lit (.bool true)], args := [d1, d2] }
  | _ => none }
def scalarCleansRow : OpenClaim := { program := "ytgippjhkimohlaadoor", sum := "ac33e2a5986eb05d3b8357b225a1907f083e7b25e9118b7b0429e5fb12e311bb", func := "postern/posternlaw02.ScalarCleans", spec := "scalarCleans", inPlace := ["internal/abi.NoEscape"], named := ["unicode/utf8.first", "unicode/utf8.acceptRanges"], apart := false, laid := [("unicode/utf8.acceptRanges", laid_unicode_utf8_acceptRanges), ("unicode/utf8.first", laid_unicode_utf8_first)] }
def ScalarCleansSaid : Prop := scalarCleansRow.holds Tryd.pinned (OpenSpec.ofChange scalarCleansSpec)

/-- ITS FALSE NEIGHBOUR: 'it returns false'. Refute it at one input. -/
def scalarCleansWrong : ChangeSpec := { name := "scalarCleans", fn := fun _ => fun
  | [d1, d2] => { results := [.lit (.bool false)], args := [d1, d2] }
  | _ => none }
def ScalarCleansWrongFalsely : Prop := scalarCleansRow.holds Tryd.pinned (OpenSpec.ofChange scalarCleansWrong)

/-- 'posternlaw02.ScalarTwo': WHATEVER THE INPUT: true; the input reads as it did. -/
def scalarTwoSpec : ChangeSpec := { name := "scalarTwo", fn := fun _ => fun
  | [d1, d2] => { results := [.lit (.bool true)], args := [d1, d2] }
  | _ => none }
def scalarTwoRow : OpenClaim := { program := "ytgippjhkimohlaadoor", sum := "ac33e2a5986eb05d3b8357b225a1907f083e7b25e9118b7b0429e5fb12e311bb", func := "postern/posternlaw02.ScalarTwo", spec := "scalarTwo", inPlace := ["internal/abi.NoEscape"], named := ["unicode/utf8.first", "unicode/utf8.acceptRanges"], apart := false, laid := [("unicode/utf8.acceptRanges", laid_unicode_utf8_acceptRanges), ("unicode/utf8.first", laid_unicode_utf8_first)] }
def ScalarTwoSaid : Prop := scalarTwoRow.holds Tryd.pinned (OpenSpec.ofChange scalarTwoSpec)

/-- ITS FALSE NEIGHBOUR: 'it returns false'. Refute it at one input. -/
def scalarTwoWrong : ChangeSpec := { name := "scalarTwo", fn := fun _ => fun
  | [d1, d2] => { results := [.lit (.bool false)], args := [d1, d2] }
  | _ => none }
def ScalarTwoWrongFalsely : Prop := scalarTwoRow.holds Tryd.pinned (OpenSpec.ofChange scalarTwoWrong)

/-- 'posternlaw02.ScalarUnits': WHATEVER THE INPUT: true; the input reads as it did. -/
def scalarUnitsSpec : ChangeSpec := { name := "scalarUnits", fn := fun _ => fun
  | [d] => { results := [.lit (.bool true)], args := [d] }
  | _ => none }
def scalarUnitsRow : OpenClaim := { program := "ytgippjhkimohlaadoor", sum := "ac33e2a5986eb05d3b8357b225a1907f083e7b25e9118b7b0429e5fb12e311bb", func := "postern/posternlaw02.ScalarUnits", spec := "scalarUnits", inPlace := ["internal/abi.NoEscape"], named := ["unicode/utf8.first", "unicode/utf8.acceptRanges"], apart := false, laid := [("unicode/utf8.acceptRanges", laid_unicode_utf8_acceptRanges), ("unicode/utf8.first", laid_unicode_utf8_first)] }
def ScalarUnitsSaid : Prop := scalarUnitsRow.holds Tryd.pinned (OpenSpec.ofChange scalarUnitsSpec)

/-- ITS FALSE NEIGHBOUR: 'it returns false'. Refute it at one input. -/
def scalarUnitsWrong : ChangeSpec := { name := "scalarUnits", fn := fun _ => fun
  | [d] => { results := [.lit (.bool false)], args := [d] }
  | _ => none }
def ScalarUnitsWrongFalsely : Prop := scalarUnitsRow.holds Tryd.pinned (OpenSpec.ofChange scalarUnitsWrong)

/-- 'posternlaw02.ScalarFeeds': WHATEVER THE INPUT: true; the input reads as it did. -/
def scalarFeedsSpec : ChangeSpec := { name := "scalarFeeds", fn := fun _ => fun
  | [d1, d2] => { results := [.lit (.bool true)], args := [d1, d2] }
  | _ => none }
def scalarFeedsRow : OpenClaim := { program := "ytgippjhkimohlaadoor", sum := "ac33e2a5986eb05d3b8357b225a1907f083e7b25e9118b7b0429e5fb12e311bb", func := "postern/posternlaw02.ScalarFeeds", spec := "scalarFeeds", inPlace := ["internal/abi.NoEscape"], named := ["unicode/utf8.first", "unicode/utf8.acceptRanges"], apart := false, laid := [("unicode/utf8.acceptRanges", laid_unicode_utf8_acceptRanges), ("unicode/utf8.first", laid_unicode_utf8_first)] }
def ScalarFeedsSaid : Prop := scalarFeedsRow.holds Tryd.pinned (OpenSpec.ofChange scalarFeedsSpec)

/-- ITS FALSE NEIGHBOUR: 'it returns false'. Refute it at one input. -/
def scalarFeedsWrong : ChangeSpec := { name := "scalarFeeds", fn := fun _ => fun
  | [d1, d2] => { results := [.lit (.bool false)], args := [d1, d2] }
  | _ => none }
def ScalarFeedsWrongFalsely : Prop := scalarFeedsRow.holds Tryd.pinned (OpenSpec.ofChange scalarFeedsWrong)

/-- 'posternlaw02.ScalarUnitFeeds': WHATEVER THE INPUT: true; the input reads as it did. -/
def scalarUnitFeedsSpec : ChangeSpec := { name := "scalarUnitFeeds", fn := fun _ => fun
  | [d1, d2] => { results := [.lit (.bool true)], args := [d1, d2] }
  | _ => none }
def scalarUnitFeedsRow : OpenClaim := { program := "ytgippjhkimohlaadoor", sum := "ac33e2a5986eb05d3b8357b225a1907f083e7b25e9118b7b0429e5fb12e311bb", func := "postern/posternlaw02.ScalarUnitFeeds", spec := "scalarUnitFeeds", inPlace := ["internal/abi.NoEscape"], named := ["unicode/utf8.first", "unicode/utf8.acceptRanges"], apart := false, laid := [("unicode/utf8.acceptRanges", laid_unicode_utf8_acceptRanges), ("unicode/utf8.first", laid_unicode_utf8_first)] }
def ScalarUnitFeedsSaid : Prop := scalarUnitFeedsRow.holds Tryd.pinned (OpenSpec.ofChange scalarUnitFeedsSpec)

/-- ITS FALSE NEIGHBOUR: 'it returns false'. Refute it at one input. -/
def scalarUnitFeedsWrong : ChangeSpec := { name := "scalarUnitFeeds", fn := fun _ => fun
  | [d1, d2] => { results := [.lit (.bool false)], args := [d1, d2] }
  | _ => none }
def ScalarUnitFeedsWrongFalsely : Prop := scalarUnitFeedsRow.holds Tryd.pinned (OpenSpec.ofChange scalarUnitFeedsWrong)

/-- 'posternlaw02.ScalarMemory': WHATEVER THE INPUT: true; the input reads as it did. -/
def scalarMemorySpec : ChangeSpec := { name := "scalarMemory", fn := fun _ => fun
  | [d] => { results := [.lit (.bool true)], args := [d] }
  | _ => none }
def scalarMemoryRow : OpenClaim := { program := "ytgippjhkimohlaadoor", sum := "ac33e2a5986eb05d3b8357b225a1907f083e7b25e9118b7b0429e5fb12e311bb", func := "postern/posternlaw02.ScalarMemory", spec := "scalarMemory", inPlace := ["internal/abi.NoEscape"], named := ["unicode/utf8.first", "unicode/utf8.acceptRanges"], apart := false, laid := [("unicode/utf8.acceptRanges", laid_unicode_utf8_acceptRanges), ("unicode/utf8.first", laid_unicode_utf8_first)] }
def ScalarMemorySaid : Prop := scalarMemoryRow.holds Tryd.pinned (OpenSpec.ofChange scalarMemorySpec)

/-- ITS FALSE NEIGHBOUR: 'it returns false'. Refute it at one input. -/
def scalarMemoryWrong : ChangeSpec := { name := "scalarMemory", fn := fun _ => fun
  | [d] => { results := [.lit (.bool false)], args := [d] }
  | _ => none }
def ScalarMemoryWrongFalsely : Prop := scalarMemoryRow.holds Tryd.pinned (OpenSpec.ofChange scalarMemoryWrong)

/-- 'posternlaw02.ScalarUnit': WHATEVER THE INPUT: true; the input reads as it did. -/
def scalarUnitSpec : ChangeSpec := { name := "scalarUnit", fn := fun _ => fun
  | [d] => { results := [.lit (.bool true)], args := [d] }
  | _ => none }
def scalarUnitRow : OpenClaim := { program := "ytgippjhkimohlaadoor", sum := "ac33e2a5986eb05d3b8357b225a1907f083e7b25e9118b7b0429e5fb12e311bb", func := "postern/posternlaw02.ScalarUnit", spec := "scalarUnit", inPlace := ["internal/abi.NoEscape"], named := ["unicode/utf8.first", "unicode/utf8.acceptRanges"], apart := false, laid := [("unicode/utf8.acceptRanges", laid_unicode_utf8_acceptRanges), ("unicode/utf8.first", laid_unicode_utf8_first)] }
def ScalarUnitSaid : Prop := scalarUnitRow.holds Tryd.pinned (OpenSpec.ofChange scalarUnitSpec)

/-- ITS FALSE NEIGHBOUR: 'it returns false'. Refute it at one input. -/
def scalarUnitWrong : ChangeSpec := { name := "scalarUnit", fn := fun _ => fun
  | [d] => { results := [.lit (.bool false)], args := [d] }
  | _ => none }
def ScalarUnitWrongFalsely : Prop := scalarUnitRow.holds Tryd.pinned (OpenSpec.ofChange scalarUnitWrong)

/-- 'posternlaw02.ScalarPlaces': WHATEVER THE INPUT: true; the input reads as it did. -/
def scalarPlacesSpec : ChangeSpec := { name := "scalarPlaces", fn := fun _ => fun
  | [d1, d2, d3] => { results := [.lit (.bool true)], args := [d1, d2, d3] }
  | _ => none }
def scalarPlacesRow : OpenClaim := { program := "ytgippjhkimohlaadoor", sum := "ac33e2a5986eb05d3b8357b225a1907f083e7b25e9118b7b0429e5fb12e311bb", func := "postern/posternlaw02.ScalarPlaces", spec := "scalarPlaces", inPlace := ["internal/abi.NoEscape"], named := ["unicode/utf8.first", "unicode/utf8.acceptRanges"], apart := false, laid := [("unicode/utf8.acceptRanges", laid_unicode_utf8_acceptRanges), ("unicode/utf8.first", laid_unicode_utf8_first)] }
def ScalarPlacesSaid : Prop := scalarPlacesRow.holds Tryd.pinned (OpenSpec.ofChange scalarPlacesSpec)

/-- ITS FALSE NEIGHBOUR: 'it returns false'. Refute it at one input. -/
def scalarPlacesWrong : ChangeSpec := { name := "scalarPlaces", fn := fun _ => fun
  | [d1, d2, d3] => { results := [.lit (.bool false)], args := [d1, d2, d3] }
  | _ => none }
def ScalarPlacesWrongFalsely : Prop := scalarPlacesRow.holds Tryd.pinned (OpenSpec.ofChange scalarPlacesWrong)

/-- 'posternlaw02.ScalarCompares': WHATEVER THE INPUT: true; the input reads as it did. -/
def scalarComparesSpec : ChangeSpec := { name := "scalarCompares", fn := fun _ => fun
  | [d1, d2, d3] => { results := [.lit (.bool true)], args := [d1, d2, d3] }
  | _ => none }
def scalarComparesRow : OpenClaim := { program := "ytgippjhkimohlaadoor", sum := "ac33e2a5986eb05d3b8357b225a1907f083e7b25e9118b7b0429e5fb12e311bb", func := "postern/posternlaw02.ScalarCompares", spec := "scalarCompares", inPlace := ["internal/abi.NoEscape"], named := ["unicode/utf8.first", "unicode/utf8.acceptRanges"], apart := false, laid := [("unicode/utf8.acceptRanges", laid_unicode_utf8_acceptRanges), ("unicode/utf8.first", laid_unicode_utf8_first)] }
def ScalarComparesSaid : Prop := scalarComparesRow.holds Tryd.pinned (OpenSpec.ofChange scalarComparesSpec)

/-- ITS FALSE NEIGHBOUR: 'it returns false'. Refute it at one input. -/
def scalarComparesWrong : ChangeSpec := { name := "scalarCompares", fn := fun _ => fun
  | [d1, d2, d3] => { results := [.lit (.bool false)], args := [d1, d2, d3] }
  | _ => none }
def ScalarComparesWrongFalsely : Prop := scalarComparesRow.holds Tryd.pinned (OpenSpec.ofChange scalarComparesWrong)

/- THE SECOND FORM. 'bulk': how many values and letters a reading holds, each counted each time it is reached (what is shared counts as often as it is met; a slice's spare places count too). A statement '..UptoSaid' is the law's where the arguments, and the package variables that the reading takes, are together of bulk at most 1048576: NARROWER than '..Said'. Prove '..Said' where nothing that the law and all that it calls make is longer than what came in: it says more and counts as full. Else prove '..UptoSaid'. A law counts once. -/
mutual
def uptoBulk {H : Type} : DataW H → Nat
  | .lit (.string bytes) => bytes.length + 1
  | .lit _ => 1
  | .nil => 1
  | .ptr d => uptoBulk d + 1
  | .slice elems spare => uptoBulkAll elems + uptoBulkAll spare + 1
  | .agg parts => uptoBulkAll parts + 1
  | .iface _ d => uptoBulk d + 1
  | .map entries => uptoBulkEntries entries + 1
  | .held _ => 1
def uptoBulkAll {H : Type} : List (DataW H) → Nat
  | [] => 0
  | d :: r => uptoBulk d + uptoBulkAll r
def uptoBulkEntries {H : Type} : List (Lit × DataW H) → Nat
  | [] => 0
  | x :: r => uptoBulkEntry x + uptoBulkEntries r
def uptoBulkEntry {H : Type} : Lit × DataW H → Nat
  | (.string bytes, d) => bytes.length + uptoBulk d + 1
  | (_, d) => uptoBulk d + 1
 end
def uptoSmall : (H : Type) → List (DataW H) → Bool := fun _ ds => decide (uptoBulkAll ds ≤ 1048576)
def OpenSpec.upto (s : _root_.Go.ChangeSpec) : _root_.Go.OpenSpec := { _root_.Go.OpenSpec.ofChange s with cond := some uptoSmall }

/-- 'posternlaw02.ScalarDecodes', WHERE WHAT IT READS IS OF BULK AT MOST 1048576: true; the input reads as it did. -/
def scalarDecodesUptoRow : OpenClaim := { program := "ytgippjhkimohlaadoor", sum := "ac33e2a5986eb05d3b8357b225a1907f083e7b25e9118b7b0429e5fb12e311bb", func := "postern/posternlaw02.ScalarDecodes", spec := "scalarDecodes", inPlace := ["internal/abi.NoEscape"], named := ["unicode/utf8.first", "unicode/utf8.acceptRanges"], apart := false, laid := [("unicode/utf8.acceptRanges", laid_unicode_utf8_acceptRanges), ("unicode/utf8.first", laid_unicode_utf8_first)], narrowed := true }
def ScalarDecodesUptoSaid : Prop := scalarDecodesUptoRow.holds Tryd.pinned (OpenSpec.upto scalarDecodesSpec)

/-- 'posternlaw02.ScalarAt', WHERE WHAT IT READS IS OF BULK AT MOST 1048576: true; the input reads as it did. -/
def scalarAtUptoRow : OpenClaim := { program := "ytgippjhkimohlaadoor", sum := "ac33e2a5986eb05d3b8357b225a1907f083e7b25e9118b7b0429e5fb12e311bb", func := "postern/posternlaw02.ScalarAt", spec := "scalarAt", inPlace := ["internal/abi.NoEscape"], named := ["unicode/utf8.first", "unicode/utf8.acceptRanges"], apart := false, laid := [("unicode/utf8.acceptRanges", laid_unicode_utf8_acceptRanges), ("unicode/utf8.first", laid_unicode_utf8_first)], narrowed := true }
def ScalarAtUptoSaid : Prop := scalarAtUptoRow.holds Tryd.pinned (OpenSpec.upto scalarAtSpec)

/-- 'posternlaw02.ScalarEncodes', WHERE WHAT IT READS IS OF BULK AT MOST 1048576: true; the input reads as it did. -/
def scalarEncodesUptoRow : OpenClaim := { program := "ytgippjhkimohlaadoor", sum := "ac33e2a5986eb05d3b8357b225a1907f083e7b25e9118b7b0429e5fb12e311bb", func := "postern/posternlaw02.ScalarEncodes", spec := "scalarEncodes", inPlace := ["internal/abi.NoEscape"], named := ["unicode/utf8.first", "unicode/utf8.acceptRanges"], apart := false, laid := [("unicode/utf8.acceptRanges", laid_unicode_utf8_acceptRanges), ("unicode/utf8.first", laid_unicode_utf8_first)], narrowed := true }
def ScalarEncodesUptoSaid : Prop := scalarEncodesUptoRow.holds Tryd.pinned (OpenSpec.upto scalarEncodesSpec)

/-- 'posternlaw02.ScalarValues', WHERE WHAT IT READS IS OF BULK AT MOST 1048576: true; the input reads as it did. -/
def scalarValuesUptoRow : OpenClaim := { program := "ytgippjhkimohlaadoor", sum := "ac33e2a5986eb05d3b8357b225a1907f083e7b25e9118b7b0429e5fb12e311bb", func := "postern/posternlaw02.ScalarValues", spec := "scalarValues", inPlace := ["internal/abi.NoEscape"], named := ["unicode/utf8.first", "unicode/utf8.acceptRanges"], apart := false, laid := [("unicode/utf8.acceptRanges", laid_unicode_utf8_acceptRanges), ("unicode/utf8.first", laid_unicode_utf8_first)], narrowed := true }
def ScalarValuesUptoSaid : Prop := scalarValuesUptoRow.holds Tryd.pinned (OpenSpec.upto scalarValuesSpec)

/-- 'posternlaw02.ScalarBack', WHERE WHAT IT READS IS OF BULK AT MOST 1048576: true; the input reads as it did. -/
def scalarBackUptoRow : OpenClaim := { program := "ytgippjhkimohlaadoor", sum := "ac33e2a5986eb05d3b8357b225a1907f083e7b25e9118b7b0429e5fb12e311bb", func := "postern/posternlaw02.ScalarBack", spec := "scalarBack", inPlace := ["internal/abi.NoEscape"], named := ["unicode/utf8.first", "unicode/utf8.acceptRanges"], apart := false, laid := [("unicode/utf8.acceptRanges", laid_unicode_utf8_acceptRanges), ("unicode/utf8.first", laid_unicode_utf8_first)], narrowed := true }
def ScalarBackUptoSaid : Prop := scalarBackUptoRow.holds Tryd.pinned (OpenSpec.upto scalarBackSpec)

/-- 'posternlaw02.ScalarCleans', WHERE WHAT IT READS IS OF BULK AT MOST 1048576: true; the input reads as it did. -/
def scalarCleansUptoRow : OpenClaim := { program := "ytgippjhkimohlaadoor", sum := "ac33e2a5986eb05d3b8357b225a1907f083e7b25e9118b7b0429e5fb12e311bb", func := "postern/posternlaw02.ScalarCleans", spec := "scalarCleans", inPlace := ["internal/abi.NoEscape"], named := ["unicode/utf8.first", "unicode/utf8.acceptRanges"], apart := false, laid := [("unicode/utf8.acceptRanges", laid_unicode_utf8_acceptRanges), ("unicode/utf8.first", laid_unicode_utf8_first)], narrowed := true }
def ScalarCleansUptoSaid : Prop := scalarCleansUptoRow.holds Tryd.pinned (OpenSpec.upto scalarCleansSpec)

/-- 'posternlaw02.ScalarTwo', WHERE WHAT IT READS IS OF BULK AT MOST 1048576: true; the input reads as it did. -/
def scalarTwoUptoRow : OpenClaim := { program := "ytgippjhkimohlaadoor", sum := "ac33e2a5986eb05d3b8357b225a1907f083e7b25e9118b7b0429e5fb12e311bb", func := "postern/posternlaw02.ScalarTwo", spec := "scalarTwo", inPlace := ["internal/abi.NoEscape"], named := ["unicode/utf8.first", "unicode/utf8.acceptRanges"], apart := false, laid := [("unicode/utf8.acceptRanges", laid_unicode_utf8_acceptRanges), ("unicode/utf8.first", laid_unicode_utf8_first)], narrowed := true }
def ScalarTwoUptoSaid : Prop := scalarTwoUptoRow.holds Tryd.pinned (OpenSpec.upto scalarTwoSpec)

/-- 'posternlaw02.ScalarUnits', WHERE WHAT IT READS IS OF BULK AT MOST 1048576: true; the input reads as it did. -/
def scalarUnitsUptoRow : OpenClaim := { program := "ytgippjhkimohlaadoor", sum := "ac33e2a5986eb05d3b8357b225a1907f083e7b25e9118b7b0429e5fb12e311bb", func := "postern/posternlaw02.ScalarUnits", spec := "scalarUnits", inPlace := ["internal/abi.NoEscape"], named := ["unicode/utf8.first", "unicode/utf8.acceptRanges"], apart := false, laid := [("unicode/utf8.acceptRanges", laid_unicode_utf8_acceptRanges), ("unicode/utf8.first", laid_unicode_utf8_first)], narrowed := true }
def ScalarUnitsUptoSaid : Prop := scalarUnitsUptoRow.holds Tryd.pinned (OpenSpec.upto scalarUnitsSpec)

/-- 'posternlaw02.ScalarFeeds', WHERE WHAT IT READS IS OF BULK AT MOST 1048576: true; the input reads as it did. -/
def scalarFeedsUptoRow : OpenClaim := { program := "ytgippjhkimohlaadoor", sum := "ac33e2a5986eb05d3b8357b225a1907f083e7b25e9118b7b0429e5fb12e311bb", func := "postern/posternlaw02.ScalarFeeds", spec := "scalarFeeds", inPlace := ["internal/abi.NoEscape"], named := ["unicode/utf8.first", "unicode/utf8.acceptRanges"], apart := false, laid := [("unicode/utf8.acceptRanges", laid_unicode_utf8_acceptRanges), ("unicode/utf8.first", laid_unicode_utf8_first)], narrowed := true }
def ScalarFeedsUptoSaid : Prop := scalarFeedsUptoRow.holds Tryd.pinned (OpenSpec.upto scalarFeedsSpec)

/-- 'posternlaw02.ScalarUnitFeeds', WHERE WHAT IT READS IS OF BULK AT MOST 1048576: true; the input reads as it did. -/
def scalarUnitFeedsUptoRow : OpenClaim := { program := "ytgippjhkimohlaadoor", sum := "ac33e2a5986eb05d3b8357b225a1907f083e7b25e9118b7b0429e5fb12e311bb", func := "postern/posternlaw02.ScalarUnitFeeds", spec := "scalarUnitFeeds", inPlace := ["internal/abi.NoEscape"], named := ["unicode/utf8.first", "unicode/utf8.acceptRanges"], apart := false, laid := [("unicode/utf8.acceptRanges", laid_unicode_utf8_acceptRanges), ("unicode/utf8.first", laid_unicode_utf8_first)], narrowed := true }
def ScalarUnitFeedsUptoSaid : Prop := scalarUnitFeedsUptoRow.holds Tryd.pinned (OpenSpec.upto scalarUnitFeedsSpec)

/-- 'posternlaw02.ScalarMemory', WHERE WHAT IT READS IS OF BULK AT MOST 1048576: true; the input reads as it did. -/
def scalarMemoryUptoRow : OpenClaim := { program := "ytgippjhkimohlaadoor", sum := "ac33e2a5986eb05d3b8357b225a1907f083e7b25e9118b7b0429e5fb12e311bb", func := "postern/posternlaw02.ScalarMemory", spec := "scalarMemory", inPlace := ["internal/abi.NoEscape"], named := ["unicode/utf8.first", "unicode/utf8.acceptRanges"], apart := false, laid := [("unicode/utf8.acceptRanges", laid_unicode_utf8_acceptRanges), ("unicode/utf8.first", laid_unicode_utf8_first)], narrowed := true }
def ScalarMemoryUptoSaid : Prop := scalarMemoryUptoRow.holds Tryd.pinned (OpenSpec.upto scalarMemorySpec)

/-- 'posternlaw02.ScalarUnit', WHERE WHAT IT READS IS OF BULK AT MOST 1048576: true; the input reads as it did. -/
def scalarUnitUptoRow : OpenClaim := { program := "ytgippjhkimohlaadoor", sum := "ac33e2a5986eb05d3b8357b225a1907f083e7b25e9118b7b0429e5fb12e311bb", func := "postern/posternlaw02.ScalarUnit", spec := "scalarUnit", inPlace := ["internal/abi.NoEscape"], named := ["unicode/utf8.first", "unicode/utf8.acceptRanges"], apart := false, laid := [("unicode/utf8.acceptRanges", laid_unicode_utf8_acceptRanges), ("unicode/utf8.first", laid_unicode_utf8_first)], narrowed := true }
def ScalarUnitUptoSaid : Prop := scalarUnitUptoRow.holds Tryd.pinned (OpenSpec.upto scalarUnitSpec)

/-- 'posternlaw02.ScalarPlaces', WHERE WHAT IT READS IS OF BULK AT MOST 1048576: true; the input reads as it did. -/
def scalarPlacesUptoRow : OpenClaim := { program := "ytgippjhkimohlaadoor", sum := "ac33e2a5986eb05d3b8357b225a1907f083e7b25e9118b7b0429e5fb12e311bb", func := "postern/posternlaw02.ScalarPlaces", spec := "scalarPlaces", inPlace := ["internal/abi.NoEscape"], named := ["unicode/utf8.first", "unicode/utf8.acceptRanges"], apart := false, laid := [("unicode/utf8.acceptRanges", laid_unicode_utf8_acceptRanges), ("unicode/utf8.first", laid_unicode_utf8_first)], narrowed := true }
def ScalarPlacesUptoSaid : Prop := scalarPlacesUptoRow.holds Tryd.pinned (OpenSpec.upto scalarPlacesSpec)

/-- 'posternlaw02.ScalarCompares', WHERE WHAT IT READS IS OF BULK AT MOST 1048576: true; the input reads as it did. -/
def scalarComparesUptoRow : OpenClaim := { program := "ytgippjhkimohlaadoor", sum := "ac33e2a5986eb05d3b8357b225a1907f083e7b25e9118b7b0429e5fb12e311bb", func := "postern/posternlaw02.ScalarCompares", spec := "scalarCompares", inPlace := ["internal/abi.NoEscape"], named := ["unicode/utf8.first", "unicode/utf8.acceptRanges"], apart := false, laid := [("unicode/utf8.acceptRanges", laid_unicode_utf8_acceptRanges), ("unicode/utf8.first", laid_unicode_utf8_first)], narrowed := true }
def ScalarComparesUptoSaid : Prop := scalarComparesUptoRow.holds Tryd.pinned (OpenSpec.upto scalarComparesSpec)

end Rows
end Go.Proofs.YtgippjhkimohlaaDoor
