/-
  NARROWER THAN 'FOR EVERY INPUT', by the rows' own cells (each row's printed sentence says how): PunyEncodes: laid · PunyTexts: laid · PunyMemory: laid · PunyDecodes: laid · PunyBack: laid · PunyDigits: laid · PunyBoots: laid · PunyUsual: laid.
  DERIVED. THE GIVEN ROWS OF THIS SEAT. 8 by the template 'for every input the law returns true; each argument reads behind the call as it read before'; 0 by the template 'total and deterministic' (their statements: YtmjlkifmbhaiiaaDoorTotals.lean).
  GIVEN WITH THE SEED: the statements are not yours to turn. If you find one false, say at which input.
  Laid BY PROGRAM, IN A SANDBOX (cutbox-rows.mjs): the forced cells as the released guide's own fill.sh prints them over the translation 62414a12fba38347… (all of the seat's roots in one cut). By AI agents, Wed Nov 11 2026. No macro, syntax, notation, axiom, sorry.
-/
import Derived.Test.YtmjlkifmbhaiiaaDoorChecked
import GoSem.PinnedTables
import GoSem.Claim
import GoSem.ClaimJoined
import GoSem.ClaimMapViews
import Derived.JoinedTies
import Derived.KernelRfl
namespace Go.Proofs.YtmjlkifmbhaiiaaDoor
/- THE CELL 'sum', in the pinned program and in every row, IS THE sha256 OF THE DUMP (.gsa) THAT YtmjlkifmbhaiiaaDoorProg.lean LOADS. Nothing in Lean hashes anything: it is a label: what it is worth is what the hold of that sum in a sandbox is worth. -/
noncomputable def Tryd.pinned : Pinned := { name := "ytmjlkifmbhaiiaadoor", sum := "62414a12fba383471e3bbfcda9252cfae4370d34cb7e86e3c3072f883e16fca8", checked := Tryd.checked }
namespace Rows
def none {H : Type} : Left H := { results := [], args := [] }

/- WHAT THE LISTED PACKAGE-LEVEL VARIABLES READ AS WHEN THE CALL BEGINS. Each datum BY PROGRAM (the guide's laid-datum.mjs) off the statement by which the dump's own 'gosem.cut.vars' lays the variable. In a bare row this is a premise. The card (YtmjlkifmbhaiiaaDoorCards.lean) ties it to the program's text. -/
def laid_unicode_utf8_acceptRanges {H : Type} : DataW H := .agg [.agg [.lit (.int .u8 128), .lit (.int .u8 191)], .agg [.lit (.int .u8 160), .lit (.int .u8 191)], .agg [.lit (.int .u8 128), .lit (.int .u8 159)], .agg [.lit (.int .u8 144), .lit (.int .u8 191)], .agg [.lit (.int .u8 128), .lit (.int .u8 143)], .agg [.lit (.int .u8 0), .lit (.int .u8 0)], .agg [.lit (.int .u8 0), .lit (.int .u8 0)], .agg [.lit (.int .u8 0), .lit (.int .u8 0)], .agg [.lit (.int .u8 0), .lit (.int .u8 0)], .agg [.lit (.int .u8 0), .lit (.int .u8 0)], .agg [.lit (.int .u8 0), .lit (.int .u8 0)], .agg [.lit (.int .u8 0), .lit (.int .u8 0)], .agg [.lit (.int .u8 0), .lit (.int .u8 0)], .agg [.lit (.int .u8 0), .lit (.int .u8 0)], .agg [.lit (.int .u8 0), .lit (.int .u8 0)], .agg [.lit (.int .u8 0), .lit (.int .u8 0)]]
/-- One of Go's own tables, pinned by name: the form's constant. -/
def laid_unicode_utf8_first : DataW Unit := Go.Pinned.utf8First

/-- 'posternlaw14.PunyEncodes': WHATEVER THE INPUT: true; the input reads as it did. -/
def punyEncodesSpec : ChangeSpec := { name := "punyEncodes", fn := fun _ => fun
  | [d] => { results := [.lit (.bool true)], args := [d] }
  | _ => none }
def punyEncodesRow : OpenClaim := { program := "ytmjlkifmbhaiiaadoor", sum := "62414a12fba383471e3bbfcda9252cfae4370d34cb7e86e3c3072f883e16fca8", func := "postern/posternlaw14.PunyEncodes", spec := "punyEncodes", inPlace := ["slices.overlaps[rune]"], unfollowed := true, recurses := true, named := ["unicode/utf8.first", "unicode/utf8.acceptRanges"], apart := false, laid := [("unicode/utf8.acceptRanges", laid_unicode_utf8_acceptRanges), ("unicode/utf8.first", laid_unicode_utf8_first)] }
def PunyEncodesSaid : Prop := punyEncodesRow.holds Tryd.pinned (OpenSpec.ofChange punyEncodesSpec)

/-- ITS FALSE NEIGHBOUR: 'it returns false'. Refute it at one input. -/
def punyEncodesWrong : ChangeSpec := { name := "punyEncodes", fn := fun _ => fun
  | [d] => { results := [.lit (.bool false)], args := [d] }
  | _ => none }
def PunyEncodesWrongFalsely : Prop := punyEncodesRow.holds Tryd.pinned (OpenSpec.ofChange punyEncodesWrong)

/-- 'posternlaw14.PunyTexts': WHATEVER THE INPUT: true; the input reads as it did. -/
def punyTextsSpec : ChangeSpec := { name := "punyTexts", fn := fun _ => fun
  | [d] => { results := [.lit (.bool true)], args := [d] }
  | _ => none }
def punyTextsRow : OpenClaim := { program := "ytmjlkifmbhaiiaadoor", sum := "62414a12fba383471e3bbfcda9252cfae4370d34cb7e86e3c3072f883e16fca8", func := "postern/posternlaw14.PunyTexts", spec := "punyTexts", inPlace := ["slices.overlaps[rune]"], unfollowed := true, recurses := true, named := ["unicode/utf8.first", "unicode/utf8.acceptRanges"], apart := false, laid := [("unicode/utf8.acceptRanges", laid_unicode_utf8_acceptRanges), ("unicode/utf8.first", laid_unicode_utf8_first)] }
def PunyTextsSaid : Prop := punyTextsRow.holds Tryd.pinned (OpenSpec.ofChange punyTextsSpec)

/-- ITS FALSE NEIGHBOUR: 'it returns false'. Refute it at one input. -/
def punyTextsWrong : ChangeSpec := { name := "punyTexts", fn := fun _ => fun
  | [d] => { results := [.lit (.bool false)], args := [d] }
  | _ => none }
def PunyTextsWrongFalsely : Prop := punyTextsRow.holds Tryd.pinned (OpenSpec.ofChange punyTextsWrong)

/-- 'posternlaw14.PunyMemory': WHATEVER THE INPUT: true; the input reads as it did. -/
def punyMemorySpec : ChangeSpec := { name := "punyMemory", fn := fun _ => fun
  | [d] => { results := [.lit (.bool true)], args := [d] }
  | _ => none }
def punyMemoryRow : OpenClaim := { program := "ytmjlkifmbhaiiaadoor", sum := "62414a12fba383471e3bbfcda9252cfae4370d34cb7e86e3c3072f883e16fca8", func := "postern/posternlaw14.PunyMemory", spec := "punyMemory", inPlace := ["slices.overlaps[rune]"], unfollowed := true, recurses := true, named := ["unicode/utf8.first", "unicode/utf8.acceptRanges"], apart := false, laid := [("unicode/utf8.acceptRanges", laid_unicode_utf8_acceptRanges), ("unicode/utf8.first", laid_unicode_utf8_first)] }
def PunyMemorySaid : Prop := punyMemoryRow.holds Tryd.pinned (OpenSpec.ofChange punyMemorySpec)

/-- ITS FALSE NEIGHBOUR: 'it returns false'. Refute it at one input. -/
def punyMemoryWrong : ChangeSpec := { name := "punyMemory", fn := fun _ => fun
  | [d] => { results := [.lit (.bool false)], args := [d] }
  | _ => none }
def PunyMemoryWrongFalsely : Prop := punyMemoryRow.holds Tryd.pinned (OpenSpec.ofChange punyMemoryWrong)

/-- 'posternlaw14.PunyDecodes': WHATEVER THE INPUT: true; the input reads as it did. -/
def punyDecodesSpec : ChangeSpec := { name := "punyDecodes", fn := fun _ => fun
  | [d] => { results := [.lit (.bool true)], args := [d] }
  | _ => none }
def punyDecodesRow : OpenClaim := { program := "ytmjlkifmbhaiiaadoor", sum := "62414a12fba383471e3bbfcda9252cfae4370d34cb7e86e3c3072f883e16fca8", func := "postern/posternlaw14.PunyDecodes", spec := "punyDecodes", inPlace := ["slices.overlaps[rune]"], unfollowed := true, recurses := true, named := ["unicode/utf8.first", "unicode/utf8.acceptRanges"], apart := false, laid := [("unicode/utf8.acceptRanges", laid_unicode_utf8_acceptRanges), ("unicode/utf8.first", laid_unicode_utf8_first)] }
def PunyDecodesSaid : Prop := punyDecodesRow.holds Tryd.pinned (OpenSpec.ofChange punyDecodesSpec)

/-- ITS FALSE NEIGHBOUR: 'it returns false'. Refute it at one input. -/
def punyDecodesWrong : ChangeSpec := { name := "punyDecodes", fn := fun _ => fun
  | [d] => { results := [.lit (.bool false)], args := [d] }
  | _ => none }
def PunyDecodesWrongFalsely : Prop := punyDecodesRow.holds Tryd.pinned (OpenSpec.ofChange punyDecodesWrong)

/-- 'posternlaw14.PunyBack': WHATEVER THE INPUT: true; the input reads as it did. -/
def punyBackSpec : ChangeSpec := { name := "punyBack", fn := fun _ => fun
  | [d] => { results := [.lit (.bool true)], args := [d] }
  | _ => none }
def punyBackRow : OpenClaim := { program := "ytmjlkifmbhaiiaadoor", sum := "62414a12fba383471e3bbfcda9252cfae4370d34cb7e86e3c3072f883e16fca8", func := "postern/posternlaw14.PunyBack", spec := "punyBack", inPlace := ["slices.overlaps[rune]"], unfollowed := true, recurses := true, named := ["unicode/utf8.first", "unicode/utf8.acceptRanges"], apart := false, laid := [("unicode/utf8.acceptRanges", laid_unicode_utf8_acceptRanges), ("unicode/utf8.first", laid_unicode_utf8_first)] }
def PunyBackSaid : Prop := punyBackRow.holds Tryd.pinned (OpenSpec.ofChange punyBackSpec)

/-- ITS FALSE NEIGHBOUR: 'it returns false'. Refute it at one input. -/
def punyBackWrong : ChangeSpec := { name := "punyBack", fn := fun _ => fun
  | [d] => { results := [.lit (.bool false)], args := [d] }
  | _ => none }
def PunyBackWrongFalsely : Prop := punyBackRow.holds Tryd.pinned (OpenSpec.ofChange punyBackWrong)

/-- 'posternlaw14.PunyDigits': WHATEVER THE INPUT: true; the input reads as it did. -/
def punyDigitsSpec : ChangeSpec := { name := "punyDigits", fn := fun _ => fun
  | [d1, d2, d3] => { results := [.lit (.bool true)], args := [d1, d2, d3] }
  | _ => none }
def punyDigitsRow : OpenClaim := { program := "ytmjlkifmbhaiiaadoor", sum := "62414a12fba383471e3bbfcda9252cfae4370d34cb7e86e3c3072f883e16fca8", func := "postern/posternlaw14.PunyDigits", spec := "punyDigits", inPlace := ["slices.overlaps[rune]"], unfollowed := true, recurses := true, named := ["unicode/utf8.first", "unicode/utf8.acceptRanges"], apart := false, laid := [("unicode/utf8.acceptRanges", laid_unicode_utf8_acceptRanges), ("unicode/utf8.first", laid_unicode_utf8_first)] }
def PunyDigitsSaid : Prop := punyDigitsRow.holds Tryd.pinned (OpenSpec.ofChange punyDigitsSpec)

/-- ITS FALSE NEIGHBOUR: 'it returns false'. Refute it at one input. -/
def punyDigitsWrong : ChangeSpec := { name := "punyDigits", fn := fun _ => fun
  | [d1, d2, d3] => { results := [.lit (.bool false)], args := [d1, d2, d3] }
  | _ => none }
def PunyDigitsWrongFalsely : Prop := punyDigitsRow.holds Tryd.pinned (OpenSpec.ofChange punyDigitsWrong)

/-- 'posternlaw14.PunyBoots': WHATEVER THE INPUT: true; the input reads as it did. -/
def punyBootsSpec : ChangeSpec := { name := "punyBoots", fn := fun _ => fun
  | [d1, d2, d3] => { results := [.lit (.bool true)], args := [d1, d2, d3] }
  | _ => none }
def punyBootsRow : OpenClaim := { program := "ytmjlkifmbhaiiaadoor", sum := "62414a12fba383471e3bbfcda9252cfae4370d34cb7e86e3c3072f883e16fca8", func := "postern/posternlaw14.PunyBoots", spec := "punyBoots", inPlace := ["slices.overlaps[rune]"], unfollowed := true, recurses := true, named := ["unicode/utf8.first", "unicode/utf8.acceptRanges"], apart := false, laid := [("unicode/utf8.acceptRanges", laid_unicode_utf8_acceptRanges), ("unicode/utf8.first", laid_unicode_utf8_first)] }
def PunyBootsSaid : Prop := punyBootsRow.holds Tryd.pinned (OpenSpec.ofChange punyBootsSpec)

/-- ITS FALSE NEIGHBOUR: 'it returns false'. Refute it at one input. -/
def punyBootsWrong : ChangeSpec := { name := "punyBoots", fn := fun _ => fun
  | [d1, d2, d3] => { results := [.lit (.bool false)], args := [d1, d2, d3] }
  | _ => none }
def PunyBootsWrongFalsely : Prop := punyBootsRow.holds Tryd.pinned (OpenSpec.ofChange punyBootsWrong)

/-- 'posternlaw14.PunyUsual': WHATEVER THE INPUT: true; the input reads as it did. -/
def punyUsualSpec : ChangeSpec := { name := "punyUsual", fn := fun _ => fun
  | [d1, d2, d3] => { results := [.lit (.bool true)], args := [d1, d2, d3] }
  | _ => none }
def punyUsualRow : OpenClaim := { program := "ytmjlkifmbhaiiaadoor", sum := "62414a12fba383471e3bbfcda9252cfae4370d34cb7e86e3c3072f883e16fca8", func := "postern/posternlaw14.PunyUsual", spec := "punyUsual", inPlace := ["slices.overlaps[rune]"], unfollowed := true, recurses := true, named := ["unicode/utf8.first", "unicode/utf8.acceptRanges"], apart := false, laid := [("unicode/utf8.acceptRanges", laid_unicode_utf8_acceptRanges), ("unicode/utf8.first", laid_unicode_utf8_first)] }
def PunyUsualSaid : Prop := punyUsualRow.holds Tryd.pinned (OpenSpec.ofChange punyUsualSpec)

/-- ITS FALSE NEIGHBOUR: 'it returns false'. Refute it at one input. -/
def punyUsualWrong : ChangeSpec := { name := "punyUsual", fn := fun _ => fun
  | [d1, d2, d3] => { results := [.lit (.bool false)], args := [d1, d2, d3] }
  | _ => none }
def PunyUsualWrongFalsely : Prop := punyUsualRow.holds Tryd.pinned (OpenSpec.ofChange punyUsualWrong)

/- THE SECOND FORM. 'bulk': how many values and letters a reading holds, each counted each time it is reached (what is shared counts as often as it is met; a slice's spare places count too). A statement '..UptoSaid' is the law's where the arguments, and the package variables that the reading takes, are together of bulk at most 1048576: NARROWER than '..Said'. Prove '..Said' where nothing that the law and all that it calls make is longer than what came in: it says more and counts as full. Else prove '..UptoSaid'. A law counts once. -/
mutual
def uptoBulk {H : Type} : DataW H → Nat
  | .lit (.string bytes) => bytes.length + 1
  | .lit _ => 1
  | .nil => 1
  | .ptr d => uptoBulk d + 1
  | .slice elems spare => uptoBulkAll elems + uptoBulkAll spare + 1
  | .agg parts => uptoBulkAll parts + 1
  | .iface _ d => uptoBulk d + 1
  | .map entries => uptoBulkEntries entries + 1
  | .held _ => 1
def uptoBulkAll {H : Type} : List (DataW H) → Nat
  | [] => 0
  | d :: r => uptoBulk d + uptoBulkAll r
def uptoBulkEntries {H : Type} : List (Lit × DataW H) → Nat
  | [] => 0
  | x :: r => uptoBulkEntry x + uptoBulkEntries r
def uptoBulkEntry {H : Type} : Lit × DataW H → Nat
  | (.string bytes, d) => bytes.length + uptoBulk d + 1
  | (_, d) => uptoBulk d + 1
 end
def uptoSmall : (H : Type) → List (DataW H) → Bool := fun _ ds => decide (uptoBulkAll ds ≤ 1048576)
def OpenSpec.upto (s : _root_.Go.ChangeSpec) : _root_.Go.OpenSpec := { _root_.Go.OpenSpec.ofChange s with cond := some uptoSmall }

/-- 'posternlaw14.PunyEncodes', WHERE WHAT IT READS IS OF BULK AT MOST 1048576: true; the input reads as it did. -/
def punyEncodesUptoRow : OpenClaim := { program := "ytmjlkifmbhaiiaadoor", sum := "62414a12fba383471e3bbfcda9252cfae4370d34cb7e86e3c3072f883e16fca8", func := "postern/posternlaw14.PunyEncodes", spec := "punyEncodes", inPlace := ["slices.overlaps[rune]"], unfollowed := true, recurses := true, named := ["unicode/utf8.first", "unicode/utf8.acceptRanges"], apart := false, laid := [("unicode/utf8.acceptRanges", laid_unicode_utf8_acceptRanges), ("unicode/utf8.first", laid_unicode_utf8_first)], narrowed := true }
def PunyEncodesUptoSaid : Prop := punyEncodesUptoRow.holds Tryd.pinned (OpenSpec.upto punyEncodesSpec)

/-- 'posternlaw14.PunyTexts', WHERE WHAT IT READS IS OF BULK AT MOST 1048576: true; the input reads as it did. -/
def punyTextsUptoRow : OpenClaim := { program := "ytmjlkifmbhaiiaadoor", sum := "62414a12fba383471e3bbfcda9252cfae4370d34cb7e86e3c3072f883e16fca8", func := "postern/posternlaw14.PunyTexts", spec := "punyTexts", inPlace := ["slices.overlaps[rune]"], unfollowed := true, recurses := true, named := ["unicode/utf8.first", "unicode/utf8.acceptRanges"], apart := false, laid := [("unicode/utf8.acceptRanges", laid_unicode_utf8_acceptRanges), ("unicode/utf8.first", laid_unicode_utf8_first)], narrowed := true }
def PunyTextsUptoSaid : Prop := punyTextsUptoRow.holds Tryd.pinned (OpenSpec.upto punyTextsSpec)

/-- 'posternlaw14.PunyMemory', WHERE WHAT IT READS IS OF BULK AT MOST 1048576: true; the input reads as it did. -/
def punyMemoryUptoRow : OpenClaim := { program := "ytmjlkifmbhaiiaadoor", sum := "62414a12fba383471e3bbfcda9252cfae4370d34cb7e86e3c3072f883e16fca8", func := "postern/posternlaw14.PunyMemory", spec := "punyMemory", inPlace := ["slices.overlaps[rune]"], unfollowed := true, recurses := true, named := ["unicode/utf8.first", "unicode/utf8.acceptRanges"], apart := false, laid := [("unicode/utf8.acceptRanges", laid_unicode_utf8_acceptRanges), ("unicode/utf8.first", laid_unicode_utf8_first)], narrowed := true }
def PunyMemoryUptoSaid : Prop := punyMemoryUptoRow.holds Tryd.pinned (OpenSpec.upto punyMemorySpec)

/-- 'posternlaw14.PunyDecodes', WHERE WHAT IT READS IS OF BULK AT MOST 1048576: true; the input reads as it did. -/
def punyDecodesUptoRow : OpenClaim := { program := "ytmjlkifmbhaiiaadoor", sum := "62414a12fba383471e3bbfcda9252cfae4370d34cb7e86e3c3072f883e16fca8", func := "postern/posternlaw14.PunyDecodes", spec := "punyDecodes", inPlace := ["slices.overlaps[rune]"], unfollowed := true, recurses := true, named := ["unicode/utf8.first", "unicode/utf8.acceptRanges"], apart := false, laid := [("unicode/utf8.acceptRanges", laid_unicode_utf8_acceptRanges), ("unicode/utf8.first", laid_unicode_utf8_first)], narrowed := true }
def PunyDecodesUptoSaid : Prop := punyDecodesUptoRow.holds Tryd.pinned (OpenSpec.upto punyDecodesSpec)

/-- 'posternlaw14.PunyBack', WHERE WHAT IT READS IS OF BULK AT MOST 1048576: true; the input reads as it did. -/
def punyBackUptoRow : OpenClaim := { program := "ytmjlkifmbhaiiaadoor", sum := "62414a12fba383471e3bbfcda9252cfae4370d34cb7e86e3c3072f883e16fca8", func := "postern/posternlaw14.PunyBack", spec := "punyBack", inPlace := ["slices.overlaps[rune]"], unfollowed := true, recurses := true, named := ["unicode/utf8.first", "unicode/utf8.acceptRanges"], apart := false, laid := [("unicode/utf8.acceptRanges", laid_unicode_utf8_acceptRanges), ("unicode/utf8.first", laid_unicode_utf8_first)], narrowed := true }
def PunyBackUptoSaid : Prop := punyBackUptoRow.holds Tryd.pinned (OpenSpec.upto punyBackSpec)

/-- 'posternlaw14.PunyDigits', WHERE WHAT IT READS IS OF BULK AT MOST 1048576: true; the input reads as it did. -/
def punyDigitsUptoRow : OpenClaim := { program := "ytmjlkifmbhaiiaadoor", sum := "62414a12fba383471e3bbfcda9252cfae4370d34cb7e86e3c3072f883e16fca8", func := "postern/posternlaw14.PunyDigits", spec := "punyDigits", inPlace := ["slices.overlaps[rune]"], unfollowed := true, recurses := true, named := ["unicode/utf8.first", "unicode/utf8.acceptRanges"], apart := false, laid := [("unicode/utf8.acceptRanges", laid_unicode_utf8_acceptRanges), ("unicode/utf8.first", laid_unicode_utf8_first)], narrowed := true }
def PunyDigitsUptoSaid : Prop := punyDigitsUptoRow.holds Tryd.pinned (OpenSpec.upto punyDigitsSpec)

/-- 'posternlaw14.PunyBoots', WHERE WHAT IT READS IS OF BULK AT MOST 1048576: true; the input reads as it did. -/
def punyBootsUptoRow : OpenClaim := { program := "ytmjlkifmbhaiiaadoor", sum := "62414a12fba383471e3bbfcda9252cfae4370d34cb7e86e3c3072f883e16fca8", func := "postern/posternlaw14.PunyBoots", spec := "punyBoots", inPlace := ["slices.overlaps[rune]"], unfollowed := true, recurses := true, named := ["unicode/utf8.first", "unicode/utf8.acceptRanges"], apart := false, laid := [("unicode/utf8.acceptRanges", laid_unicode_utf8_acceptRanges), ("unicode/utf8.first", laid_unicode_utf8_first)], narrowed := true }
def PunyBootsUptoSaid : Prop := punyBootsUptoRow.holds Tryd.pinned (OpenSpec.upto punyBootsSpec)

/-- 'posternlaw14.PunyUsual', WHERE WHAT IT READS IS OF BULK AT MOST 1048576: true; the input reads as it did. -/
def punyUsualUptoRow : OpenClaim := { program := "ytmjlkifmbhaiiaadoor", sum := "62414a12fba383471e3bbfcda9252cfae4370d34cb7e86e3c3072f883e16fca8", func := "postern/posternlaw14.PunyUsual", spec := "punyUsual", inPlace := ["slices.overlaps[rune]"], unfollowed := true, recurses := true, named := ["unicode/utf8.first", "unicode/utf8.acceptRanges"], apart := false, laid := [("unicode/utf8.acceptRanges", laid_unicode_utf8_acceptRanges), ("unicode/utf8.first", laid_unicode_utf8_first)], narrowed := true }
def PunyUsualUptoSaid : Prop := punyUsualUptoRow.holds Tryd.pinned (OpenSpec.upto punyUsualSpec)

end Rows
end Go.Proofs.YtmjlkifmbhaiiaaDoor
