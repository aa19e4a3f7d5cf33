/-
  NARROWER THAN 'FOR EVERY INPUT', by the rows' own cells (each row's printed sentence says how): PercentForms: laid · PercentBack: laid · PercentAsks: laid · PercentReads: laid · PercentFields: laid · PercentWritten: laid.
  DERIVED. THE GIVEN ROWS OF THIS SEAT. 6 by the template 'for every input the law returns true; each argument reads behind the call as it read before'; 0 by the template 'total and deterministic' (their statements: YtfbgmlophkbejaaDoorTotals.lean).
  GIVEN WITH THE SEED: the statements are not yours to turn. If you find one false, say at which input.
  Laid BY PROGRAM, IN A SANDBOX (cutbox-rows.mjs): the forced cells as the released guide's own fill.sh prints them over the translation ecbf1d8e9fb8fd4d… (all of the seat's roots in one cut). By AI agents, Wed Nov 11 2026. No macro, syntax, notation, axiom, sorry.
-/
import Derived.Test.YtfbgmlophkbejaaDoorChecked
import GoSem.PinnedTables
import GoSem.Claim
import GoSem.ClaimJoined
import GoSem.ClaimMapViews
import Derived.JoinedTies
import Derived.KernelRfl
namespace Go.Proofs.YtfbgmlophkbejaaDoor
/- THE CELL 'sum', in the pinned program and in every row, IS THE sha256 OF THE DUMP (.gsa) THAT YtfbgmlophkbejaaDoorProg.lean LOADS. Nothing in Lean hashes anything: it is a label: what it is worth is what the hold of that sum in a sandbox is worth. -/
noncomputable def Tryd.pinned : Pinned := { name := "ytfbgmlophkbejaadoor", sum := "ecbf1d8e9fb8fd4df90d655a6406808df2d56f51f9c8b1a0b8a1eabb0a09459f", checked := Tryd.checked }
namespace Rows
def none {H : Type} : Left H := { results := [], args := [] }

/- WHAT THE LISTED PACKAGE-LEVEL VARIABLES READ AS WHEN THE CALL BEGINS. Each datum BY PROGRAM (the guide's laid-datum.mjs) off the statement by which the dump's own 'gosem.cut.vars' lays the variable. In a bare row this is a premise. The card (YtfbgmlophkbejaaDoorCards.lean) ties it to the program's text. -/
def laid_unicode_utf8_acceptRanges {H : Type} : DataW H := .agg [.agg [.lit (.int .u8 128), .lit (.int .u8 191)], .agg [.lit (.int .u8 160), .lit (.int .u8 191)], .agg [.lit (.int .u8 128), .lit (.int .u8 159)], .agg [.lit (.int .u8 144), .lit (.int .u8 191)], .agg [.lit (.int .u8 128), .lit (.int .u8 143)], .agg [.lit (.int .u8 0), .lit (.int .u8 0)], .agg [.lit (.int .u8 0), .lit (.int .u8 0)], .agg [.lit (.int .u8 0), .lit (.int .u8 0)], .agg [.lit (.int .u8 0), .lit (.int .u8 0)], .agg [.lit (.int .u8 0), .lit (.int .u8 0)], .agg [.lit (.int .u8 0), .lit (.int .u8 0)], .agg [.lit (.int .u8 0), .lit (.int .u8 0)], .agg [.lit (.int .u8 0), .lit (.int .u8 0)], .agg [.lit (.int .u8 0), .lit (.int .u8 0)], .agg [.lit (.int .u8 0), .lit (.int .u8 0)], .agg [.lit (.int .u8 0), .lit (.int .u8 0)]]
/-- One of Go's own tables, pinned by name: the form's constant. -/
def laid_unicode_utf8_first : DataW Unit := Go.Pinned.utf8First

/-- 'posternlaw03.PercentForms': WHATEVER THE INPUT: true; the input reads as it did. -/
def percentFormsSpec : ChangeSpec := { name := "percentForms", fn := fun _ => fun
  | [d] => { results := [.lit (.bool true)], args := [d] }
  | _ => none }
def percentFormsRow : OpenClaim := { program := "ytfbgmlophkbejaadoor", sum := "ecbf1d8e9fb8fd4df90d655a6406808df2d56f51f9c8b1a0b8a1eabb0a09459f", func := "postern/posternlaw03.PercentForms", spec := "percentForms", inPlace := ["internal/bytealg.IndexByteString", "internal/abi.NoEscape", "internal/bytealg.CountString", "internal/bytealg.IndexString", "internal/bytealg.MakeNoZero"], unfollowed := true, recurses := true, named := ["internal/bytealg.MaxLen", "unicode/utf8.first", "unicode/utf8.acceptRanges"], apart := false, laid := [("unicode/utf8.acceptRanges", laid_unicode_utf8_acceptRanges), ("unicode/utf8.first", laid_unicode_utf8_first)] }
def PercentFormsSaid : Prop := percentFormsRow.holds Tryd.pinned (OpenSpec.ofChange percentFormsSpec)

/-- ITS FALSE NEIGHBOUR: 'it returns false'. Refute it at one input. -/
def percentFormsWrong : ChangeSpec := { name := "percentForms", fn := fun _ => fun
  | [d] => { results := [.lit (.bool false)], args := [d] }
  | _ => none }
def PercentFormsWrongFalsely : Prop := percentFormsRow.holds Tryd.pinned (OpenSpec.ofChange percentFormsWrong)

/-- 'posternlaw03.PercentBack': WHATEVER THE INPUT: true; the input reads as it did. -/
def percentBackSpec : ChangeSpec := { name := "percentBack", fn := fun _ => fun
  | [d1, d2] => { results := [.lit (.bool true)], args := [d1, d2] }
  | _ => none }
def percentBackRow : OpenClaim := { program := "ytfbgmlophkbejaadoor", sum := "ecbf1d8e9fb8fd4df90d655a6406808df2d56f51f9c8b1a0b8a1eabb0a09459f", func := "postern/posternlaw03.PercentBack", spec := "percentBack", inPlace := ["internal/abi.NoEscape", "internal/bytealg.IndexByteString", "internal/bytealg.CountString", "internal/bytealg.IndexString", "internal/bytealg.MakeNoZero"], unfollowed := true, recurses := true, named := ["internal/bytealg.MaxLen", "unicode/utf8.first", "unicode/utf8.acceptRanges"], apart := false, laid := [("unicode/utf8.acceptRanges", laid_unicode_utf8_acceptRanges), ("unicode/utf8.first", laid_unicode_utf8_first)] }
def PercentBackSaid : Prop := percentBackRow.holds Tryd.pinned (OpenSpec.ofChange percentBackSpec)

/-- ITS FALSE NEIGHBOUR: 'it returns false'. Refute it at one input. -/
def percentBackWrong : ChangeSpec := { name := "percentBack", fn := fun _ => fun
  | [d1, d2] => { results := [.lit (.bool false)], args := [d1, d2] }
  | _ => none }
def PercentBackWrongFalsely : Prop := percentBackRow.holds Tryd.pinned (OpenSpec.ofChange percentBackWrong)

/-- 'posternlaw03.PercentAsks': WHATEVER THE INPUT: true; the input reads as it did. -/
def percentAsksSpec : ChangeSpec := { name := "percentAsks", fn := fun _ => fun
  | [d1, d2, d3] => { results := [.lit (.bool true)], args := [d1, d2, d3] }
  | _ => none }
def percentAsksRow : OpenClaim := { program := "ytfbgmlophkbejaadoor", sum := "ecbf1d8e9fb8fd4df90d655a6406808df2d56f51f9c8b1a0b8a1eabb0a09459f", func := "postern/posternlaw03.PercentAsks", spec := "percentAsks", inPlace := ["internal/bytealg.IndexByteString"], unfollowed := true, recurses := true, named := ["unicode/utf8.first", "unicode/utf8.acceptRanges"], apart := false, laid := [("unicode/utf8.acceptRanges", laid_unicode_utf8_acceptRanges), ("unicode/utf8.first", laid_unicode_utf8_first)] }
def PercentAsksSaid : Prop := percentAsksRow.holds Tryd.pinned (OpenSpec.ofChange percentAsksSpec)

/-- ITS FALSE NEIGHBOUR: 'it returns false'. Refute it at one input. -/
def percentAsksWrong : ChangeSpec := { name := "percentAsks", fn := fun _ => fun
  | [d1, d2, d3] => { results := [.lit (.bool false)], args := [d1, d2, d3] }
  | _ => none }
def PercentAsksWrongFalsely : Prop := percentAsksRow.holds Tryd.pinned (OpenSpec.ofChange percentAsksWrong)

/-- 'posternlaw03.PercentReads': WHATEVER THE INPUT: true; the input reads as it did. -/
def percentReadsSpec : ChangeSpec := { name := "percentReads", fn := fun _ => fun
  | [d1, d2] => { results := [.lit (.bool true)], args := [d1, d2] }
  | _ => none }
def percentReadsRow : OpenClaim := { program := "ytfbgmlophkbejaadoor", sum := "ecbf1d8e9fb8fd4df90d655a6406808df2d56f51f9c8b1a0b8a1eabb0a09459f", func := "postern/posternlaw03.PercentReads", spec := "percentReads", inPlace := ["internal/bytealg.IndexByteString", "internal/bytealg.CountString", "internal/bytealg.IndexString", "internal/abi.NoEscape", "internal/bytealg.MakeNoZero"], unfollowed := true, recurses := true, named := ["unicode/utf8.first", "unicode/utf8.acceptRanges", "internal/bytealg.MaxLen"], apart := false, laid := [("unicode/utf8.acceptRanges", laid_unicode_utf8_acceptRanges), ("unicode/utf8.first", laid_unicode_utf8_first)] }
def PercentReadsSaid : Prop := percentReadsRow.holds Tryd.pinned (OpenSpec.ofChange percentReadsSpec)

/-- ITS FALSE NEIGHBOUR: 'it returns false'. Refute it at one input. -/
def percentReadsWrong : ChangeSpec := { name := "percentReads", fn := fun _ => fun
  | [d1, d2] => { results := [.lit (.bool false)], args := [d1, d2] }
  | _ => none }
def PercentReadsWrongFalsely : Prop := percentReadsRow.holds Tryd.pinned (OpenSpec.ofChange percentReadsWrong)

/-- 'posternlaw03.PercentFields': WHATEVER THE INPUT: true; the input reads as it did. -/
def percentFieldsSpec : ChangeSpec := { name := "percentFields", fn := fun _ => fun
  | [d1, d2] => { results := [.lit (.bool true)], args := [d1, d2] }
  | _ => none }
def percentFieldsRow : OpenClaim := { program := "ytfbgmlophkbejaadoor", sum := "ecbf1d8e9fb8fd4df90d655a6406808df2d56f51f9c8b1a0b8a1eabb0a09459f", func := "postern/posternlaw03.PercentFields", spec := "percentFields", inPlace := ["internal/bytealg.IndexByteString", "internal/bytealg.CountString", "internal/bytealg.IndexString", "internal/abi.NoEscape", "internal/bytealg.MakeNoZero"], unfollowed := true, recurses := true, named := ["unicode/utf8.first", "unicode/utf8.acceptRanges", "internal/bytealg.MaxLen"], apart := false, laid := [("unicode/utf8.acceptRanges", laid_unicode_utf8_acceptRanges), ("unicode/utf8.first", laid_unicode_utf8_first)] }
def PercentFieldsSaid : Prop := percentFieldsRow.holds Tryd.pinned (OpenSpec.ofChange percentFieldsSpec)

/-- ITS FALSE NEIGHBOUR: 'it returns false'. Refute it at one input. -/
def percentFieldsWrong : ChangeSpec := { name := "percentFields", fn := fun _ => fun
  | [d1, d2] => { results := [.lit (.bool false)], args := [d1, d2] }
  | _ => none }
def PercentFieldsWrongFalsely : Prop := percentFieldsRow.holds Tryd.pinned (OpenSpec.ofChange percentFieldsWrong)

/-- 'posternlaw03.PercentWritten': WHATEVER THE INPUT: true; the input reads as it did. -/
def percentWrittenSpec : ChangeSpec := { name := "percentWritten", fn := fun _ => fun
  | [d1, d2, d3] => { results := [.lit (.bool true)], args := [d1, d2, d3] }
  | _ => none }
def percentWrittenRow : OpenClaim := { program := "ytfbgmlophkbejaadoor", sum := "ecbf1d8e9fb8fd4df90d655a6406808df2d56f51f9c8b1a0b8a1eabb0a09459f", func := "postern/posternlaw03.PercentWritten", spec := "percentWritten", inPlace := ["internal/bytealg.IndexByteString", "internal/abi.NoEscape", "internal/bytealg.CountString", "internal/bytealg.IndexString", "internal/bytealg.MakeNoZero"], unfollowed := true, recurses := true, named := ["internal/bytealg.MaxLen", "unicode/utf8.first", "unicode/utf8.acceptRanges"], apart := false, laid := [("unicode/utf8.acceptRanges", laid_unicode_utf8_acceptRanges), ("unicode/utf8.first", laid_unicode_utf8_first)] }
def PercentWrittenSaid : Prop := percentWrittenRow.holds Tryd.pinned (OpenSpec.ofChange percentWrittenSpec)

/-- ITS FALSE NEIGHBOUR: 'it returns false'. Refute it at one input. -/
def percentWrittenWrong : ChangeSpec := { name := "percentWritten", fn := fun _ => fun
  | [d1, d2, d3] => { results := [.lit (.bool false)], args := [d1, d2, d3] }
  | _ => none }
def PercentWrittenWrongFalsely : Prop := percentWrittenRow.holds Tryd.pinned (OpenSpec.ofChange percentWrittenWrong)

/- THE SECOND FORM. 'bulk': how many values and letters a reading holds, each counted each time it is reached (what is shared counts as often as it is met; a slice's spare places count too). A statement '..UptoSaid' is the law's where the arguments, and the package variables that the reading takes, are together of bulk at most 1048576: NARROWER than '..Said'. Prove '..Said' where nothing that the law and all that it calls make is longer than what came in: it says more and counts as full. Else prove '..UptoSaid'. A law counts once. -/
mutual
def uptoBulk {H : Type} : DataW H → Nat
  | .lit (.string bytes) => bytes.length + 1
  | .lit _ => 1
  | .nil => 1
  | .ptr d => uptoBulk d + 1
  | .slice elems spare => uptoBulkAll elems + uptoBulkAll spare + 1
  | .agg parts => uptoBulkAll parts + 1
  | .iface _ d => uptoBulk d + 1
  | .map entries => uptoBulkEntries entries + 1
  | .held _ => 1
def uptoBulkAll {H : Type} : List (DataW H) → Nat
  | [] => 0
  | d :: r => uptoBulk d + uptoBulkAll r
def uptoBulkEntries {H : Type} : List (Lit × DataW H) → Nat
  | [] => 0
  | x :: r => uptoBulkEntry x + uptoBulkEntries r
def uptoBulkEntry {H : Type} : Lit × DataW H → Nat
  | (.string bytes, d) => bytes.length + uptoBulk d + 1
  | (_, d) => uptoBulk d + 1
 end
def uptoSmall : (H : Type) → List (DataW H) → Bool := fun _ ds => decide (uptoBulkAll ds ≤ 1048576)
def OpenSpec.upto (s : _root_.Go.ChangeSpec) : _root_.Go.OpenSpec := { _root_.Go.OpenSpec.ofChange s with cond := some uptoSmall }

/-- 'posternlaw03.PercentForms', WHERE WHAT IT READS IS OF BULK AT MOST 1048576: true; the input reads as it did. -/
def percentFormsUptoRow : OpenClaim := { program := "ytfbgmlophkbejaadoor", sum := "ecbf1d8e9fb8fd4df90d655a6406808df2d56f51f9c8b1a0b8a1eabb0a09459f", func := "postern/posternlaw03.PercentForms", spec := "percentForms", inPlace := ["internal/bytealg.IndexByteString", "internal/abi.NoEscape", "internal/bytealg.CountString", "internal/bytealg.IndexString", "internal/bytealg.MakeNoZero"], unfollowed := true, recurses := true, named := ["internal/bytealg.MaxLen", "unicode/utf8.first", "unicode/utf8.acceptRanges"], apart := false, laid := [("unicode/utf8.acceptRanges", laid_unicode_utf8_acceptRanges), ("unicode/utf8.first", laid_unicode_utf8_first)], narrowed := true }
def PercentFormsUptoSaid : Prop := percentFormsUptoRow.holds Tryd.pinned (OpenSpec.upto percentFormsSpec)

/-- 'posternlaw03.PercentBack', WHERE WHAT IT READS IS OF BULK AT MOST 1048576: true; the input reads as it did. -/
def percentBackUptoRow : OpenClaim := { program := "ytfbgmlophkbejaadoor", sum := "ecbf1d8e9fb8fd4df90d655a6406808df2d56f51f9c8b1a0b8a1eabb0a09459f", func := "postern/posternlaw03.PercentBack", spec := "percentBack", inPlace := ["internal/abi.NoEscape", "internal/bytealg.IndexByteString", "internal/bytealg.CountString", "internal/bytealg.IndexString", "internal/bytealg.MakeNoZero"], unfollowed := true, recurses := true, named := ["internal/bytealg.MaxLen", "unicode/utf8.first", "unicode/utf8.acceptRanges"], apart := false, laid := [("unicode/utf8.acceptRanges", laid_unicode_utf8_acceptRanges), ("unicode/utf8.first", laid_unicode_utf8_first)], narrowed := true }
def PercentBackUptoSaid : Prop := percentBackUptoRow.holds Tryd.pinned (OpenSpec.upto percentBackSpec)

/-- 'posternlaw03.PercentAsks', WHERE WHAT IT READS IS OF BULK AT MOST 1048576: true; the input reads as it did. -/
def percentAsksUptoRow : OpenClaim := { program := "ytfbgmlophkbejaadoor", sum := "ecbf1d8e9fb8fd4df90d655a6406808df2d56f51f9c8b1a0b8a1eabb0a09459f", func := "postern/posternlaw03.PercentAsks", spec := "percentAsks", inPlace := ["internal/bytealg.IndexByteString"], unfollowed := true, recurses := true, named := ["unicode/utf8.first", "unicode/utf8.acceptRanges"], apart := false, laid := [("unicode/utf8.acceptRanges", laid_unicode_utf8_acceptRanges), ("unicode/utf8.first", laid_unicode_utf8_first)], narrowed := true }
def PercentAsksUptoSaid : Prop := percentAsksUptoRow.holds Tryd.pinned (OpenSpec.upto percentAsksSpec)

/-- 'posternlaw03.PercentReads', WHERE WHAT IT READS IS OF BULK AT MOST 1048576: true; the input reads as it did. -/
def percentReadsUptoRow : OpenClaim := { program := "ytfbgmlophkbejaadoor", sum := "ecbf1d8e9fb8fd4df90d655a6406808df2d56f51f9c8b1a0b8a1eabb0a09459f", func := "postern/posternlaw03.PercentReads", spec := "percentReads", inPlace := ["internal/bytealg.IndexByteString", "internal/bytealg.CountString", "internal/bytealg.IndexString", "internal/abi.NoEscape", "internal/bytealg.MakeNoZero"], unfollowed := true, recurses := true, named := ["unicode/utf8.first", "unicode/utf8.acceptRanges", "internal/bytealg.MaxLen"], apart := false, laid := [("unicode/utf8.acceptRanges", laid_unicode_utf8_acceptRanges), ("unicode/utf8.first", laid_unicode_utf8_first)], narrowed := true }
def PercentReadsUptoSaid : Prop := percentReadsUptoRow.holds Tryd.pinned (OpenSpec.upto percentReadsSpec)

/-- 'posternlaw03.PercentFields', WHERE WHAT IT READS IS OF BULK AT MOST 1048576: true; the input reads as it did. -/
def percentFieldsUptoRow : OpenClaim := { program := "ytfbgmlophkbejaadoor", sum := "ecbf1d8e9fb8fd4df90d655a6406808df2d56f51f9c8b1a0b8a1eabb0a09459f", func := "postern/posternlaw03.PercentFields", spec := "percentFields", inPlace := ["internal/bytealg.IndexByteString", "internal/bytealg.CountString", "internal/bytealg.IndexString", "internal/abi.NoEscape", "internal/bytealg.MakeNoZero"], unfollowed := true, recurses := true, named := ["unicode/utf8.first", "unicode/utf8.acceptRanges", "internal/bytealg.MaxLen"], apart := false, laid := [("unicode/utf8.acceptRanges", laid_unicode_utf8_acceptRanges), ("unicode/utf8.first", laid_unicode_utf8_first)], narrowed := true }
def PercentFieldsUptoSaid : Prop := percentFieldsUptoRow.holds Tryd.pinned (OpenSpec.upto percentFieldsSpec)

/-- 'posternlaw03.PercentWritten', WHERE WHAT IT READS IS OF BULK AT MOST 1048576: true; the input reads as it did. -/
def percentWrittenUptoRow : OpenClaim := { program := "ytfbgmlophkbejaadoor", sum := "ecbf1d8e9fb8fd4df90d655a6406808df2d56f51f9c8b1a0b8a1eabb0a09459f", func := "postern/posternlaw03.PercentWritten", spec := "percentWritten", inPlace := ["internal/bytealg.IndexByteString", "internal/abi.NoEscape", "internal/bytealg.CountString", "internal/bytealg.IndexString", "internal/bytealg.MakeNoZero"], unfollowed := true, recurses := true, named := ["internal/bytealg.MaxLen", "unicode/utf8.first", "unicode/utf8.acceptRanges"], apart := false, laid := [("unicode/utf8.acceptRanges", laid_unicode_utf8_acceptRanges), ("unicode/utf8.first", laid_unicode_utf8_first)], narrowed := true }
def PercentWrittenUptoSaid : Prop := percentWrittenUptoRow.holds Tryd.pinned (OpenSpec.upto percentWrittenSpec)

end Rows
end Go.Proofs.YtfbgmlophkbejaaDoor
