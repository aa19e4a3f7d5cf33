/-
  NARROWER THAN 'FOR EVERY INPUT', by the rows' own cells (each row's printed sentence says how): OpaqueParses: laid · OpaqueForbids: laid · OpaqueFixed: laid · OpaqueSame: laid · OpaqueBytes: laid · OpaqueAll: laid · OpaqueNormal: laid.
  DERIVED. THE GIVEN ROWS OF THIS SEAT. 7 by the template 'for every input the law returns true; each argument reads behind the call as it read before'; 0 by the template 'total and deterministic' (their statements: YtebpghpaglpdlaaDoorTotals.lean).
  GIVEN WITH THE SEED: the statements are not yours to turn. If you find one false, say at which input.
  Laid BY PROGRAM, IN A SANDBOX (cutbox-rows.mjs): the forced cells as the released guide's own fill.sh prints them over the translation aca156ea8438e99f… (all of the seat's roots in one cut). By AI agents, Wed Nov 11 2026. No macro, syntax, notation, axiom, sorry.
-/
import Derived.Test.YtebpghpaglpdlaaDoorChecked
import GoSem.PinnedTables
import GoSem.Claim
import GoSem.ClaimJoined
import GoSem.ClaimMapViews
import Derived.JoinedTies
import Derived.KernelRfl
namespace Go.Proofs.YtebpghpaglpdlaaDoor
/- THE CELL 'sum', in the pinned program and in every row, IS THE sha256 OF THE DUMP (.gsa) THAT YtebpghpaglpdlaaDoorProg.lean LOADS. Nothing in Lean hashes anything: it is a label: what it is worth is what the hold of that sum in a sandbox is worth. -/
noncomputable def Tryd.pinned : Pinned := { name := "ytebpghpaglpdlaadoor", sum := "aca156ea8438e99fb93269609478a0a62d0beb715d4d249202f4ae25868fc629", checked := Tryd.checked }
namespace Rows
def none {H : Type} : Left H := { results := [], args := [] }

/- WHAT THE LISTED PACKAGE-LEVEL VARIABLES READ AS WHEN THE CALL BEGINS. Each datum BY PROGRAM (the guide's laid-datum.mjs) off the statement by which the dump's own 'gosem.cut.vars' lays the variable. In a bare row this is a premise. The card (YtebpghpaglpdlaaDoorCards.lean) ties it to the program's text. -/
def laid_unicode_utf8_acceptRanges {H : Type} : DataW H := .agg [.agg [.lit (.int .u8 128), .lit (.int .u8 191)], .agg [.lit (.int .u8 160), .lit (.int .u8 191)], .agg [.lit (.int .u8 128), .lit (.int .u8 159)], .agg [.lit (.int .u8 144), .lit (.int .u8 191)], .agg [.lit (.int .u8 128), .lit (.int .u8 143)], .agg [.lit (.int .u8 0), .lit (.int .u8 0)], .agg [.lit (.int .u8 0), .lit (.int .u8 0)], .agg [.lit (.int .u8 0), .lit (.int .u8 0)], .agg [.lit (.int .u8 0), .lit (.int .u8 0)], .agg [.lit (.int .u8 0), .lit (.int .u8 0)], .agg [.lit (.int .u8 0), .lit (.int .u8 0)], .agg [.lit (.int .u8 0), .lit (.int .u8 0)], .agg [.lit (.int .u8 0), .lit (.int .u8 0)], .agg [.lit (.int .u8 0), .lit (.int .u8 0)], .agg [.lit (.int .u8 0), .lit (.int .u8 0)], .agg [.lit (.int .u8 0), .lit (.int .u8 0)]]
/-- One of Go's own tables, pinned by name: the form's constant. -/
def laid_unicode_utf8_first : DataW Unit := Go.Pinned.utf8First

/-- 'posternlaw22.OpaqueParses': WHATEVER THE INPUT: true; the input reads as it did. -/
def opaqueParsesSpec : ChangeSpec := { name := "opaqueParses", fn := fun _ => fun
  | [d] => { results := [.lit (.bool true)], args := [d] }
  | _ => none }
def opaqueParsesRow : OpenClaim := { program := "ytebpghpaglpdlaadoor", sum := "aca156ea8438e99fb93269609478a0a62d0beb715d4d249202f4ae25868fc629", func := "postern/posternlaw22.OpaqueParses", spec := "opaqueParses", inPlace := ["internal/abi.NoEscape"], unfollowed := true, recurses := true, named := ["unicode/utf8.first", "unicode/utf8.acceptRanges"], apart := false, laid := [("unicode/utf8.acceptRanges", laid_unicode_utf8_acceptRanges), ("unicode/utf8.first", laid_unicode_utf8_first)] }
def OpaqueParsesSaid : Prop := opaqueParsesRow.holds Tryd.pinned (OpenSpec.ofChange opaqueParsesSpec)

/-- ITS FALSE NEIGHBOUR: 'it returns false'. Refute it at one input. -/
def opaqueParsesWrong : ChangeSpec := { name := "opaqueParses", fn := fun _ => fun
  | [d] => { results := [.lit (.bool false)], args := [d] }
  | _ => none }
def OpaqueParsesWrongFalsely : Prop := opaqueParsesRow.holds Tryd.pinned (OpenSpec.ofChange opaqueParsesWrong)

/-- 'posternlaw22.OpaqueForbids': WHATEVER THE INPUT: true; the input reads as it did. -/
def opaqueForbidsSpec : ChangeSpec := { name := "opaqueForbids", fn := fun _ => fun
  | [d1, d2] => { results := [.lit (.bool true)], args := [d1, d2] }
  | _ => none }
def opaqueForbidsRow : OpenClaim := { program := "ytebpghpaglpdlaadoor", sum := "aca156ea8438e99fb93269609478a0a62d0beb715d4d249202f4ae25868fc629", func := "postern/posternlaw22.OpaqueForbids", spec := "opaqueForbids", inPlace := ["internal/abi.NoEscape"], unfollowed := true, recurses := true, named := ["unicode/utf8.first", "unicode/utf8.acceptRanges"], apart := false, laid := [("unicode/utf8.acceptRanges", laid_unicode_utf8_acceptRanges), ("unicode/utf8.first", laid_unicode_utf8_first)] }
def OpaqueForbidsSaid : Prop := opaqueForbidsRow.holds Tryd.pinned (OpenSpec.ofChange opaqueForbidsSpec)

/-- ITS FALSE NEIGHBOUR: 'it returns false'. Refute it at one input. -/
def opaqueForbidsWrong : ChangeSpec := { name := "opaqueForbids", fn := fun _ => fun
  | [d1, d2] => { results := [.lit (.bool false)], args := [d1, d2] }
  | _ => none }
def OpaqueForbidsWrongFalsely : Prop := opaqueForbidsRow.holds Tryd.pinned (OpenSpec.ofChange opaqueForbidsWrong)

/-- 'posternlaw22.OpaqueFixed': WHATEVER THE INPUT: true; the input reads as it did. -/
def opaqueFixedSpec : ChangeSpec := { name := "opaqueFixed", fn := fun _ => fun
  | [d] => { results := [.lit (.bool true)], args := [d] }
  | _ => none }
def opaqueFixedRow : OpenClaim := { program := "ytebpghpaglpdlaadoor", sum := "aca156ea8438e99fb93269609478a0a62d0beb715d4d249202f4ae25868fc629", func := "postern/posternlaw22.OpaqueFixed", spec := "opaqueFixed", inPlace := ["internal/abi.NoEscape", "internal/bytealg.IndexByteString"], unfollowed := true, recurses := true, named := ["unicode/utf8.first", "unicode/utf8.acceptRanges"], apart := false, laid := [("unicode/utf8.acceptRanges", laid_unicode_utf8_acceptRanges), ("unicode/utf8.first", laid_unicode_utf8_first)] }
def OpaqueFixedSaid : Prop := opaqueFixedRow.holds Tryd.pinned (OpenSpec.ofChange opaqueFixedSpec)

/-- ITS FALSE NEIGHBOUR: 'it returns false'. Refute it at one input. -/
def opaqueFixedWrong : ChangeSpec := { name := "opaqueFixed", fn := fun _ => fun
  | [d] => { results := [.lit (.bool false)], args := [d] }
  | _ => none }
def OpaqueFixedWrongFalsely : Prop := opaqueFixedRow.holds Tryd.pinned (OpenSpec.ofChange opaqueFixedWrong)

/-- 'posternlaw22.OpaqueSame': WHATEVER THE INPUT: true; the input reads as it did. -/
def opaqueSameSpec : ChangeSpec := { name := "opaqueSame", fn := fun _ => fun
  | [d1, d2] => { results := [.lit (.bool true)], args := [d1, d2] }
  | _ => none }
def opaqueSameRow : OpenClaim := { program := "ytebpghpaglpdlaadoor", sum := "aca156ea8438e99fb93269609478a0a62d0beb715d4d249202f4ae25868fc629", func := "postern/posternlaw22.OpaqueSame", spec := "opaqueSame", inPlace := ["internal/abi.NoEscape", "internal/bytealg.IndexByteString"], unfollowed := true, recurses := true, named := ["unicode/utf8.first", "unicode/utf8.acceptRanges"], apart := false, laid := [("unicode/utf8.acceptRanges", laid_unicode_utf8_acceptRanges), ("unicode/utf8.first", laid_unicode_utf8_first)] }
def OpaqueSameSaid : Prop := opaqueSameRow.holds Tryd.pinned (OpenSpec.ofChange opaqueSameSpec)

/-- ITS FALSE NEIGHBOUR: 'it returns false'. Refute it at one input. -/
def opaqueSameWrong : ChangeSpec := { name := "opaqueSame", fn := fun _ => fun
  | [d1, d2] => { results := [.lit (.bool false)], args := [d1, d2] }
  | _ => none }
def OpaqueSameWrongFalsely : Prop := opaqueSameRow.holds Tryd.pinned (OpenSpec.ofChange opaqueSameWrong)

/-- 'posternlaw22.OpaqueBytes': WHATEVER THE INPUT: true; the input reads as it did. -/
def opaqueBytesSpec : ChangeSpec := { name := "opaqueBytes", fn := fun _ => fun
  | [d] => { results := [.lit (.bool true)], args := [d] }
  | _ => none }
def opaqueBytesRow : OpenClaim := { program := "ytebpghpaglpdlaadoor", sum := "aca156ea8438e99fb93269609478a0a62d0beb715d4d249202f4ae25868fc629", func := "postern/posternlaw22.OpaqueBytes", spec := "opaqueBytes", inPlace := ["internal/abi.NoEscape", "internal/bytealg.IndexByteString"], unfollowed := true, recurses := true, named := ["unicode/utf8.first", "unicode/utf8.acceptRanges"], apart := false, laid := [("unicode/utf8.acceptRanges", laid_unicode_utf8_acceptRanges), ("unicode/utf8.first", laid_unicode_utf8_first)] }
def OpaqueBytesSaid : Prop := opaqueBytesRow.holds Tryd.pinned (OpenSpec.ofChange opaqueBytesSpec)

/-- ITS FALSE NEIGHBOUR: 'it returns false'. Refute it at one input. -/
def opaqueBytesWrong : ChangeSpec := { name := "opaqueBytes", fn := fun _ => fun
  | [d] => { results := [.lit (.bool false)], args := [d] }
  | _ => none }
def OpaqueBytesWrongFalsely : Prop := opaqueBytesRow.holds Tryd.pinned (OpenSpec.ofChange opaqueBytesWrong)

/-- 'posternlaw22.OpaqueAll': WHATEVER THE INPUT: true; the input reads as it did. -/
def opaqueAllSpec : ChangeSpec := { name := "opaqueAll", fn := fun _ => fun
  | [d1, d2] => { results := [.lit (.bool true)], args := [d1, d2] }
  | _ => none }
def opaqueAllRow : OpenClaim := { program := "ytebpghpaglpdlaadoor", sum := "aca156ea8438e99fb93269609478a0a62d0beb715d4d249202f4ae25868fc629", func := "postern/posternlaw22.OpaqueAll", spec := "opaqueAll", inPlace := ["internal/abi.NoEscape", "internal/bytealg.IndexByteString"], unfollowed := true, recurses := true, named := ["unicode/utf8.first", "unicode/utf8.acceptRanges"], apart := false, laid := [("unicode/utf8.acceptRanges", laid_unicode_utf8_acceptRanges), ("unicode/utf8.first", laid_unicode_utf8_first)] }
def OpaqueAllSaid : Prop := opaqueAllRow.holds Tryd.pinned (OpenSpec.ofChange opaqueAllSpec)

/-- ITS FALSE NEIGHBOUR: 'it returns false'. Refute it at one input. -/
def opaqueAllWrong : ChangeSpec := { name := "opaqueAll", fn := fun _ => fun
  | [d1, d2] => { results := [.lit (.bool false)], args := [d1, d2] }
  | _ => none }
def OpaqueAllWrongFalsely : Prop := opaqueAllRow.holds Tryd.pinned (OpenSpec.ofChange opaqueAllWrong)

/-- 'posternlaw22.OpaqueNormal': WHATEVER THE INPUT: true; the input reads as it did. -/
def opaqueNormalSpec : ChangeSpec := { name := "opaqueNormal", fn := fun _ => fun
  | [d] => { results := [.lit (.bool true)], args := [d] }
  | _ => none }
def opaqueNormalRow : OpenClaim := { program := "ytebpghpaglpdlaadoor", sum := "aca156ea8438e99fb93269609478a0a62d0beb715d4d249202f4ae25868fc629", func := "postern/posternlaw22.OpaqueNormal", spec := "opaqueNormal", inPlace := ["internal/abi.NoEscape", "internal/bytealg.IndexByteString"], unfollowed := true, recurses := true, named := ["unicode/utf8.first", "unicode/utf8.acceptRanges"], apart := false, laid := [("unicode/utf8.acceptRanges", laid_unicode_utf8_acceptRanges), ("unicode/utf8.first", laid_unicode_utf8_first)] }
def OpaqueNormalSaid : Prop := opaqueNormalRow.holds Tryd.pinned (OpenSpec.ofChange opaqueNormalSpec)

/-- ITS FALSE NEIGHBOUR: 'it returns false'. Refute it at one input. -/
def opaqueNormalWrong : ChangeSpec := { name := "opaqueNormal", fn := fun _ => fun
  | [d] => { results := [.lit (.bool false)], args := [d] }
  | _ => none }
def OpaqueNormalWrongFalsely : Prop := opaqueNormalRow.holds Tryd.pinned (OpenSpec.ofChange opaqueNormalWrong)

/- THE SECOND FORM. 'bulk': how many values and letters a reading holds, each counted each time it is reached (what is shared counts as often as it is met; a slice's spare places count too). A statement '..UptoSaid' is the law's where the arguments, and the package variables that the reading takes, are together of bulk at most 1048576: NARROWER than '..Said'. Prove '..Said' where nothing that the law and all that it calls make is longer than what came in: it says more and counts as full. Else prove '..UptoSaid'. A law counts once. -/
mutual
def uptoBulk {H : Type} : DataW H → Nat
  | .lit (.string bytes) => bytes.length + 1
  | .lit _ => 1
  | .nil => 1
  | .ptr d => uptoBulk d + 1
  | .slice elems spare => uptoBulkAll elems + uptoBulkAll spare + 1
  | .agg parts => uptoBulkAll parts + 1
  | .iface _ d => uptoBulk d + 1
  | .map entries => uptoBulkEntries entries + 1
  | .held _ => 1
def uptoBulkAll {H : Type} : List (DataW H) → Nat
  | [] => 0
  | d :: r => uptoBulk d + uptoBulkAll r
def uptoBulkEntries {H : Type} : List (Lit × DataW H) → Nat
  | [] => 0
  | x :: r => uptoBulkEntry x + uptoBulkEntries r
def uptoBulkEntry {H : Type} : Lit × DataW H → Nat
  | (.string bytes, d) => bytes.length + uptoBulk d + 1
  | (_, d) => uptoBulk d + 1
 end
def uptoSmall : (H : Type) → List (DataW H) → Bool := fun _ ds => decide (uptoBulkAll ds ≤ 1048576)
def OpenSpec.upto (s : _root_.Go.ChangeSpec) : _root_.Go.OpenSpec := { _root_.Go.OpenSpec.ofChange s with cond := some uptoSmall }

/-- 'posternlaw22.OpaqueParses', WHERE WHAT IT READS IS OF BULK AT MOST 1048576: true; the input reads as it did. -/
def opaqueParsesUptoRow : OpenClaim := { program := "ytebpghpaglpdlaadoor", sum := "aca156ea8438e99fb93269609478a0a62d0beb715d4d249202f4ae25868fc629", func := "postern/posternlaw22.OpaqueParses", spec := "opaqueParses", inPlace := ["internal/abi.NoEscape"], unfollowed := true, recurses := true, named := ["unicode/utf8.first", "unicode/utf8.acceptRanges"], apart := false, laid := [("unicode/utf8.acceptRanges", laid_unicode_utf8_acceptRanges), ("unicode/utf8.first", laid_unicode_utf8_first)], narrowed := true }
def OpaqueParsesUptoSaid : Prop := opaqueParsesUptoRow.holds Tryd.pinned (OpenSpec.upto opaqueParsesSpec)

/-- 'posternlaw22.OpaqueForbids', WHERE WHAT IT READS IS OF BULK AT MOST 1048576: true; the input reads as it did. -/
def opaqueForbidsUptoRow : OpenClaim := { program := "ytebpghpaglpdlaadoor", sum := "aca156ea8438e99fb93269609478a0a62d0beb715d4d249202f4ae25868fc629", func := "postern/posternlaw22.OpaqueForbids", spec := "opaqueForbids", inPlace := ["internal/abi.NoEscape"], unfollowed := true, recurses := true, named := ["unicode/utf8.first", "unicode/utf8.acceptRanges"], apart := false, laid := [("unicode/utf8.acceptRanges", laid_unicode_utf8_acceptRanges), ("unicode/utf8.first", laid_unicode_utf8_first)], narrowed := true }
def OpaqueForbidsUptoSaid : Prop := opaqueForbidsUptoRow.holds Tryd.pinned (OpenSpec.upto opaqueForbidsSpec)

/-- 'posternlaw22.OpaqueFixed', WHERE WHAT IT READS IS OF BULK AT MOST 1048576: true; the input reads as it did. -/
def opaqueFixedUptoRow : OpenClaim := { program := "ytebpghpaglpdlaadoor", sum := "aca156ea8438e99fb93269609478a0a62d0beb715d4d249202f4ae25868fc629", func := "postern/posternlaw22.OpaqueFixed", spec := "opaqueFixed", inPlace := ["internal/abi.NoEscape", "internal/bytealg.IndexByteString"], unfollowed := true, recurses := true, named := ["unicode/utf8.first", "unicode/utf8.acceptRanges"], apart := false, laid := [("unicode/utf8.acceptRanges", laid_unicode_utf8_acceptRanges), ("unicode/utf8.first", laid_unicode_utf8_first)], narrowed := true }
def OpaqueFixedUptoSaid : Prop := opaqueFixedUptoRow.holds Tryd.pinned (OpenSpec.upto opaqueFixedSpec)

/-- 'posternlaw22.OpaqueSame', WHERE WHAT IT READS IS OF BULK AT MOST 1048576: true; the input reads as it did. -/
def opaqueSameUptoRow : OpenClaim := { program := "ytebpghpaglpdlaadoor", sum := "aca156ea8438e99fb93269609478a0a62d0beb715d4d249202f4ae25868fc629", func := "postern/posternlaw22.OpaqueSame", spec := "opaqueSame", inPlace := ["internal/abi.NoEscape", "internal/bytealg.IndexByteString"], unfollowed := true, recurses := true, named := ["unicode/utf8.first", "unicode/utf8.acceptRanges"], apart := false, laid := [("unicode/utf8.acceptRanges", laid_unicode_utf8_acceptRanges), ("unicode/utf8.first", laid_unicode_utf8_first)], narrowed := true }
def OpaqueSameUptoSaid : Prop := opaqueSameUptoRow.holds Tryd.pinned (OpenSpec.upto opaqueSameSpec)

/-- 'posternlaw22.OpaqueBytes', WHERE WHAT IT READS IS OF BULK AT MOST 1048576: true; the input reads as it did. -/
def opaqueBytesUptoRow : OpenClaim := { program := "ytebpghpaglpdlaadoor", sum := "aca156ea8438e99fb93269609478a0a62d0beb715d4d249202f4ae25868fc629", func := "postern/posternlaw22.OpaqueBytes", spec := "opaqueBytes", inPlace := ["internal/abi.NoEscape", "internal/bytealg.IndexByteString"], unfollowed := true, recurses := true, named := ["unicode/utf8.first", "unicode/utf8.acceptRanges"], apart := false, laid := [("unicode/utf8.acceptRanges", laid_unicode_utf8_acceptRanges), ("unicode/utf8.first", laid_unicode_utf8_first)], narrowed := true }
def OpaqueBytesUptoSaid : Prop := opaqueBytesUptoRow.holds Tryd.pinned (OpenSpec.upto opaqueBytesSpec)

/-- 'posternlaw22.OpaqueAll', WHERE WHAT IT READS IS OF BULK AT MOST 1048576: true; the input reads as it did. -/
def opaqueAllUptoRow : OpenClaim := { program := "ytebpghpaglpdlaadoor", sum := "aca156ea8438e99fb93269609478a0a62d0beb715d4d249202f4ae25868fc629", func := "postern/posternlaw22.OpaqueAll", spec := "opaqueAll", inPlace := ["internal/abi.NoEscape", "internal/bytealg.IndexByteString"], unfollowed := true, recurses := true, named := ["unicode/utf8.first", "unicode/utf8.acceptRanges"], apart := false, laid := [("unicode/utf8.acceptRanges", laid_unicode_utf8_acceptRanges), ("unicode/utf8.first", laid_unicode_utf8_first)], narrowed := true }
def OpaqueAllUptoSaid : Prop := opaqueAllUptoRow.holds Tryd.pinned (OpenSpec.upto opaqueAllSpec)

/-- 'posternlaw22.OpaqueNormal', WHERE WHAT IT READS IS OF BULK AT MOST 1048576: true; the input reads as it did. -/
def opaqueNormalUptoRow : OpenClaim := { program := "ytebpghpaglpdlaadoor", sum := "aca156ea8438e99fb93269609478a0a62d0beb715d4d249202f4ae25868fc629", func := "postern/posternlaw22.OpaqueNormal", spec := "opaqueNormal", inPlace := ["internal/abi.NoEscape", "internal/bytealg.IndexByteString"], unfollowed := true, recurses := true, named := ["unicode/utf8.first", "unicode/utf8.acceptRanges"], apart := false, laid := [("unicode/utf8.acceptRanges", laid_unicode_utf8_acceptRanges), ("unicode/utf8.first", laid_unicode_utf8_first)], narrowed := true }
def OpaqueNormalUptoSaid : Prop := opaqueNormalUptoRow.holds Tryd.pinned (OpenSpec.upto opaqueNormalSpec)

end Rows
end Go.Proofs.YtebpghpaglpdlaaDoor
