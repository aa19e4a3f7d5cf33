/-
  No cell of these rows narrows 'for every input' (looked for: loops, veiled, ifaces, maps, wideKeys, modest, calm, conditions, laid).
  DERIVED. THE GIVEN ROWS OF THIS SEAT. 4 by the template 'for every input the law returns true; each argument reads behind the call as it read before'; 0 by the template 'total and deterministic' (their statements: YtfbgmlophkbejaaTotals.lean).
  GIVEN WITH THE SEED: the statements are not yours to turn. If you find one false, say at which input.
  Laid BY PROGRAM, IN A SANDBOX (cutbox-rows.mjs): the forced cells as the released guide's own fill.sh prints them over the translation 1dd09498edca5d18… (all of the seat's roots in one cut). By AI agents, Wed Nov 11 2026. No macro, syntax, notation, axiom, sorry.
-/
import Derived.Test.YtfbgmlophkbejaaChecked
import GoSem.Claim
import GoSem.ClaimJoined
import GoSem.ClaimMapViews
import Derived.JoinedTies
import Derived.KernelRfl
namespace Go.Proofs.Ytfbgmlophkbejaa
/- THE CELL 'sum', in the pinned program and in every row, IS THE sha256 OF THE DUMP (.gsa) THAT YtfbgmlophkbejaaProg.lean LOADS. Nothing in Lean hashes anything: it is a label: what it is worth is what the hold of that sum in a sandbox is worth. -/
noncomputable def Try.pinned : Pinned := { name := "ytfbgmlophkbejaa", sum := "1dd09498edca5d18305dd9c68b92bf5497b0b84bcdc535bac0c0f4689b203e22", checked := Try.checked }
namespace Rows
def none {H : Type} : Left H := { results := [], args := [] }

/-- 'posternlaw03.PercentDecodes': WHATEVER THE INPUT: true; the input reads as it did. -/
def percentDecodesSpec : ChangeSpec := { name := "percentDecodes", fn := fun _ => fun
  | [d] => { results := [.lit (.bool true)], args := [d] }
  | _ => none }
def percentDecodesRow : OpenClaim := { program := "ytfbgmlophkbejaa", sum := "1dd09498edca5d18305dd9c68b92bf5497b0b84bcdc535bac0c0f4689b203e22", func := "postern/posternlaw03.PercentDecodes", spec := "percentDecodes", inPlace := ["internal/bytealg.IndexByteString"], unfollowed := true, recurses := true, apart := false }
def PercentDecodesSaid : Prop := percentDecodesRow.holds Try.pinned (OpenSpec.ofChange percentDecodesSpec)

/-- ITS FALSE NEIGHBOUR: 'it returns false'. Refute it at one input. -/
def percentDecodesWrong : ChangeSpec := { name := "percentDecodes", fn := fun _ => fun
  | [d] => { results := [.lit (.bool false)], args := [d] }
  | _ => none }
def PercentDecodesWrongFalsely : Prop := percentDecodesRow.holds Try.pinned (OpenSpec.ofChange percentDecodesWrong)

/-- 'posternlaw03.PercentFeeds': WHATEVER THE INPUT: true; the input reads as it did. -/
def percentFeedsSpec : ChangeSpec := { name := "percentFeeds", fn := fun _ => fun
  | [d] => { results := [.lit (.bool true)], args := [d] }
  | _ => none }
def percentFeedsRow : OpenClaim := { program := "ytfbgmlophkbejaa", sum := "1dd09498edca5d18305dd9c68b92bf5497b0b84bcdc535bac0c0f4689b203e22", func := "postern/posternlaw03.PercentFeeds", spec := "percentFeeds", inPlace := ["internal/bytealg.IndexByteString"], unfollowed := true, recurses := true, apart := false }
def PercentFeedsSaid : Prop := percentFeedsRow.holds Try.pinned (OpenSpec.ofChange percentFeedsSpec)

/-- ITS FALSE NEIGHBOUR: 'it returns false'. Refute it at one input. -/
def percentFeedsWrong : ChangeSpec := { name := "percentFeeds", fn := fun _ => fun
  | [d] => { results := [.lit (.bool false)], args := [d] }
  | _ => none }
def PercentFeedsWrongFalsely : Prop := percentFeedsRow.holds Try.pinned (OpenSpec.ofChange percentFeedsWrong)

/-- 'posternlaw03.PercentTwo': WHATEVER THE INPUT: true; the input reads as it did. -/
def percentTwoSpec : ChangeSpec := { name := "percentTwo", fn := fun _ => fun
  | [d1, d2] => { results := [.lit (.bool true)], args := [d1, d2] }
  | _ => none }
def percentTwoRow : OpenClaim := { program := "ytfbgmlophkbejaa", sum := "1dd09498edca5d18305dd9c68b92bf5497b0b84bcdc535bac0c0f4689b203e22", func := "postern/posternlaw03.PercentTwo", spec := "percentTwo", inPlace := ["internal/bytealg.IndexByteString"], unfollowed := true, recurses := true, apart := false }
def PercentTwoSaid : Prop := percentTwoRow.holds Try.pinned (OpenSpec.ofChange percentTwoSpec)

/-- ITS FALSE NEIGHBOUR: 'it returns false'. Refute it at one input. -/
def percentTwoWrong : ChangeSpec := { name := "percentTwo", fn := fun _ => fun
  | [d1, d2] => { results := [.lit (.bool false)], args := [d1, d2] }
  | _ => none }
def PercentTwoWrongFalsely : Prop := percentTwoRow.holds Try.pinned (OpenSpec.ofChange percentTwoWrong)

/-- 'posternlaw03.PercentEncodes': WHATEVER THE INPUT: true; the input reads as it did. -/
def percentEncodesSpec : ChangeSpec := { name := "percentEncodes", fn := fun _ => fun
  | [d1, d2] => { results := [.lit (.bool true)], args := [d1, d2] }
  | _ => none }
def percentEncodesRow : OpenClaim := { program := "ytfbgmlophkbejaa", sum := "1dd09498edca5d18305dd9c68b92bf5497b0b84bcdc535bac0c0f4689b203e22", func := "postern/posternlaw03.PercentEncodes", spec := "percentEncodes", inPlace := ["internal/bytealg.IndexByteString", "internal/abi.NoEscape"], unfollowed := true, recurses := true, apart := false }
def PercentEncodesSaid : Prop := percentEncodesRow.holds Try.pinned (OpenSpec.ofChange percentEncodesSpec)

/-- ITS FALSE NEIGHBOUR: 'it returns false'. Refute it at one input. -/
def percentEncodesWrong : ChangeSpec := { name := "percentEncodes", fn := fun _ => fun
  | [d1, d2] => { results := [.lit (.bool false)], args := [d1, d2] }
  | _ => none }
def PercentEncodesWrongFalsely : Prop := percentEncodesRow.holds Try.pinned (OpenSpec.ofChange percentEncodesWrong)

/- THE SECOND FORM. 'bulk': how many values and letters a reading holds, each counted each time it is reached (what is shared counts as often as it is met; a slice's spare places count too). A statement '..UptoSaid' is the law's where the arguments, and the package variables that the reading takes, are together of bulk at most 1048576: NARROWER than '..Said'. Prove '..Said' where nothing that the law and all that it calls make is longer than what came in: it says more and counts as full. Else prove '..UptoSaid'. A law counts once. -/
mutual
def uptoBulk {H : Type} : DataW H → Nat
  | .lit (.string bytes) => bytes.length + 1
  | .lit _ => 1
  | .nil => 1
  | .ptr d => uptoBulk d + 1
  | .slice elems spare => uptoBulkAll elems + uptoBulkAll spare + 1
  | .agg parts => uptoBulkAll parts + 1
  | .iface _ d => uptoBulk d + 1
  | .map entries => uptoBulkEntries entries + 1
  | .held _ => 1
def uptoBulkAll {H : Type} : List (DataW H) → Nat
  | [] => 0
  | d :: r => uptoBulk d + uptoBulkAll r
def uptoBulkEntries {H : Type} : List (Lit × DataW H) → Nat
  | [] => 0
  | x :: r => uptoBulkEntry x + uptoBulkEntries r
def uptoBulkEntry {H : Type} : Lit × DataW H → Nat
  | (.string bytes, d) => bytes.length + uptoBulk d + 1
  | (_, d) => uptoBulk d + 1
 end
def uptoSmall : (H : Type) → List (DataW H) → Bool := fun _ ds => decide (uptoBulkAll ds ≤ 1048576)
def OpenSpec.upto (s : _root_.Go.ChangeSpec) : _root_.Go.OpenSpec := { _root_.Go.OpenSpec.ofChange s with cond := some uptoSmall }

/-- 'posternlaw03.PercentDecodes', WHERE WHAT IT READS IS OF BULK AT MOST 1048576: true; the input reads as it did. -/
def percentDecodesUptoRow : OpenClaim := { program := "ytfbgmlophkbejaa", sum := "1dd09498edca5d18305dd9c68b92bf5497b0b84bcdc535bac0c0f4689b203e22", func := "postern/posternlaw03.PercentDecodes", spec := "percentDecodes", inPlace := ["internal/bytealg.IndexByteString"], unfollowed := true, recurses := true, apart := false, narrowed := true }
def PercentDecodesUptoSaid : Prop := percentDecodesUptoRow.holds Try.pinned (OpenSpec.upto percentDecodesSpec)

/-- 'posternlaw03.PercentFeeds', WHERE WHAT IT READS IS OF BULK AT MOST 1048576: true; the input reads as it did. -/
def percentFeedsUptoRow : OpenClaim := { program := "ytfbgmlophkbejaa", sum := "1dd09498edca5d18305dd9c68b92bf5497b0b84bcdc535bac0c0f4689b203e22", func := "postern/posternlaw03.PercentFeeds", spec := "percentFeeds", inPlace := ["internal/bytealg.IndexByteString"], unfollowed := true, recurses := true, apart := false, narrowed := true }
def PercentFeedsUptoSaid : Prop := percentFeedsUptoRow.holds Try.pinned (OpenSpec.upto percentFeedsSpec)

/-- 'posternlaw03.PercentTwo', WHERE WHAT IT READS IS OF BULK AT MOST 1048576: true; the input reads as it did. -/
def percentTwoUptoRow : OpenClaim := { program := "ytfbgmlophkbejaa", sum := "1dd09498edca5d18305dd9c68b92bf5497b0b84bcdc535bac0c0f4689b203e22", func := "postern/posternlaw03.PercentTwo", spec := "percentTwo", inPlace := ["internal/bytealg.IndexByteString"], unfollowed := true, recurses := true, apart := false, narrowed := true }
def PercentTwoUptoSaid : Prop := percentTwoUptoRow.holds Try.pinned (OpenSpec.upto percentTwoSpec)

/-- 'posternlaw03.PercentEncodes', WHERE WHAT IT READS IS OF BULK AT MOST 1048576: true; the input reads as it did. -/
def percentEncodesUptoRow : OpenClaim := { program := "ytfbgmlophkbejaa", sum := "1dd09498edca5d18305dd9c68b92bf5497b0b84bcdc535bac0c0f4689b203e22", func := "postern/posternlaw03.PercentEncodes", spec := "percentEncodes", inPlace := ["internal/bytealg.IndexByteString", "internal/abi.NoEscape"], unfollowed := true, recurses := true, apart := false, narrowed := true }
def PercentEncodesUptoSaid : Prop := percentEncodesUptoRow.holds Try.pinned (OpenSpec.upto percentEncodesSpec)

end Rows
end Go.Proofs.Ytfbgmlophkbejaa
