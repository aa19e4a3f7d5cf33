/-
  No cell of these rows narrows 'for every input' (looked for: loops, veiled, ifaces, maps, wideKeys, modest, calm, conditions, laid).
  DERIVED. THE GIVEN ROWS OF THIS SEAT. 7 by the template 'for every input the law returns true; each argument reads behind the call as it read before'; 0 by the template 'total and deterministic' (their statements: YtjiapggmiddpdaaTotals.lean).
  GIVEN WITH THE SEED: the statements are not yours to turn. If you find one false, say at which input.
  Laid BY PROGRAM, IN A SANDBOX (cutbox-rows.mjs): the forced cells as the released guide's own fill.sh prints them over the translation 294b1ea559c68f25… (all of the seat's roots in one cut). By AI agents, Wed Nov 11 2026. No macro, syntax, notation, axiom, sorry.
-/
import Derived.Test.YtjiapggmiddpdaaChecked
import GoSem.Claim
import GoSem.ClaimJoined
import GoSem.ClaimMapViews
import Derived.JoinedTies
import Derived.KernelRfl
namespace Go.Proofs.Ytjiapggmiddpdaa
/- THE CELL 'sum', in the pinned program and in every row, IS THE sha256 OF THE DUMP (.gsa) THAT YtjiapggmiddpdaaProg.lean LOADS. Nothing in Lean hashes anything: it is a label: what it is worth is what the hold of that sum in a sandbox is worth. -/
noncomputable def Try.pinned : Pinned := { name := "ytjiapggmiddpdaa", sum := "294b1ea559c68f2587304b91a8d12d47ab5f056d122ae7ed5f94be4fd72e80e5", checked := Try.checked }
namespace Rows
def none {H : Type} : Left H := { results := [], args := [] }

/-- 'posternlaw01.OctetFinds': WHATEVER THE INPUT: true; the input reads as it did. -/
def octetFindsSpec : ChangeSpec := { name := "octetFinds", fn := fun _ => fun
  | [d1, d2, d3] => { results := [.lit (.bool true)], args := [d1, d2, d3] }
  | _ => none }
def octetFindsRow : OpenClaim := { program := "ytjiapggmiddpdaa", sum := "294b1ea559c68f2587304b91a8d12d47ab5f056d122ae7ed5f94be4fd72e80e5", func := "postern/posternlaw01.OctetFinds", spec := "octetFinds", apart := false }
def OctetFindsSaid : Prop := octetFindsRow.holds Try.pinned (OpenSpec.ofChange octetFindsSpec)

/-- ITS FALSE NEIGHBOUR: 'it returns false'. Refute it at one input. -/
def octetFindsWrong : ChangeSpec := { name := "octetFinds", fn := fun _ => fun
  | [d1, d2, d3] => { results := [.lit (.bool false)], args := [d1, d2, d3] }
  | _ => none }
def OctetFindsWrongFalsely : Prop := octetFindsRow.holds Try.pinned (OpenSpec.ofChange octetFindsWrong)

/-- 'posternlaw01.OctetClasses': WHATEVER THE INPUT: true; the input reads as it did. -/
def octetClassesSpec : ChangeSpec := { name := "octetClasses", fn := fun _ => fun
  | [d1, d2] => { results := [.lit (.bool true)], args := [d1, d2] }
  | _ => none }
def octetClassesRow : OpenClaim := { program := "ytjiapggmiddpdaa", sum := "294b1ea559c68f2587304b91a8d12d47ab5f056d122ae7ed5f94be4fd72e80e5", func := "postern/posternlaw01.OctetClasses", spec := "octetClasses", unfollowed := true, recurses := true, apart := false }
def OctetClassesSaid : Prop := octetClassesRow.holds Try.pinned (OpenSpec.ofChange octetClassesSpec)

/-- ITS FALSE NEIGHBOUR: 'it returns false'. Refute it at one input. -/
def octetClassesWrong : ChangeSpec := { name := "octetClasses", fn := fun _ => fun
  | [d1, d2] => { results := [.lit (.bool false)], args := [d1, d2] }
  | _ => none }
def OctetClassesWrongFalsely : Prop := octetClassesRow.holds Try.pinned (OpenSpec.ofChange octetClassesWrong)

/-- 'posternlaw01.OctetLaws': WHATEVER THE INPUT: true; the input reads as it did. -/
def octetLawsSpec : ChangeSpec := { name := "octetLaws", fn := fun _ => fun
  | [d1, d2] => { results := [.lit (.bool true)], args := [d1, d2] }
  | _ => none }
def octetLawsRow : OpenClaim := { program := "ytjiapggmiddpdaa", sum := "294b1ea559c68f2587304b91a8d12d47ab5f056d122ae7ed5f94be4fd72e80e5", func := "postern/posternlaw01.OctetLaws", spec := "octetLaws", apart := false }
def OctetLawsSaid : Prop := octetLawsRow.holds Try.pinned (OpenSpec.ofChange octetLawsSpec)

/-- ITS FALSE NEIGHBOUR: 'it returns false'. Refute it at one input. -/
def octetLawsWrong : ChangeSpec := { name := "octetLaws", fn := fun _ => fun
  | [d1, d2] => { results := [.lit (.bool false)], args := [d1, d2] }
  | _ => none }
def OctetLawsWrongFalsely : Prop := octetLawsRow.holds Try.pinned (OpenSpec.ofChange octetLawsWrong)

/-- 'posternlaw01.OctetSets': WHATEVER THE INPUT: true; the input reads as it did. -/
def octetSetsSpec : ChangeSpec := { name := "octetSets", fn := fun _ => fun
  | [d1, d2, d3] => { results := [.lit (.bool true)], args := [d1, d2, d3] }
  | _ => none }
def octetSetsRow : OpenClaim := { program := "ytjiapggmiddpdaa", sum := "294b1ea559c68f2587304b91a8d12d47ab5f056d122ae7ed5f94be4fd72e80e5", func := "postern/posternlaw01.OctetSets", spec := "octetSets", apart := false }
def OctetSetsSaid : Prop := octetSetsRow.holds Try.pinned (OpenSpec.ofChange octetSetsSpec)

/-- ITS FALSE NEIGHBOUR: 'it returns false'. Refute it at one input. -/
def octetSetsWrong : ChangeSpec := { name := "octetSets", fn := fun _ => fun
  | [d1, d2, d3] => { results := [.lit (.bool false)], args := [d1, d2, d3] }
  | _ => none }
def OctetSetsWrongFalsely : Prop := octetSetsRow.holds Try.pinned (OpenSpec.ofChange octetSetsWrong)

/-- 'posternlaw01.OctetNamed': WHATEVER THE INPUT: true; the input reads as it did. -/
def octetNamedSpec : ChangeSpec := { name := "octetNamed", fn := fun _ => fun
  | [d1, d2] => { results := [.lit (.bool true)], args := [d1, d2] }
  | _ => none }
def octetNamedRow : OpenClaim := { program := "ytjiapggmiddpdaa", sum := "294b1ea559c68f2587304b91a8d12d47ab5f056d122ae7ed5f94be4fd72e80e5", func := "postern/posternlaw01.OctetNamed", spec := "octetNamed", apart := false }
def OctetNamedSaid : Prop := octetNamedRow.holds Try.pinned (OpenSpec.ofChange octetNamedSpec)

/-- ITS FALSE NEIGHBOUR: 'it returns false'. Refute it at one input. -/
def octetNamedWrong : ChangeSpec := { name := "octetNamed", fn := fun _ => fun
  | [d1, d2] => { results := [.lit (.bool false)], args := [d1, d2] }
  | _ => none }
def OctetNamedWrongFalsely : Prop := octetNamedRow.holds Try.pinned (OpenSpec.ofChange octetNamedWrong)

/-- 'posternlaw01.OctetBack': WHATEVER THE INPUT: true; the input reads as it did. -/
def octetBackSpec : ChangeSpec := { name := "octetBack", fn := fun _ => fun
  | [d1, d2, d3] => { results := [.lit (.bool true)], args := [d1, d2, d3] }
  | _ => none }
def octetBackRow : OpenClaim := { program := "ytjiapggmiddpdaa", sum := "294b1ea559c68f2587304b91a8d12d47ab5f056d122ae7ed5f94be4fd72e80e5", func := "postern/posternlaw01.OctetBack", spec := "octetBack", inPlace := ["internal/bytealg.IndexByteString", "math/bits.Add64"], unfollowed := true, recurses := true, apart := false }
def OctetBackSaid : Prop := octetBackRow.holds Try.pinned (OpenSpec.ofChange octetBackSpec)

/-- ITS FALSE NEIGHBOUR: 'it returns false'. Refute it at one input. -/
def octetBackWrong : ChangeSpec := { name := "octetBack", fn := fun _ => fun
  | [d1, d2, d3] => { results := [.lit (.bool false)], args := [d1, d2, d3] }
  | _ => none }
def OctetBackWrongFalsely : Prop := octetBackRow.holds Try.pinned (OpenSpec.ofChange octetBackWrong)

/-- 'posternlaw01.OctetNumbers': WHATEVER THE INPUT: true; the input reads as it did. -/
def octetNumbersSpec : ChangeSpec := { name := "octetNumbers", fn := fun _ => fun
  | [d1, d2, d3] => { results := [.lit (.bool true)], args := [d1, d2, d3] }
  | _ => none }
def octetNumbersRow : OpenClaim := { program := "ytjiapggmiddpdaa", sum := "294b1ea559c68f2587304b91a8d12d47ab5f056d122ae7ed5f94be4fd72e80e5", func := "postern/posternlaw01.OctetNumbers", spec := "octetNumbers", inPlace := ["internal/bytealg.IndexByteString", "math/bits.Add64"], unfollowed := true, recurses := true, apart := false }
def OctetNumbersSaid : Prop := octetNumbersRow.holds Try.pinned (OpenSpec.ofChange octetNumbersSpec)

/-- ITS FALSE NEIGHBOUR: 'it returns false'. Refute it at one input. -/
def octetNumbersWrong : ChangeSpec := { name := "octetNumbers", fn := fun _ => fun
  | [d1, d2, d3] => { results := [.lit (.bool false)], args := [d1, d2, d3] }
  | _ => none }
def OctetNumbersWrongFalsely : Prop := octetNumbersRow.holds Try.pinned (OpenSpec.ofChange octetNumbersWrong)

/- THE SECOND FORM. 'bulk': how many values and letters a reading holds, each counted each time it is reached (what is shared counts as often as it is met; a slice's spare places count too). A statement '..UptoSaid' is the law's where the arguments, and the package variables that the reading takes, are together of bulk at most 1048576: NARROWER than '..Said'. Prove '..Said' where nothing that the law and all that it calls make is longer than what came in: it says more and counts as full. Else prove '..UptoSaid'. A law counts once. -/
mutual
def uptoBulk {H : Type} : DataW H → Nat
  | .lit (.string bytes) => bytes.length + 1
  | .lit _ => 1
  | .nil => 1
  | .ptr d => uptoBulk d + 1
  | .slice elems spare => uptoBulkAll elems + uptoBulkAll spare + 1
  | .agg parts => uptoBulkAll parts + 1
  | .iface _ d => uptoBulk d + 1
  | .map entries => uptoBulkEntries entries + 1
  | .held _ => 1
def uptoBulkAll {H : Type} : List (DataW H) → Nat
  | [] => 0
  | d :: r => uptoBulk d + uptoBulkAll r
def uptoBulkEntries {H : Type} : List (Lit × DataW H) → Nat
  | [] => 0
  | x :: r => uptoBulkEntry x + uptoBulkEntries r
def uptoBulkEntry {H : Type} : Lit × DataW H → Nat
  | (.string bytes, d) => bytes.length + uptoBulk d + 1
  | (_, d) => uptoBulk d + 1
 end
def uptoSmall : (H : Type) → List (DataW H) → Bool := fun _ ds => decide (uptoBulkAll ds ≤ 1048576)
def OpenSpec.upto (s : _root_.Go.ChangeSpec) : _root_.Go.OpenSpec := { _root_.Go.OpenSpec.ofChange s with cond := some uptoSmall }

/-- 'posternlaw01.OctetFinds', WHERE WHAT IT READS IS OF BULK AT MOST 1048576: true; the input reads as it did. -/
def octetFindsUptoRow : OpenClaim := { program := "ytjiapggmiddpdaa", sum := "294b1ea559c68f2587304b91a8d12d47ab5f056d122ae7ed5f94be4fd72e80e5", func := "postern/posternlaw01.OctetFinds", spec := "octetFinds", apart := false, narrowed := true }
def OctetFindsUptoSaid : Prop := octetFindsUptoRow.holds Try.pinned (OpenSpec.upto octetFindsSpec)

/-- 'posternlaw01.OctetClasses', WHERE WHAT IT READS IS OF BULK AT MOST 1048576: true; the input reads as it did. -/
def octetClassesUptoRow : OpenClaim := { program := "ytjiapggmiddpdaa", sum := "294b1ea559c68f2587304b91a8d12d47ab5f056d122ae7ed5f94be4fd72e80e5", func := "postern/posternlaw01.OctetClasses", spec := "octetClasses", unfollowed := true, recurses := true, apart := false, narrowed := true }
def OctetClassesUptoSaid : Prop := octetClassesUptoRow.holds Try.pinned (OpenSpec.upto octetClassesSpec)

/-- 'posternlaw01.OctetLaws', WHERE WHAT IT READS IS OF BULK AT MOST 1048576: true; the input reads as it did. -/
def octetLawsUptoRow : OpenClaim := { program := "ytjiapggmiddpdaa", sum := "294b1ea559c68f2587304b91a8d12d47ab5f056d122ae7ed5f94be4fd72e80e5", func := "postern/posternlaw01.OctetLaws", spec := "octetLaws", apart := false, narrowed := true }
def OctetLawsUptoSaid : Prop := octetLawsUptoRow.holds Try.pinned (OpenSpec.upto octetLawsSpec)

/-- 'posternlaw01.OctetSets', WHERE WHAT IT READS IS OF BULK AT MOST 1048576: true; the input reads as it did. -/
def octetSetsUptoRow : OpenClaim := { program := "ytjiapggmiddpdaa", sum := "294b1ea559c68f2587304b91a8d12d47ab5f056d122ae7ed5f94be4fd72e80e5", func := "postern/posternlaw01.OctetSets", spec := "octetSets", apart := false, narrowed := true }
def OctetSetsUptoSaid : Prop := octetSetsUptoRow.holds Try.pinned (OpenSpec.upto octetSetsSpec)

/-- 'posternlaw01.OctetNamed', WHERE WHAT IT READS IS OF BULK AT MOST 1048576: true; the input reads as it did. -/
def octetNamedUptoRow : OpenClaim := { program := "ytjiapggmiddpdaa", sum := "294b1ea559c68f2587304b91a8d12d47ab5f056d122ae7ed5f94be4fd72e80e5", func := "postern/posternlaw01.OctetNamed", spec := "octetNamed", apart := false, narrowed := true }
def OctetNamedUptoSaid : Prop := octetNamedUptoRow.holds Try.pinned (OpenSpec.upto octetNamedSpec)

/-- 'posternlaw01.OctetBack', WHERE WHAT IT READS IS OF BULK AT MOST 1048576: true; the input reads as it did. -/
def octetBackUptoRow : OpenClaim := { program := "ytjiapggmiddpdaa", sum := "294b1ea559c68f2587304b91a8d12d47ab5f056d122ae7ed5f94be4fd72e80e5", func := "postern/posternlaw01.OctetBack", spec := "octetBack", inPlace := ["internal/bytealg.IndexByteString", "math/bits.Add64"], unfollowed := true, recurses := true, apart := false, narrowed := true }
def OctetBackUptoSaid : Prop := octetBackUptoRow.holds Try.pinned (OpenSpec.upto octetBackSpec)

/-- 'posternlaw01.OctetNumbers', WHERE WHAT IT READS IS OF BULK AT MOST 1048576: true; the input reads as it did. -/
def octetNumbersUptoRow : OpenClaim := { program := "ytjiapggmiddpdaa", sum := "294b1ea559c68f2587304b91a8d12d47ab5f056d122ae7ed5f94be4fd72e80e5", func := "postern/posternlaw01.OctetNumbers", spec := "octetNumbers", inPlace := ["internal/bytealg.IndexByteString", "math/bits.Add64"], unfollowed := true, recurses := true, apart := false, narrowed := true }
def OctetNumbersUptoSaid : Prop := octetNumbersUptoRow.holds Try.pinned (OpenSpec.upto octetNumbersSpec)

end Rows
end Go.Proofs.Ytjiapggmiddpdaa
