/-
  DERIVED. GIVEN WITH THE SEED: THE CARDS: each row of YtebpghpaglpdlaaDoorRows.lean that lists a variable, with what it lists TIED to the program's text (the seventh form; the later family's looks); each row that meets fmt, with fmt's text TOLD by the authors' own Lean function (tested against real Go, not proved from fmt's source: count such statements apart). THE CARD IS WHAT COUNTS. Prove the row's statement (the work); the ties are given (YtebpghpaglpdlaaDoorTie.lean); close each card by the builder's one call (the guide's Derived/Test/ToyasCard.lean, 'card_holds'). Laid BY PROGRAM, IN A SANDBOX (cutbox-door.mjs). By AI agents, Wed Nov 11 2026. No macro, syntax, notation, axiom, sorry.
-/
import Derived.Test.YtebpghpaglpdlaaDoorRows
import GoSem.ClaimSeven
namespace Go.Proofs.YtebpghpaglpdlaaDoor
namespace Rows

/-- THE TIED CARD OF 'posternlaw22.OpaqueParses'. -/
def opaqueParsesCard : Claim7 := { stood := { row := opaqueParsesRow, standIns := [], harness := (true, "3a344ca0a3f5ff0c32b85702b48f11855251baaca3d0e78a1d40f0d5351bc074"), looks := false }, kinds := [], alts := [], laidByText := true, laidKinds := [.data, .pinned], laidTests := true, laidLooks := .later }
def OpaqueParsesCardSaid : Prop := Claim7.holds Tryd.pinned (.plain (OpenSpec.ofChange opaqueParsesSpec)) opaqueParsesCard

/-- THE TIED CARD OF 'posternlaw22.OpaqueForbids'. -/
def opaqueForbidsCard : Claim7 := { stood := { row := opaqueForbidsRow, standIns := [], harness := (true, "3a344ca0a3f5ff0c32b85702b48f11855251baaca3d0e78a1d40f0d5351bc074"), looks := false }, kinds := [], alts := [], laidByText := true, laidKinds := [.data, .pinned], laidTests := true, laidLooks := .later }
def OpaqueForbidsCardSaid : Prop := Claim7.holds Tryd.pinned (.plain (OpenSpec.ofChange opaqueForbidsSpec)) opaqueForbidsCard

/-- THE TIED CARD OF 'posternlaw22.OpaqueFixed'. -/
def opaqueFixedCard : Claim7 := { stood := { row := opaqueFixedRow, standIns := [], harness := (true, "3a344ca0a3f5ff0c32b85702b48f11855251baaca3d0e78a1d40f0d5351bc074"), looks := false }, kinds := [], alts := [], laidByText := true, laidKinds := [.data, .pinned], laidTests := true, laidLooks := .later }
def OpaqueFixedCardSaid : Prop := Claim7.holds Tryd.pinned (.plain (OpenSpec.ofChange opaqueFixedSpec)) opaqueFixedCard

/-- THE TIED CARD OF 'posternlaw22.OpaqueSame'. -/
def opaqueSameCard : Claim7 := { stood := { row := opaqueSameRow, standIns := [], harness := (true, "3a344ca0a3f5ff0c32b85702b48f11855251baaca3d0e78a1d40f0d5351bc074"), looks := false }, kinds := [], alts := [], laidByText := true, laidKinds := [.data, .pinned], laidTests := true, laidLooks := .later }
def OpaqueSameCardSaid : Prop := Claim7.holds Tryd.pinned (.plain (OpenSpec.ofChange opaqueSameSpec)) opaqueSameCard

/-- THE TIED CARD OF 'posternlaw22.OpaqueBytes'. -/
def opaqueBytesCard : Claim7 := { stood := { row := opaqueBytesRow, standIns := [], harness := (true, "3a344ca0a3f5ff0c32b85702b48f11855251baaca3d0e78a1d40f0d5351bc074"), looks := false }, kinds := [], alts := [], laidByText := true, laidKinds := [.data, .pinned], laidTests := true, laidLooks := .later }
def OpaqueBytesCardSaid : Prop := Claim7.holds Tryd.pinned (.plain (OpenSpec.ofChange opaqueBytesSpec)) opaqueBytesCard

/-- THE TIED CARD OF 'posternlaw22.OpaqueAll'. -/
def opaqueAllCard : Claim7 := { stood := { row := opaqueAllRow, standIns := [], harness := (true, "3a344ca0a3f5ff0c32b85702b48f11855251baaca3d0e78a1d40f0d5351bc074"), looks := false }, kinds := [], alts := [], laidByText := true, laidKinds := [.data, .pinned], laidTests := true, laidLooks := .later }
def OpaqueAllCardSaid : Prop := Claim7.holds Tryd.pinned (.plain (OpenSpec.ofChange opaqueAllSpec)) opaqueAllCard

/-- THE TIED CARD OF 'posternlaw22.OpaqueNormal'. -/
def opaqueNormalCard : Claim7 := { stood := { row := opaqueNormalRow, standIns := [], harness := (true, "3a344ca0a3f5ff0c32b85702b48f11855251baaca3d0e78a1d40f0d5351bc074"), looks := false }, kinds := [], alts := [], laidByText := true, laidKinds := [.data, .pinned], laidTests := true, laidLooks := .later }
def OpaqueNormalCardSaid : Prop := Claim7.holds Tryd.pinned (.plain (OpenSpec.ofChange opaqueNormalSpec)) opaqueNormalCard

/-- THE SECOND FORM's CARD OF 'posternlaw22.OpaqueParses'. -/
def opaqueParsesUptoCard : Claim7 := { stood := { row := opaqueParsesUptoRow, standIns := [], harness := (true, "3a344ca0a3f5ff0c32b85702b48f11855251baaca3d0e78a1d40f0d5351bc074"), looks := false }, kinds := [], alts := [], laidByText := true, laidKinds := [.data, .pinned], laidTests := true, laidLooks := .later }
def OpaqueParsesUptoCardSaid : Prop := Claim7.holds Tryd.pinned (.plain (OpenSpec.upto opaqueParsesSpec)) opaqueParsesUptoCard

/-- THE SECOND FORM's CARD OF 'posternlaw22.OpaqueForbids'. -/
def opaqueForbidsUptoCard : Claim7 := { stood := { row := opaqueForbidsUptoRow, standIns := [], harness := (true, "3a344ca0a3f5ff0c32b85702b48f11855251baaca3d0e78a1d40f0d5351bc074"), looks := false }, kinds := [], alts := [], laidByText := true, laidKinds := [.data, .pinned], laidTests := true, laidLooks := .later }
def OpaqueForbidsUptoCardSaid : Prop := Claim7.holds Tryd.pinned (.plain (OpenSpec.upto opaqueForbidsSpec)) opaqueForbidsUptoCard

/-- THE SECOND FORM's CARD OF 'posternlaw22.OpaqueFixed'. -/
def opaqueFixedUptoCard : Claim7 := { stood := { row := opaqueFixedUptoRow, standIns := [], harness := (true, "3a344ca0a3f5ff0c32b85702b48f11855251baaca3d0e78a1d40f0d5351bc074"), looks := false }, kinds := [], alts := [], laidByText := true, laidKinds := [.data, .pinned], laidTests := true, laidLooks := .later }
def OpaqueFixedUptoCardSaid : Prop := Claim7.holds Tryd.pinned (.plain (OpenSpec.upto opaqueFixedSpec)) opaqueFixedUptoCard

/-- THE SECOND FORM's CARD OF 'posternlaw22.OpaqueSame'. -/
def opaqueSameUptoCard : Claim7 := { stood := { row := opaqueSameUptoRow, standIns := [], harness := (true, "3a344ca0a3f5ff0c32b85702b48f11855251baaca3d0e78a1d40f0d5351bc074"), looks := false }, kinds := [], alts := [], laidByText := true, laidKinds := [.data, .pinned], laidTests := true, laidLooks := .later }
def OpaqueSameUptoCardSaid : Prop := Claim7.holds Tryd.pinned (.plain (OpenSpec.upto opaqueSameSpec)) opaqueSameUptoCard

/-- THE SECOND FORM's CARD OF 'posternlaw22.OpaqueBytes'. -/
def opaqueBytesUptoCard : Claim7 := { stood := { row := opaqueBytesUptoRow, standIns := [], harness := (true, "3a344ca0a3f5ff0c32b85702b48f11855251baaca3d0e78a1d40f0d5351bc074"), looks := false }, kinds := [], alts := [], laidByText := true, laidKinds := [.data, .pinned], laidTests := true, laidLooks := .later }
def OpaqueBytesUptoCardSaid : Prop := Claim7.holds Tryd.pinned (.plain (OpenSpec.upto opaqueBytesSpec)) opaqueBytesUptoCard

/-- THE SECOND FORM's CARD OF 'posternlaw22.OpaqueAll'. -/
def opaqueAllUptoCard : Claim7 := { stood := { row := opaqueAllUptoRow, standIns := [], harness := (true, "3a344ca0a3f5ff0c32b85702b48f11855251baaca3d0e78a1d40f0d5351bc074"), looks := false }, kinds := [], alts := [], laidByText := true, laidKinds := [.data, .pinned], laidTests := true, laidLooks := .later }
def OpaqueAllUptoCardSaid : Prop := Claim7.holds Tryd.pinned (.plain (OpenSpec.upto opaqueAllSpec)) opaqueAllUptoCard

/-- THE SECOND FORM's CARD OF 'posternlaw22.OpaqueNormal'. -/
def opaqueNormalUptoCard : Claim7 := { stood := { row := opaqueNormalUptoRow, standIns := [], harness := (true, "3a344ca0a3f5ff0c32b85702b48f11855251baaca3d0e78a1d40f0d5351bc074"), looks := false }, kinds := [], alts := [], laidByText := true, laidKinds := [.data, .pinned], laidTests := true, laidLooks := .later }
def OpaqueNormalUptoCardSaid : Prop := Claim7.holds Tryd.pinned (.plain (OpenSpec.upto opaqueNormalSpec)) opaqueNormalUptoCard
end Rows
end Go.Proofs.YtebpghpaglpdlaaDoor
