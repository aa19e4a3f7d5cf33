/-
  DERIVED. GIVEN WITH THE SEED: THE CARDS: each row of YtgippjhkimohlaaDoorRows.lean that lists a variable, with what it lists TIED to the program's text (the seventh form; the later family's looks); each row that meets fmt, with fmt's text TOLD by the authors' own Lean function (tested against real Go, not proved from fmt's source: count such statements apart). THE CARD IS WHAT COUNTS. Prove the row's statement (the work); the ties are given (YtgippjhkimohlaaDoorTie.lean); close each card by the builder's one call (the guide's Derived/Test/ToyasCard.lean, 'card_holds'). Laid BY PROGRAM, IN A SANDBOX (cutbox-door.mjs). By AI agents, Wed Nov 11 2026. No macro, syntax, notation, axiom, sorry.
-/
import Derived.Test.YtgippjhkimohlaaDoorRows
import GoSem.ClaimSeven
namespace Go.Proofs.YtgippjhkimohlaaDoor
namespace Rows

/-- THE TIED CARD OF 'posternlaw02.ScalarDecodes'. -/
def scalarDecodesCard : Claim7 := { stood := { row := scalarDecodesRow, standIns := [], harness := (true, "4884ec701c06988f0e1bb9b27e3997c019685e89e7d85c89941eb067b4b6efcf"), looks := false }, kinds := [], alts := [], laidByText := true, laidKinds := [.data, .pinned], laidTests := true, laidLooks := .later }
def ScalarDecodesCardSaid : Prop := Claim7.holds Tryd.pinned (.plain (OpenSpec.ofChange scalarDecodesSpec)) scalarDecodesCard

/-- THE TIED CARD OF 'posternlaw02.ScalarAt'. -/
def scalarAtCard : Claim7 := { stood := { row := scalarAtRow, standIns := [], harness := (true, "4884ec701c06988f0e1bb9b27e3997c019685e89e7d85c89941eb067b4b6efcf"), looks := false }, kinds := [], alts := [], laidByText := true, laidKinds := [.data, .pinned], laidTests := true, laidLooks := .later }
def ScalarAtCardSaid : Prop := Claim7.holds Tryd.pinned (.plain (OpenSpec.ofChange scalarAtSpec)) scalarAtCard

/-- THE TIED CARD OF 'posternlaw02.ScalarEncodes'. -/
def scalarEncodesCard : Claim7 := { stood := { row := scalarEncodesRow, standIns := [], harness := (true, "4884ec701c06988f0e1bb9b27e3997c019685e89e7d85c89941eb067b4b6efcf"), looks := false }, kinds := [], alts := [], laidByText := true, laidKinds := [.data, .pinned], laidTests := true, laidLooks := .later }
def ScalarEncodesCardSaid : Prop := Claim7.holds Tryd.pinned (.plain (OpenSpec.ofChange scalarEncodesSpec)) scalarEncodesCard

/-- THE TIED CARD OF 'posternlaw02.ScalarValues'. -/
def scalarValuesCard : Claim7 := { stood := { row := scalarValuesRow, standIns := [], harness := (true, "4884ec701c06988f0e1bb9b27e3997c019685e89e7d85c89941eb067b4b6efcf"), looks := false }, kinds := [], alts := [], laidByText := true, laidKinds := [.data, .pinned], laidTests := true, laidLooks := .later }
def ScalarValuesCardSaid : Prop := Claim7.holds Tryd.pinned (.plain (OpenSpec.ofChange scalarValuesSpec)) scalarValuesCard

/-- THE TIED CARD OF 'posternlaw02.ScalarBack'. -/
def scalarBackCard : Claim7 := { stood := { row := scalarBackRow, standIns := [], harness := (true, "4884ec701c06988f0e1bb9b27e3997c019685e89e7d85c89941eb067b4b6efcf"), looks := false }, kinds := [], alts := [], laidByText := true, laidKinds := [.data, .pinned], laidTests := true, laidLooks := .later }
def ScalarBackCardSaid : Prop := Claim7.holds Tryd.pinned (.plain (OpenSpec.ofChange scalarBackSpec)) scalarBackCard

/-- THE TIED CARD OF 'posternlaw02.ScalarCleans'. -/
def scalarCleansCard : Claim7 := { stood := { row := scalarCleansRow, standIns := [], harness := (true, "4884ec701c06988f0e1bb9b27e3997c019685e89e7d85c89941eb067b4b6efcf"), looks := false }, kinds := [], alts := [], laidByText := true, laidKinds := [.data, .pinned], laidTests := true, laidLooks := .later }
def ScalarCleansCardSaid : Prop := Claim7.holds Tryd.pinned (.plain (OpenSpec.ofChange scalarCleansSpec)) scalarCleansCard

/-- THE TIED CARD OF 'posternlaw02.ScalarTwo'. -/
def scalarTwoCard : Claim7 := { stood := { row := scalarTwoRow, standIns := [], harness := (true, "4884ec701c06988f0e1bb9b27e3997c019685e89e7d85c89941eb067b4b6efcf"), looks := false }, kinds := [], alts := [], laidByText := true, laidKinds := [.data, .pinned], laidTests := true, laidLooks := .later }
def ScalarTwoCardSaid : Prop := Claim7.holds Tryd.pinned (.plain (OpenSpec.ofChange scalarTwoSpec)) scalarTwoCard

/-- THE TIED CARD OF 'posternlaw02.ScalarUnits'. -/
def scalarUnitsCard : Claim7 := { stood := { row := scalarUnitsRow, standIns := [], harness := (true, "4884ec701c06988f0e1bb9b27e3997c019685e89e7d85c89941eb067b4b6efcf"), looks := false }, kinds := [], alts := [], laidByText := true, laidKinds := [.data, .pinned], laidTests := true, laidLooks := .later }
def ScalarUnitsCardSaid : Prop := Claim7.holds Tryd.pinned (.plain (OpenSpec.ofChange scalarUnitsSpec)) scalarUnitsCard

/-- THE TIED CARD OF 'posternlaw02.ScalarFeeds'. -/
def scalarFeedsCard : Claim7 := { stood := { row := scalarFeedsRow, standIns := [], harness := (true, "4884ec701c06988f0e1bb9b27e3997c019685e89e7d85c89941eb067b4b6efcf"), looks := false }, kinds := [], alts := [], laidByText := true, laidKinds := [.data, .pinned], laidTests := true, laidLooks := .later }
def ScalarFeedsCardSaid : Prop := Claim7.holds Tryd.pinned (.plain (OpenSpec.ofChange scalarFeedsSpec)) scalarFeedsCard

/-- THE TIED CARD OF 'posternlaw02.ScalarUnitFeeds'. -/
def scalarUnitFeedsCard : Claim7 := { stood := { row := scalarUnitFeedsRow, standIns := [], harness := (true, "4884ec701c06988f0e1bb9b27e3997c019685e89e7d85c89941eb067b4b6efcf"), looks := false }, kinds := [], alts := [], laidByText := true, laidKinds := [.data, .pinned], laidTests := true, laidLooks := .later }
def ScalarUnitFeedsCardSaid : Prop := Claim7.holds Tryd.pinned (.plain (OpenSpec.ofChange scalarUnitFeedsSpec)) scalarUnitFeedsCard

/-- THE TIED CARD OF 'posternlaw02.ScalarMemory'. -/
def scalarMemoryCard : Claim7 := { stood := { row := scalarMemoryRow, standIns := [], harness := (true, "4884ec701c06988f0e1bb9b27e3997c019685e89e7d85c89941eb067b4b6efcf"), looks := false }, kinds := [], alts := [], laidByText := true, laidKinds := [.data, .pinned], laidTests := true, laidLooks := .later }
def ScalarMemoryCardSaid : Prop := Claim7.holds Tryd.pinned (.plain (OpenSpec.ofChange scalarMemorySpec)) scalarMemoryCard

/-- THE TIED CARD OF 'posternlaw02.ScalarUnit'. -/
def scalarUnitCard : Claim7 := { stood := { row := scalarUnitRow, standIns := [], harness := (true, "4884ec701c06988f0e1bb9b27e3997c019685e89e7d85c89941eb067b4b6efcf"), looks := false }, kinds := [], alts := [], laidByText := true, laidKinds := [.data, .pinned], laidTests := true, laidLooks := .later }
def ScalarUnitCardSaid : Prop := Claim7.holds Tryd.pinned (.plain (OpenSpec.ofChange scalarUnitSpec)) scalarUnitCard

/-- THE TIED CARD OF 'posternlaw02.ScalarPlaces'. -/
def scalarPlacesCard : Claim7 := { stood := { row := scalarPlacesRow, standIns := [], harness := (true, "4884ec701c06988f0e1bb9b27e3997c019685e89e7d85c89941eb067b4b6efcf"), looks := false }, kinds := [], alts := [], laidByText := true, laidKinds := [.data, .pinned], laidTests := true, laidLooks := .later }
def ScalarPlacesCardSaid : Prop := Claim7.holds Tryd.pinned (.plain (OpenSpec.ofChange scalarPlacesSpec)) scalarPlacesCard

/-- THE TIED CARD OF 'posternlaw02.ScalarCompares'. -/
def scalarComparesCard : Claim7 := { stood := { row := scalarComparesRow, standIns := [], harness := (true, "4884ec701c06988f0e1bb9b27e3997c019685e89e7d85c89941eb067b4b6efcf"), looks := false }, kinds := [], alts := [], laidByText := true, laidKinds := [.data, .pinned], laidTests := true, laidLooks := .later }
def ScalarComparesCardSaid : Prop := Claim7.holds Tryd.pinned (.plain (OpenSpec.ofChange scalarComparesSpec)) scalarComparesCard

/-- THE SECOND FORM's CARD OF 'posternlaw02.ScalarDecodes'. -/
def scalarDecodesUptoCard : Claim7 := { stood := { row := scalarDecodesUptoRow, standIns := [], harness := (true, "4884ec701c06988f0e1bb9b27e3997c019685e89e7d85c89941eb067b4b6efcf"), looks := false }, kinds := [], alts := [], laidByText := true, laidKinds := [.data, .pinned], laidTests := true, laidLooks := .later }
def ScalarDecodesUptoCardSaid : Prop := Claim7.holds Tryd.pinned (.plain (OpenSpec.upto scalarDecodesSpec)) scalarDecodesUptoCard

/-- THE SECOND FORM's CARD OF 'posternlaw02.ScalarAt'. -/
def scalarAtUptoCard : Claim7 := { stood := { row := scalarAtUptoRow, standIns := [], harness := (true, "4884ec701c06988f0e1bb9b27e3997c019685e89e7d85c89941eb067b4b6efcf"), looks := false }, kinds := [], alts := [], laidByText := true, laidKinds := [.data, .pinned], laidTests := true, laidLooks := .later }
def ScalarAtUptoCardSaid : Prop := Claim7.holds Tryd.pinned (.plain (OpenSpec.upto scalarAtSpec)) scalarAtUptoCard

/-- THE SECOND FORM's CARD OF 'posternlaw02.ScalarEncodes'. -/
def scalarEncodesUptoCard : Claim7 := { stood := { row := scalarEncodesUptoRow, standIns := [], harness := (true, "4884ec701c06988f0e1bb9b27e3997c019685e89e7d85c89941eb067b4b6efcf"), looks := false }, kinds := [], alts := [], laidByText := true, laidKinds := [.data, .pinned], laidTests := true, laidLooks := .later }
def ScalarEncodesUptoCardSaid : Prop := Claim7.holds Tryd.pinned (.plain (OpenSpec.upto scalarEncodesSpec)) scalarEncodesUptoCard

/-- THE SECOND FORM's CARD OF 'posternlaw02.ScalarValues'. -/
def scalarValuesUptoCard : Claim7 := { stood := { row := scalarValuesUptoRow, standIns := [], harness := (true, "4884ec701c06988f0e1bb9b27e3997c019685e89e7d85c89941eb067b4b6efcf"), looks := false }, kinds := [], alts := [], laidByText := true, laidKinds := [.data, .pinned], laidTests := true, laidLooks := .later }
def ScalarValuesUptoCardSaid : Prop := Claim7.holds Tryd.pinned (.plain (OpenSpec.upto scalarValuesSpec)) scalarValuesUptoCard

/-- THE SECOND FORM's CARD OF 'posternlaw02.ScalarBack'. -/
def scalarBackUptoCard : Claim7 := { stood := { row := scalarBackUptoRow, standIns := [], harness := (true, "4884ec701c06988f0e1bb9b27e3997c019685e89e7d85c89941eb067b4b6efcf"), looks := false }, kinds := [], alts := [], laidByText := true, laidKinds := [.data, .pinned], laidTests := true, laidLooks := .later }
def ScalarBackUptoCardSaid : Prop := Claim7.holds Tryd.pinned (.plain (OpenSpec.upto scalarBackSpec)) scalarBackUptoCard

/-- THE SECOND FORM's CARD OF 'posternlaw02.ScalarCleans'. -/
def scalarCleansUptoCard : Claim7 := { stood := { row := scalarCleansUptoRow, standIns := [], harness := (true, "4884ec701c06988f0e1bb9b27e3997c019685e89e7d85c89941eb067b4b6efcf"), looks := false }, kinds := [], alts := [], laidByText := true, laidKinds := [.data, .pinned], laidTests := true, laidLooks := .later }
def ScalarCleansUptoCardSaid : Prop := Claim7.holds Tryd.pinned (.plain (OpenSpec.upto scalarCleansSpec)) scalarCleansUptoCard

/-- THE SECOND FORM's CARD OF 'posternlaw02.ScalarTwo'. -/
def scalarTwoUptoCard : Claim7 := { stood := { row := scalarTwoUptoRow, standIns := [], harness := (true, "4884ec701c06988f0e1bb9b27e3997c019685e89e7d85c89941eb067b4b6efcf"), looks := false }, kinds := [], alts := [], laidByText := true, laidKinds := [.data, .pinned], laidTests := true, laidLooks := .later }
def ScalarTwoUptoCardSaid : Prop := Claim7.holds Tryd.pinned (.plain (OpenSpec.upto scalarTwoSpec)) scalarTwoUptoCard

/-- THE SECOND FORM's CARD OF 'posternlaw02.ScalarUnits'. -/
def scalarUnitsUptoCard : Claim7 := { stood := { row := scalarUnitsUptoRow, standIns := [], harness := (true, "4884ec701c06988f0e1bb9b27e3997c019685e89e7d85c89941eb067b4b6efcf"), looks := false }, kinds := [], alts := [], laidByText := true, laidKinds := [.data, .pinned], laidTests := true, laidLooks := .later }
def ScalarUnitsUptoCardSaid : Prop := Claim7.holds Tryd.pinned (.plain (OpenSpec.upto scalarUnitsSpec)) scalarUnitsUptoCard

/-- THE SECOND FORM's CARD OF 'posternlaw02.ScalarFeeds'. -/
def scalarFeedsUptoCard : Claim7 := { stood := { row := scalarFeedsUptoRow, standIns := [], harness := (true, "4884ec701c06988f0e1bb9b27e3997c019685e89e7d85c89941eb067b4b6efcf"), looks := false }, kinds := [], alts := [], laidByText := true, laidKinds := [.data, .pinned], laidTests := true, laidLooks := .later }
def ScalarFeedsUptoCardSaid : Prop := Claim7.holds Tryd.pinned (.plain (OpenSpec.upto scalarFeedsSpec)) scalarFeedsUptoCard

/-- THE SECOND FORM's CARD OF 'posternlaw02.ScalarUnitFeeds'. -/
def scalarUnitFeedsUptoCard : Claim7 := { stood := { row := scalarUnitFeedsUptoRow, standIns := [], harness := (true, "4884ec701c06988f0e1bb9b27e3997c019685e89e7d85c89941eb067b4b6efcf"), looks := false }, kinds := [], alts := [], laidByText := true, laidKinds := [.data, .pinned], laidTests := true, laidLooks := .later }
def ScalarUnitFeedsUptoCardSaid : Prop := Claim7.holds Tryd.pinned (.plain (OpenSpec.upto scalarUnitFeedsSpec)) scalarUnitFeedsUptoCard

/-- THE SECOND FORM's CARD OF 'posternlaw02.ScalarMemory'. -/
def scalarMemoryUptoCard : Claim7 := { stood := { row := scalarMemoryUptoRow, standIns := [], harness := (true, "4884ec701c06988f0e1bb9b27e3997c019685e89e7d85c89941eb067b4b6efcf"), looks := false }, kinds := [], alts := [], laidByText := true, laidKinds := [.data, .pinned], laidTests := true, laidLooks := .later }
def ScalarMemoryUptoCardSaid : Prop := Claim7.holds Tryd.pinned (.plain (OpenSpec.upto scalarMemorySpec)) scalarMemoryUptoCard

/-- THE SECOND FORM's CARD OF 'posternlaw02.ScalarUnit'. -/
def scalarUnitUptoCard : Claim7 := { stood := { row := scalarUnitUptoRow, standIns := [], harness := (true, "4884ec701c06988f0e1bb9b27e3997c019685e89e7d85c89941eb067b4b6efcf"), looks := false }, kinds := [], alts := [], laidByText := true, laidKinds := [.data, .pinned], laidTests := true, laidLooks := .later }
def ScalarUnitUptoCardSaid : Prop := Claim7.holds Tryd.pinned (.plain (OpenSpec.upto scalarUnitSpec)) scalarUnitUptoCard

/-- THE SECOND FORM's CARD OF 'posternlaw02.ScalarPlaces'. -/
def scalarPlacesUptoCard : Claim7 := { stood := { row := scalarPlacesUptoRow, standIns := [], harness := (true, "4884ec701c06988f0e1bb9b27e3997c019685e89e7d85c89941eb067b4b6efcf"), looks := false }, kinds := [], alts := [], laidByText := true, laidKinds := [.data, .pinned], laidTests := true, laidLooks := .later }
def ScalarPlacesUptoCardSaid : Prop := Claim7.holds Tryd.pinned (.plain (OpenSpec.upto scalarPlacesSpec)) scalarPlacesUptoCard

/-- THE SECOND FORM's CARD OF 'posternlaw02.ScalarCompares'. -/
def scalarComparesUptoCard : Claim7 := { stood := { row := scalarComparesUptoRow, standIns := [], harness := (true, "4884ec701c06988f0e1bb9b27e3997c019685e89e7d85c89941eb067b4b6efcf"), looks := false }, kinds := [], alts := [], laidByText := true, laidKinds := [.data, .pinned], laidTests := true, laidLooks := .later }
def ScalarComparesUptoCardSaid : Prop := Claim7.holds Tryd.pinned (.plain (OpenSpec.upto scalarComparesSpec)) scalarComparesUptoCard
end Rows
end Go.Proofs.YtgippjhkimohlaaDoor
