/-
  DERIVED. GIVEN WITH THE SEED: THE CARDS: each row of YtmjlkifmbhaiiaaDoorRows.lean that lists a variable, with what it lists TIED to the program's text (the seventh form; the later family's looks); each row that meets fmt, with fmt's text TOLD by the authors' own Lean function (tested against real Go, not proved from fmt's source: count such statements apart). THE CARD IS WHAT COUNTS. Prove the row's statement (the work); the ties are given (YtmjlkifmbhaiiaaDoorTie.lean); close each card by the builder's one call (the guide's Derived/Test/ToyasCard.lean, 'card_holds'). Laid BY PROGRAM, IN A SANDBOX (cutbox-door.mjs). By AI agents, Wed Nov 11 2026. No macro, syntax, notation, axiom, sorry.
-/
import Derived.Test.YtmjlkifmbhaiiaaDoorRows
import GoSem.ClaimSeven
namespace Go.Proofs.YtmjlkifmbhaiiaaDoor
namespace Rows

/-- THE TIED CARD OF 'posternlaw14.PunyEncodes'. -/
def punyEncodesCard : Claim7 := { stood := { row := punyEncodesRow, standIns := [], harness := (true, "ccbb892e29648a19264a7007f1ce6fc8f85b276314c16be5edc177a5f0457e2e"), looks := false }, kinds := [], alts := [], laidByText := true, laidKinds := [.data, .pinned], laidTests := true, laidLooks := .later }
def PunyEncodesCardSaid : Prop := Claim7.holds Tryd.pinned (.plain (OpenSpec.ofChange punyEncodesSpec)) punyEncodesCard

/-- THE TIED CARD OF 'posternlaw14.PunyTexts'. -/
def punyTextsCard : Claim7 := { stood := { row := punyTextsRow, standIns := [], harness := (true, "ccbb892e29648a19264a7007f1ce6fc8f85b276314c16be5edc177a5f0457e2e"), looks := false }, kinds := [], alts := [], laidByText := true, laidKinds := [.data, .pinned], laidTests := true, laidLooks := .later }
def PunyTextsCardSaid : Prop := Claim7.holds Tryd.pinned (.plain (OpenSpec.ofChange punyTextsSpec)) punyTextsCard

/-- THE TIED CARD OF 'posternlaw14.PunyMemory'. -/
def punyMemoryCard : Claim7 := { stood := { row := punyMemoryRow, standIns := [], harness := (true, "ccbb892e29648a19264a7007f1ce6fc8f85b276314c16be5edc177a5f0457e2e"), looks := false }, kinds := [], alts := [], laidByText := true, laidKinds := [.data, .pinned], laidTests := true, laidLooks := .later }
def PunyMemoryCardSaid : Prop := Claim7.holds Tryd.pinned (.plain (OpenSpec.ofChange punyMemorySpec)) punyMemoryCard

/-- THE TIED CARD OF 'posternlaw14.PunyDecodes'. -/
def punyDecodesCard : Claim7 := { stood := { row := punyDecodesRow, standIns := [], harness := (true, "ccbb892e29648a19264a7007f1ce6fc8f85b276314c16be5edc177a5f0457e2e"), looks := false }, kinds := [], alts := [], laidByText := true, laidKinds := [.data, .pinned], laidTests := true, laidLooks := .later }
def PunyDecodesCardSaid : Prop := Claim7.holds Tryd.pinned (.plain (OpenSpec.ofChange punyDecodesSpec)) punyDecodesCard

/-- THE TIED CARD OF 'posternlaw14.PunyBack'. -/
def punyBackCard : Claim7 := { stood := { row := punyBackRow, standIns := [], harness := (true, "ccbb892e29648a19264a7007f1ce6fc8f85b276314c16be5edc177a5f0457e2e"), looks := false }, kinds := [], alts := [], laidByText := true, laidKinds := [.data, .pinned], laidTests := true, laidLooks := .later }
def PunyBackCardSaid : Prop := Claim7.holds Tryd.pinned (.plain (OpenSpec.ofChange punyBackSpec)) punyBackCard

/-- THE TIED CARD OF 'posternlaw14.PunyDigits'. -/
def punyDigitsCard : Claim7 := { stood := { row := punyDigitsRow, standIns := [], harness := (true, "ccbb892e29648a19264a7007f1ce6fc8f85b276314c16be5edc177a5f0457e2e"), looks := false }, kinds := [], alts := [], laidByText := true, laidKinds := [.data, .pinned], laidTests := true, laidLooks := .later }
def PunyDigitsCardSaid : Prop := Claim7.holds Tryd.pinned (.plain (OpenSpec.ofChange punyDigitsSpec)) punyDigitsCard

/-- THE TIED CARD OF 'posternlaw14.PunyBoots'. -/
def punyBootsCard : Claim7 := { stood := { row := punyBootsRow, standIns := [], harness := (true, "ccbb892e29648a19264a7007f1ce6fc8f85b276314c16be5edc177a5f0457e2e"), looks := false }, kinds := [], alts := [], laidByText := true, laidKinds := [.data, .pinned], laidTests := true, laidLooks := .later }
def PunyBootsCardSaid : Prop := Claim7.holds Tryd.pinned (.plain (OpenSpec.ofChange punyBootsSpec)) punyBootsCard

/-- THE TIED CARD OF 'posternlaw14.PunyUsual'. -/
def punyUsualCard : Claim7 := { stood := { row := punyUsualRow, standIns := [], harness := (true, "ccbb892e29648a19264a7007f1ce6fc8f85b276314c16be5edc177a5f0457e2e"), looks := false }, kinds := [], alts := [], laidByText := true, laidKinds := [.data, .pinned], laidTests := true, laidLooks := .later }
def PunyUsualCardSaid : Prop := Claim7.holds Tryd.pinned (.plain (OpenSpec.ofChange punyUsualSpec)) punyUsualCard

/-- THE SECOND FORM's CARD OF 'posternlaw14.PunyEncodes'. -/
def punyEncodesUptoCard : Claim7 := { stood := { row := punyEncodesUptoRow, standIns := [], harness := (true, "ccbb892e29648a19264a7007f1ce6fc8f85b276314c16be5edc177a5f0457e2e"), looks := false }, kinds := [], alts := [], laidByText := true, laidKinds := [.data, .pinned], laidTests := true, laidLooks := .later }
def PunyEncodesUptoCardSaid : Prop := Claim7.holds Tryd.pinned (.plain (OpenSpec.upto punyEncodesSpec)) punyEncodesUptoCard

/-- THE SECOND FORM's CARD OF 'posternlaw14.PunyTexts'. -/
def punyTextsUptoCard : Claim7 := { stood := { row := punyTextsUptoRow, standIns := [], harness := (true, "ccbb892e29648a19264a7007f1ce6fc8f85b276314c16be5edc177a5f0457e2e"), looks := false }, kinds := [], alts := [], laidByText := true, laidKinds := [.data, .pinned], laidTests := true, laidLooks := .later }
def PunyTextsUptoCardSaid : Prop := Claim7.holds Tryd.pinned (.plain (OpenSpec.upto punyTextsSpec)) punyTextsUptoCard

/-- THE SECOND FORM's CARD OF 'posternlaw14.PunyMemory'. -/
def punyMemoryUptoCard : Claim7 := { stood := { row := punyMemoryUptoRow, standIns := [], harness := (true, "ccbb892e29648a19264a7007f1ce6fc8f85b276314c16be5edc177a5f0457e2e"), looks := false }, kinds := [], alts := [], laidByText := true, laidKinds := [.data, .pinned], laidTests := true, laidLooks := .later }
def PunyMemoryUptoCardSaid : Prop := Claim7.holds Tryd.pinned (.plain (OpenSpec.upto punyMemorySpec)) punyMemoryUptoCard

/-- THE SECOND FORM's CARD OF 'posternlaw14.PunyDecodes'. -/
def punyDecodesUptoCard : Claim7 := { stood := { row := punyDecodesUptoRow, standIns := [], harness := (true, "ccbb892e29648a19264a7007f1ce6fc8f85b276314c16be5edc177a5f0457e2e"), looks := false }, kinds := [], alts := [], laidByText := true, laidKinds := [.data, .pinned], laidTests := true, laidLooks := .later }
def PunyDecodesUptoCardSaid : Prop := Claim7.holds Tryd.pinned (.plain (OpenSpec.upto punyDecodesSpec)) punyDecodesUptoCard

/-- THE SECOND FORM's CARD OF 'posternlaw14.PunyBack'. -/
def punyBackUptoCard : Claim7 := { stood := { row := punyBackUptoRow, standIns := [], harness := (true, "ccbb892e29648a19264a7007f1ce6fc8f85b276314c16be5edc177a5f0457e2e"), looks := false }, kinds := [], alts := [], laidByText := true, laidKinds := [.data, .pinned], laidTests := true, laidLooks := .later }
def PunyBackUptoCardSaid : Prop := Claim7.holds Tryd.pinned (.plain (OpenSpec.upto punyBackSpec)) punyBackUptoCard

/-- THE SECOND FORM's CARD OF 'posternlaw14.PunyDigits'. -/
def punyDigitsUptoCard : Claim7 := { stood := { row := punyDigitsUptoRow, standIns := [], harness := (true, "ccbb892e29648a19264a7007f1ce6fc8f85b276314c16be5edc177a5f0457e2e"), looks := false }, kinds := [], alts := [], laidByText := true, laidKinds := [.data, .pinned], laidTests := true, laidLooks := .later }
def PunyDigitsUptoCardSaid : Prop := Claim7.holds Tryd.pinned (.plain (OpenSpec.upto punyDigitsSpec)) punyDigitsUptoCard

/-- THE SECOND FORM's CARD OF 'posternlaw14.PunyBoots'. -/
def punyBootsUptoCard : Claim7 := { stood := { row := punyBootsUptoRow, standIns := [], harness := (true, "ccbb892e29648a19264a7007f1ce6fc8f85b276314c16be5edc177a5f0457e2e"), looks := false }, kinds := [], alts := [], laidByText := true, laidKinds := [.data, .pinned], laidTests := true, laidLooks := .later }
def PunyBootsUptoCardSaid : Prop := Claim7.holds Tryd.pinned (.plain (OpenSpec.upto punyBootsSpec)) punyBootsUptoCard

/-- THE SECOND FORM's CARD OF 'posternlaw14.PunyUsual'. -/
def punyUsualUptoCard : Claim7 := { stood := { row := punyUsualUptoRow, standIns := [], harness := (true, "ccbb892e29648a19264a7007f1ce6fc8f85b276314c16be5edc177a5f0457e2e"), looks := false }, kinds := [], alts := [], laidByText := true, laidKinds := [.data, .pinned], laidTests := true, laidLooks := .later }
def PunyUsualUptoCardSaid : Prop := Claim7.holds Tryd.pinned (.plain (OpenSpec.upto punyUsualSpec)) punyUsualUptoCard
end Rows
end Go.Proofs.YtmjlkifmbhaiiaaDoor
