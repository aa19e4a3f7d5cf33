/-
  DERIVED. GIVEN WITH THE SEED: THE CARDS: each row of YtfbgmlophkbejaaDoorRows.lean that lists a variable, with what it lists TIED to the program's text (the seventh form; the later family's looks); each row that meets fmt, with fmt's text TOLD by the authors' own Lean function (tested against real Go, not proved from fmt's source: count such statements apart). THE CARD IS WHAT COUNTS. Prove the row's statement (the work); the ties are given (YtfbgmlophkbejaaDoorTie.lean); close each card by the builder's one call (the guide's Derived/Test/ToyasCard.lean, 'card_holds'). Laid BY PROGRAM, IN A SANDBOX (cutbox-door.mjs). By AI agents, Wed Nov 11 2026. No macro, syntax, notation, axiom, sorry.
-/
import Derived.Test.YtfbgmlophkbejaaDoorRows
import GoSem.ClaimSeven
namespace Go.Proofs.YtfbgmlophkbejaaDoor
namespace Rows

/-- THE TIED CARD OF 'posternlaw03.PercentForms'. -/
def percentFormsCard : Claim7 := { stood := { row := percentFormsRow, standIns := [], harness := (true, "05538b6ba781e0f162caee167b02df2a34e8ea929d2b5b9ff292498594bb6d99"), looks := false }, kinds := [], alts := [], laidByText := true, laidKinds := [.data, .pinned], laidTests := true, laidLooks := .later }
def PercentFormsCardSaid : Prop := Claim7.holds Tryd.pinned (.plain (OpenSpec.ofChange percentFormsSpec)) percentFormsCard

/-- THE TIED CARD OF 'posternlaw03.PercentBack'. -/
def percentBackCard : Claim7 := { stood := { row := percentBackRow, standIns := [], harness := (true, "05538b6ba781e0f162caee167b02df2a34e8ea929d2b5b9ff292498594bb6d99"), looks := false }, kinds := [], alts := [], laidByText := true, laidKinds := [.data, .pinned], laidTests := true, laidLooks := .later }
def PercentBackCardSaid : Prop := Claim7.holds Tryd.pinned (.plain (OpenSpec.ofChange percentBackSpec)) percentBackCard

/-- THE TIED CARD OF 'posternlaw03.PercentAsks'. -/
def percentAsksCard : Claim7 := { stood := { row := percentAsksRow, standIns := [], harness := (true, "05538b6ba781e0f162caee167b02df2a34e8ea929d2b5b9ff292498594bb6d99"), looks := false }, kinds := [], alts := [], laidByText := true, laidKinds := [.data, .pinned], laidTests := true, laidLooks := .later }
def PercentAsksCardSaid : Prop := Claim7.holds Tryd.pinned (.plain (OpenSpec.ofChange percentAsksSpec)) percentAsksCard

/-- THE TIED CARD OF 'posternlaw03.PercentReads'. -/
def percentReadsCard : Claim7 := { stood := { row := percentReadsRow, standIns := [], harness := (true, "05538b6ba781e0f162caee167b02df2a34e8ea929d2b5b9ff292498594bb6d99"), looks := false }, kinds := [], alts := [], laidByText := true, laidKinds := [.data, .pinned], laidTests := true, laidLooks := .later }
def PercentReadsCardSaid : Prop := Claim7.holds Tryd.pinned (.plain (OpenSpec.ofChange percentReadsSpec)) percentReadsCard

/-- THE TIED CARD OF 'posternlaw03.PercentFields'. -/
def percentFieldsCard : Claim7 := { stood := { row := percentFieldsRow, standIns := [], harness := (true, "05538b6ba781e0f162caee167b02df2a34e8ea929d2b5b9ff292498594bb6d99"), looks := false }, kinds := [], alts := [], laidByText := true, laidKinds := [.data, .pinned], laidTests := true, laidLooks := .later }
def PercentFieldsCardSaid : Prop := Claim7.holds Tryd.pinned (.plain (OpenSpec.ofChange percentFieldsSpec)) percentFieldsCard

/-- THE TIED CARD OF 'posternlaw03.PercentWritten'. -/
def percentWrittenCard : Claim7 := { stood := { row := percentWrittenRow, standIns := [], harness := (true, "05538b6ba781e0f162caee167b02df2a34e8ea929d2b5b9ff292498594bb6d99"), looks := false }, kinds := [], alts := [], laidByText := true, laidKinds := [.data, .pinned], laidTests := true, laidLooks := .later }
def PercentWrittenCardSaid : Prop := Claim7.holds Tryd.pinned (.plain (OpenSpec.ofChange percentWrittenSpec)) percentWrittenCard

/-- THE SECOND FORM's CARD OF 'posternlaw03.PercentForms'. -/
def percentFormsUptoCard : Claim7 := { stood := { row := percentFormsUptoRow, standIns := [], harness := (true, "05538b6ba781e0f162caee167b02df2a34e8ea929d2b5b9ff292498594bb6d99"), looks := false }, kinds := [], alts := [], laidByText := true, laidKinds := [.data, .pinned], laidTests := true, laidLooks := .later }
def PercentFormsUptoCardSaid : Prop := Claim7.holds Tryd.pinned (.plain (OpenSpec.upto percentFormsSpec)) percentFormsUptoCard

/-- THE SECOND FORM's CARD OF 'posternlaw03.PercentBack'. -/
def percentBackUptoCard : Claim7 := { stood := { row := percentBackUptoRow, standIns := [], harness := (true, "05538b6ba781e0f162caee167b02df2a34e8ea929d2b5b9ff292498594bb6d99"), looks := false }, kinds := [], alts := [], laidByText := true, laidKinds := [.data, .pinned], laidTests := true, laidLooks := .later }
def PercentBackUptoCardSaid : Prop := Claim7.holds Tryd.pinned (.plain (OpenSpec.upto percentBackSpec)) percentBackUptoCard

/-- THE SECOND FORM's CARD OF 'posternlaw03.PercentAsks'. -/
def percentAsksUptoCard : Claim7 := { stood := { row := percentAsksUptoRow, standIns := [], harness := (true, "05538b6ba781e0f162caee167b02df2a34e8ea929d2b5b9ff292498594bb6d99"), looks := false }, kinds := [], alts := [], laidByText := true, laidKinds := [.data, .pinned], laidTests := true, laidLooks := .later }
def PercentAsksUptoCardSaid : Prop := Claim7.holds Tryd.pinned (.plain (OpenSpec.upto percentAsksSpec)) percentAsksUptoCard

/-- THE SECOND FORM's CARD OF 'posternlaw03.PercentReads'. -/
def percentReadsUptoCard : Claim7 := { stood := { row := percentReadsUptoRow, standIns := [], harness := (true, "05538b6ba781e0f162caee167b02df2a34e8ea929d2b5b9ff292498594bb6d99"), looks := false }, kinds := [], alts := [], laidByText := true, laidKinds := [.data, .pinned], laidTests := true, laidLooks := .later }
def PercentReadsUptoCardSaid : Prop := Claim7.holds Tryd.pinned (.plain (OpenSpec.upto percentReadsSpec)) percentReadsUptoCard

/-- THE SECOND FORM's CARD OF 'posternlaw03.PercentFields'. -/
def percentFieldsUptoCard : Claim7 := { stood := { row := percentFieldsUptoRow, standIns := [], harness := (true, "05538b6ba781e0f162caee167b02df2a34e8ea929d2b5b9ff292498594bb6d99"), looks := false }, kinds := [], alts := [], laidByText := true, laidKinds := [.data, .pinned], laidTests := true, laidLooks := .later }
def PercentFieldsUptoCardSaid : Prop := Claim7.holds Tryd.pinned (.plain (OpenSpec.upto percentFieldsSpec)) percentFieldsUptoCard

/-- THE SECOND FORM's CARD OF 'posternlaw03.PercentWritten'. -/
def percentWrittenUptoCard : Claim7 := { stood := { row := percentWrittenUptoRow, standIns := [], harness := (true, "05538b6ba781e0f162caee167b02df2a34e8ea929d2b5b9ff292498594bb6d99"), looks := false }, kinds := [], alts := [], laidByText := true, laidKinds := [.data, .pinned], laidTests := true, laidLooks := .later }
def PercentWrittenUptoCardSaid : Prop := Claim7.holds Tryd.pinned (.plain (OpenSpec.upto percentWrittenSpec)) percentWrittenUptoCard
end Rows
end Go.Proofs.YtfbgmlophkbejaaDoor
