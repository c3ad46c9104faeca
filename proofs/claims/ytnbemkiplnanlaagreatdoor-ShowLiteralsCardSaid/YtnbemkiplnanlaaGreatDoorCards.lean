/-
  DERIVED. GIVEN WITH THE SEED: THE CARDS: each row of YtnbemkiplnanlaaGreatDoorRows.lean that lists a variable, with what it lists TIED to the program's text (the seventh form; the later family's looks); each row that meets fmt, with fmt's text TOLD by the authors' own Lean function (tested against real Go, not proved from fmt's source: count such statements apart). THE CARD IS WHAT COUNTS. Prove the row's statement (the work); the ties are given (YtnbemkiplnanlaaGreatDoorTie.lean); close each card by the builder's one call (the guide's Derived/Test/ToyasCard.lean, 'card_holds'). Laid BY PROGRAM, IN A SANDBOX (cutbox-door.mjs). By AI agents, Wed Nov 11 2026. No macro, syntax, notation, axiom, sorry.
-/
import Derived.Test.YtnbemkiplnanlaaGreatDoorRows
import GoSem.ClaimSeven
namespace Go.Proofs.YtnbemkiplnanlaaGreatDoor
namespace Rows

/-- THE TIED CARD OF 'louvrelaw10.ShowFormulas'. -/
def showFormulasCard : Claim7 := { stood := { row := showFormulasRow, standIns := [], harness := (true, "98c2c6931762d497fcbe737f9bbe10e59e32d8c793e9da6ae1e03012764230f9"), looks := true }, kinds := [], alts := [], laidByText := true, laidKinds := [.data, .data, .data, .data, .data, .pinned], laidTests := true, laidLooks := .later }
def ShowFormulasCardSaid : Prop := Claim7.holds Tryz.pinned (.plain (OpenSpec.ofChange showFormulasSpec)) showFormulasCard

/-- THE TIED CARD OF 'louvrelaw10.ShowLiterals'. -/
def showLiteralsCard : Claim7 := { stood := { row := showLiteralsRow, standIns := [], harness := (true, "98c2c6931762d497fcbe737f9bbe10e59e32d8c793e9da6ae1e03012764230f9"), looks := true }, kinds := [], alts := [], laidByText := true, laidKinds := [.data, .data, .data, .data, .data, .pinned], laidTests := true, laidLooks := .later }
def ShowLiteralsCardSaid : Prop := Claim7.holds Tryz.pinned (.plain (OpenSpec.ofChange showLiteralsSpec)) showLiteralsCard

/-- THE TIED CARD OF 'louvrelaw10.ShowExamples'. -/
def showExamplesCard : Claim7 := { stood := { row := showExamplesRow, standIns := [], harness := (true, "98c2c6931762d497fcbe737f9bbe10e59e32d8c793e9da6ae1e03012764230f9"), looks := true }, kinds := [], alts := [], laidByText := true, laidKinds := [.data, .data, .data, .data, .data, .pinned], laidTests := true, laidLooks := .later }
def ShowExamplesCardSaid : Prop := Claim7.holds Tryz.pinned (.plain (OpenSpec.ofChange showExamplesSpec)) showExamplesCard

/-- THE TIED CARD OF 'louvrelaw10.ShowTight'. -/
def showTightCard : Claim7 := { stood := { row := showTightRow, standIns := [], harness := (true, "98c2c6931762d497fcbe737f9bbe10e59e32d8c793e9da6ae1e03012764230f9"), looks := true }, kinds := [], alts := [], laidByText := true, laidKinds := [.data, .data, .data, .data, .data, .pinned], laidTests := true, laidLooks := .later }
def ShowTightCardSaid : Prop := Claim7.holds Tryz.pinned (.plain (OpenSpec.ofChange showTightSpec)) showTightCard

/-- THE TIED CARD OF 'louvrelaw11.EntryMeans'. -/
def entryMeansCard : Claim7 := { stood := { row := entryMeansRow, standIns := [], harness := (true, "98c2c6931762d497fcbe737f9bbe10e59e32d8c793e9da6ae1e03012764230f9"), looks := true }, kinds := [], alts := [], laidByText := true, laidKinds := [.data, .data, .data, .data, .data, .pinned], laidTests := true, laidLooks := .later }
def EntryMeansCardSaid : Prop := Claim7.holds Tryz.pinned (.plain (OpenSpec.ofChange entryMeansSpec)) entryMeansCard

/-- THE TIED CARD OF 'louvrelaw11.EntryConstants'. -/
def entryConstantsCard : Claim7 := { stood := { row := entryConstantsRow, standIns := [], harness := (true, "98c2c6931762d497fcbe737f9bbe10e59e32d8c793e9da6ae1e03012764230f9"), looks := true }, kinds := [], alts := [], laidByText := true, laidKinds := [.data, .data, .data, .data, .data, .pinned], laidTests := true, laidLooks := .later }
def EntryConstantsCardSaid : Prop := Claim7.holds Tryz.pinned (.plain (OpenSpec.ofChange entryConstantsSpec)) entryConstantsCard

/-- THE TIED CARD OF 'louvrelaw11.EntryCanonical'. -/
def entryCanonicalCard : Claim7 := { stood := { row := entryCanonicalRow, standIns := [], harness := (true, "98c2c6931762d497fcbe737f9bbe10e59e32d8c793e9da6ae1e03012764230f9"), looks := true }, kinds := [], alts := [], laidByText := true, laidKinds := [.data, .data, .data, .data, .data, .pinned], laidTests := true, laidLooks := .later }
def EntryCanonicalCardSaid : Prop := Claim7.holds Tryz.pinned (.plain (OpenSpec.ofChange entryCanonicalSpec)) entryCanonicalCard

/-- THE TIED CARD OF 'louvrelaw11.EntryBack'. -/
def entryBackCard : Claim7 := { stood := { row := entryBackRow, standIns := [], harness := (true, "98c2c6931762d497fcbe737f9bbe10e59e32d8c793e9da6ae1e03012764230f9"), looks := true }, kinds := [], alts := [], laidByText := true, laidKinds := [.data, .data, .data, .data, .data, .pinned], laidTests := true, laidLooks := .later }
def EntryBackCardSaid : Prop := Claim7.holds Tryz.pinned (.plain (OpenSpec.ofChange entryBackSpec)) entryBackCard

/-- THE TIED CARD OF 'louvrelaw11.EntryChecks'. -/
def entryChecksCard : Claim7 := { stood := { row := entryChecksRow, standIns := [], harness := (true, "98c2c6931762d497fcbe737f9bbe10e59e32d8c793e9da6ae1e03012764230f9"), looks := true }, kinds := [], alts := [], laidByText := true, laidKinds := [.data, .data, .data, .data, .data, .pinned], laidTests := true, laidLooks := .later }
def EntryChecksCardSaid : Prop := Claim7.holds Tryz.pinned (.plain (OpenSpec.ofChange entryChecksSpec)) entryChecksCard

/-- THE TIED CARD OF 'louvrelaw11.EntryExamples'. -/
def entryExamplesCard : Claim7 := { stood := { row := entryExamplesRow, standIns := [], harness := (true, "98c2c6931762d497fcbe737f9bbe10e59e32d8c793e9da6ae1e03012764230f9"), looks := true }, kinds := [], alts := [], laidByText := true, laidKinds := [.data, .data, .data, .data, .data, .pinned], laidTests := true, laidLooks := .later }
def EntryExamplesCardSaid : Prop := Claim7.holds Tryz.pinned (.plain (OpenSpec.ofChange entryExamplesSpec)) entryExamplesCard

/-- THE TIED CARD OF 'louvrelaw11.EntryParts'. -/
def entryPartsCard : Claim7 := { stood := { row := entryPartsRow, standIns := [], harness := (true, "98c2c6931762d497fcbe737f9bbe10e59e32d8c793e9da6ae1e03012764230f9"), looks := true }, kinds := [], alts := [], laidByText := true, laidKinds := [.data, .data, .data, .data, .data, .pinned], laidTests := true, laidLooks := .later }
def EntryPartsCardSaid : Prop := Claim7.holds Tryz.pinned (.plain (OpenSpec.ofChange entryPartsSpec)) entryPartsCard

/-- THE SECOND FORM's CARD OF 'louvrelaw10.ShowFormulas'. -/
def showFormulasUptoCard : Claim7 := { stood := { row := showFormulasUptoRow, standIns := [], harness := (true, "98c2c6931762d497fcbe737f9bbe10e59e32d8c793e9da6ae1e03012764230f9"), looks := true }, kinds := [], alts := [], laidByText := true, laidKinds := [.data, .data, .data, .data, .data, .pinned], laidTests := true, laidLooks := .later }
def ShowFormulasUptoCardSaid : Prop := Claim7.holds Tryz.pinned (.plain (OpenSpec.upto showFormulasSpec)) showFormulasUptoCard

/-- THE SECOND FORM's CARD OF 'louvrelaw10.ShowLiterals'. -/
def showLiteralsUptoCard : Claim7 := { stood := { row := showLiteralsUptoRow, standIns := [], harness := (true, "98c2c6931762d497fcbe737f9bbe10e59e32d8c793e9da6ae1e03012764230f9"), looks := true }, kinds := [], alts := [], laidByText := true, laidKinds := [.data, .data, .data, .data, .data, .pinned], laidTests := true, laidLooks := .later }
def ShowLiteralsUptoCardSaid : Prop := Claim7.holds Tryz.pinned (.plain (OpenSpec.upto showLiteralsSpec)) showLiteralsUptoCard

/-- THE SECOND FORM's CARD OF 'louvrelaw10.ShowExamples'. -/
def showExamplesUptoCard : Claim7 := { stood := { row := showExamplesUptoRow, standIns := [], harness := (true, "98c2c6931762d497fcbe737f9bbe10e59e32d8c793e9da6ae1e03012764230f9"), looks := true }, kinds := [], alts := [], laidByText := true, laidKinds := [.data, .data, .data, .data, .data, .pinned], laidTests := true, laidLooks := .later }
def ShowExamplesUptoCardSaid : Prop := Claim7.holds Tryz.pinned (.plain (OpenSpec.upto showExamplesSpec)) showExamplesUptoCard

/-- THE SECOND FORM's CARD OF 'louvrelaw10.ShowTight'. -/
def showTightUptoCard : Claim7 := { stood := { row := showTightUptoRow, standIns := [], harness := (true, "98c2c6931762d497fcbe737f9bbe10e59e32d8c793e9da6ae1e03012764230f9"), looks := true }, kinds := [], alts := [], laidByText := true, laidKinds := [.data, .data, .data, .data, .data, .pinned], laidTests := true, laidLooks := .later }
def ShowTightUptoCardSaid : Prop := Claim7.holds Tryz.pinned (.plain (OpenSpec.upto showTightSpec)) showTightUptoCard

/-- THE SECOND FORM's CARD OF 'louvrelaw11.EntryMeans'. -/
def entryMeansUptoCard : Claim7 := { stood := { row := entryMeansUptoRow, standIns := [], harness := (true, "98c2c6931762d497fcbe737f9bbe10e59e32d8c793e9da6ae1e03012764230f9"), looks := true }, kinds := [], alts := [], laidByText := true, laidKinds := [.data, .data, .data, .data, .data, .pinned], laidTests := true, laidLooks := .later }
def EntryMeansUptoCardSaid : Prop := Claim7.holds Tryz.pinned (.plain (OpenSpec.upto entryMeansSpec)) entryMeansUptoCard

/-- THE SECOND FORM's CARD OF 'louvrelaw11.EntryConstants'. -/
def entryConstantsUptoCard : Claim7 := { stood := { row := entryConstantsUptoRow, standIns := [], harness := (true, "98c2c6931762d497fcbe737f9bbe10e59e32d8c793e9da6ae1e03012764230f9"), looks := true }, kinds := [], alts := [], laidByText := true, laidKinds := [.data, .data, .data, .data, .data, .pinned], laidTests := true, laidLooks := .later }
def EntryConstantsUptoCardSaid : Prop := Claim7.holds Tryz.pinned (.plain (OpenSpec.upto entryConstantsSpec)) entryConstantsUptoCard

/-- THE SECOND FORM's CARD OF 'louvrelaw11.EntryCanonical'. -/
def entryCanonicalUptoCard : Claim7 := { stood := { row := entryCanonicalUptoRow, standIns := [], harness := (true, "98c2c6931762d497fcbe737f9bbe10e59e32d8c793e9da6ae1e03012764230f9"), looks := true }, kinds := [], alts := [], laidByText := true, laidKinds := [.data, .data, .data, .data, .data, .pinned], laidTests := true, laidLooks := .later }
def EntryCanonicalUptoCardSaid : Prop := Claim7.holds Tryz.pinned (.plain (OpenSpec.upto entryCanonicalSpec)) entryCanonicalUptoCard

/-- THE SECOND FORM's CARD OF 'louvrelaw11.EntryBack'. -/
def entryBackUptoCard : Claim7 := { stood := { row := entryBackUptoRow, standIns := [], harness := (true, "98c2c6931762d497fcbe737f9bbe10e59e32d8c793e9da6ae1e03012764230f9"), looks := true }, kinds := [], alts := [], laidByText := true, laidKinds := [.data, .data, .data, .data, .data, .pinned], laidTests := true, laidLooks := .later }
def EntryBackUptoCardSaid : Prop := Claim7.holds Tryz.pinned (.plain (OpenSpec.upto entryBackSpec)) entryBackUptoCard

/-- THE SECOND FORM's CARD OF 'louvrelaw11.EntryChecks'. -/
def entryChecksUptoCard : Claim7 := { stood := { row := entryChecksUptoRow, standIns := [], harness := (true, "98c2c6931762d497fcbe737f9bbe10e59e32d8c793e9da6ae1e03012764230f9"), looks := true }, kinds := [], alts := [], laidByText := true, laidKinds := [.data, .data, .data, .data, .data, .pinned], laidTests := true, laidLooks := .later }
def EntryChecksUptoCardSaid : Prop := Claim7.holds Tryz.pinned (.plain (OpenSpec.upto entryChecksSpec)) entryChecksUptoCard

/-- THE SECOND FORM's CARD OF 'louvrelaw11.EntryExamples'. -/
def entryExamplesUptoCard : Claim7 := { stood := { row := entryExamplesUptoRow, standIns := [], harness := (true, "98c2c6931762d497fcbe737f9bbe10e59e32d8c793e9da6ae1e03012764230f9"), looks := true }, kinds := [], alts := [], laidByText := true, laidKinds := [.data, .data, .data, .data, .data, .pinned], laidTests := true, laidLooks := .later }
def EntryExamplesUptoCardSaid : Prop := Claim7.holds Tryz.pinned (.plain (OpenSpec.upto entryExamplesSpec)) entryExamplesUptoCard

/-- THE SECOND FORM's CARD OF 'louvrelaw11.EntryParts'. -/
def entryPartsUptoCard : Claim7 := { stood := { row := entryPartsUptoRow, standIns := [], harness := (true, "98c2c6931762d497fcbe737f9bbe10e59e32d8c793e9da6ae1e03012764230f9"), looks := true }, kinds := [], alts := [], laidByText := true, laidKinds := [.data, .data, .data, .data, .data, .pinned], laidTests := true, laidLooks := .later }
def EntryPartsUptoCardSaid : Prop := Claim7.holds Tryz.pinned (.plain (OpenSpec.upto entryPartsSpec)) entryPartsUptoCard
end Rows
end Go.Proofs.YtnbemkiplnanlaaGreatDoor
