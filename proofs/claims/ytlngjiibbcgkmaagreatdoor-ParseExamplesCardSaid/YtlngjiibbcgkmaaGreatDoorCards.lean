/-
  DERIVED. GIVEN WITH THE SEED: THE CARDS: each row of YtlngjiibbcgkmaaGreatDoorRows.lean that lists a variable, with what it lists TIED to the program's text (the seventh form; the later family's looks); each row that meets fmt, with fmt's text TOLD by the authors' own Lean function (tested against real Go, not proved from fmt's source: count such statements apart). THE CARD IS WHAT COUNTS. Prove the row's statement (the work); the ties are given (YtlngjiibbcgkmaaGreatDoorTie.lean); close each card by the builder's one call (the guide's Derived/Test/ToyasCard.lean, 'card_holds'). Laid BY PROGRAM, IN A SANDBOX (cutbox-door.mjs). By AI agents, Wed Nov 11 2026. No macro, syntax, notation, axiom, sorry.
-/
import Derived.Test.YtlngjiibbcgkmaaGreatDoorRows
import GoSem.ClaimSeven
namespace Go.Proofs.YtlngjiibbcgkmaaGreatDoor
namespace Rows

/-- THE TIED CARD OF 'louvrelaw09.ParseFormulas'. -/
def parseFormulasCard : Claim7 := { stood := { row := parseFormulasRow, standIns := [], harness := (true, "63636d5604d77fe5d0197ec8d2e75287252cf7de8d879440d946e24d2187539c"), looks := true }, kinds := [], alts := [], laidByText := true, laidKinds := [.data], laidTests := true, laidLooks := .later }
def ParseFormulasCardSaid : Prop := Claim7.holds Tryz.pinned (.plain (OpenSpec.ofChange parseFormulasSpec)) parseFormulasCard

/-- THE TIED CARD OF 'louvrelaw09.ParseExamples'. -/
def parseExamplesCard : Claim7 := { stood := { row := parseExamplesRow, standIns := [], harness := (true, "63636d5604d77fe5d0197ec8d2e75287252cf7de8d879440d946e24d2187539c"), looks := true }, kinds := [], alts := [], laidByText := true, laidKinds := [.data], laidTests := true, laidLooks := .later }
def ParseExamplesCardSaid : Prop := Claim7.holds Tryz.pinned (.plain (OpenSpec.ofChange parseExamplesSpec)) parseExamplesCard

/-- THE TIED CARD OF 'louvrelaw07.LexTokens'. -/
def lexTokensCard : Claim7 := { stood := { row := lexTokensRow, standIns := [], harness := (true, "63636d5604d77fe5d0197ec8d2e75287252cf7de8d879440d946e24d2187539c"), looks := true }, kinds := [], alts := [], laidByText := true, laidKinds := [.data, .data, .data, .data, .data, .pinned], laidTests := true, laidLooks := .later }
def LexTokensCardSaid : Prop := Claim7.holds Tryz.pinned (.plain (OpenSpec.ofChange lexTokensSpec)) lexTokensCard

/-- THE TIED CARD OF 'louvrelaw07.LexWrites'. -/
def lexWritesCard : Claim7 := { stood := { row := lexWritesRow, standIns := [], harness := (true, "63636d5604d77fe5d0197ec8d2e75287252cf7de8d879440d946e24d2187539c"), looks := true }, kinds := [], alts := [], laidByText := true, laidKinds := [.data, .data, .data, .data, .data, .pinned], laidTests := true, laidLooks := .later }
def LexWritesCardSaid : Prop := Claim7.holds Tryz.pinned (.plain (OpenSpec.ofChange lexWritesSpec)) lexWritesCard

/-- THE TIED CARD OF 'louvrelaw07.LexExamples'. -/
def lexExamplesCard : Claim7 := { stood := { row := lexExamplesRow, standIns := [], harness := (true, "63636d5604d77fe5d0197ec8d2e75287252cf7de8d879440d946e24d2187539c"), looks := true }, kinds := [], alts := [], laidByText := true, laidKinds := [.data, .data, .data, .data, .data, .pinned], laidTests := true, laidLooks := .later }
def LexExamplesCardSaid : Prop := Claim7.holds Tryz.pinned (.plain (OpenSpec.ofChange lexExamplesSpec)) lexExamplesCard

/-- THE TIED CARD OF 'louvrelaw07.LexBack'. -/
def lexBackCard : Claim7 := { stood := { row := lexBackRow, standIns := [], harness := (true, "63636d5604d77fe5d0197ec8d2e75287252cf7de8d879440d946e24d2187539c"), looks := true }, kinds := [], alts := [], laidByText := true, laidKinds := [.data, .data, .data, .data, .data, .pinned], laidTests := true, laidLooks := .later }
def LexBackCardSaid : Prop := Claim7.holds Tryz.pinned (.plain (OpenSpec.ofChange lexBackSpec)) lexBackCard

/-- THE TIED CARD OF 'louvrelaw07.LexBlanks'. -/
def lexBlanksCard : Claim7 := { stood := { row := lexBlanksRow, standIns := [], harness := (true, "63636d5604d77fe5d0197ec8d2e75287252cf7de8d879440d946e24d2187539c"), looks := true }, kinds := [], alts := [], laidByText := true, laidKinds := [.data, .data, .data, .data, .data, .pinned], laidTests := true, laidLooks := .later }
def LexBlanksCardSaid : Prop := Claim7.holds Tryz.pinned (.plain (OpenSpec.ofChange lexBlanksSpec)) lexBlanksCard

/-- THE TIED CARD OF 'louvrelaw07.LexGaps'. -/
def lexGapsCard : Claim7 := { stood := { row := lexGapsRow, standIns := [], harness := (true, "63636d5604d77fe5d0197ec8d2e75287252cf7de8d879440d946e24d2187539c"), looks := true }, kinds := [], alts := [], laidByText := true, laidKinds := [.data, .data, .data, .data, .data, .pinned], laidTests := true, laidLooks := .later }
def LexGapsCardSaid : Prop := Claim7.holds Tryz.pinned (.plain (OpenSpec.ofChange lexGapsSpec)) lexGapsCard

/-- THE SECOND FORM's CARD OF 'louvrelaw09.ParseFormulas'. -/
def parseFormulasUptoCard : Claim7 := { stood := { row := parseFormulasUptoRow, standIns := [], harness := (true, "63636d5604d77fe5d0197ec8d2e75287252cf7de8d879440d946e24d2187539c"), looks := true }, kinds := [], alts := [], laidByText := true, laidKinds := [.data], laidTests := true, laidLooks := .later }
def ParseFormulasUptoCardSaid : Prop := Claim7.holds Tryz.pinned (.plain (OpenSpec.upto parseFormulasSpec)) parseFormulasUptoCard

/-- THE SECOND FORM's CARD OF 'louvrelaw09.ParseExamples'. -/
def parseExamplesUptoCard : Claim7 := { stood := { row := parseExamplesUptoRow, standIns := [], harness := (true, "63636d5604d77fe5d0197ec8d2e75287252cf7de8d879440d946e24d2187539c"), looks := true }, kinds := [], alts := [], laidByText := true, laidKinds := [.data], laidTests := true, laidLooks := .later }
def ParseExamplesUptoCardSaid : Prop := Claim7.holds Tryz.pinned (.plain (OpenSpec.upto parseExamplesSpec)) parseExamplesUptoCard

/-- THE SECOND FORM's CARD OF 'louvrelaw07.LexTokens'. -/
def lexTokensUptoCard : Claim7 := { stood := { row := lexTokensUptoRow, standIns := [], harness := (true, "63636d5604d77fe5d0197ec8d2e75287252cf7de8d879440d946e24d2187539c"), looks := true }, kinds := [], alts := [], laidByText := true, laidKinds := [.data, .data, .data, .data, .data, .pinned], laidTests := true, laidLooks := .later }
def LexTokensUptoCardSaid : Prop := Claim7.holds Tryz.pinned (.plain (OpenSpec.upto lexTokensSpec)) lexTokensUptoCard

/-- THE SECOND FORM's CARD OF 'louvrelaw07.LexWrites'. -/
def lexWritesUptoCard : Claim7 := { stood := { row := lexWritesUptoRow, standIns := [], harness := (true, "63636d5604d77fe5d0197ec8d2e75287252cf7de8d879440d946e24d2187539c"), looks := true }, kinds := [], alts := [], laidByText := true, laidKinds := [.data, .data, .data, .data, .data, .pinned], laidTests := true, laidLooks := .later }
def LexWritesUptoCardSaid : Prop := Claim7.holds Tryz.pinned (.plain (OpenSpec.upto lexWritesSpec)) lexWritesUptoCard

/-- THE SECOND FORM's CARD OF 'louvrelaw07.LexExamples'. -/
def lexExamplesUptoCard : Claim7 := { stood := { row := lexExamplesUptoRow, standIns := [], harness := (true, "63636d5604d77fe5d0197ec8d2e75287252cf7de8d879440d946e24d2187539c"), looks := true }, kinds := [], alts := [], laidByText := true, laidKinds := [.data, .data, .data, .data, .data, .pinned], laidTests := true, laidLooks := .later }
def LexExamplesUptoCardSaid : Prop := Claim7.holds Tryz.pinned (.plain (OpenSpec.upto lexExamplesSpec)) lexExamplesUptoCard

/-- THE SECOND FORM's CARD OF 'louvrelaw07.LexBack'. -/
def lexBackUptoCard : Claim7 := { stood := { row := lexBackUptoRow, standIns := [], harness := (true, "63636d5604d77fe5d0197ec8d2e75287252cf7de8d879440d946e24d2187539c"), looks := true }, kinds := [], alts := [], laidByText := true, laidKinds := [.data, .data, .data, .data, .data, .pinned], laidTests := true, laidLooks := .later }
def LexBackUptoCardSaid : Prop := Claim7.holds Tryz.pinned (.plain (OpenSpec.upto lexBackSpec)) lexBackUptoCard

/-- THE SECOND FORM's CARD OF 'louvrelaw07.LexBlanks'. -/
def lexBlanksUptoCard : Claim7 := { stood := { row := lexBlanksUptoRow, standIns := [], harness := (true, "63636d5604d77fe5d0197ec8d2e75287252cf7de8d879440d946e24d2187539c"), looks := true }, kinds := [], alts := [], laidByText := true, laidKinds := [.data, .data, .data, .data, .data, .pinned], laidTests := true, laidLooks := .later }
def LexBlanksUptoCardSaid : Prop := Claim7.holds Tryz.pinned (.plain (OpenSpec.upto lexBlanksSpec)) lexBlanksUptoCard

/-- THE SECOND FORM's CARD OF 'louvrelaw07.LexGaps'. -/
def lexGapsUptoCard : Claim7 := { stood := { row := lexGapsUptoRow, standIns := [], harness := (true, "63636d5604d77fe5d0197ec8d2e75287252cf7de8d879440d946e24d2187539c"), looks := true }, kinds := [], alts := [], laidByText := true, laidKinds := [.data, .data, .data, .data, .data, .pinned], laidTests := true, laidLooks := .later }
def LexGapsUptoCardSaid : Prop := Claim7.holds Tryz.pinned (.plain (OpenSpec.upto lexGapsSpec)) lexGapsUptoCard
end Rows
end Go.Proofs.YtlngjiibbcgkmaaGreatDoor
