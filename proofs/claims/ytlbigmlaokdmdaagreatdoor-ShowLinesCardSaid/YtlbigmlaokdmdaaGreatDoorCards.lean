/-
  DERIVED. GIVEN WITH THE SEED: THE CARDS: each row of YtlbigmlaokdmdaaGreatDoorRows.lean that lists a variable, with what it lists TIED to the program's text (the seventh form; the later family's looks); each row that meets fmt, with fmt's text TOLD by the authors' own Lean function (tested against real Go, not proved from fmt's source: count such statements apart). THE CARD IS WHAT COUNTS. Prove the row's statement (the work); the ties are given (YtlbigmlaokdmdaaGreatDoorTie.lean); close each card by the builder's one call (the guide's Derived/Test/ToyasCard.lean, 'card_holds'). Laid BY PROGRAM, IN A SANDBOX (cutbox-door.mjs). By AI agents, Wed Nov 11 2026. No macro, syntax, notation, axiom, sorry.
-/
import Derived.Test.YtlbigmlaokdmdaaGreatDoorRows
import GoSem.ClaimSeven
namespace Go.Proofs.YtlbigmlaokdmdaaGreatDoor
namespace Rows

/-- THE TIED CARD OF 'louvrelaw10.ShowFormulas'. -/
def showFormulasCard : Claim7 := { stood := { row := showFormulasRow, standIns := [], harness := (true, "76af653dffed4b67ca491020cc3d415b2737c616fbc3e4b44ef45bc73393bac8"), looks := true }, kinds := [], alts := [], laidByText := true, laidKinds := [.data, .data, .data, .data, .data, .pinned], laidTests := true, laidLooks := .later }
def ShowFormulasCardSaid : Prop := Claim7.holds Tryz.pinned (.plain (OpenSpec.ofChange showFormulasSpec)) showFormulasCard

/-- THE TIED CARD OF 'louvrelaw10.ShowLiterals'. -/
def showLiteralsCard : Claim7 := { stood := { row := showLiteralsRow, standIns := [], harness := (true, "76af653dffed4b67ca491020cc3d415b2737c616fbc3e4b44ef45bc73393bac8"), looks := true }, kinds := [], alts := [], laidByText := true, laidKinds := [.data, .data, .data, .data, .data, .pinned], laidTests := true, laidLooks := .later }
def ShowLiteralsCardSaid : Prop := Claim7.holds Tryz.pinned (.plain (OpenSpec.ofChange showLiteralsSpec)) showLiteralsCard

/-- THE TIED CARD OF 'louvrelaw10.ShowExamples'. -/
def showExamplesCard : Claim7 := { stood := { row := showExamplesRow, standIns := [], harness := (true, "76af653dffed4b67ca491020cc3d415b2737c616fbc3e4b44ef45bc73393bac8"), looks := true }, kinds := [], alts := [], laidByText := true, laidKinds := [.data, .data, .data, .data, .data, .pinned], laidTests := true, laidLooks := .later }
def ShowExamplesCardSaid : Prop := Claim7.holds Tryz.pinned (.plain (OpenSpec.ofChange showExamplesSpec)) showExamplesCard

/-- THE TIED CARD OF 'louvrelaw10.ShowBack'. -/
def showBackCard : Claim7 := { stood := { row := showBackRow, standIns := [], harness := (true, "76af653dffed4b67ca491020cc3d415b2737c616fbc3e4b44ef45bc73393bac8"), looks := true }, kinds := [], alts := [], laidByText := true, laidKinds := [.data, .data, .data, .data, .data, .pinned], laidTests := true, laidLooks := .later }
def ShowBackCardSaid : Prop := Claim7.holds Tryz.pinned (.plain (OpenSpec.ofChange showBackSpec)) showBackCard

/-- THE TIED CARD OF 'louvrelaw10.ShowDiffers'. -/
def showDiffersCard : Claim7 := { stood := { row := showDiffersRow, standIns := [], harness := (true, "76af653dffed4b67ca491020cc3d415b2737c616fbc3e4b44ef45bc73393bac8"), looks := true }, kinds := [], alts := [], laidByText := true, laidKinds := [.data, .data, .data, .data, .data, .pinned], laidTests := true, laidLooks := .later }
def ShowDiffersCardSaid : Prop := Claim7.holds Tryz.pinned (.plain (OpenSpec.ofChange showDiffersSpec)) showDiffersCard

/-- THE TIED CARD OF 'louvrelaw10.ShowTight'. -/
def showTightCard : Claim7 := { stood := { row := showTightRow, standIns := [], harness := (true, "76af653dffed4b67ca491020cc3d415b2737c616fbc3e4b44ef45bc73393bac8"), looks := true }, kinds := [], alts := [], laidByText := true, laidKinds := [.data, .data, .data, .data, .data, .pinned], laidTests := true, laidLooks := .later }
def ShowTightCardSaid : Prop := Claim7.holds Tryz.pinned (.plain (OpenSpec.ofChange showTightSpec)) showTightCard

/-- THE TIED CARD OF 'louvrelaw10.ShowLines'. -/
def showLinesCard : Claim7 := { stood := { row := showLinesRow, standIns := [], harness := (true, "76af653dffed4b67ca491020cc3d415b2737c616fbc3e4b44ef45bc73393bac8"), looks := true }, kinds := [], alts := [], laidByText := true, laidKinds := [.data, .data, .data, .data, .data, .pinned], laidTests := true, laidLooks := .later }
def ShowLinesCardSaid : Prop := Claim7.holds Tryz.pinned (.plain (OpenSpec.ofChange showLinesSpec)) showLinesCard

/-- THE SECOND FORM's CARD OF 'louvrelaw10.ShowFormulas'. -/
def showFormulasUptoCard : Claim7 := { stood := { row := showFormulasUptoRow, standIns := [], harness := (true, "76af653dffed4b67ca491020cc3d415b2737c616fbc3e4b44ef45bc73393bac8"), looks := true }, kinds := [], alts := [], laidByText := true, laidKinds := [.data, .data, .data, .data, .data, .pinned], laidTests := true, laidLooks := .later }
def ShowFormulasUptoCardSaid : Prop := Claim7.holds Tryz.pinned (.plain (OpenSpec.upto showFormulasSpec)) showFormulasUptoCard

/-- THE SECOND FORM's CARD OF 'louvrelaw10.ShowLiterals'. -/
def showLiteralsUptoCard : Claim7 := { stood := { row := showLiteralsUptoRow, standIns := [], harness := (true, "76af653dffed4b67ca491020cc3d415b2737c616fbc3e4b44ef45bc73393bac8"), looks := true }, kinds := [], alts := [], laidByText := true, laidKinds := [.data, .data, .data, .data, .data, .pinned], laidTests := true, laidLooks := .later }
def ShowLiteralsUptoCardSaid : Prop := Claim7.holds Tryz.pinned (.plain (OpenSpec.upto showLiteralsSpec)) showLiteralsUptoCard

/-- THE SECOND FORM's CARD OF 'louvrelaw10.ShowExamples'. -/
def showExamplesUptoCard : Claim7 := { stood := { row := showExamplesUptoRow, standIns := [], harness := (true, "76af653dffed4b67ca491020cc3d415b2737c616fbc3e4b44ef45bc73393bac8"), looks := true }, kinds := [], alts := [], laidByText := true, laidKinds := [.data, .data, .data, .data, .data, .pinned], laidTests := true, laidLooks := .later }
def ShowExamplesUptoCardSaid : Prop := Claim7.holds Tryz.pinned (.plain (OpenSpec.upto showExamplesSpec)) showExamplesUptoCard

/-- THE SECOND FORM's CARD OF 'louvrelaw10.ShowBack'. -/
def showBackUptoCard : Claim7 := { stood := { row := showBackUptoRow, standIns := [], harness := (true, "76af653dffed4b67ca491020cc3d415b2737c616fbc3e4b44ef45bc73393bac8"), looks := true }, kinds := [], alts := [], laidByText := true, laidKinds := [.data, .data, .data, .data, .data, .pinned], laidTests := true, laidLooks := .later }
def ShowBackUptoCardSaid : Prop := Claim7.holds Tryz.pinned (.plain (OpenSpec.upto showBackSpec)) showBackUptoCard

/-- THE SECOND FORM's CARD OF 'louvrelaw10.ShowDiffers'. -/
def showDiffersUptoCard : Claim7 := { stood := { row := showDiffersUptoRow, standIns := [], harness := (true, "76af653dffed4b67ca491020cc3d415b2737c616fbc3e4b44ef45bc73393bac8"), looks := true }, kinds := [], alts := [], laidByText := true, laidKinds := [.data, .data, .data, .data, .data, .pinned], laidTests := true, laidLooks := .later }
def ShowDiffersUptoCardSaid : Prop := Claim7.holds Tryz.pinned (.plain (OpenSpec.upto showDiffersSpec)) showDiffersUptoCard

/-- THE SECOND FORM's CARD OF 'louvrelaw10.ShowTight'. -/
def showTightUptoCard : Claim7 := { stood := { row := showTightUptoRow, standIns := [], harness := (true, "76af653dffed4b67ca491020cc3d415b2737c616fbc3e4b44ef45bc73393bac8"), looks := true }, kinds := [], alts := [], laidByText := true, laidKinds := [.data, .data, .data, .data, .data, .pinned], laidTests := true, laidLooks := .later }
def ShowTightUptoCardSaid : Prop := Claim7.holds Tryz.pinned (.plain (OpenSpec.upto showTightSpec)) showTightUptoCard

/-- THE SECOND FORM's CARD OF 'louvrelaw10.ShowLines'. -/
def showLinesUptoCard : Claim7 := { stood := { row := showLinesUptoRow, standIns := [], harness := (true, "76af653dffed4b67ca491020cc3d415b2737c616fbc3e4b44ef45bc73393bac8"), looks := true }, kinds := [], alts := [], laidByText := true, laidKinds := [.data, .data, .data, .data, .data, .pinned], laidTests := true, laidLooks := .later }
def ShowLinesUptoCardSaid : Prop := Claim7.holds Tryz.pinned (.plain (OpenSpec.upto showLinesSpec)) showLinesUptoCard
end Rows
end Go.Proofs.YtlbigmlaokdmdaaGreatDoor
