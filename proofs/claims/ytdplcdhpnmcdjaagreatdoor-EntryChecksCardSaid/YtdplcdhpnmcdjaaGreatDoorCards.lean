/-
  DERIVED. GIVEN WITH THE SEED: THE CARDS: each row of YtdplcdhpnmcdjaaGreatDoorRows.lean that lists a variable, with what it lists TIED to the program's text (the seventh form; the later family's looks); each row that meets fmt, with fmt's text TOLD by the authors' own Lean function (tested against real Go, not proved from fmt's source: count such statements apart). THE CARD IS WHAT COUNTS. Prove the row's statement (the work); the ties are given (YtdplcdhpnmcdjaaGreatDoorTie.lean); close each card by the builder's one call (the guide's Derived/Test/ToyasCard.lean, 'card_holds'). Laid BY PROGRAM, IN A SANDBOX (cutbox-door.mjs). By AI agents, Wed Nov 11 2026. No macro, syntax, notation, axiom, sorry.
-/
import Derived.Test.YtdplcdhpnmcdjaaGreatDoorRows
import GoSem.ClaimSeven
namespace Go.Proofs.YtdplcdhpnmcdjaaGreatDoor
namespace Rows

/-- THE TIED CARD OF 'louvrelaw10.ShowFormulas'. -/
def showFormulasCard : Claim7 := { stood := { row := showFormulasRow, standIns := [], harness := (true, "ca057ff51aa13cdea8ba295efcdf3b25c8e1270d52c22a865bc29278b8c26e43"), looks := true }, kinds := [], alts := [], laidByText := true, laidKinds := [.data, .data, .data, .data, .data, .pinned], laidTests := true, laidLooks := .later }
def ShowFormulasCardSaid : Prop := Claim7.holds Tryz.pinned (.plain (OpenSpec.ofChange showFormulasSpec)) showFormulasCard

/-- THE TIED CARD OF 'louvrelaw10.ShowExamples'. -/
def showExamplesCard : Claim7 := { stood := { row := showExamplesRow, standIns := [], harness := (true, "ca057ff51aa13cdea8ba295efcdf3b25c8e1270d52c22a865bc29278b8c26e43"), looks := true }, kinds := [], alts := [], laidByText := true, laidKinds := [.data, .data, .data, .data, .data, .pinned], laidTests := true, laidLooks := .later }
def ShowExamplesCardSaid : Prop := Claim7.holds Tryz.pinned (.plain (OpenSpec.ofChange showExamplesSpec)) showExamplesCard

/-- THE TIED CARD OF 'louvrelaw11.EntryConstants'. -/
def entryConstantsCard : Claim7 := { stood := { row := entryConstantsRow, standIns := [], harness := (true, "ca057ff51aa13cdea8ba295efcdf3b25c8e1270d52c22a865bc29278b8c26e43"), looks := true }, kinds := [], alts := [], laidByText := true, laidKinds := [.data, .data, .data, .data, .data, .pinned], laidTests := true, laidLooks := .later }
def EntryConstantsCardSaid : Prop := Claim7.holds Tryz.pinned (.plain (OpenSpec.ofChange entryConstantsSpec)) entryConstantsCard

/-- THE TIED CARD OF 'louvrelaw11.EntryChecks'. -/
def entryChecksCard : Claim7 := { stood := { row := entryChecksRow, standIns := [], harness := (true, "ca057ff51aa13cdea8ba295efcdf3b25c8e1270d52c22a865bc29278b8c26e43"), looks := true }, kinds := [], alts := [], laidByText := true, laidKinds := [.data, .data, .data, .data, .data, .pinned], laidTests := true, laidLooks := .later }
def EntryChecksCardSaid : Prop := Claim7.holds Tryz.pinned (.plain (OpenSpec.ofChange entryChecksSpec)) entryChecksCard

/-- THE SECOND FORM's CARD OF 'louvrelaw10.ShowFormulas'. -/
def showFormulasUptoCard : Claim7 := { stood := { row := showFormulasUptoRow, standIns := [], harness := (true, "ca057ff51aa13cdea8ba295efcdf3b25c8e1270d52c22a865bc29278b8c26e43"), looks := true }, kinds := [], alts := [], laidByText := true, laidKinds := [.data, .data, .data, .data, .data, .pinned], laidTests := true, laidLooks := .later }
def ShowFormulasUptoCardSaid : Prop := Claim7.holds Tryz.pinned (.plain (OpenSpec.upto showFormulasSpec)) showFormulasUptoCard

/-- THE SECOND FORM's CARD OF 'louvrelaw10.ShowExamples'. -/
def showExamplesUptoCard : Claim7 := { stood := { row := showExamplesUptoRow, standIns := [], harness := (true, "ca057ff51aa13cdea8ba295efcdf3b25c8e1270d52c22a865bc29278b8c26e43"), looks := true }, kinds := [], alts := [], laidByText := true, laidKinds := [.data, .data, .data, .data, .data, .pinned], laidTests := true, laidLooks := .later }
def ShowExamplesUptoCardSaid : Prop := Claim7.holds Tryz.pinned (.plain (OpenSpec.upto showExamplesSpec)) showExamplesUptoCard

/-- THE SECOND FORM's CARD OF 'louvrelaw11.EntryConstants'. -/
def entryConstantsUptoCard : Claim7 := { stood := { row := entryConstantsUptoRow, standIns := [], harness := (true, "ca057ff51aa13cdea8ba295efcdf3b25c8e1270d52c22a865bc29278b8c26e43"), looks := true }, kinds := [], alts := [], laidByText := true, laidKinds := [.data, .data, .data, .data, .data, .pinned], laidTests := true, laidLooks := .later }
def EntryConstantsUptoCardSaid : Prop := Claim7.holds Tryz.pinned (.plain (OpenSpec.upto entryConstantsSpec)) entryConstantsUptoCard

/-- THE SECOND FORM's CARD OF 'louvrelaw11.EntryChecks'. -/
def entryChecksUptoCard : Claim7 := { stood := { row := entryChecksUptoRow, standIns := [], harness := (true, "ca057ff51aa13cdea8ba295efcdf3b25c8e1270d52c22a865bc29278b8c26e43"), looks := true }, kinds := [], alts := [], laidByText := true, laidKinds := [.data, .data, .data, .data, .data, .pinned], laidTests := true, laidLooks := .later }
def EntryChecksUptoCardSaid : Prop := Claim7.holds Tryz.pinned (.plain (OpenSpec.upto entryChecksSpec)) entryChecksUptoCard
end Rows
end Go.Proofs.YtdplcdhpnmcdjaaGreatDoor
