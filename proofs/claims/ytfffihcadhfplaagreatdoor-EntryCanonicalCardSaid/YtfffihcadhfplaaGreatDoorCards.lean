/-
  DERIVED. GIVEN WITH THE SEED: THE CARDS: each row of YtfffihcadhfplaaGreatDoorRows.lean that lists a variable, with what it lists TIED to the program's text (the seventh form; the later family's looks); each row that meets fmt, with fmt's text TOLD by the authors' own Lean function (tested against real Go, not proved from fmt's source: count such statements apart). THE CARD IS WHAT COUNTS. Prove the row's statement (the work); the ties are given (YtfffihcadhfplaaGreatDoorTie.lean); close each card by the builder's one call (the guide's Derived/Test/ToyasCard.lean, 'card_holds'). Laid BY PROGRAM, IN A SANDBOX (cutbox-door.mjs). By AI agents, Wed Nov 11 2026. No macro, syntax, notation, axiom, sorry.
-/
import Derived.Test.YtfffihcadhfplaaGreatDoorRows
import GoSem.ClaimSeven
namespace Go.Proofs.YtfffihcadhfplaaGreatDoor
namespace Rows

/-- THE TIED CARD OF 'louvrelaw11.EntryConstants'. -/
def entryConstantsCard : Claim7 := { stood := { row := entryConstantsRow, standIns := [], harness := (true, "adca5ef8f68f1b0f9804a4632a4431a31917828e03f252315bbeb2ad12b4bf23"), looks := true }, kinds := [], alts := [], laidByText := true, laidKinds := [.data, .data, .data, .data, .data, .pinned], laidTests := true, laidLooks := .later }
def EntryConstantsCardSaid : Prop := Claim7.holds Tryz.pinned (.plain (OpenSpec.ofChange entryConstantsSpec)) entryConstantsCard

/-- THE TIED CARD OF 'louvrelaw11.EntryCanonical'. -/
def entryCanonicalCard : Claim7 := { stood := { row := entryCanonicalRow, standIns := [], harness := (true, "adca5ef8f68f1b0f9804a4632a4431a31917828e03f252315bbeb2ad12b4bf23"), looks := true }, kinds := [], alts := [], laidByText := true, laidKinds := [.data, .data, .data, .data, .data, .pinned], laidTests := true, laidLooks := .later }
def EntryCanonicalCardSaid : Prop := Claim7.holds Tryz.pinned (.plain (OpenSpec.ofChange entryCanonicalSpec)) entryCanonicalCard

/-- THE TIED CARD OF 'louvrelaw11.EntryBack'. -/
def entryBackCard : Claim7 := { stood := { row := entryBackRow, standIns := [], harness := (true, "adca5ef8f68f1b0f9804a4632a4431a31917828e03f252315bbeb2ad12b4bf23"), looks := true }, kinds := [], alts := [], laidByText := true, laidKinds := [.data, .data, .data, .data, .data, .pinned], laidTests := true, laidLooks := .later }
def EntryBackCardSaid : Prop := Claim7.holds Tryz.pinned (.plain (OpenSpec.ofChange entryBackSpec)) entryBackCard

/-- THE TIED CARD OF 'louvrelaw11.EntryExamples'. -/
def entryExamplesCard : Claim7 := { stood := { row := entryExamplesRow, standIns := [], harness := (true, "adca5ef8f68f1b0f9804a4632a4431a31917828e03f252315bbeb2ad12b4bf23"), looks := true }, kinds := [], alts := [], laidByText := true, laidKinds := [.data, .data, .data, .data, .data, .pinned], laidTests := true, laidLooks := .later }
def EntryExamplesCardSaid : Prop := Claim7.holds Tryz.pinned (.plain (OpenSpec.ofChange entryExamplesSpec)) entryExamplesCard

/-- THE TIED CARD OF 'louvrelaw11.EntryParts'. -/
def entryPartsCard : Claim7 := { stood := { row := entryPartsRow, standIns := [], harness := (true, "adca5ef8f68f1b0f9804a4632a4431a31917828e03f252315bbeb2ad12b4bf23"), looks := true }, kinds := [], alts := [], laidByText := true, laidKinds := [.data, .data, .data, .data, .data, .pinned], laidTests := true, laidLooks := .later }
def EntryPartsCardSaid : Prop := Claim7.holds Tryz.pinned (.plain (OpenSpec.ofChange entryPartsSpec)) entryPartsCard

/-- THE SECOND FORM's CARD OF 'louvrelaw11.EntryConstants'. -/
def entryConstantsUptoCard : Claim7 := { stood := { row := entryConstantsUptoRow, standIns := [], harness := (true, "adca5ef8f68f1b0f9804a4632a4431a31917828e03f252315bbeb2ad12b4bf23"), looks := true }, kinds := [], alts := [], laidByText := true, laidKinds := [.data, .data, .data, .data, .data, .pinned], laidTests := true, laidLooks := .later }
def EntryConstantsUptoCardSaid : Prop := Claim7.holds Tryz.pinned (.plain (OpenSpec.upto entryConstantsSpec)) entryConstantsUptoCard

/-- THE SECOND FORM's CARD OF 'louvrelaw11.EntryCanonical'. -/
def entryCanonicalUptoCard : Claim7 := { stood := { row := entryCanonicalUptoRow, standIns := [], harness := (true, "adca5ef8f68f1b0f9804a4632a4431a31917828e03f252315bbeb2ad12b4bf23"), looks := true }, kinds := [], alts := [], laidByText := true, laidKinds := [.data, .data, .data, .data, .data, .pinned], laidTests := true, laidLooks := .later }
def EntryCanonicalUptoCardSaid : Prop := Claim7.holds Tryz.pinned (.plain (OpenSpec.upto entryCanonicalSpec)) entryCanonicalUptoCard

/-- THE SECOND FORM's CARD OF 'louvrelaw11.EntryBack'. -/
def entryBackUptoCard : Claim7 := { stood := { row := entryBackUptoRow, standIns := [], harness := (true, "adca5ef8f68f1b0f9804a4632a4431a31917828e03f252315bbeb2ad12b4bf23"), looks := true }, kinds := [], alts := [], laidByText := true, laidKinds := [.data, .data, .data, .data, .data, .pinned], laidTests := true, laidLooks := .later }
def EntryBackUptoCardSaid : Prop := Claim7.holds Tryz.pinned (.plain (OpenSpec.upto entryBackSpec)) entryBackUptoCard

/-- THE SECOND FORM's CARD OF 'louvrelaw11.EntryExamples'. -/
def entryExamplesUptoCard : Claim7 := { stood := { row := entryExamplesUptoRow, standIns := [], harness := (true, "adca5ef8f68f1b0f9804a4632a4431a31917828e03f252315bbeb2ad12b4bf23"), looks := true }, kinds := [], alts := [], laidByText := true, laidKinds := [.data, .data, .data, .data, .data, .pinned], laidTests := true, laidLooks := .later }
def EntryExamplesUptoCardSaid : Prop := Claim7.holds Tryz.pinned (.plain (OpenSpec.upto entryExamplesSpec)) entryExamplesUptoCard

/-- THE SECOND FORM's CARD OF 'louvrelaw11.EntryParts'. -/
def entryPartsUptoCard : Claim7 := { stood := { row := entryPartsUptoRow, standIns := [], harness := (true, "adca5ef8f68f1b0f9804a4632a4431a31917828e03f252315bbeb2ad12b4bf23"), looks := true }, kinds := [], alts := [], laidByText := true, laidKinds := [.data, .data, .data, .data, .data, .pinned], laidTests := true, laidLooks := .later }
def EntryPartsUptoCardSaid : Prop := Claim7.holds Tryz.pinned (.plain (OpenSpec.upto entryPartsSpec)) entryPartsUptoCard
end Rows
end Go.Proofs.YtfffihcadhfplaaGreatDoor
