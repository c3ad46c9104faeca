/-
  DERIVED. GIVEN WITH THE SEED: THE CARDS: each row of YthdmpajkacmkdaaGreatDoorRows.lean that lists a variable, with what it lists TIED to the program's text (the seventh form; the later family's looks); each row that meets fmt, with fmt's text TOLD by the authors' own Lean function (tested against real Go, not proved from fmt's source: count such statements apart). THE CARD IS WHAT COUNTS. Prove the row's statement (the work); the ties are given (YthdmpajkacmkdaaGreatDoorTie.lean); close each card by the builder's one call (the guide's Derived/Test/ToyasCard.lean, 'card_holds'). Laid BY PROGRAM, IN A SANDBOX (cutbox-door.mjs). By AI agents, Wed Nov 11 2026. No macro, syntax, notation, axiom, sorry.
-/
import Derived.Test.YthdmpajkacmkdaaGreatDoorRows
import GoSem.ClaimSeven
namespace Go.Proofs.YthdmpajkacmkdaaGreatDoor
namespace Rows

/-- THE TIED CARD OF 'louvrelaw10.ShowExamples'. -/
def showExamplesCard : Claim7 := { stood := { row := showExamplesRow, standIns := [], harness := (true, "40744b05c8f5c689cc7f8917eaa6c19ea178121d7fd930bb5a297cc25f378b46"), looks := true }, kinds := [], alts := [], laidByText := true, laidKinds := [.data, .data, .data, .data, .data, .pinned], laidTests := true, laidLooks := .later }
def ShowExamplesCardSaid : Prop := Claim7.holds Tryz.pinned (.plain (OpenSpec.ofChange showExamplesSpec)) showExamplesCard

/-- THE SECOND FORM's CARD OF 'louvrelaw10.ShowExamples'. -/
def showExamplesUptoCard : Claim7 := { stood := { row := showExamplesUptoRow, standIns := [], harness := (true, "40744b05c8f5c689cc7f8917eaa6c19ea178121d7fd930bb5a297cc25f378b46"), looks := true }, kinds := [], alts := [], laidByText := true, laidKinds := [.data, .data, .data, .data, .data, .pinned], laidTests := true, laidLooks := .later }
def ShowExamplesUptoCardSaid : Prop := Claim7.holds Tryz.pinned (.plain (OpenSpec.upto showExamplesSpec)) showExamplesUptoCard
end Rows
end Go.Proofs.YthdmpajkacmkdaaGreatDoor
