/-
  DERIVED. GIVEN WITH THE SEED: THE CARDS: each row of YtmalncmdfmoccaaGreatDoorRows.lean that lists a variable, with what it lists TIED to the program's text (the seventh form; the later family's looks); each row that meets fmt, with fmt's text TOLD by the authors' own Lean function (tested against real Go, not proved from fmt's source: count such statements apart). THE CARD IS WHAT COUNTS. Prove the row's statement (the work); the ties are given (YtmalncmdfmoccaaGreatDoorTie.lean); close each card by the builder's one call (the guide's Derived/Test/ToyasCard.lean, 'card_holds'). Laid BY PROGRAM, IN A SANDBOX (cutbox-door.mjs). By AI agents, Wed Nov 11 2026. No macro, syntax, notation, axiom, sorry.
-/
import Derived.Test.YtmalncmdfmoccaaGreatDoorRows
import GoSem.ClaimSeven
namespace Go.Proofs.YtmalncmdfmoccaaGreatDoor
namespace Rows

/-- THE TIED CARD OF 'louvrelaw42.LinesReplies'. -/
def linesRepliesCard : Claim7 := { stood := { row := linesRepliesRow, standIns := [], harness := (true, "db6d640277e3e792b384728ef5d05fedac62e1c97a6f1ae5e5c347ceda5e1c3f"), looks := true }, kinds := [], alts := [], laidByText := true, laidKinds := [.data, .data, .data, .data, .sentinel, .sentinel, .data, .pinned], laidTests := true, laidLooks := .later }
def LinesRepliesCardSaid : Prop := Claim7.holds Tryz.pinned (.plain (OpenSpec.ofChange linesRepliesSpec)) linesRepliesCard

/-- THE TIED CARD OF 'louvrelaw42.LinesTells'. -/
def linesTellsCard : Claim7 := { stood := { row := linesTellsRow, standIns := [], harness := (true, "db6d640277e3e792b384728ef5d05fedac62e1c97a6f1ae5e5c347ceda5e1c3f"), looks := true }, kinds := [], alts := [], laidByText := true, laidKinds := [.data, .data, .data, .data, .sentinel, .sentinel, .data, .pinned], laidTests := true, laidLooks := .later }
def LinesTellsCardSaid : Prop := Claim7.holds Tryz.pinned (.plain (OpenSpec.ofChange linesTellsSpec)) linesTellsCard

/-- THE TIED CARD OF 'louvrelaw42.LinesExamples'. -/
def linesExamplesCard : Claim7 := { stood := { row := linesExamplesRow, standIns := [], harness := (true, "db6d640277e3e792b384728ef5d05fedac62e1c97a6f1ae5e5c347ceda5e1c3f"), looks := true }, kinds := [], alts := [], laidByText := true, laidKinds := [.data, .data, .data, .data, .sentinel, .sentinel, .data, .pinned], laidTests := true, laidLooks := .later }
def LinesExamplesCardSaid : Prop := Claim7.holds Tryz.pinned (.plain (OpenSpec.ofChange linesExamplesSpec)) linesExamplesCard

/-- THE SECOND FORM's CARD OF 'louvrelaw42.LinesReplies'. -/
def linesRepliesUptoCard : Claim7 := { stood := { row := linesRepliesUptoRow, standIns := [], harness := (true, "db6d640277e3e792b384728ef5d05fedac62e1c97a6f1ae5e5c347ceda5e1c3f"), looks := true }, kinds := [], alts := [], laidByText := true, laidKinds := [.data, .data, .data, .data, .sentinel, .sentinel, .data, .pinned], laidTests := true, laidLooks := .later }
def LinesRepliesUptoCardSaid : Prop := Claim7.holds Tryz.pinned (.plain (OpenSpec.upto linesRepliesSpec)) linesRepliesUptoCard

/-- THE SECOND FORM's CARD OF 'louvrelaw42.LinesTells'. -/
def linesTellsUptoCard : Claim7 := { stood := { row := linesTellsUptoRow, standIns := [], harness := (true, "db6d640277e3e792b384728ef5d05fedac62e1c97a6f1ae5e5c347ceda5e1c3f"), looks := true }, kinds := [], alts := [], laidByText := true, laidKinds := [.data, .data, .data, .data, .sentinel, .sentinel, .data, .pinned], laidTests := true, laidLooks := .later }
def LinesTellsUptoCardSaid : Prop := Claim7.holds Tryz.pinned (.plain (OpenSpec.upto linesTellsSpec)) linesTellsUptoCard

/-- THE SECOND FORM's CARD OF 'louvrelaw42.LinesExamples'. -/
def linesExamplesUptoCard : Claim7 := { stood := { row := linesExamplesUptoRow, standIns := [], harness := (true, "db6d640277e3e792b384728ef5d05fedac62e1c97a6f1ae5e5c347ceda5e1c3f"), looks := true }, kinds := [], alts := [], laidByText := true, laidKinds := [.data, .data, .data, .data, .sentinel, .sentinel, .data, .pinned], laidTests := true, laidLooks := .later }
def LinesExamplesUptoCardSaid : Prop := Claim7.holds Tryz.pinned (.plain (OpenSpec.upto linesExamplesSpec)) linesExamplesUptoCard
end Rows
end Go.Proofs.YtmalncmdfmoccaaGreatDoor
