/-
  DERIVED. GIVEN WITH THE SEED: THE CARDS: each row of YtjjdlhbbkkkjnaaDoorRows.lean that lists a variable, with what it lists TIED to the program's text (the seventh form; the later family's looks); each row that meets fmt, with fmt's text TOLD by the authors' own Lean function (tested against real Go, not proved from fmt's source: count such statements apart). THE CARD IS WHAT COUNTS. Prove the row's statement (the work); the ties are given (YtjjdlhbbkkkjnaaDoorTie.lean); close each card by the builder's one call (the guide's Derived/Test/ToyasCard.lean, 'card_holds'). Laid BY PROGRAM, IN A SANDBOX (cutbox-door.mjs). By AI agents, Wed Nov 11 2026. No macro, syntax, notation, axiom, sorry.
-/
import Derived.Test.YtjjdlhbbkkkjnaaDoorRows
import GoSem.ClaimSeven
namespace Go.Proofs.YtjjdlhbbkkkjnaaDoor
namespace Rows

/-- THE TIED CARD OF 'louvrelaw18.GroupMembers'. -/
def groupMembersCard : Claim7 := { stood := { row := groupMembersRow, standIns := [], harness := (true, "b2f6ce2bfc6fbb2f1f327da002c5dd1dc0d44fcee29e14606598e7eb0e5cce07"), looks := true }, kinds := [], alts := [], laidByText := true, laidKinds := [.data], laidTests := true, laidLooks := .later }
def GroupMembersCardSaid : Prop := Claim7.holds Tryd.pinned (.plain (OpenSpec.ofChange groupMembersSpec)) groupMembersCard

/-- THE TIED CARD OF 'louvrelaw18.GroupSets'. -/
def groupSetsCard : Claim7 := { stood := { row := groupSetsRow, standIns := [], harness := (true, "b2f6ce2bfc6fbb2f1f327da002c5dd1dc0d44fcee29e14606598e7eb0e5cce07"), looks := true }, kinds := [], alts := [], laidByText := true, laidKinds := [.data], laidTests := true, laidLooks := .later }
def GroupSetsCardSaid : Prop := Claim7.holds Tryd.pinned (.plain (OpenSpec.ofChange groupSetsSpec)) groupSetsCard

/-- THE TIED CARD OF 'louvrelaw18.GroupTexts'. -/
def groupTextsCard : Claim7 := { stood := { row := groupTextsRow, standIns := [], harness := (true, "b2f6ce2bfc6fbb2f1f327da002c5dd1dc0d44fcee29e14606598e7eb0e5cce07"), looks := true }, kinds := [], alts := [], laidByText := true, laidKinds := [.data, .data, .data, .data, .sentinel, .sentinel, .pinned], laidTests := true, laidLooks := .later }
def GroupTextsCardSaid : Prop := Claim7.holds Tryd.pinned (.plain (OpenSpec.ofChange groupTextsSpec)) groupTextsCard

/-- THE TIED CARD OF 'louvrelaw18.GroupBack'. -/
def groupBackCard : Claim7 := { stood := { row := groupBackRow, standIns := [], harness := (true, "b2f6ce2bfc6fbb2f1f327da002c5dd1dc0d44fcee29e14606598e7eb0e5cce07"), looks := true }, kinds := [], alts := [], laidByText := true, laidKinds := [.data, .data, .data, .data, .sentinel, .sentinel, .pinned], laidTests := true, laidLooks := .later }
def GroupBackCardSaid : Prop := Claim7.holds Tryd.pinned (.plain (OpenSpec.ofChange groupBackSpec)) groupBackCard

/-- THE TIED CARD OF 'louvrelaw18.GroupExamples'. -/
def groupExamplesCard : Claim7 := { stood := { row := groupExamplesRow, standIns := [], harness := (true, "b2f6ce2bfc6fbb2f1f327da002c5dd1dc0d44fcee29e14606598e7eb0e5cce07"), looks := true }, kinds := [], alts := [], laidByText := true, laidKinds := [.data, .data, .data, .data, .sentinel, .sentinel, .pinned], laidTests := true, laidLooks := .later }
def GroupExamplesCardSaid : Prop := Claim7.holds Tryd.pinned (.plain (OpenSpec.ofChange groupExamplesSpec)) groupExamplesCard

/-- THE SECOND FORM's CARD OF 'louvrelaw18.GroupMembers'. -/
def groupMembersUptoCard : Claim7 := { stood := { row := groupMembersUptoRow, standIns := [], harness := (true, "b2f6ce2bfc6fbb2f1f327da002c5dd1dc0d44fcee29e14606598e7eb0e5cce07"), looks := true }, kinds := [], alts := [], laidByText := true, laidKinds := [.data], laidTests := true, laidLooks := .later }
def GroupMembersUptoCardSaid : Prop := Claim7.holds Tryd.pinned (.plain (OpenSpec.upto groupMembersSpec)) groupMembersUptoCard

/-- THE SECOND FORM's CARD OF 'louvrelaw18.GroupSets'. -/
def groupSetsUptoCard : Claim7 := { stood := { row := groupSetsUptoRow, standIns := [], harness := (true, "b2f6ce2bfc6fbb2f1f327da002c5dd1dc0d44fcee29e14606598e7eb0e5cce07"), looks := true }, kinds := [], alts := [], laidByText := true, laidKinds := [.data], laidTests := true, laidLooks := .later }
def GroupSetsUptoCardSaid : Prop := Claim7.holds Tryd.pinned (.plain (OpenSpec.upto groupSetsSpec)) groupSetsUptoCard

/-- THE SECOND FORM's CARD OF 'louvrelaw18.GroupTexts'. -/
def groupTextsUptoCard : Claim7 := { stood := { row := groupTextsUptoRow, standIns := [], harness := (true, "b2f6ce2bfc6fbb2f1f327da002c5dd1dc0d44fcee29e14606598e7eb0e5cce07"), looks := true }, kinds := [], alts := [], laidByText := true, laidKinds := [.data, .data, .data, .data, .sentinel, .sentinel, .pinned], laidTests := true, laidLooks := .later }
def GroupTextsUptoCardSaid : Prop := Claim7.holds Tryd.pinned (.plain (OpenSpec.upto groupTextsSpec)) groupTextsUptoCard

/-- THE SECOND FORM's CARD OF 'louvrelaw18.GroupBack'. -/
def groupBackUptoCard : Claim7 := { stood := { row := groupBackUptoRow, standIns := [], harness := (true, "b2f6ce2bfc6fbb2f1f327da002c5dd1dc0d44fcee29e14606598e7eb0e5cce07"), looks := true }, kinds := [], alts := [], laidByText := true, laidKinds := [.data, .data, .data, .data, .sentinel, .sentinel, .pinned], laidTests := true, laidLooks := .later }
def GroupBackUptoCardSaid : Prop := Claim7.holds Tryd.pinned (.plain (OpenSpec.upto groupBackSpec)) groupBackUptoCard

/-- THE SECOND FORM's CARD OF 'louvrelaw18.GroupExamples'. -/
def groupExamplesUptoCard : Claim7 := { stood := { row := groupExamplesUptoRow, standIns := [], harness := (true, "b2f6ce2bfc6fbb2f1f327da002c5dd1dc0d44fcee29e14606598e7eb0e5cce07"), looks := true }, kinds := [], alts := [], laidByText := true, laidKinds := [.data, .data, .data, .data, .sentinel, .sentinel, .pinned], laidTests := true, laidLooks := .later }
def GroupExamplesUptoCardSaid : Prop := Claim7.holds Tryd.pinned (.plain (OpenSpec.upto groupExamplesSpec)) groupExamplesUptoCard
end Rows
end Go.Proofs.YtjjdlhbbkkkjnaaDoor
