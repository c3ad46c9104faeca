/-
  DERIVED. GIVEN WITH THE SEED: THE CARDS: each row of YtjbimcdofenmdaaGreatDoorRows.lean that lists a variable, with what it lists TIED to the program's text (the seventh form; the later family's looks); each row that meets fmt, with fmt's text TOLD by the authors' own Lean function (tested against real Go, not proved from fmt's source: count such statements apart). THE CARD IS WHAT COUNTS. Prove the row's statement (the work); the ties are given (YtjbimcdofenmdaaGreatDoorTie.lean); close each card by the builder's one call (the guide's Derived/Test/ToyasCard.lean, 'card_holds'). Laid BY PROGRAM, IN A SANDBOX (cutbox-door.mjs). By AI agents, Wed Nov 11 2026. No macro, syntax, notation, axiom, sorry.
-/
import Derived.Test.YtjbimcdofenmdaaGreatDoorRows
import GoSem.ClaimSeven
namespace Go.Proofs.YtjbimcdofenmdaaGreatDoor
namespace Rows

/-- THE TIED CARD OF 'louvrelaw29.OpChecks'. -/
def opChecksCard : Claim7 := { stood := { row := opChecksRow, standIns := [], harness := (true, "4261a4c94ccd5c9b140ddb0ddf02ee17a934508366a5862efe8af40b7568ee37"), looks := true }, kinds := [], alts := [], laidByText := true, laidKinds := [.data, .data, .data, .data, .sentinel, .sentinel, .pinned], laidTests := true, laidLooks := .later }
def OpChecksCardSaid : Prop := Claim7.holds Tryz.pinned (.plain (OpenSpec.ofChange opChecksSpec)) opChecksCard

/-- THE TIED CARD OF 'louvrelaw29.OpReads'. -/
def opReadsCard : Claim7 := { stood := { row := opReadsRow, standIns := [], harness := (true, "4261a4c94ccd5c9b140ddb0ddf02ee17a934508366a5862efe8af40b7568ee37"), looks := true }, kinds := [], alts := [], laidByText := true, laidKinds := [.data, .data, .data, .data, .sentinel, .sentinel, .pinned], laidTests := true, laidLooks := .later }
def OpReadsCardSaid : Prop := Claim7.holds Tryz.pinned (.plain (OpenSpec.ofChange opReadsSpec)) opReadsCard

/-- THE TIED CARD OF 'louvrelaw29.OpExamples'. -/
def opExamplesCard : Claim7 := { stood := { row := opExamplesRow, standIns := [], harness := (true, "4261a4c94ccd5c9b140ddb0ddf02ee17a934508366a5862efe8af40b7568ee37"), looks := true }, kinds := [], alts := [], laidByText := true, laidKinds := [.data, .data, .data, .data, .sentinel, .sentinel, .pinned], laidTests := true, laidLooks := .later }
def OpExamplesCardSaid : Prop := Claim7.holds Tryz.pinned (.plain (OpenSpec.ofChange opExamplesSpec)) opExamplesCard

/-- THE TIED CARD OF 'louvrelaw29.OpBack'. -/
def opBackCard : Claim7 := { stood := { row := opBackRow, standIns := [], harness := (true, "4261a4c94ccd5c9b140ddb0ddf02ee17a934508366a5862efe8af40b7568ee37"), looks := true }, kinds := [], alts := [], laidByText := true, laidKinds := [.data, .data, .data, .data, .sentinel, .sentinel, .pinned], laidTests := true, laidLooks := .later }
def OpBackCardSaid : Prop := Claim7.holds Tryz.pinned (.plain (OpenSpec.ofChange opBackSpec)) opBackCard

/-- THE TIED CARD OF 'louvrelaw29.OpPlain'. -/
def opPlainCard : Claim7 := { stood := { row := opPlainRow, standIns := [], harness := (true, "4261a4c94ccd5c9b140ddb0ddf02ee17a934508366a5862efe8af40b7568ee37"), looks := true }, kinds := [], alts := [], laidByText := true, laidKinds := [.data, .data, .data, .data, .sentinel, .sentinel, .pinned], laidTests := true, laidLooks := .later }
def OpPlainCardSaid : Prop := Claim7.holds Tryz.pinned (.plain (OpenSpec.ofChange opPlainSpec)) opPlainCard

/-- THE SECOND FORM's CARD OF 'louvrelaw29.OpChecks'. -/
def opChecksUptoCard : Claim7 := { stood := { row := opChecksUptoRow, standIns := [], harness := (true, "4261a4c94ccd5c9b140ddb0ddf02ee17a934508366a5862efe8af40b7568ee37"), looks := true }, kinds := [], alts := [], laidByText := true, laidKinds := [.data, .data, .data, .data, .sentinel, .sentinel, .pinned], laidTests := true, laidLooks := .later }
def OpChecksUptoCardSaid : Prop := Claim7.holds Tryz.pinned (.plain (OpenSpec.upto opChecksSpec)) opChecksUptoCard

/-- THE SECOND FORM's CARD OF 'louvrelaw29.OpReads'. -/
def opReadsUptoCard : Claim7 := { stood := { row := opReadsUptoRow, standIns := [], harness := (true, "4261a4c94ccd5c9b140ddb0ddf02ee17a934508366a5862efe8af40b7568ee37"), looks := true }, kinds := [], alts := [], laidByText := true, laidKinds := [.data, .data, .data, .data, .sentinel, .sentinel, .pinned], laidTests := true, laidLooks := .later }
def OpReadsUptoCardSaid : Prop := Claim7.holds Tryz.pinned (.plain (OpenSpec.upto opReadsSpec)) opReadsUptoCard

/-- THE SECOND FORM's CARD OF 'louvrelaw29.OpExamples'. -/
def opExamplesUptoCard : Claim7 := { stood := { row := opExamplesUptoRow, standIns := [], harness := (true, "4261a4c94ccd5c9b140ddb0ddf02ee17a934508366a5862efe8af40b7568ee37"), looks := true }, kinds := [], alts := [], laidByText := true, laidKinds := [.data, .data, .data, .data, .sentinel, .sentinel, .pinned], laidTests := true, laidLooks := .later }
def OpExamplesUptoCardSaid : Prop := Claim7.holds Tryz.pinned (.plain (OpenSpec.upto opExamplesSpec)) opExamplesUptoCard

/-- THE SECOND FORM's CARD OF 'louvrelaw29.OpBack'. -/
def opBackUptoCard : Claim7 := { stood := { row := opBackUptoRow, standIns := [], harness := (true, "4261a4c94ccd5c9b140ddb0ddf02ee17a934508366a5862efe8af40b7568ee37"), looks := true }, kinds := [], alts := [], laidByText := true, laidKinds := [.data, .data, .data, .data, .sentinel, .sentinel, .pinned], laidTests := true, laidLooks := .later }
def OpBackUptoCardSaid : Prop := Claim7.holds Tryz.pinned (.plain (OpenSpec.upto opBackSpec)) opBackUptoCard

/-- THE SECOND FORM's CARD OF 'louvrelaw29.OpPlain'. -/
def opPlainUptoCard : Claim7 := { stood := { row := opPlainUptoRow, standIns := [], harness := (true, "4261a4c94ccd5c9b140ddb0ddf02ee17a934508366a5862efe8af40b7568ee37"), looks := true }, kinds := [], alts := [], laidByText := true, laidKinds := [.data, .data, .data, .data, .sentinel, .sentinel, .pinned], laidTests := true, laidLooks := .later }
def OpPlainUptoCardSaid : Prop := Claim7.holds Tryz.pinned (.plain (OpenSpec.upto opPlainSpec)) opPlainUptoCard
end Rows
end Go.Proofs.YtjbimcdofenmdaaGreatDoor
