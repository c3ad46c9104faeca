/-
  DERIVED. GIVEN WITH THE SEED: THE CARDS: each row of YtkdabfepggehiaaDoorRows.lean that lists a variable, with what it lists TIED to the program's text (the seventh form; the later family's looks); each row that meets fmt, with fmt's text TOLD by the authors' own Lean function (tested against real Go, not proved from fmt's source: count such statements apart). THE CARD IS WHAT COUNTS. Prove the row's statement (the work); the ties are given (YtkdabfepggehiaaDoorTie.lean); close each card by the builder's one call (the guide's Derived/Test/ToyasCard.lean, 'card_holds'). Laid BY PROGRAM, IN A SANDBOX (cutbox-door.mjs). By AI agents, Wed Nov 11 2026. No macro, syntax, notation, axiom, sorry.
-/
import Derived.Test.YtkdabfepggehiaaDoorRows
import GoSem.ClaimSeven
namespace Go.Proofs.YtkdabfepggehiaaDoor
namespace Rows

/-- THE TIED CARD OF 'louvrelaw02.AddrWrites'. -/
def addrWritesCard : Claim7 := { stood := { row := addrWritesRow, standIns := [], harness := (true, "5de34653a7503d2953b84be20c4bb29f9e78212709abb3b9ae30084c23fd473b"), looks := false }, kinds := [], alts := [], laidByText := true, laidKinds := [.data, .data, .data], laidTests := true, laidLooks := .later }
def AddrWritesCardSaid : Prop := Claim7.holds Tryd.pinned (.plain (OpenSpec.ofChange addrWritesSpec)) addrWritesCard

/-- THE TIED CARD OF 'louvrelaw02.AddrLess'. -/
def addrLessCard : Claim7 := { stood := { row := addrLessRow, standIns := [], harness := (true, "5de34653a7503d2953b84be20c4bb29f9e78212709abb3b9ae30084c23fd473b"), looks := false }, kinds := [], alts := [], laidByText := true, laidKinds := [.data, .data, .data], laidTests := true, laidLooks := .later }
def AddrLessCardSaid : Prop := Claim7.holds Tryd.pinned (.plain (OpenSpec.ofChange addrLessSpec)) addrLessCard

/-- THE TIED CARD OF 'louvrelaw02.AddrOrder'. -/
def addrOrderCard : Claim7 := { stood := { row := addrOrderRow, standIns := [], harness := (true, "5de34653a7503d2953b84be20c4bb29f9e78212709abb3b9ae30084c23fd473b"), looks := false }, kinds := [], alts := [], laidByText := true, laidKinds := [.data, .data, .data], laidTests := true, laidLooks := .later }
def AddrOrderCardSaid : Prop := Claim7.holds Tryd.pinned (.plain (OpenSpec.ofChange addrOrderSpec)) addrOrderCard

/-- THE TIED CARD OF 'louvrelaw03.RectMeets'. -/
def rectMeetsCard : Claim7 := { stood := { row := rectMeetsRow, standIns := [], harness := (true, "5de34653a7503d2953b84be20c4bb29f9e78212709abb3b9ae30084c23fd473b"), looks := false }, kinds := [], alts := [], laidByText := true, laidKinds := [.data, .data, .data], laidTests := true, laidLooks := .later }
def RectMeetsCardSaid : Prop := Claim7.holds Tryd.pinned (.plain (OpenSpec.ofChange rectMeetsSpec)) rectMeetsCard

/-- THE TIED CARD OF 'louvrelaw03.RectPairs'. -/
def rectPairsCard : Claim7 := { stood := { row := rectPairsRow, standIns := [], harness := (true, "5de34653a7503d2953b84be20c4bb29f9e78212709abb3b9ae30084c23fd473b"), looks := false }, kinds := [], alts := [], laidByText := true, laidKinds := [.data, .data, .data], laidTests := true, laidLooks := .later }
def RectPairsCardSaid : Prop := Claim7.holds Tryd.pinned (.plain (OpenSpec.ofChange rectPairsSpec)) rectPairsCard

/-- THE TIED CARD OF 'louvrelaw02.AddrReads'. -/
def addrReadsCard : Claim7 := { stood := { row := addrReadsRow, standIns := [], harness := (true, "5de34653a7503d2953b84be20c4bb29f9e78212709abb3b9ae30084c23fd473b"), looks := false }, kinds := [], alts := [], laidByText := true, laidKinds := [.data, .data, .data], laidTests := true, laidLooks := .later }
def AddrReadsCardSaid : Prop := Claim7.holds Tryd.pinned (.plain (OpenSpec.ofChange addrReadsSpec)) addrReadsCard

/-- THE TIED CARD OF 'louvrelaw02.AddrBack'. -/
def addrBackCard : Claim7 := { stood := { row := addrBackRow, standIns := [], harness := (true, "5de34653a7503d2953b84be20c4bb29f9e78212709abb3b9ae30084c23fd473b"), looks := false }, kinds := [], alts := [], laidByText := true, laidKinds := [.data, .data, .data], laidTests := true, laidLooks := .later }
def AddrBackCardSaid : Prop := Claim7.holds Tryd.pinned (.plain (OpenSpec.ofChange addrBackSpec)) addrBackCard

/-- THE TIED CARD OF 'louvrelaw02.AddrPlaces'. -/
def addrPlacesCard : Claim7 := { stood := { row := addrPlacesRow, standIns := [], harness := (true, "5de34653a7503d2953b84be20c4bb29f9e78212709abb3b9ae30084c23fd473b"), looks := false }, kinds := [], alts := [], laidByText := true, laidKinds := [.data, .data, .data], laidTests := true, laidLooks := .later }
def AddrPlacesCardSaid : Prop := Claim7.holds Tryd.pinned (.plain (OpenSpec.ofChange addrPlacesSpec)) addrPlacesCard

/-- THE TIED CARD OF 'louvrelaw02.AddrExamples'. -/
def addrExamplesCard : Claim7 := { stood := { row := addrExamplesRow, standIns := [], harness := (true, "5de34653a7503d2953b84be20c4bb29f9e78212709abb3b9ae30084c23fd473b"), looks := false }, kinds := [], alts := [], laidByText := true, laidKinds := [.data, .data, .data], laidTests := true, laidLooks := .later }
def AddrExamplesCardSaid : Prop := Claim7.holds Tryd.pinned (.plain (OpenSpec.ofChange addrExamplesSpec)) addrExamplesCard

/-- THE TIED CARD OF 'louvrelaw03.RectCovers'. -/
def rectCoversCard : Claim7 := { stood := { row := rectCoversRow, standIns := [], harness := (true, "5de34653a7503d2953b84be20c4bb29f9e78212709abb3b9ae30084c23fd473b"), looks := false }, kinds := [], alts := [], laidByText := true, laidKinds := [.data, .data, .data], laidTests := true, laidLooks := .later }
def RectCoversCardSaid : Prop := Claim7.holds Tryd.pinned (.plain (OpenSpec.ofChange rectCoversSpec)) rectCoversCard

/-- THE TIED CARD OF 'louvrelaw03.RectCuts'. -/
def rectCutsCard : Claim7 := { stood := { row := rectCutsRow, standIns := [], harness := (true, "5de34653a7503d2953b84be20c4bb29f9e78212709abb3b9ae30084c23fd473b"), looks := false }, kinds := [], alts := [], laidByText := true, laidKinds := [.data, .data, .data], laidTests := true, laidLooks := .later }
def RectCutsCardSaid : Prop := Claim7.holds Tryd.pinned (.plain (OpenSpec.ofChange rectCutsSpec)) rectCutsCard

/-- THE TIED CARD OF 'louvrelaw03.RectAll'. -/
def rectAllCard : Claim7 := { stood := { row := rectAllRow, standIns := [], harness := (true, "5de34653a7503d2953b84be20c4bb29f9e78212709abb3b9ae30084c23fd473b"), looks := false }, kinds := [], alts := [], laidByText := true, laidKinds := [.data, .data, .data], laidTests := true, laidLooks := .later }
def RectAllCardSaid : Prop := Claim7.holds Tryd.pinned (.plain (OpenSpec.ofChange rectAllSpec)) rectAllCard

/-- THE TIED CARD OF 'louvrelaw03.RectTexts'. -/
def rectTextsCard : Claim7 := { stood := { row := rectTextsRow, standIns := [], harness := (true, "5de34653a7503d2953b84be20c4bb29f9e78212709abb3b9ae30084c23fd473b"), looks := false }, kinds := [], alts := [], laidByText := true, laidKinds := [.data, .data, .data], laidTests := true, laidLooks := .later }
def RectTextsCardSaid : Prop := Claim7.holds Tryd.pinned (.plain (OpenSpec.ofChange rectTextsSpec)) rectTextsCard

/-- THE TIED CARD OF 'louvrelaw03.RectBack'. -/
def rectBackCard : Claim7 := { stood := { row := rectBackRow, standIns := [], harness := (true, "5de34653a7503d2953b84be20c4bb29f9e78212709abb3b9ae30084c23fd473b"), looks := false }, kinds := [], alts := [], laidByText := true, laidKinds := [.data, .data, .data], laidTests := true, laidLooks := .later }
def RectBackCardSaid : Prop := Claim7.holds Tryd.pinned (.plain (OpenSpec.ofChange rectBackSpec)) rectBackCard

/-- THE TIED CARD OF 'louvrelaw03.RectExamples'. -/
def rectExamplesCard : Claim7 := { stood := { row := rectExamplesRow, standIns := [], harness := (true, "5de34653a7503d2953b84be20c4bb29f9e78212709abb3b9ae30084c23fd473b"), looks := false }, kinds := [], alts := [], laidByText := true, laidKinds := [.data, .data, .data], laidTests := true, laidLooks := .later }
def RectExamplesCardSaid : Prop := Claim7.holds Tryd.pinned (.plain (OpenSpec.ofChange rectExamplesSpec)) rectExamplesCard

/-- THE SECOND FORM's CARD OF 'louvrelaw02.AddrWrites'. -/
def addrWritesUptoCard : Claim7 := { stood := { row := addrWritesUptoRow, standIns := [], harness := (true, "5de34653a7503d2953b84be20c4bb29f9e78212709abb3b9ae30084c23fd473b"), looks := false }, kinds := [], alts := [], laidByText := true, laidKinds := [.data, .data, .data], laidTests := true, laidLooks := .later }
def AddrWritesUptoCardSaid : Prop := Claim7.holds Tryd.pinned (.plain (OpenSpec.upto addrWritesSpec)) addrWritesUptoCard

/-- THE SECOND FORM's CARD OF 'louvrelaw02.AddrLess'. -/
def addrLessUptoCard : Claim7 := { stood := { row := addrLessUptoRow, standIns := [], harness := (true, "5de34653a7503d2953b84be20c4bb29f9e78212709abb3b9ae30084c23fd473b"), looks := false }, kinds := [], alts := [], laidByText := true, laidKinds := [.data, .data, .data], laidTests := true, laidLooks := .later }
def AddrLessUptoCardSaid : Prop := Claim7.holds Tryd.pinned (.plain (OpenSpec.upto addrLessSpec)) addrLessUptoCard

/-- THE SECOND FORM's CARD OF 'louvrelaw02.AddrOrder'. -/
def addrOrderUptoCard : Claim7 := { stood := { row := addrOrderUptoRow, standIns := [], harness := (true, "5de34653a7503d2953b84be20c4bb29f9e78212709abb3b9ae30084c23fd473b"), looks := false }, kinds := [], alts := [], laidByText := true, laidKinds := [.data, .data, .data], laidTests := true, laidLooks := .later }
def AddrOrderUptoCardSaid : Prop := Claim7.holds Tryd.pinned (.plain (OpenSpec.upto addrOrderSpec)) addrOrderUptoCard

/-- THE SECOND FORM's CARD OF 'louvrelaw03.RectMeets'. -/
def rectMeetsUptoCard : Claim7 := { stood := { row := rectMeetsUptoRow, standIns := [], harness := (true, "5de34653a7503d2953b84be20c4bb29f9e78212709abb3b9ae30084c23fd473b"), looks := false }, kinds := [], alts := [], laidByText := true, laidKinds := [.data, .data, .data], laidTests := true, laidLooks := .later }
def RectMeetsUptoCardSaid : Prop := Claim7.holds Tryd.pinned (.plain (OpenSpec.upto rectMeetsSpec)) rectMeetsUptoCard

/-- THE SECOND FORM's CARD OF 'louvrelaw03.RectPairs'. -/
def rectPairsUptoCard : Claim7 := { stood := { row := rectPairsUptoRow, standIns := [], harness := (true, "5de34653a7503d2953b84be20c4bb29f9e78212709abb3b9ae30084c23fd473b"), looks := false }, kinds := [], alts := [], laidByText := true, laidKinds := [.data, .data, .data], laidTests := true, laidLooks := .later }
def RectPairsUptoCardSaid : Prop := Claim7.holds Tryd.pinned (.plain (OpenSpec.upto rectPairsSpec)) rectPairsUptoCard

/-- THE SECOND FORM's CARD OF 'louvrelaw02.AddrReads'. -/
def addrReadsUptoCard : Claim7 := { stood := { row := addrReadsUptoRow, standIns := [], harness := (true, "5de34653a7503d2953b84be20c4bb29f9e78212709abb3b9ae30084c23fd473b"), looks := false }, kinds := [], alts := [], laidByText := true, laidKinds := [.data, .data, .data], laidTests := true, laidLooks := .later }
def AddrReadsUptoCardSaid : Prop := Claim7.holds Tryd.pinned (.plain (OpenSpec.upto addrReadsSpec)) addrReadsUptoCard

/-- THE SECOND FORM's CARD OF 'louvrelaw02.AddrBack'. -/
def addrBackUptoCard : Claim7 := { stood := { row := addrBackUptoRow, standIns := [], harness := (true, "5de34653a7503d2953b84be20c4bb29f9e78212709abb3b9ae30084c23fd473b"), looks := false }, kinds := [], alts := [], laidByText := true, laidKinds := [.data, .data, .data], laidTests := true, laidLooks := .later }
def AddrBackUptoCardSaid : Prop := Claim7.holds Tryd.pinned (.plain (OpenSpec.upto addrBackSpec)) addrBackUptoCard

/-- THE SECOND FORM's CARD OF 'louvrelaw02.AddrPlaces'. -/
def addrPlacesUptoCard : Claim7 := { stood := { row := addrPlacesUptoRow, standIns := [], harness := (true, "5de34653a7503d2953b84be20c4bb29f9e78212709abb3b9ae30084c23fd473b"), looks := false }, kinds := [], alts := [], laidByText := true, laidKinds := [.data, .data, .data], laidTests := true, laidLooks := .later }
def AddrPlacesUptoCardSaid : Prop := Claim7.holds Tryd.pinned (.plain (OpenSpec.upto addrPlacesSpec)) addrPlacesUptoCard

/-- THE SECOND FORM's CARD OF 'louvrelaw02.AddrExamples'. -/
def addrExamplesUptoCard : Claim7 := { stood := { row := addrExamplesUptoRow, standIns := [], harness := (true, "5de34653a7503d2953b84be20c4bb29f9e78212709abb3b9ae30084c23fd473b"), looks := false }, kinds := [], alts := [], laidByText := true, laidKinds := [.data, .data, .data], laidTests := true, laidLooks := .later }
def AddrExamplesUptoCardSaid : Prop := Claim7.holds Tryd.pinned (.plain (OpenSpec.upto addrExamplesSpec)) addrExamplesUptoCard

/-- THE SECOND FORM's CARD OF 'louvrelaw03.RectCovers'. -/
def rectCoversUptoCard : Claim7 := { stood := { row := rectCoversUptoRow, standIns := [], harness := (true, "5de34653a7503d2953b84be20c4bb29f9e78212709abb3b9ae30084c23fd473b"), looks := false }, kinds := [], alts := [], laidByText := true, laidKinds := [.data, .data, .data], laidTests := true, laidLooks := .later }
def RectCoversUptoCardSaid : Prop := Claim7.holds Tryd.pinned (.plain (OpenSpec.upto rectCoversSpec)) rectCoversUptoCard

/-- THE SECOND FORM's CARD OF 'louvrelaw03.RectCuts'. -/
def rectCutsUptoCard : Claim7 := { stood := { row := rectCutsUptoRow, standIns := [], harness := (true, "5de34653a7503d2953b84be20c4bb29f9e78212709abb3b9ae30084c23fd473b"), looks := false }, kinds := [], alts := [], laidByText := true, laidKinds := [.data, .data, .data], laidTests := true, laidLooks := .later }
def RectCutsUptoCardSaid : Prop := Claim7.holds Tryd.pinned (.plain (OpenSpec.upto rectCutsSpec)) rectCutsUptoCard

/-- THE SECOND FORM's CARD OF 'louvrelaw03.RectAll'. -/
def rectAllUptoCard : Claim7 := { stood := { row := rectAllUptoRow, standIns := [], harness := (true, "5de34653a7503d2953b84be20c4bb29f9e78212709abb3b9ae30084c23fd473b"), looks := false }, kinds := [], alts := [], laidByText := true, laidKinds := [.data, .data, .data], laidTests := true, laidLooks := .later }
def RectAllUptoCardSaid : Prop := Claim7.holds Tryd.pinned (.plain (OpenSpec.upto rectAllSpec)) rectAllUptoCard

/-- THE SECOND FORM's CARD OF 'louvrelaw03.RectTexts'. -/
def rectTextsUptoCard : Claim7 := { stood := { row := rectTextsUptoRow, standIns := [], harness := (true, "5de34653a7503d2953b84be20c4bb29f9e78212709abb3b9ae30084c23fd473b"), looks := false }, kinds := [], alts := [], laidByText := true, laidKinds := [.data, .data, .data], laidTests := true, laidLooks := .later }
def RectTextsUptoCardSaid : Prop := Claim7.holds Tryd.pinned (.plain (OpenSpec.upto rectTextsSpec)) rectTextsUptoCard

/-- THE SECOND FORM's CARD OF 'louvrelaw03.RectBack'. -/
def rectBackUptoCard : Claim7 := { stood := { row := rectBackUptoRow, standIns := [], harness := (true, "5de34653a7503d2953b84be20c4bb29f9e78212709abb3b9ae30084c23fd473b"), looks := false }, kinds := [], alts := [], laidByText := true, laidKinds := [.data, .data, .data], laidTests := true, laidLooks := .later }
def RectBackUptoCardSaid : Prop := Claim7.holds Tryd.pinned (.plain (OpenSpec.upto rectBackSpec)) rectBackUptoCard

/-- THE SECOND FORM's CARD OF 'louvrelaw03.RectExamples'. -/
def rectExamplesUptoCard : Claim7 := { stood := { row := rectExamplesUptoRow, standIns := [], harness := (true, "5de34653a7503d2953b84be20c4bb29f9e78212709abb3b9ae30084c23fd473b"), looks := false }, kinds := [], alts := [], laidByText := true, laidKinds := [.data, .data, .data], laidTests := true, laidLooks := .later }
def RectExamplesUptoCardSaid : Prop := Claim7.holds Tryd.pinned (.plain (OpenSpec.upto rectExamplesSpec)) rectExamplesUptoCard
end Rows
end Go.Proofs.YtkdabfepggehiaaDoor
