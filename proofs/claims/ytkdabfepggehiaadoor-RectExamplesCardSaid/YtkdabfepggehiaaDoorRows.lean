/-
  NARROWER THAN 'FOR EVERY INPUT', by the rows' own cells (each row's printed sentence says how): AddrWrites: laid · AddrLess: laid · AddrOrder: laid · RectMeets: laid · RectPairs: laid · AddrReads: laid · AddrBack: laid · AddrPlaces: laid · AddrExamples: laid · RectCovers: laid · RectCuts: laid · RectAll: laid · RectTexts: laid · RectBack: laid · RectExamples: laid.
  DERIVED. THE GIVEN ROWS OF THIS SEAT. 15 by the template 'for every input the law returns true; each argument reads behind the call as it read before'; 0 by the template 'total and deterministic' (their statements: YtkdabfepggehiaaDoorTotals.lean).
  GIVEN WITH THE SEED: the statements are not yours to turn. If you find one false, say at which input.
  Laid BY PROGRAM, IN A SANDBOX (cutbox-rows.mjs): the forced cells as the released guide's own fill.sh prints them over the translation 130fb02053bdcd64… (all of the seat's roots in one cut). By AI agents, Wed Nov 11 2026. No macro, syntax, notation, axiom, sorry.
-/
import Derived.Test.YtkdabfepggehiaaDoorChecked
import GoSem.Claim
import GoSem.ClaimJoined
import GoSem.ClaimMapViews
import Derived.JoinedTies
import Derived.KernelRfl
namespace Go.Proofs.YtkdabfepggehiaaDoor
/- THE CELL 'sum', in the pinned program and in every row, IS THE sha256 OF THE DUMP (.gsa) THAT YtkdabfepggehiaaDoorProg.lean LOADS. Nothing in Lean hashes anything: it is a label: what it is worth is what the hold of that sum in a sandbox is worth. -/
noncomputable def Tryd.pinned : Pinned := { name := "ytkdabfepggehiaadoor", sum := "130fb02053bdcd642d294858ab753767da5e3890e01fea94cf847c870119a3d2", checked := Tryd.checked }
namespace Rows
def none {H : Type} : Left H := { results := [], args := [] }

/- WHAT THE LISTED PACKAGE-LEVEL VARIABLES READ AS WHEN THE CALL BEGINS. Each datum BY PROGRAM (the guide's laid-datum.mjs) off the statement by which the dump's own 'gosem.cut.vars' lays the variable. In a bare row this is a premise. The card (YtkdabfepggehiaaDoorCards.lean) ties it to the program's text. -/
def laid_math_bits_deBruijn32tab {H : Type} : DataW H := .agg [.lit (.int .u8 0), .lit (.int .u8 1), .lit (.int .u8 28), .lit (.int .u8 2), .lit (.int .u8 29), .lit (.int .u8 14), .lit (.int .u8 24), .lit (.int .u8 3), .lit (.int .u8 30), .lit (.int .u8 22), .lit (.int .u8 20), .lit (.int .u8 15), .lit (.int .u8 25), .lit (.int .u8 17), .lit (.int .u8 4), .lit (.int .u8 8), .lit (.int .u8 31), .lit (.int .u8 27), .lit (.int .u8 13), .lit (.int .u8 23), .lit (.int .u8 21), .lit (.int .u8 19), .lit (.int .u8 16), .lit (.int .u8 7), .lit (.int .u8 26), .lit (.int .u8 12), .lit (.int .u8 18), .lit (.int .u8 6), .lit (.int .u8 11), .lit (.int .u8 5), .lit (.int .u8 10), .lit (.int .u8 9)]
def laid_math_bits_deBruijn64tab {H : Type} : DataW H := .agg [.lit (.int .u8 0), .lit (.int .u8 1), .lit (.int .u8 56), .lit (.int .u8 2), .lit (.int .u8 57), .lit (.int .u8 49), .lit (.int .u8 28), .lit (.int .u8 3), .lit (.int .u8 61), .lit (.int .u8 58), .lit (.int .u8 42), .lit (.int .u8 50), .lit (.int .u8 38), .lit (.int .u8 29), .lit (.int .u8 17), .lit (.int .u8 4), .lit (.int .u8 62), .lit (.int .u8 47), .lit (.int .u8 59), .lit (.int .u8 36), .lit (.int .u8 45), .lit (.int .u8 43), .lit (.int .u8 51), .lit (.int .u8 22), .lit (.int .u8 53), .lit (.int .u8 39), .lit (.int .u8 33), .lit (.int .u8 30), .lit (.int .u8 24), .lit (.int .u8 18), .lit (.int .u8 12), .lit (.int .u8 5), .lit (.int .u8 63), .lit (.int .u8 55), .lit (.int .u8 48), .lit (.int .u8 27), .lit (.int .u8 60), .lit (.int .u8 41), .lit (.int .u8 37), .lit (.int .u8 16), .lit (.int .u8 46), .lit (.int .u8 35), .lit (.int .u8 44), .lit (.int .u8 21), .lit (.int .u8 52), .lit (.int .u8 32), .lit (.int .u8 23), .lit (.int .u8 11), .lit (.int .u8 54), .lit (.int .u8 26), .lit (.int .u8 40), .lit (.int .u8 15), .lit (.int .u8 34), .lit (.int .u8 20), .lit (.int .u8 31), .lit (.int .u8 10), .lit (.int .u8 25), .lit (.int .u8 14), .lit (.int .u8 19), .lit (.int .u8 9), .lit (.int .u8 13), .lit (.int .u8 8), .lit (.int .u8 7), .lit (.int .u8 6)]
def laid_internal_strconv_uint64pow10 {H : Type} : DataW H := .agg [.lit (.int .u64 1), .lit (.int .u64 10), .lit (.int .u64 100), .lit (.int .u64 1000), .lit (.int .u64 10000), .lit (.int .u64 100000), .lit (.int .u64 1000000), .lit (.int .u64 10000000), .lit (.int .u64 100000000), .lit (.int .u64 1000000000), .lit (.int .u64 10000000000), .lit (.int .u64 100000000000), .lit (.int .u64 1000000000000), .lit (.int .u64 10000000000000), .lit (.int .u64 100000000000000), .lit (.int .u64 1000000000000000), .lit (.int .u64 10000000000000000), .lit (.int .u64 100000000000000000), .lit (.int .u64 1000000000000000000), .lit (.int .u64 10000000000000000000)]

/-- 'louvrelaw02.AddrWrites': WHATEVER THE INPUT: true; the input reads as it did. -/
def addrWritesSpec : ChangeSpec := { name := "addrWrites", fn := fun _ => fun
  | [d1, d2] => { results := [.lit (.bool true)], args := [d1, d2] }
  | _ => none }
def addrWritesRow : OpenClaim := { program := "ytkdabfepggehiaadoor", sum := "130fb02053bdcd642d294858ab753767da5e3890e01fea94cf847c870119a3d2", func := "louvre/louvrelaw02.AddrWrites", spec := "addrWrites", named := ["internal/strconv.uint64pow10", "math/bits.deBruijn32tab", "math/bits.deBruijn64tab"], apart := false, laid := [("math/bits.deBruijn32tab", laid_math_bits_deBruijn32tab), ("math/bits.deBruijn64tab", laid_math_bits_deBruijn64tab), ("internal/strconv.uint64pow10", laid_internal_strconv_uint64pow10)] }
def AddrWritesSaid : Prop := addrWritesRow.holds Tryd.pinned (OpenSpec.ofChange addrWritesSpec)

/-- ITS FALSE NEIGHBOUR: 'it returns false'. Refute it at one input. -/
def addrWritesWrong : ChangeSpec := { name := "addrWrites", fn := fun _ => fun
  | [d1, d2] => { results := [.lit (.bool false)], args := [d1, d2] }
  | _ => none }
def AddrWritesWrongFalsely : Prop := addrWritesRow.holds Tryd.pinned (OpenSpec.ofChange addrWritesWrong)

/-- 'louvrelaw02.AddrLess': WHATEVER THE INPUT: true; the input reads as it did. -/
def addrLessSpec : ChangeSpec := { name := "addrLess", fn := fun _ => fun
  | [d1, d2] => { results := [.lit (.bool true)], args := [d1, d2] }
  | _ => none }
def addrLessRow : OpenClaim := { program := "ytkdabfepggehiaadoor", sum := "130fb02053bdcd642d294858ab753767da5e3890e01fea94cf847c870119a3d2", func := "louvre/louvrelaw02.AddrLess", spec := "addrLess", named := ["internal/strconv.uint64pow10", "math/bits.deBruijn32tab", "math/bits.deBruijn64tab"], apart := false, laid := [("math/bits.deBruijn32tab", laid_math_bits_deBruijn32tab), ("math/bits.deBruijn64tab", laid_math_bits_deBruijn64tab), ("internal/strconv.uint64pow10", laid_internal_strconv_uint64pow10)] }
def AddrLessSaid : Prop := addrLessRow.holds Tryd.pinned (OpenSpec.ofChange addrLessSpec)

/-- ITS FALSE NEIGHBOUR: 'it returns false'. Refute it at one input. -/
def addrLessWrong : ChangeSpec := { name := "addrLess", fn := fun _ => fun
  | [d1, d2] => { results := [.lit (.bool false)], args := [d1, d2] }
  | _ => none }
def AddrLessWrongFalsely : Prop := addrLessRow.holds Tryd.pinned (OpenSpec.ofChange addrLessWrong)

/-- 'louvrelaw02.AddrOrder': WHATEVER THE INPUT: true; the input reads as it did. -/
def addrOrderSpec : ChangeSpec := { name := "addrOrder", fn := fun _ => fun
  | [d1, d2, d3] => { results := [.lit (.bool true)], args := [d1, d2, d3] }
  | _ => none }
def addrOrderRow : OpenClaim := { program := "ytkdabfepggehiaadoor", sum := "130fb02053bdcd642d294858ab753767da5e3890e01fea94cf847c870119a3d2", func := "louvre/louvrelaw02.AddrOrder", spec := "addrOrder", named := ["internal/strconv.uint64pow10", "math/bits.deBruijn32tab", "math/bits.deBruijn64tab"], apart := false, laid := [("math/bits.deBruijn32tab", laid_math_bits_deBruijn32tab), ("math/bits.deBruijn64tab", laid_math_bits_deBruijn64tab), ("internal/strconv.uint64pow10", laid_internal_strconv_uint64pow10)] }
def AddrOrderSaid : Prop := addrOrderRow.holds Tryd.pinned (OpenSpec.ofChange addrOrderSpec)

/-- ITS FALSE NEIGHBOUR: 'it returns false'. Refute it at one input. -/
def addrOrderWrong : ChangeSpec := { name := "addrOrder", fn := fun _ => fun
  | [d1, d2, d3] => { results := [.lit (.bool false)], args := [d1, d2, d3] }
  | _ => none }
def AddrOrderWrongFalsely : Prop := addrOrderRow.holds Tryd.pinned (OpenSpec.ofChange addrOrderWrong)

/-- 'louvrelaw03.RectMeets': WHATEVER THE INPUT: true; the input reads as it did. -/
def rectMeetsSpec : ChangeSpec := { name := "rectMeets", fn := fun _ => fun
  | [d1, d2, d3] => { results := [.lit (.bool true)], args := [d1, d2, d3] }
  | _ => none }
def rectMeetsRow : OpenClaim := { program := "ytkdabfepggehiaadoor", sum := "130fb02053bdcd642d294858ab753767da5e3890e01fea94cf847c870119a3d2", func := "louvre/louvrelaw03.RectMeets", spec := "rectMeets", named := ["internal/strconv.uint64pow10", "math/bits.deBruijn32tab", "math/bits.deBruijn64tab"], apart := false, laid := [("math/bits.deBruijn32tab", laid_math_bits_deBruijn32tab), ("math/bits.deBruijn64tab", laid_math_bits_deBruijn64tab), ("internal/strconv.uint64pow10", laid_internal_strconv_uint64pow10)] }
def RectMeetsSaid : Prop := rectMeetsRow.holds Tryd.pinned (OpenSpec.ofChange rectMeetsSpec)

/-- ITS FALSE NEIGHBOUR: 'it returns false'. Refute it at one input. -/
def rectMeetsWrong : ChangeSpec := { name := "rectMeets", fn := fun _ => fun
  | [d1, d2, d3] => { results := [.lit (.bool false)], args := [d1, d2, d3] }
  | _ => none }
def RectMeetsWrongFalsely : Prop := rectMeetsRow.holds Tryd.pinned (OpenSpec.ofChange rectMeetsWrong)

/-- 'louvrelaw03.RectPairs': WHATEVER THE INPUT: true; the input reads as it did. -/
def rectPairsSpec : ChangeSpec := { name := "rectPairs", fn := fun _ => fun
  | [d1, d2, d3] => { results := [.lit (.bool true)], args := [d1, d2, d3] }
  | _ => none }
def rectPairsRow : OpenClaim := { program := "ytkdabfepggehiaadoor", sum := "130fb02053bdcd642d294858ab753767da5e3890e01fea94cf847c870119a3d2", func := "louvre/louvrelaw03.RectPairs", spec := "rectPairs", named := ["internal/strconv.uint64pow10", "math/bits.deBruijn32tab", "math/bits.deBruijn64tab"], apart := false, laid := [("math/bits.deBruijn32tab", laid_math_bits_deBruijn32tab), ("math/bits.deBruijn64tab", laid_math_bits_deBruijn64tab), ("internal/strconv.uint64pow10", laid_internal_strconv_uint64pow10)] }
def RectPairsSaid : Prop := rectPairsRow.holds Tryd.pinned (OpenSpec.ofChange rectPairsSpec)

/-- ITS FALSE NEIGHBOUR: 'it returns false'. Refute it at one input. -/
def rectPairsWrong : ChangeSpec := { name := "rectPairs", fn := fun _ => fun
  | [d1, d2, d3] => { results := [.lit (.bool false)], args := [d1, d2, d3] }
  | _ => none }
def RectPairsWrongFalsely : Prop := rectPairsRow.holds Tryd.pinned (OpenSpec.ofChange rectPairsWrong)

/-- 'louvrelaw02.AddrReads': WHATEVER THE INPUT: true; the input reads as it did. -/
def addrReadsSpec : ChangeSpec := { name := "addrReads", fn := fun _ => fun
  | [d] => { results := [.lit (.bool true)], args := [d] }
  | _ => none }
def addrReadsRow : OpenClaim := { program := "ytkdabfepggehiaadoor", sum := "130fb02053bdcd642d294858ab753767da5e3890e01fea94cf847c870119a3d2", func := "louvre/louvrelaw02.AddrReads", spec := "addrReads", named := ["internal/strconv.uint64pow10", "math/bits.deBruijn32tab", "math/bits.deBruijn64tab"], apart := false, laid := [("math/bits.deBruijn32tab", laid_math_bits_deBruijn32tab), ("math/bits.deBruijn64tab", laid_math_bits_deBruijn64tab), ("internal/strconv.uint64pow10", laid_internal_strconv_uint64pow10)] }
def AddrReadsSaid : Prop := addrReadsRow.holds Tryd.pinned (OpenSpec.ofChange addrReadsSpec)

/-- ITS FALSE NEIGHBOUR: 'it returns false'. Refute it at one input. -/
def addrReadsWrong : ChangeSpec := { name := "addrReads", fn := fun _ => fun
  | [d] => { results := [.lit (.bool false)], args := [d] }
  | _ => none }
def AddrReadsWrongFalsely : Prop := addrReadsRow.holds Tryd.pinned (OpenSpec.ofChange addrReadsWrong)

/-- 'louvrelaw02.AddrBack': WHATEVER THE INPUT: true; the input reads as it did. -/
def addrBackSpec : ChangeSpec := { name := "addrBack", fn := fun _ => fun
  | [d1, d2] => { results := [.lit (.bool true)], args := [d1, d2] }
  | _ => none }
def addrBackRow : OpenClaim := { program := "ytkdabfepggehiaadoor", sum := "130fb02053bdcd642d294858ab753767da5e3890e01fea94cf847c870119a3d2", func := "louvre/louvrelaw02.AddrBack", spec := "addrBack", named := ["internal/strconv.uint64pow10", "math/bits.deBruijn32tab", "math/bits.deBruijn64tab"], apart := false, laid := [("math/bits.deBruijn32tab", laid_math_bits_deBruijn32tab), ("math/bits.deBruijn64tab", laid_math_bits_deBruijn64tab), ("internal/strconv.uint64pow10", laid_internal_strconv_uint64pow10)] }
def AddrBackSaid : Prop := addrBackRow.holds Tryd.pinned (OpenSpec.ofChange addrBackSpec)

/-- ITS FALSE NEIGHBOUR: 'it returns false'. Refute it at one input. -/
def addrBackWrong : ChangeSpec := { name := "addrBack", fn := fun _ => fun
  | [d1, d2] => { results := [.lit (.bool false)], args := [d1, d2] }
  | _ => none }
def AddrBackWrongFalsely : Prop := addrBackRow.holds Tryd.pinned (OpenSpec.ofChange addrBackWrong)

/-- 'louvrelaw02.AddrPlaces': WHATEVER THE INPUT: true; the input reads as it did. -/
def addrPlacesSpec : ChangeSpec := { name := "addrPlaces", fn := fun _ => fun
  | [d1, d2] => { results := [.lit (.bool true)], args := [d1, d2] }
  | _ => none }
def addrPlacesRow : OpenClaim := { program := "ytkdabfepggehiaadoor", sum := "130fb02053bdcd642d294858ab753767da5e3890e01fea94cf847c870119a3d2", func := "louvre/louvrelaw02.AddrPlaces", spec := "addrPlaces", named := ["internal/strconv.uint64pow10", "math/bits.deBruijn32tab", "math/bits.deBruijn64tab"], apart := false, laid := [("math/bits.deBruijn32tab", laid_math_bits_deBruijn32tab), ("math/bits.deBruijn64tab", laid_math_bits_deBruijn64tab), ("internal/strconv.uint64pow10", laid_internal_strconv_uint64pow10)] }
def AddrPlacesSaid : Prop := addrPlacesRow.holds Tryd.pinned (OpenSpec.ofChange addrPlacesSpec)

/-- ITS FALSE NEIGHBOUR: 'it returns false'. Refute it at one input. -/
def addrPlacesWrong : ChangeSpec := { name := "addrPlaces", fn := fun _ => fun
  | [d1, d2] => { results := [.lit (.bool false)], args := [d1, d2] }
  | _ => none }
def AddrPlacesWrongFalsely : Prop := addrPlacesRow.holds Tryd.pinned (OpenSpec.ofChange addrPlacesWrong)

/-- 'louvrelaw02.AddrExamples': WHATEVER THE INPUT: true; the input reads as it did. -/
def addrExamplesSpec : ChangeSpec := { name := "addrExamples", fn := fun _ => fun
  | [] => { results := [.lit (.bool true)], args := [] }
  | _ => none }
def addrExamplesRow : OpenClaim := { program := "ytkdabfepggehiaadoor", sum := "130fb02053bdcd642d294858ab753767da5e3890e01fea94cf847c870119a3d2", func := "louvre/louvrelaw02.AddrExamples", spec := "addrExamples", named := ["internal/strconv.uint64pow10", "math/bits.deBruijn32tab", "math/bits.deBruijn64tab"], apart := false, laid := [("math/bits.deBruijn32tab", laid_math_bits_deBruijn32tab), ("math/bits.deBruijn64tab", laid_math_bits_deBruijn64tab), ("internal/strconv.uint64pow10", laid_internal_strconv_uint64pow10)] }
def AddrExamplesSaid : Prop := addrExamplesRow.holds Tryd.pinned (OpenSpec.ofChange addrExamplesSpec)

/-- ITS FALSE NEIGHBOUR: 'it returns false'. Refute it at one input. -/
def addrExamplesWrong : ChangeSpec := { name := "addrExamples", fn := fun _ => fun
  | [] => { results := [.lit (.bool false)], args := [] }
  | _ => none }
def AddrExamplesWrongFalsely : Prop := addrExamplesRow.holds Tryd.pinned (OpenSpec.ofChange addrExamplesWrong)

/-- 'louvrelaw03.RectCovers': WHATEVER THE INPUT: true; the input reads as it did. -/
def rectCoversSpec : ChangeSpec := { name := "rectCovers", fn := fun _ => fun
  | [d1, d2] => { results := [.lit (.bool true)], args := [d1, d2] }
  | _ => none }
def rectCoversRow : OpenClaim := { program := "ytkdabfepggehiaadoor", sum := "130fb02053bdcd642d294858ab753767da5e3890e01fea94cf847c870119a3d2", func := "louvre/louvrelaw03.RectCovers", spec := "rectCovers", named := ["internal/strconv.uint64pow10", "math/bits.deBruijn32tab", "math/bits.deBruijn64tab"], apart := false, laid := [("math/bits.deBruijn32tab", laid_math_bits_deBruijn32tab), ("math/bits.deBruijn64tab", laid_math_bits_deBruijn64tab), ("internal/strconv.uint64pow10", laid_internal_strconv_uint64pow10)] }
def RectCoversSaid : Prop := rectCoversRow.holds Tryd.pinned (OpenSpec.ofChange rectCoversSpec)

/-- ITS FALSE NEIGHBOUR: 'it returns false'. Refute it at one input. -/
def rectCoversWrong : ChangeSpec := { name := "rectCovers", fn := fun _ => fun
  | [d1, d2] => { results := [.lit (.bool false)], args := [d1, d2] }
  | _ => none }
def RectCoversWrongFalsely : Prop := rectCoversRow.holds Tryd.pinned (OpenSpec.ofChange rectCoversWrong)

/-- 'louvrelaw03.RectCuts': WHATEVER THE INPUT: true; the input reads as it did. -/
def rectCutsSpec : ChangeSpec := { name := "rectCuts", fn := fun _ => fun
  | [d1, d2, d3] => { results := [.lit (.bool true)], args := [d1, d2, d3] }
  | _ => none }
def rectCutsRow : OpenClaim := { program := "ytkdabfepggehiaadoor", sum := "130fb02053bdcd642d294858ab753767da5e3890e01fea94cf847c870119a3d2", func := "louvre/louvrelaw03.RectCuts", spec := "rectCuts", named := ["internal/strconv.uint64pow10", "math/bits.deBruijn32tab", "math/bits.deBruijn64tab"], apart := false, laid := [("math/bits.deBruijn32tab", laid_math_bits_deBruijn32tab), ("math/bits.deBruijn64tab", laid_math_bits_deBruijn64tab), ("internal/strconv.uint64pow10", laid_internal_strconv_uint64pow10)] }
def RectCutsSaid : Prop := rectCutsRow.holds Tryd.pinned (OpenSpec.ofChange rectCutsSpec)

/-- ITS FALSE NEIGHBOUR: 'it returns false'. Refute it at one input. -/
def rectCutsWrong : ChangeSpec := { name := "rectCuts", fn := fun _ => fun
  | [d1, d2, d3] => { results := [.lit (.bool false)], args := [d1, d2, d3] }
  | _ => none }
def RectCutsWrongFalsely : Prop := rectCutsRow.holds Tryd.pinned (OpenSpec.ofChange rectCutsWrong)

/-- 'louvrelaw03.RectAll': WHATEVER THE INPUT: true; the input reads as it did. -/
def rectAllSpec : ChangeSpec := { name := "rectAll", fn := fun _ => fun
  | [d1, d2] => { results := [.lit (.bool true)], args := [d1, d2] }
  | _ => none }
def rectAllRow : OpenClaim := { program := "ytkdabfepggehiaadoor", sum := "130fb02053bdcd642d294858ab753767da5e3890e01fea94cf847c870119a3d2", func := "louvre/louvrelaw03.RectAll", spec := "rectAll", named := ["internal/strconv.uint64pow10", "math/bits.deBruijn32tab", "math/bits.deBruijn64tab"], apart := false, laid := [("math/bits.deBruijn32tab", laid_math_bits_deBruijn32tab), ("math/bits.deBruijn64tab", laid_math_bits_deBruijn64tab), ("internal/strconv.uint64pow10", laid_internal_strconv_uint64pow10)] }
def RectAllSaid : Prop := rectAllRow.holds Tryd.pinned (OpenSpec.ofChange rectAllSpec)

/-- ITS FALSE NEIGHBOUR: 'it returns false'. Refute it at one input. -/
def rectAllWrong : ChangeSpec := { name := "rectAll", fn := fun _ => fun
  | [d1, d2] => { results := [.lit (.bool false)], args := [d1, d2] }
  | _ => none }
def RectAllWrongFalsely : Prop := rectAllRow.holds Tryd.pinned (OpenSpec.ofChange rectAllWrong)

/-- 'louvrelaw03.RectTexts': WHATEVER THE INPUT: true; the input reads as it did. -/
def rectTextsSpec : ChangeSpec := { name := "rectTexts", fn := fun _ => fun
  | [d1, d2] => { results := [.lit (.bool true)], args := [d1, d2] }
  | _ => none }
def rectTextsRow : OpenClaim := { program := "ytkdabfepggehiaadoor", sum := "130fb02053bdcd642d294858ab753767da5e3890e01fea94cf847c870119a3d2", func := "louvre/louvrelaw03.RectTexts", spec := "rectTexts", inPlace := ["internal/bytealg.IndexByteString", "internal/bytealg.IndexString"], named := ["internal/strconv.uint64pow10", "math/bits.deBruijn32tab", "math/bits.deBruijn64tab", "internal/bytealg.MaxLen"], apart := false, laid := [("math/bits.deBruijn32tab", laid_math_bits_deBruijn32tab), ("math/bits.deBruijn64tab", laid_math_bits_deBruijn64tab), ("internal/strconv.uint64pow10", laid_internal_strconv_uint64pow10)] }
def RectTextsSaid : Prop := rectTextsRow.holds Tryd.pinned (OpenSpec.ofChange rectTextsSpec)

/-- ITS FALSE NEIGHBOUR: 'it returns false'. Refute it at one input. -/
def rectTextsWrong : ChangeSpec := { name := "rectTexts", fn := fun _ => fun
  | [d1, d2] => { results := [.lit (.bool false)], args := [d1, d2] }
  | _ => none }
def RectTextsWrongFalsely : Prop := rectTextsRow.holds Tryd.pinned (OpenSpec.ofChange rectTextsWrong)

/-- 'louvrelaw03.RectBack': WHATEVER THE INPUT: true; the input reads as it did. -/
def rectBackSpec : ChangeSpec := { name := "rectBack", fn := fun _ => fun
  | [d1, d2] => { results := [.lit (.bool true)], args := [d1, d2] }
  | _ => none }
def rectBackRow : OpenClaim := { program := "ytkdabfepggehiaadoor", sum := "130fb02053bdcd642d294858ab753767da5e3890e01fea94cf847c870119a3d2", func := "louvre/louvrelaw03.RectBack", spec := "rectBack", inPlace := ["internal/bytealg.IndexByteString", "internal/bytealg.IndexString"], named := ["internal/strconv.uint64pow10", "math/bits.deBruijn32tab", "math/bits.deBruijn64tab", "internal/bytealg.MaxLen"], apart := false, laid := [("math/bits.deBruijn32tab", laid_math_bits_deBruijn32tab), ("math/bits.deBruijn64tab", laid_math_bits_deBruijn64tab), ("internal/strconv.uint64pow10", laid_internal_strconv_uint64pow10)] }
def RectBackSaid : Prop := rectBackRow.holds Tryd.pinned (OpenSpec.ofChange rectBackSpec)

/-- ITS FALSE NEIGHBOUR: 'it returns false'. Refute it at one input. -/
def rectBackWrong : ChangeSpec := { name := "rectBack", fn := fun _ => fun
  | [d1, d2] => { results := [.lit (.bool false)], args := [d1, d2] }
  | _ => none }
def RectBackWrongFalsely : Prop := rectBackRow.holds Tryd.pinned (OpenSpec.ofChange rectBackWrong)

/-- 'louvrelaw03.RectExamples': WHATEVER THE INPUT: true; the input reads as it did. -/
def rectExamplesSpec : ChangeSpec := { name := "rectExamples", fn := fun _ => fun
  | [] => { results := [.lit (.bool true)], args := [] }
  | _ => none }
def rectExamplesRow : OpenClaim := { program := "ytkdabfepggehiaadoor", sum := "130fb02053bdcd642d294858ab753767da5e3890e01fea94cf847c870119a3d2", func := "louvre/louvrelaw03.RectExamples", spec := "rectExamples", inPlace := ["internal/bytealg.IndexByteString", "internal/bytealg.IndexString"], named := ["internal/bytealg.MaxLen", "internal/strconv.uint64pow10", "math/bits.deBruijn32tab", "math/bits.deBruijn64tab"], apart := false, laid := [("math/bits.deBruijn32tab", laid_math_bits_deBruijn32tab), ("math/bits.deBruijn64tab", laid_math_bits_deBruijn64tab), ("internal/strconv.uint64pow10", laid_internal_strconv_uint64pow10)] }
def RectExamplesSaid : Prop := rectExamplesRow.holds Tryd.pinned (OpenSpec.ofChange rectExamplesSpec)

/-- ITS FALSE NEIGHBOUR: 'it returns false'. Refute it at one input. -/
def rectExamplesWrong : ChangeSpec := { name := "rectExamples", fn := fun _ => fun
  | [] => { results := [.lit (.bool false)], args := [] }
  | _ => none }
def RectExamplesWrongFalsely : Prop := rectExamplesRow.holds Tryd.pinned (OpenSpec.ofChange rectExamplesWrong)

/- THE SECOND FORM. 'bulk': how many values and letters a reading holds, each counted each time it is reached (what is shared counts as often as it is met; a slice's spare places count too). A statement '..UptoSaid' is the law's where the arguments, and the package variables that the reading takes, are together of bulk at most 1048576: NARROWER than '..Said'. Prove '..Said' where nothing that the law and all that it calls make is longer than what came in: it says more and counts as full. Else prove '..UptoSaid'. A law counts once. -/
mutual
def uptoBulk {H : Type} : DataW H → Nat
  | .lit (.string bytes) => bytes.length + 1
  | .lit _ => 1
  | .nil => 1
  | .ptr d => uptoBulk d + 1
  | .slice elems spare => uptoBulkAll elems + uptoBulkAll spare + 1
  | .agg parts => uptoBulkAll parts + 1
  | .iface _ d => uptoBulk d + 1
  | .map entries => uptoBulkEntries entries + 1
  | .held _ => 1
def uptoBulkAll {H : Type} : List (DataW H) → Nat
  | [] => 0
  | d :: r => uptoBulk d + uptoBulkAll r
def uptoBulkEntries {H : Type} : List (Lit × DataW H) → Nat
  | [] => 0
  | x :: r => uptoBulkEntry x + uptoBulkEntries r
def uptoBulkEntry {H : Type} : Lit × DataW H → Nat
  | (.string bytes, d) => bytes.length + uptoBulk d + 1
  | (_, d) => uptoBulk d + 1
 end
def uptoSmall : (H : Type) → List (DataW H) → Bool := fun _ ds => decide (uptoBulkAll ds ≤ 1048576)
def OpenSpec.upto (s : _root_.Go.ChangeSpec) : _root_.Go.OpenSpec := { _root_.Go.OpenSpec.ofChange s with cond := some uptoSmall }

/-- 'louvrelaw02.AddrWrites', WHERE WHAT IT READS IS OF BULK AT MOST 1048576: true; the input reads as it did. -/
def addrWritesUptoRow : OpenClaim := { program := "ytkdabfepggehiaadoor", sum := "130fb02053bdcd642d294858ab753767da5e3890e01fea94cf847c870119a3d2", func := "louvre/louvrelaw02.AddrWrites", spec := "addrWrites", named := ["internal/strconv.uint64pow10", "math/bits.deBruijn32tab", "math/bits.deBruijn64tab"], apart := false, laid := [("math/bits.deBruijn32tab", laid_math_bits_deBruijn32tab), ("math/bits.deBruijn64tab", laid_math_bits_deBruijn64tab), ("internal/strconv.uint64pow10", laid_internal_strconv_uint64pow10)], narrowed := true }
def AddrWritesUptoSaid : Prop := addrWritesUptoRow.holds Tryd.pinned (OpenSpec.upto addrWritesSpec)

/-- 'louvrelaw02.AddrLess', WHERE WHAT IT READS IS OF BULK AT MOST 1048576: true; the input reads as it did. -/
def addrLessUptoRow : OpenClaim := { program := "ytkdabfepggehiaadoor", sum := "130fb02053bdcd642d294858ab753767da5e3890e01fea94cf847c870119a3d2", func := "louvre/louvrelaw02.AddrLess", spec := "addrLess", named := ["internal/strconv.uint64pow10", "math/bits.deBruijn32tab", "math/bits.deBruijn64tab"], apart := false, laid := [("math/bits.deBruijn32tab", laid_math_bits_deBruijn32tab), ("math/bits.deBruijn64tab", laid_math_bits_deBruijn64tab), ("internal/strconv.uint64pow10", laid_internal_strconv_uint64pow10)], narrowed := true }
def AddrLessUptoSaid : Prop := addrLessUptoRow.holds Tryd.pinned (OpenSpec.upto addrLessSpec)

/-- 'louvrelaw02.AddrOrder', WHERE WHAT IT READS IS OF BULK AT MOST 1048576: true; the input reads as it did. -/
def addrOrderUptoRow : OpenClaim := { program := "ytkdabfepggehiaadoor", sum := "130fb02053bdcd642d294858ab753767da5e3890e01fea94cf847c870119a3d2", func := "louvre/louvrelaw02.AddrOrder", spec := "addrOrder", named := ["internal/strconv.uint64pow10", "math/bits.deBruijn32tab", "math/bits.deBruijn64tab"], apart := false, laid := [("math/bits.deBruijn32tab", laid_math_bits_deBruijn32tab), ("math/bits.deBruijn64tab", laid_math_bits_deBruijn64tab), ("internal/strconv.uint64pow10", laid_internal_strconv_uint64pow10)], narrowed := true }
def AddrOrderUptoSaid : Prop := addrOrderUptoRow.holds Tryd.pinned (OpenSpec.upto addrOrderSpec)

/-- 'louvrelaw03.RectMeets', WHERE WHAT IT READS IS OF BULK AT MOST 1048576: true; the input reads as it did. -/
def rectMeetsUptoRow : OpenClaim := { program := "ytkdabfepggehiaadoor", sum := "130fb02053bdcd642d294858ab753767da5e3890e01fea94cf847c870119a3d2", func := "louvre/louvrelaw03.RectMeets", spec := "rectMeets", named := ["internal/strconv.uint64pow10", "math/bits.deBruijn32tab", "math/bits.deBruijn64tab"], apart := false, laid := [("math/bits.deBruijn32tab", laid_math_bits_deBruijn32tab), ("math/bits.deBruijn64tab", laid_math_bits_deBruijn64tab), ("internal/strconv.uint64pow10", laid_internal_strconv_uint64pow10)], narrowed := true }
def RectMeetsUptoSaid : Prop := rectMeetsUptoRow.holds Tryd.pinned (OpenSpec.upto rectMeetsSpec)

/-- 'louvrelaw03.RectPairs', WHERE WHAT IT READS IS OF BULK AT MOST 1048576: true; the input reads as it did. -/
def rectPairsUptoRow : OpenClaim := { program := "ytkdabfepggehiaadoor", sum := "130fb02053bdcd642d294858ab753767da5e3890e01fea94cf847c870119a3d2", func := "louvre/louvrelaw03.RectPairs", spec := "rectPairs", named := ["internal/strconv.uint64pow10", "math/bits.deBruijn32tab", "math/bits.deBruijn64tab"], apart := false, laid := [("math/bits.deBruijn32tab", laid_math_bits_deBruijn32tab), ("math/bits.deBruijn64tab", laid_math_bits_deBruijn64tab), ("internal/strconv.uint64pow10", laid_internal_strconv_uint64pow10)], narrowed := true }
def RectPairsUptoSaid : Prop := rectPairsUptoRow.holds Tryd.pinned (OpenSpec.upto rectPairsSpec)

/-- 'louvrelaw02.AddrReads', WHERE WHAT IT READS IS OF BULK AT MOST 1048576: true; the input reads as it did. -/
def addrReadsUptoRow : OpenClaim := { program := "ytkdabfepggehiaadoor", sum := "130fb02053bdcd642d294858ab753767da5e3890e01fea94cf847c870119a3d2", func := "louvre/louvrelaw02.AddrReads", spec := "addrReads", named := ["internal/strconv.uint64pow10", "math/bits.deBruijn32tab", "math/bits.deBruijn64tab"], apart := false, laid := [("math/bits.deBruijn32tab", laid_math_bits_deBruijn32tab), ("math/bits.deBruijn64tab", laid_math_bits_deBruijn64tab), ("internal/strconv.uint64pow10", laid_internal_strconv_uint64pow10)], narrowed := true }
def AddrReadsUptoSaid : Prop := addrReadsUptoRow.holds Tryd.pinned (OpenSpec.upto addrReadsSpec)

/-- 'louvrelaw02.AddrBack', WHERE WHAT IT READS IS OF BULK AT MOST 1048576: true; the input reads as it did. -/
def addrBackUptoRow : OpenClaim := { program := "ytkdabfepggehiaadoor", sum := "130fb02053bdcd642d294858ab753767da5e3890e01fea94cf847c870119a3d2", func := "louvre/louvrelaw02.AddrBack", spec := "addrBack", named := ["internal/strconv.uint64pow10", "math/bits.deBruijn32tab", "math/bits.deBruijn64tab"], apart := false, laid := [("math/bits.deBruijn32tab", laid_math_bits_deBruijn32tab), ("math/bits.deBruijn64tab", laid_math_bits_deBruijn64tab), ("internal/strconv.uint64pow10", laid_internal_strconv_uint64pow10)], narrowed := true }
def AddrBackUptoSaid : Prop := addrBackUptoRow.holds Tryd.pinned (OpenSpec.upto addrBackSpec)

/-- 'louvrelaw02.AddrPlaces', WHERE WHAT IT READS IS OF BULK AT MOST 1048576: true; the input reads as it did. -/
def addrPlacesUptoRow : OpenClaim := { program := "ytkdabfepggehiaadoor", sum := "130fb02053bdcd642d294858ab753767da5e3890e01fea94cf847c870119a3d2", func := "louvre/louvrelaw02.AddrPlaces", spec := "addrPlaces", named := ["internal/strconv.uint64pow10", "math/bits.deBruijn32tab", "math/bits.deBruijn64tab"], apart := false, laid := [("math/bits.deBruijn32tab", laid_math_bits_deBruijn32tab), ("math/bits.deBruijn64tab", laid_math_bits_deBruijn64tab), ("internal/strconv.uint64pow10", laid_internal_strconv_uint64pow10)], narrowed := true }
def AddrPlacesUptoSaid : Prop := addrPlacesUptoRow.holds Tryd.pinned (OpenSpec.upto addrPlacesSpec)

/-- 'louvrelaw02.AddrExamples', WHERE WHAT IT READS IS OF BULK AT MOST 1048576: true; the input reads as it did. -/
def addrExamplesUptoRow : OpenClaim := { program := "ytkdabfepggehiaadoor", sum := "130fb02053bdcd642d294858ab753767da5e3890e01fea94cf847c870119a3d2", func := "louvre/louvrelaw02.AddrExamples", spec := "addrExamples", named := ["internal/strconv.uint64pow10", "math/bits.deBruijn32tab", "math/bits.deBruijn64tab"], apart := false, laid := [("math/bits.deBruijn32tab", laid_math_bits_deBruijn32tab), ("math/bits.deBruijn64tab", laid_math_bits_deBruijn64tab), ("internal/strconv.uint64pow10", laid_internal_strconv_uint64pow10)], narrowed := true }
def AddrExamplesUptoSaid : Prop := addrExamplesUptoRow.holds Tryd.pinned (OpenSpec.upto addrExamplesSpec)

/-- 'louvrelaw03.RectCovers', WHERE WHAT IT READS IS OF BULK AT MOST 1048576: true; the input reads as it did. -/
def rectCoversUptoRow : OpenClaim := { program := "ytkdabfepggehiaadoor", sum := "130fb02053bdcd642d294858ab753767da5e3890e01fea94cf847c870119a3d2", func := "louvre/louvrelaw03.RectCovers", spec := "rectCovers", named := ["internal/strconv.uint64pow10", "math/bits.deBruijn32tab", "math/bits.deBruijn64tab"], apart := false, laid := [("math/bits.deBruijn32tab", laid_math_bits_deBruijn32tab), ("math/bits.deBruijn64tab", laid_math_bits_deBruijn64tab), ("internal/strconv.uint64pow10", laid_internal_strconv_uint64pow10)], narrowed := true }
def RectCoversUptoSaid : Prop := rectCoversUptoRow.holds Tryd.pinned (OpenSpec.upto rectCoversSpec)

/-- 'louvrelaw03.RectCuts', WHERE WHAT IT READS IS OF BULK AT MOST 1048576: true; the input reads as it did. -/
def rectCutsUptoRow : OpenClaim := { program := "ytkdabfepggehiaadoor", sum := "130fb02053bdcd642d294858ab753767da5e3890e01fea94cf847c870119a3d2", func := "louvre/louvrelaw03.RectCuts", spec := "rectCuts", named := ["internal/strconv.uint64pow10", "math/bits.deBruijn32tab", "math/bits.deBruijn64tab"], apart := false, laid := [("math/bits.deBruijn32tab", laid_math_bits_deBruijn32tab), ("math/bits.deBruijn64tab", laid_math_bits_deBruijn64tab), ("internal/strconv.uint64pow10", laid_internal_strconv_uint64pow10)], narrowed := true }
def RectCutsUptoSaid : Prop := rectCutsUptoRow.holds Tryd.pinned (OpenSpec.upto rectCutsSpec)

/-- 'louvrelaw03.RectAll', WHERE WHAT IT READS IS OF BULK AT MOST 1048576: true; the input reads as it did. -/
def rectAllUptoRow : OpenClaim := { program := "ytkdabfepggehiaadoor", sum := "130fb02053bdcd642d294858ab753767da5e3890e01fea94cf847c870119a3d2", func := "louvre/louvrelaw03.RectAll", spec := "rectAll", named := ["internal/strconv.uint64pow10", "math/bits.deBruijn32tab", "math/bits.deBruijn64tab"], apart := false, laid := [("math/bits.deBruijn32tab", laid_math_bits_deBruijn32tab), ("math/bits.deBruijn64tab", laid_math_bits_deBruijn64tab), ("internal/strconv.uint64pow10", laid_internal_strconv_uint64pow10)], narrowed := true }
def RectAllUptoSaid : Prop := rectAllUptoRow.holds Tryd.pinned (OpenSpec.upto rectAllSpec)

/-- 'louvrelaw03.RectTexts', WHERE WHAT IT READS IS OF BULK AT MOST 1048576: true; the input reads as it did. -/
def rectTextsUptoRow : OpenClaim := { program := "ytkdabfepggehiaadoor", sum := "130fb02053bdcd642d294858ab753767da5e3890e01fea94cf847c870119a3d2", func := "louvre/louvrelaw03.RectTexts", spec := "rectTexts", inPlace := ["internal/bytealg.IndexByteString", "internal/bytealg.IndexString"], named := ["internal/strconv.uint64pow10", "math/bits.deBruijn32tab", "math/bits.deBruijn64tab", "internal/bytealg.MaxLen"], apart := false, laid := [("math/bits.deBruijn32tab", laid_math_bits_deBruijn32tab), ("math/bits.deBruijn64tab", laid_math_bits_deBruijn64tab), ("internal/strconv.uint64pow10", laid_internal_strconv_uint64pow10)], narrowed := true }
def RectTextsUptoSaid : Prop := rectTextsUptoRow.holds Tryd.pinned (OpenSpec.upto rectTextsSpec)

/-- 'louvrelaw03.RectBack', WHERE WHAT IT READS IS OF BULK AT MOST 1048576: true; the input reads as it did. -/
def rectBackUptoRow : OpenClaim := { program := "ytkdabfepggehiaadoor", sum := "130fb02053bdcd642d294858ab753767da5e3890e01fea94cf847c870119a3d2", func := "louvre/louvrelaw03.RectBack", spec := "rectBack", inPlace := ["internal/bytealg.IndexByteString", "internal/bytealg.IndexString"], named := ["internal/strconv.uint64pow10", "math/bits.deBruijn32tab", "math/bits.deBruijn64tab", "internal/bytealg.MaxLen"], apart := false, laid := [("math/bits.deBruijn32tab", laid_math_bits_deBruijn32tab), ("math/bits.deBruijn64tab", laid_math_bits_deBruijn64tab), ("internal/strconv.uint64pow10", laid_internal_strconv_uint64pow10)], narrowed := true }
def RectBackUptoSaid : Prop := rectBackUptoRow.holds Tryd.pinned (OpenSpec.upto rectBackSpec)

/-- 'louvrelaw03.RectExamples', WHERE WHAT IT READS IS OF BULK AT MOST 1048576: true; the input reads as it did. -/
def rectExamplesUptoRow : OpenClaim := { program := "ytkdabfepggehiaadoor", sum := "130fb02053bdcd642d294858ab753767da5e3890e01fea94cf847c870119a3d2", func := "louvre/louvrelaw03.RectExamples", spec := "rectExamples", inPlace := ["internal/bytealg.IndexByteString", "internal/bytealg.IndexString"], named := ["internal/bytealg.MaxLen", "internal/strconv.uint64pow10", "math/bits.deBruijn32tab", "math/bits.deBruijn64tab"], apart := false, laid := [("math/bits.deBruijn32tab", laid_math_bits_deBruijn32tab), ("math/bits.deBruijn64tab", laid_math_bits_deBruijn64tab), ("internal/strconv.uint64pow10", laid_internal_strconv_uint64pow10)], narrowed := true }
def RectExamplesUptoSaid : Prop := rectExamplesUptoRow.holds Tryd.pinned (OpenSpec.upto rectExamplesSpec)

end Rows
end Go.Proofs.YtkdabfepggehiaaDoor
