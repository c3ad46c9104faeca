/-
  NARROWER THAN 'FOR EVERY INPUT', by the rows' own cells (each row's printed sentence says how): ParseBinds: laid · ParseTrees: laid · ParseSame: laid · ParseStops: laid.
  DERIVED. THE GIVEN ROWS OF THIS SEAT. 4 by the template 'for every input the law returns true; each argument reads behind the call as it read before'; 0 by the template 'total and deterministic' (their statements: YtlngjiibbcgkmaaDoorTotals.lean).
  GIVEN WITH THE SEED: the statements are not yours to turn. If you find one false, say at which input.
  Laid BY PROGRAM, IN A SANDBOX (cutbox-rows.mjs): the forced cells as the released guide's own fill.sh prints them over the translation 9d10ab6b3c487b85… (all of the seat's roots in one cut). By AI agents, Wed Nov 11 2026. No macro, syntax, notation, axiom, sorry.
-/
import Derived.Test.YtlngjiibbcgkmaaDoorChecked
import GoSem.Claim
import GoSem.ClaimJoined
import GoSem.ClaimMapViews
import Derived.JoinedTies
import Derived.KernelRfl
namespace Go.Proofs.YtlngjiibbcgkmaaDoor
/- THE CELL 'sum', in the pinned program and in every row, IS THE sha256 OF THE DUMP (.gsa) THAT YtlngjiibbcgkmaaDoorProg.lean LOADS. Nothing in Lean hashes anything: it is a label: what it is worth is what the hold of that sum in a sandbox is worth. -/
noncomputable def Tryd.pinned : Pinned := { name := "ytlngjiibbcgkmaadoor", sum := "9d10ab6b3c487b854746992eb05236ea07e7bebb50bb8a7f95a19b515571ce80", checked := Tryd.checked }
namespace Rows
def none {H : Type} : Left H := { results := [], args := [] }

/- WHAT THE LISTED PACKAGE-LEVEL VARIABLES READ AS WHEN THE CALL BEGINS. Each datum BY PROGRAM (the guide's laid-datum.mjs) off the statement by which the dump's own 'gosem.cut.vars' lays the variable. In a bare row this is a premise. The card (YtlngjiibbcgkmaaDoorCards.lean) ties it to the program's text. -/
def laid_louvre_val_words {H : Type} : DataW H := .agg [.lit (.string []), .lit (.string [35, 68, 73, 86, 47, 48, 33]), .lit (.string [35, 86, 65, 76, 85, 69, 33]), .lit (.string [35, 78, 85, 77, 33]), .lit (.string [35, 78, 47, 65]), .lit (.string [35, 82, 69, 70, 33]), .lit (.string [35, 67, 89, 67, 76, 69, 33]), .lit (.string [35, 68, 69, 78, 73, 69, 68])]

/-- 'louvrelaw09.ParseBinds': WHATEVER THE INPUT: true; the input reads as it did. -/
def parseBindsSpec : ChangeSpec := { name := "parseBinds", fn := fun _ => fun
  | [d] => { results := [.lit (.bool true)], args := [d] }
  | _ => none }
def parseBindsRow : OpenClaim := { program := "ytlngjiibbcgkmaadoor", sum := "9d10ab6b3c487b854746992eb05236ea07e7bebb50bb8a7f95a19b515571ce80", func := "louvre/louvrelaw09.ParseBinds", spec := "parseBinds", unfollowed := true, recurses := true, named := ["louvre/val.words"], apart := false, laid := [("louvre/val.words", laid_louvre_val_words)] }
def ParseBindsSaid : Prop := parseBindsRow.holds Tryd.pinned (OpenSpec.ofChange parseBindsSpec)

/-- ITS FALSE NEIGHBOUR: 'it returns false'. Refute it at one input. -/
def parseBindsWrong : ChangeSpec := { name := "parseBinds", fn := fun _ => fun
  | [d] => { results := [.lit (.bool false)], args := [d] }
  | _ => none }
def ParseBindsWrongFalsely : Prop := parseBindsRow.holds Tryd.pinned (OpenSpec.ofChange parseBindsWrong)

/-- 'louvrelaw09.ParseTrees': WHATEVER THE INPUT: true; the input reads as it did. -/
def parseTreesSpec : ChangeSpec := { name := "parseTrees", fn := fun _ => fun
  | [d] => { results := [.lit (.bool true)], args := [d] }
  | _ => none }
def parseTreesRow : OpenClaim := { program := "ytlngjiibbcgkmaadoor", sum := "9d10ab6b3c487b854746992eb05236ea07e7bebb50bb8a7f95a19b515571ce80", func := "louvre/louvrelaw09.ParseTrees", spec := "parseTrees", unfollowed := true, recurses := true, named := ["louvre/val.words"], apart := false, laid := [("louvre/val.words", laid_louvre_val_words)] }
def ParseTreesSaid : Prop := parseTreesRow.holds Tryd.pinned (OpenSpec.ofChange parseTreesSpec)

/-- ITS FALSE NEIGHBOUR: 'it returns false'. Refute it at one input. -/
def parseTreesWrong : ChangeSpec := { name := "parseTrees", fn := fun _ => fun
  | [d] => { results := [.lit (.bool false)], args := [d] }
  | _ => none }
def ParseTreesWrongFalsely : Prop := parseTreesRow.holds Tryd.pinned (OpenSpec.ofChange parseTreesWrong)

/-- 'louvrelaw09.ParseSame': WHATEVER THE INPUT: true; the input reads as it did. -/
def parseSameSpec : ChangeSpec := { name := "parseSame", fn := fun _ => fun
  | [d1, d2] => { results := [.lit (.bool true)], args := [d1, d2] }
  | _ => none }
def parseSameRow : OpenClaim := { program := "ytlngjiibbcgkmaadoor", sum := "9d10ab6b3c487b854746992eb05236ea07e7bebb50bb8a7f95a19b515571ce80", func := "louvre/louvrelaw09.ParseSame", spec := "parseSame", unfollowed := true, recurses := true, named := ["louvre/val.words"], apart := false, laid := [("louvre/val.words", laid_louvre_val_words)] }
def ParseSameSaid : Prop := parseSameRow.holds Tryd.pinned (OpenSpec.ofChange parseSameSpec)

/-- ITS FALSE NEIGHBOUR: 'it returns false'. Refute it at one input. -/
def parseSameWrong : ChangeSpec := { name := "parseSame", fn := fun _ => fun
  | [d1, d2] => { results := [.lit (.bool false)], args := [d1, d2] }
  | _ => none }
def ParseSameWrongFalsely : Prop := parseSameRow.holds Tryd.pinned (OpenSpec.ofChange parseSameWrong)

/-- 'louvrelaw09.ParseStops': WHATEVER THE INPUT: true; the input reads as it did. -/
def parseStopsSpec : ChangeSpec := { name := "parseStops", fn := fun _ => fun
  | [d] => { results := [.lit (.bool true)], args := [d] }
  | _ => none }
def parseStopsRow : OpenClaim := { program := "ytlngjiibbcgkmaadoor", sum := "9d10ab6b3c487b854746992eb05236ea07e7bebb50bb8a7f95a19b515571ce80", func := "louvre/louvrelaw09.ParseStops", spec := "parseStops", unfollowed := true, recurses := true, named := ["louvre/val.words"], apart := false, laid := [("louvre/val.words", laid_louvre_val_words)] }
def ParseStopsSaid : Prop := parseStopsRow.holds Tryd.pinned (OpenSpec.ofChange parseStopsSpec)

/-- ITS FALSE NEIGHBOUR: 'it returns false'. Refute it at one input. -/
def parseStopsWrong : ChangeSpec := { name := "parseStops", fn := fun _ => fun
  | [d] => { results := [.lit (.bool false)], args := [d] }
  | _ => none }
def ParseStopsWrongFalsely : Prop := parseStopsRow.holds Tryd.pinned (OpenSpec.ofChange parseStopsWrong)

/- THE SECOND FORM. 'bulk': how many values and letters a reading holds, each counted each time it is reached (what is shared counts as often as it is met; a slice's spare places count too). A statement '..UptoSaid' is the law's where the arguments, and the package variables that the reading takes, are together of bulk at most 1048576: NARROWER than '..Said'. Prove '..Said' where nothing that the law and all that it calls make is longer than what came in: it says more and counts as full. Else prove '..UptoSaid'. A law counts once. -/
mutual
def uptoBulk {H : Type} : DataW H → Nat
  | .lit (.string bytes) => bytes.length + 1
  | .lit _ => 1
  | .nil => 1
  | .ptr d => uptoBulk d + 1
  | .slice elems spare => uptoBulkAll elems + uptoBulkAll spare + 1
  | .agg parts => uptoBulkAll parts + 1
  | .iface _ d => uptoBulk d + 1
  | .map entries => uptoBulkEntries entries + 1
  | .held _ => 1
def uptoBulkAll {H : Type} : List (DataW H) → Nat
  | [] => 0
  | d :: r => uptoBulk d + uptoBulkAll r
def uptoBulkEntries {H : Type} : List (Lit × DataW H) → Nat
  | [] => 0
  | x :: r => uptoBulkEntry x + uptoBulkEntries r
def uptoBulkEntry {H : Type} : Lit × DataW H → Nat
  | (.string bytes, d) => bytes.length + uptoBulk d + 1
  | (_, d) => uptoBulk d + 1
 end
def uptoSmall : (H : Type) → List (DataW H) → Bool := fun _ ds => decide (uptoBulkAll ds ≤ 1048576)
def OpenSpec.upto (s : _root_.Go.ChangeSpec) : _root_.Go.OpenSpec := { _root_.Go.OpenSpec.ofChange s with cond := some uptoSmall }

/-- 'louvrelaw09.ParseBinds', WHERE WHAT IT READS IS OF BULK AT MOST 1048576: true; the input reads as it did. -/
def parseBindsUptoRow : OpenClaim := { program := "ytlngjiibbcgkmaadoor", sum := "9d10ab6b3c487b854746992eb05236ea07e7bebb50bb8a7f95a19b515571ce80", func := "louvre/louvrelaw09.ParseBinds", spec := "parseBinds", unfollowed := true, recurses := true, named := ["louvre/val.words"], apart := false, laid := [("louvre/val.words", laid_louvre_val_words)], narrowed := true }
def ParseBindsUptoSaid : Prop := parseBindsUptoRow.holds Tryd.pinned (OpenSpec.upto parseBindsSpec)

/-- 'louvrelaw09.ParseTrees', WHERE WHAT IT READS IS OF BULK AT MOST 1048576: true; the input reads as it did. -/
def parseTreesUptoRow : OpenClaim := { program := "ytlngjiibbcgkmaadoor", sum := "9d10ab6b3c487b854746992eb05236ea07e7bebb50bb8a7f95a19b515571ce80", func := "louvre/louvrelaw09.ParseTrees", spec := "parseTrees", unfollowed := true, recurses := true, named := ["louvre/val.words"], apart := false, laid := [("louvre/val.words", laid_louvre_val_words)], narrowed := true }
def ParseTreesUptoSaid : Prop := parseTreesUptoRow.holds Tryd.pinned (OpenSpec.upto parseTreesSpec)

/-- 'louvrelaw09.ParseSame', WHERE WHAT IT READS IS OF BULK AT MOST 1048576: true; the input reads as it did. -/
def parseSameUptoRow : OpenClaim := { program := "ytlngjiibbcgkmaadoor", sum := "9d10ab6b3c487b854746992eb05236ea07e7bebb50bb8a7f95a19b515571ce80", func := "louvre/louvrelaw09.ParseSame", spec := "parseSame", unfollowed := true, recurses := true, named := ["louvre/val.words"], apart := false, laid := [("louvre/val.words", laid_louvre_val_words)], narrowed := true }
def ParseSameUptoSaid : Prop := parseSameUptoRow.holds Tryd.pinned (OpenSpec.upto parseSameSpec)

/-- 'louvrelaw09.ParseStops', WHERE WHAT IT READS IS OF BULK AT MOST 1048576: true; the input reads as it did. -/
def parseStopsUptoRow : OpenClaim := { program := "ytlngjiibbcgkmaadoor", sum := "9d10ab6b3c487b854746992eb05236ea07e7bebb50bb8a7f95a19b515571ce80", func := "louvre/louvrelaw09.ParseStops", spec := "parseStops", unfollowed := true, recurses := true, named := ["louvre/val.words"], apart := false, laid := [("louvre/val.words", laid_louvre_val_words)], narrowed := true }
def ParseStopsUptoSaid : Prop := parseStopsUptoRow.holds Tryd.pinned (OpenSpec.upto parseStopsSpec)

end Rows
end Go.Proofs.YtlngjiibbcgkmaaDoor
