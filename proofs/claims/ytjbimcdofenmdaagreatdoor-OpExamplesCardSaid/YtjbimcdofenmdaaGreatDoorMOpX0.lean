/- The plain facts of the law OpExamples. -/
import Derived.Test.YtjbimcdofenmdaaGreatDoorMOpJ
namespace Go.Proofs.YtjbimcdofenmdaaGreatDoor
open Go.RowKit

def exO : List (OpV × List UInt8) := [(⟨3, 1, ⟨2, 2, 2, 2⟩, [61, 65, 49, 38, 34, 120, 34], 0, 0, 0, 0, 0, 0⟩, [115, 101, 116, 32, 49, 32, 66, 50, 32, 34, 61, 65, 49, 38, 34, 34, 120, 34, 34, 34]), (⟨3, 0, ⟨1, 1, 1, 1⟩, [97, 32, 32, 98, 32], 0, 0, 0, 0, 0, 0⟩, [115, 101, 116, 32, 48, 32, 65, 49, 32, 34, 97, 32, 32, 98, 32, 34]), (⟨7, 0, ⟨1, 1, 2, 3⟩, [], 7, 1, 0, 0, 0, 0⟩, [114, 117, 108, 101, 32, 48, 32, 65, 49, 58, 66, 51, 32, 48, 45, 50, 32, 48, 32, 45]), (⟨5, (-1), ⟨0, 1, 2, 2⟩, [], 0, 0, 0, 0, 0, 0⟩, [114, 101, 97, 100, 32, 45, 49, 32, 48, 44, 49, 44, 50, 44, 50]), (⟨8, 2, ⟨1, 1, 1, 1⟩, [], 0, 0, 0, 3, 0, 0⟩, [103, 114, 97, 110, 116, 32, 50, 32, 65, 49, 32, 51, 32, 45]), (⟨9, 0, ⟨0, 0, 0, 0⟩, [], 0, 0, 0, 0, 0, (-1)⟩, [114, 101, 118, 111, 107, 101, 32, 48, 32, 45, 49]), (⟨1, (-9223372036854775808), ⟨0, 0, 0, 0⟩, [], 0, 0, 0, 0, 0, 0⟩, [108, 111, 103, 105, 110, 32, 45, 57, 50, 50, 51, 51, 55, 50, 48, 51, 54, 56, 53, 52, 55, 55, 53, 56, 48, 56]), (⟨6, 3, ⟨1024, 1024, 1024, 1024⟩, [], 0, 0, 0, 0, 0, 0⟩, [102, 111, 114, 109, 117, 108, 97, 32, 51, 32, 65, 77, 74, 49, 48, 50, 52])]
def badL : List (List UInt8) := [[108, 111, 103, 105, 110, 32, 48, 32], [114, 101, 97, 100, 32, 48, 32, 49, 44, 49, 44, 49, 44, 49], [115, 101, 116, 32, 48, 32, 65, 49, 32, 120], [97, 117, 100, 105, 116, 32, 48, 48], [], [108, 111, 103, 105, 110], [103, 114, 97, 110, 116, 32, 48, 32, 65, 49, 32, 48, 32, 45], [103, 114, 97, 110, 116, 32, 48, 32, 65, 49, 32, 51, 50, 32, 45], [102, 111, 114, 109, 117, 108, 97, 32, 48, 32, 65, 49, 58, 65, 50], [115, 101, 116, 32, 48, 32, 65, 49], [114, 117, 108, 101, 32, 48, 32, 65, 49, 32, 45, 32, 45], [114, 97, 119, 32, 48], [114, 101, 97, 100, 32, 48, 32, 97, 49], [114, 101, 118, 111, 107, 101, 32, 48, 32, 43, 49], [108, 111, 103, 105, 110, 32, 57, 50, 50, 51, 51, 55, 50, 48, 51, 54, 56, 53, 52, 55, 55, 53, 56, 48, 56]]
def badO : List OpV := [⟨11, 0, ⟨0, 0, 0, 0⟩, [], 0, 0, 0, 0, 0, 0⟩, ⟨0, 0, ⟨0, 0, 0, 0⟩, [], 0, 0, 0, 0, 0, 0⟩, ⟨1, 0, ⟨0, 0, 0, 0⟩, [], 0, 0, 0, 0, 0, 1⟩, ⟨3, 0, ⟨1, 1, 1, 2⟩, [], 0, 0, 0, 0, 0, 0⟩, ⟨8, 0, ⟨1, 1, 1, 1⟩, [], 0, 0, 0, 0, 0, 0⟩, ⟨3, 0, ⟨0, 0, 0, 0⟩, [9], 0, 0, 0, 0, 0, 0⟩]
def OpV.cells (x : OpV) : List Value := [.int .u8 x.kind, .int .i64 x.user, .int .i64 x.rect.c1, .int .i64 x.rect.r1, .int .i64 x.rect.c2, .int .i64 x.rect.r2, .string ⟨x.input.toArray⟩, .int .u64 x.rd, .int .u64 x.wr, .int .u64 x.ow, .int .u8 x.fns, .int .u64 x.tg, .int .i64 x.idx]
def exCells (l : List (OpV × List UInt8)) : List Value := l.flatMap fun p => p.1.cells ++ [.string ⟨p.2.toArray⟩]
def boCells (l : List OpV) : List Value := l.flatMap fun x => x.cells
theorem exO_ok : ∀ p ∈ exO, p.1.Ok ∧ goodV p.1 ∧ lineL p.1 = p.2 ∧ p.1.input.length ≤ 300 ∧ p.2.length ≤ 300 := by
  intro p hp
  simp only [exO, List.mem_cons, List.not_mem_nil, or_false] at hp
  rcases hp with rfl | rfl | rfl | rfl | rfl | rfl | rfl | rfl <;> exact ⟨by constructor <;> first | decide | exact ⟨by decide, by decide⟩, by decide, by kernel_rfl, by decide, by decide⟩
theorem bad_read : ∀ l ∈ badL, ParsedAs l OpV.zero 4 := by
  intro l hl
  simp only [badL, List.mem_cons, List.not_mem_nil, or_false] at hl
  rcases hl with rfl | rfl | rfl | rfl | rfl | rfl | rfl | rfl | rfl | rfl | rfl | rfl | rfl | rfl | rfl
  · exact parsed_not (x := ⟨1, 0, ⟨0, 0, 0, 0⟩, [], 0, 0, 0, 0, 0, 0⟩) (by kernel_rfl) (by decide +kernel)
  · exact parsed_not (x := ⟨5, 0, ⟨1, 1, 1, 1⟩, [], 0, 0, 0, 0, 0, 0⟩) (by kernel_rfl) (by decide +kernel)
  · exact parsed_none (by kernel_rfl)
  · exact parsed_not (x := ⟨10, 0, ⟨0, 0, 0, 0⟩, [], 0, 0, 0, 0, 0, 0⟩) (by kernel_rfl) (by decide +kernel)
  · exact parsed_none (by kernel_rfl)
  · exact parsed_none (by kernel_rfl)
  · exact parsed_not (x := ⟨8, 0, ⟨1, 1, 1, 1⟩, [], 0, 0, 0, 0, 0, 0⟩) (by kernel_rfl) (by decide +kernel)
  · exact parsed_not (x := ⟨8, 0, ⟨1, 1, 1, 1⟩, [], 0, 0, 0, 32, 0, 0⟩) (by kernel_rfl) (by decide +kernel)
  · exact parsed_not (x := ⟨6, 0, ⟨1, 1, 1, 2⟩, [], 0, 0, 0, 0, 0, 0⟩) (by kernel_rfl) (by decide +kernel)
  · exact parsed_none (by kernel_rfl)
  · exact parsed_none (by kernel_rfl)
  · exact parsed_none (by kernel_rfl)
  · exact parsed_not (x := ⟨5, 0, ⟨1, 1, 1, 1⟩, [], 0, 0, 0, 0, 0, 0⟩) (by kernel_rfl) (by decide +kernel)
  · exact parsed_not (x := ⟨9, 0, ⟨0, 0, 0, 0⟩, [], 0, 0, 0, 0, 0, 1⟩) (by kernel_rfl) (by decide +kernel)
  · exact parsed_none (by kernel_rfl)
theorem badL_len : ∀ l ∈ badL, l.length ≤ 300 := by decide +kernel
theorem badO_bad : ∀ x ∈ badO, checkV x = 4 ∧ x.input.length ≤ 300 := by decide +kernel
theorem exCells_at (l : List (OpV × List UInt8)) (k : Nat) (p : OpV × List UInt8) (h : l[k]? = some p) (j : Nat) (hj : j < 14) : (exCells l)[k * 14 + j]? = (p.1.cells ++ [.string ⟨p.2.toArray⟩])[j]? := by
  have hl : ∀ q : OpV × List UInt8, (q.1.cells ++ [Value.string ⟨q.2.toArray⟩]).length = 14 := fun _ => rfl
  induction l generalizing k with
  | nil => cases h
  | cons y l ih =>
    unfold exCells
    rw [List.flatMap_cons]
    cases k with
    | zero =>
      obtain rfl := Option.some.inj h
      rw [List.getElem?_append_left (by rw [hl]; omega), Nat.zero_mul, Nat.zero_add]
    | succ k =>
      rw [List.getElem?_append_right (by rw [hl]; omega), hl, show (k + 1) * 14 + j - 14 = k * 14 + j by omega]
      exact ih k h
theorem boCells_at (l : List OpV) (k : Nat) (x : OpV) (h : l[k]? = some x) (j : Nat) (hj : j < 13) : (boCells l)[k * 13 + j]? = x.cells[j]? := by
  have hl : ∀ q : OpV, q.cells.length = 13 := fun _ => rfl
  induction l generalizing k with
  | nil => cases h
  | cons y l ih =>
    unfold boCells
    rw [List.flatMap_cons]
    cases k with
    | zero =>
      obtain rfl := Option.some.inj h
      rw [List.getElem?_append_left (by rw [hl]; omega), Nat.zero_mul, Nat.zero_add]
    | succ k =>
      rw [List.getElem?_append_right (by rw [hl]; omega), hl, show (k + 1) * 13 + j - 13 = k * 13 + j by omega]
      exact ih k h
/-- the cells of a block from one on, as a fact that outlives calls -/
theorem blk_from {w : World} {b : Nat} {t : TypeId} {cs : List Value} (h : Blk w b t cs.toArray) (o : Nat) (ds : List Value) (hd : ∀ j, j < ds.length → cs[o + j]? = ds[j]?) : (kCells b o ds).p w := by
  refine ⟨h.lt, ?_⟩
  have key : ∀ (ds : List Value) (i : Nat), (∀ j, j < ds.length → cs[o + (i + j)]? = ds[j]?) → cellsFrom w b o i ds := by
    intro ds
    induction ds with
    | nil => intro i _; trivial
    | cons d ds ih =>
      intro i hd
      refine ⟨?_, ih (i + 1) fun j hj => ?_⟩
      · have := hd 0 (by simp)
        rw [h.cell]
        simpa using this
      · have := hd (j + 1) (by simp; omega)
        rw [show o + (i + 1 + j) = o + (i + (j + 1)) by omega, this]
        simp
  exact key ds 0 fun j hj => by rw [Nat.zero_add]; exact hd j hj
end Go.Proofs.YtjbimcdofenmdaaGreatDoor
