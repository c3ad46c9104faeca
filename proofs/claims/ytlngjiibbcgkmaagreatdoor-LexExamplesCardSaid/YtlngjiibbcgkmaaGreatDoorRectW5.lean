/- Contracts of package rect's Meet and of its reference. Contracts of package rect's rest, Minus and Area, and of the reference's. Contracts of Minus, package rect's and the reference's, and of the kit's EqualRects. -/
import Derived.Test.YtlngjiibbcgkmaaGreatDoorRectW2
import Derived.Deep.AppendLies
import Derived.Deep.Onto
import Derived.Deep.RegionHeld3
namespace Go.Proofs.YtlngjiibbcgkmaaGreatDoor
section
open Go.RowKit

/-- three ranges that lie one behind the other in block b -/
theorem rects_of_blk {w : World} {b n : Nat} {t : TypeId} {cs : Array Value} (f : Nat → R4) (h : Blk w b t cs) (hc : ∀ i j, i < n → j < 4 → cs[i * 4 + j]? = some (rv (f i) j)) : IsRects w w.heap.size (some ⟨b, 0, none⟩) n f := by
  intro _
  refine ⟨_, rfl, h.lt, fun i j hi hj => ?_⟩
  rw [show (⟨b, 0, none⟩ : Addr).add (i * 4 + j) = ⟨b, i * 4 + j, none⟩ from by unfold Addr.add; split <;> simp_all]
  rw [h.cell]; exact hc i j hi hj
def three (a b c : R4) : Nat → R4
  | 0 => a
  | 1 => b
  | _ => c
def rcells (l : List R4) : List Value := l.flatMap fun r => [.int .i64 r.c1, .int .i64 r.r1, .int .i64 r.c2, .int .i64 r.r2]
theorem rcells_at (l : List R4) (d : R4) : ∀ i j, i < l.length → j < 4 → (rcells l)[i * 4 + j]? = some (rv (l.getD i d) j) := by
  induction l with
  | nil => intro i j h; simp at h
  | cons r l ih =>
    intro i j hi hj
    match i with
    | 0 =>
      rcases (show j = 0 ∨ j = 1 ∨ j = 2 ∨ j = 3 from by omega) with rfl | rfl | rfl | rfl <;> simp [rcells, rv]
    | i + 1 =>
      have := ih i j (by simpa using hi) hj
      rw [show (i + 1) * 4 + j = (i * 4 + j) + 4 from by omega]
      simpa [rcells, rv] using this
theorem three_all (a b c : R4) : allB (three a b c) 3 = (checkB a && checkB b && checkB c) := by
  simp [allB, three]
theorem meetS_no {a b : R4} (h : meets a b = false) : meetS a b = R4.zero := by unfold meetS; rw [if_neg (by simp [h])]
theorem meetS_yes {a b : R4} (h : meets a b = true) : meetS a b = meetR a b := by unfold meetS; rw [if_pos h]

end
section
open Go.RowKit

def restParts (a m : R4) : List R4 := [⟨a.c1, a.r1, a.c2, m.r1 - 1⟩, ⟨a.c1, m.r1, m.c1 - 1, m.r2⟩, ⟨m.c2 + 1, m.r1, a.c2, m.r2⟩, ⟨a.c1, m.r2 + 1, a.c2, a.r2⟩]
def fine (r : R4) : Bool := decide (r.c1 ≤ r.c2) && decide (r.r1 ≤ r.r2)
def restM (a m : R4) : List R4 := (restParts a m).filter fine
def restL (a b : R4) : List R4 := if meets a b = true then restM a (meetS a b) else [a]
def areaN (r : R4) : Int := (r.c2 - r.c1 + 1) * (r.r2 - r.r1 + 1)
def areaS (r : R4) : Int × Int := if checkB r = true then (areaN r, 0) else (0, 3)
theorem areaS_no {r : R4} (h : checkB r = false) : areaS r = (0, 3) := by unfold areaS; rw [if_neg (by simp [h])]
theorem areaS_yes {r : R4} (h : checkB r = true) : areaS r = (areaN r, 0) := by unfold areaS; rw [if_pos h]
theorem area_le {r : R4} (h : checkB r = true) : 1 ≤ areaN r ∧ areaN r ≤ 1048576 := by
  have h' := (checkB_iff r).1 h
  unfold areaN
  have h1 : 1 ≤ r.c2 - r.c1 + 1 ∧ r.c2 - r.c1 + 1 ≤ 1024 := by omega
  have h2 : 1 ≤ r.r2 - r.r1 + 1 ∧ r.r2 - r.r1 + 1 ≤ 1024 := by omega
  generalize r.c2 - r.c1 + 1 = x at *
  generalize r.r2 - r.r1 + 1 = y at *
  have h3 : 1 * 1 ≤ x * y := Int.mul_le_mul h1.1 h2.1 (by omega) (by omega)
  have h4 : x * y ≤ 1024 * 1024 := Int.mul_le_mul h1.2 h2.2 (by omega) (by omega)
  omega
theorem info_rect : (Tryz.prog.info? 30).map (fun i => (i.zero, i.size, i.bytes)) = some (some (.agg #[.int .i64 0, .int .i64 0, .int .i64 0, .int .i64 0]), 4, 32) := by kernel_rfl

end
section
open Go.RowKit

def minusE (a b : R4) : Int := if checkB a && checkB b then 0 else 3
def minusL (a b : R4) : List R4 := if checkB a && checkB b then restL a b else []

end
end Go.Proofs.YtlngjiibbcgkmaaGreatDoor
