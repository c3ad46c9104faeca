/- The contract of the laws' small. -/
import Derived.Test.YtkdabfepggehiaaDoorRefR
import Derived.Test.YtkdabfepggehiaaDoorRectIn
namespace Go.Proofs.YtkdabfepggehiaaDoor
open Go.RowKit

def smallB (r : R4) : Bool := checkB r && decide (areaN r ≤ 400)
theorem small_no {r : R4} (h : checkB r = false) : smallB r = false := by unfold smallB; rw [h]; rfl
theorem small_yes {r : R4} (h : checkB r = true) : smallB r = decide (areaN r ≤ 400) := by unfold smallB; rw [h]; rfl
set_option maxRecDepth 100000 in
set_option maxHeartbeats 4000000 in
theorem law_small (a1 a2 a3 a4 : Int) (w : World) :
    Calls Tryd.prog 54 #[.agg #[.int .i64 a1, .int .i64 a2, .int .i64 a3, .int .i64 a4]] w fun e w' => e = .returned (.bool (smallB ⟨a1, a2, a3, a4⟩)) ∧ Below w.heap.size w w' := by
  have H0 := Lib.hid ((Ok.start w).alloc w.heap.size 38 [.int .i64 a1, .int .i64 a2, .int .i64 a3, .int .i64 a4] rfl)
  go_enter Tryd.func54, Tryd.ntmps54
  go_wp2_with fail
  generalize w.alloc (.cells #[.int .i64 a1, .int .i64 a2, .int .i64 a3, .int .i64 a4] 38) = W0 at H0 ⊢
  refine (rect_Check _ _ _ _ _).mono ?_
  rintro e w1 ⟨rfl, hb1⟩
  have H1 := Lib.hid (H0.out.below hb1)
  clear hb1 H0
  have F1 := H1.out.sees
  simp only [sees, kBlk, cellsAt, Nat.reduceAdd] at F1
  obtain ⟨⟨z0, c0, c1, c2, c3, -⟩, -⟩ := F1
  cases ha : checkB ⟨a1, a2, a3, a4⟩
  · rw [checkE_no ha]
    have HS := Lib.hid (small_no ha)
    clear ha
    go_wp2_with fail
    go_ret
    exact ⟨by rw [HS.out]; rfl, H1.out.bel⟩
  · rw [checkE_yes ha]
    have HS := Lib.hid (small_yes ha)
    have hr := (checkB_iff _).1 ha
    have hl := area_le ha
    unfold areaN at hl
    simp only [] at hr hl
    obtain ⟨x1, x2, x3, x4, x5, x6⟩ := hr
    obtain ⟨x7, x8⟩ := hl
    have hmx : a3 ≤ 1024 := by omega
    have hmy : a4 ≤ 1024 := by omega
    clear ha
    go_wp2_with fail
    go_ret
    exact ⟨by rw [HS.out]; rfl, H1.out.bel⟩
end Go.Proofs.YtkdabfepggehiaaDoor
