/- The contract of the reference's Area. -/
import Derived.Test.YtkdabfepggehiaaRectW5
namespace Go.Proofs.Ytkdabfepggehiaa
open Go.RowKit

set_option maxRecDepth 100000 in
theorem ref_Area (a1 a2 a3 a4 : Int) (w : World) :
    Calls Try.prog 7 #[.agg #[.int .i64 a1, .int .i64 a2, .int .i64 a3, .int .i64 a4]] w fun e w' => e = .returned (.tuple #[.int .i64 (areaS ⟨a1, a2, a3, a4⟩).1, .int .i64 (areaS ⟨a1, a2, a3, a4⟩).2]) ∧ Below w.heap.size w w' := by
  have hb0 : Below w.heap.size w (w.alloc (.cells #[.int .i64 a1, .int .i64 a2, .int .i64 a3, .int .i64 a4] 23)) := (Below.refl _ _).alloc (Nat.le_refl _) _
  have k0 := Blk.new w 23 #[.int .i64 a1, .int .i64 a2, .int .i64 a3, .int .i64 a4]
  have hz0 : w.heap.size < (w.alloc (.cells #[.int .i64 a1, .int .i64 a2, .int .i64 a3, .int .i64 a4] 23)).heap.size := by simp
  have HB0 := Lib.hid hb0
  have HK := Lib.hid k0
  clear hb0 k0
  go_enter Try.func7, Try.ntmps7
  go_wp2_with fail
  generalize (w.alloc (.cells #[.int .i64 a1, .int .i64 a2, .int .i64 a3, .int .i64 a4] 23)) = W0 at HB0 HK hz0 ⊢
  refine (ref_Check _ _ _ _ _).mono ?_
  rintro e w1 ⟨rfl, hb1⟩
  have k1 := HK.out.below hb1 hz0
  have c0 := k1.cell 0
  have c1 := k1.cell 1
  have c2 := k1.cell 2
  have c3 := k1.cell 3
  simp only [List.getElem?_toArray, List.getElem?_cons_zero, List.getElem?_cons_succ] at c0 c1 c2 c3
  have HB1 := Lib.hid (below_step HB0.out hb1)
  clear hb1 k1 HB0 HK hz0
  have hv1 : checkE ⟨a1, a2, a3, a4⟩ = if checkB ⟨a1, a2, a3, a4⟩ = true then 0 else 3 := rfl
  cases ha : checkB ⟨a1, a2, a3, a4⟩
  · rw [ha] at hv1
    rw [hv1]
    have HA := Lib.hid (areaS_no ha)
    clear ha hv1
    go_wp2_with fail
    refine bodyPost_ret (v := .tuple #[.int .i64 0, .int .i64 3]) (by simp [results, Try.results7, go_sem]) rfl ⟨by rw [HA.out], HB1.out⟩
  · rw [ha] at hv1
    rw [hv1]
    have HA := Lib.hid (areaS_yes ha)
    have hr := (checkB_iff _).1 ha
    have hl := area_le ha
    unfold areaN at hl
    simp only [] at hr hl
    obtain ⟨x1, x2, x3, x4, x5, x6⟩ := hr
    obtain ⟨x7, x8⟩ := hl
    clear ha hv1
    go_wp2_with fail
    refine bodyPost_ret (v := .tuple #[.int .i64 ((a3 - a1 + 1) * (a4 - a2 + 1)), .int .i64 0]) (by simp [results, Try.results7, go_sem]) rfl ⟨by rw [HA.out]; rfl, HB1.out⟩
end Go.Proofs.Ytkdabfepggehiaa
