/- Contracts of Minus, package rect's and the reference's, and of the kit's EqualRects. -/
import Derived.Test.YtkdabfepggehiaaDoorRectW4
import Derived.Deep.RegionHeld3
namespace Go.Proofs.YtkdabfepggehiaaDoor
open Go.RowKit

def minusE (a b : R4) : Int := if checkB a && checkB b then 0 else 3
def minusL (a b : R4) : List R4 := if checkB a && checkB b then restL a b else []

set_option maxRecDepth 100000 in
set_option maxHeartbeats 4000000 in
theorem rect_Minus (a1 a2 a3 a4 b1 b2 b3 b4 : Int) (w : World) :
    Calls Tryd.prog 51 #[.agg #[.int .i64 a1, .int .i64 a2, .int .i64 a3, .int .i64 a4], .agg #[.int .i64 b1, .int .i64 b2, .int .i64 b3, .int .i64 b4]] w fun e w' => ∃ v, e = .returned (.tuple #[v, .int .i64 (minusE ⟨a1, a2, a3, a4⟩ ⟨b1, b2, b3, b4⟩)]) ∧ w'.ownsRow w.heap.size 38 4 v (minusL ⟨a1, a2, a3, a4⟩ ⟨b1, b2, b3, b4⟩).length (rcells (minusL ⟨a1, a2, a3, a4⟩ ⟨b1, b2, b3, b4⟩)) ∧ Below w.heap.size w w' := by
  have hb0 : Below w.heap.size w (((w.alloc (.cells #[.int .i64 a1, .int .i64 a2, .int .i64 a3, .int .i64 a4] 38)).alloc (.cells #[.int .i64 b1, .int .i64 b2, .int .i64 b3, .int .i64 b4] 38)).alloc (.cells #[.int .i64 a1, .int .i64 a2, .int .i64 a3, .int .i64 a4, .int .i64 b1, .int .i64 b2, .int .i64 b3, .int .i64 b4] 38)) := ((((Below.refl _ _).alloc (Nat.le_refl _) _).alloc (by simp; try omega) _).alloc (by simp; try omega) _)
  have K1 : Blk (((w.alloc (.cells #[.int .i64 a1, .int .i64 a2, .int .i64 a3, .int .i64 a4] 38)).alloc (.cells #[.int .i64 b1, .int .i64 b2, .int .i64 b3, .int .i64 b4] 38)).alloc (.cells #[.int .i64 a1, .int .i64 a2, .int .i64 a3, .int .i64 a4, .int .i64 b1, .int .i64 b2, .int .i64 b3, .int .i64 b4] 38)) w.heap.size 38 #[.int .i64 a1, .int .i64 a2, .int .i64 a3, .int .i64 a4] := by
    have := (((Blk.new w 38 #[.int .i64 a1, .int .i64 a2, .int .i64 a3, .int .i64 a4]).alloc (.cells #[.int .i64 b1, .int .i64 b2, .int .i64 b3, .int .i64 b4] 38)).alloc (.cells #[.int .i64 a1, .int .i64 a2, .int .i64 a3, .int .i64 a4, .int .i64 b1, .int .i64 b2, .int .i64 b3, .int .i64 b4] 38))
    simpa using this
  have K2 : Blk (((w.alloc (.cells #[.int .i64 a1, .int .i64 a2, .int .i64 a3, .int .i64 a4] 38)).alloc (.cells #[.int .i64 b1, .int .i64 b2, .int .i64 b3, .int .i64 b4] 38)).alloc (.cells #[.int .i64 a1, .int .i64 a2, .int .i64 a3, .int .i64 a4, .int .i64 b1, .int .i64 b2, .int .i64 b3, .int .i64 b4] 38)) (w.heap.size + 1) 38 #[.int .i64 b1, .int .i64 b2, .int .i64 b3, .int .i64 b4] := by
    have := ((Blk.new (w.alloc (.cells #[.int .i64 a1, .int .i64 a2, .int .i64 a3, .int .i64 a4] 38)) 38 #[.int .i64 b1, .int .i64 b2, .int .i64 b3, .int .i64 b4]).alloc (.cells #[.int .i64 a1, .int .i64 a2, .int .i64 a3, .int .i64 a4, .int .i64 b1, .int .i64 b2, .int .i64 b3, .int .i64 b4] 38))
    simpa using this
  have K3 : Blk (((w.alloc (.cells #[.int .i64 a1, .int .i64 a2, .int .i64 a3, .int .i64 a4] 38)).alloc (.cells #[.int .i64 b1, .int .i64 b2, .int .i64 b3, .int .i64 b4] 38)).alloc (.cells #[.int .i64 a1, .int .i64 a2, .int .i64 a3, .int .i64 a4, .int .i64 b1, .int .i64 b2, .int .i64 b3, .int .i64 b4] 38)) (w.heap.size + 1 + 1) 38 #[.int .i64 a1, .int .i64 a2, .int .i64 a3, .int .i64 a4, .int .i64 b1, .int .i64 b2, .int .i64 b3, .int .i64 b4] := by
    have := (Blk.new ((w.alloc (.cells #[.int .i64 a1, .int .i64 a2, .int .i64 a3, .int .i64 a4] 38)).alloc (.cells #[.int .i64 b1, .int .i64 b2, .int .i64 b3, .int .i64 b4] 38)) 38 #[.int .i64 a1, .int .i64 a2, .int .i64 a3, .int .i64 a4, .int .i64 b1, .int .i64 b2, .int .i64 b3, .int .i64 b4])
    simpa using this
  have hz0 : w.heap.size + 1 + 1 < (((w.alloc (.cells #[.int .i64 a1, .int .i64 a2, .int .i64 a3, .int .i64 a4] 38)).alloc (.cells #[.int .i64 b1, .int .i64 b2, .int .i64 b3, .int .i64 b4] 38)).alloc (.cells #[.int .i64 a1, .int .i64 a2, .int .i64 a3, .int .i64 a4, .int .i64 b1, .int .i64 b2, .int .i64 b3, .int .i64 b4] 38)).heap.size := by simp
  have hr : IsRects (((w.alloc (.cells #[.int .i64 a1, .int .i64 a2, .int .i64 a3, .int .i64 a4] 38)).alloc (.cells #[.int .i64 b1, .int .i64 b2, .int .i64 b3, .int .i64 b4] 38)).alloc (.cells #[.int .i64 a1, .int .i64 a2, .int .i64 a3, .int .i64 a4, .int .i64 b1, .int .i64 b2, .int .i64 b3, .int .i64 b4] 38)) (((w.alloc (.cells #[.int .i64 a1, .int .i64 a2, .int .i64 a3, .int .i64 a4] 38)).alloc (.cells #[.int .i64 b1, .int .i64 b2, .int .i64 b3, .int .i64 b4] 38)).alloc (.cells #[.int .i64 a1, .int .i64 a2, .int .i64 a3, .int .i64 a4, .int .i64 b1, .int .i64 b2, .int .i64 b3, .int .i64 b4] 38)).heap.size (some ⟨w.heap.size + 1 + 1, 0, none⟩) 2 (three ⟨a1, a2, a3, a4⟩ ⟨b1, b2, b3, b4⟩ ⟨b1, b2, b3, b4⟩) := rects_of_blk _ K3 (by
    intro i j hi hj
    rcases (show i = 0 ∨ i = 1 from by omega) with rfl | rfl <;> rcases (show j = 0 ∨ j = 1 ∨ j = 2 ∨ j = 3 from by omega) with rfl | rfl | rfl | rfl <;> rfl)
  have hal : allB (three ⟨a1, a2, a3, a4⟩ ⟨b1, b2, b3, b4⟩ ⟨b1, b2, b3, b4⟩) 2 = (checkB ⟨a1, a2, a3, a4⟩ && checkB ⟨b1, b2, b3, b4⟩) := by simp [allB, three]
  have HB0 := Lib.hid hb0
  have HK1 := Lib.hid K1
  have HK2 := Lib.hid K2
  have HR := Lib.hid hr
  have HAL := Lib.hid hal
  clear hb0 K1 K2 K3 hr hal
  go_enter Tryd.func51, Tryd.ntmps51
  go_wp2_with fail
  generalize (((w.alloc (.cells #[.int .i64 a1, .int .i64 a2, .int .i64 a3, .int .i64 a4] 38)).alloc (.cells #[.int .i64 b1, .int .i64 b2, .int .i64 b3, .int .i64 b4] 38)).alloc (.cells #[.int .i64 a1, .int .i64 a2, .int .i64 a3, .int .i64 a4, .int .i64 b1, .int .i64 b2, .int .i64 b3, .int .i64 b4] 38)) = W0 at HB0 HK1 HK2 HR hz0 ⊢
  refine (rect_all _ _ _ _ _ (by omega) HR.out).mono ?_
  rintro e w1 ⟨rfl, hb1⟩
  rw [HAL.out]
  have k1 := HK1.out.below hb1 (by omega)
  have k2 := HK2.out.below hb1 (by omega)
  have c0 := k1.cell 0
  have c1 := k1.cell 1
  have c2 := k1.cell 2
  have c3 := k1.cell 3
  simp only [List.getElem?_toArray, List.getElem?_cons_zero, List.getElem?_cons_succ] at c0 c1 c2 c3
  have d0 := k2.cell 0
  have d1 := k2.cell 1
  have d2 := k2.cell 2
  have d3 := k2.cell 3
  simp only [List.getElem?_toArray, List.getElem?_cons_zero, List.getElem?_cons_succ] at d0 d1 d2 d3
  have HB1 := Lib.hid (below_step HB0.out hb1)
  clear hb1 k1 k2 HB0 HK1 HK2 HR hz0 HAL
  cases hv : (checkB ⟨a1, a2, a3, a4⟩ && checkB ⟨b1, b2, b3, b4⟩)
  · have HE : Hid (minusE ⟨a1, a2, a3, a4⟩ ⟨b1, b2, b3, b4⟩ = 3) := by show _ = _; unfold minusE; rw [hv]; rfl
    have HL : Hid (minusL ⟨a1, a2, a3, a4⟩ ⟨b1, b2, b3, b4⟩ = []) := by show _ = _; unfold minusL; rw [hv]; rfl
    clear hv
    go_wp2_with fail
    refine bodyPost_ret (v := .tuple #[.slice none 0 0, .int .i64 3]) (by simp [results, Tryd.results51, go_sem]) rfl ⟨_, by rw [HE.out], ?_, HB1.out⟩
    rw [HL.out]
    simpa [rcells] using World.ownsRow_nil w1 w.heap.size 38 4
  · have HE : Hid (minusE ⟨a1, a2, a3, a4⟩ ⟨b1, b2, b3, b4⟩ = 0) := by show _ = _; unfold minusE; rw [hv]; rfl
    have HL : Hid (minusL ⟨a1, a2, a3, a4⟩ ⟨b1, b2, b3, b4⟩ = restL ⟨a1, a2, a3, a4⟩ ⟨b1, b2, b3, b4⟩) := by show _ = _; unfold minusL; rw [hv]; rfl
    have hva : checkB ⟨a1, a2, a3, a4⟩ = true := by simp only [Bool.and_eq_true] at hv; exact hv.1
    have HVA := Lib.hid hva
    clear hv hva
    go_wp2_with fail
    refine (rect_rest _ _ _ _ _ _ _ _ _ HVA.out).mono ?_
    rintro e w2 ⟨v, rfl, hown, hb2⟩
    have HO := Lib.hid hown
    have HB2 := Lib.hid (below_step HB1.out hb2)
    have hsz := HB1.out.size
    clear hown hb2
    go_wp2_with fail
    refine bodyPost_ret (v := .tuple #[v, .int .i64 0]) (by simp [results, Tryd.results51, go_sem]) rfl ⟨_, by rw [HE.out], ?_, HB2.out⟩
    rw [HL.out]
    exact HO.out.mono hsz

set_option maxRecDepth 100000 in
set_option maxHeartbeats 4000000 in
theorem ref_Minus (a1 a2 a3 a4 b1 b2 b3 b4 : Int) (w : World) :
    Calls Tryd.prog 71 #[.agg #[.int .i64 a1, .int .i64 a2, .int .i64 a3, .int .i64 a4], .agg #[.int .i64 b1, .int .i64 b2, .int .i64 b3, .int .i64 b4]] w fun e w' => ∃ v, e = .returned (.tuple #[v, .int .i64 (minusE ⟨a1, a2, a3, a4⟩ ⟨b1, b2, b3, b4⟩)]) ∧ w'.ownsRow w.heap.size 38 4 v (minusL ⟨a1, a2, a3, a4⟩ ⟨b1, b2, b3, b4⟩).length (rcells (minusL ⟨a1, a2, a3, a4⟩ ⟨b1, b2, b3, b4⟩)) ∧ Below w.heap.size w w' := by
  have hb0 : Below w.heap.size w ((w.alloc (.cells #[.int .i64 a1, .int .i64 a2, .int .i64 a3, .int .i64 a4] 38)).alloc (.cells #[.int .i64 b1, .int .i64 b2, .int .i64 b3, .int .i64 b4] 38)) := (((Below.refl _ _).alloc (Nat.le_refl _) _).alloc (by simp; try omega) _)
  have K1 : Blk ((w.alloc (.cells #[.int .i64 a1, .int .i64 a2, .int .i64 a3, .int .i64 a4] 38)).alloc (.cells #[.int .i64 b1, .int .i64 b2, .int .i64 b3, .int .i64 b4] 38)) w.heap.size 38 #[.int .i64 a1, .int .i64 a2, .int .i64 a3, .int .i64 a4] := (Blk.new w 38 #[.int .i64 a1, .int .i64 a2, .int .i64 a3, .int .i64 a4]).alloc (.cells #[.int .i64 b1, .int .i64 b2, .int .i64 b3, .int .i64 b4] 38)
  have K2 : Blk ((w.alloc (.cells #[.int .i64 a1, .int .i64 a2, .int .i64 a3, .int .i64 a4] 38)).alloc (.cells #[.int .i64 b1, .int .i64 b2, .int .i64 b3, .int .i64 b4] 38)) (w.heap.size + 1) 38 #[.int .i64 b1, .int .i64 b2, .int .i64 b3, .int .i64 b4] := by
    have := (Blk.new (w.alloc (.cells #[.int .i64 a1, .int .i64 a2, .int .i64 a3, .int .i64 a4] 38)) 38 #[.int .i64 b1, .int .i64 b2, .int .i64 b3, .int .i64 b4])
    simpa using this
  have hz0 : w.heap.size + 1 < ((w.alloc (.cells #[.int .i64 a1, .int .i64 a2, .int .i64 a3, .int .i64 a4] 38)).alloc (.cells #[.int .i64 b1, .int .i64 b2, .int .i64 b3, .int .i64 b4] 38)).heap.size := by simp
  have HB0 := Lib.hid hb0
  have HK1 := Lib.hid K1
  have HK2 := Lib.hid K2
  clear hb0 K1 K2
  generalize hM : meetS ⟨a1, a2, a3, a4⟩ ⟨b1, b2, b3, b4⟩ = M
  have hM2 : meets ⟨a1, a2, a3, a4⟩ ⟨b1, b2, b3, b4⟩ = true → checkB M = true := by
    intro h
    rw [← hM, meetS_yes h]
    unfold meets at h
    simp only [Bool.and_eq_true] at h
    exact h.2
  have hrest : restL ⟨a1, a2, a3, a4⟩ ⟨b1, b2, b3, b4⟩ = if meets ⟨a1, a2, a3, a4⟩ ⟨b1, b2, b3, b4⟩ = true then restM ⟨a1, a2, a3, a4⟩ M else [⟨a1, a2, a3, a4⟩] := by rw [← hM]; rfl
  obtain ⟨L, hL⟩ : ∃ L, minusL ⟨a1, a2, a3, a4⟩ ⟨b1, b2, b3, b4⟩ = L := ⟨_, rfl⟩
  obtain ⟨E, hE⟩ : ∃ E, minusE ⟨a1, a2, a3, a4⟩ ⟨b1, b2, b3, b4⟩ = E := ⟨_, rfl⟩
  obtain ⟨m1, m2, m3, m4⟩ := M
  have HM := Lib.hid hM
  have HR := Lib.hid hrest
  have HM2 := Lib.hid hM2
  have HLL := Lib.hid hL
  have HEE := Lib.hid hE
  clear hM hrest hM2 hL hE
  go_enter Tryd.func71, Tryd.ntmps71
  go_wp2_with fail
  generalize ((w.alloc (.cells #[.int .i64 a1, .int .i64 a2, .int .i64 a3, .int .i64 a4] 38)).alloc (.cells #[.int .i64 b1, .int .i64 b2, .int .i64 b3, .int .i64 b4] 38)) = W0 at HB0 HK1 HK2 hz0 ⊢
  refine (ref_Check _ _ _ _ _).mono ?_
  rintro e w1 ⟨rfl, hb1⟩
  have k1 := HK1.out.below hb1 (by omega)
  have k2 := HK2.out.below hb1 (by omega)
  have c0 := k1.cell 0
  have c1 := k1.cell 1
  have c2 := k1.cell 2
  have c3 := k1.cell 3
  simp only [List.getElem?_toArray, List.getElem?_cons_zero, List.getElem?_cons_succ] at c0 c1 c2 c3
  have d0 := k2.cell 0
  have d1 := k2.cell 1
  have d2 := k2.cell 2
  have d3 := k2.cell 3
  simp only [List.getElem?_toArray, List.getElem?_cons_zero, List.getElem?_cons_succ] at d0 d1 d2 d3
  have hz1 : w.heap.size + 1 < w1.heap.size := by have := hb1.size; omega
  have HB1 := Lib.hid (below_step HB0.out hb1)
  have HK1' := Lib.hid k1
  have HK2' := Lib.hid k2
  clear hb1 k1 k2 HB0 HK1 HK2 hz0
  have hv1 : checkE ⟨a1, a2, a3, a4⟩ = if checkB ⟨a1, a2, a3, a4⟩ = true then 0 else 3 := rfl
  cases ha : checkB ⟨a1, a2, a3, a4⟩
  · rw [ha] at hv1
    rw [hv1]
    have HE : Hid (E = 3) := by show _ = _; rw [← HEE.out]; unfold minusE; rw [ha]; rfl
    have HL : Hid (L = []) := by show _ = _; rw [← HLL.out]; unfold minusL; rw [ha]; rfl
    clear ha hv1 HR HM2
    go_wp2_with fail
    refine bodyPost_ret (v := .tuple #[.slice none 0 0, .int .i64 3]) (by simp [results, Tryd.results71, go_sem]) rfl ⟨_, by rw [HEE.out, HE.out], ?_, HB1.out⟩
    rw [HLL.out, HL.out]
    simpa [rcells] using World.ownsRow_nil w1 w.heap.size 38 4
  · rw [ha] at hv1
    rw [hv1]
    have HA := Lib.hid ha
    have hA := (checkB_iff _).1 ha
    simp only [] at hA
    clear ha hv1
    go_wp2_with fail
    refine (ref_Check _ _ _ _ _).mono ?_
    rintro e w2 ⟨rfl, hb2⟩
    clear c0 c1 c2 c3 d0 d1 d2 d3
    have k1 := HK1'.out.below hb2 (by omega)
    have k2 := HK2'.out.below hb2 (by omega)
    have c0 := k1.cell 0
    have c1 := k1.cell 1
    have c2 := k1.cell 2
    have c3 := k1.cell 3
    simp only [List.getElem?_toArray, List.getElem?_cons_zero, List.getElem?_cons_succ] at c0 c1 c2 c3
    have d0 := k2.cell 0
    have d1 := k2.cell 1
    have d2 := k2.cell 2
    have d3 := k2.cell 3
    simp only [List.getElem?_toArray, List.getElem?_cons_zero, List.getElem?_cons_succ] at d0 d1 d2 d3
    have hz2 : w.heap.size + 1 < w2.heap.size := by have := hb2.size; omega
    have HB2 := Lib.hid (below_step HB1.out hb2)
    have HK1 := Lib.hid k1
    clear hb2 k1 k2 HB1 HK1' HK2' hz1
    have hv1 : checkE ⟨b1, b2, b3, b4⟩ = if checkB ⟨b1, b2, b3, b4⟩ = true then 0 else 3 := rfl
    cases ha : checkB ⟨b1, b2, b3, b4⟩
    · rw [ha] at hv1
      rw [hv1]
      have HE : Hid (E = 3) := by show _ = _; rw [← HEE.out]; unfold minusE; rw [ha, Bool.and_false]; rfl
      have HL : Hid (L = []) := by show _ = _; rw [← HLL.out]; unfold minusL; rw [ha, Bool.and_false]; rfl
      clear ha hv1 HR HM2
      go_wp2_with fail
      refine bodyPost_ret (v := .tuple #[.slice none 0 0, .int .i64 3]) (by simp [results, Tryd.results71, go_sem]) rfl ⟨_, by rw [HEE.out, HE.out], ?_, HB2.out⟩
      rw [HLL.out, HL.out]
      simpa [rcells] using World.ownsRow_nil w2 w.heap.size 38 4
    · rw [ha] at hv1
      rw [hv1]
      have HE : Hid (E = 0) := by show _ = _; rw [← HEE.out]; unfold minusE; rw [HA.out, ha]; rfl
      have HL : Hid (L = restL ⟨a1, a2, a3, a4⟩ ⟨b1, b2, b3, b4⟩) := by show _ = _; rw [← HLL.out]; unfold minusL; rw [HA.out, ha]; rfl
      clear ha hv1
      go_wp2_with fail
      refine (ref_Meet _ _ _ _ _ _ _ _ _).mono ?_
      rintro e w3 ⟨rfl, hb3⟩
      rw [HM.out]
      clear c0 c1 c2 c3 d0 d1 d2 d3
      have k1 := HK1.out.below hb3 (by omega)
      have c0 := k1.cell 0
      have c1 := k1.cell 1
      have c2 := k1.cell 2
      have c3 := k1.cell 3
      simp only [List.getElem?_toArray, List.getElem?_cons_zero, List.getElem?_cons_succ] at c0 c1 c2 c3
      have hz3 : w.heap.size < w3.heap.size := by have := hb3.size; omega
      have HB3 := Lib.hid (below_step HB2.out hb3)
      clear hb3 k1 HB2 hz2 HK1
      cases hv : meets ⟨a1, a2, a3, a4⟩ ⟨b1, b2, b3, b4⟩
      · have HL2 : Hid (L = [⟨a1, a2, a3, a4⟩]) := by show _ = _; rw [HL.out, HR.out, hv]; rfl
        clear hv HR HM2 HL
        go_wp2_with fail
        try simp only [Exit.inBlock, Exit.then]
        refine bodyPost_ret (v := .tuple #[.slice (some ⟨w3.heap.size + 1, 0, none⟩) 1 1, .int .i64 0]) (by simp [results, Tryd.results71, go_sem]) rfl ⟨_, by rw [HEE.out, HE.out], ?_, (HB3.out.alloc HB3.out.size _).alloc (by simp; omega) _⟩
        rw [HLL.out, HL2.out]
        have := World.ownsRow_lit (base := w.heap.size) (size := 4) (e := 38) (w3.alloc (.cells #[.int .i64 m1, .int .i64 m2, .int .i64 m3, .int .i64 m4] 38)) #[.int .i64 a1, .int .i64 a2, .int .i64 a3, .int .i64 a4] 1 (by simp; omega) (by decide) rfl
        simpa [rcells] using this
      · have HL2 : Hid (L = restM ⟨a1, a2, a3, a4⟩ ⟨m1, m2, m3, m4⟩) := by show _ = _; rw [HL.out, HR.out, hv]; rfl
        have hB := (checkB_iff _).1 (HM2.out hv)
        simp only [] at hB
        clear hv HR HM2 HL
        have hb2 : Below w.heap.size w ((w3.alloc (.cells #[.int .i64 m1, .int .i64 m2, .int .i64 m3, .int .i64 m4] 38)).alloc (.cells #[.int .i64 a1, .int .i64 a2, .int .i64 a3, .int .i64 (m2 - 1), .int .i64 a1, .int .i64 m2, .int .i64 (m1 - 1), .int .i64 m4, .int .i64 (m3 + 1), .int .i64 m2, .int .i64 a3, .int .i64 m4, .int .i64 a1, .int .i64 (m4 + 1), .int .i64 a3, .int .i64 a4] 38)) := (HB3.out.alloc HB3.out.size _).alloc (by simp; omega) _
        have kl : Blk ((w3.alloc (.cells #[.int .i64 m1, .int .i64 m2, .int .i64 m3, .int .i64 m4] 38)).alloc (.cells #[.int .i64 a1, .int .i64 a2, .int .i64 a3, .int .i64 (m2 - 1), .int .i64 a1, .int .i64 m2, .int .i64 (m1 - 1), .int .i64 m4, .int .i64 (m3 + 1), .int .i64 m2, .int .i64 a3, .int .i64 m4, .int .i64 a1, .int .i64 (m4 + 1), .int .i64 a3, .int .i64 a4] 38)) (w3.heap.size + 1) 38 #[.int .i64 a1, .int .i64 a2, .int .i64 a3, .int .i64 (m2 - 1), .int .i64 a1, .int .i64 m2, .int .i64 (m1 - 1), .int .i64 m4, .int .i64 (m3 + 1), .int .i64 m2, .int .i64 a3, .int .i64 m4, .int .i64 a1, .int .i64 (m4 + 1), .int .i64 a3, .int .i64 a4] := by
          have := Blk.new (w3.alloc (.cells #[.int .i64 m1, .int .i64 m2, .int .i64 m3, .int .i64 m4] 38)) 38 #[.int .i64 a1, .int .i64 a2, .int .i64 a3, .int .i64 (m2 - 1), .int .i64 a1, .int .i64 m2, .int .i64 (m1 - 1), .int .i64 m4, .int .i64 (m3 + 1), .int .i64 m2, .int .i64 a3, .int .i64 m4, .int .i64 a1, .int .i64 (m4 + 1), .int .i64 a3, .int .i64 a4]
          simpa using this
        have hl : IsRects ((w3.alloc (.cells #[.int .i64 m1, .int .i64 m2, .int .i64 m3, .int .i64 m4] 38)).alloc (.cells #[.int .i64 a1, .int .i64 a2, .int .i64 a3, .int .i64 (m2 - 1), .int .i64 a1, .int .i64 m2, .int .i64 (m1 - 1), .int .i64 m4, .int .i64 (m3 + 1), .int .i64 m2, .int .i64 a3, .int .i64 m4, .int .i64 a1, .int .i64 (m4 + 1), .int .i64 a3, .int .i64 a4] 38)) ((w3.alloc (.cells #[.int .i64 m1, .int .i64 m2, .int .i64 m3, .int .i64 m4] 38)).alloc (.cells #[.int .i64 a1, .int .i64 a2, .int .i64 a3, .int .i64 (m2 - 1), .int .i64 a1, .int .i64 m2, .int .i64 (m1 - 1), .int .i64 m4, .int .i64 (m3 + 1), .int .i64 m2, .int .i64 a3, .int .i64 m4, .int .i64 a1, .int .i64 (m4 + 1), .int .i64 a3, .int .i64 a4] 38)).heap.size (some ⟨w3.heap.size + 1, 0, none⟩) 4 (fun i => (restParts ⟨a1, a2, a3, a4⟩ ⟨m1, m2, m3, m4⟩).getD i R4.zero) := rects_of_blk _ kl (by
          intro i j hi hj
          have := rcells_at (restParts ⟨a1, a2, a3, a4⟩ ⟨m1, m2, m3, m4⟩) R4.zero i j hi hj
          simpa [restParts, rcells] using this)
        have hz2 : w.heap.size ≤ ((w3.alloc (.cells #[.int .i64 m1, .int .i64 m2, .int .i64 m3, .int .i64 m4] 38)).alloc (.cells #[.int .i64 a1, .int .i64 a2, .int .i64 a3, .int .i64 (m2 - 1), .int .i64 a1, .int .i64 m2, .int .i64 (m1 - 1), .int .i64 m4, .int .i64 (m3 + 1), .int .i64 m2, .int .i64 a3, .int .i64 m4, .int .i64 a1, .int .i64 (m4 + 1), .int .i64 a3, .int .i64 a4] 38)).heap.size := hb2.size
        have HB2 := Lib.hid hb2
        have HLR := Lib.hid hl
        clear hb2 kl hl
        generalize hPL : restParts ⟨a1, a2, a3, a4⟩ ⟨m1, m2, m3, m4⟩ = PL at HLR
        have hPL4 : PL.length = 4 := by rw [← hPL]; rfl
        have hLP : L = PL.filter fine := by rw [HL2.out, ← hPL]; rfl
        have HLP := Lib.hid hLP
        have HP4 := Lib.hid hPL4
        clear hLP hPL4 hPL HL2
        go_wp2_with fail
        generalize hW : ((w3.alloc (.cells #[.int .i64 m1, .int .i64 m2, .int .i64 m3, .int .i64 m4] 38)).alloc (.cells #[.int .i64 a1, .int .i64 a2, .int .i64 a3, .int .i64 (m2 - 1), .int .i64 a1, .int .i64 m2, .int .i64 (m1 - 1), .int .i64 m4, .int .i64 (m3 + 1), .int .i64 m2, .int .i64 a3, .int .i64 m4, .int .i64 a1, .int .i64 (m4 + 1), .int .i64 a3, .int .i64 a4] 38)) = W1 at HB2 HLR hz2 ⊢
        have hsz1 : w3.heap.size + 1 < W1.heap.size := by rw [← hW]; simp
        clear hW c0 c1 c2 c3
        obtain ⟨i0, hi, hz0, hz1, hzb⟩ := info_parts info_rect
        go_loopw [9, 10] (fun ov iv wr => ∃ k : Nat, k ≤ 4 ∧ iv = .int .i64 k ∧ Hid (wr.ownsRow W1.heap.size 38 4 ov ((PL.take k).filter fine).length (rcells ((PL.take k).filter fine))) ∧ Hid (Below W1.heap.size W1 wr)) (fun _ iv _ => 4 - (intOf iv).toNat)
        case atStart => exact ⟨0, by omega, rfl, by show World.ownsRow _ _ _ _ _ _ _; simpa [rcells] using World.ownsRow_nil W1 W1.heap.size 38 4, Below.refl _ _⟩
        case round =>
          obtain ⟨k, hk, rfl, H1, H2⟩ := hrel
          by_cases hlt : k < 4
          · obtain ⟨b, off, hbo, hB, hc⟩ := HLR.out.spot (by omega)
            obtain ⟨rfl, rfl⟩ : w3.heap.size + 1 = b ∧ 0 = off := by simpa using hbo
            obtain ⟨c0', c1', c2', c3'⟩ := hc k hlt
            have c0 := (H2.out.cell (p := ⟨w3.heap.size + 1, 0 + k * 4, none⟩) hsz1).trans c0'
            have c1 := (H2.out.cell (p := ⟨w3.heap.size + 1, 0 + k * 4 + 1, none⟩) hsz1).trans c1'
            have c2 := (H2.out.cell (p := ⟨w3.heap.size + 1, 0 + k * 4 + 2, none⟩) hsz1).trans c2'
            have c3 := (H2.out.cell (p := ⟨w3.heap.size + 1, 0 + k * 4 + 3, none⟩) hsz1).trans c3'
            clear c0' c1' c2' c3' hc hbo
            simp only [Nat.zero_add] at c0 c1 c2 c3
            have htk : PL.take (k + 1) = PL.take k ++ [PL.getD k R4.zero] := by
              rw [List.take_succ_eq_append_getElem (by rw [HP4.out]; exact hlt), List.getD_eq_getElem?_getD, List.getElem?_eq_getElem (by rw [HP4.out]; exact hlt), Option.getD_some]
            generalize PL.getD k R4.zero = r at c0 c1 c2 c3 htk
            obtain ⟨x1, y1, x2, y2⟩ := r
            simp only [] at c0 c1 c2 c3
            have HTK := Lib.hid htk
            clear htk
            rcases (show (x1 ≤ x2 ∧ y1 ≤ y2) ∨ ¬ x1 ≤ x2 ∨ (x1 ≤ x2 ∧ ¬ y1 ≤ y2) from by omega) with ⟨g1, g2⟩ | g1 | ⟨g1, g2⟩
            · have hf : (PL.take (k + 1)).filter fine = (PL.take k).filter fine ++ [⟨x1, y1, x2, y2⟩] := by rw [HTK.out, List.filter_append]; simp [fine, g1, g2]
              have HF := Lib.hid hf
              clear hf
              have hlen : ((PL.take k).filter fine).length ≤ 4 := Nat.le_trans (List.length_filter_le _ _) (by simp; omega)
              generalize hPF : (PL.take k).filter fine = PF at H1 hlen HF
              have HPF := Lib.hid hPF
              clear hPF
              go_wp2_with fail
              have HOd : Hid (wr.drew.ownsRow W1.heap.size 38 4 u9 PF.length (rcells PF)) := H1.out
              have HBd : Hid (Below W1.heap.size W1 wr.drew) := H2.out.drew
              have HBK := H2
              have HA' := Lib.hid hA
              have HB' := Lib.hid hB
              clear H1 H2 hA hB
              (first | go_region_held3 (fun w' => w'.cell? ⟨w3.heap.size + 1, k * 4, none⟩ = some (.int .i64 x1) ∧ w'.cell? ⟨w3.heap.size + 1, k * 4 + 1, none⟩ = some (.int .i64 y1) ∧ w'.cell? ⟨w3.heap.size + 1, k * 4 + 2, none⟩ = some (.int .i64 x2) ∧ w'.cell? ⟨w3.heap.size + 1, k * 4 + 3, none⟩ = some (.int .i64 y2)) (go_keep) (fail) | fail)
              have H1 : Hid (wr.ownsRow W1.heap.size 38 4 u9 PF.length (rcells PF)) := HOd
              have H2 : Hid (Below W1.heap.size W1 wr) := HBK
              clear HBK
              clear HOd HBd
              go_wp2_with (at_builtin; refine wpList_append_lies _ rfl _ _ _ rfl W1.heap.size 38 i0 _ 4 32 Tryd.underlying57 hi hz0 hz1 hzb rfl (by omega) _ _ _ rfl ((H1.out.alloc _).drew) ⟨wr.heap.size, 0, none⟩ 1 1 [.int .i64 x1, .int .i64 y1, .int .i64 x2, .int .i64 y2] rfl rfl (World.news_of_block (cs := #[.int .i64 x1, .int .i64 y1, .int .i64 x2, .int .i64 y2]) (t := 38) (fr := (0, 0)) (heap_alloc_new _ _)) (by intro u hu; simp at hu; rcases hu with rfl | rfl | rfl | rfl <;> rfl) (by omega) (by unfold maxLen; omega) (by omega) (by have := H2.out.size; simp; omega) _ rfl ?_; intro g cap w7 hown3 hgrow3 hat3 hlt3)
              refine ⟨⟨k + 1, by omega, by go_num, ?_, ?_⟩, by simp [intOf] <;> omega⟩
              · rw [HF.out]
                show World.ownsRow _ _ _ _ _ _ _
                simpa [rcells] using hown3
              · exact Below.grown (B := W1.heap.size) (H2.out.alloc H2.out.size _).drew hgrow3 (by have := H2.out.size; simp; omega) (fun k hk => (H1.out.lt k hk).1)
            · have hf : (PL.take (k + 1)).filter fine = (PL.take k).filter fine := by rw [HTK.out, List.filter_append]; simp [fine, g1]
              have HF := Lib.hid hf
              clear hf
              have g1b : decide (x1 ≤ x2) = false := decide_eq_false g1
              have g1c : x2 < x1 := by omega
              go_wp2_with fail
              have HOd : Hid (wr.drew.ownsRow W1.heap.size 38 4 u9 ((PL.take k).filter fine).length (rcells ((PL.take k).filter fine))) := H1.out
              have HBd : Hid (Below W1.heap.size W1 wr.drew) := H2.out.drew
              have HBK := H2
              have HA' := Lib.hid hA
              have HB' := Lib.hid hB
              clear H1 H2 hA hB
              refine wp_region_held_drew (S := (fun w' => w'.cell? ⟨w3.heap.size + 1, k * 4, none⟩ = some (.int .i64 x1) ∧ w'.cell? ⟨w3.heap.size + 1, k * 4 + 1, none⟩ = some (.int .i64 y1) ∧ w'.cell? ⟨w3.heap.size + 1, k * 4 + 2, none⟩ = some (.int .i64 x2) ∧ w'.cell? ⟨w3.heap.size + 1, k * 4 + 3, none⟩ = some (.int .i64 y2))) (by kernel_rfl) ⟨c0, c1, c2, c3⟩ (fun hHeld => ?_)
              first
                | (refine wpAnyH_take (i := 0) (v := undef) rfl (by kernel_rfl) (by kernel_rfl) (by kernel_rfl) (fun _ _ _ h => h) (Or.inr ⟨by rfl, rfl⟩) (by assumption) ?_; try simp only [Act.put, List.setIfInBounds_toArray, List.set_cons_zero, List.set_cons_succ, List.getElem_toArray, List.getElem_cons_zero])
                | (refine wpAnyH_take (i := 0) (v := ?v0) rfl (by kernel_rfl) (by kernel_rfl) (by kernel_rfl) (fun _ _ _ h => h) (Or.inl ⟨by rfl, ?hy0⟩) (by assumption) ?rest0; (case hy0 => (intro w hSw; (try dsimp only at hSw); go_simp; try with_reducible rfl)); try simp only [Act.put, List.setIfInBounds_toArray, List.set_cons_zero, List.set_cons_succ, List.getElem_toArray, List.getElem_cons_zero])
                | fail "take 0"
              first
                | (refine wpAnyH_take (i := 1) (v := undef) rfl (by kernel_rfl) (by kernel_rfl) (by kernel_rfl) (fun _ _ _ h => h) (Or.inr ⟨by rfl, rfl⟩) (by assumption) ?_; try simp only [Act.put, List.setIfInBounds_toArray, List.set_cons_zero, List.set_cons_succ, List.getElem_toArray, List.getElem_cons_succ, List.getElem_cons_zero])
                | (refine wpAnyH_take (i := 1) (v := ?v1) rfl (by kernel_rfl) (by kernel_rfl) (by kernel_rfl) (fun _ _ _ h => h) (Or.inl ⟨by rfl, ?hy1⟩) (by assumption) ?rest1; (case hy1 => (intro w hSw; (try dsimp only at hSw); go_simp; try with_reducible rfl)); try simp only [Act.put, List.setIfInBounds_toArray, List.set_cons_zero, List.set_cons_succ, List.getElem_toArray, List.getElem_cons_succ, List.getElem_cons_zero])
                | fail "take 1"
              first
                | (refine wpAnyH_take (i := 2) (v := undef) rfl (by kernel_rfl) (by kernel_rfl) (by kernel_rfl) (fun _ _ _ h => h) (Or.inr ⟨by rfl, rfl⟩) (by assumption) ?_; try simp only [Act.put, List.setIfInBounds_toArray, List.set_cons_zero, List.set_cons_succ, List.getElem_toArray, List.getElem_cons_succ, List.getElem_cons_zero])
                | (refine wpAnyH_take (i := 2) (v := ?v2) rfl (by kernel_rfl) (by kernel_rfl) (by kernel_rfl) (fun _ _ _ h => h) (Or.inl ⟨by rfl, ?hy2⟩) (by assumption) ?rest2; (case hy2 => (intro w hSw; (try dsimp only at hSw); go_simp; try with_reducible rfl)); try simp only [Act.put, List.setIfInBounds_toArray, List.set_cons_zero, List.set_cons_succ, List.getElem_toArray, List.getElem_cons_succ, List.getElem_cons_zero])
                | fail "take 2"
              first
                | (refine wpAnyH_take (i := 3) (v := undef) rfl (by kernel_rfl) (by kernel_rfl) (by kernel_rfl) (fun _ _ _ h => h) (Or.inr ⟨by rfl, rfl⟩) (by assumption) ?_; try simp only [Act.put, List.setIfInBounds_toArray, List.set_cons_zero, List.set_cons_succ, List.getElem_toArray, List.getElem_cons_succ, List.getElem_cons_zero])
                | (refine wpAnyH_take (i := 3) (v := ?v3) rfl (by kernel_rfl) (by kernel_rfl) (by kernel_rfl) (fun _ _ _ h => h) (Or.inl ⟨by rfl, ?hy3⟩) (by assumption) ?rest3; (case hy3 => (intro w hSw; (try dsimp only at hSw); go_simp; try with_reducible rfl)); try simp only [Act.put, List.setIfInBounds_toArray, List.set_cons_zero, List.set_cons_succ, List.getElem_toArray, List.getElem_cons_succ, List.getElem_cons_zero])
                | fail "take 3"
              first
                | (refine wpAnyH_take (i := 4) (v := undef) rfl (by kernel_rfl) (by kernel_rfl) (by kernel_rfl) (fun _ _ _ h => h) (Or.inr ⟨by rfl, rfl⟩) (by assumption) ?_; try simp only [Act.put, List.setIfInBounds_toArray, List.set_cons_zero, List.set_cons_succ, List.getElem_toArray, List.getElem_cons_succ, List.getElem_cons_zero])
                | (refine wpAnyH_take (i := 4) (v := ?v4) rfl (by kernel_rfl) (by kernel_rfl) (by kernel_rfl) (fun _ _ _ h => h) (Or.inl ⟨by rfl, ?hy4⟩) (by assumption) ?rest4; (case hy4 => (intro w hSw; (try dsimp only at hSw); go_simp; try with_reducible rfl)); try simp only [Act.put, List.setIfInBounds_toArray, List.set_cons_zero, List.set_cons_succ, List.getElem_toArray, List.getElem_cons_succ, List.getElem_cons_zero])
                | fail "take 4"
              first
                | (refine wpAnyH_take (i := 5) (v := undef) rfl (by kernel_rfl) (by kernel_rfl) (by kernel_rfl) (fun _ _ _ h => h) (Or.inr ⟨by rfl, rfl⟩) (by assumption) ?_; try simp only [Act.put, List.setIfInBounds_toArray, List.set_cons_zero, List.set_cons_succ, List.getElem_toArray, List.getElem_cons_succ, List.getElem_cons_zero])
                | (refine wpAnyH_take (i := 5) (v := ?v5) rfl (by kernel_rfl) (by kernel_rfl) (by kernel_rfl) (fun _ _ _ h => h) (Or.inl ⟨by rfl, ?hy5⟩) (by assumption) ?rest5; (case hy5 => (intro w hSw; (try dsimp only at hSw); go_simp; try with_reducible rfl)); try simp only [Act.put, List.setIfInBounds_toArray, List.set_cons_zero, List.set_cons_succ, List.getElem_toArray, List.getElem_cons_succ, List.getElem_cons_zero])
                | fail "take 5"
              first
                | (refine wpAnyH_take (i := 6) (v := undef) rfl (by kernel_rfl) (by kernel_rfl) (by kernel_rfl) (fun _ _ _ h => h) (Or.inr ⟨by rfl, rfl⟩) (by assumption) ?_; try simp only [Act.put, List.setIfInBounds_toArray, List.set_cons_zero, List.set_cons_succ, List.getElem_toArray, List.getElem_cons_succ, List.getElem_cons_zero])
                | (refine wpAnyH_take (i := 6) (v := ?v6) rfl (by kernel_rfl) (by kernel_rfl) (by kernel_rfl) (fun _ _ _ h => h) (Or.inl ⟨by rfl, ?hy6⟩) (by assumption) ?rest6; (case hy6 => (intro w hSw; (try dsimp only at hSw); go_simp; try with_reducible rfl)); try simp only [Act.put, List.setIfInBounds_toArray, List.set_cons_zero, List.set_cons_succ, List.getElem_toArray, List.getElem_cons_succ, List.getElem_cons_zero])
                | fail "take 6"
              first
                | (refine wpAnyH_take (i := 7) (v := undef) rfl (by kernel_rfl) (by kernel_rfl) (by kernel_rfl) (fun _ _ _ h => h) (Or.inr ⟨by rfl, rfl⟩) (by assumption) ?_; try simp only [Act.put, List.setIfInBounds_toArray, List.set_cons_zero, List.set_cons_succ, List.getElem_toArray, List.getElem_cons_succ, List.getElem_cons_zero])
                | (refine wpAnyH_take (i := 7) (v := ?v7) rfl (by kernel_rfl) (by kernel_rfl) (by kernel_rfl) (fun _ _ _ h => h) (Or.inl ⟨by rfl, ?hy7⟩) (by assumption) ?rest7; (case hy7 => (intro w hSw; (try dsimp only at hSw); go_simp; try with_reducible rfl)); try simp only [Act.put, List.setIfInBounds_toArray, List.set_cons_zero, List.set_cons_succ, List.getElem_toArray, List.getElem_cons_succ, List.getElem_cons_zero])
                | fail "take 7"
              first
                | (refine wpAnyH_take (i := 8) (v := undef) rfl (by kernel_rfl) (by kernel_rfl) (by kernel_rfl) (fun _ _ _ h => h) (Or.inr ⟨by rfl, rfl⟩) (by assumption) ?_; try simp only [Act.put, List.setIfInBounds_toArray, List.set_cons_zero, List.set_cons_succ, List.getElem_toArray, List.getElem_cons_succ, List.getElem_cons_zero])
                | (refine wpAnyH_take (i := 8) (v := ?v8) rfl (by kernel_rfl) (by kernel_rfl) (by kernel_rfl) (fun _ _ _ h => h) (Or.inl ⟨by rfl, ?hy8⟩) (by assumption) ?rest8; (case hy8 => (intro w hSw; (try dsimp only at hSw); go_simp; try with_reducible rfl)); try simp only [Act.put, List.setIfInBounds_toArray, List.set_cons_zero, List.set_cons_succ, List.getElem_toArray, List.getElem_cons_succ, List.getElem_cons_zero])
                | fail "take 8"
              first
                | (refine wpAnyH_take (i := 9) (v := undef) rfl (by kernel_rfl) (by kernel_rfl) (by kernel_rfl) (fun _ _ _ h => h) (Or.inr ⟨by rfl, rfl⟩) (by assumption) ?_; try simp only [Act.put, List.setIfInBounds_toArray, List.set_cons_zero, List.set_cons_succ, List.getElem_toArray, List.getElem_cons_succ, List.getElem_cons_zero])
                | (refine wpAnyH_take (i := 9) (v := ?v9) rfl (by kernel_rfl) (by kernel_rfl) (by kernel_rfl) (fun _ _ _ h => h) (Or.inl ⟨by rfl, ?hy9⟩) (by assumption) ?rest9; (case hy9 => (intro w hSw; (try dsimp only at hSw); go_simp; try with_reducible rfl)); try simp only [Act.put, List.setIfInBounds_toArray, List.set_cons_zero, List.set_cons_succ, List.getElem_toArray, List.getElem_cons_succ, List.getElem_cons_zero])
                | fail "take 9"
              first
                | (refine wpAnyH_take (i := 10) (v := undef) rfl (by kernel_rfl) (by kernel_rfl) (by kernel_rfl) (fun _ _ _ h => h) (Or.inr ⟨by rfl, rfl⟩) (by assumption) ?_; try simp only [Act.put, List.setIfInBounds_toArray, List.set_cons_zero, List.set_cons_succ, List.getElem_toArray, List.getElem_cons_succ, List.getElem_cons_zero])
                | (refine wpAnyH_take (i := 10) (v := ?v10) rfl (by kernel_rfl) (by kernel_rfl) (by kernel_rfl) (fun _ _ _ h => h) (Or.inl ⟨by rfl, ?hy10⟩) (by assumption) ?rest10; (case hy10 => (intro w hSw; (try dsimp only at hSw); go_simp; try with_reducible rfl)); try simp only [Act.put, List.setIfInBounds_toArray, List.set_cons_zero, List.set_cons_succ, List.getElem_toArray, List.getElem_cons_succ, List.getElem_cons_zero])
                | fail "take 10"
              first
                | (refine wpAnyH_take (i := 11) (v := undef) rfl (by kernel_rfl) (by kernel_rfl) (by kernel_rfl) (fun _ _ _ h => h) (Or.inr ⟨by rfl, rfl⟩) (by assumption) ?_; try simp only [Act.put, List.setIfInBounds_toArray, List.set_cons_zero, List.set_cons_succ, List.getElem_toArray, List.getElem_cons_succ, List.getElem_cons_zero])
                | (refine wpAnyH_take (i := 11) (v := ?v11) rfl (by kernel_rfl) (by kernel_rfl) (by kernel_rfl) (fun _ _ _ h => h) (Or.inl ⟨by rfl, ?hy11⟩) (by assumption) ?rest11; (case hy11 => (intro w hSw; (try dsimp only at hSw); go_simp; try with_reducible rfl)); try simp only [Act.put, List.setIfInBounds_toArray, List.set_cons_zero, List.set_cons_succ, List.getElem_toArray, List.getElem_cons_succ, List.getElem_cons_zero])
                | fail "take 11"
              first
                | (refine wpAnyH_take (i := 12) (v := undef) rfl (by kernel_rfl) (by kernel_rfl) (by kernel_rfl) (fun _ _ _ h => h) (Or.inr ⟨by rfl, rfl⟩) (by assumption) ?_; try simp only [Act.put, List.setIfInBounds_toArray, List.set_cons_zero, List.set_cons_succ, List.getElem_toArray, List.getElem_cons_succ, List.getElem_cons_zero])
                | (refine wpAnyH_take (i := 12) (v := ?v12) rfl (by kernel_rfl) (by kernel_rfl) (by kernel_rfl) (fun _ _ _ h => h) (Or.inl ⟨by rfl, ?hy12⟩) (by assumption) ?rest12; (case hy12 => (intro w hSw; (try dsimp only at hSw); go_simp; try with_reducible rfl)); try simp only [Act.put, List.setIfInBounds_toArray, List.set_cons_zero, List.set_cons_succ, List.getElem_toArray, List.getElem_cons_succ, List.getElem_cons_zero])
                | fail "take 12"
              first
                | (refine wpAnyH_take (i := 13) (v := undef) rfl (by kernel_rfl) (by kernel_rfl) (by kernel_rfl) (fun _ _ _ h => h) (Or.inr ⟨by rfl, rfl⟩) (by assumption) ?_; try simp only [Act.put, List.setIfInBounds_toArray, List.set_cons_zero, List.set_cons_succ, List.getElem_toArray, List.getElem_cons_succ, List.getElem_cons_zero])
                | (refine wpAnyH_take (i := 13) (v := ?v13) rfl (by kernel_rfl) (by kernel_rfl) (by kernel_rfl) (fun _ _ _ h => h) (Or.inl ⟨by rfl, ?hy13⟩) (by assumption) ?rest13; (case hy13 => (intro w hSw; (try dsimp only at hSw); go_simp; try with_reducible rfl)); try simp only [Act.put, List.setIfInBounds_toArray, List.set_cons_zero, List.set_cons_succ, List.getElem_toArray, List.getElem_cons_succ, List.getElem_cons_zero])
                | fail "take 13"
              first
                | (refine wpAnyH_take (i := 14) (v := undef) rfl (by kernel_rfl) (by kernel_rfl) (by kernel_rfl) (fun _ _ _ h => h) (Or.inr ⟨by rfl, rfl⟩) (by assumption) ?_; try simp only [Act.put, List.setIfInBounds_toArray, List.set_cons_zero, List.set_cons_succ, List.getElem_toArray, List.getElem_cons_succ, List.getElem_cons_zero])
                | (refine wpAnyH_take (i := 14) (v := ?v14) rfl (by kernel_rfl) (by kernel_rfl) (by kernel_rfl) (fun _ _ _ h => h) (Or.inl ⟨by rfl, ?hy14⟩) (by assumption) ?rest14; (case hy14 => (intro w hSw; (try dsimp only at hSw); go_simp; try with_reducible rfl)); try simp only [Act.put, List.setIfInBounds_toArray, List.set_cons_zero, List.set_cons_succ, List.getElem_toArray, List.getElem_cons_succ, List.getElem_cons_zero])
                | fail "take 14"
              first
                | (refine wpAnyH_take (i := 15) (v := undef) rfl (by kernel_rfl) (by kernel_rfl) (by kernel_rfl) (fun _ _ _ h => h) (Or.inr ⟨by rfl, rfl⟩) (by assumption) ?_; try simp only [Act.put, List.setIfInBounds_toArray, List.set_cons_zero, List.set_cons_succ, List.getElem_toArray, List.getElem_cons_succ, List.getElem_cons_zero])
                | (refine wpAnyH_take (i := 15) (v := ?v15) rfl (by kernel_rfl) (by kernel_rfl) (by kernel_rfl) (fun _ _ _ h => h) (Or.inl ⟨by rfl, ?hy15⟩) (by assumption) ?rest15; (case hy15 => (intro w hSw; (try dsimp only at hSw); go_simp; try with_reducible rfl)); try simp only [Act.put, List.setIfInBounds_toArray, List.set_cons_zero, List.set_cons_succ, List.getElem_toArray, List.getElem_cons_succ, List.getElem_cons_zero])
                | fail "take 15"
              first
                | (refine wpAnyH_take (i := 16) (v := undef) rfl (by kernel_rfl) (by kernel_rfl) (by kernel_rfl) (fun _ _ _ h => h) (Or.inr ⟨by rfl, rfl⟩) (by assumption) ?_; try simp only [Act.put, List.setIfInBounds_toArray, List.set_cons_zero, List.set_cons_succ, List.getElem_toArray, List.getElem_cons_succ, List.getElem_cons_zero])
                | (refine wpAnyH_take (i := 16) (v := ?v16) rfl (by kernel_rfl) (by kernel_rfl) (by kernel_rfl) (fun _ _ _ h => h) (Or.inl ⟨by rfl, ?hy16⟩) (by assumption) ?rest16; (case hy16 => (intro w hSw; (try dsimp only at hSw); go_simp; try with_reducible rfl)); try simp only [Act.put, List.setIfInBounds_toArray, List.set_cons_zero, List.set_cons_succ, List.getElem_toArray, List.getElem_cons_succ, List.getElem_cons_zero])
                | fail "take 16"
              first
                | (refine wpAnyH_take (i := 17) (v := undef) rfl (by kernel_rfl) (by kernel_rfl) (by kernel_rfl) (fun _ _ _ h => h) (Or.inr ⟨by rfl, rfl⟩) (by assumption) ?_; try simp only [Act.put, List.setIfInBounds_toArray, List.set_cons_zero, List.set_cons_succ, List.getElem_toArray, List.getElem_cons_succ, List.getElem_cons_zero])
                | (refine wpAnyH_take (i := 17) (v := ?v17) rfl (by kernel_rfl) (by kernel_rfl) (by kernel_rfl) (fun _ _ _ h => h) (Or.inl ⟨by rfl, ?hy17⟩) (by assumption) ?rest17; (case hy17 => (intro w hSw; (try dsimp only at hSw); go_simp; try with_reducible rfl)); try simp only [Act.put, List.setIfInBounds_toArray, List.set_cons_zero, List.set_cons_succ, List.getElem_toArray, List.getElem_cons_succ, List.getElem_cons_zero])
                | fail "take 17"
              first
                | (refine wpAnyH_take (i := 18) (v := undef) rfl (by kernel_rfl) (by kernel_rfl) (by kernel_rfl) (fun _ _ _ h => h) (Or.inr ⟨by rfl, rfl⟩) (by assumption) ?_; try simp only [Act.put, List.setIfInBounds_toArray, List.set_cons_zero, List.set_cons_succ, List.getElem_toArray, List.getElem_cons_succ, List.getElem_cons_zero])
                | (refine wpAnyH_take (i := 18) (v := ?v18) rfl (by kernel_rfl) (by kernel_rfl) (by kernel_rfl) (fun _ _ _ h => h) (Or.inl ⟨by rfl, ?hy18⟩) (by assumption) ?rest18; (case hy18 => (intro w hSw; (try dsimp only at hSw); go_simp; try with_reducible rfl)); try simp only [Act.put, List.setIfInBounds_toArray, List.set_cons_zero, List.set_cons_succ, List.getElem_toArray, List.getElem_cons_succ, List.getElem_cons_zero])
                | fail "take 18"
              first
                | (refine wpAnyH_take (i := 19) (v := undef) rfl (by kernel_rfl) (by kernel_rfl) (by kernel_rfl) (fun _ _ _ h => h) (Or.inr ⟨by rfl, rfl⟩) (by assumption) ?_; try simp only [Act.put, List.setIfInBounds_toArray, List.set_cons_zero, List.set_cons_succ, List.getElem_toArray, List.getElem_cons_succ, List.getElem_cons_zero])
                | (refine wpAnyH_take (i := 19) (v := ?v19) rfl (by kernel_rfl) (by kernel_rfl) (by kernel_rfl) (fun _ _ _ h => h) (Or.inl ⟨by rfl, ?hy19⟩) (by assumption) ?rest19; (case hy19 => (intro w hSw; (try dsimp only at hSw); go_simp; try with_reducible rfl)); try simp only [Act.put, List.setIfInBounds_toArray, List.set_cons_zero, List.set_cons_succ, List.getElem_toArray, List.getElem_cons_succ, List.getElem_cons_zero])
                | fail "take 19"
              first
                | (refine wpAnyH_take (i := 20) (v := undef) rfl (by kernel_rfl) (by kernel_rfl) (by kernel_rfl) (fun _ _ _ h => h) (Or.inr ⟨by rfl, rfl⟩) (by assumption) ?_; try simp only [Act.put, List.setIfInBounds_toArray, List.set_cons_zero, List.set_cons_succ, List.getElem_toArray, List.getElem_cons_succ, List.getElem_cons_zero])
                | (refine wpAnyH_take (i := 20) (v := ?v20) rfl (by kernel_rfl) (by kernel_rfl) (by kernel_rfl) (fun _ _ _ h => h) (Or.inl ⟨by rfl, ?hy20⟩) (by assumption) ?rest20; (case hy20 => (intro w hSw; (try dsimp only at hSw); go_simp; try with_reducible rfl)); try simp only [Act.put, List.setIfInBounds_toArray, List.set_cons_zero, List.set_cons_succ, List.getElem_toArray, List.getElem_cons_succ, List.getElem_cons_zero])
                | fail "take 20"
              first
                | (refine wpAnyH_take (i := 21) (v := undef) rfl (by kernel_rfl) (by kernel_rfl) (by kernel_rfl) (fun _ _ _ h => h) (Or.inr ⟨by rfl, rfl⟩) (by assumption) ?_; try simp only [Act.put, List.setIfInBounds_toArray, List.set_cons_zero, List.set_cons_succ, List.getElem_toArray, List.getElem_cons_succ, List.getElem_cons_zero])
                | (refine wpAnyH_take (i := 21) (v := ?v21) rfl (by kernel_rfl) (by kernel_rfl) (by kernel_rfl) (fun _ _ _ h => h) (Or.inl ⟨by rfl, ?hy21⟩) (by assumption) ?rest21; (case hy21 => (intro w hSw; (try dsimp only at hSw); go_simp; try with_reducible rfl)); try simp only [Act.put, List.setIfInBounds_toArray, List.set_cons_zero, List.set_cons_succ, List.getElem_toArray, List.getElem_cons_succ, List.getElem_cons_zero])
                | fail "take 21"
              first
                | (refine wpAnyH_take (i := 22) (v := undef) rfl (by kernel_rfl) (by kernel_rfl) (by kernel_rfl) (fun _ _ _ h => h) (Or.inr ⟨by rfl, rfl⟩) (by assumption) ?_; try simp only [Act.put, List.setIfInBounds_toArray, List.set_cons_zero, List.set_cons_succ, List.getElem_toArray, List.getElem_cons_succ, List.getElem_cons_zero])
                | (refine wpAnyH_take (i := 22) (v := ?v22) rfl (by kernel_rfl) (by kernel_rfl) (by kernel_rfl) (fun _ _ _ h => h) (Or.inl ⟨by rfl, ?hy22⟩) (by assumption) ?rest22; (case hy22 => (intro w hSw; (try dsimp only at hSw); go_simp; try with_reducible rfl)); try simp only [Act.put, List.setIfInBounds_toArray, List.set_cons_zero, List.set_cons_succ, List.getElem_toArray, List.getElem_cons_succ, List.getElem_cons_zero])
                | fail "take 22"
              first
                | (refine wpAnyH_take (i := 23) (v := undef) rfl (by kernel_rfl) (by kernel_rfl) (by kernel_rfl) (fun _ _ _ h => h) (Or.inr ⟨by rfl, rfl⟩) (by assumption) ?_; try simp only [Act.put, List.setIfInBounds_toArray, List.set_cons_zero, List.set_cons_succ, List.getElem_toArray, List.getElem_cons_succ, List.getElem_cons_zero])
                | (refine wpAnyH_take (i := 23) (v := ?v23) rfl (by kernel_rfl) (by kernel_rfl) (by kernel_rfl) (fun _ _ _ h => h) (Or.inl ⟨by rfl, ?hy23⟩) (by assumption) ?rest23; (case hy23 => (intro w hSw; (try dsimp only at hSw); go_simp; try with_reducible rfl)); try simp only [Act.put, List.setIfInBounds_toArray, List.set_cons_zero, List.set_cons_succ, List.getElem_toArray, List.getElem_cons_succ, List.getElem_cons_zero])
                | fail "take 23"
              refine wpAnyH_done (by kernel_rfl) ?_ _
              have H1 : Hid (wr.ownsRow W1.heap.size 38 4 u9 ((PL.take k).filter fine).length (rcells ((PL.take k).filter fine))) := HOd
              have H2 : Hid (Below W1.heap.size W1 wr) := HBK
              clear HBK
              clear HOd HBd
              go_wp2_with fail
              go_roundw
              case rel => exact ⟨k + 1, by omega, by go_num, by rw [HF.out]; exact H1.out, H2.out.drew⟩
              case measure => simp [intOf]; omega
            · have hf : (PL.take (k + 1)).filter fine = (PL.take k).filter fine := by rw [HTK.out, List.filter_append]; simp [fine, g2]
              have HF := Lib.hid hf
              clear hf
              go_wp2_with fail
              have HOd : Hid (wr.drew.ownsRow W1.heap.size 38 4 u9 ((PL.take k).filter fine).length (rcells ((PL.take k).filter fine))) := H1.out
              have HBd : Hid (Below W1.heap.size W1 wr.drew) := H2.out.drew
              have HBK := H2
              have HA' := Lib.hid hA
              have HB' := Lib.hid hB
              clear H1 H2 hA hB
              (first | go_region_held3 (fun w' => w'.cell? ⟨w3.heap.size + 1, k * 4, none⟩ = some (.int .i64 x1) ∧ w'.cell? ⟨w3.heap.size + 1, k * 4 + 1, none⟩ = some (.int .i64 y1) ∧ w'.cell? ⟨w3.heap.size + 1, k * 4 + 2, none⟩ = some (.int .i64 x2) ∧ w'.cell? ⟨w3.heap.size + 1, k * 4 + 3, none⟩ = some (.int .i64 y2)) (go_keep) (fail) | fail)
              have H1 : Hid (wr.ownsRow W1.heap.size 38 4 u9 ((PL.take k).filter fine).length (rcells ((PL.take k).filter fine))) := HOd
              have H2 : Hid (Below W1.heap.size W1 wr) := HBK
              clear HBK
              clear HOd HBd
              go_wp2_with fail
              go_roundw
              case rel => exact ⟨k + 1, by omega, by go_num, by rw [HF.out]; exact H1.out, H2.out.drew⟩
              case measure => simp [intOf]; omega
          · have hke : k = 4 := by omega
            subst hke
            go_wp2_with fail
            refine bodyPost_ret (v := .tuple #[_, .int .i64 0]) (by simp [results, Tryd.results71, go_sem]; rfl) rfl ⟨_, by rw [HEE.out, HE.out], ?_, HB2.out.trans (H2.out.mono hz2)⟩
            rw [HLL.out, HLP.out]
            have := H1.out
            rw [List.take_of_length_le (by rw [HP4.out]; omega)] at this
            exact this.mono hz2
end Go.Proofs.YtkdabfepggehiaaDoor
