/- The walk of the law RectParts. -/
import Derived.Test.YtkdabfepggehiaaEqF
import Derived.Test.YtkdabfepggehiaaRectW6
import Derived.Deep.RegionHeld3
namespace Go.Proofs.Ytkdabfepggehiaa
open Go.RowKit

set_option maxRecDepth 100000 in
set_option maxHeartbeats 8000000 in
theorem RectParts_walk (a1 a2 a3 a4 b1 b2 b3 b4 : Int) (w : World) (_ : (Lit.int .i64 a1).wf = true) (_ : (Lit.int .i64 a2).wf = true) (_ : (Lit.int .i64 a3).wf = true) (_ : (Lit.int .i64 a4).wf = true) (_ : (Lit.int .i64 b1).wf = true) (_ : (Lit.int .i64 b2).wf = true) (_ : (Lit.int .i64 b3).wf = true) (_ : (Lit.int .i64 b4).wf = true)
    (_ : laidMetH Try.prog Rows.rectPartsRow.laid w) (_ : w.ShapedOpen Try.prog) :
    Calls Try.prog 3 #[.agg #[.int .i64 a1, .int .i64 a2, .int .i64 a3, .int .i64 a4], .agg #[.int .i64 b1, .int .i64 b2, .int .i64 b3, .int .i64 b4]] w fun e w' => e = .returned (.bool true) ∧ Below w.heap.size w w' := by
  have hb0 : Below w.heap.size w ((w.alloc (.cells #[.int .i64 a1, .int .i64 a2, .int .i64 a3, .int .i64 a4] 23)).alloc (.cells #[.int .i64 b1, .int .i64 b2, .int .i64 b3, .int .i64 b4] 23)) := ((Below.refl _ _).alloc (Nat.le_refl _) _).alloc (by simp) _
  have K1 : Blk ((w.alloc (.cells #[.int .i64 a1, .int .i64 a2, .int .i64 a3, .int .i64 a4] 23)).alloc (.cells #[.int .i64 b1, .int .i64 b2, .int .i64 b3, .int .i64 b4] 23)) w.heap.size 23 #[.int .i64 a1, .int .i64 a2, .int .i64 a3, .int .i64 a4] := (Blk.new w 23 #[.int .i64 a1, .int .i64 a2, .int .i64 a3, .int .i64 a4]).alloc _
  have K2 : Blk ((w.alloc (.cells #[.int .i64 a1, .int .i64 a2, .int .i64 a3, .int .i64 a4] 23)).alloc (.cells #[.int .i64 b1, .int .i64 b2, .int .i64 b3, .int .i64 b4] 23)) (w.heap.size + 1) 23 #[.int .i64 b1, .int .i64 b2, .int .i64 b3, .int .i64 b4] := by
    have := Blk.new (w.alloc (.cells #[.int .i64 a1, .int .i64 a2, .int .i64 a3, .int .i64 a4] 23)) 23 #[.int .i64 b1, .int .i64 b2, .int .i64 b3, .int .i64 b4]
    simpa using this
  have hz : w.heap.size + 1 < ((w.alloc (.cells #[.int .i64 a1, .int .i64 a2, .int .i64 a3, .int .i64 a4] 23)).alloc (.cells #[.int .i64 b1, .int .i64 b2, .int .i64 b3, .int .i64 b4] 23)).heap.size := by simp
  have HB := Lib.hid hb0
  have HK1 := Lib.hid K1
  have HK2 := Lib.hid K2
  clear hb0 K1 K2
  go_enter Try.func3, Try.ntmps3
  go_wp2_with fail
  generalize ((w.alloc (.cells #[.int .i64 a1, .int .i64 a2, .int .i64 a3, .int .i64 a4] 23)).alloc (.cells #[.int .i64 b1, .int .i64 b2, .int .i64 b3, .int .i64 b4] 23)) = W0 at HB HK1 HK2 hz ⊢
  refine (rect_Minus _ _ _ _ _ _ _ _ _).mono ?_
  rintro e w1 ⟨v1, rfl, hown, hb⟩
  obtain ⟨p1, q1, rfl, hr, hl1⟩ := own_rects hown
  have HR1 := Lib.hid hr
  clear hown hr
  have k1 := HK1.out.below hb (by omega)
  have k2 := HK2.out.below hb (by omega)
  have hz' : w.heap.size + 1 < w1.heap.size := by have := hb.size; omega
  have HB' := Lib.hid (below_step HB.out hb)
  clear HK1 HK2 HB hz
  try clear c0 c1 c2 c3 d0 d1 d2 d3
  have c0 := k1.cell 0
  have c1 := k1.cell 1
  have c2 := k1.cell 2
  have c3 := k1.cell 3
  simp only [List.getElem?_toArray, List.getElem?_cons_zero, List.getElem?_cons_succ] at c0 c1 c2 c3
  have d0 := k2.cell 0
  have d1 := k2.cell 1
  have d2 := k2.cell 2
  have d3 := k2.cell 3
  simp only [List.getElem?_toArray, List.getElem?_cons_zero, List.getElem?_cons_succ] at d0 d1 d2 d3
  have HK1 := Lib.hid k1
  have HK2 := Lib.hid k2
  have HB := HB'
  have hz := hz'
  clear k1 k2 HB' hz' hb
  obtain ⟨ML, hML⟩ : ∃ ML, minusL ⟨a1, a2, a3, a4⟩ ⟨b1, b2, b3, b4⟩ = ML := ⟨_, rfl⟩
  obtain ⟨ME, hME⟩ : ∃ ME, minusE ⟨a1, a2, a3, a4⟩ ⟨b1, b2, b3, b4⟩ = ME := ⟨_, rfl⟩
  rw [hML] at hl1 HR1 ⊢
  rw [hME]
  have HML := Lib.hid hML
  have HME := Lib.hid hME
  clear hML hME
  go_wp2_with fail
  refine (ref_Minus _ _ _ _ _ _ _ _ _).mono ?_
  rintro e w2 ⟨v2, rfl, hown, hb⟩
  rw [HML.out] at hown
  obtain ⟨p2, q2, rfl, hr, hl2⟩ := own_rects hown
  have HR2 := Lib.hid hr
  clear hown hr
  have HR1x := Lib.hid (HR1.out.below hb hb.size)
  clear HR1
  have HR1 := HR1x
  clear HR1x
  have k1 := HK1.out.below hb (by omega)
  have k2 := HK2.out.below hb (by omega)
  have hz' : w.heap.size + 1 < w2.heap.size := by have := hb.size; omega
  have HB' := Lib.hid (below_step HB.out hb)
  clear HK1 HK2 HB hz
  try clear c0 c1 c2 c3 d0 d1 d2 d3
  have c0 := k1.cell 0
  have c1 := k1.cell 1
  have c2 := k1.cell 2
  have c3 := k1.cell 3
  simp only [List.getElem?_toArray, List.getElem?_cons_zero, List.getElem?_cons_succ] at c0 c1 c2 c3
  have d0 := k2.cell 0
  have d1 := k2.cell 1
  have d2 := k2.cell 2
  have d3 := k2.cell 3
  simp only [List.getElem?_toArray, List.getElem?_cons_zero, List.getElem?_cons_succ] at d0 d1 d2 d3
  have HK1 := Lib.hid k1
  have HK2 := Lib.hid k2
  have HB := HB'
  have hz := hz'
  clear k1 k2 HB' hz' hb
  rw [HME.out]
  clear HML HME
  go_wp2_with fail
  refine (rect_Area _ _ _ _ _).mono ?_
  rintro e w3 ⟨rfl, hb⟩
  have HR1x := Lib.hid (HR1.out.below hb hb.size)
  clear HR1
  have HR1 := HR1x
  clear HR1x
  have HR2x := Lib.hid (HR2.out.below hb hb.size)
  clear HR2
  have HR2 := HR2x
  clear HR2x
  have k1 := HK1.out.below hb (by omega)
  have k2 := HK2.out.below hb (by omega)
  have hz' : w.heap.size + 1 < w3.heap.size := by have := hb.size; omega
  have HB' := Lib.hid (below_step HB.out hb)
  clear HK1 HK2 HB hz
  try clear c0 c1 c2 c3 d0 d1 d2 d3
  have c0 := k1.cell 0
  have c1 := k1.cell 1
  have c2 := k1.cell 2
  have c3 := k1.cell 3
  simp only [List.getElem?_toArray, List.getElem?_cons_zero, List.getElem?_cons_succ] at c0 c1 c2 c3
  have d0 := k2.cell 0
  have d1 := k2.cell 1
  have d2 := k2.cell 2
  have d3 := k2.cell 3
  simp only [List.getElem?_toArray, List.getElem?_cons_zero, List.getElem?_cons_succ] at d0 d1 d2 d3
  have HK1 := Lib.hid k1
  have HK2 := Lib.hid k2
  have HB := HB'
  have hz := hz'
  clear k1 k2 HB' hz' hb
  obtain ⟨AR, hAR⟩ : ∃ AR, areaS ⟨a1, a2, a3, a4⟩ = AR := ⟨_, rfl⟩
  rw [hAR]
  have HAR := Lib.hid hAR
  clear hAR
  go_wp2_with fail
  refine (ref_Area _ _ _ _ _).mono ?_
  rintro e w4 ⟨rfl, hb⟩
  have HR1x := Lib.hid (HR1.out.below hb hb.size)
  clear HR1
  have HR1 := HR1x
  clear HR1x
  have HR2x := Lib.hid (HR2.out.below hb hb.size)
  clear HR2
  have HR2 := HR2x
  clear HR2x
  have k1 := HK1.out.below hb (by omega)
  have k2 := HK2.out.below hb (by omega)
  have hz' : w.heap.size + 1 < w4.heap.size := by have := hb.size; omega
  have HB' := Lib.hid (below_step HB.out hb)
  clear HK1 HK2 HB hz
  try clear c0 c1 c2 c3 d0 d1 d2 d3
  have c0 := k1.cell 0
  have c1 := k1.cell 1
  have c2 := k1.cell 2
  have c3 := k1.cell 3
  simp only [List.getElem?_toArray, List.getElem?_cons_zero, List.getElem?_cons_succ] at c0 c1 c2 c3
  have d0 := k2.cell 0
  have d1 := k2.cell 1
  have d2 := k2.cell 2
  have d3 := k2.cell 3
  simp only [List.getElem?_toArray, List.getElem?_cons_zero, List.getElem?_cons_succ] at d0 d1 d2 d3
  have HK1 := Lib.hid k1
  have HK2 := Lib.hid k2
  have HB := HB'
  have hz := hz'
  clear k1 k2 HB' hz' hb
  rw [HAR.out]
  clear HAR
  go_wp2_with fail
  refine (rect_Refs _ _ _ _ _).mono ?_
  rintro e w5 ⟨v3, rfl, hown, hb⟩
  have HR1x := Lib.hid (HR1.out.below hb hb.size)
  clear HR1
  have HR1 := HR1x
  clear HR1x
  have HR2x := Lib.hid (HR2.out.below hb hb.size)
  clear HR2
  have HR2 := HR2x
  clear HR2x
  obtain ⟨p3, q3, rfl, hr, hl3⟩ := own_refs hown
  have HR3 := Lib.hid hr
  clear hown hr
  have k1 := HK1.out.below hb (by omega)
  have k2 := HK2.out.below hb (by omega)
  have hz' : w.heap.size + 1 < w5.heap.size := by have := hb.size; omega
  have HB' := Lib.hid (below_step HB.out hb)
  clear HK1 HK2 HB hz
  try clear c0 c1 c2 c3 d0 d1 d2 d3
  have c0 := k1.cell 0
  have c1 := k1.cell 1
  have c2 := k1.cell 2
  have c3 := k1.cell 3
  simp only [List.getElem?_toArray, List.getElem?_cons_zero, List.getElem?_cons_succ] at c0 c1 c2 c3
  have d0 := k2.cell 0
  have d1 := k2.cell 1
  have d2 := k2.cell 2
  have d3 := k2.cell 3
  simp only [List.getElem?_toArray, List.getElem?_cons_zero, List.getElem?_cons_succ] at d0 d1 d2 d3
  have HK1 := Lib.hid k1
  have HK2 := Lib.hid k2
  have HB := HB'
  have hz := hz'
  clear k1 k2 HB' hz' hb
  obtain ⟨RN, hRN⟩ : ∃ RN, refsN ⟨a1, a2, a3, a4⟩ = RN := ⟨_, rfl⟩
  obtain ⟨RE, hRE⟩ : ∃ RE, refsE ⟨a1, a2, a3, a4⟩ = RE := ⟨_, rfl⟩
  rw [hRN] at hl3 HR3 ⊢
  rw [hRE]
  have HRN := Lib.hid hRN
  have HRE := Lib.hid hRE
  clear hRN hRE
  go_wp2_with fail
  refine (ref_Refs _ _ _ _ _).mono ?_
  rintro e w6 ⟨v4, rfl, hown, hb⟩
  rw [HRN.out] at hown
  have HR1x := Lib.hid (HR1.out.below hb hb.size)
  clear HR1
  have HR1 := HR1x
  clear HR1x
  have HR2x := Lib.hid (HR2.out.below hb hb.size)
  clear HR2
  have HR2 := HR2x
  clear HR2x
  have HR3x := Lib.hid (HR3.out.below hb hb.size)
  clear HR3
  have HR3 := HR3x
  clear HR3x
  obtain ⟨p4, q4, rfl, hr, hl4⟩ := own_refs hown
  have HR4 := Lib.hid hr
  clear hown hr
  have k1 := HK1.out.below hb (by omega)
  have k2 := HK2.out.below hb (by omega)
  have hz' : w.heap.size + 1 < w6.heap.size := by have := hb.size; omega
  have HB' := Lib.hid (below_step HB.out hb)
  clear HK1 HK2 HB hz
  try clear c0 c1 c2 c3 d0 d1 d2 d3
  have c0 := k1.cell 0
  have c1 := k1.cell 1
  have c2 := k1.cell 2
  have c3 := k1.cell 3
  simp only [List.getElem?_toArray, List.getElem?_cons_zero, List.getElem?_cons_succ] at c0 c1 c2 c3
  have d0 := k2.cell 0
  have d1 := k2.cell 1
  have d2 := k2.cell 2
  have d3 := k2.cell 3
  simp only [List.getElem?_toArray, List.getElem?_cons_zero, List.getElem?_cons_succ] at d0 d1 d2 d3
  have HK1 := Lib.hid k1
  have HK2 := Lib.hid k2
  have HB := HB'
  have hz := hz'
  clear k1 k2 HB' hz' hb
  rw [HRE.out]
  clear HRN HRE c0 c1 c2 c3 d0 d1 d2 d3 HK1 HK2 hz
  unfold maxLen at hl1 hl2 hl3 hl4
  go_wp2_with fail
  refine (equal_rects _ _ _ _ _ _ _ (by omega) HR1.out HR2.out).mono ?_
  rintro e w7 ⟨rfl, hb⟩
  have HB' := Lib.hid (below_step HB.out hb)
  have HR3' := Lib.hid (HR3.out.below hb hb.size)
  have HR4' := Lib.hid (HR4.out.below hb hb.size)
  clear hb HB HR1 HR2 HR3 HR4
  go_wp2_with fail
  refine (equal_refs _ _ _ _ _ _ _ (by omega) HR3'.out HR4'.out).mono ?_
  rintro e w8 ⟨rfl, hb⟩
  have HB := Lib.hid (below_step HB'.out hb)
  clear hb HB' HR3' HR4'
  go_wp2_with fail
  go_ret
  exact ⟨rfl, HB.out⟩
end Go.Proofs.Ytkdabfepggehiaa
