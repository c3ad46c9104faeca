/- The walk of the law RectPairs. -/
import Derived.Test.YtkdabfepggehiaaDoorRectK
namespace Go.Proofs.YtkdabfepggehiaaDoor
open Go.RowKit

set_option maxRecDepth 100000 in
set_option maxHeartbeats 8000000 in
theorem RectPairs_walk (a1 a2 a3 a4 b1 b2 b3 b4 c t : Int) (w : World) (_ : (Lit.int .i64 a1).wf = true) (_ : (Lit.int .i64 a2).wf = true) (_ : (Lit.int .i64 a3).wf = true) (_ : (Lit.int .i64 a4).wf = true) (_ : (Lit.int .i64 b1).wf = true) (_ : (Lit.int .i64 b2).wf = true) (_ : (Lit.int .i64 b3).wf = true) (_ : (Lit.int .i64 b4).wf = true) (_ : (Lit.int .i64 c).wf = true) (_ : (Lit.int .i64 t).wf = true)
    (hL : laidMetH Tryd.prog Rows.rectPairsRow.laid w) (_ : w.ShapedOpen Tryd.prog) :
    Calls Tryd.prog 7 #[.agg #[.int .i64 a1, .int .i64 a2, .int .i64 a3, .int .i64 a4], .agg #[.int .i64 b1, .int .i64 b2, .int .i64 b3, .int .i64 b4], .agg #[.int .i64 c, .int .i64 t]] w fun e w' => e = .returned (.bool true) ∧ Below w.heap.size w w' := by
  have HP := Lib.hid (pow_of_laid hL (by kernel_rfl))
  clear hL
  have hb0 : Below w.heap.size w (((w.alloc (.cells #[.int .i64 a1, .int .i64 a2, .int .i64 a3, .int .i64 a4] 38)).alloc (.cells #[.int .i64 b1, .int .i64 b2, .int .i64 b3, .int .i64 b4] 38)).alloc (.cells #[.int .i64 c, .int .i64 t] 23)) := (((Below.refl _ _).alloc (Nat.le_refl _) _).alloc (by simp) _).alloc (by simp; omega) _
  have K1 : Blk (((w.alloc (.cells #[.int .i64 a1, .int .i64 a2, .int .i64 a3, .int .i64 a4] 38)).alloc (.cells #[.int .i64 b1, .int .i64 b2, .int .i64 b3, .int .i64 b4] 38)).alloc (.cells #[.int .i64 c, .int .i64 t] 23)) w.heap.size 38 #[.int .i64 a1, .int .i64 a2, .int .i64 a3, .int .i64 a4] := ((Blk.new w 38 #[.int .i64 a1, .int .i64 a2, .int .i64 a3, .int .i64 a4]).alloc _).alloc _
  have K2 : Blk (((w.alloc (.cells #[.int .i64 a1, .int .i64 a2, .int .i64 a3, .int .i64 a4] 38)).alloc (.cells #[.int .i64 b1, .int .i64 b2, .int .i64 b3, .int .i64 b4] 38)).alloc (.cells #[.int .i64 c, .int .i64 t] 23)) (w.heap.size + 1) 38 #[.int .i64 b1, .int .i64 b2, .int .i64 b3, .int .i64 b4] := by
    have := (Blk.new (w.alloc (.cells #[.int .i64 a1, .int .i64 a2, .int .i64 a3, .int .i64 a4] 38)) 38 #[.int .i64 b1, .int .i64 b2, .int .i64 b3, .int .i64 b4]).alloc (.cells #[.int .i64 c, .int .i64 t] 23)
    simpa using this
  have K3 : Blk (((w.alloc (.cells #[.int .i64 a1, .int .i64 a2, .int .i64 a3, .int .i64 a4] 38)).alloc (.cells #[.int .i64 b1, .int .i64 b2, .int .i64 b3, .int .i64 b4] 38)).alloc (.cells #[.int .i64 c, .int .i64 t] 23)) (w.heap.size + 1 + 1) 23 #[.int .i64 c, .int .i64 t] := by
    have := Blk.new ((w.alloc (.cells #[.int .i64 a1, .int .i64 a2, .int .i64 a3, .int .i64 a4] 38)).alloc (.cells #[.int .i64 b1, .int .i64 b2, .int .i64 b3, .int .i64 b4] 38)) 23 #[.int .i64 c, .int .i64 t]
    simpa using this
  have hz : w.heap.size + 1 + 1 < (((w.alloc (.cells #[.int .i64 a1, .int .i64 a2, .int .i64 a3, .int .i64 a4] 38)).alloc (.cells #[.int .i64 b1, .int .i64 b2, .int .i64 b3, .int .i64 b4] 38)).alloc (.cells #[.int .i64 c, .int .i64 t] 23)).heap.size := by simp
  have HB := Lib.hid hb0
  have HK1 := Lib.hid K1
  have HK2 := Lib.hid K2
  have HK3 := Lib.hid K3
  clear hb0 K1 K2 K3
  obtain ⟨M, hM⟩ : ∃ M, meetS ⟨a1, a2, a3, a4⟩ ⟨b1, b2, b3, b4⟩ = M := ⟨_, rfl⟩
  obtain ⟨O, hO⟩ : ∃ O, meets ⟨a1, a2, a3, a4⟩ ⟨b1, b2, b3, b4⟩ = O := ⟨_, rfl⟩
  obtain ⟨m1, m2, m3, m4⟩ := M
  have HM := Lib.hid hM
  have HO := Lib.hid hO
  clear hM hO
  go_enter Tryd.func7, Tryd.ntmps7
  go_wp2_with fail
  generalize (((w.alloc (.cells #[.int .i64 a1, .int .i64 a2, .int .i64 a3, .int .i64 a4] 38)).alloc (.cells #[.int .i64 b1, .int .i64 b2, .int .i64 b3, .int .i64 b4] 38)).alloc (.cells #[.int .i64 c, .int .i64 t] 23)) = W0 at HB HK1 HK2 HK3 hz ⊢
  refine (rect_Meet _ _ _ _ _ _ _ _ _).mono ?_
  rintro e w1 ⟨rfl, hb⟩
  rw [HM.out, HO.out]
  have k1 := HK1.out.below hb (by omega)
  have k2 := HK2.out.below hb (by omega)
  have k3 := HK3.out.below hb (by omega)
  have c0 := k1.cell 0
  have c1 := k1.cell 1
  have c2 := k1.cell 2
  have c3 := k1.cell 3
  simp only [List.getElem?_toArray, List.getElem?_cons_zero, List.getElem?_cons_succ] at c0 c1 c2 c3
  have d0 := k2.cell 0
  have d1 := k2.cell 1
  have d2 := k2.cell 2
  have d3 := k2.cell 3
  simp only [List.getElem?_toArray, List.getElem?_cons_zero, List.getElem?_cons_succ] at d0 d1 d2 d3
  have hz1 : w.heap.size + 1 + 1 < w1.heap.size := by have := hb.size; omega
  have hzA : w.heap.size < w1.heap.size := by omega
  have hzB : w.heap.size + 1 < w1.heap.size := by omega
  have HK1' := Lib.hid (k1.alloc (.cells #[.int .i64 m1, .int .i64 m2, .int .i64 m3, .int .i64 m4] 38))
  have HK2' := Lib.hid (k2.alloc (.cells #[.int .i64 m1, .int .i64 m2, .int .i64 m3, .int .i64 m4] 38))
  have HK3' := Lib.hid (k3.alloc (.cells #[.int .i64 m1, .int .i64 m2, .int .i64 m3, .int .i64 m4] 38))
  have K4 := Blk.new w1 38 #[.int .i64 m1, .int .i64 m2, .int .i64 m3, .int .i64 m4]
  have HK4 := Lib.hid K4
  have HB1 := Lib.hid ((below_step HB.out hb).alloc (below_step HB.out hb).size (.cells #[.int .i64 m1, .int .i64 m2, .int .i64 m3, .int .i64 m4] 38))
  have hz4 : w1.heap.size < (w1.alloc (.cells #[.int .i64 m1, .int .i64 m2, .int .i64 m3, .int .i64 m4] 38)).heap.size := by simp
  clear hb k1 k2 k3 K4 HB HK1 HK2 HK3 hz
  go_wp2_with fail
  generalize (w1.alloc (.cells #[.int .i64 m1, .int .i64 m2, .int .i64 m3, .int .i64 m4] 38)) = W1 at HB1 HK1' HK2' HK3' HK4 hz4 ⊢
  refine (ref_Meet _ _ _ _ _ _ _ _ _).mono ?_
  rintro e w2 ⟨rfl, hb⟩
  rw [HM.out, HO.out]
  clear c0 c1 c2 c3 d0 d1 d2 d3
  have k1 := HK1'.out.below hb (by omega)
  have k2 := HK2'.out.below hb (by omega)
  have k3 := HK3'.out.below hb (by omega)
  have k4 := HK4.out.below hb (by omega)
  have hz2 : w1.heap.size < w2.heap.size := by have := hb.size; omega
  have k1' := k1.alloc (.cells #[.int .i64 m1, .int .i64 m2, .int .i64 m3, .int .i64 m4] 38)
  have k2' := k2.alloc (.cells #[.int .i64 m1, .int .i64 m2, .int .i64 m3, .int .i64 m4] 38)
  have k3' := k3.alloc (.cells #[.int .i64 m1, .int .i64 m2, .int .i64 m3, .int .i64 m4] 38)
  have k4' := k4.alloc (.cells #[.int .i64 m1, .int .i64 m2, .int .i64 m3, .int .i64 m4] 38)
  have k5' := Blk.new w2 38 #[.int .i64 m1, .int .i64 m2, .int .i64 m3, .int .i64 m4]
  have hb5 := (below_step HB1.out hb).alloc (below_step HB1.out hb).size (.cells #[.int .i64 m1, .int .i64 m2, .int .i64 m3, .int .i64 m4] 38)
  have c0 := k1'.cell 0
  have c1 := k1'.cell 1
  have c2 := k1'.cell 2
  have c3 := k1'.cell 3
  simp only [List.getElem?_toArray, List.getElem?_cons_zero, List.getElem?_cons_succ] at c0 c1 c2 c3
  have d0 := k2'.cell 0
  have d1 := k2'.cell 1
  have d2 := k2'.cell 2
  have d3 := k2'.cell 3
  simp only [List.getElem?_toArray, List.getElem?_cons_zero, List.getElem?_cons_succ] at d0 d1 d2 d3
  have f0 := k3'.cell 0
  have f1 := k3'.cell 1
  simp only [List.getElem?_toArray, List.getElem?_cons_zero, List.getElem?_cons_succ] at f0 f1
  have g0 := k4'.cell 0
  have g1 := k4'.cell 1
  have g2 := k4'.cell 2
  have g3 := k4'.cell 3
  simp only [List.getElem?_toArray, List.getElem?_cons_zero, List.getElem?_cons_succ] at g0 g1 g2 g3
  have h0 := k5'.cell 0
  have h1 := k5'.cell 1
  have h2 := k5'.cell 2
  have h3 := k5'.cell 3
  simp only [List.getElem?_toArray, List.getElem?_cons_zero, List.getElem?_cons_succ] at h0 h1 h2 h3
  have HB5 := Lib.hid hb5
  have hz6 : w2.heap.size < (w2.alloc (.cells #[.int .i64 m1, .int .i64 m2, .int .i64 m3, .int .i64 m4] 38)).heap.size := by simp
  clear hb k1 k2 k3 k4 k1' k2' k3' k4' k5' hb5 HB1 HK1' HK2' HK3' HK4 hz4 HM HO
  obtain ⟨E, hE⟩ : ∃ E, checkE ⟨a1, a2, a3, a4⟩ = E := ⟨_, rfl⟩
  obtain ⟨H, hH⟩ : ∃ H, hasR ⟨a1, a2, a3, a4⟩ c t = H := ⟨_, rfl⟩
  obtain ⟨I, hI⟩ : ∃ I, insideB ⟨a1, a2, a3, a4⟩ ⟨b1, b2, b3, b4⟩ = I := ⟨_, rfl⟩
  have HE := Lib.hid hE
  have HH := Lib.hid hH
  have HI := Lib.hid hI
  clear hE hH hI
  go_wp2_with fail
  generalize (w2.alloc (.cells #[.int .i64 m1, .int .i64 m2, .int .i64 m3, .int .i64 m4] 38)) = W2 at c0 c1 c2 c3 d0 d1 d2 d3 f0 f1 g0 g1 g2 g3 h0 h1 h2 h3 HB5 hz6 ⊢
  have HBD : Hid (Below w.heap.size w W2.drew) := HB5.out.drew
  clear HB5
  first
    | go_region_held3 (fun w' => w'.cell? ⟨w.heap.size, 0, none⟩ = some (.int .i64 a1) ∧ w'.cell? ⟨w.heap.size, 1, none⟩ = some (.int .i64 a2) ∧ w'.cell? ⟨w.heap.size, 2, none⟩ = some (.int .i64 a3) ∧ w'.cell? ⟨w.heap.size, 3, none⟩ = some (.int .i64 a4) ∧ w'.cell? ⟨w.heap.size + 1, 0, none⟩ = some (.int .i64 b1) ∧ w'.cell? ⟨w.heap.size + 1, 1, none⟩ = some (.int .i64 b2) ∧ w'.cell? ⟨w.heap.size + 1, 2, none⟩ = some (.int .i64 b3) ∧ w'.cell? ⟨w.heap.size + 1, 3, none⟩ = some (.int .i64 b4) ∧ w'.cell? ⟨w1.heap.size, 0, none⟩ = some (.int .i64 m1) ∧ w'.cell? ⟨w1.heap.size, 1, none⟩ = some (.int .i64 m2) ∧ w'.cell? ⟨w1.heap.size, 2, none⟩ = some (.int .i64 m3) ∧ w'.cell? ⟨w1.heap.size, 3, none⟩ = some (.int .i64 m4) ∧ w'.cell? ⟨w2.heap.size, 0, none⟩ = some (.int .i64 m1) ∧ w'.cell? ⟨w2.heap.size, 1, none⟩ = some (.int .i64 m2) ∧ w'.cell? ⟨w2.heap.size, 2, none⟩ = some (.int .i64 m3) ∧ w'.cell? ⟨w2.heap.size, 3, none⟩ = some (.int .i64 m4) ∧ w'.cell? ⟨w.heap.size + 1 + 1, 0, none⟩ = some (.int .i64 c) ∧ w'.cell? ⟨w.heap.size + 1 + 1, 1, none⟩ = some (.int .i64 t) ∧ Hid (Below w.heap.size w w')) (first | go_keep | (go_split_ands; exact ⟨cell_step hb (by assumption), cell_step hb (by assumption), cell_step hb (by assumption), cell_step hb (by assumption), cell_step hb (by assumption), cell_step hb (by assumption), cell_step hb (by assumption), cell_step hb (by assumption), cell_step hb (by assumption), cell_step hb (by assumption), cell_step hb (by assumption), cell_step hb (by assumption), cell_step hb (by assumption), cell_step hb (by assumption), cell_step hb (by assumption), cell_step hb (by assumption), cell_step hb (by assumption), cell_step hb (by assumption), Lib.hid (below_step (Hid.out (by assumption)) hb)⟩)) (first | (go_at_call 32; refine (rect_Check _ _ _ _ _).mono ?_; rintro e w' ⟨rfl, hb⟩; rw [HE.out]) | (go_at_call 38; refine (ref_Check _ _ _ _ _).mono ?_; rintro e w' ⟨rfl, hb⟩; rw [HE.out]) | (go_at_call 39; refine (rect_One _ _ _).mono ?_; rintro e w' ⟨rfl, hb⟩) | (go_at_call 40; refine (ref_One _ _ _).mono ?_; rintro e w' ⟨rfl, hb⟩) | (go_at_call 36; refine (rect_Has _ _ _ _ _ _ _).mono ?_; rintro e w' ⟨rfl, hb⟩; rw [HH.out]) | (go_at_call 41; refine (ref_Has _ _ _ _ _ _ _).mono ?_; rintro e w' ⟨rfl, hb⟩; rw [HH.out]) | (go_at_call 33; refine (rect_Inside _ _ _ _ _ _ _ _ _).mono ?_; rintro e w' ⟨rfl, hb⟩; rw [HI.out]) | (go_at_call 42; refine (ref_Inside _ _ _ _ _ _ _ _ _).mono ?_; rintro e w' ⟨rfl, hb⟩; rw [HI.out]) | (go_at_call 34; go_split_ands; refine (rect_known _ (HP.out.below (Hid.out (by assumption)))).mono ?_; rintro e w' ⟨rfl, hb⟩))
    | fail "region"
  go_split_ands
  go_wp2_with fail
  go_ret
  exact ⟨rfl, Hid.out (by assumption)⟩
end Go.Proofs.YtkdabfepggehiaaDoor
