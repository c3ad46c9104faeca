/- The walk of the law AddrPlaces. -/
import Derived.Test.YtkdabfepggehiaaDoorAddrO
import Derived.Test.YtkdabfepggehiaaDoorAddrL3
namespace Go.Proofs.YtkdabfepggehiaaDoor
open Go.RowKit

set_option maxRecDepth 100000 in
set_option maxHeartbeats 8000000 in
theorem AddrPlaces_walk (i j : Int) (w : World) (hi : (Lit.int .i64 i).wf = true) (hj : (Lit.int .i64 j).wf = true)
    (hL : laidMetH Tryd.prog Rows.addrPlacesRow.laid w) (_ : w.ShapedOpen Tryd.prog) :
    Calls Tryd.prog 10 #[.int .i64 i, .int .i64 j] w fun e w' => e = .returned (.bool true) ∧ Below w.heap.size w w' := by
  have HP := Lib.hid (pow_of_laid hL (by kernel_rfl))
  clear hL
  obtain ⟨i1, i2⟩ := bounds_i64 hi
  obtain ⟨j1, j2⟩ := bounds_i64 hj
  clear hi hj
  rcases (show i < 0 ∨ (0 ≤ i ∧ 1048576 ≤ i) ∨ (0 ≤ i ∧ i < 1048576) from by omega) with a1 | ⟨a1, a2⟩ | ⟨a1, a2⟩
  · rcases (show j < 0 ∨ (0 ≤ j ∧ 1048576 ≤ j) ∨ (0 ≤ j ∧ j < 1048576) from by omega) with b1 | ⟨b1, b2⟩ | ⟨b1, b2⟩
    · go_enter Tryd.func10, Tryd.ntmps10
      go_wp2_with fail
      refine (addr_At _ _ i1 i2).mono ?_
      rintro e w1 ⟨rfl, hb1⟩
      rw [atS_bad i (by omega)]
      have HB1 := Lib.hid hb1
      clear hb1
      go_wp2_with fail
      refine (addr_At _ _ j1 j2).mono ?_
      rintro e w2 ⟨rfl, hb2⟩
      rw [atS_bad j (by omega)]
      have k1 := (Blk.new w1 23 #[.int .i64 0, .int .i64 0]).below hb2 (by simp)
      have hz1 : w1.heap.size < w2.heap.size := by have := hb2.size; simp at this; omega
      have HB2 := Lib.hid (below_step (HB1.out.alloc HB1.out.size _) hb2)
      clear hb2
      have HK := Lib.hid k1
      clear k1
      go_wp2_with fail
      refine (addr_known _ (HP.out.below (HB2.out.alloc HB2.out.size _))).mono ?_
      rintro e wk ⟨rfl, hbk⟩
      have HBk := Lib.hid (below_step (HB2.out.alloc HB2.out.size _) hbk)
      clear hbk
      go_wp2_with fail
      go_ret
      exact ⟨rfl, HBk.out⟩
    · go_enter Tryd.func10, Tryd.ntmps10
      go_wp2_with fail
      refine (addr_At _ _ i1 i2).mono ?_
      rintro e w1 ⟨rfl, hb1⟩
      rw [atS_bad i (by omega)]
      have HB1 := Lib.hid hb1
      clear hb1
      go_wp2_with fail
      refine (addr_At _ _ j1 j2).mono ?_
      rintro e w2 ⟨rfl, hb2⟩
      rw [atS_bad j (by omega)]
      have k1 := (Blk.new w1 23 #[.int .i64 0, .int .i64 0]).below hb2 (by simp)
      have hz1 : w1.heap.size < w2.heap.size := by have := hb2.size; simp at this; omega
      have HB2 := Lib.hid (below_step (HB1.out.alloc HB1.out.size _) hb2)
      clear hb2
      have HK := Lib.hid k1
      clear k1
      go_wp2_with fail
      refine (addr_known _ (HP.out.below (HB2.out.alloc HB2.out.size _))).mono ?_
      rintro e wk ⟨rfl, hbk⟩
      have HBk := Lib.hid (below_step (HB2.out.alloc HB2.out.size _) hbk)
      clear hbk
      go_wp2_with fail
      go_ret
      exact ⟨rfl, HBk.out⟩
    · go_enter Tryd.func10, Tryd.ntmps10
      go_wp2_with fail
      refine (addr_At _ _ i1 i2).mono ?_
      rintro e w1 ⟨rfl, hb1⟩
      rw [atS_bad i (by omega)]
      have HB1 := Lib.hid hb1
      clear hb1
      go_wp2_with fail
      refine (addr_At _ _ j1 j2).mono ?_
      rintro e w2 ⟨rfl, hb2⟩
      rw [atS_good j b1 b2]
      have k1 := (Blk.new w1 23 #[.int .i64 0, .int .i64 0]).below hb2 (by simp)
      have hz1 : w1.heap.size < w2.heap.size := by have := hb2.size; simp at this; omega
      have HB2 := Lib.hid (below_step (HB1.out.alloc HB1.out.size _) hb2)
      clear hb2
      have HK := Lib.hid k1
      clear k1
      go_wp2_with fail
      refine (addr_known _ (HP.out.below (HB2.out.alloc HB2.out.size _))).mono ?_
      rintro e wk ⟨rfl, hbk⟩
      have HBk := Lib.hid (below_step (HB2.out.alloc HB2.out.size _) hbk)
      clear hbk
      go_wp2_with fail
      go_ret
      exact ⟨rfl, HBk.out⟩
  · rcases (show j < 0 ∨ (0 ≤ j ∧ 1048576 ≤ j) ∨ (0 ≤ j ∧ j < 1048576) from by omega) with b1 | ⟨b1, b2⟩ | ⟨b1, b2⟩
    · go_enter Tryd.func10, Tryd.ntmps10
      go_wp2_with fail
      refine (addr_At _ _ i1 i2).mono ?_
      rintro e w1 ⟨rfl, hb1⟩
      rw [atS_bad i (by omega)]
      have HB1 := Lib.hid hb1
      clear hb1
      go_wp2_with fail
      refine (addr_At _ _ j1 j2).mono ?_
      rintro e w2 ⟨rfl, hb2⟩
      rw [atS_bad j (by omega)]
      have k1 := (Blk.new w1 23 #[.int .i64 0, .int .i64 0]).below hb2 (by simp)
      have hz1 : w1.heap.size < w2.heap.size := by have := hb2.size; simp at this; omega
      have HB2 := Lib.hid (below_step (HB1.out.alloc HB1.out.size _) hb2)
      clear hb2
      have HK := Lib.hid k1
      clear k1
      go_wp2_with fail
      refine (addr_known _ (HP.out.below (HB2.out.alloc HB2.out.size _))).mono ?_
      rintro e wk ⟨rfl, hbk⟩
      have HBk := Lib.hid (below_step (HB2.out.alloc HB2.out.size _) hbk)
      clear hbk
      go_wp2_with fail
      go_ret
      exact ⟨rfl, HBk.out⟩
    · go_enter Tryd.func10, Tryd.ntmps10
      go_wp2_with fail
      refine (addr_At _ _ i1 i2).mono ?_
      rintro e w1 ⟨rfl, hb1⟩
      rw [atS_bad i (by omega)]
      have HB1 := Lib.hid hb1
      clear hb1
      go_wp2_with fail
      refine (addr_At _ _ j1 j2).mono ?_
      rintro e w2 ⟨rfl, hb2⟩
      rw [atS_bad j (by omega)]
      have k1 := (Blk.new w1 23 #[.int .i64 0, .int .i64 0]).below hb2 (by simp)
      have hz1 : w1.heap.size < w2.heap.size := by have := hb2.size; simp at this; omega
      have HB2 := Lib.hid (below_step (HB1.out.alloc HB1.out.size _) hb2)
      clear hb2
      have HK := Lib.hid k1
      clear k1
      go_wp2_with fail
      refine (addr_known _ (HP.out.below (HB2.out.alloc HB2.out.size _))).mono ?_
      rintro e wk ⟨rfl, hbk⟩
      have HBk := Lib.hid (below_step (HB2.out.alloc HB2.out.size _) hbk)
      clear hbk
      go_wp2_with fail
      go_ret
      exact ⟨rfl, HBk.out⟩
    · go_enter Tryd.func10, Tryd.ntmps10
      go_wp2_with fail
      refine (addr_At _ _ i1 i2).mono ?_
      rintro e w1 ⟨rfl, hb1⟩
      rw [atS_bad i (by omega)]
      have HB1 := Lib.hid hb1
      clear hb1
      go_wp2_with fail
      refine (addr_At _ _ j1 j2).mono ?_
      rintro e w2 ⟨rfl, hb2⟩
      rw [atS_good j b1 b2]
      have k1 := (Blk.new w1 23 #[.int .i64 0, .int .i64 0]).below hb2 (by simp)
      have hz1 : w1.heap.size < w2.heap.size := by have := hb2.size; simp at this; omega
      have HB2 := Lib.hid (below_step (HB1.out.alloc HB1.out.size _) hb2)
      clear hb2
      have HK := Lib.hid k1
      clear k1
      go_wp2_with fail
      refine (addr_known _ (HP.out.below (HB2.out.alloc HB2.out.size _))).mono ?_
      rintro e wk ⟨rfl, hbk⟩
      have HBk := Lib.hid (below_step (HB2.out.alloc HB2.out.size _) hbk)
      clear hbk
      go_wp2_with fail
      go_ret
      exact ⟨rfl, HBk.out⟩
  · rcases (show j < 0 ∨ (0 ≤ j ∧ 1048576 ≤ j) ∨ (0 ≤ j ∧ j < 1048576) from by omega) with b1 | ⟨b1, b2⟩ | ⟨b1, b2⟩
    · go_enter Tryd.func10, Tryd.ntmps10
      go_wp2_with fail
      refine (addr_At _ _ i1 i2).mono ?_
      rintro e w1 ⟨rfl, hb1⟩
      rw [atS_good i a1 a2]
      have HB1 := Lib.hid hb1
      clear hb1
      go_wp2_with fail
      refine (addr_At _ _ j1 j2).mono ?_
      rintro e w2 ⟨rfl, hb2⟩
      rw [atS_bad j (by omega)]
      have k1 := (Blk.new w1 23 #[.int .i64 (i % 1024 + 1), .int .i64 (i / 1024 + 1)]).below hb2 (by simp)
      have hz1 : w1.heap.size < w2.heap.size := by have := hb2.size; simp at this; omega
      have HB2 := Lib.hid (below_step (HB1.out.alloc HB1.out.size _) hb2)
      clear hb2
      have HK := Lib.hid k1
      clear k1
      go_wp2_with fail
      refine (addr_known _ (HP.out.below (HB2.out.alloc HB2.out.size _))).mono ?_
      rintro e wk ⟨rfl, hbk⟩
      have HBk := Lib.hid (below_step (HB2.out.alloc HB2.out.size _) hbk)
      clear hbk
      go_wp2_with fail
      go_ret
      exact ⟨rfl, HBk.out⟩
    · go_enter Tryd.func10, Tryd.ntmps10
      go_wp2_with fail
      refine (addr_At _ _ i1 i2).mono ?_
      rintro e w1 ⟨rfl, hb1⟩
      rw [atS_good i a1 a2]
      have HB1 := Lib.hid hb1
      clear hb1
      go_wp2_with fail
      refine (addr_At _ _ j1 j2).mono ?_
      rintro e w2 ⟨rfl, hb2⟩
      rw [atS_bad j (by omega)]
      have k1 := (Blk.new w1 23 #[.int .i64 (i % 1024 + 1), .int .i64 (i / 1024 + 1)]).below hb2 (by simp)
      have hz1 : w1.heap.size < w2.heap.size := by have := hb2.size; simp at this; omega
      have HB2 := Lib.hid (below_step (HB1.out.alloc HB1.out.size _) hb2)
      clear hb2
      have HK := Lib.hid k1
      clear k1
      go_wp2_with fail
      refine (addr_known _ (HP.out.below (HB2.out.alloc HB2.out.size _))).mono ?_
      rintro e wk ⟨rfl, hbk⟩
      have HBk := Lib.hid (below_step (HB2.out.alloc HB2.out.size _) hbk)
      clear hbk
      go_wp2_with fail
      go_ret
      exact ⟨rfl, HBk.out⟩
    · obtain ⟨ic, hic⟩ : ∃ x, x = i % 1024 + 1 := ⟨_, rfl⟩
      obtain ⟨ir, hir⟩ : ∃ x, x = i / 1024 + 1 := ⟨_, rfl⟩
      obtain ⟨jc, hjc⟩ : ∃ x, x = j % 1024 + 1 := ⟨_, rfl⟩
      obtain ⟨jr, hjr⟩ : ∃ x, x = j / 1024 + 1 := ⟨_, rfl⟩
      have HIX : Hid (indexS ic ir = (i, 0)) := by rw [hic, hir]; exact index_at i a1 a2
      have HJX : Hid (indexS jc jr = (j, 0)) := by rw [hjc, hjr]; exact index_at j b1 b2
      have HLS : Hid (lessS ic ir jc jr = decide (i < j)) := by rw [hic, hir, hjc, hjr]; exact less_at i j a1 b1
      have hic1 : 1 ≤ ic ∧ ic ≤ 1024 := by omega
      have hjc1 : 1 ≤ jc ∧ jc ≤ 1024 := by omega
      have HAI : Hid (atS i = (ic, ir, 0)) := by rw [hic, hir]; exact atS_good i a1 a2
      have HAJ : Hid (atS j = (jc, jr, 0)) := by rw [hjc, hjr]; exact atS_good j b1 b2
      have HCJ : Hid ((ic < jc) = (i % 1024 < j % 1024)) := by show _ = _; apply propext; constructor <;> intro _ <;> omega
      clear hic hir hjc hjr
      go_enter Tryd.func10, Tryd.ntmps10
      go_wp2_with fail
      refine (addr_At _ _ i1 i2).mono ?_
      rintro e w1 ⟨rfl, hb1⟩
      rw [HAI.out]
      have HB1 := Lib.hid hb1
      clear hb1
      go_wp2_with fail
      refine (addr_At _ _ j1 j2).mono ?_
      rintro e w2 ⟨rfl, hb2⟩
      rw [HAJ.out]
      have k1 := (Blk.new w1 23 #[.int .i64 ic, .int .i64 ir]).below hb2 (by simp)
      have hz1 : w1.heap.size < w2.heap.size := by have := hb2.size; simp at this; omega
      have HB2 := Lib.hid (below_step (HB1.out.alloc HB1.out.size _) hb2)
      clear hb2
      have k1' := k1.alloc (.cells #[.int .i64 jc, .int .i64 jr] 23)
      have k2 := Blk.new w2 23 #[.int .i64 jc, .int .i64 jr]
      have HB3 : Hid (Below w.heap.size w (w2.alloc (.cells #[.int .i64 jc, .int .i64 jr] 23))) := HB2.out.alloc HB2.out.size _
      have hz2 : w2.heap.size < (w2.alloc (.cells #[.int .i64 jc, .int .i64 jr] 23)).heap.size := by simp
      have c0 := k1'.cell 0
      have c1 := k1'.cell 1
      have d0 := k2.cell 0
      have d1 := k2.cell 1
      simp only [List.getElem?_toArray, List.getElem?_cons_zero, List.getElem?_cons_succ] at c0 c1 d0 d1
      clear k1 k1' k2 HB2
      go_wp2_with fail
      generalize (w2.alloc (.cells #[.int .i64 jc, .int .i64 jr] 23)) = W3 at c0 c1 d0 d1 HB3 hz2 ⊢
      refine (addr_Index _ _ _).mono ?_
      rintro e w4 ⟨rfl, hb4⟩
      rw [HIX.out]
      have hz4 := hb4.size
      have c0' := cell_step hb4 c0
      have c1' := cell_step hb4 c1
      have d0' := cell_step hb4 d0
      have d1' := cell_step hb4 d1
      have HB4 := Lib.hid (below_step HB3.out hb4)
      clear hb4 c0 c1 d0 d1
      go_wp2_with fail
      refine (addr_Index _ _ _).mono ?_
      rintro e w5 ⟨rfl, hb5⟩
      rw [HJX.out]
      have c0 := cell_step hb5 c0'
      have c1 := cell_step hb5 c1'
      have d0 := cell_step hb5 d0'
      have d1 := cell_step hb5 d1'
      have HB5 := Lib.hid (below_step HB4.out hb5)
      clear hb5 c0' c1' d0' d1'
      go_wp2_with fail
      refine (addr_Less _ _ _ _ _).mono ?_
      rintro e w6 ⟨rfl, hb6⟩
      rw [HLS.out]
      have c0' := cell_step hb6 c0
      have d0' := cell_step hb6 d0
      have HB6 := Lib.hid (below_step HB5.out hb6)
      clear hb6 c0 c1 d0 d1
      have hLI : lettersC ic = (lettersN ic.toNat, 0) := by unfold lettersC; rw [if_pos hic1]
      have hLJ : lettersC jc = (lettersN jc.toNat, 0) := by unfold lettersC; rw [if_pos hjc1]
      have hbf : beforeL (lettersN ic.toNat) (lettersN jc.toNat) = decide (ic < jc) := by rw [before_iff, decide_eq_decide]; omega
      generalize lettersN ic.toNat = LI at hLI hbf
      generalize lettersN jc.toNat = LJ at hLJ hbf
      have HLI := Lib.hid hLI
      have HLJ := Lib.hid hLJ
      have HBF := Lib.hid hbf
      clear hLI hLJ hbf
      go_wp2_with fail
      refine (addr_Letters _ _ (by omega) (by omega)).mono ?_
      rintro e w7 ⟨rfl, rfl⟩
      rw [HLI.out]
      go_wp2_with fail
      refine (addr_Letters _ _ (by omega) (by omega)).mono ?_
      rintro e w8 ⟨rfl, rfl⟩
      rw [HLJ.out]
      have hb9 := HBF.out
      unfold beforeL at hb9
      rcases Nat.lt_trichotomy LI.length LJ.length with hl | hl | hl
      · rw [decide_eq_true (by omega), Bool.true_or] at hb9
        have hb9' : ic < jc := by simpa using hb9.symm
        clear hb9
        go_wp2_with (go_at_call 30; refine (addr_known _ (HP.out.below HB6.out)).mono ?_; rintro e wk ⟨rfl, hbk⟩; have HBk := Lib.hid (below_step HB6.out hbk); clear hbk)
        go_ret
        exact ⟨rfl, HBk.out⟩
      · rw [hl] at hb9
        simp only [Int.lt_irrefl, decide_false, Bool.false_or, beq_self_eq_true, Bool.true_and] at hb9
        have hnl : ¬ ((LI.length : Int) < (LJ.length : Int)) := by omega
        have hel : ((LI.length : Int) == (LJ.length : Int)) = true := by rw [hl]; simp
        have HL2 := Lib.hid hl
        clear hl
        cases hbl : Go.Op.bytesLess LI LJ
        · rw [hbl] at hb9
          have hb9' : ¬ ic < jc := by simpa using hb9.symm
          clear hb9
          go_wp2_with (go_at_call 30; refine (addr_known _ (HP.out.below HB6.out)).mono ?_; rintro e wk ⟨rfl, hbk⟩; have HBk := Lib.hid (below_step HB6.out hbk); clear hbk)
          go_ret
          exact ⟨rfl, HBk.out⟩
        · rw [hbl] at hb9
          have hb9' : ic < jc := by simpa using hb9.symm
          clear hb9
          go_wp2_with (go_at_call 30; refine (addr_known _ (HP.out.below HB6.out)).mono ?_; rintro e wk ⟨rfl, hbk⟩; have HBk := Lib.hid (below_step HB6.out hbk); clear hbk)
          go_ret
          exact ⟨rfl, HBk.out⟩
      · rw [decide_eq_false (by omega), Bool.false_or, show (((LI.length : Int) == (LJ.length : Int)) = false) from by rw [beq_eq_false_iff_ne]; omega, Bool.false_and] at hb9
        have hb9' : ¬ ic < jc := by simpa using hb9.symm
        have hel : ((LI.length : Int) == (LJ.length : Int)) = false := by rw [beq_eq_false_iff_ne]; omega
        clear hb9
        go_wp2_with (go_at_call 30; refine (addr_known _ (HP.out.below HB6.out)).mono ?_; rintro e wk ⟨rfl, hbk⟩; have HBk := Lib.hid (below_step HB6.out hbk); clear hbk)
        go_ret
        exact ⟨rfl, HBk.out⟩
end Go.Proofs.YtkdabfepggehiaaDoor
