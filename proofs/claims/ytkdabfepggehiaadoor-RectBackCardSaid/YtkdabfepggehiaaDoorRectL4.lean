/- The walk of the law RectBack. -/
import Derived.Test.YtkdabfepggehiaaDoorRectB
import Derived.Test.YtkdabfepggehiaaDoorRectK
namespace Go.Proofs.YtkdabfepggehiaaDoor
open Go.RowKit

set_option maxRecDepth 100000 in
set_option maxHeartbeats 8000000 in
theorem RectBack_walk (a1 a2 a3 a4 : Int) (s : ByteArray) (w : World) (_ : (Lit.int .i64 a1).wf = true) (_ : (Lit.int .i64 a2).wf = true) (_ : (Lit.int .i64 a3).wf = true) (_ : (Lit.int .i64 a4).wf = true) (_hs : s.size ≤ maxLen)
    (hL : laidMetH Tryd.prog Rows.rectBackRow.laid w) (hS : w.ShapedOpen Tryd.prog) :
    Calls Tryd.prog 16 #[.agg #[.int .i64 a1, .int .i64 a2, .int .i64 a3, .int .i64 a4], .string s] w fun e w' => e = .returned (.bool true) ∧ Below w.heap.size w w' := by
  have HP := Lib.hid (pow_of_laid hL (by kernel_rfl))
  obtain ⟨m, hm⟩ := Tryd.laysM145.s1_3 w hS
  have HM := Lib.hid hm
  clear hL hm hS _hs
  have H1 := Lib.hid ((Ok.start w).alloc w.heap.size 38 [.int .i64 a1, .int .i64 a2, .int .i64 a3, .int .i64 a4] rfl)
  have hsm : (300 : Int) < (s.size : Int) ∨ ¬ (300 : Int) < (s.size : Int) := Classical.em _
  obtain ⟨R, hR⟩ : ∃ R, parseR s.data.toList = R := ⟨_, rfl⟩
  have hRc := parse_check s.data.toList
  rw [hR] at hRc
  obtain ⟨⟨r1, r2, r3, r4⟩, re⟩ := R
  simp only [] at hRc
  have HR := Lib.hid hR
  have HRC := Lib.hid hRc
  clear hR hRc
  rcases hsm with hsz | hsz
  · go_enter Tryd.func16, Tryd.ntmps16
    go_wp2_with fail
    generalize (w.alloc (.cells #[.int .i64 a1, .int .i64 a2, .int .i64 a3, .int .i64 a4] 38)) = W2 at H1 ⊢
    refine (rect_known _ (HP.out.below H1.out.bel)).mono ?_
    rintro e w3 ⟨rfl, hb4⟩
    have H5 := Lib.hid (H1.out.below hb4)
    clear hb4 H1
    go_wp2_with fail
    go_ret
    exact ⟨rfl, H5.out.bel⟩
  · go_enter Tryd.func16, Tryd.ntmps16
    go_wp2_with fail
    generalize (w.alloc (.cells #[.int .i64 a1, .int .i64 a2, .int .i64 a3, .int .i64 a4] 38)) = W2 at H1 ⊢
    cases ha : checkB ⟨a1, a2, a3, a4⟩
    · have HA := Lib.hid ha
      clear ha
      refine (rect_Format _ _ _ _ _ (HP.out.below H1.out.bel)).mono ?_
      rintro e w3 ⟨rfl, hb4⟩
      rw [fmtR_no HA.out]
      have H5 := Lib.hid (H1.out.below hb4)
      clear hb4 H1
      have F6 := H5.out.sees
      simp only [sees, kBlk, cellsAt, Nat.reduceAdd] at F6
      obtain ⟨⟨z0, c0_0, c0_1, c0_2, c0_3, -⟩, -⟩ := F6
      go_wp2_with fail
      refine (rect_Check _ _ _ _ _).mono ?_
      rintro e w7 ⟨rfl, hb8⟩
      rw [checkE_no HA.out]
      clear z0 c0_0 c0_1 c0_2 c0_3
      have H9 := Lib.hid (H5.out.below hb8)
      clear hb8 H5
      have F10 := H9.out.sees
      simp only [sees, kBlk, cellsAt, Nat.reduceAdd] at F10
      obtain ⟨⟨z0, c0_0, c0_1, c0_2, c0_3, -⟩, -⟩ := F10
      go_wp2_with fail
      by_cases he : re = 0
      · subst he
        have hck := HRC.out rfl
        have hU := fmtR_yes hck
        have hL := fmtL_len ⟨r1, r2, r3, r4⟩
        have hP := parse_fmt _ hck
        generalize fmtL ⟨r1, r2, r3, r4⟩ = L at hU hL hP
        have HU := Lib.hid hU
        have HPP := Lib.hid hP
        have HCK := Lib.hid hck
        clear hU hP hck
        refine (rect_Parse _ m _ (by omega) ((H9.out.bel.cell (World.block_lt_of_cell? _ _ HM.out)).trans HM.out)).mono ?_
        rintro e w11 ⟨rfl, hb12⟩
        rw [HR.out]
        clear z0 c0_0 c0_1 c0_2 c0_3
        have H13 := Lib.hid (H9.out.below hb12)
        clear hb12 H9
        have F14 := H13.out.sees
        simp only [sees, kBlk, cellsAt, Nat.reduceAdd] at F14
        obtain ⟨⟨z0, c0_0, c0_1, c0_2, c0_3, -⟩, -⟩ := F14
        go_wp2_with fail
        clear z0 c0_0 c0_1 c0_2 c0_3
        have H15 := Lib.hid (H13.out.alloc w11.heap.size 38 [.int .i64 r1, .int .i64 r2, .int .i64 r3, .int .i64 r4] rfl)
        clear H13
        generalize (w11.alloc (.cells #[.int .i64 r1, .int .i64 r2, .int .i64 r3, .int .i64 r4] 38)) = W16 at H15 ⊢
        refine (rect_Format _ _ _ _ _ (HP.out.below H15.out.bel)).mono ?_
        rintro e w17 ⟨rfl, hb18⟩
        rw [HU.out]
        have H19 := Lib.hid (H15.out.below hb18)
        clear hb18 H15
        have F20 := H19.out.sees
        simp only [sees, kBlk, cellsAt, Nat.reduceAdd] at F20
        obtain ⟨⟨z0, c0_0, c0_1, c0_2, c0_3, -⟩, ⟨z1, c1_0, c1_1, c1_2, c1_3, -⟩, -⟩ := F20
        go_wp2_with fail
        refine (rect_Parse_l _ m _ (by omega) ((H19.out.bel.cell (World.block_lt_of_cell? _ _ HM.out)).trans HM.out)).mono ?_
        rintro e w21 ⟨rfl, hb22⟩
        rw [HPP.out]
        clear z0 c0_0 c0_1 c0_2 c0_3 z1 c1_0 c1_1 c1_2 c1_3
        have H23 := Lib.hid (H19.out.below hb22)
        clear hb22 H19
        have F24 := H23.out.sees
        simp only [sees, kBlk, cellsAt, Nat.reduceAdd] at F24
        obtain ⟨⟨z0, c0_0, c0_1, c0_2, c0_3, -⟩, ⟨z1, c1_0, c1_1, c1_2, c1_3, -⟩, -⟩ := F24
        go_wp2_with fail
        clear z0 c0_0 c0_1 c0_2 c0_3 z1 c1_0 c1_1 c1_2 c1_3
        have H25 := Lib.hid (H23.out.alloc w21.heap.size 38 [.int .i64 r1, .int .i64 r2, .int .i64 r3, .int .i64 r4] rfl)
        clear H23
        generalize (w21.alloc (.cells #[.int .i64 r1, .int .i64 r2, .int .i64 r3, .int .i64 r4] 38)) = W26 at H25 ⊢
        refine (rect_Check _ _ _ _ _).mono ?_
        rintro e w27 ⟨rfl, hb28⟩
        rw [checkE_yes HCK.out]
        have H29 := Lib.hid (H25.out.below hb28)
        clear hb28 H25
        have F30 := H29.out.sees
        simp only [sees, kBlk, cellsAt, Nat.reduceAdd] at F30
        obtain ⟨⟨z0, c0_0, c0_1, c0_2, c0_3, -⟩, ⟨z1, c1_0, c1_1, c1_2, c1_3, -⟩, ⟨z2, c2_0, c2_1, c2_2, c2_3, -⟩, -⟩ := F30
        go_wp2_with fail
        refine (rect_known _ (HP.out.below H29.out.bel)).mono ?_
        rintro e w31 ⟨rfl, hb32⟩
        clear z0 c0_0 c0_1 c0_2 c0_3 z1 c1_0 c1_1 c1_2 c1_3 z2 c2_0 c2_1 c2_2 c2_3
        have H33 := Lib.hid (H29.out.below hb32)
        clear hb32 H29
        have F34 := H33.out.sees
        simp only [sees, kBlk, cellsAt, Nat.reduceAdd] at F34
        obtain ⟨⟨z0, c0_0, c0_1, c0_2, c0_3, -⟩, ⟨z1, c1_0, c1_1, c1_2, c1_3, -⟩, ⟨z2, c2_0, c2_1, c2_2, c2_3, -⟩, -⟩ := F34
        go_wp2_with fail
        go_ret
        exact ⟨rfl, H33.out.bel⟩
      · have he0 : (re != 0) = true := by simpa using he
        refine (rect_Parse _ m _ (by omega) ((H9.out.bel.cell (World.block_lt_of_cell? _ _ HM.out)).trans HM.out)).mono ?_
        rintro e w11 ⟨rfl, hb12⟩
        rw [HR.out]
        clear z0 c0_0 c0_1 c0_2 c0_3
        have H13 := Lib.hid (H9.out.below hb12)
        clear hb12 H9
        have F14 := H13.out.sees
        simp only [sees, kBlk, cellsAt, Nat.reduceAdd] at F14
        obtain ⟨⟨z0, c0_0, c0_1, c0_2, c0_3, -⟩, -⟩ := F14
        go_wp2_with fail
        clear z0 c0_0 c0_1 c0_2 c0_3
        have H15 := Lib.hid (H13.out.alloc w11.heap.size 38 [.int .i64 r1, .int .i64 r2, .int .i64 r3, .int .i64 r4] rfl)
        clear H13
        generalize (w11.alloc (.cells #[.int .i64 r1, .int .i64 r2, .int .i64 r3, .int .i64 r4] 38)) = W16 at H15 ⊢
        refine (rect_known _ (HP.out.below H15.out.bel)).mono ?_
        rintro e w17 ⟨rfl, hb18⟩
        have H19 := Lib.hid (H15.out.below hb18)
        clear hb18 H15
        have F20 := H19.out.sees
        simp only [sees, kBlk, cellsAt, Nat.reduceAdd] at F20
        obtain ⟨⟨z0, c0_0, c0_1, c0_2, c0_3, -⟩, ⟨z1, c1_0, c1_1, c1_2, c1_3, -⟩, -⟩ := F20
        go_wp2_with fail
        go_ret
        exact ⟨rfl, H19.out.bel⟩
    · have hV := fmtR_yes ha
      have hL2 := fmtL_len ⟨a1, a2, a3, a4⟩
      have hQ := parse_fmt _ ha
      generalize fmtL ⟨a1, a2, a3, a4⟩ = L2 at hV hL2 hQ
      have HV := Lib.hid hV
      have HQ := Lib.hid hQ
      have HA := Lib.hid ha
      clear hV hQ ha
      refine (rect_Format _ _ _ _ _ (HP.out.below H1.out.bel)).mono ?_
      rintro e w3 ⟨rfl, hb4⟩
      rw [HV.out]
      have H5 := Lib.hid (H1.out.below hb4)
      clear hb4 H1
      have F6 := H5.out.sees
      simp only [sees, kBlk, cellsAt, Nat.reduceAdd] at F6
      obtain ⟨⟨z0, c0_0, c0_1, c0_2, c0_3, -⟩, -⟩ := F6
      go_wp2_with fail
      refine (rect_Check _ _ _ _ _).mono ?_
      rintro e w7 ⟨rfl, hb8⟩
      rw [checkE_yes HA.out]
      clear z0 c0_0 c0_1 c0_2 c0_3
      have H9 := Lib.hid (H5.out.below hb8)
      clear hb8 H5
      have F10 := H9.out.sees
      simp only [sees, kBlk, cellsAt, Nat.reduceAdd] at F10
      obtain ⟨⟨z0, c0_0, c0_1, c0_2, c0_3, -⟩, -⟩ := F10
      go_wp2_with fail
      refine (rect_Parse_l _ m _ (by omega) ((H9.out.bel.cell (World.block_lt_of_cell? _ _ HM.out)).trans HM.out)).mono ?_
      rintro e w11 ⟨rfl, hb12⟩
      rw [HQ.out]
      clear z0 c0_0 c0_1 c0_2 c0_3
      have H13 := Lib.hid (H9.out.below hb12)
      clear hb12 H9
      have F14 := H13.out.sees
      simp only [sees, kBlk, cellsAt, Nat.reduceAdd] at F14
      obtain ⟨⟨z0, c0_0, c0_1, c0_2, c0_3, -⟩, -⟩ := F14
      go_wp2_with fail
      clear z0 c0_0 c0_1 c0_2 c0_3
      have H15 := Lib.hid (H13.out.alloc w11.heap.size 38 [.int .i64 a1, .int .i64 a2, .int .i64 a3, .int .i64 a4] rfl)
      clear H13
      generalize (w11.alloc (.cells #[.int .i64 a1, .int .i64 a2, .int .i64 a3, .int .i64 a4] 38)) = W16 at H15 ⊢
      by_cases he : re = 0
      · subst he
        have hck := HRC.out rfl
        have hU := fmtR_yes hck
        have hL := fmtL_len ⟨r1, r2, r3, r4⟩
        have hP := parse_fmt _ hck
        generalize fmtL ⟨r1, r2, r3, r4⟩ = L at hU hL hP
        have HU := Lib.hid hU
        have HPP := Lib.hid hP
        have HCK := Lib.hid hck
        clear hU hP hck
        refine (rect_Parse _ m _ (by omega) ((H15.out.bel.cell (World.block_lt_of_cell? _ _ HM.out)).trans HM.out)).mono ?_
        rintro e w17 ⟨rfl, hb18⟩
        rw [HR.out]
        have H19 := Lib.hid (H15.out.below hb18)
        clear hb18 H15
        have F20 := H19.out.sees
        simp only [sees, kBlk, cellsAt, Nat.reduceAdd] at F20
        obtain ⟨⟨z0, c0_0, c0_1, c0_2, c0_3, -⟩, ⟨z1, c1_0, c1_1, c1_2, c1_3, -⟩, -⟩ := F20
        go_wp2_with fail
        clear z0 c0_0 c0_1 c0_2 c0_3 z1 c1_0 c1_1 c1_2 c1_3
        have H21 := Lib.hid (H19.out.alloc w17.heap.size 38 [.int .i64 r1, .int .i64 r2, .int .i64 r3, .int .i64 r4] rfl)
        clear H19
        generalize (w17.alloc (.cells #[.int .i64 r1, .int .i64 r2, .int .i64 r3, .int .i64 r4] 38)) = W22 at H21 ⊢
        refine (rect_Format _ _ _ _ _ (HP.out.below H21.out.bel)).mono ?_
        rintro e w23 ⟨rfl, hb24⟩
        rw [HU.out]
        have H25 := Lib.hid (H21.out.below hb24)
        clear hb24 H21
        have F26 := H25.out.sees
        simp only [sees, kBlk, cellsAt, Nat.reduceAdd] at F26
        obtain ⟨⟨z0, c0_0, c0_1, c0_2, c0_3, -⟩, ⟨z1, c1_0, c1_1, c1_2, c1_3, -⟩, ⟨z2, c2_0, c2_1, c2_2, c2_3, -⟩, -⟩ := F26
        go_wp2_with fail
        refine (rect_Parse_l _ m _ (by omega) ((H25.out.bel.cell (World.block_lt_of_cell? _ _ HM.out)).trans HM.out)).mono ?_
        rintro e w27 ⟨rfl, hb28⟩
        rw [HPP.out]
        clear z0 c0_0 c0_1 c0_2 c0_3 z1 c1_0 c1_1 c1_2 c1_3 z2 c2_0 c2_1 c2_2 c2_3
        have H29 := Lib.hid (H25.out.below hb28)
        clear hb28 H25
        have F30 := H29.out.sees
        simp only [sees, kBlk, cellsAt, Nat.reduceAdd] at F30
        obtain ⟨⟨z0, c0_0, c0_1, c0_2, c0_3, -⟩, ⟨z1, c1_0, c1_1, c1_2, c1_3, -⟩, ⟨z2, c2_0, c2_1, c2_2, c2_3, -⟩, -⟩ := F30
        go_wp2_with fail
        clear z0 c0_0 c0_1 c0_2 c0_3 z1 c1_0 c1_1 c1_2 c1_3 z2 c2_0 c2_1 c2_2 c2_3
        have H31 := Lib.hid (H29.out.alloc w27.heap.size 38 [.int .i64 r1, .int .i64 r2, .int .i64 r3, .int .i64 r4] rfl)
        clear H29
        generalize (w27.alloc (.cells #[.int .i64 r1, .int .i64 r2, .int .i64 r3, .int .i64 r4] 38)) = W32 at H31 ⊢
        refine (rect_Check _ _ _ _ _).mono ?_
        rintro e w33 ⟨rfl, hb34⟩
        rw [checkE_yes HCK.out]
        have H35 := Lib.hid (H31.out.below hb34)
        clear hb34 H31
        have F36 := H35.out.sees
        simp only [sees, kBlk, cellsAt, Nat.reduceAdd] at F36
        obtain ⟨⟨z0, c0_0, c0_1, c0_2, c0_3, -⟩, ⟨z1, c1_0, c1_1, c1_2, c1_3, -⟩, ⟨z2, c2_0, c2_1, c2_2, c2_3, -⟩, ⟨z3, c3_0, c3_1, c3_2, c3_3, -⟩, -⟩ := F36
        go_wp2_with fail
        refine (rect_known _ (HP.out.below H35.out.bel)).mono ?_
        rintro e w37 ⟨rfl, hb38⟩
        clear z0 c0_0 c0_1 c0_2 c0_3 z1 c1_0 c1_1 c1_2 c1_3 z2 c2_0 c2_1 c2_2 c2_3 z3 c3_0 c3_1 c3_2 c3_3
        have H39 := Lib.hid (H35.out.below hb38)
        clear hb38 H35
        have F40 := H39.out.sees
        simp only [sees, kBlk, cellsAt, Nat.reduceAdd] at F40
        obtain ⟨⟨z0, c0_0, c0_1, c0_2, c0_3, -⟩, ⟨z1, c1_0, c1_1, c1_2, c1_3, -⟩, ⟨z2, c2_0, c2_1, c2_2, c2_3, -⟩, ⟨z3, c3_0, c3_1, c3_2, c3_3, -⟩, -⟩ := F40
        go_wp2_with fail
        go_ret
        exact ⟨rfl, H39.out.bel⟩
      · have he0 : (re != 0) = true := by simpa using he
        refine (rect_Parse _ m _ (by omega) ((H15.out.bel.cell (World.block_lt_of_cell? _ _ HM.out)).trans HM.out)).mono ?_
        rintro e w17 ⟨rfl, hb18⟩
        rw [HR.out]
        have H19 := Lib.hid (H15.out.below hb18)
        clear hb18 H15
        have F20 := H19.out.sees
        simp only [sees, kBlk, cellsAt, Nat.reduceAdd] at F20
        obtain ⟨⟨z0, c0_0, c0_1, c0_2, c0_3, -⟩, ⟨z1, c1_0, c1_1, c1_2, c1_3, -⟩, -⟩ := F20
        go_wp2_with fail
        clear z0 c0_0 c0_1 c0_2 c0_3 z1 c1_0 c1_1 c1_2 c1_3
        have H21 := Lib.hid (H19.out.alloc w17.heap.size 38 [.int .i64 r1, .int .i64 r2, .int .i64 r3, .int .i64 r4] rfl)
        clear H19
        generalize (w17.alloc (.cells #[.int .i64 r1, .int .i64 r2, .int .i64 r3, .int .i64 r4] 38)) = W22 at H21 ⊢
        refine (rect_known _ (HP.out.below H21.out.bel)).mono ?_
        rintro e w23 ⟨rfl, hb24⟩
        have H25 := Lib.hid (H21.out.below hb24)
        clear hb24 H21
        have F26 := H25.out.sees
        simp only [sees, kBlk, cellsAt, Nat.reduceAdd] at F26
        obtain ⟨⟨z0, c0_0, c0_1, c0_2, c0_3, -⟩, ⟨z1, c1_0, c1_1, c1_2, c1_3, -⟩, ⟨z2, c2_0, c2_1, c2_2, c2_3, -⟩, -⟩ := F26
        go_wp2_with fail
        go_ret
        exact ⟨rfl, H25.out.bel⟩
end Go.Proofs.YtkdabfepggehiaaDoor
