/- The walk of the law RectTexts. -/
import Derived.Test.YtkdabfepggehiaaDoorRectT
import Derived.Test.YtkdabfepggehiaaDoorRectK
namespace Go.Proofs.YtkdabfepggehiaaDoor
open Go.RowKit

set_option maxRecDepth 100000 in
set_option maxHeartbeats 8000000 in
theorem RectTexts_walk (a1 a2 a3 a4 : Int) (s : ByteArray) (w : World) (_ : (Lit.int .i64 a1).wf = true) (_ : (Lit.int .i64 a2).wf = true) (_ : (Lit.int .i64 a3).wf = true) (_ : (Lit.int .i64 a4).wf = true) (_hs : s.size ≤ maxLen)
    (hL : laidMetH Tryd.prog Rows.rectTextsRow.laid w) (hS : w.ShapedOpen Tryd.prog) :
    Calls Tryd.prog 15 #[.agg #[.int .i64 a1, .int .i64 a2, .int .i64 a3, .int .i64 a4], .string s] w fun e w' => e = .returned (.bool true) ∧ Below w.heap.size w w' := by
  have HP := Lib.hid (pow_of_laid hL (by kernel_rfl))
  obtain ⟨m, hm⟩ := Tryd.laysM145.s1_3 w hS
  have HM := Lib.hid hm
  clear hL hm hS _hs
  have H1 := Lib.hid ((Ok.start w).alloc w.heap.size 38 [.int .i64 a1, .int .i64 a2, .int .i64 a3, .int .i64 a4] rfl)
  have hsm : (2000 : Int) < (s.size : Int) ∨ ¬ (2000 : Int) < (s.size : Int) := Classical.em _
  obtain ⟨R, hR⟩ : ∃ R, parseR s.data.toList = R := ⟨_, rfl⟩
  obtain ⟨⟨r1, r2, r3, r4⟩, re⟩ := R
  obtain ⟨U, hU⟩ : ∃ U, fmtR ⟨a1, a2, a3, a4⟩ = U := ⟨_, rfl⟩
  obtain ⟨ul, ue⟩ := U
  have HR := Lib.hid hR
  have HU := Lib.hid hU
  clear hR hU
  rcases hsm with hsz | hsz
  · go_enter Tryd.func15, Tryd.ntmps15
    go_wp2_with fail
    generalize (w.alloc (.cells #[.int .i64 a1, .int .i64 a2, .int .i64 a3, .int .i64 a4] 38)) = W2 at H1 ⊢
    refine (rect_known _ (HP.out.below H1.out.bel)).mono ?_
    rintro e w3 ⟨rfl, hb4⟩
    have H5 := Lib.hid (H1.out.below hb4)
    clear hb4 H1
    go_wp2_with fail
    go_ret
    exact ⟨rfl, H5.out.bel⟩
  · go_enter Tryd.func15, Tryd.ntmps15
    go_wp2_with fail
    generalize (w.alloc (.cells #[.int .i64 a1, .int .i64 a2, .int .i64 a3, .int .i64 a4] 38)) = W2 at H1 ⊢
    refine (rect_Parse _ m _ (by omega) ((H1.out.bel.cell (World.block_lt_of_cell? _ _ HM.out)).trans HM.out)).mono ?_
    rintro e w3 ⟨rfl, hb4⟩
    rw [HR.out]
    have H5 := Lib.hid (H1.out.below hb4)
    clear hb4 H1
    have F6 := H5.out.sees
    simp only [sees, kBlk, cellsAt, Nat.reduceAdd] at F6
    obtain ⟨⟨z0, c0_0, c0_1, c0_2, c0_3, -⟩, -⟩ := F6
    go_wp2_with fail
    clear z0 c0_0 c0_1 c0_2 c0_3
    have H7 := Lib.hid (H5.out.alloc w3.heap.size 38 [.int .i64 r1, .int .i64 r2, .int .i64 r3, .int .i64 r4] rfl)
    clear H5
    generalize (w3.alloc (.cells #[.int .i64 r1, .int .i64 r2, .int .i64 r3, .int .i64 r4] 38)) = W8 at H7 ⊢
    refine (ref3_Parse _ _ (by omega)).mono ?_
    rintro e w9 ⟨rfl, hb10⟩
    rw [HR.out]
    have H11 := Lib.hid (H7.out.below hb10)
    clear hb10 H7
    have F12 := H11.out.sees
    simp only [sees, kBlk, cellsAt, Nat.reduceAdd] at F12
    obtain ⟨⟨z0, c0_0, c0_1, c0_2, c0_3, -⟩, ⟨z1, c1_0, c1_1, c1_2, c1_3, -⟩, -⟩ := F12
    go_wp2_with fail
    clear z0 c0_0 c0_1 c0_2 c0_3 z1 c1_0 c1_1 c1_2 c1_3
    have H13 := Lib.hid (H11.out.alloc w9.heap.size 38 [.int .i64 r1, .int .i64 r2, .int .i64 r3, .int .i64 r4] rfl)
    clear H11
    generalize (w9.alloc (.cells #[.int .i64 r1, .int .i64 r2, .int .i64 r3, .int .i64 r4] 38)) = W14 at H13 ⊢
    refine (rect_Format _ _ _ _ _ (HP.out.below H13.out.bel)).mono ?_
    rintro e w15 ⟨rfl, hb16⟩
    rw [HU.out]
    have H17 := Lib.hid (H13.out.below hb16)
    clear hb16 H13
    have F18 := H17.out.sees
    simp only [sees, kBlk, cellsAt, Nat.reduceAdd] at F18
    obtain ⟨⟨z0, c0_0, c0_1, c0_2, c0_3, -⟩, ⟨z1, c1_0, c1_1, c1_2, c1_3, -⟩, ⟨z2, c2_0, c2_1, c2_2, c2_3, -⟩, -⟩ := F18
    go_wp2_with fail
    refine (ref3_Format _ _ _ _ _).mono ?_
    rintro e w19 ⟨rfl, hb20⟩
    rw [HU.out]
    clear z0 c0_0 c0_1 c0_2 c0_3 z1 c1_0 c1_1 c1_2 c1_3 z2 c2_0 c2_1 c2_2 c2_3
    have H21 := Lib.hid (H17.out.below hb20)
    clear hb20 H17
    have F22 := H21.out.sees
    simp only [sees, kBlk, cellsAt, Nat.reduceAdd] at F22
    obtain ⟨⟨z0, c0_0, c0_1, c0_2, c0_3, -⟩, ⟨z1, c1_0, c1_1, c1_2, c1_3, -⟩, ⟨z2, c2_0, c2_1, c2_2, c2_3, -⟩, -⟩ := F22
    go_wp2_with fail
    go_ret
    exact ⟨rfl, H21.out.bel⟩
end Go.Proofs.YtkdabfepggehiaaDoor
