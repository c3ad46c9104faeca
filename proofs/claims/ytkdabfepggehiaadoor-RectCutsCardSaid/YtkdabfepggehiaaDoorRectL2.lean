/- The walk of the law RectMeets. -/
import Derived.Test.YtkdabfepggehiaaDoorCorn
import Derived.Test.YtkdabfepggehiaaDoorRectK
import Derived.Test.YtkdabfepggehiaaDoorRectIn
import Derived.Deep.DeepCutAuto
namespace Go.Proofs.YtkdabfepggehiaaDoor
open Go.RowKit

theorem rfCells_len (l : List (Int × Int)) : (rfCells l).length = l.length * 2 := by
  induction l with
  | nil => rfl
  | cons p l ih => simp [rfCells] at ih ⊢; omega
theorem rfCells_append (l m : List (Int × Int)) : rfCells (l ++ m) = rfCells l ++ rfCells m := by simp [rfCells]
theorem rfCells_one (l : List (Int × Int)) : ∀ u ∈ rfCells l, u.oneCell' = true := by
  intro u hu
  simp only [rfCells, List.mem_flatMap] at hu
  obtain ⟨p, _, hp⟩ := hu
  simp at hp
  rcases hp with rfl | rfl <;> rfl

theorem rfCells_pair (l : List (Int × Int)) : ∀ k, k < l.length → ∃ x y, (rfCells l)[k * 2]? = some (.int .i64 x) ∧ (rfCells l)[k * 2 + 1]? = some (.int .i64 y) := by
  induction l with
  | nil => intro k hk; simp at hk
  | cons p l ih =>
    intro k hk
    have e : rfCells (p :: l) = .int .i64 p.1 :: .int .i64 p.2 :: rfCells l := by simp [rfCells]
    rw [e]
    match k with
    | 0 => exact ⟨p.1, p.2, rfl, rfl⟩
    | k + 1 =>
      obtain ⟨x, y, h1, h2⟩ := ih k (by simpa using hk)
      refine ⟨x, y, ?_, ?_⟩
      · rw [show (k + 1) * 2 = k * 2 + 1 + 1 from by omega]; simpa using h1
      · rw [show (k + 1) * 2 + 1 = k * 2 + 1 + 1 + 1 from by omega]; simpa using h2
theorem row_pair {w : World} {base : Nat} {e : TypeId} {g n cp : Nat} {l : List (Int × Int)} (h : w.ownsRow base e 2 (.slice (some ⟨g, 0, none⟩) n cp) n (rfCells l)) (hl : l.length = n) (k : Nat) (hk : k < n) : ∃ x y, (kCells g (k * 2) [.int .i64 x, .int .i64 y]).p w := by
  obtain ⟨x, y, h1, h2⟩ := rfCells_pair l k (by omega)
  have hc := h.cells (g := g) rfl
  have c1 := hc _ _ h1
  have c2 := hc _ _ h2
  have e1 : ∀ j, (⟨g, 0, none⟩ : Addr).add j = ⟨g, j, none⟩ := fun j => by unfold Addr.add; split <;> simp_all
  rw [e1] at c1 c2
  exact ⟨x, y, (h.lt g rfl).2, c1, c2, trivial⟩

set_option maxRecDepth 100000 in
set_option maxHeartbeats 8000000 in
theorem RectMeets_walk (a1 a2 a3 a4 b1 b2 b3 b4 c t : Int) (w : World) (_ : (Lit.int .i64 a1).wf = true) (_ : (Lit.int .i64 a2).wf = true) (_ : (Lit.int .i64 a3).wf = true) (_ : (Lit.int .i64 a4).wf = true) (_ : (Lit.int .i64 b1).wf = true) (_ : (Lit.int .i64 b2).wf = true) (_ : (Lit.int .i64 b3).wf = true) (_ : (Lit.int .i64 b4).wf = true) (_ : (Lit.int .i64 c).wf = true) (_ : (Lit.int .i64 t).wf = true)
    (hL : laidMetH Tryd.prog Rows.rectMeetsRow.laid w) (_ : w.ShapedOpen Tryd.prog) :
    Calls Tryd.prog 6 #[.agg #[.int .i64 a1, .int .i64 a2, .int .i64 a3, .int .i64 a4], .agg #[.int .i64 b1, .int .i64 b2, .int .i64 b3, .int .i64 b4], .agg #[.int .i64 c, .int .i64 t]] w fun e w' => e = .returned (.bool true) ∧ Below w.heap.size w w' := by
  have HP := Lib.hid (pow_of_laid hL (by kernel_rfl))
  clear hL
  obtain ⟨M, hM⟩ : ∃ M, meetS ⟨a1, a2, a3, a4⟩ ⟨b1, b2, b3, b4⟩ = M := ⟨_, rfl⟩
  obtain ⟨O, hO⟩ : ∃ O, meets ⟨a1, a2, a3, a4⟩ ⟨b1, b2, b3, b4⟩ = O := ⟨_, rfl⟩
  have hM' := (meetS_comm ⟨b1, b2, b3, b4⟩ ⟨a1, a2, a3, a4⟩).trans hM
  have hO' := (meets_comm ⟨b1, b2, b3, b4⟩ ⟨a1, a2, a3, a4⟩).trans hO
  have hI := inside_meet ⟨a1, a2, a3, a4⟩ ⟨b1, b2, b3, b4⟩
  rw [hM, hO] at hI
  have hC : meets ⟨a1, a2, a3, a4⟩ ⟨b1, b2, b3, b4⟩ = true → checkB ⟨a1, a2, a3, a4⟩ = true ∧ checkB ⟨b1, b2, b3, b4⟩ = true := fun h => by
    unfold meets at h
    simp only [Bool.and_eq_true] at h
    exact ⟨h.1.1, h.1.2⟩
  rw [hO] at hC
  have hX : checkB ⟨a1, a2, a3, a4⟩ = true → checkB ⟨b1, b2, b3, b4⟩ = true → ∀ x y, (O && hasR M x y) = (hasR ⟨a1, a2, a3, a4⟩ x y && hasR ⟨b1, b2, b3, b4⟩ x y) := fun ha hb x y => by
    rw [← hM, ← hO]; exact has_meet _ _ ha hb x y
  obtain ⟨m1, m2, m3, m4⟩ := M
  obtain ⟨I, hI2⟩ : ∃ I, insideB ⟨a1, a2, a3, a4⟩ ⟨b1, b2, b3, b4⟩ = I := ⟨_, rfl⟩
  rw [hI2] at hI
  have HM := Lib.hid hM
  have HO := Lib.hid hO
  have HM' := Lib.hid hM'
  have HO' := Lib.hid hO'
  have HI := Lib.hid hI2
  have HIO := Lib.hid hI
  have HC := Lib.hid hC
  have HX := Lib.hid hX
  clear hM hO hM' hO' hI hI2 hC hX
  have H1 := Lib.hid ((((Ok.start w).alloc w.heap.size 38 [.int .i64 a1, .int .i64 a2, .int .i64 a3, .int .i64 a4] rfl).alloc (w.heap.size + 1) 38 [.int .i64 b1, .int .i64 b2, .int .i64 b3, .int .i64 b4] (by simp)).alloc (w.heap.size + 1 + 1) 23 [.int .i64 c, .int .i64 t] (by simp))
  go_enter Tryd.func6, Tryd.ntmps6
  go_wp2_with fail
  generalize (((w.alloc (.cells #[.int .i64 a1, .int .i64 a2, .int .i64 a3, .int .i64 a4] 38)).alloc (.cells #[.int .i64 b1, .int .i64 b2, .int .i64 b3, .int .i64 b4] 38)).alloc (.cells #[.int .i64 c, .int .i64 t] 23)) = W2 at H1 ⊢
  refine (rect_Meet _ _ _ _ _ _ _ _ _).mono ?_
  rintro e w3 ⟨rfl, hb4⟩
  rw [HM.out, HO.out]
  have H5 := Lib.hid (H1.out.below hb4)
  clear hb4 H1
  have F6 := H5.out.sees
  simp only [sees, kBlk, cellsAt, Nat.reduceAdd] at F6
  obtain ⟨⟨z0, c0_0, c0_1, -⟩, ⟨z1, c1_0, c1_1, c1_2, c1_3, -⟩, ⟨z2, c2_0, c2_1, c2_2, c2_3, -⟩, -⟩ := F6
  go_wp2_with fail
  clear z0 c0_0 c0_1 z1 c1_0 c1_1 c1_2 c1_3 z2 c2_0 c2_1 c2_2 c2_3
  have H7 := Lib.hid (H5.out.alloc w3.heap.size 38 [.int .i64 m1, .int .i64 m2, .int .i64 m3, .int .i64 m4] rfl)
  clear H5
  generalize (w3.alloc (.cells #[.int .i64 m1, .int .i64 m2, .int .i64 m3, .int .i64 m4] 38)) = W8 at H7 ⊢
  refine (rect_Meet _ _ _ _ _ _ _ _ _).mono ?_
  rintro e w9 ⟨rfl, hb10⟩
  rw [HM'.out, HO'.out]
  have H11 := Lib.hid (H7.out.below hb10)
  clear hb10 H7
  have F12 := H11.out.sees
  simp only [sees, kBlk, cellsAt, Nat.reduceAdd] at F12
  obtain ⟨⟨z0, c0_0, c0_1, c0_2, c0_3, -⟩, ⟨z1, c1_0, c1_1, -⟩, ⟨z2, c2_0, c2_1, c2_2, c2_3, -⟩, ⟨z3, c3_0, c3_1, c3_2, c3_3, -⟩, -⟩ := F12
  go_wp2_with fail
  clear z0 c0_0 c0_1 c0_2 c0_3 z1 c1_0 c1_1 z2 c2_0 c2_1 c2_2 c2_3 z3 c3_0 c3_1 c3_2 c3_3
  have H13 := Lib.hid (H11.out.alloc w9.heap.size 38 [.int .i64 m1, .int .i64 m2, .int .i64 m3, .int .i64 m4] rfl)
  clear H11
  generalize (w9.alloc (.cells #[.int .i64 m1, .int .i64 m2, .int .i64 m3, .int .i64 m4] 38)) = W14 at H13 ⊢
  cases ha : checkB ⟨a1, a2, a3, a4⟩
  · have HA := Lib.hid ha
    refine (rect_Check _ _ _ _ _).mono ?_
    rintro e w15 ⟨rfl, hb16⟩
    rw [checkE_no HA.out]
    have H17 := Lib.hid (H13.out.below hb16)
    clear hb16 H13
    have F18 := H17.out.sees
    simp only [sees, kBlk, cellsAt, Nat.reduceAdd] at F18
    obtain ⟨⟨z0, c0_0, c0_1, c0_2, c0_3, -⟩, ⟨z1, c1_0, c1_1, c1_2, c1_3, -⟩, ⟨z2, c2_0, c2_1, -⟩, ⟨z3, c3_0, c3_1, c3_2, c3_3, -⟩, ⟨z4, c4_0, c4_1, c4_2, c4_3, -⟩, -⟩ := F18
    have hOf : O = false := by
      cases hOO : O
      · rfl
      · have := HC.out hOO; simp_all
    subst hOf
    have HIf : Hid (I = false) := by show _ = _; rw [HIO.out]; rfl
    clear ha
    go_wp2_with fail
    refine (rect_Inside _ _ _ _ _ _ _ _ _).mono ?_
    rintro e w19 ⟨rfl, hb20⟩
    rw [HI.out, HIf.out]
    clear z0 c0_0 c0_1 c0_2 c0_3 z1 c1_0 c1_1 c1_2 c1_3 z2 c2_0 c2_1 z3 c3_0 c3_1 c3_2 c3_3 z4 c4_0 c4_1 c4_2 c4_3
    have H21 := Lib.hid (H17.out.below hb20)
    clear hb20 H17
    have F22 := H21.out.sees
    simp only [sees, kBlk, cellsAt, Nat.reduceAdd] at F22
    obtain ⟨⟨z0, c0_0, c0_1, c0_2, c0_3, -⟩, ⟨z1, c1_0, c1_1, c1_2, c1_3, -⟩, ⟨z2, c2_0, c2_1, -⟩, ⟨z3, c3_0, c3_1, c3_2, c3_3, -⟩, ⟨z4, c4_0, c4_1, c4_2, c4_3, -⟩, -⟩ := F22
    go_wp2_with fail
    refine (rect_known _ (HP.out.below H21.out.bel)).mono ?_
    rintro e w23 ⟨rfl, hb24⟩
    clear z0 c0_0 c0_1 c0_2 c0_3 z1 c1_0 c1_1 c1_2 c1_3 z2 c2_0 c2_1 z3 c3_0 c3_1 c3_2 c3_3 z4 c4_0 c4_1 c4_2 c4_3
    have H25 := Lib.hid (H21.out.below hb24)
    clear hb24 H21
    have F26 := H25.out.sees
    simp only [sees, kBlk, cellsAt, Nat.reduceAdd] at F26
    obtain ⟨⟨z0, c0_0, c0_1, c0_2, c0_3, -⟩, ⟨z1, c1_0, c1_1, c1_2, c1_3, -⟩, ⟨z2, c2_0, c2_1, -⟩, ⟨z3, c3_0, c3_1, c3_2, c3_3, -⟩, ⟨z4, c4_0, c4_1, c4_2, c4_3, -⟩, -⟩ := F26
    go_wp2_with fail
    go_ret
    exact ⟨rfl, H25.out.bel⟩
  · have HA := Lib.hid ha
    refine (rect_Check _ _ _ _ _).mono ?_
    rintro e w15 ⟨rfl, hb16⟩
    rw [checkE_yes HA.out]
    have H17 := Lib.hid (H13.out.below hb16)
    clear hb16 H13
    have F18 := H17.out.sees
    simp only [sees, kBlk, cellsAt, Nat.reduceAdd] at F18
    obtain ⟨⟨z0, c0_0, c0_1, c0_2, c0_3, -⟩, ⟨z1, c1_0, c1_1, c1_2, c1_3, -⟩, ⟨z2, c2_0, c2_1, -⟩, ⟨z3, c3_0, c3_1, c3_2, c3_3, -⟩, ⟨z4, c4_0, c4_1, c4_2, c4_3, -⟩, -⟩ := F18
    cases hb : checkB ⟨b1, b2, b3, b4⟩
    · have HBB := Lib.hid hb
      go_wp2_with fail
      refine (rect_Check _ _ _ _ _).mono ?_
      rintro e w19 ⟨rfl, hb20⟩
      rw [checkE_no HBB.out]
      clear z0 c0_0 c0_1 c0_2 c0_3 z1 c1_0 c1_1 c1_2 c1_3 z2 c2_0 c2_1 z3 c3_0 c3_1 c3_2 c3_3 z4 c4_0 c4_1 c4_2 c4_3
      have H21 := Lib.hid (H17.out.below hb20)
      clear hb20 H17
      have F22 := H21.out.sees
      simp only [sees, kBlk, cellsAt, Nat.reduceAdd] at F22
      obtain ⟨⟨z0, c0_0, c0_1, c0_2, c0_3, -⟩, ⟨z1, c1_0, c1_1, c1_2, c1_3, -⟩, ⟨z2, c2_0, c2_1, -⟩, ⟨z3, c3_0, c3_1, c3_2, c3_3, -⟩, ⟨z4, c4_0, c4_1, c4_2, c4_3, -⟩, -⟩ := F22
      have hOf : O = false := by
        cases hOO : O
        · rfl
        · have := HC.out hOO; simp_all
      subst hOf
      have HIf : Hid (I = false) := by show _ = _; rw [HIO.out]; rfl
      clear ha hb
      go_wp2_with fail
      refine (rect_Inside _ _ _ _ _ _ _ _ _).mono ?_
      rintro e w23 ⟨rfl, hb24⟩
      rw [HI.out, HIf.out]
      clear z0 c0_0 c0_1 c0_2 c0_3 z1 c1_0 c1_1 c1_2 c1_3 z2 c2_0 c2_1 z3 c3_0 c3_1 c3_2 c3_3 z4 c4_0 c4_1 c4_2 c4_3
      have H25 := Lib.hid (H21.out.below hb24)
      clear hb24 H21
      have F26 := H25.out.sees
      simp only [sees, kBlk, cellsAt, Nat.reduceAdd] at F26
      obtain ⟨⟨z0, c0_0, c0_1, c0_2, c0_3, -⟩, ⟨z1, c1_0, c1_1, c1_2, c1_3, -⟩, ⟨z2, c2_0, c2_1, -⟩, ⟨z3, c3_0, c3_1, c3_2, c3_3, -⟩, ⟨z4, c4_0, c4_1, c4_2, c4_3, -⟩, -⟩ := F26
      go_wp2_with fail
      refine (rect_known _ (HP.out.below H25.out.bel)).mono ?_
      rintro e w27 ⟨rfl, hb28⟩
      clear z0 c0_0 c0_1 c0_2 c0_3 z1 c1_0 c1_1 c1_2 c1_3 z2 c2_0 c2_1 z3 c3_0 c3_1 c3_2 c3_3 z4 c4_0 c4_1 c4_2 c4_3
      have H29 := Lib.hid (H25.out.below hb28)
      clear hb28 H25
      have F30 := H29.out.sees
      simp only [sees, kBlk, cellsAt, Nat.reduceAdd] at F30
      obtain ⟨⟨z0, c0_0, c0_1, c0_2, c0_3, -⟩, ⟨z1, c1_0, c1_1, c1_2, c1_3, -⟩, ⟨z2, c2_0, c2_1, -⟩, ⟨z3, c3_0, c3_1, c3_2, c3_3, -⟩, ⟨z4, c4_0, c4_1, c4_2, c4_3, -⟩, -⟩ := F30
      go_wp2_with fail
      go_ret
      exact ⟨rfl, H29.out.bel⟩
    · have HBB := Lib.hid hb
      have HXX := Lib.hid (HX.out ha hb)
      clear ha hb
      go_wp2_with fail
      refine (rect_Check _ _ _ _ _).mono ?_
      rintro e w19 ⟨rfl, hb20⟩
      rw [checkE_yes HBB.out]
      clear z0 c0_0 c0_1 c0_2 c0_3 z1 c1_0 c1_1 c1_2 c1_3 z2 c2_0 c2_1 z3 c3_0 c3_1 c3_2 c3_3 z4 c4_0 c4_1 c4_2 c4_3
      have H21 := Lib.hid (H17.out.below hb20)
      clear hb20 H17
      have F22 := H21.out.sees
      simp only [sees, kBlk, cellsAt, Nat.reduceAdd] at F22
      obtain ⟨⟨z0, c0_0, c0_1, c0_2, c0_3, -⟩, ⟨z1, c1_0, c1_1, c1_2, c1_3, -⟩, ⟨z2, c2_0, c2_1, -⟩, ⟨z3, c3_0, c3_1, c3_2, c3_3, -⟩, ⟨z4, c4_0, c4_1, c4_2, c4_3, -⟩, -⟩ := F22
      go_upto_region 7 with fail
      go_cut [61] (fun s61 wx => s61 = .bool false ∧ Hid (Ok w [kBlk (w9.heap.size) 38 [.int .i64 m1, .int .i64 m2, .int .i64 m3, .int .i64 m4], kBlk (w3.heap.size) 38 [.int .i64 m1, .int .i64 m2, .int .i64 m3, .int .i64 m4], kBlk (w.heap.size + 1 + 1) 23 [.int .i64 c, .int .i64 t], kBlk (w.heap.size + 1) 38 [.int .i64 b1, .int .i64 b2, .int .i64 b3, .int .i64 b4], kBlk (w.heap.size) 38 [.int .i64 a1, .int .i64 a2, .int .i64 a3, .int .i64 a4]] wx))
      case first =>
        go_wp2_with fail
        refine (rect_Inside _ _ _ _ _ _ _ _ _).mono ?_
        rintro e w23 ⟨rfl, hb24⟩
        rw [HI.out]
        clear z0 c0_0 c0_1 c0_2 c0_3 z1 c1_0 c1_1 c1_2 c1_3 z2 c2_0 c2_1 z3 c3_0 c3_1 c3_2 c3_3 z4 c4_0 c4_1 c4_2 c4_3
        have H25 := Lib.hid (H21.out.below hb24)
        clear hb24 H21
        have F26 := H25.out.sees
        simp only [sees, kBlk, cellsAt, Nat.reduceAdd] at F26
        obtain ⟨⟨z0, c0_0, c0_1, c0_2, c0_3, -⟩, ⟨z1, c1_0, c1_1, c1_2, c1_3, -⟩, ⟨z2, c2_0, c2_1, -⟩, ⟨z3, c3_0, c3_1, c3_2, c3_3, -⟩, ⟨z4, c4_0, c4_1, c4_2, c4_3, -⟩, -⟩ := F26
        cases O
        · have HIf : Hid (I = false) := by show _ = _; rw [HIO.out]; rfl
          rw [HIf.out]
          go_wp2_with fail
          go_meet
          exact ⟨rfl, H25⟩
        · by_cases he : (⟨m1, m2, m3, m4⟩ : R4) = ⟨a1, a2, a3, a4⟩
          · have HIf : Hid (I = true) := by show _ = _; rw [HIO.out, he]; simp
            rw [HIf.out]
            simp only [R4.mk.injEq] at he
            obtain ⟨rfl, rfl, rfl, rfl⟩ := he
            go_wp2_with fail
            all_goals (go_meet; exact ⟨rfl, H25⟩)
          · have HIf : Hid (I = false) := by show _ = _; rw [HIO.out]; simpa using he
            rw [HIf.out]
            simp only [R4.mk.injEq] at he
            go_wp2_with fail
            all_goals (go_meet; exact ⟨rfl, H25⟩)
      case rest =>
        clear z0 c0_0 c0_1 c0_2 c0_3 z1 c1_0 c1_1 c1_2 c1_3 z2 c2_0 c2_1 z3 c3_0 c3_1 c3_2 c3_3 z4 c4_0 c4_1 c4_2 c4_3
        clear H21
        obtain ⟨rfl, H23⟩ := hcut
        have F24 := H23.out.sees
        simp only [sees, kBlk, cellsAt, Nat.reduceAdd] at F24
        obtain ⟨⟨z0, c0_0, c0_1, c0_2, c0_3, -⟩, ⟨z1, c1_0, c1_1, c1_2, c1_3, -⟩, ⟨z2, c2_0, c2_1, -⟩, ⟨z3, c3_0, c3_1, c3_2, c3_3, -⟩, ⟨z4, c4_0, c4_1, c4_2, c4_3, -⟩, -⟩ := F24
        go_wp2_with fail
        obtain ⟨i0, hi, hz0, hz1', hzb⟩ := info_parts info_ref
        go_cut [11] (fun s11 wx => ∃ l : List (Int × Int), l.length = 33 ∧ Hid (OkRow w [kBlk (w9.heap.size) 38 [.int .i64 m1, .int .i64 m2, .int .i64 m3, .int .i64 m4], kBlk (w3.heap.size) 38 [.int .i64 m1, .int .i64 m2, .int .i64 m3, .int .i64 m4], kBlk (w.heap.size + 1 + 1) 23 [.int .i64 c, .int .i64 t], kBlk (w.heap.size + 1) 38 [.int .i64 b1, .int .i64 b2, .int .i64 b3, .int .i64 b4], kBlk (w.heap.size) 38 [.int .i64 a1, .int .i64 a2, .int .i64 a3, .int .i64 a4]] 23 2 s11 33 (rfCells l) wx))
        case first =>
          refine wp_region_held_drew (S := fun W => Ok w [kBlk (w9.heap.size) 38 [.int .i64 m1, .int .i64 m2, .int .i64 m3, .int .i64 m4], kBlk (w3.heap.size) 38 [.int .i64 m1, .int .i64 m2, .int .i64 m3, .int .i64 m4], kBlk (w.heap.size + 1 + 1) 23 [.int .i64 c, .int .i64 t], kBlk (w.heap.size + 1) 38 [.int .i64 b1, .int .i64 b2, .int .i64 b3, .int .i64 b4], kBlk (w.heap.size) 38 [.int .i64 a1, .int .i64 a2, .int .i64 a3, .int .i64 a4]] W) (by kernel_rfl) H23.out.drew (fun hHeld => ?_)
          clear z0 c0_0 c0_1 c0_2 c0_3 z1 c1_0 c1_1 c1_2 c1_3 z2 c2_0 c2_1 z3 c3_0 c3_1 c3_2 c3_3 z4 c4_0 c4_1 c4_2 c4_3
          refine wpAnyH_take (i := 0) (v := ?vx1_0) rfl (by kernel_rfl) (by kernel_rfl) (by kernel_rfl) (fun _ _ _ h => h) (Or.inl ⟨by rfl, ?hyx1_0⟩) (by assumption) ?restx1_0
          case hyx1_0 => (intro w hSw; have F := Ok.sees hSw; clear hSw; simp only [sees, kBlk, cellsAt, Nat.reduceAdd] at F; go_simp; try with_reducible rfl)
          try simp only [Act.put, List.setIfInBounds_toArray, List.set_cons_zero, List.set_cons_succ, List.getElem_toArray, List.getElem_cons_zero]
          refine wpAnyH_take (i := 2) (v := ?vx2_2) rfl (by kernel_rfl) (by kernel_rfl) (by kernel_rfl) (fun _ _ _ h => h) (Or.inl ⟨by rfl, ?hyx2_2⟩) (by assumption) ?restx2_2
          case hyx2_2 => (intro w hSw; have F := Ok.sees hSw; clear hSw; simp only [sees, kBlk, cellsAt, Nat.reduceAdd] at F; go_simp; try with_reducible rfl)
          try simp only [Act.put, List.setIfInBounds_toArray, List.set_cons_zero, List.set_cons_succ, List.getElem_toArray, List.getElem_cons_succ, List.getElem_cons_zero]
          refine wpAnyH_take (i := 5) (v := ?vx3_5) rfl (by kernel_rfl) (by kernel_rfl) (by kernel_rfl) (fun _ _ _ h => h) (Or.inl ⟨by rfl, ?hyx3_5⟩) (by assumption) ?restx3_5
          case hyx3_5 => (intro w hSw; have F := Ok.sees hSw; clear hSw; simp only [sees, kBlk, cellsAt, Nat.reduceAdd] at F; go_simp; try with_reducible rfl)
          try simp only [Act.put, List.setIfInBounds_toArray, List.set_cons_zero, List.set_cons_succ, List.getElem_toArray, List.getElem_cons_succ, List.getElem_cons_zero]
          refine wpAnyH_ready (rs := [1, 6]) (by kernel_rfl) (by simp) ?_
          refine AllReadyH.cons rfl (fun K hK => ?_) (AllReadyH.cons rfl (fun K hK => ?_) AllReadyH.nil)
          · go_simp
            refine (law_corners _ _ _ _ _ HA.out).mono ?_
            rintro e w25 ⟨v1, l1, rfl, hown1, hl1, hb1⟩
            go_wp2_with fail
            have R26 := Lib.hid (OkRow.of_new H23.out.drew hb1 hown1)
            have HL1 := Lib.hid hl1
            clear hown1 hb1 hl1
            refine hK.out _ _ (R26.out.ok) (fun hHeld => ?_)
            clear hK K
            try simp only [Act.put, List.setIfInBounds_toArray, List.set_cons_zero, List.set_cons_succ, List.getElem_toArray, List.getElem_cons_succ, List.getElem_cons_zero]
            refine wpAnyH_ready (rs := [3, 6]) (by kernel_rfl) (by simp) ?_
            refine AllReadyH.cons rfl (fun K hK => ?_) (AllReadyH.cons rfl (fun K hK => ?_) AllReadyH.nil)
            · go_simp
              refine (law_corners _ _ _ _ _ HBB.out).mono ?_
              rintro e w27 ⟨v2, l2, rfl, hown2, hl2, hb2⟩
              obtain ⟨g2, cp2, rfl, -, -⟩ := hown2.form (by omega)
              go_wp2_with fail
              have R28 := Lib.hid (R26.out.below hb2)
              have HO2 := Lib.hid hown2
              have HL2 := Lib.hid hl2
              clear hown2 hb2 hl2
              refine hK.out _ _ (R28.out.ok) (fun hHeld => ?_)
              clear hK K
              try simp only [Act.put, List.setIfInBounds_toArray, List.set_cons_zero, List.set_cons_succ, List.getElem_toArray, List.getElem_cons_succ, List.getElem_cons_zero]
              refine wpAnyH_ready (rs := [4, 6]) (by kernel_rfl) (by simp) ?_
              refine AllReadyH.cons rfl (fun K hK => ?_) (AllReadyH.cons rfl (fun K hK => ?_) AllReadyH.nil)
              · refine step_append_lies _ rfl _ _ _ rfl w.heap.size 23 i0 _ 2 16 Tryd.underlying43 hi hz0 hz1' hzb rfl (by omega) _ _ _ rfl R28.out.own ⟨g2, 0, none⟩ 16 cp2 (rfCells l2) rfl (by rw [rfCells_len, HL2.out]) (World.ownsRow.cells HO2.out (g := g2) rfl) (rfCells_one l2) (by omega) (by unfold maxLen; omega) (by omega) R28.out.ok.bel.size _ rfl ?_
                intro g3 cp3 w3 hown3 hgrow3 hat3 _hlt3
                have R29 := Lib.hid (R28.out.appended hown3 hgrow3 hat3)
                clear hown3 hgrow3 hat3
                refine hK.out _ _ (R29.out.ok) (fun hHeld => ?_)
                clear hK K
                try simp only [Act.put, List.setIfInBounds_toArray, List.set_cons_zero, List.set_cons_succ, List.getElem_toArray, List.getElem_cons_succ, List.getElem_cons_zero]
                refine wpAnyH_ready (rs := [6]) (by kernel_rfl) (by simp) ?_
                refine AllReadyH.cons rfl (fun K hK => ?_) AllReadyH.nil
                go_simp
                have R30 := Lib.hid (R29.out.alloc _ 23 [.int .i64 c, .int .i64 t] rfl)
                refine hK.out _ _ (R30.out.ok.tail) (fun hHeld => ?_)
                clear hK K
                try simp only [Act.put, List.setIfInBounds_toArray, List.set_cons_zero, List.set_cons_succ, List.getElem_toArray, List.getElem_cons_succ, List.getElem_cons_zero]
                refine wpAnyH_ready (rs := [7]) (by kernel_rfl) (by simp) ?_
                refine AllReadyH.cons rfl (fun K hK => ?_) AllReadyH.nil
                refine step_append_lies _ rfl _ _ _ rfl w.heap.size 23 i0 _ 2 16 Tryd.underlying43 hi hz0 hz1' hzb rfl (by omega) _ _ _ rfl R30.out.own ⟨_, 0, none⟩ 1 1 [.int .i64 c, .int .i64 t] rfl rfl (World.news_of_block (cs := #[.int .i64 c, .int .i64 t]) (t := 23) (fr := (0, 0)) (R30.out.ok.get _ (List.mem_cons_self ..))) (by intro u hu; simp at hu; rcases hu with rfl | rfl <;> rfl) (by omega) (by unfold maxLen; omega) (by omega) R30.out.ok.bel.size _ rfl ?_
                intro g4 cp4 w4 hown4 hgrow4 hat4 _hlt4
                have R31 := Lib.hid (R30.out.appended hown4 hgrow4 hat4)
                clear hown4 hgrow4 hat4
                refine hK.out _ _ (R31.out.ok.tail) (fun hHeld => ?_)
                clear hK K
                try simp only [Act.put, List.setIfInBounds_toArray, List.set_cons_zero, List.set_cons_succ, List.getElem_toArray, List.getElem_cons_succ, List.getElem_cons_zero]
                refine wpAnyH_take (i := 8) (v := ?vx4_8) rfl (by kernel_rfl) (by kernel_rfl) (by kernel_rfl) (fun _ _ _ h => h) (Or.inl ⟨by rfl, ?hyx4_8⟩) (by assumption) ?restx4_8
                case hyx4_8 => (intro w hSw; have F := Ok.sees hSw; clear hSw; simp only [sees, kBlk, cellsAt, Nat.reduceAdd] at F; go_simp; try with_reducible rfl)
                try simp only [Act.put, List.setIfInBounds_toArray, List.set_cons_zero, List.set_cons_succ, List.getElem_toArray, List.getElem_cons_succ, List.getElem_cons_zero]
                refine wpAnyH_done (by kernel_rfl) ?_ _
                go_wp2_with fail
                go_meet
                refine ⟨l1 ++ l2 ++ [(c, t)], by simp [HL1.out, HL2.out], ?_⟩
                rw [rfCells_snoc, rfCells_append]
                exact R31.out.tail
              · go_simp
                have R29 := Lib.hid (R28.out.alloc _ 23 [.int .i64 c, .int .i64 t] rfl)
                refine hK.out _ _ (R29.out.ok.tail) (fun hHeld => ?_)
                clear hK K
                try simp only [Act.put, List.setIfInBounds_toArray, List.set_cons_zero, List.set_cons_succ, List.getElem_toArray, List.getElem_cons_succ, List.getElem_cons_zero]
                refine wpAnyH_ready (rs := [4]) (by kernel_rfl) (by simp) ?_
                refine AllReadyH.cons rfl (fun K hK => ?_) AllReadyH.nil
                refine step_append_lies _ rfl _ _ _ rfl w.heap.size 23 i0 _ 2 16 Tryd.underlying43 hi hz0 hz1' hzb rfl (by omega) _ _ _ rfl R29.out.own ⟨g2, 0, none⟩ 16 cp2 (rfCells l2) rfl (by rw [rfCells_len, HL2.out]) (World.ownsRow.cells (HO2.out.alloc _) (g := g2) rfl) (rfCells_one l2) (by omega) (by unfold maxLen; omega) (by omega) R29.out.ok.bel.size _ rfl ?_
                intro g3 cp3 w3 hown3 hgrow3 hat3 _hlt3
                have R30 := Lib.hid (R29.out.appended hown3 hgrow3 hat3)
                clear hown3 hgrow3 hat3
                refine hK.out _ _ (R30.out.ok.tail) (fun hHeld => ?_)
                clear hK K
                try simp only [Act.put, List.setIfInBounds_toArray, List.set_cons_zero, List.set_cons_succ, List.getElem_toArray, List.getElem_cons_succ, List.getElem_cons_zero]
                refine wpAnyH_ready (rs := [7]) (by kernel_rfl) (by simp) ?_
                refine AllReadyH.cons rfl (fun K hK => ?_) AllReadyH.nil
                refine step_append_lies _ rfl _ _ _ rfl w.heap.size 23 i0 _ 2 16 Tryd.underlying43 hi hz0 hz1' hzb rfl (by omega) _ _ _ rfl R30.out.own ⟨_, 0, none⟩ 1 1 [.int .i64 c, .int .i64 t] rfl rfl (World.news_of_block (cs := #[.int .i64 c, .int .i64 t]) (t := 23) (fr := (0, 0)) (R30.out.ok.get _ (List.mem_cons_self ..))) (by intro u hu; simp at hu; rcases hu with rfl | rfl <;> rfl) (by omega) (by unfold maxLen; omega) (by omega) R30.out.ok.bel.size _ rfl ?_
                intro g4 cp4 w4 hown4 hgrow4 hat4 _hlt4
                have R31 := Lib.hid (R30.out.appended hown4 hgrow4 hat4)
                clear hown4 hgrow4 hat4
                refine hK.out _ _ (R31.out.ok.tail) (fun hHeld => ?_)
                clear hK K
                try simp only [Act.put, List.setIfInBounds_toArray, List.set_cons_zero, List.set_cons_succ, List.getElem_toArray, List.getElem_cons_succ, List.getElem_cons_zero]
                refine wpAnyH_take (i := 8) (v := ?vx5_8) rfl (by kernel_rfl) (by kernel_rfl) (by kernel_rfl) (fun _ _ _ h => h) (Or.inl ⟨by rfl, ?hyx5_8⟩) (by assumption) ?restx5_8
                case hyx5_8 => (intro w hSw; have F := Ok.sees hSw; clear hSw; simp only [sees, kBlk, cellsAt, Nat.reduceAdd] at F; go_simp; try with_reducible rfl)
                try simp only [Act.put, List.setIfInBounds_toArray, List.set_cons_zero, List.set_cons_succ, List.getElem_toArray, List.getElem_cons_succ, List.getElem_cons_zero]
                refine wpAnyH_done (by kernel_rfl) ?_ _
                go_wp2_with fail
                go_meet
                refine ⟨l1 ++ l2 ++ [(c, t)], by simp [HL1.out, HL2.out], ?_⟩
                rw [rfCells_snoc, rfCells_append]
                exact R31.out.tail
            · go_simp
              have R27 := Lib.hid (R26.out.alloc _ 23 [.int .i64 c, .int .i64 t] rfl)
              refine hK.out _ _ (R27.out.ok.tail) (fun hHeld => ?_)
              clear hK K
              try simp only [Act.put, List.setIfInBounds_toArray, List.set_cons_zero, List.set_cons_succ, List.getElem_toArray, List.getElem_cons_succ, List.getElem_cons_zero]
              refine wpAnyH_ready (rs := [3]) (by kernel_rfl) (by simp) ?_
              refine AllReadyH.cons rfl (fun K hK => ?_) AllReadyH.nil
              go_simp
              refine (law_corners _ _ _ _ _ HBB.out).mono ?_
              rintro e w28 ⟨v2, l2, rfl, hown2, hl2, hb2⟩
              obtain ⟨g2, cp2, rfl, -, -⟩ := hown2.form (by omega)
              go_wp2_with fail
              have R29 := Lib.hid (R27.out.below hb2)
              have HO2 := Lib.hid hown2
              have HL2 := Lib.hid hl2
              clear hown2 hb2 hl2
              refine hK.out _ _ (R29.out.ok.tail) (fun hHeld => ?_)
              clear hK K
              try simp only [Act.put, List.setIfInBounds_toArray, List.set_cons_zero, List.set_cons_succ, List.getElem_toArray, List.getElem_cons_succ, List.getElem_cons_zero]
              refine wpAnyH_ready (rs := [4]) (by kernel_rfl) (by simp) ?_
              refine AllReadyH.cons rfl (fun K hK => ?_) AllReadyH.nil
              refine step_append_lies _ rfl _ _ _ rfl w.heap.size 23 i0 _ 2 16 Tryd.underlying43 hi hz0 hz1' hzb rfl (by omega) _ _ _ rfl R29.out.own ⟨g2, 0, none⟩ 16 cp2 (rfCells l2) rfl (by rw [rfCells_len, HL2.out]) (World.ownsRow.cells HO2.out (g := g2) rfl) (rfCells_one l2) (by omega) (by unfold maxLen; omega) (by omega) R29.out.ok.bel.size _ rfl ?_
              intro g3 cp3 w3 hown3 hgrow3 hat3 _hlt3
              have R30 := Lib.hid (R29.out.appended hown3 hgrow3 hat3)
              clear hown3 hgrow3 hat3
              refine hK.out _ _ (R30.out.ok.tail) (fun hHeld => ?_)
              clear hK K
              try simp only [Act.put, List.setIfInBounds_toArray, List.set_cons_zero, List.set_cons_succ, List.getElem_toArray, List.getElem_cons_succ, List.getElem_cons_zero]
              refine wpAnyH_ready (rs := [7]) (by kernel_rfl) (by simp) ?_
              refine AllReadyH.cons rfl (fun K hK => ?_) AllReadyH.nil
              refine step_append_lies _ rfl _ _ _ rfl w.heap.size 23 i0 _ 2 16 Tryd.underlying43 hi hz0 hz1' hzb rfl (by omega) _ _ _ rfl R30.out.own ⟨_, 0, none⟩ 1 1 [.int .i64 c, .int .i64 t] rfl rfl (World.news_of_block (cs := #[.int .i64 c, .int .i64 t]) (t := 23) (fr := (0, 0)) (R30.out.ok.get _ (List.mem_cons_self ..))) (by intro u hu; simp at hu; rcases hu with rfl | rfl <;> rfl) (by omega) (by unfold maxLen; omega) (by omega) R30.out.ok.bel.size _ rfl ?_
              intro g4 cp4 w4 hown4 hgrow4 hat4 _hlt4
              have R31 := Lib.hid (R30.out.appended hown4 hgrow4 hat4)
              clear hown4 hgrow4 hat4
              refine hK.out _ _ (R31.out.ok.tail) (fun hHeld => ?_)
              clear hK K
              try simp only [Act.put, List.setIfInBounds_toArray, List.set_cons_zero, List.set_cons_succ, List.getElem_toArray, List.getElem_cons_succ, List.getElem_cons_zero]
              refine wpAnyH_take (i := 8) (v := ?vx6_8) rfl (by kernel_rfl) (by kernel_rfl) (by kernel_rfl) (fun _ _ _ h => h) (Or.inl ⟨by rfl, ?hyx6_8⟩) (by assumption) ?restx6_8
              case hyx6_8 => (intro w hSw; have F := Ok.sees hSw; clear hSw; simp only [sees, kBlk, cellsAt, Nat.reduceAdd] at F; go_simp; try with_reducible rfl)
              try simp only [Act.put, List.setIfInBounds_toArray, List.set_cons_zero, List.set_cons_succ, List.getElem_toArray, List.getElem_cons_succ, List.getElem_cons_zero]
              refine wpAnyH_done (by kernel_rfl) ?_ _
              go_wp2_with fail
              go_meet
              refine ⟨l1 ++ l2 ++ [(c, t)], by simp [HL1.out, HL2.out], ?_⟩
              rw [rfCells_snoc, rfCells_append]
              exact R31.out.tail
          · go_simp
            have R25 := Lib.hid (H23.out.drew.alloc _ 23 [.int .i64 c, .int .i64 t] rfl)
            refine hK.out _ _ (R25.out.tail) (fun hHeld => ?_)
            clear hK K
            try simp only [Act.put, List.setIfInBounds_toArray, List.set_cons_zero, List.set_cons_succ, List.getElem_toArray, List.getElem_cons_succ, List.getElem_cons_zero]
            refine wpAnyH_ready (rs := [1]) (by kernel_rfl) (by simp) ?_
            refine AllReadyH.cons rfl (fun K hK => ?_) AllReadyH.nil
            go_simp
            refine (law_corners _ _ _ _ _ HA.out).mono ?_
            rintro e w26 ⟨v1, l1, rfl, hown1, hl1, hb1⟩
            go_wp2_with fail
            have R27 := Lib.hid (OkRow.of_new R25.out hb1 hown1)
            have HL1 := Lib.hid hl1
            clear hown1 hb1 hl1
            refine hK.out _ _ (R27.out.ok.tail) (fun hHeld => ?_)
            clear hK K
            try simp only [Act.put, List.setIfInBounds_toArray, List.set_cons_zero, List.set_cons_succ, List.getElem_toArray, List.getElem_cons_succ, List.getElem_cons_zero]
            refine wpAnyH_ready (rs := [3]) (by kernel_rfl) (by simp) ?_
            refine AllReadyH.cons rfl (fun K hK => ?_) AllReadyH.nil
            go_simp
            refine (law_corners _ _ _ _ _ HBB.out).mono ?_
            rintro e w28 ⟨v2, l2, rfl, hown2, hl2, hb2⟩
            obtain ⟨g2, cp2, rfl, -, -⟩ := hown2.form (by omega)
            go_wp2_with fail
            have R29 := Lib.hid (R27.out.below hb2)
            have HO2 := Lib.hid hown2
            have HL2 := Lib.hid hl2
            clear hown2 hb2 hl2
            refine hK.out _ _ (R29.out.ok.tail) (fun hHeld => ?_)
            clear hK K
            try simp only [Act.put, List.setIfInBounds_toArray, List.set_cons_zero, List.set_cons_succ, List.getElem_toArray, List.getElem_cons_succ, List.getElem_cons_zero]
            refine wpAnyH_ready (rs := [4]) (by kernel_rfl) (by simp) ?_
            refine AllReadyH.cons rfl (fun K hK => ?_) AllReadyH.nil
            refine step_append_lies _ rfl _ _ _ rfl w.heap.size 23 i0 _ 2 16 Tryd.underlying43 hi hz0 hz1' hzb rfl (by omega) _ _ _ rfl R29.out.own ⟨g2, 0, none⟩ 16 cp2 (rfCells l2) rfl (by rw [rfCells_len, HL2.out]) (World.ownsRow.cells HO2.out (g := g2) rfl) (rfCells_one l2) (by omega) (by unfold maxLen; omega) (by omega) R29.out.ok.bel.size _ rfl ?_
            intro g3 cp3 w3 hown3 hgrow3 hat3 _hlt3
            have R30 := Lib.hid (R29.out.appended hown3 hgrow3 hat3)
            clear hown3 hgrow3 hat3
            refine hK.out _ _ (R30.out.ok.tail) (fun hHeld => ?_)
            clear hK K
            try simp only [Act.put, List.setIfInBounds_toArray, List.set_cons_zero, List.set_cons_succ, List.getElem_toArray, List.getElem_cons_succ, List.getElem_cons_zero]
            refine wpAnyH_ready (rs := [7]) (by kernel_rfl) (by simp) ?_
            refine AllReadyH.cons rfl (fun K hK => ?_) AllReadyH.nil
            refine step_append_lies _ rfl _ _ _ rfl w.heap.size 23 i0 _ 2 16 Tryd.underlying43 hi hz0 hz1' hzb rfl (by omega) _ _ _ rfl R30.out.own ⟨_, 0, none⟩ 1 1 [.int .i64 c, .int .i64 t] rfl rfl (World.news_of_block (cs := #[.int .i64 c, .int .i64 t]) (t := 23) (fr := (0, 0)) (R30.out.ok.get _ (List.mem_cons_self ..))) (by intro u hu; simp at hu; rcases hu with rfl | rfl <;> rfl) (by omega) (by unfold maxLen; omega) (by omega) R30.out.ok.bel.size _ rfl ?_
            intro g4 cp4 w4 hown4 hgrow4 hat4 _hlt4
            have R31 := Lib.hid (R30.out.appended hown4 hgrow4 hat4)
            clear hown4 hgrow4 hat4
            refine hK.out _ _ (R31.out.ok.tail) (fun hHeld => ?_)
            clear hK K
            try simp only [Act.put, List.setIfInBounds_toArray, List.set_cons_zero, List.set_cons_succ, List.getElem_toArray, List.getElem_cons_succ, List.getElem_cons_zero]
            refine wpAnyH_take (i := 8) (v := ?vx7_8) rfl (by kernel_rfl) (by kernel_rfl) (by kernel_rfl) (fun _ _ _ h => h) (Or.inl ⟨by rfl, ?hyx7_8⟩) (by assumption) ?restx7_8
            case hyx7_8 => (intro w hSw; have F := Ok.sees hSw; clear hSw; simp only [sees, kBlk, cellsAt, Nat.reduceAdd] at F; go_simp; try with_reducible rfl)
            try simp only [Act.put, List.setIfInBounds_toArray, List.set_cons_zero, List.set_cons_succ, List.getElem_toArray, List.getElem_cons_succ, List.getElem_cons_zero]
            refine wpAnyH_done (by kernel_rfl) ?_ _
            go_wp2_with fail
            go_meet
            refine ⟨l1 ++ l2 ++ [(c, t)], by simp [HL1.out, HL2.out], ?_⟩
            rw [rfCells_snoc, rfCells_append]
            exact R31.out.tail
        case rest =>
          obtain ⟨l, hl, H⟩ := hcut
          obtain ⟨g, cp, rfl, -, -⟩ := H.out.own.form (by omega)
          have HL := Lib.hid hl
          clear hl
          go_wp2_with fail
          go_loopw [12] (fun iv wr => ∃ k : Nat, k ≤ 33 ∧ iv = .int .i64 k ∧ Hid (OkRow w [kBlk (w9.heap.size) 38 [.int .i64 m1, .int .i64 m2, .int .i64 m3, .int .i64 m4], kBlk (w3.heap.size) 38 [.int .i64 m1, .int .i64 m2, .int .i64 m3, .int .i64 m4], kBlk (w.heap.size + 1 + 1) 23 [.int .i64 c, .int .i64 t], kBlk (w.heap.size + 1) 38 [.int .i64 b1, .int .i64 b2, .int .i64 b3, .int .i64 b4], kBlk (w.heap.size) 38 [.int .i64 a1, .int .i64 a2, .int .i64 a3, .int .i64 a4]] 23 2 (.slice (some ⟨g, 0, none⟩) 33 cp) 33 (rfCells l) wr)) (fun iv _ => 33 - (intOf iv).toNat)
          case atStart => exact ⟨0, by omega, rfl, H⟩
          case round =>
            obtain ⟨k, hk, rfl, H2⟩ := hrel
            by_cases hlt : (k : Int) < 33
            · obtain ⟨x, y, hxy⟩ := row_pair H2.out.own HL.out k (by omega)
              have H3 := Lib.hid (H2.out.pers.add (kCells g (k * 2) [.int .i64 x, .int .i64 y]) hxy)
              have HFAR := Lib.hid H2.out.far
              have hX := HXX.out x y
              clear hxy
              generalize hHA : hasR ⟨a1, a2, a3, a4⟩ x y = p at hX
              generalize hHB : hasR ⟨b1, b2, b3, b4⟩ x y = q at hX
              have HHA := Lib.hid hHA
              have HHB := Lib.hid hHB
              clear hHA hHB
              cases p
              · cases O
                · clear hX
                  clear H2
                  have F25 := H3.out.sees
                  simp only [sees, cellsFrom, Nat.add_zero, kCells, kBlk, kRow, cellsAt, Nat.reduceAdd] at F25
                  obtain ⟨⟨z0, c0_0, c0_1, -⟩, -, ⟨z2, c2_0, c2_1, c2_2, c2_3, -⟩, ⟨z3, c3_0, c3_1, c3_2, c3_3, -⟩, ⟨z4, c4_0, c4_1, -⟩, ⟨z5, c5_0, c5_1, c5_2, c5_3, -⟩, ⟨z6, c6_0, c6_1, c6_2, c6_3, -⟩, -⟩ := F25
                  go_wp2_with fail
                  refine wp_region_held_drew (S := fun W => Ok w [kCells g (k * 2) [.int .i64 x, .int .i64 y], kRow w.heap.size 23 2 (.slice (some ⟨g, 0, none⟩) 33 cp) 33 (rfCells l), kBlk (w9.heap.size) 38 [.int .i64 m1, .int .i64 m2, .int .i64 m3, .int .i64 m4], kBlk (w3.heap.size) 38 [.int .i64 m1, .int .i64 m2, .int .i64 m3, .int .i64 m4], kBlk (w.heap.size + 1 + 1) 23 [.int .i64 c, .int .i64 t], kBlk (w.heap.size + 1) 38 [.int .i64 b1, .int .i64 b2, .int .i64 b3, .int .i64 b4], kBlk (w.heap.size) 38 [.int .i64 a1, .int .i64 a2, .int .i64 a3, .int .i64 a4]] W) (by kernel_rfl) H3.out.drew (fun hHeld => ?_)
                  refine wpAnyH_take (i := 0) (v := ?vx8_0) rfl (by kernel_rfl) (by kernel_rfl) (by kernel_rfl) (fun _ _ _ h => h) (Or.inl ⟨by rfl, ?hyx8_0⟩) (by assumption) ?restx8_0
                  case hyx8_0 => (intro w hSw; have F := Ok.sees hSw; clear hSw; simp only [sees, cellsFrom, Nat.add_zero, kCells, kBlk, kRow, cellsAt, Nat.reduceAdd] at F; go_simp; try with_reducible rfl)
                  try simp only [Act.put, List.setIfInBounds_toArray, List.set_cons_zero, List.set_cons_succ, List.getElem_toArray, List.getElem_cons_zero]
                  refine wpAnyH_take (i := 1) (v := ?vx9_1) rfl (by kernel_rfl) (by kernel_rfl) (by kernel_rfl) (fun _ _ _ h => h) (Or.inl ⟨by rfl, ?hyx9_1⟩) (by assumption) ?restx9_1
                  case hyx9_1 => (intro w hSw; have F := Ok.sees hSw; clear hSw; simp only [sees, cellsFrom, Nat.add_zero, kCells, kBlk, kRow, cellsAt, Nat.reduceAdd] at F; go_simp; try with_reducible rfl)
                  try simp only [Act.put, List.setIfInBounds_toArray, List.set_cons_zero, List.set_cons_succ, List.getElem_toArray, List.getElem_cons_succ, List.getElem_cons_zero]
                  refine wpAnyH_take (i := 2) (v := undef) rfl (by kernel_rfl) (by kernel_rfl) (by kernel_rfl) (fun _ _ _ h => h) (Or.inr ⟨by rfl, rfl⟩) (by assumption) ?_
                  try simp only [Act.put, List.setIfInBounds_toArray, List.set_cons_zero, List.set_cons_succ, List.getElem_toArray, List.getElem_cons_succ, List.getElem_cons_zero]
                  refine wpAnyH_take (i := 3) (v := undef) rfl (by kernel_rfl) (by kernel_rfl) (by kernel_rfl) (fun _ _ _ h => h) (Or.inr ⟨by rfl, rfl⟩) (by assumption) ?_
                  try simp only [Act.put, List.setIfInBounds_toArray, List.set_cons_zero, List.set_cons_succ, List.getElem_toArray, List.getElem_cons_succ, List.getElem_cons_zero]
                  refine wpAnyH_take (i := 4) (v := undef) rfl (by kernel_rfl) (by kernel_rfl) (by kernel_rfl) (fun _ _ _ h => h) (Or.inr ⟨by rfl, rfl⟩) (by assumption) ?_
                  try simp only [Act.put, List.setIfInBounds_toArray, List.set_cons_zero, List.set_cons_succ, List.getElem_toArray, List.getElem_cons_succ, List.getElem_cons_zero]
                  refine wpAnyH_take (i := 5) (v := undef) rfl (by kernel_rfl) (by kernel_rfl) (by kernel_rfl) (fun _ _ _ h => h) (Or.inr ⟨by rfl, rfl⟩) (by assumption) ?_
                  try simp only [Act.put, List.setIfInBounds_toArray, List.set_cons_zero, List.set_cons_succ, List.getElem_toArray, List.getElem_cons_succ, List.getElem_cons_zero]
                  refine wpAnyH_take (i := 6) (v := undef) rfl (by kernel_rfl) (by kernel_rfl) (by kernel_rfl) (fun _ _ _ h => h) (Or.inr ⟨by rfl, rfl⟩) (by assumption) ?_
                  try simp only [Act.put, List.setIfInBounds_toArray, List.set_cons_zero, List.set_cons_succ, List.getElem_toArray, List.getElem_cons_succ, List.getElem_cons_zero]
                  refine wpAnyH_take (i := 7) (v := undef) rfl (by kernel_rfl) (by kernel_rfl) (by kernel_rfl) (fun _ _ _ h => h) (Or.inr ⟨by rfl, rfl⟩) (by assumption) ?_
                  try simp only [Act.put, List.setIfInBounds_toArray, List.set_cons_zero, List.set_cons_succ, List.getElem_toArray, List.getElem_cons_succ, List.getElem_cons_zero]
                  refine wpAnyH_take (i := 8) (v := ?vx16_8) rfl (by kernel_rfl) (by kernel_rfl) (by kernel_rfl) (fun _ _ _ h => h) (Or.inl ⟨by rfl, ?hyx16_8⟩) (by assumption) ?restx16_8
                  case hyx16_8 => (intro w hSw; have F := Ok.sees hSw; clear hSw; simp only [sees, cellsFrom, Nat.add_zero, kCells, kBlk, kRow, cellsAt, Nat.reduceAdd] at F; go_simp; try with_reducible rfl)
                  try simp only [Act.put, List.setIfInBounds_toArray, List.set_cons_zero, List.set_cons_succ, List.getElem_toArray, List.getElem_cons_succ, List.getElem_cons_zero]
                  refine wpAnyH_take (i := 9) (v := ?vx17_9) rfl (by kernel_rfl) (by kernel_rfl) (by kernel_rfl) (fun _ _ _ h => h) (Or.inl ⟨by rfl, ?hyx17_9⟩) (by assumption) ?restx17_9
                  case hyx17_9 => (intro w hSw; have F := Ok.sees hSw; clear hSw; simp only [sees, cellsFrom, Nat.add_zero, kCells, kBlk, kRow, cellsAt, Nat.reduceAdd] at F; go_simp; try with_reducible rfl)
                  try simp only [Act.put, List.setIfInBounds_toArray, List.set_cons_zero, List.set_cons_succ, List.getElem_toArray, List.getElem_cons_succ, List.getElem_cons_zero]
                  refine wpAnyH_take (i := 10) (v := ?vx18_10) rfl (by kernel_rfl) (by kernel_rfl) (by kernel_rfl) (fun _ _ _ h => h) (Or.inl ⟨by rfl, ?hyx18_10⟩) (by assumption) ?restx18_10
                  case hyx18_10 => (intro w hSw; have F := Ok.sees hSw; clear hSw; simp only [sees, cellsFrom, Nat.add_zero, kCells, kBlk, kRow, cellsAt, Nat.reduceAdd] at F; go_simp; try with_reducible rfl)
                  try simp only [Act.put, List.setIfInBounds_toArray, List.set_cons_zero, List.set_cons_succ, List.getElem_toArray, List.getElem_cons_succ, List.getElem_cons_zero]
                  refine wpAnyH_take (i := 11) (v := ?vx19_11) rfl (by kernel_rfl) (by kernel_rfl) (by kernel_rfl) (fun _ _ _ h => h) (Or.inl ⟨by rfl, ?hyx19_11⟩) (by assumption) ?restx19_11
                  case hyx19_11 => (intro w hSw; have F := Ok.sees hSw; clear hSw; simp only [sees, cellsFrom, Nat.add_zero, kCells, kBlk, kRow, cellsAt, Nat.reduceAdd] at F; go_simp; try with_reducible rfl)
                  try simp only [Act.put, List.setIfInBounds_toArray, List.set_cons_zero, List.set_cons_succ, List.getElem_toArray, List.getElem_cons_succ, List.getElem_cons_zero]
                  refine wpAnyH_take (i := 12) (v := ?vx20_12) rfl (by kernel_rfl) (by kernel_rfl) (by kernel_rfl) (fun _ _ _ h => h) (Or.inl ⟨by rfl, ?hyx20_12⟩) (by assumption) ?restx20_12
                  case hyx20_12 => (intro w hSw; have F := Ok.sees hSw; clear hSw; simp only [sees, cellsFrom, Nat.add_zero, kCells, kBlk, kRow, cellsAt, Nat.reduceAdd] at F; go_simp; try with_reducible rfl)
                  try simp only [Act.put, List.setIfInBounds_toArray, List.set_cons_zero, List.set_cons_succ, List.getElem_toArray, List.getElem_cons_succ, List.getElem_cons_zero]
                  refine wpAnyH_take (i := 13) (v := ?vx21_13) rfl (by kernel_rfl) (by kernel_rfl) (by kernel_rfl) (fun _ _ _ h => h) (Or.inl ⟨by rfl, ?hyx21_13⟩) (by assumption) ?restx21_13
                  case hyx21_13 => (intro w hSw; have F := Ok.sees hSw; clear hSw; simp only [sees, cellsFrom, Nat.add_zero, kCells, kBlk, kRow, cellsAt, Nat.reduceAdd] at F; go_simp; try with_reducible rfl)
                  try simp only [Act.put, List.setIfInBounds_toArray, List.set_cons_zero, List.set_cons_succ, List.getElem_toArray, List.getElem_cons_succ, List.getElem_cons_zero]
                  refine wpAnyH_ready (rs := [14]) (by kernel_rfl) (by simp) ?_
                  refine AllReadyH.cons rfl (fun K hK => ?_) AllReadyH.nil
                  go_simp
                  refine (rect_Has _ _ _ _ _ _ _).mono ?_
                  rintro e w27 ⟨rfl, hb28⟩
                  rw [HHA.out]
                  go_wp2_with fail
                  refine hK.out _ _ (hHeld.below hb28) (fun hHeld => ?_)
                  clear hK K
                  try simp only [Act.put, List.setIfInBounds_toArray, List.set_cons_zero, List.set_cons_succ, List.getElem_toArray, List.getElem_cons_succ, List.getElem_cons_zero]
                  refine wpAnyH_take (i := 15) (v := ?vx22_15) rfl (by kernel_rfl) (by kernel_rfl) (by kernel_rfl) (fun _ _ _ h => h) (Or.inl ⟨by rfl, ?hyx22_15⟩) (by assumption) ?restx22_15
                  case hyx22_15 => (intro w hSw; have F := Ok.sees hSw; clear hSw; simp only [sees, cellsFrom, Nat.add_zero, kCells, kBlk, kRow, cellsAt, Nat.reduceAdd] at F; go_simp; try with_reducible rfl)
                  try simp only [Act.put, List.setIfInBounds_toArray, List.set_cons_zero, List.set_cons_succ, List.getElem_toArray, List.getElem_cons_succ, List.getElem_cons_zero]
                  refine wpAnyH_take (i := 16) (v := undef) rfl (by kernel_rfl) (by kernel_rfl) (by kernel_rfl) (fun _ _ _ h => h) (Or.inr ⟨by rfl, rfl⟩) (by assumption) ?_
                  try simp only [Act.put, List.setIfInBounds_toArray, List.set_cons_zero, List.set_cons_succ, List.getElem_toArray, List.getElem_cons_succ, List.getElem_cons_zero]
                  refine wpAnyH_take (i := 17) (v := undef) rfl (by kernel_rfl) (by kernel_rfl) (by kernel_rfl) (fun _ _ _ h => h) (Or.inr ⟨by rfl, rfl⟩) (by assumption) ?_
                  try simp only [Act.put, List.setIfInBounds_toArray, List.set_cons_zero, List.set_cons_succ, List.getElem_toArray, List.getElem_cons_succ, List.getElem_cons_zero]
                  refine wpAnyH_take (i := 18) (v := undef) rfl (by kernel_rfl) (by kernel_rfl) (by kernel_rfl) (fun _ _ _ h => h) (Or.inr ⟨by rfl, rfl⟩) (by assumption) ?_
                  try simp only [Act.put, List.setIfInBounds_toArray, List.set_cons_zero, List.set_cons_succ, List.getElem_toArray, List.getElem_cons_succ, List.getElem_cons_zero]
                  refine wpAnyH_take (i := 19) (v := undef) rfl (by kernel_rfl) (by kernel_rfl) (by kernel_rfl) (fun _ _ _ h => h) (Or.inr ⟨by rfl, rfl⟩) (by assumption) ?_
                  try simp only [Act.put, List.setIfInBounds_toArray, List.set_cons_zero, List.set_cons_succ, List.getElem_toArray, List.getElem_cons_succ, List.getElem_cons_zero]
                  refine wpAnyH_take (i := 20) (v := undef) rfl (by kernel_rfl) (by kernel_rfl) (by kernel_rfl) (fun _ _ _ h => h) (Or.inr ⟨by rfl, rfl⟩) (by assumption) ?_
                  try simp only [Act.put, List.setIfInBounds_toArray, List.set_cons_zero, List.set_cons_succ, List.getElem_toArray, List.getElem_cons_succ, List.getElem_cons_zero]
                  refine wpAnyH_take (i := 21) (v := undef) rfl (by kernel_rfl) (by kernel_rfl) (by kernel_rfl) (fun _ _ _ h => h) (Or.inr ⟨by rfl, rfl⟩) (by assumption) ?_
                  try simp only [Act.put, List.setIfInBounds_toArray, List.set_cons_zero, List.set_cons_succ, List.getElem_toArray, List.getElem_cons_succ, List.getElem_cons_zero]
                  refine wpAnyH_take (i := 22) (v := ?vx29_22) rfl (by kernel_rfl) (by kernel_rfl) (by kernel_rfl) (fun _ _ _ h => h) (Or.inl ⟨by rfl, ?hyx29_22⟩) (by assumption) ?restx29_22
                  case hyx29_22 => (intro w hSw; have F := Ok.sees hSw; clear hSw; simp only [sees, cellsFrom, Nat.add_zero, kCells, kBlk, kRow, cellsAt, Nat.reduceAdd] at F; go_simp; try with_reducible rfl)
                  try simp only [Act.put, List.setIfInBounds_toArray, List.set_cons_zero, List.set_cons_succ, List.getElem_toArray, List.getElem_cons_succ, List.getElem_cons_zero]
                  refine wpAnyH_take (i := 23) (v := ?vx30_23) rfl (by kernel_rfl) (by kernel_rfl) (by kernel_rfl) (fun _ _ _ h => h) (Or.inl ⟨by rfl, ?hyx30_23⟩) (by assumption) ?restx30_23
                  case hyx30_23 => (intro w hSw; have F := Ok.sees hSw; clear hSw; simp only [sees, cellsFrom, Nat.add_zero, kCells, kBlk, kRow, cellsAt, Nat.reduceAdd] at F; go_simp; try with_reducible rfl)
                  try simp only [Act.put, List.setIfInBounds_toArray, List.set_cons_zero, List.set_cons_succ, List.getElem_toArray, List.getElem_cons_succ, List.getElem_cons_zero]
                  refine wpAnyH_done (by kernel_rfl) ?_ _
                  clear z0 c0_0 c0_1 z2 c2_0 c2_1 c2_2 c2_3 z3 c3_0 c3_1 c3_2 c3_3 z4 c4_0 c4_1 z5 c5_0 c5_1 c5_2 c5_3 z6 c6_0 c6_1 c6_2 c6_3
                  clear H3
                  have H29 := Lib.hid hHeld
                  clear hHeld
                  go_wp2_with fail
                  go_roundw
                  case rel => exact ⟨k + 1, by omega, by go_num, OkRow.back H29.out.tail HFAR.out⟩
                  case measure => simp [intOf]; omega
                · generalize hHM : hasR ⟨m1, m2, m3, m4⟩ x y = r at hX
                  have HHM := Lib.hid hHM
                  clear hHM
                  simp only [Bool.true_and, Bool.false_and] at hX
                  subst hX
                  clear H2
                  have F25 := H3.out.sees
                  simp only [sees, cellsFrom, Nat.add_zero, kCells, kBlk, kRow, cellsAt, Nat.reduceAdd] at F25
                  obtain ⟨⟨z0, c0_0, c0_1, -⟩, -, ⟨z2, c2_0, c2_1, c2_2, c2_3, -⟩, ⟨z3, c3_0, c3_1, c3_2, c3_3, -⟩, ⟨z4, c4_0, c4_1, -⟩, ⟨z5, c5_0, c5_1, c5_2, c5_3, -⟩, ⟨z6, c6_0, c6_1, c6_2, c6_3, -⟩, -⟩ := F25
                  go_wp2_with fail
                  refine wp_region_held_drew (S := fun W => Ok w [kCells g (k * 2) [.int .i64 x, .int .i64 y], kRow w.heap.size 23 2 (.slice (some ⟨g, 0, none⟩) 33 cp) 33 (rfCells l), kBlk (w9.heap.size) 38 [.int .i64 m1, .int .i64 m2, .int .i64 m3, .int .i64 m4], kBlk (w3.heap.size) 38 [.int .i64 m1, .int .i64 m2, .int .i64 m3, .int .i64 m4], kBlk (w.heap.size + 1 + 1) 23 [.int .i64 c, .int .i64 t], kBlk (w.heap.size + 1) 38 [.int .i64 b1, .int .i64 b2, .int .i64 b3, .int .i64 b4], kBlk (w.heap.size) 38 [.int .i64 a1, .int .i64 a2, .int .i64 a3, .int .i64 a4]] W) (by kernel_rfl) H3.out.drew (fun hHeld => ?_)
                  refine wpAnyH_take (i := 0) (v := ?vx31_0) rfl (by kernel_rfl) (by kernel_rfl) (by kernel_rfl) (fun _ _ _ h => h) (Or.inl ⟨by rfl, ?hyx31_0⟩) (by assumption) ?restx31_0
                  case hyx31_0 => (intro w hSw; have F := Ok.sees hSw; clear hSw; simp only [sees, cellsFrom, Nat.add_zero, kCells, kBlk, kRow, cellsAt, Nat.reduceAdd] at F; go_simp; try with_reducible rfl)
                  try simp only [Act.put, List.setIfInBounds_toArray, List.set_cons_zero, List.set_cons_succ, List.getElem_toArray, List.getElem_cons_zero]
                  refine wpAnyH_take (i := 1) (v := ?vx32_1) rfl (by kernel_rfl) (by kernel_rfl) (by kernel_rfl) (fun _ _ _ h => h) (Or.inl ⟨by rfl, ?hyx32_1⟩) (by assumption) ?restx32_1
                  case hyx32_1 => (intro w hSw; have F := Ok.sees hSw; clear hSw; simp only [sees, cellsFrom, Nat.add_zero, kCells, kBlk, kRow, cellsAt, Nat.reduceAdd] at F; go_simp; try with_reducible rfl)
                  try simp only [Act.put, List.setIfInBounds_toArray, List.set_cons_zero, List.set_cons_succ, List.getElem_toArray, List.getElem_cons_succ, List.getElem_cons_zero]
                  refine wpAnyH_take (i := 2) (v := ?vx33_2) rfl (by kernel_rfl) (by kernel_rfl) (by kernel_rfl) (fun _ _ _ h => h) (Or.inl ⟨by rfl, ?hyx33_2⟩) (by assumption) ?restx33_2
                  case hyx33_2 => (intro w hSw; have F := Ok.sees hSw; clear hSw; simp only [sees, cellsFrom, Nat.add_zero, kCells, kBlk, kRow, cellsAt, Nat.reduceAdd] at F; go_simp; try with_reducible rfl)
                  try simp only [Act.put, List.setIfInBounds_toArray, List.set_cons_zero, List.set_cons_succ, List.getElem_toArray, List.getElem_cons_succ, List.getElem_cons_zero]
                  refine wpAnyH_take (i := 3) (v := ?vx34_3) rfl (by kernel_rfl) (by kernel_rfl) (by kernel_rfl) (fun _ _ _ h => h) (Or.inl ⟨by rfl, ?hyx34_3⟩) (by assumption) ?restx34_3
                  case hyx34_3 => (intro w hSw; have F := Ok.sees hSw; clear hSw; simp only [sees, cellsFrom, Nat.add_zero, kCells, kBlk, kRow, cellsAt, Nat.reduceAdd] at F; go_simp; try with_reducible rfl)
                  try simp only [Act.put, List.setIfInBounds_toArray, List.set_cons_zero, List.set_cons_succ, List.getElem_toArray, List.getElem_cons_succ, List.getElem_cons_zero]
                  refine wpAnyH_take (i := 4) (v := ?vx35_4) rfl (by kernel_rfl) (by kernel_rfl) (by kernel_rfl) (fun _ _ _ h => h) (Or.inl ⟨by rfl, ?hyx35_4⟩) (by assumption) ?restx35_4
                  case hyx35_4 => (intro w hSw; have F := Ok.sees hSw; clear hSw; simp only [sees, cellsFrom, Nat.add_zero, kCells, kBlk, kRow, cellsAt, Nat.reduceAdd] at F; go_simp; try with_reducible rfl)
                  try simp only [Act.put, List.setIfInBounds_toArray, List.set_cons_zero, List.set_cons_succ, List.getElem_toArray, List.getElem_cons_succ, List.getElem_cons_zero]
                  refine wpAnyH_take (i := 5) (v := ?vx36_5) rfl (by kernel_rfl) (by kernel_rfl) (by kernel_rfl) (fun _ _ _ h => h) (Or.inl ⟨by rfl, ?hyx36_5⟩) (by assumption) ?restx36_5
                  case hyx36_5 => (intro w hSw; have F := Ok.sees hSw; clear hSw; simp only [sees, cellsFrom, Nat.add_zero, kCells, kBlk, kRow, cellsAt, Nat.reduceAdd] at F; go_simp; try with_reducible rfl)
                  try simp only [Act.put, List.setIfInBounds_toArray, List.set_cons_zero, List.set_cons_succ, List.getElem_toArray, List.getElem_cons_succ, List.getElem_cons_zero]
                  refine wpAnyH_take (i := 6) (v := ?vx37_6) rfl (by kernel_rfl) (by kernel_rfl) (by kernel_rfl) (fun _ _ _ h => h) (Or.inl ⟨by rfl, ?hyx37_6⟩) (by assumption) ?restx37_6
                  case hyx37_6 => (intro w hSw; have F := Ok.sees hSw; clear hSw; simp only [sees, cellsFrom, Nat.add_zero, kCells, kBlk, kRow, cellsAt, Nat.reduceAdd] at F; go_simp; try with_reducible rfl)
                  try simp only [Act.put, List.setIfInBounds_toArray, List.set_cons_zero, List.set_cons_succ, List.getElem_toArray, List.getElem_cons_succ, List.getElem_cons_zero]
                  refine wpAnyH_take (i := 9) (v := ?vx38_9) rfl (by kernel_rfl) (by kernel_rfl) (by kernel_rfl) (fun _ _ _ h => h) (Or.inl ⟨by rfl, ?hyx38_9⟩) (by assumption) ?restx38_9
                  case hyx38_9 => (intro w hSw; have F := Ok.sees hSw; clear hSw; simp only [sees, cellsFrom, Nat.add_zero, kCells, kBlk, kRow, cellsAt, Nat.reduceAdd] at F; go_simp; try with_reducible rfl)
                  try simp only [Act.put, List.setIfInBounds_toArray, List.set_cons_zero, List.set_cons_succ, List.getElem_toArray, List.getElem_cons_succ, List.getElem_cons_zero]
                  refine wpAnyH_take (i := 10) (v := ?vx39_10) rfl (by kernel_rfl) (by kernel_rfl) (by kernel_rfl) (fun _ _ _ h => h) (Or.inl ⟨by rfl, ?hyx39_10⟩) (by assumption) ?restx39_10
                  case hyx39_10 => (intro w hSw; have F := Ok.sees hSw; clear hSw; simp only [sees, cellsFrom, Nat.add_zero, kCells, kBlk, kRow, cellsAt, Nat.reduceAdd] at F; go_simp; try with_reducible rfl)
                  try simp only [Act.put, List.setIfInBounds_toArray, List.set_cons_zero, List.set_cons_succ, List.getElem_toArray, List.getElem_cons_succ, List.getElem_cons_zero]
                  refine wpAnyH_take (i := 11) (v := ?vx40_11) rfl (by kernel_rfl) (by kernel_rfl) (by kernel_rfl) (fun _ _ _ h => h) (Or.inl ⟨by rfl, ?hyx40_11⟩) (by assumption) ?restx40_11
                  case hyx40_11 => (intro w hSw; have F := Ok.sees hSw; clear hSw; simp only [sees, cellsFrom, Nat.add_zero, kCells, kBlk, kRow, cellsAt, Nat.reduceAdd] at F; go_simp; try with_reducible rfl)
                  try simp only [Act.put, List.setIfInBounds_toArray, List.set_cons_zero, List.set_cons_succ, List.getElem_toArray, List.getElem_cons_succ, List.getElem_cons_zero]
                  refine wpAnyH_take (i := 12) (v := ?vx41_12) rfl (by kernel_rfl) (by kernel_rfl) (by kernel_rfl) (fun _ _ _ h => h) (Or.inl ⟨by rfl, ?hyx41_12⟩) (by assumption) ?restx41_12
                  case hyx41_12 => (intro w hSw; have F := Ok.sees hSw; clear hSw; simp only [sees, cellsFrom, Nat.add_zero, kCells, kBlk, kRow, cellsAt, Nat.reduceAdd] at F; go_simp; try with_reducible rfl)
                  try simp only [Act.put, List.setIfInBounds_toArray, List.set_cons_zero, List.set_cons_succ, List.getElem_toArray, List.getElem_cons_succ, List.getElem_cons_zero]
                  refine wpAnyH_take (i := 13) (v := ?vx42_13) rfl (by kernel_rfl) (by kernel_rfl) (by kernel_rfl) (fun _ _ _ h => h) (Or.inl ⟨by rfl, ?hyx42_13⟩) (by assumption) ?restx42_13
                  case hyx42_13 => (intro w hSw; have F := Ok.sees hSw; clear hSw; simp only [sees, cellsFrom, Nat.add_zero, kCells, kBlk, kRow, cellsAt, Nat.reduceAdd] at F; go_simp; try with_reducible rfl)
                  try simp only [Act.put, List.setIfInBounds_toArray, List.set_cons_zero, List.set_cons_succ, List.getElem_toArray, List.getElem_cons_succ, List.getElem_cons_zero]
                  refine wpAnyH_ready (rs := [7]) (by kernel_rfl) (by simp) ?_
                  refine AllReadyH.cons rfl (fun K hK => ?_) AllReadyH.nil
                  go_simp
                  refine (rect_Has _ _ _ _ _ _ _).mono ?_
                  rintro e w27 ⟨rfl, hb28⟩
                  rw [HHM.out]
                  go_wp2_with fail
                  refine hK.out _ _ (hHeld.below hb28) (fun hHeld => ?_)
                  clear hK K
                  try simp only [Act.put, List.setIfInBounds_toArray, List.set_cons_zero, List.set_cons_succ, List.getElem_toArray, List.getElem_cons_succ, List.getElem_cons_zero]
                  refine wpAnyH_take (i := 8) (v := ?vx43_8) rfl (by kernel_rfl) (by kernel_rfl) (by kernel_rfl) (fun _ _ _ h => h) (Or.inl ⟨by rfl, ?hyx43_8⟩) (by assumption) ?restx43_8
                  case hyx43_8 => (intro w hSw; have F := Ok.sees hSw; clear hSw; simp only [sees, cellsFrom, Nat.add_zero, kCells, kBlk, kRow, cellsAt, Nat.reduceAdd] at F; go_simp; try with_reducible rfl)
                  try simp only [Act.put, List.setIfInBounds_toArray, List.set_cons_zero, List.set_cons_succ, List.getElem_toArray, List.getElem_cons_succ, List.getElem_cons_zero]
                  refine wpAnyH_ready (rs := [14]) (by kernel_rfl) (by simp) ?_
                  refine AllReadyH.cons rfl (fun K hK => ?_) AllReadyH.nil
                  go_simp
                  refine (rect_Has _ _ _ _ _ _ _).mono ?_
                  rintro e w29 ⟨rfl, hb30⟩
                  rw [HHA.out]
                  go_wp2_with fail
                  refine hK.out _ _ (hHeld.below hb30) (fun hHeld => ?_)
                  clear hK K
                  try simp only [Act.put, List.setIfInBounds_toArray, List.set_cons_zero, List.set_cons_succ, List.getElem_toArray, List.getElem_cons_succ, List.getElem_cons_zero]
                  refine wpAnyH_take (i := 15) (v := ?vx44_15) rfl (by kernel_rfl) (by kernel_rfl) (by kernel_rfl) (fun _ _ _ h => h) (Or.inl ⟨by rfl, ?hyx44_15⟩) (by assumption) ?restx44_15
                  case hyx44_15 => (intro w hSw; have F := Ok.sees hSw; clear hSw; simp only [sees, cellsFrom, Nat.add_zero, kCells, kBlk, kRow, cellsAt, Nat.reduceAdd] at F; go_simp; try with_reducible rfl)
                  try simp only [Act.put, List.setIfInBounds_toArray, List.set_cons_zero, List.set_cons_succ, List.getElem_toArray, List.getElem_cons_succ, List.getElem_cons_zero]
                  refine wpAnyH_take (i := 16) (v := undef) rfl (by kernel_rfl) (by kernel_rfl) (by kernel_rfl) (fun _ _ _ h => h) (Or.inr ⟨by rfl, rfl⟩) (by assumption) ?_
                  try simp only [Act.put, List.setIfInBounds_toArray, List.set_cons_zero, List.set_cons_succ, List.getElem_toArray, List.getElem_cons_succ, List.getElem_cons_zero]
                  refine wpAnyH_take (i := 17) (v := undef) rfl (by kernel_rfl) (by kernel_rfl) (by kernel_rfl) (fun _ _ _ h => h) (Or.inr ⟨by rfl, rfl⟩) (by assumption) ?_
                  try simp only [Act.put, List.setIfInBounds_toArray, List.set_cons_zero, List.set_cons_succ, List.getElem_toArray, List.getElem_cons_succ, List.getElem_cons_zero]
                  refine wpAnyH_take (i := 18) (v := undef) rfl (by kernel_rfl) (by kernel_rfl) (by kernel_rfl) (fun _ _ _ h => h) (Or.inr ⟨by rfl, rfl⟩) (by assumption) ?_
                  try simp only [Act.put, List.setIfInBounds_toArray, List.set_cons_zero, List.set_cons_succ, List.getElem_toArray, List.getElem_cons_succ, List.getElem_cons_zero]
                  refine wpAnyH_take (i := 19) (v := undef) rfl (by kernel_rfl) (by kernel_rfl) (by kernel_rfl) (fun _ _ _ h => h) (Or.inr ⟨by rfl, rfl⟩) (by assumption) ?_
                  try simp only [Act.put, List.setIfInBounds_toArray, List.set_cons_zero, List.set_cons_succ, List.getElem_toArray, List.getElem_cons_succ, List.getElem_cons_zero]
                  refine wpAnyH_take (i := 20) (v := undef) rfl (by kernel_rfl) (by kernel_rfl) (by kernel_rfl) (fun _ _ _ h => h) (Or.inr ⟨by rfl, rfl⟩) (by assumption) ?_
                  try simp only [Act.put, List.setIfInBounds_toArray, List.set_cons_zero, List.set_cons_succ, List.getElem_toArray, List.getElem_cons_succ, List.getElem_cons_zero]
                  refine wpAnyH_take (i := 21) (v := undef) rfl (by kernel_rfl) (by kernel_rfl) (by kernel_rfl) (fun _ _ _ h => h) (Or.inr ⟨by rfl, rfl⟩) (by assumption) ?_
                  try simp only [Act.put, List.setIfInBounds_toArray, List.set_cons_zero, List.set_cons_succ, List.getElem_toArray, List.getElem_cons_succ, List.getElem_cons_zero]
                  refine wpAnyH_take (i := 22) (v := ?vx51_22) rfl (by kernel_rfl) (by kernel_rfl) (by kernel_rfl) (fun _ _ _ h => h) (Or.inl ⟨by rfl, ?hyx51_22⟩) (by assumption) ?restx51_22
                  case hyx51_22 => (intro w hSw; have F := Ok.sees hSw; clear hSw; simp only [sees, cellsFrom, Nat.add_zero, kCells, kBlk, kRow, cellsAt, Nat.reduceAdd] at F; go_simp; try with_reducible rfl)
                  try simp only [Act.put, List.setIfInBounds_toArray, List.set_cons_zero, List.set_cons_succ, List.getElem_toArray, List.getElem_cons_succ, List.getElem_cons_zero]
                  refine wpAnyH_take (i := 23) (v := ?vx52_23) rfl (by kernel_rfl) (by kernel_rfl) (by kernel_rfl) (fun _ _ _ h => h) (Or.inl ⟨by rfl, ?hyx52_23⟩) (by assumption) ?restx52_23
                  case hyx52_23 => (intro w hSw; have F := Ok.sees hSw; clear hSw; simp only [sees, cellsFrom, Nat.add_zero, kCells, kBlk, kRow, cellsAt, Nat.reduceAdd] at F; go_simp; try with_reducible rfl)
                  try simp only [Act.put, List.setIfInBounds_toArray, List.set_cons_zero, List.set_cons_succ, List.getElem_toArray, List.getElem_cons_succ, List.getElem_cons_zero]
                  refine wpAnyH_done (by kernel_rfl) ?_ _
                  clear z0 c0_0 c0_1 z2 c2_0 c2_1 c2_2 c2_3 z3 c3_0 c3_1 c3_2 c3_3 z4 c4_0 c4_1 z5 c5_0 c5_1 c5_2 c5_3 z6 c6_0 c6_1 c6_2 c6_3
                  clear H3
                  have H31 := Lib.hid hHeld
                  clear hHeld
                  go_wp2_with fail
                  go_roundw
                  case rel => exact ⟨k + 1, by omega, by go_num, OkRow.back H31.out.tail HFAR.out⟩
                  case measure => simp [intOf]; omega
              · cases O
                · simp only [Bool.false_and, Bool.true_and] at hX
                  subst hX
                  clear H2
                  have F25 := H3.out.sees
                  simp only [sees, cellsFrom, Nat.add_zero, kCells, kBlk, kRow, cellsAt, Nat.reduceAdd] at F25
                  obtain ⟨⟨z0, c0_0, c0_1, -⟩, -, ⟨z2, c2_0, c2_1, c2_2, c2_3, -⟩, ⟨z3, c3_0, c3_1, c3_2, c3_3, -⟩, ⟨z4, c4_0, c4_1, -⟩, ⟨z5, c5_0, c5_1, c5_2, c5_3, -⟩, ⟨z6, c6_0, c6_1, c6_2, c6_3, -⟩, -⟩ := F25
                  go_wp2_with fail
                  refine wp_region_held_drew (S := fun W => Ok w [kCells g (k * 2) [.int .i64 x, .int .i64 y], kRow w.heap.size 23 2 (.slice (some ⟨g, 0, none⟩) 33 cp) 33 (rfCells l), kBlk (w9.heap.size) 38 [.int .i64 m1, .int .i64 m2, .int .i64 m3, .int .i64 m4], kBlk (w3.heap.size) 38 [.int .i64 m1, .int .i64 m2, .int .i64 m3, .int .i64 m4], kBlk (w.heap.size + 1 + 1) 23 [.int .i64 c, .int .i64 t], kBlk (w.heap.size + 1) 38 [.int .i64 b1, .int .i64 b2, .int .i64 b3, .int .i64 b4], kBlk (w.heap.size) 38 [.int .i64 a1, .int .i64 a2, .int .i64 a3, .int .i64 a4]] W) (by kernel_rfl) H3.out.drew (fun hHeld => ?_)
                  refine wpAnyH_take (i := 0) (v := ?vx53_0) rfl (by kernel_rfl) (by kernel_rfl) (by kernel_rfl) (fun _ _ _ h => h) (Or.inl ⟨by rfl, ?hyx53_0⟩) (by assumption) ?restx53_0
                  case hyx53_0 => (intro w hSw; have F := Ok.sees hSw; clear hSw; simp only [sees, cellsFrom, Nat.add_zero, kCells, kBlk, kRow, cellsAt, Nat.reduceAdd] at F; go_simp; try with_reducible rfl)
                  try simp only [Act.put, List.setIfInBounds_toArray, List.set_cons_zero, List.set_cons_succ, List.getElem_toArray, List.getElem_cons_zero]
                  refine wpAnyH_take (i := 1) (v := ?vx54_1) rfl (by kernel_rfl) (by kernel_rfl) (by kernel_rfl) (fun _ _ _ h => h) (Or.inl ⟨by rfl, ?hyx54_1⟩) (by assumption) ?restx54_1
                  case hyx54_1 => (intro w hSw; have F := Ok.sees hSw; clear hSw; simp only [sees, cellsFrom, Nat.add_zero, kCells, kBlk, kRow, cellsAt, Nat.reduceAdd] at F; go_simp; try with_reducible rfl)
                  try simp only [Act.put, List.setIfInBounds_toArray, List.set_cons_zero, List.set_cons_succ, List.getElem_toArray, List.getElem_cons_succ, List.getElem_cons_zero]
                  refine wpAnyH_take (i := 2) (v := undef) rfl (by kernel_rfl) (by kernel_rfl) (by kernel_rfl) (fun _ _ _ h => h) (Or.inr ⟨by rfl, rfl⟩) (by assumption) ?_
                  try simp only [Act.put, List.setIfInBounds_toArray, List.set_cons_zero, List.set_cons_succ, List.getElem_toArray, List.getElem_cons_succ, List.getElem_cons_zero]
                  refine wpAnyH_take (i := 3) (v := undef) rfl (by kernel_rfl) (by kernel_rfl) (by kernel_rfl) (fun _ _ _ h => h) (Or.inr ⟨by rfl, rfl⟩) (by assumption) ?_
                  try simp only [Act.put, List.setIfInBounds_toArray, List.set_cons_zero, List.set_cons_succ, List.getElem_toArray, List.getElem_cons_succ, List.getElem_cons_zero]
                  refine wpAnyH_take (i := 4) (v := undef) rfl (by kernel_rfl) (by kernel_rfl) (by kernel_rfl) (fun _ _ _ h => h) (Or.inr ⟨by rfl, rfl⟩) (by assumption) ?_
                  try simp only [Act.put, List.setIfInBounds_toArray, List.set_cons_zero, List.set_cons_succ, List.getElem_toArray, List.getElem_cons_succ, List.getElem_cons_zero]
                  refine wpAnyH_take (i := 5) (v := undef) rfl (by kernel_rfl) (by kernel_rfl) (by kernel_rfl) (fun _ _ _ h => h) (Or.inr ⟨by rfl, rfl⟩) (by assumption) ?_
                  try simp only [Act.put, List.setIfInBounds_toArray, List.set_cons_zero, List.set_cons_succ, List.getElem_toArray, List.getElem_cons_succ, List.getElem_cons_zero]
                  refine wpAnyH_take (i := 6) (v := undef) rfl (by kernel_rfl) (by kernel_rfl) (by kernel_rfl) (fun _ _ _ h => h) (Or.inr ⟨by rfl, rfl⟩) (by assumption) ?_
                  try simp only [Act.put, List.setIfInBounds_toArray, List.set_cons_zero, List.set_cons_succ, List.getElem_toArray, List.getElem_cons_succ, List.getElem_cons_zero]
                  refine wpAnyH_take (i := 7) (v := undef) rfl (by kernel_rfl) (by kernel_rfl) (by kernel_rfl) (fun _ _ _ h => h) (Or.inr ⟨by rfl, rfl⟩) (by assumption) ?_
                  try simp only [Act.put, List.setIfInBounds_toArray, List.set_cons_zero, List.set_cons_succ, List.getElem_toArray, List.getElem_cons_succ, List.getElem_cons_zero]
                  refine wpAnyH_take (i := 8) (v := ?vx61_8) rfl (by kernel_rfl) (by kernel_rfl) (by kernel_rfl) (fun _ _ _ h => h) (Or.inl ⟨by rfl, ?hyx61_8⟩) (by assumption) ?restx61_8
                  case hyx61_8 => (intro w hSw; have F := Ok.sees hSw; clear hSw; simp only [sees, cellsFrom, Nat.add_zero, kCells, kBlk, kRow, cellsAt, Nat.reduceAdd] at F; go_simp; try with_reducible rfl)
                  try simp only [Act.put, List.setIfInBounds_toArray, List.set_cons_zero, List.set_cons_succ, List.getElem_toArray, List.getElem_cons_succ, List.getElem_cons_zero]
                  refine wpAnyH_take (i := 9) (v := ?vx62_9) rfl (by kernel_rfl) (by kernel_rfl) (by kernel_rfl) (fun _ _ _ h => h) (Or.inl ⟨by rfl, ?hyx62_9⟩) (by assumption) ?restx62_9
                  case hyx62_9 => (intro w hSw; have F := Ok.sees hSw; clear hSw; simp only [sees, cellsFrom, Nat.add_zero, kCells, kBlk, kRow, cellsAt, Nat.reduceAdd] at F; go_simp; try with_reducible rfl)
                  try simp only [Act.put, List.setIfInBounds_toArray, List.set_cons_zero, List.set_cons_succ, List.getElem_toArray, List.getElem_cons_succ, List.getElem_cons_zero]
                  refine wpAnyH_take (i := 10) (v := ?vx63_10) rfl (by kernel_rfl) (by kernel_rfl) (by kernel_rfl) (fun _ _ _ h => h) (Or.inl ⟨by rfl, ?hyx63_10⟩) (by assumption) ?restx63_10
                  case hyx63_10 => (intro w hSw; have F := Ok.sees hSw; clear hSw; simp only [sees, cellsFrom, Nat.add_zero, kCells, kBlk, kRow, cellsAt, Nat.reduceAdd] at F; go_simp; try with_reducible rfl)
                  try simp only [Act.put, List.setIfInBounds_toArray, List.set_cons_zero, List.set_cons_succ, List.getElem_toArray, List.getElem_cons_succ, List.getElem_cons_zero]
                  refine wpAnyH_take (i := 11) (v := ?vx64_11) rfl (by kernel_rfl) (by kernel_rfl) (by kernel_rfl) (fun _ _ _ h => h) (Or.inl ⟨by rfl, ?hyx64_11⟩) (by assumption) ?restx64_11
                  case hyx64_11 => (intro w hSw; have F := Ok.sees hSw; clear hSw; simp only [sees, cellsFrom, Nat.add_zero, kCells, kBlk, kRow, cellsAt, Nat.reduceAdd] at F; go_simp; try with_reducible rfl)
                  try simp only [Act.put, List.setIfInBounds_toArray, List.set_cons_zero, List.set_cons_succ, List.getElem_toArray, List.getElem_cons_succ, List.getElem_cons_zero]
                  refine wpAnyH_take (i := 12) (v := ?vx65_12) rfl (by kernel_rfl) (by kernel_rfl) (by kernel_rfl) (fun _ _ _ h => h) (Or.inl ⟨by rfl, ?hyx65_12⟩) (by assumption) ?restx65_12
                  case hyx65_12 => (intro w hSw; have F := Ok.sees hSw; clear hSw; simp only [sees, cellsFrom, Nat.add_zero, kCells, kBlk, kRow, cellsAt, Nat.reduceAdd] at F; go_simp; try with_reducible rfl)
                  try simp only [Act.put, List.setIfInBounds_toArray, List.set_cons_zero, List.set_cons_succ, List.getElem_toArray, List.getElem_cons_succ, List.getElem_cons_zero]
                  refine wpAnyH_take (i := 13) (v := ?vx66_13) rfl (by kernel_rfl) (by kernel_rfl) (by kernel_rfl) (fun _ _ _ h => h) (Or.inl ⟨by rfl, ?hyx66_13⟩) (by assumption) ?restx66_13
                  case hyx66_13 => (intro w hSw; have F := Ok.sees hSw; clear hSw; simp only [sees, cellsFrom, Nat.add_zero, kCells, kBlk, kRow, cellsAt, Nat.reduceAdd] at F; go_simp; try with_reducible rfl)
                  try simp only [Act.put, List.setIfInBounds_toArray, List.set_cons_zero, List.set_cons_succ, List.getElem_toArray, List.getElem_cons_succ, List.getElem_cons_zero]
                  refine wpAnyH_ready (rs := [14]) (by kernel_rfl) (by simp) ?_
                  refine AllReadyH.cons rfl (fun K hK => ?_) AllReadyH.nil
                  go_simp
                  refine (rect_Has _ _ _ _ _ _ _).mono ?_
                  rintro e w27 ⟨rfl, hb28⟩
                  rw [HHA.out]
                  go_wp2_with fail
                  refine hK.out _ _ (hHeld.below hb28) (fun hHeld => ?_)
                  clear hK K
                  try simp only [Act.put, List.setIfInBounds_toArray, List.set_cons_zero, List.set_cons_succ, List.getElem_toArray, List.getElem_cons_succ, List.getElem_cons_zero]
                  refine wpAnyH_take (i := 15) (v := ?vx67_15) rfl (by kernel_rfl) (by kernel_rfl) (by kernel_rfl) (fun _ _ _ h => h) (Or.inl ⟨by rfl, ?hyx67_15⟩) (by assumption) ?restx67_15
                  case hyx67_15 => (intro w hSw; have F := Ok.sees hSw; clear hSw; simp only [sees, cellsFrom, Nat.add_zero, kCells, kBlk, kRow, cellsAt, Nat.reduceAdd] at F; go_simp; try with_reducible rfl)
                  try simp only [Act.put, List.setIfInBounds_toArray, List.set_cons_zero, List.set_cons_succ, List.getElem_toArray, List.getElem_cons_succ, List.getElem_cons_zero]
                  refine wpAnyH_take (i := 16) (v := ?vx68_16) rfl (by kernel_rfl) (by kernel_rfl) (by kernel_rfl) (fun _ _ _ h => h) (Or.inl ⟨by rfl, ?hyx68_16⟩) (by assumption) ?restx68_16
                  case hyx68_16 => (intro w hSw; have F := Ok.sees hSw; clear hSw; simp only [sees, cellsFrom, Nat.add_zero, kCells, kBlk, kRow, cellsAt, Nat.reduceAdd] at F; go_simp; try with_reducible rfl)
                  try simp only [Act.put, List.setIfInBounds_toArray, List.set_cons_zero, List.set_cons_succ, List.getElem_toArray, List.getElem_cons_succ, List.getElem_cons_zero]
                  refine wpAnyH_take (i := 17) (v := ?vx69_17) rfl (by kernel_rfl) (by kernel_rfl) (by kernel_rfl) (fun _ _ _ h => h) (Or.inl ⟨by rfl, ?hyx69_17⟩) (by assumption) ?restx69_17
                  case hyx69_17 => (intro w hSw; have F := Ok.sees hSw; clear hSw; simp only [sees, cellsFrom, Nat.add_zero, kCells, kBlk, kRow, cellsAt, Nat.reduceAdd] at F; go_simp; try with_reducible rfl)
                  try simp only [Act.put, List.setIfInBounds_toArray, List.set_cons_zero, List.set_cons_succ, List.getElem_toArray, List.getElem_cons_succ, List.getElem_cons_zero]
                  refine wpAnyH_take (i := 18) (v := ?vx70_18) rfl (by kernel_rfl) (by kernel_rfl) (by kernel_rfl) (fun _ _ _ h => h) (Or.inl ⟨by rfl, ?hyx70_18⟩) (by assumption) ?restx70_18
                  case hyx70_18 => (intro w hSw; have F := Ok.sees hSw; clear hSw; simp only [sees, cellsFrom, Nat.add_zero, kCells, kBlk, kRow, cellsAt, Nat.reduceAdd] at F; go_simp; try with_reducible rfl)
                  try simp only [Act.put, List.setIfInBounds_toArray, List.set_cons_zero, List.set_cons_succ, List.getElem_toArray, List.getElem_cons_succ, List.getElem_cons_zero]
                  refine wpAnyH_take (i := 19) (v := ?vx71_19) rfl (by kernel_rfl) (by kernel_rfl) (by kernel_rfl) (fun _ _ _ h => h) (Or.inl ⟨by rfl, ?hyx71_19⟩) (by assumption) ?restx71_19
                  case hyx71_19 => (intro w hSw; have F := Ok.sees hSw; clear hSw; simp only [sees, cellsFrom, Nat.add_zero, kCells, kBlk, kRow, cellsAt, Nat.reduceAdd] at F; go_simp; try with_reducible rfl)
                  try simp only [Act.put, List.setIfInBounds_toArray, List.set_cons_zero, List.set_cons_succ, List.getElem_toArray, List.getElem_cons_succ, List.getElem_cons_zero]
                  refine wpAnyH_take (i := 20) (v := ?vx72_20) rfl (by kernel_rfl) (by kernel_rfl) (by kernel_rfl) (fun _ _ _ h => h) (Or.inl ⟨by rfl, ?hyx72_20⟩) (by assumption) ?restx72_20
                  case hyx72_20 => (intro w hSw; have F := Ok.sees hSw; clear hSw; simp only [sees, cellsFrom, Nat.add_zero, kCells, kBlk, kRow, cellsAt, Nat.reduceAdd] at F; go_simp; try with_reducible rfl)
                  try simp only [Act.put, List.setIfInBounds_toArray, List.set_cons_zero, List.set_cons_succ, List.getElem_toArray, List.getElem_cons_succ, List.getElem_cons_zero]
                  refine wpAnyH_ready (rs := [21]) (by kernel_rfl) (by simp) ?_
                  refine AllReadyH.cons rfl (fun K hK => ?_) AllReadyH.nil
                  go_simp
                  refine (rect_Has _ _ _ _ _ _ _).mono ?_
                  rintro e w29 ⟨rfl, hb30⟩
                  rw [HHB.out]
                  go_wp2_with fail
                  refine hK.out _ _ (hHeld.below hb30) (fun hHeld => ?_)
                  clear hK K
                  try simp only [Act.put, List.setIfInBounds_toArray, List.set_cons_zero, List.set_cons_succ, List.getElem_toArray, List.getElem_cons_succ, List.getElem_cons_zero]
                  refine wpAnyH_take (i := 22) (v := ?vx73_22) rfl (by kernel_rfl) (by kernel_rfl) (by kernel_rfl) (fun _ _ _ h => h) (Or.inl ⟨by rfl, ?hyx73_22⟩) (by assumption) ?restx73_22
                  case hyx73_22 => (intro w hSw; have F := Ok.sees hSw; clear hSw; simp only [sees, cellsFrom, Nat.add_zero, kCells, kBlk, kRow, cellsAt, Nat.reduceAdd] at F; go_simp; try with_reducible rfl)
                  try simp only [Act.put, List.setIfInBounds_toArray, List.set_cons_zero, List.set_cons_succ, List.getElem_toArray, List.getElem_cons_succ, List.getElem_cons_zero]
                  refine wpAnyH_take (i := 23) (v := ?vx74_23) rfl (by kernel_rfl) (by kernel_rfl) (by kernel_rfl) (fun _ _ _ h => h) (Or.inl ⟨by rfl, ?hyx74_23⟩) (by assumption) ?restx74_23
                  case hyx74_23 => (intro w hSw; have F := Ok.sees hSw; clear hSw; simp only [sees, cellsFrom, Nat.add_zero, kCells, kBlk, kRow, cellsAt, Nat.reduceAdd] at F; go_simp; try with_reducible rfl)
                  try simp only [Act.put, List.setIfInBounds_toArray, List.set_cons_zero, List.set_cons_succ, List.getElem_toArray, List.getElem_cons_succ, List.getElem_cons_zero]
                  refine wpAnyH_done (by kernel_rfl) ?_ _
                  clear z0 c0_0 c0_1 z2 c2_0 c2_1 c2_2 c2_3 z3 c3_0 c3_1 c3_2 c3_3 z4 c4_0 c4_1 z5 c5_0 c5_1 c5_2 c5_3 z6 c6_0 c6_1 c6_2 c6_3
                  clear H3
                  have H31 := Lib.hid hHeld
                  clear hHeld
                  go_wp2_with fail
                  go_roundw
                  case rel => exact ⟨k + 1, by omega, by go_num, OkRow.back H31.out.tail HFAR.out⟩
                  case measure => simp [intOf]; omega
                · generalize hHM : hasR ⟨m1, m2, m3, m4⟩ x y = r at hX
                  have HHM := Lib.hid hHM
                  clear hHM
                  simp only [Bool.true_and, Bool.true_and] at hX
                  subst hX
                  clear H2
                  have F25 := H3.out.sees
                  simp only [sees, cellsFrom, Nat.add_zero, kCells, kBlk, kRow, cellsAt, Nat.reduceAdd] at F25
                  obtain ⟨⟨z0, c0_0, c0_1, -⟩, -, ⟨z2, c2_0, c2_1, c2_2, c2_3, -⟩, ⟨z3, c3_0, c3_1, c3_2, c3_3, -⟩, ⟨z4, c4_0, c4_1, -⟩, ⟨z5, c5_0, c5_1, c5_2, c5_3, -⟩, ⟨z6, c6_0, c6_1, c6_2, c6_3, -⟩, -⟩ := F25
                  go_wp2_with fail
                  refine wp_region_held_drew (S := fun W => Ok w [kCells g (k * 2) [.int .i64 x, .int .i64 y], kRow w.heap.size 23 2 (.slice (some ⟨g, 0, none⟩) 33 cp) 33 (rfCells l), kBlk (w9.heap.size) 38 [.int .i64 m1, .int .i64 m2, .int .i64 m3, .int .i64 m4], kBlk (w3.heap.size) 38 [.int .i64 m1, .int .i64 m2, .int .i64 m3, .int .i64 m4], kBlk (w.heap.size + 1 + 1) 23 [.int .i64 c, .int .i64 t], kBlk (w.heap.size + 1) 38 [.int .i64 b1, .int .i64 b2, .int .i64 b3, .int .i64 b4], kBlk (w.heap.size) 38 [.int .i64 a1, .int .i64 a2, .int .i64 a3, .int .i64 a4]] W) (by kernel_rfl) H3.out.drew (fun hHeld => ?_)
                  refine wpAnyH_take (i := 0) (v := ?vx75_0) rfl (by kernel_rfl) (by kernel_rfl) (by kernel_rfl) (fun _ _ _ h => h) (Or.inl ⟨by rfl, ?hyx75_0⟩) (by assumption) ?restx75_0
                  case hyx75_0 => (intro w hSw; have F := Ok.sees hSw; clear hSw; simp only [sees, cellsFrom, Nat.add_zero, kCells, kBlk, kRow, cellsAt, Nat.reduceAdd] at F; go_simp; try with_reducible rfl)
                  try simp only [Act.put, List.setIfInBounds_toArray, List.set_cons_zero, List.set_cons_succ, List.getElem_toArray, List.getElem_cons_zero]
                  refine wpAnyH_take (i := 1) (v := ?vx76_1) rfl (by kernel_rfl) (by kernel_rfl) (by kernel_rfl) (fun _ _ _ h => h) (Or.inl ⟨by rfl, ?hyx76_1⟩) (by assumption) ?restx76_1
                  case hyx76_1 => (intro w hSw; have F := Ok.sees hSw; clear hSw; simp only [sees, cellsFrom, Nat.add_zero, kCells, kBlk, kRow, cellsAt, Nat.reduceAdd] at F; go_simp; try with_reducible rfl)
                  try simp only [Act.put, List.setIfInBounds_toArray, List.set_cons_zero, List.set_cons_succ, List.getElem_toArray, List.getElem_cons_succ, List.getElem_cons_zero]
                  refine wpAnyH_take (i := 2) (v := ?vx77_2) rfl (by kernel_rfl) (by kernel_rfl) (by kernel_rfl) (fun _ _ _ h => h) (Or.inl ⟨by rfl, ?hyx77_2⟩) (by assumption) ?restx77_2
                  case hyx77_2 => (intro w hSw; have F := Ok.sees hSw; clear hSw; simp only [sees, cellsFrom, Nat.add_zero, kCells, kBlk, kRow, cellsAt, Nat.reduceAdd] at F; go_simp; try with_reducible rfl)
                  try simp only [Act.put, List.setIfInBounds_toArray, List.set_cons_zero, List.set_cons_succ, List.getElem_toArray, List.getElem_cons_succ, List.getElem_cons_zero]
                  refine wpAnyH_take (i := 3) (v := ?vx78_3) rfl (by kernel_rfl) (by kernel_rfl) (by kernel_rfl) (fun _ _ _ h => h) (Or.inl ⟨by rfl, ?hyx78_3⟩) (by assumption) ?restx78_3
                  case hyx78_3 => (intro w hSw; have F := Ok.sees hSw; clear hSw; simp only [sees, cellsFrom, Nat.add_zero, kCells, kBlk, kRow, cellsAt, Nat.reduceAdd] at F; go_simp; try with_reducible rfl)
                  try simp only [Act.put, List.setIfInBounds_toArray, List.set_cons_zero, List.set_cons_succ, List.getElem_toArray, List.getElem_cons_succ, List.getElem_cons_zero]
                  refine wpAnyH_take (i := 4) (v := ?vx79_4) rfl (by kernel_rfl) (by kernel_rfl) (by kernel_rfl) (fun _ _ _ h => h) (Or.inl ⟨by rfl, ?hyx79_4⟩) (by assumption) ?restx79_4
                  case hyx79_4 => (intro w hSw; have F := Ok.sees hSw; clear hSw; simp only [sees, cellsFrom, Nat.add_zero, kCells, kBlk, kRow, cellsAt, Nat.reduceAdd] at F; go_simp; try with_reducible rfl)
                  try simp only [Act.put, List.setIfInBounds_toArray, List.set_cons_zero, List.set_cons_succ, List.getElem_toArray, List.getElem_cons_succ, List.getElem_cons_zero]
                  refine wpAnyH_take (i := 5) (v := ?vx80_5) rfl (by kernel_rfl) (by kernel_rfl) (by kernel_rfl) (fun _ _ _ h => h) (Or.inl ⟨by rfl, ?hyx80_5⟩) (by assumption) ?restx80_5
                  case hyx80_5 => (intro w hSw; have F := Ok.sees hSw; clear hSw; simp only [sees, cellsFrom, Nat.add_zero, kCells, kBlk, kRow, cellsAt, Nat.reduceAdd] at F; go_simp; try with_reducible rfl)
                  try simp only [Act.put, List.setIfInBounds_toArray, List.set_cons_zero, List.set_cons_succ, List.getElem_toArray, List.getElem_cons_succ, List.getElem_cons_zero]
                  refine wpAnyH_take (i := 6) (v := ?vx81_6) rfl (by kernel_rfl) (by kernel_rfl) (by kernel_rfl) (fun _ _ _ h => h) (Or.inl ⟨by rfl, ?hyx81_6⟩) (by assumption) ?restx81_6
                  case hyx81_6 => (intro w hSw; have F := Ok.sees hSw; clear hSw; simp only [sees, cellsFrom, Nat.add_zero, kCells, kBlk, kRow, cellsAt, Nat.reduceAdd] at F; go_simp; try with_reducible rfl)
                  try simp only [Act.put, List.setIfInBounds_toArray, List.set_cons_zero, List.set_cons_succ, List.getElem_toArray, List.getElem_cons_succ, List.getElem_cons_zero]
                  refine wpAnyH_take (i := 9) (v := ?vx82_9) rfl (by kernel_rfl) (by kernel_rfl) (by kernel_rfl) (fun _ _ _ h => h) (Or.inl ⟨by rfl, ?hyx82_9⟩) (by assumption) ?restx82_9
                  case hyx82_9 => (intro w hSw; have F := Ok.sees hSw; clear hSw; simp only [sees, cellsFrom, Nat.add_zero, kCells, kBlk, kRow, cellsAt, Nat.reduceAdd] at F; go_simp; try with_reducible rfl)
                  try simp only [Act.put, List.setIfInBounds_toArray, List.set_cons_zero, List.set_cons_succ, List.getElem_toArray, List.getElem_cons_succ, List.getElem_cons_zero]
                  refine wpAnyH_take (i := 10) (v := ?vx83_10) rfl (by kernel_rfl) (by kernel_rfl) (by kernel_rfl) (fun _ _ _ h => h) (Or.inl ⟨by rfl, ?hyx83_10⟩) (by assumption) ?restx83_10
                  case hyx83_10 => (intro w hSw; have F := Ok.sees hSw; clear hSw; simp only [sees, cellsFrom, Nat.add_zero, kCells, kBlk, kRow, cellsAt, Nat.reduceAdd] at F; go_simp; try with_reducible rfl)
                  try simp only [Act.put, List.setIfInBounds_toArray, List.set_cons_zero, List.set_cons_succ, List.getElem_toArray, List.getElem_cons_succ, List.getElem_cons_zero]
                  refine wpAnyH_take (i := 11) (v := ?vx84_11) rfl (by kernel_rfl) (by kernel_rfl) (by kernel_rfl) (fun _ _ _ h => h) (Or.inl ⟨by rfl, ?hyx84_11⟩) (by assumption) ?restx84_11
                  case hyx84_11 => (intro w hSw; have F := Ok.sees hSw; clear hSw; simp only [sees, cellsFrom, Nat.add_zero, kCells, kBlk, kRow, cellsAt, Nat.reduceAdd] at F; go_simp; try with_reducible rfl)
                  try simp only [Act.put, List.setIfInBounds_toArray, List.set_cons_zero, List.set_cons_succ, List.getElem_toArray, List.getElem_cons_succ, List.getElem_cons_zero]
                  refine wpAnyH_take (i := 12) (v := ?vx85_12) rfl (by kernel_rfl) (by kernel_rfl) (by kernel_rfl) (fun _ _ _ h => h) (Or.inl ⟨by rfl, ?hyx85_12⟩) (by assumption) ?restx85_12
                  case hyx85_12 => (intro w hSw; have F := Ok.sees hSw; clear hSw; simp only [sees, cellsFrom, Nat.add_zero, kCells, kBlk, kRow, cellsAt, Nat.reduceAdd] at F; go_simp; try with_reducible rfl)
                  try simp only [Act.put, List.setIfInBounds_toArray, List.set_cons_zero, List.set_cons_succ, List.getElem_toArray, List.getElem_cons_succ, List.getElem_cons_zero]
                  refine wpAnyH_take (i := 13) (v := ?vx86_13) rfl (by kernel_rfl) (by kernel_rfl) (by kernel_rfl) (fun _ _ _ h => h) (Or.inl ⟨by rfl, ?hyx86_13⟩) (by assumption) ?restx86_13
                  case hyx86_13 => (intro w hSw; have F := Ok.sees hSw; clear hSw; simp only [sees, cellsFrom, Nat.add_zero, kCells, kBlk, kRow, cellsAt, Nat.reduceAdd] at F; go_simp; try with_reducible rfl)
                  try simp only [Act.put, List.setIfInBounds_toArray, List.set_cons_zero, List.set_cons_succ, List.getElem_toArray, List.getElem_cons_succ, List.getElem_cons_zero]
                  refine wpAnyH_ready (rs := [7]) (by kernel_rfl) (by simp) ?_
                  refine AllReadyH.cons rfl (fun K hK => ?_) AllReadyH.nil
                  go_simp
                  refine (rect_Has _ _ _ _ _ _ _).mono ?_
                  rintro e w27 ⟨rfl, hb28⟩
                  rw [HHM.out]
                  go_wp2_with fail
                  refine hK.out _ _ (hHeld.below hb28) (fun hHeld => ?_)
                  clear hK K
                  try simp only [Act.put, List.setIfInBounds_toArray, List.set_cons_zero, List.set_cons_succ, List.getElem_toArray, List.getElem_cons_succ, List.getElem_cons_zero]
                  refine wpAnyH_take (i := 8) (v := ?vx87_8) rfl (by kernel_rfl) (by kernel_rfl) (by kernel_rfl) (fun _ _ _ h => h) (Or.inl ⟨by rfl, ?hyx87_8⟩) (by assumption) ?restx87_8
                  case hyx87_8 => (intro w hSw; have F := Ok.sees hSw; clear hSw; simp only [sees, cellsFrom, Nat.add_zero, kCells, kBlk, kRow, cellsAt, Nat.reduceAdd] at F; go_simp; try with_reducible rfl)
                  try simp only [Act.put, List.setIfInBounds_toArray, List.set_cons_zero, List.set_cons_succ, List.getElem_toArray, List.getElem_cons_succ, List.getElem_cons_zero]
                  refine wpAnyH_ready (rs := [14]) (by kernel_rfl) (by simp) ?_
                  refine AllReadyH.cons rfl (fun K hK => ?_) AllReadyH.nil
                  go_simp
                  refine (rect_Has _ _ _ _ _ _ _).mono ?_
                  rintro e w29 ⟨rfl, hb30⟩
                  rw [HHA.out]
                  go_wp2_with fail
                  refine hK.out _ _ (hHeld.below hb30) (fun hHeld => ?_)
                  clear hK K
                  try simp only [Act.put, List.setIfInBounds_toArray, List.set_cons_zero, List.set_cons_succ, List.getElem_toArray, List.getElem_cons_succ, List.getElem_cons_zero]
                  refine wpAnyH_take (i := 15) (v := ?vx88_15) rfl (by kernel_rfl) (by kernel_rfl) (by kernel_rfl) (fun _ _ _ h => h) (Or.inl ⟨by rfl, ?hyx88_15⟩) (by assumption) ?restx88_15
                  case hyx88_15 => (intro w hSw; have F := Ok.sees hSw; clear hSw; simp only [sees, cellsFrom, Nat.add_zero, kCells, kBlk, kRow, cellsAt, Nat.reduceAdd] at F; go_simp; try with_reducible rfl)
                  try simp only [Act.put, List.setIfInBounds_toArray, List.set_cons_zero, List.set_cons_succ, List.getElem_toArray, List.getElem_cons_succ, List.getElem_cons_zero]
                  refine wpAnyH_take (i := 16) (v := ?vx89_16) rfl (by kernel_rfl) (by kernel_rfl) (by kernel_rfl) (fun _ _ _ h => h) (Or.inl ⟨by rfl, ?hyx89_16⟩) (by assumption) ?restx89_16
                  case hyx89_16 => (intro w hSw; have F := Ok.sees hSw; clear hSw; simp only [sees, cellsFrom, Nat.add_zero, kCells, kBlk, kRow, cellsAt, Nat.reduceAdd] at F; go_simp; try with_reducible rfl)
                  try simp only [Act.put, List.setIfInBounds_toArray, List.set_cons_zero, List.set_cons_succ, List.getElem_toArray, List.getElem_cons_succ, List.getElem_cons_zero]
                  refine wpAnyH_take (i := 17) (v := ?vx90_17) rfl (by kernel_rfl) (by kernel_rfl) (by kernel_rfl) (fun _ _ _ h => h) (Or.inl ⟨by rfl, ?hyx90_17⟩) (by assumption) ?restx90_17
                  case hyx90_17 => (intro w hSw; have F := Ok.sees hSw; clear hSw; simp only [sees, cellsFrom, Nat.add_zero, kCells, kBlk, kRow, cellsAt, Nat.reduceAdd] at F; go_simp; try with_reducible rfl)
                  try simp only [Act.put, List.setIfInBounds_toArray, List.set_cons_zero, List.set_cons_succ, List.getElem_toArray, List.getElem_cons_succ, List.getElem_cons_zero]
                  refine wpAnyH_take (i := 18) (v := ?vx91_18) rfl (by kernel_rfl) (by kernel_rfl) (by kernel_rfl) (fun _ _ _ h => h) (Or.inl ⟨by rfl, ?hyx91_18⟩) (by assumption) ?restx91_18
                  case hyx91_18 => (intro w hSw; have F := Ok.sees hSw; clear hSw; simp only [sees, cellsFrom, Nat.add_zero, kCells, kBlk, kRow, cellsAt, Nat.reduceAdd] at F; go_simp; try with_reducible rfl)
                  try simp only [Act.put, List.setIfInBounds_toArray, List.set_cons_zero, List.set_cons_succ, List.getElem_toArray, List.getElem_cons_succ, List.getElem_cons_zero]
                  refine wpAnyH_take (i := 19) (v := ?vx92_19) rfl (by kernel_rfl) (by kernel_rfl) (by kernel_rfl) (fun _ _ _ h => h) (Or.inl ⟨by rfl, ?hyx92_19⟩) (by assumption) ?restx92_19
                  case hyx92_19 => (intro w hSw; have F := Ok.sees hSw; clear hSw; simp only [sees, cellsFrom, Nat.add_zero, kCells, kBlk, kRow, cellsAt, Nat.reduceAdd] at F; go_simp; try with_reducible rfl)
                  try simp only [Act.put, List.setIfInBounds_toArray, List.set_cons_zero, List.set_cons_succ, List.getElem_toArray, List.getElem_cons_succ, List.getElem_cons_zero]
                  refine wpAnyH_take (i := 20) (v := ?vx93_20) rfl (by kernel_rfl) (by kernel_rfl) (by kernel_rfl) (fun _ _ _ h => h) (Or.inl ⟨by rfl, ?hyx93_20⟩) (by assumption) ?restx93_20
                  case hyx93_20 => (intro w hSw; have F := Ok.sees hSw; clear hSw; simp only [sees, cellsFrom, Nat.add_zero, kCells, kBlk, kRow, cellsAt, Nat.reduceAdd] at F; go_simp; try with_reducible rfl)
                  try simp only [Act.put, List.setIfInBounds_toArray, List.set_cons_zero, List.set_cons_succ, List.getElem_toArray, List.getElem_cons_succ, List.getElem_cons_zero]
                  refine wpAnyH_ready (rs := [21]) (by kernel_rfl) (by simp) ?_
                  refine AllReadyH.cons rfl (fun K hK => ?_) AllReadyH.nil
                  go_simp
                  refine (rect_Has _ _ _ _ _ _ _).mono ?_
                  rintro e w31 ⟨rfl, hb32⟩
                  rw [HHB.out]
                  go_wp2_with fail
                  refine hK.out _ _ (hHeld.below hb32) (fun hHeld => ?_)
                  clear hK K
                  try simp only [Act.put, List.setIfInBounds_toArray, List.set_cons_zero, List.set_cons_succ, List.getElem_toArray, List.getElem_cons_succ, List.getElem_cons_zero]
                  refine wpAnyH_take (i := 22) (v := ?vx94_22) rfl (by kernel_rfl) (by kernel_rfl) (by kernel_rfl) (fun _ _ _ h => h) (Or.inl ⟨by rfl, ?hyx94_22⟩) (by assumption) ?restx94_22
                  case hyx94_22 => (intro w hSw; have F := Ok.sees hSw; clear hSw; simp only [sees, cellsFrom, Nat.add_zero, kCells, kBlk, kRow, cellsAt, Nat.reduceAdd] at F; go_simp; try with_reducible rfl)
                  try simp only [Act.put, List.setIfInBounds_toArray, List.set_cons_zero, List.set_cons_succ, List.getElem_toArray, List.getElem_cons_succ, List.getElem_cons_zero]
                  refine wpAnyH_take (i := 23) (v := ?vx95_23) rfl (by kernel_rfl) (by kernel_rfl) (by kernel_rfl) (fun _ _ _ h => h) (Or.inl ⟨by rfl, ?hyx95_23⟩) (by assumption) ?restx95_23
                  case hyx95_23 => (intro w hSw; have F := Ok.sees hSw; clear hSw; simp only [sees, cellsFrom, Nat.add_zero, kCells, kBlk, kRow, cellsAt, Nat.reduceAdd] at F; go_simp; try with_reducible rfl)
                  try simp only [Act.put, List.setIfInBounds_toArray, List.set_cons_zero, List.set_cons_succ, List.getElem_toArray, List.getElem_cons_succ, List.getElem_cons_zero]
                  refine wpAnyH_done (by kernel_rfl) ?_ _
                  clear z0 c0_0 c0_1 z2 c2_0 c2_1 c2_2 c2_3 z3 c3_0 c3_1 c3_2 c3_3 z4 c4_0 c4_1 z5 c5_0 c5_1 c5_2 c5_3 z6 c6_0 c6_1 c6_2 c6_3
                  clear H3
                  have H33 := Lib.hid hHeld
                  clear hHeld
                  go_wp2_with fail
                  go_roundw
                  case rel => exact ⟨k + 1, by omega, by go_num, OkRow.back H33.out.tail HFAR.out⟩
                  case measure => simp [intOf]; omega
            · have hke : k = 33 := by omega
              subst hke
              go_wp2_with fail
              have H4 := Lib.hid H2.out.ok
              clear H2
              refine (rect_known _ (HP.out.below H4.out.bel)).mono ?_
              rintro e w25 ⟨rfl, hb26⟩
              have H27 := Lib.hid (H4.out.below hb26)
              clear hb26 H4
              go_wp2_with fail
              go_ret
              exact ⟨rfl, H27.out.bel⟩
end Go.Proofs.YtkdabfepggehiaaDoor
