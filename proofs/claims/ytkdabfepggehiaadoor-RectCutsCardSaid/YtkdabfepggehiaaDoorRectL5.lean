/- The walk of the law RectCuts. -/
import Derived.Test.YtkdabfepggehiaaDoorRectL2
import Derived.Test.YtkdabfepggehiaaDoorRectC
import Derived.Test.YtkdabfepggehiaaDoorRectQ
namespace Go.Proofs.YtkdabfepggehiaaDoor
open Go.RowKit

def sumTo (l : List R4) (k : Nat) : Int := sumA (l.take k)
theorem sumTo_zero (l : List R4) : sumTo l 0 = 0 := rfl
theorem sumTo_succ (l : List R4) (k : Nat) (h : k < l.length) : sumTo l (k + 1) = sumTo l k + areaN (l.getD k R4.zero) := by
  unfold sumTo sumA
  rw [List.take_succ_eq_append_getElem h, List.map_append, List.sum_append, List.getD_eq_getElem?_getD, List.getElem?_eq_getElem h]
  simp
theorem sumA_nonneg (l : List R4) (h : ∀ r ∈ l, checkB r = true) : 0 ≤ sumA l := by
  induction l with
  | nil => simp [sumA]
  | cons r l ih =>
    have h1 := (area_le (h r (by simp))).1
    have h2 := ih fun q hq => h q (by simp [hq])
    simp only [sumA, List.map_cons, List.sum_cons] at h2 ⊢
    omega
theorem sumTo_le (l : List R4) (h : ∀ r ∈ l, checkB r = true) (k : Nat) : 0 ≤ sumTo l k ∧ sumTo l k ≤ sumA l := by
  refine ⟨sumA_nonneg _ fun r hr => h r (List.mem_of_mem_take hr), ?_⟩
  have e : sumA l = sumTo l k + sumA (l.drop k) := by
    unfold sumTo sumA
    rw [← List.sum_append, ← List.map_append, List.take_append_drop]
  have := sumA_nonneg (l.drop k) fun r hr => h r (List.mem_of_mem_drop hr)
  omega
theorem sumTo_all (l : List R4) : sumTo l l.length = sumA l := by unfold sumTo; rw [List.take_length]
theorem getD_mem (l : List R4) (k : Nat) (h : k < l.length) : l.getD k R4.zero ∈ l := by
  rw [List.getD_eq_getElem?_getD, List.getElem?_eq_getElem h]; exact List.getElem_mem h
theorem pair_at {P : R4 → R4 → Prop} (l : List R4) (h : l.Pairwise P) (i j : Nat) (hj : j < i) (hi : i < l.length) : P (l.getD j R4.zero) (l.getD i R4.zero) := by
  rw [List.getD_eq_getElem?_getD, List.getD_eq_getElem?_getD, List.getElem?_eq_getElem hi, List.getElem?_eq_getElem (by omega)]
  exact List.pairwise_iff_getElem.1 h j i (by omega) hi hj

set_option maxRecDepth 100000 in
set_option maxHeartbeats 16000000 in
theorem RectCuts_walk (a1 a2 a3 a4 b1 b2 b3 b4 c t : Int) (w : World) (_ : (Lit.int .i64 a1).wf = true) (_ : (Lit.int .i64 a2).wf = true) (_ : (Lit.int .i64 a3).wf = true) (_ : (Lit.int .i64 a4).wf = true) (_ : (Lit.int .i64 b1).wf = true) (_ : (Lit.int .i64 b2).wf = true) (_ : (Lit.int .i64 b3).wf = true) (_ : (Lit.int .i64 b4).wf = true) (_ : (Lit.int .i64 c).wf = true) (_ : (Lit.int .i64 t).wf = true)
    (hL : laidMetH Tryd.prog Rows.rectCutsRow.laid w) (_ : w.ShapedOpen Tryd.prog) :
    Calls Tryd.prog 13 #[.agg #[.int .i64 a1, .int .i64 a2, .int .i64 a3, .int .i64 a4], .agg #[.int .i64 b1, .int .i64 b2, .int .i64 b3, .int .i64 b4], .agg #[.int .i64 c, .int .i64 t]] w fun e w' => e = .returned (.bool true) ∧ Below w.heap.size w w' := by
  have HP := Lib.hid (pow_of_laid hL (by kernel_rfl))
  clear hL
  obtain ⟨M, hM⟩ : ∃ M, meetS ⟨a1, a2, a3, a4⟩ ⟨b1, b2, b3, b4⟩ = M := ⟨_, rfl⟩
  obtain ⟨O, hO⟩ : ∃ O, meets ⟨a1, a2, a3, a4⟩ ⟨b1, b2, b3, b4⟩ = O := ⟨_, rfl⟩
  obtain ⟨L, hLL⟩ : ∃ L, minusL ⟨a1, a2, a3, a4⟩ ⟨b1, b2, b3, b4⟩ = L := ⟨_, rfl⟩
  have hC := cuts ⟨a1, a2, a3, a4⟩ ⟨b1, b2, b3, b4⟩
  rw [hLL] at hC
  have hMC : O = true → checkB M = true := fun h => by
    rw [← hM, meetS_yes (by rw [hO]; exact h)]
    exact ((meets_iff _ _).1 (by rw [hO]; exact h)).2.2
  obtain ⟨m1, m2, m3, m4⟩ := M
  have HM := Lib.hid hM
  have HO := Lib.hid hO
  have HLL := Lib.hid hLL
  have HC := Lib.hid hC
  have HMC := Lib.hid hMC
  clear hM hO hLL hC hMC
  have H1 := Lib.hid ((((Ok.start w).alloc w.heap.size 38 [.int .i64 a1, .int .i64 a2, .int .i64 a3, .int .i64 a4] rfl).alloc (w.heap.size + 1) 38 [.int .i64 b1, .int .i64 b2, .int .i64 b3, .int .i64 b4] (by simp)).alloc (w.heap.size + 1 + 1) 23 [.int .i64 c, .int .i64 t] (by simp))
  cases ha : checkB ⟨a1, a2, a3, a4⟩
  · have hn : L = [] := by rw [← HLL.out]; unfold minusL; simp [ha]
    clear HC
    have hl0 : ((L.length : Int) == 0) = true := by rw [hn]; rfl
    clear hn
    have hE : minusE ⟨a1, a2, a3, a4⟩ ⟨b1, b2, b3, b4⟩ = 3 := by unfold minusE; simp [ha]
    have HE := Lib.hid hE
    have HA := Lib.hid ha
    clear hE ha
    go_enter Tryd.func13, Tryd.ntmps13
    go_wp2_with fail
    generalize (((w.alloc (.cells #[.int .i64 a1, .int .i64 a2, .int .i64 a3, .int .i64 a4] 38)).alloc (.cells #[.int .i64 b1, .int .i64 b2, .int .i64 b3, .int .i64 b4] 38)).alloc (.cells #[.int .i64 c, .int .i64 t] 23)) = W2 at H1 ⊢
    refine (rect_Minus _ _ _ _ _ _ _ _ _).mono ?_
    rintro e w3 ⟨v1, rfl, hown, hb⟩
    rw [HLL.out] at hown
    obtain ⟨ad, cp, rfl, hr, hln⟩ := own_rects hown
    have H4 := Lib.hid ((H1.out.below hb).add (kRects w3.heap.size ad L.length (fun i => L.getD i R4.zero)) ⟨hr, Nat.le_refl _⟩)
    clear hown hr hb H1
    have HLN := Lib.hid hln
    clear hln
    rw [HE.out]
    have F5 := H4.out.sees
    simp only [sees, kRects, kBlk, cellsAt, Nat.reduceAdd] at F5
    obtain ⟨-, ⟨z1, c1_0, c1_1, -⟩, ⟨z2, c2_0, c2_1, c2_2, c2_3, -⟩, ⟨z3, c3_0, c3_1, c3_2, c3_3, -⟩, -⟩ := F5
    go_wp2_with fail
    refine (rect_Check _ _ _ _ _).mono ?_
    rintro e w6 ⟨rfl, hb7⟩
    rw [checkE_no HA.out]
    clear z1 c1_0 c1_1 z2 c2_0 c2_1 c2_2 c2_3 z3 c3_0 c3_1 c3_2 c3_3
    have H8 := Lib.hid (H4.out.below hb7)
    clear hb7 H4
    have F9 := H8.out.sees
    simp only [sees, kRects, kBlk, cellsAt, Nat.reduceAdd] at F9
    obtain ⟨-, ⟨z1, c1_0, c1_1, -⟩, ⟨z2, c2_0, c2_1, c2_2, c2_3, -⟩, ⟨z3, c3_0, c3_1, c3_2, c3_3, -⟩, -⟩ := F9
    go_wp2_with fail
    refine (rect_known _ (HP.out.below H8.out.bel)).mono ?_
    rintro e w10 ⟨rfl, hb11⟩
    clear z1 c1_0 c1_1 z2 c2_0 c2_1 c2_2 c2_3 z3 c3_0 c3_1 c3_2 c3_3
    have H12 := Lib.hid (H8.out.below hb11)
    clear hb11 H8
    have F13 := H12.out.sees
    simp only [sees, kRects, kBlk, cellsAt, Nat.reduceAdd] at F13
    obtain ⟨-, ⟨z1, c1_0, c1_1, -⟩, ⟨z2, c2_0, c2_1, c2_2, c2_3, -⟩, ⟨z3, c3_0, c3_1, c3_2, c3_3, -⟩, -⟩ := F13
    go_wp2_with fail
    go_ret
    exact ⟨rfl, H12.out.bel⟩
  · cases hb : checkB ⟨b1, b2, b3, b4⟩
    · have hn : L = [] := by rw [← HLL.out]; unfold minusL; simp [ha, hb]
      clear HC
      have hl0 : ((L.length : Int) == 0) = true := by rw [hn]; rfl
      clear hn
      have hE : minusE ⟨a1, a2, a3, a4⟩ ⟨b1, b2, b3, b4⟩ = 3 := by unfold minusE; simp [ha, hb]
      have HE := Lib.hid hE
      have HA := Lib.hid ha
      have HB := Lib.hid hb
      clear hE ha hb
      go_enter Tryd.func13, Tryd.ntmps13
      go_wp2_with fail
      generalize (((w.alloc (.cells #[.int .i64 a1, .int .i64 a2, .int .i64 a3, .int .i64 a4] 38)).alloc (.cells #[.int .i64 b1, .int .i64 b2, .int .i64 b3, .int .i64 b4] 38)).alloc (.cells #[.int .i64 c, .int .i64 t] 23)) = W2 at H1 ⊢
      refine (rect_Minus _ _ _ _ _ _ _ _ _).mono ?_
      rintro e w3 ⟨v1, rfl, hown, hb⟩
      rw [HLL.out] at hown
      obtain ⟨ad, cp, rfl, hr, hln⟩ := own_rects hown
      have H4 := Lib.hid ((H1.out.below hb).add (kRects w3.heap.size ad L.length (fun i => L.getD i R4.zero)) ⟨hr, Nat.le_refl _⟩)
      clear hown hr hb H1
      have HLN := Lib.hid hln
      clear hln
      rw [HE.out]
      have F5 := H4.out.sees
      simp only [sees, kRects, kBlk, cellsAt, Nat.reduceAdd] at F5
      obtain ⟨-, ⟨z1, c1_0, c1_1, -⟩, ⟨z2, c2_0, c2_1, c2_2, c2_3, -⟩, ⟨z3, c3_0, c3_1, c3_2, c3_3, -⟩, -⟩ := F5
      go_wp2_with fail
      refine (rect_Check _ _ _ _ _).mono ?_
      rintro e w6 ⟨rfl, hb7⟩
      rw [checkE_yes HA.out]
      clear z1 c1_0 c1_1 z2 c2_0 c2_1 c2_2 c2_3 z3 c3_0 c3_1 c3_2 c3_3
      have H8 := Lib.hid (H4.out.below hb7)
      clear hb7 H4
      have F9 := H8.out.sees
      simp only [sees, kRects, kBlk, cellsAt, Nat.reduceAdd] at F9
      obtain ⟨-, ⟨z1, c1_0, c1_1, -⟩, ⟨z2, c2_0, c2_1, c2_2, c2_3, -⟩, ⟨z3, c3_0, c3_1, c3_2, c3_3, -⟩, -⟩ := F9
      go_wp2_with fail
      refine (rect_Check _ _ _ _ _).mono ?_
      rintro e w10 ⟨rfl, hb11⟩
      rw [checkE_no HB.out]
      clear z1 c1_0 c1_1 z2 c2_0 c2_1 c2_2 c2_3 z3 c3_0 c3_1 c3_2 c3_3
      have H12 := Lib.hid (H8.out.below hb11)
      clear hb11 H8
      have F13 := H12.out.sees
      simp only [sees, kRects, kBlk, cellsAt, Nat.reduceAdd] at F13
      obtain ⟨-, ⟨z1, c1_0, c1_1, -⟩, ⟨z2, c2_0, c2_1, c2_2, c2_3, -⟩, ⟨z3, c3_0, c3_1, c3_2, c3_3, -⟩, -⟩ := F13
      go_wp2_with fail
      refine (rect_known _ (HP.out.below H12.out.bel)).mono ?_
      rintro e w14 ⟨rfl, hb15⟩
      clear z1 c1_0 c1_1 z2 c2_0 c2_1 c2_2 c2_3 z3 c3_0 c3_1 c3_2 c3_3
      have H16 := Lib.hid (H12.out.below hb15)
      clear hb15 H12
      have F17 := H16.out.sees
      simp only [sees, kRects, kBlk, cellsAt, Nat.reduceAdd] at F17
      obtain ⟨-, ⟨z1, c1_0, c1_1, -⟩, ⟨z2, c2_0, c2_1, c2_2, c2_3, -⟩, ⟨z3, c3_0, c3_1, c3_2, c3_3, -⟩, -⟩ := F17
      go_wp2_with fail
      go_ret
      exact ⟨rfl, H16.out.bel⟩
    · have hc := HC.out ha hb
      clear HC
      have hE : minusE ⟨a1, a2, a3, a4⟩ ⟨b1, b2, b3, b4⟩ = 0 := by unfold minusE; simp [ha, hb]
      have hlen := hc.len
      have hlen4 : (L.length : Int) ≤ 4 := by omega
      have hS : (if O = true then areaN ⟨m1, m2, m3, m4⟩ else 0) + sumA L = areaN ⟨a1, a2, a3, a4⟩ := by have := hc.sum; rwa [HO.out, HM.out] at this
      obtain ⟨s0, hs0⟩ : ∃ s0, (if O = true then areaN ⟨m1, m2, m3, m4⟩ else 0) = s0 := ⟨_, rfl⟩
      rw [hs0] at hS
      have h00 : 0 ≤ s0 := by
        rw [← hs0]
        split
        · rename_i hOt
          have := (area_le (HMC.out hOt)).1
          omega
        · omega
      have hA1 := (area_le ha).2
      have hsum := sumTo_le L fun r hr => (hc.each r hr).1
      have HE := Lib.hid hE
      have HCC := Lib.hid hc
      have HS := Lib.hid hS
      have HS0 := Lib.hid hs0
      have HSUM := Lib.hid hsum
      have HA := Lib.hid ha
      have HBB := Lib.hid hb
      have HL4 := Lib.hid hlen
      clear hE hc hS hs0 hsum ha hb hlen
      go_enter Tryd.func13, Tryd.ntmps13
      go_wp2_with fail
      generalize (((w.alloc (.cells #[.int .i64 a1, .int .i64 a2, .int .i64 a3, .int .i64 a4] 38)).alloc (.cells #[.int .i64 b1, .int .i64 b2, .int .i64 b3, .int .i64 b4] 38)).alloc (.cells #[.int .i64 c, .int .i64 t] 23)) = W2 at H1 ⊢
      refine (rect_Minus _ _ _ _ _ _ _ _ _).mono ?_
      rintro e w3 ⟨v1, rfl, hown, hb⟩
      rw [HLL.out] at hown
      obtain ⟨ad, cp, rfl, hr, hln⟩ := own_rects hown
      have H4 := Lib.hid ((H1.out.below hb).add (kRects w3.heap.size ad L.length (fun i => L.getD i R4.zero)) ⟨hr, Nat.le_refl _⟩)
      clear hown hr hb H1
      have HLN := Lib.hid hln
      clear hln
      rw [HE.out]
      have F5 := H4.out.sees
      simp only [sees, kRects, kBlk, cellsAt, Nat.reduceAdd] at F5
      obtain ⟨-, ⟨z1, c1_0, c1_1, -⟩, ⟨z2, c2_0, c2_1, c2_2, c2_3, -⟩, ⟨z3, c3_0, c3_1, c3_2, c3_3, -⟩, -⟩ := F5
      go_wp2_with fail
      refine (rect_Check _ _ _ _ _).mono ?_
      rintro e w6 ⟨rfl, hb7⟩
      rw [checkE_yes HA.out]
      clear z1 c1_0 c1_1 z2 c2_0 c2_1 c2_2 c2_3 z3 c3_0 c3_1 c3_2 c3_3
      have H8 := Lib.hid (H4.out.below hb7)
      clear hb7 H4
      have F9 := H8.out.sees
      simp only [sees, kRects, kBlk, cellsAt, Nat.reduceAdd] at F9
      obtain ⟨-, ⟨z1, c1_0, c1_1, -⟩, ⟨z2, c2_0, c2_1, c2_2, c2_3, -⟩, ⟨z3, c3_0, c3_1, c3_2, c3_3, -⟩, -⟩ := F9
      go_wp2_with fail
      refine (rect_Check _ _ _ _ _).mono ?_
      rintro e w10 ⟨rfl, hb11⟩
      rw [checkE_yes HBB.out]
      clear z1 c1_0 c1_1 z2 c2_0 c2_1 c2_2 c2_3 z3 c3_0 c3_1 c3_2 c3_3
      have H12 := Lib.hid (H8.out.below hb11)
      clear hb11 H8
      have F13 := H12.out.sees
      simp only [sees, kRects, kBlk, cellsAt, Nat.reduceAdd] at F13
      obtain ⟨-, ⟨z1, c1_0, c1_1, -⟩, ⟨z2, c2_0, c2_1, c2_2, c2_3, -⟩, ⟨z3, c3_0, c3_1, c3_2, c3_3, -⟩, -⟩ := F13
      go_wp2_with fail
      refine (rect_Meet _ _ _ _ _ _ _ _ _).mono ?_
      rintro e w14 ⟨rfl, hb15⟩
      rw [HM.out, HO.out]
      clear z1 c1_0 c1_1 z2 c2_0 c2_1 c2_2 c2_3 z3 c3_0 c3_1 c3_2 c3_3
      have H16 := Lib.hid (H12.out.below hb15)
      clear hb15 H12
      have F17 := H16.out.sees
      simp only [sees, kRects, kBlk, cellsAt, Nat.reduceAdd] at F17
      obtain ⟨-, ⟨z1, c1_0, c1_1, -⟩, ⟨z2, c2_0, c2_1, c2_2, c2_3, -⟩, ⟨z3, c3_0, c3_1, c3_2, c3_3, -⟩, -⟩ := F17
      go_upto_if 62 with fail
      clear z1 c1_0 c1_1 z2 c2_0 c2_1 c2_2 c2_3 z3 c3_0 c3_1 c3_2 c3_3
      have H18 := Lib.hid (H16.out.alloc w14.heap.size 38 [.int .i64 m1, .int .i64 m2, .int .i64 m3, .int .i64 m4] rfl)
      clear H16
      generalize (w14.alloc (.cells #[.int .i64 m1, .int .i64 m2, .int .i64 m3, .int .i64 m4] 38)) = W19 at H18 ⊢
      have F20 := H18.out.sees
      simp only [sees, kRects, kBlk, cellsAt, Nat.reduceAdd] at F20
      obtain ⟨⟨z0, c0_0, c0_1, c0_2, c0_3, -⟩, -, ⟨z2, c2_0, c2_1, -⟩, ⟨z3, c3_0, c3_1, c3_2, c3_3, -⟩, ⟨z4, c4_0, c4_1, c4_2, c4_3, -⟩, -⟩ := F20
      go_cut [9] (fun s9 wx => s9 = .int .i64 s0 ∧ Hid (Ok w [kBlk (w14.heap.size) 38 [.int .i64 m1, .int .i64 m2, .int .i64 m3, .int .i64 m4], kRects w3.heap.size ad L.length (fun i => L.getD i R4.zero), kBlk (w.heap.size + 1 + 1) 23 [.int .i64 c, .int .i64 t], kBlk (w.heap.size + 1) 38 [.int .i64 b1, .int .i64 b2, .int .i64 b3, .int .i64 b4], kBlk (w.heap.size) 38 [.int .i64 a1, .int .i64 a2, .int .i64 a3, .int .i64 a4]] wx))
      case first =>
        have hs := HS0.out
        cases O
        · have HX : Hid (s0 = 0) := hs.symm
          clear hs
          go_wp2_with fail
          go_meet
          exact ⟨by rw [HX.out], H18⟩
        · have HX : Hid (s0 = areaN ⟨m1, m2, m3, m4⟩) := hs.symm
          clear hs
          go_wp2_with fail
          refine (rect_Area _ _ _ _ _).mono ?_
          rintro e w21 ⟨rfl, hb22⟩
          rw [areaS_yes (HMC.out (by simp))]
          clear z0 c0_0 c0_1 c0_2 c0_3 z2 c2_0 c2_1 z3 c3_0 c3_1 c3_2 c3_3 z4 c4_0 c4_1 c4_2 c4_3
          have H23 := Lib.hid (H18.out.below hb22)
          clear hb22 H18
          have F24 := H23.out.sees
          simp only [sees, kRects, kBlk, cellsAt, Nat.reduceAdd] at F24
          obtain ⟨⟨z0, c0_0, c0_1, c0_2, c0_3, -⟩, -, ⟨z2, c2_0, c2_1, -⟩, ⟨z3, c3_0, c3_1, c3_2, c3_3, -⟩, ⟨z4, c4_0, c4_1, c4_2, c4_3, -⟩, -⟩ := F24
          go_wp2_with fail
          go_meet
          exact ⟨by rw [HX.out], H23⟩
      case rest =>
        clear z0 c0_0 c0_1 c0_2 c0_3 z2 c2_0 c2_1 z3 c3_0 c3_1 c3_2 c3_3 z4 c4_0 c4_1 c4_2 c4_3
        clear H18
        obtain ⟨rfl, H21⟩ := hcut
        have F22 := H21.out.sees
        simp only [sees, kRects, kBlk, cellsAt, Nat.reduceAdd] at F22
        obtain ⟨⟨z0, c0_0, c0_1, c0_2, c0_3, -⟩, -, ⟨z2, c2_0, c2_1, -⟩, ⟨z3, c3_0, c3_1, c3_2, c3_3, -⟩, ⟨z4, c4_0, c4_1, c4_2, c4_3, -⟩, -⟩ := F22
        have H23 := Lib.hid H21.out.tail
        clear H21
        clear z0 c0_0 c0_1 c0_2 c0_3 z2 c2_0 c2_1 z3 c3_0 c3_1 c3_2 c3_3 z4 c4_0 c4_1 c4_2 c4_3
        go_wp2_with fail
        go_loopw [9, 14] (fun sv iv wr => ∃ k : Nat, k ≤ L.length ∧ iv = .int .i64 k ∧ sv = .int .i64 (s0 + sumTo L k) ∧ Hid (Ok w [kRects w3.heap.size ad L.length (fun i => L.getD i R4.zero), kBlk (w.heap.size + 1 + 1) 23 [.int .i64 c, .int .i64 t], kBlk (w.heap.size + 1) 38 [.int .i64 b1, .int .i64 b2, .int .i64 b3, .int .i64 b4], kBlk (w.heap.size) 38 [.int .i64 a1, .int .i64 a2, .int .i64 a3, .int .i64 a4]] wr)) (fun _ iv _ => L.length - (intOf iv).toNat)
        case atStart => exact ⟨0, Nat.zero_le _, rfl, by rw [sumTo_zero, Int.add_zero], H23⟩
        case round =>
          obtain ⟨k, hk, rfl, rfl, H⟩ := hrel
          obtain ⟨wp, rfl⟩ : ∃ wp : World, wp = wr := ⟨_, rfl⟩
          have hb1 := HSUM.out k
          have hb2 := HS.out
          by_cases hlt : (k : Int) < (L.length : Int)
          · have hb3 := HSUM.out (k + 1)
            have hsx := sumTo_succ L k (by omega)
            obtain ⟨hck, hin, hnm⟩ := HCC.out.each _ (getD_mem L k (by omega))
            have hal := area_le hck
            obtain ⟨b, o, rfl, hcl⟩ := rects_cells (H.out.get _ (List.mem_cons_self ..)) k (by omega)
            have H1 := Lib.hid (H.out.add _ hcl)
            clear hcl H
            have hpr : ∀ j, j < k → meets (L.getD k R4.zero) (L.getD j R4.zero) = false := fun j hj => pair_at L HCC.out.pair k j hj (by omega)
            obtain ⟨q, hq⟩ : ∃ q, L.getD k R4.zero = q := ⟨_, rfl⟩
            simp only [hq] at H1 hck hin hnm hsx hal hpr
            obtain ⟨q1, q2, q3, q4⟩ := q
            simp only [] at H1
            obtain ⟨A, hA⟩ : ∃ A, areaN ⟨q1, q2, q3, q4⟩ = A := ⟨_, rfl⟩
            rw [hA] at hsx hal
            have HQ := Lib.hid hq
            have HCK := Lib.hid hck
            have HIN := Lib.hid hin
            have HNM := Lib.hid hnm
            have HSX := Lib.hid hsx
            have HAR := Lib.hid hA
            have HPR := Lib.hid hpr
            clear hq hck hin hnm hA hpr
            obtain ⟨g1, g2⟩ := hb1
            obtain ⟨g3, g4⟩ := hb3
            obtain ⟨g5, g6⟩ := hal
            generalize sumTo L k = S at *
            rw [hsx] at g3 g4
            clear hsx
            have hS2 : s0 + S + A = s0 + (S + A) := by omega
            have HS2 := Lib.hid hS2
            clear hS2
            have g7 : s0 + S + A ≤ 1048576 := by omega
            have g8 : 0 ≤ s0 + S := by omega
            have g9 : s0 + S ≤ 1048576 := by omega
            clear hb2
            have F24 := H1.out.sees
            simp only [sees, cellsFrom, Nat.add_zero, kCells, kRects, kBlk, cellsAt, Nat.reduceAdd] at F24
            obtain ⟨⟨z0, c0_0, c0_1, c0_2, c0_3, -⟩, -, ⟨z2, c2_0, c2_1, -⟩, ⟨z3, c3_0, c3_1, c3_2, c3_3, -⟩, ⟨z4, c4_0, c4_1, c4_2, c4_3, -⟩, -⟩ := F24
            go_wp2_with fail
            refine (rect_Area _ _ _ _ _).mono ?_
            rintro e w25 ⟨rfl, hb26⟩
            rw [areaS_yes HCK.out, HAR.out]
            clear z0 c0_0 c0_1 c0_2 c0_3 z2 c2_0 c2_1 z3 c3_0 c3_1 c3_2 c3_3 z4 c4_0 c4_1 c4_2 c4_3
            have H27 := Lib.hid (H1.out.below hb26)
            clear hb26 H1
            have F28 := H27.out.sees
            simp only [sees, cellsFrom, Nat.add_zero, kCells, kRects, kBlk, cellsAt, Nat.reduceAdd] at F28
            obtain ⟨⟨z0, c0_0, c0_1, c0_2, c0_3, -⟩, -, ⟨z2, c2_0, c2_1, -⟩, ⟨z3, c3_0, c3_1, c3_2, c3_3, -⟩, ⟨z4, c4_0, c4_1, c4_2, c4_3, -⟩, -⟩ := F28
            try simp only []
            go_wp2_with fail
            refine wp_region_held_drew (S := fun W => Ok w [kCells b (o + k * 4) [.int .i64 q1, .int .i64 q2, .int .i64 q3, .int .i64 q4], kRects w3.heap.size (some ⟨b, o, none⟩) L.length (fun i => L.getD i R4.zero), kBlk (w.heap.size + 1 + 1) 23 [.int .i64 c, .int .i64 t], kBlk (w.heap.size + 1) 38 [.int .i64 b1, .int .i64 b2, .int .i64 b3, .int .i64 b4], kBlk (w.heap.size) 38 [.int .i64 a1, .int .i64 a2, .int .i64 a3, .int .i64 a4]] W) (by kernel_rfl) H27.out.drew (fun hHeld => ?_)
            refine wpAnyH_take (i := 0) (v := ?vx1_0) rfl (by kernel_rfl) (by kernel_rfl) (by kernel_rfl) (fun _ _ _ h => h) (Or.inl ⟨by rfl, ?hyx1_0⟩) (by assumption) ?restx1_0
            case hyx1_0 => (intro w hSw; have F := Ok.sees hSw; clear hSw; simp only [sees, cellsFrom, Nat.add_zero, kCells, kRects, kBlk, cellsAt, Nat.reduceAdd] at F; go_simp; try with_reducible rfl)
            try simp only [Act.put, List.setIfInBounds_toArray, List.set_cons_zero, List.set_cons_succ, List.getElem_toArray, List.getElem_cons_zero]
            refine wpAnyH_take (i := 1) (v := ?vx2_1) rfl (by kernel_rfl) (by kernel_rfl) (by kernel_rfl) (fun _ _ _ h => h) (Or.inl ⟨by rfl, ?hyx2_1⟩) (by assumption) ?restx2_1
            case hyx2_1 => (intro w hSw; have F := Ok.sees hSw; clear hSw; simp only [sees, cellsFrom, Nat.add_zero, kCells, kRects, kBlk, cellsAt, Nat.reduceAdd] at F; go_simp; try with_reducible rfl)
            try simp only [Act.put, List.setIfInBounds_toArray, List.set_cons_zero, List.set_cons_succ, List.getElem_toArray, List.getElem_cons_succ, List.getElem_cons_zero]
            refine wpAnyH_take (i := 2) (v := ?vx3_2) rfl (by kernel_rfl) (by kernel_rfl) (by kernel_rfl) (fun _ _ _ h => h) (Or.inl ⟨by rfl, ?hyx3_2⟩) (by assumption) ?restx3_2
            case hyx3_2 => (intro w hSw; have F := Ok.sees hSw; clear hSw; simp only [sees, cellsFrom, Nat.add_zero, kCells, kRects, kBlk, cellsAt, Nat.reduceAdd] at F; go_simp; try with_reducible rfl)
            try simp only [Act.put, List.setIfInBounds_toArray, List.set_cons_zero, List.set_cons_succ, List.getElem_toArray, List.getElem_cons_succ, List.getElem_cons_zero]
            refine wpAnyH_take (i := 3) (v := ?vx4_3) rfl (by kernel_rfl) (by kernel_rfl) (by kernel_rfl) (fun _ _ _ h => h) (Or.inl ⟨by rfl, ?hyx4_3⟩) (by assumption) ?restx4_3
            case hyx4_3 => (intro w hSw; have F := Ok.sees hSw; clear hSw; simp only [sees, cellsFrom, Nat.add_zero, kCells, kRects, kBlk, cellsAt, Nat.reduceAdd] at F; go_simp; try with_reducible rfl)
            try simp only [Act.put, List.setIfInBounds_toArray, List.set_cons_zero, List.set_cons_succ, List.getElem_toArray, List.getElem_cons_succ, List.getElem_cons_zero]
            refine wpAnyH_take (i := 4) (v := ?vx5_4) rfl (by kernel_rfl) (by kernel_rfl) (by kernel_rfl) (fun _ _ _ h => h) (Or.inl ⟨by rfl, ?hyx5_4⟩) (by assumption) ?restx5_4
            case hyx5_4 => (intro w hSw; have F := Ok.sees hSw; clear hSw; simp only [sees, cellsFrom, Nat.add_zero, kCells, kRects, kBlk, cellsAt, Nat.reduceAdd] at F; go_simp; try with_reducible rfl)
            try simp only [Act.put, List.setIfInBounds_toArray, List.set_cons_zero, List.set_cons_succ, List.getElem_toArray, List.getElem_cons_succ, List.getElem_cons_zero]
            refine wpAnyH_take (i := 5) (v := ?vx6_5) rfl (by kernel_rfl) (by kernel_rfl) (by kernel_rfl) (fun _ _ _ h => h) (Or.inl ⟨by rfl, ?hyx6_5⟩) (by assumption) ?restx6_5
            case hyx6_5 => (intro w hSw; have F := Ok.sees hSw; clear hSw; simp only [sees, cellsFrom, Nat.add_zero, kCells, kRects, kBlk, cellsAt, Nat.reduceAdd] at F; go_simp; try with_reducible rfl)
            try simp only [Act.put, List.setIfInBounds_toArray, List.set_cons_zero, List.set_cons_succ, List.getElem_toArray, List.getElem_cons_succ, List.getElem_cons_zero]
            refine wpAnyH_take (i := 6) (v := ?vx7_6) rfl (by kernel_rfl) (by kernel_rfl) (by kernel_rfl) (fun _ _ _ h => h) (Or.inl ⟨by rfl, ?hyx7_6⟩) (by assumption) ?restx7_6
            case hyx7_6 => (intro w hSw; have F := Ok.sees hSw; clear hSw; simp only [sees, cellsFrom, Nat.add_zero, kCells, kRects, kBlk, cellsAt, Nat.reduceAdd] at F; go_simp; try with_reducible rfl)
            try simp only [Act.put, List.setIfInBounds_toArray, List.set_cons_zero, List.set_cons_succ, List.getElem_toArray, List.getElem_cons_succ, List.getElem_cons_zero]
            refine wpAnyH_take (i := 7) (v := ?vx8_7) rfl (by kernel_rfl) (by kernel_rfl) (by kernel_rfl) (fun _ _ _ h => h) (Or.inl ⟨by rfl, ?hyx8_7⟩) (by assumption) ?restx8_7
            case hyx8_7 => (intro w hSw; have F := Ok.sees hSw; clear hSw; simp only [sees, cellsFrom, Nat.add_zero, kCells, kRects, kBlk, cellsAt, Nat.reduceAdd] at F; go_simp; try with_reducible rfl)
            try simp only [Act.put, List.setIfInBounds_toArray, List.set_cons_zero, List.set_cons_succ, List.getElem_toArray, List.getElem_cons_succ, List.getElem_cons_zero]
            refine wpAnyH_ready (rs := [8]) (by kernel_rfl) (by simp) ?_
            refine AllReadyH.cons rfl (fun K hK => ?_) AllReadyH.nil
            go_simp
            refine (rect_Inside _ _ _ _ _ _ _ _ _).mono ?_
            rintro e w30 ⟨rfl, hb31⟩
            rw [HIN.out]
            go_wp2_with fail
            refine hK.out _ _ (hHeld.below hb31) (fun hHeld => ?_)
            clear hK K
            try simp only [Act.put, List.setIfInBounds_toArray, List.set_cons_zero, List.set_cons_succ, List.getElem_toArray, List.getElem_cons_succ, List.getElem_cons_zero]
            refine wpAnyH_take (i := 9) (v := ?vx9_9) rfl (by kernel_rfl) (by kernel_rfl) (by kernel_rfl) (fun _ _ _ h => h) (Or.inl ⟨by rfl, ?hyx9_9⟩) (by assumption) ?restx9_9
            case hyx9_9 => (intro w hSw; have F := Ok.sees hSw; clear hSw; simp only [sees, cellsFrom, Nat.add_zero, kCells, kRects, kBlk, cellsAt, Nat.reduceAdd] at F; go_simp; try with_reducible rfl)
            try simp only [Act.put, List.setIfInBounds_toArray, List.set_cons_zero, List.set_cons_succ, List.getElem_toArray, List.getElem_cons_succ, List.getElem_cons_zero]
            refine wpAnyH_take (i := 10) (v := ?vx10_10) rfl (by kernel_rfl) (by kernel_rfl) (by kernel_rfl) (fun _ _ _ h => h) (Or.inl ⟨by rfl, ?hyx10_10⟩) (by assumption) ?restx10_10
            case hyx10_10 => (intro w hSw; have F := Ok.sees hSw; clear hSw; simp only [sees, cellsFrom, Nat.add_zero, kCells, kRects, kBlk, cellsAt, Nat.reduceAdd] at F; go_simp; try with_reducible rfl)
            try simp only [Act.put, List.setIfInBounds_toArray, List.set_cons_zero, List.set_cons_succ, List.getElem_toArray, List.getElem_cons_succ, List.getElem_cons_zero]
            refine wpAnyH_done (by kernel_rfl) ?_ _
            clear z0 c0_0 c0_1 c0_2 c0_3 z2 c2_0 c2_1 z3 c3_0 c3_1 c3_2 c3_3 z4 c4_0 c4_1 c4_2 c4_3
            clear H27
            have H32 := Lib.hid hHeld
            clear hHeld
            have F33 := H32.out.sees
            simp only [sees, cellsFrom, Nat.add_zero, kCells, kRects, kBlk, cellsAt, Nat.reduceAdd] at F33
            obtain ⟨⟨z0, c0_0, c0_1, c0_2, c0_3, -⟩, -, ⟨z2, c2_0, c2_1, -⟩, ⟨z3, c3_0, c3_1, c3_2, c3_3, -⟩, ⟨z4, c4_0, c4_1, c4_2, c4_3, -⟩, -⟩ := F33
            go_upto_region 19 with fail
            go_cut [18] (fun s18 wx => s18 = .bool false ∧ Hid (Ok w [kCells b (o + k * 4) [.int .i64 q1, .int .i64 q2, .int .i64 q3, .int .i64 q4], kRects w3.heap.size (some ⟨b, o, none⟩) L.length (fun i => L.getD i R4.zero), kBlk (w.heap.size + 1 + 1) 23 [.int .i64 c, .int .i64 t], kBlk (w.heap.size + 1) 38 [.int .i64 b1, .int .i64 b2, .int .i64 b3, .int .i64 b4], kBlk (w.heap.size) 38 [.int .i64 a1, .int .i64 a2, .int .i64 a3, .int .i64 a4]] wx))
            case first =>
              refine wp_region_held_drew (S := fun W => Ok w [kCells b (o + k * 4) [.int .i64 q1, .int .i64 q2, .int .i64 q3, .int .i64 q4], kRects w3.heap.size (some ⟨b, o, none⟩) L.length (fun i => L.getD i R4.zero), kBlk (w.heap.size + 1 + 1) 23 [.int .i64 c, .int .i64 t], kBlk (w.heap.size + 1) 38 [.int .i64 b1, .int .i64 b2, .int .i64 b3, .int .i64 b4], kBlk (w.heap.size) 38 [.int .i64 a1, .int .i64 a2, .int .i64 a3, .int .i64 a4]] W) (by kernel_rfl) H32.out.drew (fun hHeld => ?_)
              clear z0 c0_0 c0_1 c0_2 c0_3 z2 c2_0 c2_1 z3 c3_0 c3_1 c3_2 c3_3 z4 c4_0 c4_1 c4_2 c4_3
              have H34 := Lib.hid H32.out.drew
              clear H32
              generalize w30.drew = W35 at hHeld H34 ⊢
              refine wpAnyH_take (i := 0) (v := ?vx11_0) rfl (by kernel_rfl) (by kernel_rfl) (by kernel_rfl) (fun _ _ _ h => h) (Or.inl ⟨by rfl, ?hyx11_0⟩) (by assumption) ?restx11_0
              case hyx11_0 => (intro w hSw; have F := Ok.sees hSw; clear hSw; simp only [sees, cellsFrom, Nat.add_zero, kCells, kRects, kBlk, cellsAt, Nat.reduceAdd] at F; go_simp; try with_reducible rfl)
              try simp only [Act.put, List.setIfInBounds_toArray, List.set_cons_zero, List.set_cons_succ, List.getElem_toArray, List.getElem_cons_zero]
              refine wpAnyH_take (i := 1) (v := ?vx12_1) rfl (by kernel_rfl) (by kernel_rfl) (by kernel_rfl) (fun _ _ _ h => h) (Or.inl ⟨by rfl, ?hyx12_1⟩) (by assumption) ?restx12_1
              case hyx12_1 => (intro w hSw; have F := Ok.sees hSw; clear hSw; simp only [sees, cellsFrom, Nat.add_zero, kCells, kRects, kBlk, cellsAt, Nat.reduceAdd] at F; go_simp; try with_reducible rfl)
              try simp only [Act.put, List.setIfInBounds_toArray, List.set_cons_zero, List.set_cons_succ, List.getElem_toArray, List.getElem_cons_succ, List.getElem_cons_zero]
              refine wpAnyH_take (i := 2) (v := ?vx13_2) rfl (by kernel_rfl) (by kernel_rfl) (by kernel_rfl) (fun _ _ _ h => h) (Or.inl ⟨by rfl, ?hyx13_2⟩) (by assumption) ?restx13_2
              case hyx13_2 => (intro w hSw; have F := Ok.sees hSw; clear hSw; simp only [sees, cellsFrom, Nat.add_zero, kCells, kRects, kBlk, cellsAt, Nat.reduceAdd] at F; go_simp; try with_reducible rfl)
              try simp only [Act.put, List.setIfInBounds_toArray, List.set_cons_zero, List.set_cons_succ, List.getElem_toArray, List.getElem_cons_succ, List.getElem_cons_zero]
              refine wpAnyH_take (i := 3) (v := ?vx14_3) rfl (by kernel_rfl) (by kernel_rfl) (by kernel_rfl) (fun _ _ _ h => h) (Or.inl ⟨by rfl, ?hyx14_3⟩) (by assumption) ?restx14_3
              case hyx14_3 => (intro w hSw; have F := Ok.sees hSw; clear hSw; simp only [sees, cellsFrom, Nat.add_zero, kCells, kRects, kBlk, cellsAt, Nat.reduceAdd] at F; go_simp; try with_reducible rfl)
              try simp only [Act.put, List.setIfInBounds_toArray, List.set_cons_zero, List.set_cons_succ, List.getElem_toArray, List.getElem_cons_succ, List.getElem_cons_zero]
              refine wpAnyH_take (i := 4) (v := ?vx15_4) rfl (by kernel_rfl) (by kernel_rfl) (by kernel_rfl) (fun _ _ _ h => h) (Or.inl ⟨by rfl, ?hyx15_4⟩) (by assumption) ?restx15_4
              case hyx15_4 => (intro w hSw; have F := Ok.sees hSw; clear hSw; simp only [sees, cellsFrom, Nat.add_zero, kCells, kRects, kBlk, cellsAt, Nat.reduceAdd] at F; go_simp; try with_reducible rfl)
              try simp only [Act.put, List.setIfInBounds_toArray, List.set_cons_zero, List.set_cons_succ, List.getElem_toArray, List.getElem_cons_succ, List.getElem_cons_zero]
              refine wpAnyH_ready (rs := [5, 9]) (by kernel_rfl) (by simp) ?_
              refine AllReadyH.cons rfl (fun K hK => ?_) (AllReadyH.cons rfl (fun K hK => ?_) AllReadyH.nil)
              · go_simp
                refine (rect_Meet _ _ _ _ _ _ _ _ _).mono ?_
                rintro e w36 ⟨rfl, hb37⟩
                rw [meetS_no HNM.out, HNM.out]
                go_wp2_with fail
                have H38 := Lib.hid (H34.out.below hb37)
                clear hb37 H34
                refine hK.out _ _ (H38.out) (fun hHeld => ?_)
                clear hK K
                try simp only [Act.put, List.setIfInBounds_toArray, List.set_cons_zero, List.set_cons_succ, List.getElem_toArray, List.getElem_cons_succ, List.getElem_cons_zero]
                refine wpAnyH_take (i := 6) (v := ?vx16_6) rfl (by kernel_rfl) (by kernel_rfl) (by kernel_rfl) (fun _ _ _ h => h) (Or.inl ⟨by rfl, ?hyx16_6⟩) (by assumption) ?restx16_6
                case hyx16_6 => (intro w hSw; have F := Ok.sees hSw; clear hSw; simp only [sees, cellsFrom, Nat.add_zero, kCells, kRects, kBlk, cellsAt, Nat.reduceAdd] at F; go_simp; try with_reducible rfl)
                try simp only [Act.put, List.setIfInBounds_toArray, List.set_cons_zero, List.set_cons_succ, List.getElem_toArray, List.getElem_cons_succ, List.getElem_cons_zero]
                refine wpAnyH_take (i := 7) (v := ?vx17_7) rfl (by kernel_rfl) (by kernel_rfl) (by kernel_rfl) (fun _ _ _ h => h) (Or.inl ⟨by rfl, ?hyx17_7⟩) (by assumption) ?restx17_7
                case hyx17_7 => (intro w hSw; have F := Ok.sees hSw; clear hSw; simp only [sees, cellsFrom, Nat.add_zero, kCells, kRects, kBlk, cellsAt, Nat.reduceAdd] at F; go_simp; try with_reducible rfl)
                try simp only [Act.put, List.setIfInBounds_toArray, List.set_cons_zero, List.set_cons_succ, List.getElem_toArray, List.getElem_cons_succ, List.getElem_cons_zero]
                refine wpAnyH_take (i := 8) (v := ?vx18_8) rfl (by kernel_rfl) (by kernel_rfl) (by kernel_rfl) (fun _ _ _ h => h) (Or.inl ⟨by rfl, ?hyx18_8⟩) (by assumption) ?restx18_8
                case hyx18_8 => (intro w hSw; have F := Ok.sees hSw; clear hSw; simp only [sees, cellsFrom, Nat.add_zero, kCells, kRects, kBlk, cellsAt, Nat.reduceAdd] at F; go_simp; try with_reducible rfl)
                try simp only [Act.put, List.setIfInBounds_toArray, List.set_cons_zero, List.set_cons_succ, List.getElem_toArray, List.getElem_cons_succ, List.getElem_cons_zero]
                refine wpAnyH_ready (rs := [9]) (by kernel_rfl) (by simp) ?_
                refine AllReadyH.cons rfl (fun K hK => ?_) AllReadyH.nil
                go_simp
                have HF40 := Lib.hid (show ∀ x ∈ [kCells b (o + k * 4) [.int .i64 q1, .int .i64 q2, .int .i64 q3, .int .i64 q4], kRects w3.heap.size (some ⟨b, o, none⟩) L.length (fun i => L.getD i R4.zero), kBlk (w.heap.size + 1 + 1) 23 [.int .i64 c, .int .i64 t], kBlk (w.heap.size + 1) 38 [.int .i64 b1, .int .i64 b2, .int .i64 b3, .int .i64 b4], kBlk (w.heap.size) 38 [.int .i64 a1, .int .i64 a2, .int .i64 a3, .int .i64 a4]], x.far (some w36.heap.size) from fun x hx => x.new _ _ (Nat.le_refl _) (H38.out.all x hx))
                have HZ41 := Lib.hid H38.out.bel.size
                have H39 := Lib.hid (H38.out.var w36.heap.size 38 [.int .i64 0, .int .i64 0, .int .i64 0, .int .i64 0] rfl)
                clear H38
                refine hK.out _ _ (H39.out.tail) (fun hHeld => ?_)
                clear hK K
                try simp only [Act.put, List.setIfInBounds_toArray, List.set_cons_zero, List.set_cons_succ, List.getElem_toArray, List.getElem_cons_succ, List.getElem_cons_zero]
                generalize (w36.alloc (.cells #[.int .i64 0, .int .i64 0, .int .i64 0, .int .i64 0] 38)) = W42 at H39 hHeld ⊢
                refine wpAnyH_ready (rs := [10]) (by kernel_rfl) (by simp) ?_
                refine AllReadyH.cons rfl (fun K hK => ?_) AllReadyH.nil
                have F43 := H39.out.sees
                simp only [sees, cellsFrom, Nat.add_zero, kCells, kRects, kBlk, kVar, cellsAt, Nat.reduceAdd] at F43
                go_split_ands
                go_simp
                have H44 := Lib.hid ((((H39.out.set_ (i := 0) (u := .int .i64 0) HZ41.out HF40.out).set_ (i := 1) (u := .int .i64 0) HZ41.out HF40.out).set_ (i := 2) (u := .int .i64 0) HZ41.out HF40.out).set_ (i := 3) (u := .int .i64 0) HZ41.out HF40.out)
                clear H39
                refine hK.out _ _ (H44.out.tail) (fun hHeld => ?_)
                clear hK K
                try simp only [Act.put, List.setIfInBounds_toArray, List.set_cons_zero, List.set_cons_succ, List.getElem_toArray, List.getElem_cons_succ, List.getElem_cons_zero]
                refine wpAnyH_take (i := 11) (v := ?vx19_11) rfl (by kernel_rfl) (by kernel_rfl) (by kernel_rfl) (fun _ _ _ h => h) (Or.inl ⟨by rfl, ?hyx19_11⟩) (by assumption) ?restx19_11
                case hyx19_11 => (intro w hSw; have F := Ok.sees hSw; clear hSw; simp only [sees, cellsFrom, Nat.add_zero, kCells, kRects, kBlk, cellsAt, Nat.reduceAdd] at F; go_simp; try with_reducible rfl)
                try simp only [Act.put, List.setIfInBounds_toArray, List.set_cons_zero, List.set_cons_succ, List.getElem_toArray, List.getElem_cons_succ, List.getElem_cons_zero]
                refine wpAnyH_done (by kernel_rfl) ?_ _
                go_wp2_with fail
                go_meet
                exact ⟨rfl, hHeld⟩
              · go_simp
                have HF37 := Lib.hid (show ∀ x ∈ [kCells b (o + k * 4) [.int .i64 q1, .int .i64 q2, .int .i64 q3, .int .i64 q4], kRects w3.heap.size (some ⟨b, o, none⟩) L.length (fun i => L.getD i R4.zero), kBlk (w.heap.size + 1 + 1) 23 [.int .i64 c, .int .i64 t], kBlk (w.heap.size + 1) 38 [.int .i64 b1, .int .i64 b2, .int .i64 b3, .int .i64 b4], kBlk (w.heap.size) 38 [.int .i64 a1, .int .i64 a2, .int .i64 a3, .int .i64 a4]], x.far (some W35.heap.size) from fun x hx => x.new _ _ (Nat.le_refl _) (H34.out.all x hx))
                have HZ38 := Lib.hid H34.out.bel.size
                have H36 := Lib.hid (H34.out.var W35.heap.size 38 [.int .i64 0, .int .i64 0, .int .i64 0, .int .i64 0] rfl)
                clear H34
                refine hK.out _ _ (H36.out.tail) (fun hHeld => ?_)
                clear hK K
                try simp only [Act.put, List.setIfInBounds_toArray, List.set_cons_zero, List.set_cons_succ, List.getElem_toArray, List.getElem_cons_succ, List.getElem_cons_zero]
                generalize (W35.alloc (.cells #[.int .i64 0, .int .i64 0, .int .i64 0, .int .i64 0] 38)) = W39 at H36 hHeld ⊢
                refine wpAnyH_ready (rs := [5]) (by kernel_rfl) (by simp) ?_
                refine AllReadyH.cons rfl (fun K hK => ?_) AllReadyH.nil
                go_simp
                refine (rect_Meet _ _ _ _ _ _ _ _ _).mono ?_
                rintro e w40 ⟨rfl, hb41⟩
                rw [meetS_no HNM.out, HNM.out]
                go_wp2_with fail
                have H42 := Lib.hid (H36.out.below hb41)
                clear hb41 H36
                refine hK.out _ _ (H42.out.tail) (fun hHeld => ?_)
                clear hK K
                try simp only [Act.put, List.setIfInBounds_toArray, List.set_cons_zero, List.set_cons_succ, List.getElem_toArray, List.getElem_cons_succ, List.getElem_cons_zero]
                refine wpAnyH_take (i := 6) (v := ?vx20_6) rfl (by kernel_rfl) (by kernel_rfl) (by kernel_rfl) (fun _ _ _ h => h) (Or.inl ⟨by rfl, ?hyx20_6⟩) (by assumption) ?restx20_6
                case hyx20_6 => (intro w hSw; have F := Ok.sees hSw; clear hSw; simp only [sees, cellsFrom, Nat.add_zero, kCells, kRects, kBlk, cellsAt, Nat.reduceAdd] at F; go_simp; try with_reducible rfl)
                try simp only [Act.put, List.setIfInBounds_toArray, List.set_cons_zero, List.set_cons_succ, List.getElem_toArray, List.getElem_cons_succ, List.getElem_cons_zero]
                refine wpAnyH_take (i := 7) (v := ?vx21_7) rfl (by kernel_rfl) (by kernel_rfl) (by kernel_rfl) (fun _ _ _ h => h) (Or.inl ⟨by rfl, ?hyx21_7⟩) (by assumption) ?restx21_7
                case hyx21_7 => (intro w hSw; have F := Ok.sees hSw; clear hSw; simp only [sees, cellsFrom, Nat.add_zero, kCells, kRects, kBlk, cellsAt, Nat.reduceAdd] at F; go_simp; try with_reducible rfl)
                try simp only [Act.put, List.setIfInBounds_toArray, List.set_cons_zero, List.set_cons_succ, List.getElem_toArray, List.getElem_cons_succ, List.getElem_cons_zero]
                refine wpAnyH_take (i := 8) (v := ?vx22_8) rfl (by kernel_rfl) (by kernel_rfl) (by kernel_rfl) (fun _ _ _ h => h) (Or.inl ⟨by rfl, ?hyx22_8⟩) (by assumption) ?restx22_8
                case hyx22_8 => (intro w hSw; have F := Ok.sees hSw; clear hSw; simp only [sees, cellsFrom, Nat.add_zero, kCells, kRects, kBlk, cellsAt, Nat.reduceAdd] at F; go_simp; try with_reducible rfl)
                try simp only [Act.put, List.setIfInBounds_toArray, List.set_cons_zero, List.set_cons_succ, List.getElem_toArray, List.getElem_cons_succ, List.getElem_cons_zero]
                refine wpAnyH_ready (rs := [10]) (by kernel_rfl) (by simp) ?_
                refine AllReadyH.cons rfl (fun K hK => ?_) AllReadyH.nil
                have F43 := H42.out.sees
                simp only [sees, cellsFrom, Nat.add_zero, kCells, kRects, kBlk, kVar, cellsAt, Nat.reduceAdd] at F43
                go_split_ands
                go_simp
                have H44 := Lib.hid ((((H42.out.set_ (i := 0) (u := .int .i64 0) HZ38.out HF37.out).set_ (i := 1) (u := .int .i64 0) HZ38.out HF37.out).set_ (i := 2) (u := .int .i64 0) HZ38.out HF37.out).set_ (i := 3) (u := .int .i64 0) HZ38.out HF37.out)
                clear H42
                refine hK.out _ _ (H44.out.tail) (fun hHeld => ?_)
                clear hK K
                try simp only [Act.put, List.setIfInBounds_toArray, List.set_cons_zero, List.set_cons_succ, List.getElem_toArray, List.getElem_cons_succ, List.getElem_cons_zero]
                refine wpAnyH_take (i := 11) (v := ?vx23_11) rfl (by kernel_rfl) (by kernel_rfl) (by kernel_rfl) (fun _ _ _ h => h) (Or.inl ⟨by rfl, ?hyx23_11⟩) (by assumption) ?restx23_11
                case hyx23_11 => (intro w hSw; have F := Ok.sees hSw; clear hSw; simp only [sees, cellsFrom, Nat.add_zero, kCells, kRects, kBlk, cellsAt, Nat.reduceAdd] at F; go_simp; try with_reducible rfl)
                try simp only [Act.put, List.setIfInBounds_toArray, List.set_cons_zero, List.set_cons_succ, List.getElem_toArray, List.getElem_cons_succ, List.getElem_cons_zero]
                refine wpAnyH_done (by kernel_rfl) ?_ _
                go_wp2_with fail
                go_meet
                exact ⟨rfl, hHeld⟩
            case rest =>
              clear z0 c0_0 c0_1 c0_2 c0_3 z2 c2_0 c2_1 z3 c3_0 c3_1 c3_2 c3_3 z4 c4_0 c4_1 c4_2 c4_3
              clear H32
              obtain ⟨rfl, H34⟩ := hcut
              have F35 := H34.out.sees
              simp only [sees, cellsFrom, Nat.add_zero, kCells, kRects, kBlk, cellsAt, Nat.reduceAdd] at F35
              obtain ⟨⟨z0, c0_0, c0_1, c0_2, c0_3, -⟩, -, ⟨z2, c2_0, c2_1, -⟩, ⟨z3, c3_0, c3_1, c3_2, c3_3, -⟩, ⟨z4, c4_0, c4_1, c4_2, c4_3, -⟩, -⟩ := F35
              go_wp2_with fail
              go_loopw [19] (fun iv wr => ∃ j : Nat, j ≤ k ∧ iv = .int .i64 j ∧ Hid (Ok w [kCells b (o + k * 4) [.int .i64 q1, .int .i64 q2, .int .i64 q3, .int .i64 q4], kRects w3.heap.size (some ⟨b, o, none⟩) L.length (fun i => L.getD i R4.zero), kBlk (w.heap.size + 1 + 1) 23 [.int .i64 c, .int .i64 t], kBlk (w.heap.size + 1) 38 [.int .i64 b1, .int .i64 b2, .int .i64 b3, .int .i64 b4], kBlk (w.heap.size) 38 [.int .i64 a1, .int .i64 a2, .int .i64 a3, .int .i64 a4]] wr)) (fun iv _ => k - (intOf iv).toNat)
              case atStart => exact ⟨0, Nat.zero_le _, rfl, H34⟩
              case round =>
                obtain ⟨j, hj, rfl, H⟩ := hrel
                by_cases hjl : (j : Int) < (k : Int)
                · have hjL : (j : Int) < (L.length : Int) := by omega
                  have hpj := HPR.out j (by omega)
                  obtain ⟨b2, o2, hbo, hcl⟩ := rects_cells (H.out.get _ (List.mem_cons_of_mem _ (List.mem_cons_self ..))) j (by omega)
                  obtain ⟨rfl, rfl⟩ : b = b2 ∧ o = o2 := by simpa using hbo
                  have H2 := Lib.hid (H.out.add _ hcl)
                  clear hcl hbo
                  obtain ⟨r, hr⟩ : ∃ r, L.getD j R4.zero = r := ⟨_, rfl⟩
                  simp only [hr] at H2 hpj
                  obtain ⟨r1, r2, r3, r4⟩ := r
                  simp only [] at H2
                  have HPJ := Lib.hid hpj
                  clear hpj hr H
                  have F36 := H2.out.sees
                  simp only [sees, cellsFrom, Nat.add_zero, kCells, kRects, kBlk, cellsAt, Nat.reduceAdd] at F36
                  obtain ⟨⟨z0, c0_0, c0_1, c0_2, c0_3, -⟩, ⟨z1, c1_0, c1_1, c1_2, c1_3, -⟩, -, ⟨z3, c3_0, c3_1, -⟩, ⟨z4, c4_0, c4_1, c4_2, c4_3, -⟩, ⟨z5, c5_0, c5_1, c5_2, c5_3, -⟩, -⟩ := F36
                  go_upto_region 25 with fail
                  go_cut [21] (fun s21 wx => s21 = .bool false ∧ Hid (Ok w [kCells b (o + k * 4) [.int .i64 q1, .int .i64 q2, .int .i64 q3, .int .i64 q4], kRects w3.heap.size (some ⟨b, o, none⟩) L.length (fun i => L.getD i R4.zero), kBlk (w.heap.size + 1 + 1) 23 [.int .i64 c, .int .i64 t], kBlk (w.heap.size + 1) 38 [.int .i64 b1, .int .i64 b2, .int .i64 b3, .int .i64 b4], kBlk (w.heap.size) 38 [.int .i64 a1, .int .i64 a2, .int .i64 a3, .int .i64 a4]] wx))
                  case first =>
                    refine wp_region_held_drew (S := fun W => Ok w [kCells b (o + j * 4) [.int .i64 r1, .int .i64 r2, .int .i64 r3, .int .i64 r4], kCells b (o + k * 4) [.int .i64 q1, .int .i64 q2, .int .i64 q3, .int .i64 q4], kRects w3.heap.size (some ⟨b, o, none⟩) L.length (fun i => L.getD i R4.zero), kBlk (w.heap.size + 1 + 1) 23 [.int .i64 c, .int .i64 t], kBlk (w.heap.size + 1) 38 [.int .i64 b1, .int .i64 b2, .int .i64 b3, .int .i64 b4], kBlk (w.heap.size) 38 [.int .i64 a1, .int .i64 a2, .int .i64 a3, .int .i64 a4]] W) (by kernel_rfl) H2.out.drew (fun hHeld => ?_)
                    clear z0 c0_0 c0_1 c0_2 c0_3 z1 c1_0 c1_1 c1_2 c1_3 z3 c3_0 c3_1 z4 c4_0 c4_1 c4_2 c4_3 z5 c5_0 c5_1 c5_2 c5_3
                    have H37 := Lib.hid H2.out.drew
                    clear H2
                    generalize wr.drew = W38 at hHeld H37 ⊢
                    refine wpAnyH_take (i := 0) (v := ?vx24_0) rfl (by kernel_rfl) (by kernel_rfl) (by kernel_rfl) (fun _ _ _ h => h) (Or.inl ⟨by rfl, ?hyx24_0⟩) (by assumption) ?restx24_0
                    case hyx24_0 => (intro w hSw; have F := Ok.sees hSw; clear hSw; simp only [sees, cellsFrom, Nat.add_zero, kCells, kRects, kBlk, cellsAt, Nat.reduceAdd] at F; go_simp; try with_reducible rfl)
                    try simp only [Act.put, List.setIfInBounds_toArray, List.set_cons_zero, List.set_cons_succ, List.getElem_toArray, List.getElem_cons_zero]
                    refine wpAnyH_take (i := 1) (v := ?vx25_1) rfl (by kernel_rfl) (by kernel_rfl) (by kernel_rfl) (fun _ _ _ h => h) (Or.inl ⟨by rfl, ?hyx25_1⟩) (by assumption) ?restx25_1
                    case hyx25_1 => (intro w hSw; have F := Ok.sees hSw; clear hSw; simp only [sees, cellsFrom, Nat.add_zero, kCells, kRects, kBlk, cellsAt, Nat.reduceAdd] at F; go_simp; try with_reducible rfl)
                    try simp only [Act.put, List.setIfInBounds_toArray, List.set_cons_zero, List.set_cons_succ, List.getElem_toArray, List.getElem_cons_succ, List.getElem_cons_zero]
                    refine wpAnyH_take (i := 2) (v := ?vx26_2) rfl (by kernel_rfl) (by kernel_rfl) (by kernel_rfl) (fun _ _ _ h => h) (Or.inl ⟨by rfl, ?hyx26_2⟩) (by assumption) ?restx26_2
                    case hyx26_2 => (intro w hSw; have F := Ok.sees hSw; clear hSw; simp only [sees, cellsFrom, Nat.add_zero, kCells, kRects, kBlk, cellsAt, Nat.reduceAdd] at F; go_simp; try with_reducible rfl)
                    try simp only [Act.put, List.setIfInBounds_toArray, List.set_cons_zero, List.set_cons_succ, List.getElem_toArray, List.getElem_cons_succ, List.getElem_cons_zero]
                    refine wpAnyH_take (i := 3) (v := ?vx27_3) rfl (by kernel_rfl) (by kernel_rfl) (by kernel_rfl) (fun _ _ _ h => h) (Or.inl ⟨by rfl, ?hyx27_3⟩) (by assumption) ?restx27_3
                    case hyx27_3 => (intro w hSw; have F := Ok.sees hSw; clear hSw; simp only [sees, cellsFrom, Nat.add_zero, kCells, kRects, kBlk, cellsAt, Nat.reduceAdd] at F; go_simp; try with_reducible rfl)
                    try simp only [Act.put, List.setIfInBounds_toArray, List.set_cons_zero, List.set_cons_succ, List.getElem_toArray, List.getElem_cons_succ, List.getElem_cons_zero]
                    refine wpAnyH_take (i := 4) (v := ?vx28_4) rfl (by kernel_rfl) (by kernel_rfl) (by kernel_rfl) (fun _ _ _ h => h) (Or.inl ⟨by rfl, ?hyx28_4⟩) (by assumption) ?restx28_4
                    case hyx28_4 => (intro w hSw; have F := Ok.sees hSw; clear hSw; simp only [sees, cellsFrom, Nat.add_zero, kCells, kRects, kBlk, cellsAt, Nat.reduceAdd] at F; go_simp; try with_reducible rfl)
                    try simp only [Act.put, List.setIfInBounds_toArray, List.set_cons_zero, List.set_cons_succ, List.getElem_toArray, List.getElem_cons_succ, List.getElem_cons_zero]
                    refine wpAnyH_take (i := 5) (v := ?vx29_5) rfl (by kernel_rfl) (by kernel_rfl) (by kernel_rfl) (fun _ _ _ h => h) (Or.inl ⟨by rfl, ?hyx29_5⟩) (by assumption) ?restx29_5
                    case hyx29_5 => (intro w hSw; have F := Ok.sees hSw; clear hSw; simp only [sees, cellsFrom, Nat.add_zero, kCells, kRects, kBlk, cellsAt, Nat.reduceAdd] at F; go_simp; try with_reducible rfl)
                    try simp only [Act.put, List.setIfInBounds_toArray, List.set_cons_zero, List.set_cons_succ, List.getElem_toArray, List.getElem_cons_succ, List.getElem_cons_zero]
                    refine wpAnyH_take (i := 6) (v := ?vx30_6) rfl (by kernel_rfl) (by kernel_rfl) (by kernel_rfl) (fun _ _ _ h => h) (Or.inl ⟨by rfl, ?hyx30_6⟩) (by assumption) ?restx30_6
                    case hyx30_6 => (intro w hSw; have F := Ok.sees hSw; clear hSw; simp only [sees, cellsFrom, Nat.add_zero, kCells, kRects, kBlk, cellsAt, Nat.reduceAdd] at F; go_simp; try with_reducible rfl)
                    try simp only [Act.put, List.setIfInBounds_toArray, List.set_cons_zero, List.set_cons_succ, List.getElem_toArray, List.getElem_cons_succ, List.getElem_cons_zero]
                    refine wpAnyH_take (i := 7) (v := ?vx31_7) rfl (by kernel_rfl) (by kernel_rfl) (by kernel_rfl) (fun _ _ _ h => h) (Or.inl ⟨by rfl, ?hyx31_7⟩) (by assumption) ?restx31_7
                    case hyx31_7 => (intro w hSw; have F := Ok.sees hSw; clear hSw; simp only [sees, cellsFrom, Nat.add_zero, kCells, kRects, kBlk, cellsAt, Nat.reduceAdd] at F; go_simp; try with_reducible rfl)
                    try simp only [Act.put, List.setIfInBounds_toArray, List.set_cons_zero, List.set_cons_succ, List.getElem_toArray, List.getElem_cons_succ, List.getElem_cons_zero]
                    refine wpAnyH_ready (rs := [8, 12]) (by kernel_rfl) (by simp) ?_
                    refine AllReadyH.cons rfl (fun K hK => ?_) (AllReadyH.cons rfl (fun K hK => ?_) AllReadyH.nil)
                    · go_simp
                      refine (rect_Meet _ _ _ _ _ _ _ _ _).mono ?_
                      rintro e w39 ⟨rfl, hb40⟩
                      rw [meetS_no HPJ.out, HPJ.out]
                      go_wp2_with fail
                      have H41 := Lib.hid (H37.out.below hb40)
                      clear hb40 H37
                      refine hK.out _ _ (H41.out) (fun hHeld => ?_)
                      clear hK K
                      try simp only [Act.put, List.setIfInBounds_toArray, List.set_cons_zero, List.set_cons_succ, List.getElem_toArray, List.getElem_cons_succ, List.getElem_cons_zero]
                      refine wpAnyH_take (i := 9) (v := ?vx32_9) rfl (by kernel_rfl) (by kernel_rfl) (by kernel_rfl) (fun _ _ _ h => h) (Or.inl ⟨by rfl, ?hyx32_9⟩) (by assumption) ?restx32_9
                      case hyx32_9 => (intro w hSw; have F := Ok.sees hSw; clear hSw; simp only [sees, cellsFrom, Nat.add_zero, kCells, kRects, kBlk, cellsAt, Nat.reduceAdd] at F; go_simp; try with_reducible rfl)
                      try simp only [Act.put, List.setIfInBounds_toArray, List.set_cons_zero, List.set_cons_succ, List.getElem_toArray, List.getElem_cons_succ, List.getElem_cons_zero]
                      refine wpAnyH_take (i := 10) (v := ?vx33_10) rfl (by kernel_rfl) (by kernel_rfl) (by kernel_rfl) (fun _ _ _ h => h) (Or.inl ⟨by rfl, ?hyx33_10⟩) (by assumption) ?restx33_10
                      case hyx33_10 => (intro w hSw; have F := Ok.sees hSw; clear hSw; simp only [sees, cellsFrom, Nat.add_zero, kCells, kRects, kBlk, cellsAt, Nat.reduceAdd] at F; go_simp; try with_reducible rfl)
                      try simp only [Act.put, List.setIfInBounds_toArray, List.set_cons_zero, List.set_cons_succ, List.getElem_toArray, List.getElem_cons_succ, List.getElem_cons_zero]
                      refine wpAnyH_take (i := 11) (v := ?vx34_11) rfl (by kernel_rfl) (by kernel_rfl) (by kernel_rfl) (fun _ _ _ h => h) (Or.inl ⟨by rfl, ?hyx34_11⟩) (by assumption) ?restx34_11
                      case hyx34_11 => (intro w hSw; have F := Ok.sees hSw; clear hSw; simp only [sees, cellsFrom, Nat.add_zero, kCells, kRects, kBlk, cellsAt, Nat.reduceAdd] at F; go_simp; try with_reducible rfl)
                      try simp only [Act.put, List.setIfInBounds_toArray, List.set_cons_zero, List.set_cons_succ, List.getElem_toArray, List.getElem_cons_succ, List.getElem_cons_zero]
                      refine wpAnyH_ready (rs := [12]) (by kernel_rfl) (by simp) ?_
                      refine AllReadyH.cons rfl (fun K hK => ?_) AllReadyH.nil
                      go_simp
                      have HF43 := Lib.hid (show ∀ x ∈ [kCells b (o + j * 4) [.int .i64 r1, .int .i64 r2, .int .i64 r3, .int .i64 r4], kCells b (o + k * 4) [.int .i64 q1, .int .i64 q2, .int .i64 q3, .int .i64 q4], kRects w3.heap.size (some ⟨b, o, none⟩) L.length (fun i => L.getD i R4.zero), kBlk (w.heap.size + 1 + 1) 23 [.int .i64 c, .int .i64 t], kBlk (w.heap.size + 1) 38 [.int .i64 b1, .int .i64 b2, .int .i64 b3, .int .i64 b4], kBlk (w.heap.size) 38 [.int .i64 a1, .int .i64 a2, .int .i64 a3, .int .i64 a4]], x.far (some w39.heap.size) from fun x hx => x.new _ _ (Nat.le_refl _) (H41.out.all x hx))
                      have HZ44 := Lib.hid H41.out.bel.size
                      have H42 := Lib.hid (H41.out.var w39.heap.size 38 [.int .i64 0, .int .i64 0, .int .i64 0, .int .i64 0] rfl)
                      clear H41
                      refine hK.out _ _ (H42.out.tail) (fun hHeld => ?_)
                      clear hK K
                      try simp only [Act.put, List.setIfInBounds_toArray, List.set_cons_zero, List.set_cons_succ, List.getElem_toArray, List.getElem_cons_succ, List.getElem_cons_zero]
                      generalize (w39.alloc (.cells #[.int .i64 0, .int .i64 0, .int .i64 0, .int .i64 0] 38)) = W45 at H42 hHeld ⊢
                      refine wpAnyH_ready (rs := [13]) (by kernel_rfl) (by simp) ?_
                      refine AllReadyH.cons rfl (fun K hK => ?_) AllReadyH.nil
                      have F46 := H42.out.sees
                      simp only [sees, cellsFrom, Nat.add_zero, kCells, kRects, kBlk, kVar, cellsAt, Nat.reduceAdd] at F46
                      go_split_ands
                      go_simp
                      have H47 := Lib.hid ((((H42.out.set_ (i := 0) (u := .int .i64 0) HZ44.out HF43.out).set_ (i := 1) (u := .int .i64 0) HZ44.out HF43.out).set_ (i := 2) (u := .int .i64 0) HZ44.out HF43.out).set_ (i := 3) (u := .int .i64 0) HZ44.out HF43.out)
                      clear H42
                      refine hK.out _ _ (H47.out.tail) (fun hHeld => ?_)
                      clear hK K
                      try simp only [Act.put, List.setIfInBounds_toArray, List.set_cons_zero, List.set_cons_succ, List.getElem_toArray, List.getElem_cons_succ, List.getElem_cons_zero]
                      refine wpAnyH_take (i := 14) (v := ?vx35_14) rfl (by kernel_rfl) (by kernel_rfl) (by kernel_rfl) (fun _ _ _ h => h) (Or.inl ⟨by rfl, ?hyx35_14⟩) (by assumption) ?restx35_14
                      case hyx35_14 => (intro w hSw; have F := Ok.sees hSw; clear hSw; simp only [sees, cellsFrom, Nat.add_zero, kCells, kRects, kBlk, cellsAt, Nat.reduceAdd] at F; go_simp; try with_reducible rfl)
                      try simp only [Act.put, List.setIfInBounds_toArray, List.set_cons_zero, List.set_cons_succ, List.getElem_toArray, List.getElem_cons_succ, List.getElem_cons_zero]
                      refine wpAnyH_done (by kernel_rfl) ?_ _
                      go_wp2_with fail
                      go_meet
                      exact ⟨rfl, hHeld.tail⟩
                    · go_simp
                      have HF40 := Lib.hid (show ∀ x ∈ [kCells b (o + j * 4) [.int .i64 r1, .int .i64 r2, .int .i64 r3, .int .i64 r4], kCells b (o + k * 4) [.int .i64 q1, .int .i64 q2, .int .i64 q3, .int .i64 q4], kRects w3.heap.size (some ⟨b, o, none⟩) L.length (fun i => L.getD i R4.zero), kBlk (w.heap.size + 1 + 1) 23 [.int .i64 c, .int .i64 t], kBlk (w.heap.size + 1) 38 [.int .i64 b1, .int .i64 b2, .int .i64 b3, .int .i64 b4], kBlk (w.heap.size) 38 [.int .i64 a1, .int .i64 a2, .int .i64 a3, .int .i64 a4]], x.far (some W38.heap.size) from fun x hx => x.new _ _ (Nat.le_refl _) (H37.out.all x hx))
                      have HZ41 := Lib.hid H37.out.bel.size
                      have H39 := Lib.hid (H37.out.var W38.heap.size 38 [.int .i64 0, .int .i64 0, .int .i64 0, .int .i64 0] rfl)
                      clear H37
                      refine hK.out _ _ (H39.out.tail) (fun hHeld => ?_)
                      clear hK K
                      try simp only [Act.put, List.setIfInBounds_toArray, List.set_cons_zero, List.set_cons_succ, List.getElem_toArray, List.getElem_cons_succ, List.getElem_cons_zero]
                      generalize (W38.alloc (.cells #[.int .i64 0, .int .i64 0, .int .i64 0, .int .i64 0] 38)) = W42 at H39 hHeld ⊢
                      refine wpAnyH_ready (rs := [8]) (by kernel_rfl) (by simp) ?_
                      refine AllReadyH.cons rfl (fun K hK => ?_) AllReadyH.nil
                      go_simp
                      refine (rect_Meet _ _ _ _ _ _ _ _ _).mono ?_
                      rintro e w43 ⟨rfl, hb44⟩
                      rw [meetS_no HPJ.out, HPJ.out]
                      go_wp2_with fail
                      have H45 := Lib.hid (H39.out.below hb44)
                      clear hb44 H39
                      refine hK.out _ _ (H45.out.tail) (fun hHeld => ?_)
                      clear hK K
                      try simp only [Act.put, List.setIfInBounds_toArray, List.set_cons_zero, List.set_cons_succ, List.getElem_toArray, List.getElem_cons_succ, List.getElem_cons_zero]
                      refine wpAnyH_take (i := 9) (v := ?vx36_9) rfl (by kernel_rfl) (by kernel_rfl) (by kernel_rfl) (fun _ _ _ h => h) (Or.inl ⟨by rfl, ?hyx36_9⟩) (by assumption) ?restx36_9
                      case hyx36_9 => (intro w hSw; have F := Ok.sees hSw; clear hSw; simp only [sees, cellsFrom, Nat.add_zero, kCells, kRects, kBlk, cellsAt, Nat.reduceAdd] at F; go_simp; try with_reducible rfl)
                      try simp only [Act.put, List.setIfInBounds_toArray, List.set_cons_zero, List.set_cons_succ, List.getElem_toArray, List.getElem_cons_succ, List.getElem_cons_zero]
                      refine wpAnyH_take (i := 10) (v := ?vx37_10) rfl (by kernel_rfl) (by kernel_rfl) (by kernel_rfl) (fun _ _ _ h => h) (Or.inl ⟨by rfl, ?hyx37_10⟩) (by assumption) ?restx37_10
                      case hyx37_10 => (intro w hSw; have F := Ok.sees hSw; clear hSw; simp only [sees, cellsFrom, Nat.add_zero, kCells, kRects, kBlk, cellsAt, Nat.reduceAdd] at F; go_simp; try with_reducible rfl)
                      try simp only [Act.put, List.setIfInBounds_toArray, List.set_cons_zero, List.set_cons_succ, List.getElem_toArray, List.getElem_cons_succ, List.getElem_cons_zero]
                      refine wpAnyH_take (i := 11) (v := ?vx38_11) rfl (by kernel_rfl) (by kernel_rfl) (by kernel_rfl) (fun _ _ _ h => h) (Or.inl ⟨by rfl, ?hyx38_11⟩) (by assumption) ?restx38_11
                      case hyx38_11 => (intro w hSw; have F := Ok.sees hSw; clear hSw; simp only [sees, cellsFrom, Nat.add_zero, kCells, kRects, kBlk, cellsAt, Nat.reduceAdd] at F; go_simp; try with_reducible rfl)
                      try simp only [Act.put, List.setIfInBounds_toArray, List.set_cons_zero, List.set_cons_succ, List.getElem_toArray, List.getElem_cons_succ, List.getElem_cons_zero]
                      refine wpAnyH_ready (rs := [13]) (by kernel_rfl) (by simp) ?_
                      refine AllReadyH.cons rfl (fun K hK => ?_) AllReadyH.nil
                      have F46 := H45.out.sees
                      simp only [sees, cellsFrom, Nat.add_zero, kCells, kRects, kBlk, kVar, cellsAt, Nat.reduceAdd] at F46
                      go_split_ands
                      go_simp
                      have H47 := Lib.hid ((((H45.out.set_ (i := 0) (u := .int .i64 0) HZ41.out HF40.out).set_ (i := 1) (u := .int .i64 0) HZ41.out HF40.out).set_ (i := 2) (u := .int .i64 0) HZ41.out HF40.out).set_ (i := 3) (u := .int .i64 0) HZ41.out HF40.out)
                      clear H45
                      refine hK.out _ _ (H47.out.tail) (fun hHeld => ?_)
                      clear hK K
                      try simp only [Act.put, List.setIfInBounds_toArray, List.set_cons_zero, List.set_cons_succ, List.getElem_toArray, List.getElem_cons_succ, List.getElem_cons_zero]
                      refine wpAnyH_take (i := 14) (v := ?vx39_14) rfl (by kernel_rfl) (by kernel_rfl) (by kernel_rfl) (fun _ _ _ h => h) (Or.inl ⟨by rfl, ?hyx39_14⟩) (by assumption) ?restx39_14
                      case hyx39_14 => (intro w hSw; have F := Ok.sees hSw; clear hSw; simp only [sees, cellsFrom, Nat.add_zero, kCells, kRects, kBlk, cellsAt, Nat.reduceAdd] at F; go_simp; try with_reducible rfl)
                      try simp only [Act.put, List.setIfInBounds_toArray, List.set_cons_zero, List.set_cons_succ, List.getElem_toArray, List.getElem_cons_succ, List.getElem_cons_zero]
                      refine wpAnyH_done (by kernel_rfl) ?_ _
                      go_wp2_with fail
                      go_meet
                      exact ⟨rfl, hHeld.tail⟩
                  case rest =>
                    clear z0 c0_0 c0_1 c0_2 c0_3 z1 c1_0 c1_1 c1_2 c1_3 z3 c3_0 c3_1 z4 c4_0 c4_1 c4_2 c4_3 z5 c5_0 c5_1 c5_2 c5_3
                    clear H2
                    obtain ⟨rfl, H2⟩ := hcut
                    go_wp2_with fail
                    go_roundw
                    case rel => exact ⟨j + 1, by omega, by go_num, H2⟩
                    case measure => simp [intOf]; omega
                · have hje : j = k := by omega
                  subst hje
                  go_wp2_with fail
                  go_roundw
                  case rel => exact ⟨j + 1, by omega, by go_num, by rw [HSX.out, HS2.out], H.out.tail⟩
                  case measure => simp [intOf]; omega
          · have hke : k = L.length := by omega
            subst hke
            rw [sumTo_all] at hb1
            have hfin : s0 + sumTo L L.length = areaN ⟨a1, a2, a3, a4⟩ := by rw [sumTo_all]; exact hb2
            rw [hfin]
            clear hb1 hb2 hfin
            have F24 := H.out.sees
            simp only [sees, kRects, kBlk, cellsAt, Nat.reduceAdd] at F24
            obtain ⟨-, ⟨z1, c1_0, c1_1, -⟩, ⟨z2, c2_0, c2_1, c2_2, c2_3, -⟩, ⟨z3, c3_0, c3_1, c3_2, c3_3, -⟩, -⟩ := F24
            go_wp2_with fail
            refine (rect_Area _ _ _ _ _).mono ?_
            rintro e w25 ⟨rfl, hb26⟩
            rw [areaS_yes HA.out]
            clear z1 c1_0 c1_1 z2 c2_0 c2_1 c2_2 c2_3 z3 c3_0 c3_1 c3_2 c3_3
            have H27 := Lib.hid (H.out.below hb26)
            clear hb26 H
            have F28 := H27.out.sees
            simp only [sees, kRects, kBlk, cellsAt, Nat.reduceAdd] at F28
            obtain ⟨-, ⟨z1, c1_0, c1_1, -⟩, ⟨z2, c2_0, c2_1, c2_2, c2_3, -⟩, ⟨z3, c3_0, c3_1, c3_2, c3_3, -⟩, -⟩ := F28
            generalize areaN ⟨a1, a2, a3, a4⟩ = AA
            go_wp2_with fail
            obtain ⟨i0, hi, hz0, hz1', hzb⟩ := info_parts info_ref
            go_cut [23] (fun s23 wx => ∃ l : List (Int × Int), l.length = 33 ∧ Hid (OkRow w [kRects w3.heap.size ad L.length (fun i => L.getD i R4.zero), kBlk (w.heap.size + 1 + 1) 23 [.int .i64 c, .int .i64 t], kBlk (w.heap.size + 1) 38 [.int .i64 b1, .int .i64 b2, .int .i64 b3, .int .i64 b4], kBlk (w.heap.size) 38 [.int .i64 a1, .int .i64 a2, .int .i64 a3, .int .i64 a4]] 23 2 s23 33 (rfCells l) wx))
            case first =>
              refine wp_region_held_drew (S := fun W => Ok w [kRects w3.heap.size ad L.length (fun i => L.getD i R4.zero), kBlk (w.heap.size + 1 + 1) 23 [.int .i64 c, .int .i64 t], kBlk (w.heap.size + 1) 38 [.int .i64 b1, .int .i64 b2, .int .i64 b3, .int .i64 b4], kBlk (w.heap.size) 38 [.int .i64 a1, .int .i64 a2, .int .i64 a3, .int .i64 a4]] W) (by kernel_rfl) H27.out.drew (fun hHeld => ?_)
              clear z1 c1_0 c1_1 z2 c2_0 c2_1 c2_2 c2_3 z3 c3_0 c3_1 c3_2 c3_3
              refine wpAnyH_take (i := 0) (v := ?vx40_0) rfl (by kernel_rfl) (by kernel_rfl) (by kernel_rfl) (fun _ _ _ h => h) (Or.inl ⟨by rfl, ?hyx40_0⟩) (by assumption) ?restx40_0
              case hyx40_0 => (intro w hSw; have F := Ok.sees hSw; clear hSw; simp only [sees, kRects, kBlk, cellsAt, Nat.reduceAdd] at F; go_simp; try with_reducible rfl)
              try simp only [Act.put, List.setIfInBounds_toArray, List.set_cons_zero, List.set_cons_succ, List.getElem_toArray, List.getElem_cons_zero]
              refine wpAnyH_take (i := 2) (v := ?vx41_2) rfl (by kernel_rfl) (by kernel_rfl) (by kernel_rfl) (fun _ _ _ h => h) (Or.inl ⟨by rfl, ?hyx41_2⟩) (by assumption) ?restx41_2
              case hyx41_2 => (intro w hSw; have F := Ok.sees hSw; clear hSw; simp only [sees, kRects, kBlk, cellsAt, Nat.reduceAdd] at F; go_simp; try with_reducible rfl)
              try simp only [Act.put, List.setIfInBounds_toArray, List.set_cons_zero, List.set_cons_succ, List.getElem_toArray, List.getElem_cons_succ, List.getElem_cons_zero]
              refine wpAnyH_take (i := 5) (v := ?vx42_5) rfl (by kernel_rfl) (by kernel_rfl) (by kernel_rfl) (fun _ _ _ h => h) (Or.inl ⟨by rfl, ?hyx42_5⟩) (by assumption) ?restx42_5
              case hyx42_5 => (intro w hSw; have F := Ok.sees hSw; clear hSw; simp only [sees, kRects, kBlk, cellsAt, Nat.reduceAdd] at F; go_simp; try with_reducible rfl)
              try simp only [Act.put, List.setIfInBounds_toArray, List.set_cons_zero, List.set_cons_succ, List.getElem_toArray, List.getElem_cons_succ, List.getElem_cons_zero]
              refine wpAnyH_ready (rs := [1, 6]) (by kernel_rfl) (by simp) ?_
              refine AllReadyH.cons rfl (fun K hK => ?_) (AllReadyH.cons rfl (fun K hK => ?_) AllReadyH.nil)
              · go_simp
                refine (law_corners _ _ _ _ _ HA.out).mono ?_
                rintro e w29 ⟨v1, l1, rfl, hown1, hl1, hb1⟩
                go_wp2_with fail
                have R30 := Lib.hid (OkRow.of_new H27.out.drew hb1 hown1)
                have HL1 := Lib.hid hl1
                clear hown1 hb1 hl1
                refine hK.out _ _ (R30.out.ok) (fun hHeld => ?_)
                clear hK K
                try simp only [Act.put, List.setIfInBounds_toArray, List.set_cons_zero, List.set_cons_succ, List.getElem_toArray, List.getElem_cons_succ, List.getElem_cons_zero]
                refine wpAnyH_ready (rs := [3, 6]) (by kernel_rfl) (by simp) ?_
                refine AllReadyH.cons rfl (fun K hK => ?_) (AllReadyH.cons rfl (fun K hK => ?_) AllReadyH.nil)
                · go_simp
                  refine (law_corners _ _ _ _ _ HBB.out).mono ?_
                  rintro e w31 ⟨v2, l2, rfl, hown2, hl2, hb2⟩
                  obtain ⟨g2, cp2, rfl, -, -⟩ := hown2.form (by omega)
                  go_wp2_with fail
                  have R32 := Lib.hid (R30.out.below hb2)
                  have HO2 := Lib.hid hown2
                  have HL2 := Lib.hid hl2
                  clear hown2 hb2 hl2
                  refine hK.out _ _ (R32.out.ok) (fun hHeld => ?_)
                  clear hK K
                  try simp only [Act.put, List.setIfInBounds_toArray, List.set_cons_zero, List.set_cons_succ, List.getElem_toArray, List.getElem_cons_succ, List.getElem_cons_zero]
                  refine wpAnyH_ready (rs := [4, 6]) (by kernel_rfl) (by simp) ?_
                  refine AllReadyH.cons rfl (fun K hK => ?_) (AllReadyH.cons rfl (fun K hK => ?_) AllReadyH.nil)
                  · refine step_append_lies _ rfl _ _ _ rfl w.heap.size 23 i0 _ 2 16 Tryd.underlying43 hi hz0 hz1' hzb rfl (by omega) _ _ _ rfl R32.out.own ⟨g2, 0, none⟩ 16 cp2 (rfCells l2) rfl (by rw [rfCells_len, HL2.out]) (World.ownsRow.cells HO2.out (g := g2) rfl) (rfCells_one l2) (by omega) (by unfold maxLen; omega) (by omega) R32.out.ok.bel.size _ rfl ?_
                    intro g3 cp3 w3 hown3 hgrow3 hat3 _hlt3
                    have R33 := Lib.hid (R32.out.appended hown3 hgrow3 hat3)
                    clear hown3 hgrow3 hat3
                    refine hK.out _ _ (R33.out.ok) (fun hHeld => ?_)
                    clear hK K
                    try simp only [Act.put, List.setIfInBounds_toArray, List.set_cons_zero, List.set_cons_succ, List.getElem_toArray, List.getElem_cons_succ, List.getElem_cons_zero]
                    refine wpAnyH_ready (rs := [6]) (by kernel_rfl) (by simp) ?_
                    refine AllReadyH.cons rfl (fun K hK => ?_) AllReadyH.nil
                    go_simp
                    have R34 := Lib.hid (R33.out.alloc _ 23 [.int .i64 c, .int .i64 t] rfl)
                    refine hK.out _ _ (R34.out.ok.tail) (fun hHeld => ?_)
                    clear hK K
                    try simp only [Act.put, List.setIfInBounds_toArray, List.set_cons_zero, List.set_cons_succ, List.getElem_toArray, List.getElem_cons_succ, List.getElem_cons_zero]
                    refine wpAnyH_ready (rs := [7]) (by kernel_rfl) (by simp) ?_
                    refine AllReadyH.cons rfl (fun K hK => ?_) AllReadyH.nil
                    refine step_append_lies _ rfl _ _ _ rfl w.heap.size 23 i0 _ 2 16 Tryd.underlying43 hi hz0 hz1' hzb rfl (by omega) _ _ _ rfl R34.out.own ⟨_, 0, none⟩ 1 1 [.int .i64 c, .int .i64 t] rfl rfl (World.news_of_block (cs := #[.int .i64 c, .int .i64 t]) (t := 23) (fr := (0, 0)) (R34.out.ok.get _ (List.mem_cons_self ..))) (by intro u hu; simp at hu; rcases hu with rfl | rfl <;> rfl) (by omega) (by unfold maxLen; omega) (by omega) R34.out.ok.bel.size _ rfl ?_
                    intro g4 cp4 w4 hown4 hgrow4 hat4 _hlt4
                    have R35 := Lib.hid (R34.out.appended hown4 hgrow4 hat4)
                    clear hown4 hgrow4 hat4
                    refine hK.out _ _ (R35.out.ok.tail) (fun hHeld => ?_)
                    clear hK K
                    try simp only [Act.put, List.setIfInBounds_toArray, List.set_cons_zero, List.set_cons_succ, List.getElem_toArray, List.getElem_cons_succ, List.getElem_cons_zero]
                    refine wpAnyH_take (i := 8) (v := ?vx43_8) rfl (by kernel_rfl) (by kernel_rfl) (by kernel_rfl) (fun _ _ _ h => h) (Or.inl ⟨by rfl, ?hyx43_8⟩) (by assumption) ?restx43_8
                    case hyx43_8 => (intro w hSw; have F := Ok.sees hSw; clear hSw; simp only [sees, kRects, kBlk, cellsAt, Nat.reduceAdd] at F; go_simp; try with_reducible rfl)
                    try simp only [Act.put, List.setIfInBounds_toArray, List.set_cons_zero, List.set_cons_succ, List.getElem_toArray, List.getElem_cons_succ, List.getElem_cons_zero]
                    refine wpAnyH_done (by kernel_rfl) ?_ _
                    go_wp2_with fail
                    go_meet
                    refine ⟨l1 ++ l2 ++ [(c, t)], by simp [HL1.out, HL2.out], ?_⟩
                    rw [rfCells_snoc, rfCells_append]
                    exact R35.out.tail
                  · go_simp
                    have R33 := Lib.hid (R32.out.alloc _ 23 [.int .i64 c, .int .i64 t] rfl)
                    refine hK.out _ _ (R33.out.ok.tail) (fun hHeld => ?_)
                    clear hK K
                    try simp only [Act.put, List.setIfInBounds_toArray, List.set_cons_zero, List.set_cons_succ, List.getElem_toArray, List.getElem_cons_succ, List.getElem_cons_zero]
                    refine wpAnyH_ready (rs := [4]) (by kernel_rfl) (by simp) ?_
                    refine AllReadyH.cons rfl (fun K hK => ?_) AllReadyH.nil
                    refine step_append_lies _ rfl _ _ _ rfl w.heap.size 23 i0 _ 2 16 Tryd.underlying43 hi hz0 hz1' hzb rfl (by omega) _ _ _ rfl R33.out.own ⟨g2, 0, none⟩ 16 cp2 (rfCells l2) rfl (by rw [rfCells_len, HL2.out]) (World.ownsRow.cells (HO2.out.alloc _) (g := g2) rfl) (rfCells_one l2) (by omega) (by unfold maxLen; omega) (by omega) R33.out.ok.bel.size _ rfl ?_
                    intro g3 cp3 w3 hown3 hgrow3 hat3 _hlt3
                    have R34 := Lib.hid (R33.out.appended hown3 hgrow3 hat3)
                    clear hown3 hgrow3 hat3
                    refine hK.out _ _ (R34.out.ok.tail) (fun hHeld => ?_)
                    clear hK K
                    try simp only [Act.put, List.setIfInBounds_toArray, List.set_cons_zero, List.set_cons_succ, List.getElem_toArray, List.getElem_cons_succ, List.getElem_cons_zero]
                    refine wpAnyH_ready (rs := [7]) (by kernel_rfl) (by simp) ?_
                    refine AllReadyH.cons rfl (fun K hK => ?_) AllReadyH.nil
                    refine step_append_lies _ rfl _ _ _ rfl w.heap.size 23 i0 _ 2 16 Tryd.underlying43 hi hz0 hz1' hzb rfl (by omega) _ _ _ rfl R34.out.own ⟨_, 0, none⟩ 1 1 [.int .i64 c, .int .i64 t] rfl rfl (World.news_of_block (cs := #[.int .i64 c, .int .i64 t]) (t := 23) (fr := (0, 0)) (R34.out.ok.get _ (List.mem_cons_self ..))) (by intro u hu; simp at hu; rcases hu with rfl | rfl <;> rfl) (by omega) (by unfold maxLen; omega) (by omega) R34.out.ok.bel.size _ rfl ?_
                    intro g4 cp4 w4 hown4 hgrow4 hat4 _hlt4
                    have R35 := Lib.hid (R34.out.appended hown4 hgrow4 hat4)
                    clear hown4 hgrow4 hat4
                    refine hK.out _ _ (R35.out.ok.tail) (fun hHeld => ?_)
                    clear hK K
                    try simp only [Act.put, List.setIfInBounds_toArray, List.set_cons_zero, List.set_cons_succ, List.getElem_toArray, List.getElem_cons_succ, List.getElem_cons_zero]
                    refine wpAnyH_take (i := 8) (v := ?vx44_8) rfl (by kernel_rfl) (by kernel_rfl) (by kernel_rfl) (fun _ _ _ h => h) (Or.inl ⟨by rfl, ?hyx44_8⟩) (by assumption) ?restx44_8
                    case hyx44_8 => (intro w hSw; have F := Ok.sees hSw; clear hSw; simp only [sees, kRects, kBlk, cellsAt, Nat.reduceAdd] at F; go_simp; try with_reducible rfl)
                    try simp only [Act.put, List.setIfInBounds_toArray, List.set_cons_zero, List.set_cons_succ, List.getElem_toArray, List.getElem_cons_succ, List.getElem_cons_zero]
                    refine wpAnyH_done (by kernel_rfl) ?_ _
                    go_wp2_with fail
                    go_meet
                    refine ⟨l1 ++ l2 ++ [(c, t)], by simp [HL1.out, HL2.out], ?_⟩
                    rw [rfCells_snoc, rfCells_append]
                    exact R35.out.tail
                · go_simp
                  have R31 := Lib.hid (R30.out.alloc _ 23 [.int .i64 c, .int .i64 t] rfl)
                  refine hK.out _ _ (R31.out.ok.tail) (fun hHeld => ?_)
                  clear hK K
                  try simp only [Act.put, List.setIfInBounds_toArray, List.set_cons_zero, List.set_cons_succ, List.getElem_toArray, List.getElem_cons_succ, List.getElem_cons_zero]
                  refine wpAnyH_ready (rs := [3]) (by kernel_rfl) (by simp) ?_
                  refine AllReadyH.cons rfl (fun K hK => ?_) AllReadyH.nil
                  go_simp
                  refine (law_corners _ _ _ _ _ HBB.out).mono ?_
                  rintro e w32 ⟨v2, l2, rfl, hown2, hl2, hb2⟩
                  obtain ⟨g2, cp2, rfl, -, -⟩ := hown2.form (by omega)
                  go_wp2_with fail
                  have R33 := Lib.hid (R31.out.below hb2)
                  have HO2 := Lib.hid hown2
                  have HL2 := Lib.hid hl2
                  clear hown2 hb2 hl2
                  refine hK.out _ _ (R33.out.ok.tail) (fun hHeld => ?_)
                  clear hK K
                  try simp only [Act.put, List.setIfInBounds_toArray, List.set_cons_zero, List.set_cons_succ, List.getElem_toArray, List.getElem_cons_succ, List.getElem_cons_zero]
                  refine wpAnyH_ready (rs := [4]) (by kernel_rfl) (by simp) ?_
                  refine AllReadyH.cons rfl (fun K hK => ?_) AllReadyH.nil
                  refine step_append_lies _ rfl _ _ _ rfl w.heap.size 23 i0 _ 2 16 Tryd.underlying43 hi hz0 hz1' hzb rfl (by omega) _ _ _ rfl R33.out.own ⟨g2, 0, none⟩ 16 cp2 (rfCells l2) rfl (by rw [rfCells_len, HL2.out]) (World.ownsRow.cells HO2.out (g := g2) rfl) (rfCells_one l2) (by omega) (by unfold maxLen; omega) (by omega) R33.out.ok.bel.size _ rfl ?_
                  intro g3 cp3 w3 hown3 hgrow3 hat3 _hlt3
                  have R34 := Lib.hid (R33.out.appended hown3 hgrow3 hat3)
                  clear hown3 hgrow3 hat3
                  refine hK.out _ _ (R34.out.ok.tail) (fun hHeld => ?_)
                  clear hK K
                  try simp only [Act.put, List.setIfInBounds_toArray, List.set_cons_zero, List.set_cons_succ, List.getElem_toArray, List.getElem_cons_succ, List.getElem_cons_zero]
                  refine wpAnyH_ready (rs := [7]) (by kernel_rfl) (by simp) ?_
                  refine AllReadyH.cons rfl (fun K hK => ?_) AllReadyH.nil
                  refine step_append_lies _ rfl _ _ _ rfl w.heap.size 23 i0 _ 2 16 Tryd.underlying43 hi hz0 hz1' hzb rfl (by omega) _ _ _ rfl R34.out.own ⟨_, 0, none⟩ 1 1 [.int .i64 c, .int .i64 t] rfl rfl (World.news_of_block (cs := #[.int .i64 c, .int .i64 t]) (t := 23) (fr := (0, 0)) (R34.out.ok.get _ (List.mem_cons_self ..))) (by intro u hu; simp at hu; rcases hu with rfl | rfl <;> rfl) (by omega) (by unfold maxLen; omega) (by omega) R34.out.ok.bel.size _ rfl ?_
                  intro g4 cp4 w4 hown4 hgrow4 hat4 _hlt4
                  have R35 := Lib.hid (R34.out.appended hown4 hgrow4 hat4)
                  clear hown4 hgrow4 hat4
                  refine hK.out _ _ (R35.out.ok.tail) (fun hHeld => ?_)
                  clear hK K
                  try simp only [Act.put, List.setIfInBounds_toArray, List.set_cons_zero, List.set_cons_succ, List.getElem_toArray, List.getElem_cons_succ, List.getElem_cons_zero]
                  refine wpAnyH_take (i := 8) (v := ?vx45_8) rfl (by kernel_rfl) (by kernel_rfl) (by kernel_rfl) (fun _ _ _ h => h) (Or.inl ⟨by rfl, ?hyx45_8⟩) (by assumption) ?restx45_8
                  case hyx45_8 => (intro w hSw; have F := Ok.sees hSw; clear hSw; simp only [sees, kRects, kBlk, cellsAt, Nat.reduceAdd] at F; go_simp; try with_reducible rfl)
                  try simp only [Act.put, List.setIfInBounds_toArray, List.set_cons_zero, List.set_cons_succ, List.getElem_toArray, List.getElem_cons_succ, List.getElem_cons_zero]
                  refine wpAnyH_done (by kernel_rfl) ?_ _
                  go_wp2_with fail
                  go_meet
                  refine ⟨l1 ++ l2 ++ [(c, t)], by simp [HL1.out, HL2.out], ?_⟩
                  rw [rfCells_snoc, rfCells_append]
                  exact R35.out.tail
              · go_simp
                have R29 := Lib.hid (H27.out.drew.alloc _ 23 [.int .i64 c, .int .i64 t] rfl)
                refine hK.out _ _ (R29.out.tail) (fun hHeld => ?_)
                clear hK K
                try simp only [Act.put, List.setIfInBounds_toArray, List.set_cons_zero, List.set_cons_succ, List.getElem_toArray, List.getElem_cons_succ, List.getElem_cons_zero]
                refine wpAnyH_ready (rs := [1]) (by kernel_rfl) (by simp) ?_
                refine AllReadyH.cons rfl (fun K hK => ?_) AllReadyH.nil
                go_simp
                refine (law_corners _ _ _ _ _ HA.out).mono ?_
                rintro e w30 ⟨v1, l1, rfl, hown1, hl1, hb1⟩
                go_wp2_with fail
                have R31 := Lib.hid (OkRow.of_new R29.out hb1 hown1)
                have HL1 := Lib.hid hl1
                clear hown1 hb1 hl1
                refine hK.out _ _ (R31.out.ok.tail) (fun hHeld => ?_)
                clear hK K
                try simp only [Act.put, List.setIfInBounds_toArray, List.set_cons_zero, List.set_cons_succ, List.getElem_toArray, List.getElem_cons_succ, List.getElem_cons_zero]
                refine wpAnyH_ready (rs := [3]) (by kernel_rfl) (by simp) ?_
                refine AllReadyH.cons rfl (fun K hK => ?_) AllReadyH.nil
                go_simp
                refine (law_corners _ _ _ _ _ HBB.out).mono ?_
                rintro e w32 ⟨v2, l2, rfl, hown2, hl2, hb2⟩
                obtain ⟨g2, cp2, rfl, -, -⟩ := hown2.form (by omega)
                go_wp2_with fail
                have R33 := Lib.hid (R31.out.below hb2)
                have HO2 := Lib.hid hown2
                have HL2 := Lib.hid hl2
                clear hown2 hb2 hl2
                refine hK.out _ _ (R33.out.ok.tail) (fun hHeld => ?_)
                clear hK K
                try simp only [Act.put, List.setIfInBounds_toArray, List.set_cons_zero, List.set_cons_succ, List.getElem_toArray, List.getElem_cons_succ, List.getElem_cons_zero]
                refine wpAnyH_ready (rs := [4]) (by kernel_rfl) (by simp) ?_
                refine AllReadyH.cons rfl (fun K hK => ?_) AllReadyH.nil
                refine step_append_lies _ rfl _ _ _ rfl w.heap.size 23 i0 _ 2 16 Tryd.underlying43 hi hz0 hz1' hzb rfl (by omega) _ _ _ rfl R33.out.own ⟨g2, 0, none⟩ 16 cp2 (rfCells l2) rfl (by rw [rfCells_len, HL2.out]) (World.ownsRow.cells HO2.out (g := g2) rfl) (rfCells_one l2) (by omega) (by unfold maxLen; omega) (by omega) R33.out.ok.bel.size _ rfl ?_
                intro g3 cp3 w3 hown3 hgrow3 hat3 _hlt3
                have R34 := Lib.hid (R33.out.appended hown3 hgrow3 hat3)
                clear hown3 hgrow3 hat3
                refine hK.out _ _ (R34.out.ok.tail) (fun hHeld => ?_)
                clear hK K
                try simp only [Act.put, List.setIfInBounds_toArray, List.set_cons_zero, List.set_cons_succ, List.getElem_toArray, List.getElem_cons_succ, List.getElem_cons_zero]
                refine wpAnyH_ready (rs := [7]) (by kernel_rfl) (by simp) ?_
                refine AllReadyH.cons rfl (fun K hK => ?_) AllReadyH.nil
                refine step_append_lies _ rfl _ _ _ rfl w.heap.size 23 i0 _ 2 16 Tryd.underlying43 hi hz0 hz1' hzb rfl (by omega) _ _ _ rfl R34.out.own ⟨_, 0, none⟩ 1 1 [.int .i64 c, .int .i64 t] rfl rfl (World.news_of_block (cs := #[.int .i64 c, .int .i64 t]) (t := 23) (fr := (0, 0)) (R34.out.ok.get _ (List.mem_cons_self ..))) (by intro u hu; simp at hu; rcases hu with rfl | rfl <;> rfl) (by omega) (by unfold maxLen; omega) (by omega) R34.out.ok.bel.size _ rfl ?_
                intro g4 cp4 w4 hown4 hgrow4 hat4 _hlt4
                have R35 := Lib.hid (R34.out.appended hown4 hgrow4 hat4)
                clear hown4 hgrow4 hat4
                refine hK.out _ _ (R35.out.ok.tail) (fun hHeld => ?_)
                clear hK K
                try simp only [Act.put, List.setIfInBounds_toArray, List.set_cons_zero, List.set_cons_succ, List.getElem_toArray, List.getElem_cons_succ, List.getElem_cons_zero]
                refine wpAnyH_take (i := 8) (v := ?vx46_8) rfl (by kernel_rfl) (by kernel_rfl) (by kernel_rfl) (fun _ _ _ h => h) (Or.inl ⟨by rfl, ?hyx46_8⟩) (by assumption) ?restx46_8
                case hyx46_8 => (intro w hSw; have F := Ok.sees hSw; clear hSw; simp only [sees, kRects, kBlk, cellsAt, Nat.reduceAdd] at F; go_simp; try with_reducible rfl)
                try simp only [Act.put, List.setIfInBounds_toArray, List.set_cons_zero, List.set_cons_succ, List.getElem_toArray, List.getElem_cons_succ, List.getElem_cons_zero]
                refine wpAnyH_done (by kernel_rfl) ?_ _
                go_wp2_with fail
                go_meet
                refine ⟨l1 ++ l2 ++ [(c, t)], by simp [HL1.out, HL2.out], ?_⟩
                rw [rfCells_snoc, rfCells_append]
                exact R35.out.tail
            case rest =>
              obtain ⟨l, hl, H⟩ := hcut
              obtain ⟨g, cp, rfl, -, -⟩ := H.out.own.form (by omega)
              have HL := Lib.hid hl
              clear hl
              go_wp2_with fail
              go_loopw [24] (fun iv wr => ∃ k : Nat, k ≤ 33 ∧ iv = .int .i64 k ∧ Hid (OkRow w [kRects w3.heap.size ad L.length (fun i => L.getD i R4.zero), kBlk (w.heap.size + 1 + 1) 23 [.int .i64 c, .int .i64 t], kBlk (w.heap.size + 1) 38 [.int .i64 b1, .int .i64 b2, .int .i64 b3, .int .i64 b4], kBlk (w.heap.size) 38 [.int .i64 a1, .int .i64 a2, .int .i64 a3, .int .i64 a4]] 23 2 (.slice (some ⟨g, 0, none⟩) 33 cp) 33 (rfCells l) wr)) (fun iv _ => 33 - (intOf iv).toNat)
              case atStart => exact ⟨0, by omega, rfl, H⟩
              case round =>
                obtain ⟨k, hk, rfl, H2⟩ := hrel
                by_cases hlt : (k : Int) < 33
                · obtain ⟨x, y, hxy⟩ := row_pair H2.out.own HL.out k (by omega)
                  have H3 := Lib.hid (H2.out.pers.add (kCells g (k * 2) [.int .i64 x, .int .i64 y]) hxy)
                  have HFAR := Lib.hid H2.out.far
                  have hX := HCC.out.has x y
                  have hI := inF_any L x y
                  change _ = anyR L x y at hI
                  rw [hX] at hI
                  clear hxy hX H2
                  generalize hHA : hasR ⟨a1, a2, a3, a4⟩ x y = p at hI
                  generalize hHB : hasR ⟨b1, b2, b3, b4⟩ x y = q at hI
                  have HHA := Lib.hid hHA
                  have HHB := Lib.hid hHB
                  have HI := Lib.hid hI
                  clear hHA hHB hI
                  cases p
                  · have F29 := H3.out.sees
                    simp only [sees, cellsFrom, Nat.add_zero, kCells, kRects, kBlk, kRow, cellsAt, Nat.reduceAdd] at F29
                    obtain ⟨⟨z0, c0_0, c0_1, -⟩, -, -, ⟨z3, c3_0, c3_1, -⟩, ⟨z4, c4_0, c4_1, c4_2, c4_3, -⟩, ⟨z5, c5_0, c5_1, c5_2, c5_3, -⟩, -⟩ := F29
                    go_wp2_with fail
                    refine wp_region_held_drew (S := fun W => Ok w [kCells g (k * 2) [.int .i64 x, .int .i64 y], kRow w.heap.size 23 2 (.slice (some ⟨g, 0, none⟩) 33 cp) 33 (rfCells l), kRects w3.heap.size ad L.length (fun i => L.getD i R4.zero), kBlk (w.heap.size + 1 + 1) 23 [.int .i64 c, .int .i64 t], kBlk (w.heap.size + 1) 38 [.int .i64 b1, .int .i64 b2, .int .i64 b3, .int .i64 b4], kBlk (w.heap.size) 38 [.int .i64 a1, .int .i64 a2, .int .i64 a3, .int .i64 a4]] W) (by kernel_rfl) H3.out.drew (fun hHeld => ?_)
                    refine wpAnyH_take (i := 0) (v := ?vx47_0) rfl (by kernel_rfl) (by kernel_rfl) (by kernel_rfl) (fun _ _ _ h => h) (Or.inl ⟨by rfl, ?hyx47_0⟩) (by assumption) ?restx47_0
                    case hyx47_0 => (intro w hSw; have F := Ok.sees hSw; clear hSw; simp only [sees, cellsFrom, Nat.add_zero, kCells, kRects, kBlk, kRow, cellsAt, Nat.reduceAdd] at F; go_simp; try with_reducible rfl)
                    try simp only [Act.put, List.setIfInBounds_toArray, List.set_cons_zero, List.set_cons_succ, List.getElem_toArray, List.getElem_cons_zero]
                    refine wpAnyH_take (i := 1) (v := ?vx48_1) rfl (by kernel_rfl) (by kernel_rfl) (by kernel_rfl) (fun _ _ _ h => h) (Or.inl ⟨by rfl, ?hyx48_1⟩) (by assumption) ?restx48_1
                    case hyx48_1 => (intro w hSw; have F := Ok.sees hSw; clear hSw; simp only [sees, cellsFrom, Nat.add_zero, kCells, kRects, kBlk, kRow, cellsAt, Nat.reduceAdd] at F; go_simp; try with_reducible rfl)
                    try simp only [Act.put, List.setIfInBounds_toArray, List.set_cons_zero, List.set_cons_succ, List.getElem_toArray, List.getElem_cons_succ, List.getElem_cons_zero]
                    refine wpAnyH_take (i := 2) (v := ?vx49_2) rfl (by kernel_rfl) (by kernel_rfl) (by kernel_rfl) (fun _ _ _ h => h) (Or.inl ⟨by rfl, ?hyx49_2⟩) (by assumption) ?restx49_2
                    case hyx49_2 => (intro w hSw; have F := Ok.sees hSw; clear hSw; simp only [sees, cellsFrom, Nat.add_zero, kCells, kRects, kBlk, kRow, cellsAt, Nat.reduceAdd] at F; go_simp; try with_reducible rfl)
                    try simp only [Act.put, List.setIfInBounds_toArray, List.set_cons_zero, List.set_cons_succ, List.getElem_toArray, List.getElem_cons_succ, List.getElem_cons_zero]
                    refine wpAnyH_take (i := 3) (v := ?vx50_3) rfl (by kernel_rfl) (by kernel_rfl) (by kernel_rfl) (fun _ _ _ h => h) (Or.inl ⟨by rfl, ?hyx50_3⟩) (by assumption) ?restx50_3
                    case hyx50_3 => (intro w hSw; have F := Ok.sees hSw; clear hSw; simp only [sees, cellsFrom, Nat.add_zero, kCells, kRects, kBlk, kRow, cellsAt, Nat.reduceAdd] at F; go_simp; try with_reducible rfl)
                    try simp only [Act.put, List.setIfInBounds_toArray, List.set_cons_zero, List.set_cons_succ, List.getElem_toArray, List.getElem_cons_succ, List.getElem_cons_zero]
                    refine wpAnyH_take (i := 4) (v := ?vx51_4) rfl (by kernel_rfl) (by kernel_rfl) (by kernel_rfl) (fun _ _ _ h => h) (Or.inl ⟨by rfl, ?hyx51_4⟩) (by assumption) ?restx51_4
                    case hyx51_4 => (intro w hSw; have F := Ok.sees hSw; clear hSw; simp only [sees, cellsFrom, Nat.add_zero, kCells, kRects, kBlk, kRow, cellsAt, Nat.reduceAdd] at F; go_simp; try with_reducible rfl)
                    try simp only [Act.put, List.setIfInBounds_toArray, List.set_cons_zero, List.set_cons_succ, List.getElem_toArray, List.getElem_cons_succ, List.getElem_cons_zero]
                    refine wpAnyH_take (i := 6) (v := ?vx52_6) rfl (by kernel_rfl) (by kernel_rfl) (by kernel_rfl) (fun _ _ _ h => h) (Or.inl ⟨by rfl, ?hyx52_6⟩) (by assumption) ?restx52_6
                    case hyx52_6 => (intro w hSw; have F := Ok.sees hSw; clear hSw; simp only [sees, cellsFrom, Nat.add_zero, kCells, kRects, kBlk, kRow, cellsAt, Nat.reduceAdd] at F; go_simp; try with_reducible rfl)
                    try simp only [Act.put, List.setIfInBounds_toArray, List.set_cons_zero, List.set_cons_succ, List.getElem_toArray, List.getElem_cons_succ, List.getElem_cons_zero]
                    refine wpAnyH_take (i := 7) (v := ?vx53_7) rfl (by kernel_rfl) (by kernel_rfl) (by kernel_rfl) (fun _ _ _ h => h) (Or.inl ⟨by rfl, ?hyx53_7⟩) (by assumption) ?restx53_7
                    case hyx53_7 => (intro w hSw; have F := Ok.sees hSw; clear hSw; simp only [sees, cellsFrom, Nat.add_zero, kCells, kRects, kBlk, kRow, cellsAt, Nat.reduceAdd] at F; go_simp; try with_reducible rfl)
                    try simp only [Act.put, List.setIfInBounds_toArray, List.set_cons_zero, List.set_cons_succ, List.getElem_toArray, List.getElem_cons_succ, List.getElem_cons_zero]
                    refine wpAnyH_take (i := 8) (v := ?vx54_8) rfl (by kernel_rfl) (by kernel_rfl) (by kernel_rfl) (fun _ _ _ h => h) (Or.inl ⟨by rfl, ?hyx54_8⟩) (by assumption) ?restx54_8
                    case hyx54_8 => (intro w hSw; have F := Ok.sees hSw; clear hSw; simp only [sees, cellsFrom, Nat.add_zero, kCells, kRects, kBlk, kRow, cellsAt, Nat.reduceAdd] at F; go_simp; try with_reducible rfl)
                    try simp only [Act.put, List.setIfInBounds_toArray, List.set_cons_zero, List.set_cons_succ, List.getElem_toArray, List.getElem_cons_succ, List.getElem_cons_zero]
                    refine wpAnyH_take (i := 9) (v := ?vx55_9) rfl (by kernel_rfl) (by kernel_rfl) (by kernel_rfl) (fun _ _ _ h => h) (Or.inl ⟨by rfl, ?hyx55_9⟩) (by assumption) ?restx55_9
                    case hyx55_9 => (intro w hSw; have F := Ok.sees hSw; clear hSw; simp only [sees, cellsFrom, Nat.add_zero, kCells, kRects, kBlk, kRow, cellsAt, Nat.reduceAdd] at F; go_simp; try with_reducible rfl)
                    try simp only [Act.put, List.setIfInBounds_toArray, List.set_cons_zero, List.set_cons_succ, List.getElem_toArray, List.getElem_cons_succ, List.getElem_cons_zero]
                    refine wpAnyH_take (i := 10) (v := ?vx56_10) rfl (by kernel_rfl) (by kernel_rfl) (by kernel_rfl) (fun _ _ _ h => h) (Or.inl ⟨by rfl, ?hyx56_10⟩) (by assumption) ?restx56_10
                    case hyx56_10 => (intro w hSw; have F := Ok.sees hSw; clear hSw; simp only [sees, cellsFrom, Nat.add_zero, kCells, kRects, kBlk, kRow, cellsAt, Nat.reduceAdd] at F; go_simp; try with_reducible rfl)
                    try simp only [Act.put, List.setIfInBounds_toArray, List.set_cons_zero, List.set_cons_succ, List.getElem_toArray, List.getElem_cons_succ, List.getElem_cons_zero]
                    refine wpAnyH_ready (rs := [5]) (by kernel_rfl) (by simp) ?_
                    refine AllReadyH.cons rfl (fun K hK => ?_) AllReadyH.nil
                    go_simp
                    refine (law_in _ _ _ _ _ _ _ (by have := HL4.out; omega) ((hHeld.get _ (List.mem_cons_of_mem _ (List.mem_cons_of_mem _ (List.mem_cons_self ..)))).1.below (Below.refl _ _) (hHeld.get _ (List.mem_cons_of_mem _ (List.mem_cons_of_mem _ (List.mem_cons_self ..)))).2)).mono ?_
                    rintro e w31 ⟨rfl, hb32⟩
                    rw [HI.out]
                    go_wp2_with fail
                    refine hK.out _ _ (hHeld.below hb32) (fun hHeld => ?_)
                    clear hK K
                    try simp only [Act.put, List.setIfInBounds_toArray, List.set_cons_zero, List.set_cons_succ, List.getElem_toArray, List.getElem_cons_succ, List.getElem_cons_zero]
                    refine wpAnyH_ready (rs := [11]) (by kernel_rfl) (by simp) ?_
                    refine AllReadyH.cons rfl (fun K hK => ?_) AllReadyH.nil
                    go_simp
                    refine (rect_Has _ _ _ _ _ _ _).mono ?_
                    rintro e w33 ⟨rfl, hb34⟩
                    rw [HHA.out]
                    go_wp2_with fail
                    refine hK.out _ _ (hHeld.below hb34) (fun hHeld => ?_)
                    clear hK K
                    try simp only [Act.put, List.setIfInBounds_toArray, List.set_cons_zero, List.set_cons_succ, List.getElem_toArray, List.getElem_cons_succ, List.getElem_cons_zero]
                    refine wpAnyH_take (i := 12) (v := ?vx57_12) rfl (by kernel_rfl) (by kernel_rfl) (by kernel_rfl) (fun _ _ _ h => h) (Or.inl ⟨by rfl, ?hyx57_12⟩) (by assumption) ?restx57_12
                    case hyx57_12 => (intro w hSw; have F := Ok.sees hSw; clear hSw; simp only [sees, cellsFrom, Nat.add_zero, kCells, kRects, kBlk, kRow, cellsAt, Nat.reduceAdd] at F; go_simp; try with_reducible rfl)
                    try simp only [Act.put, List.setIfInBounds_toArray, List.set_cons_zero, List.set_cons_succ, List.getElem_toArray, List.getElem_cons_succ, List.getElem_cons_zero]
                    refine wpAnyH_take (i := 13) (v := undef) rfl (by kernel_rfl) (by kernel_rfl) (by kernel_rfl) (fun _ _ _ h => h) (Or.inr ⟨by rfl, rfl⟩) (by assumption) ?_
                    try simp only [Act.put, List.setIfInBounds_toArray, List.set_cons_zero, List.set_cons_succ, List.getElem_toArray, List.getElem_cons_succ, List.getElem_cons_zero]
                    refine wpAnyH_take (i := 14) (v := undef) rfl (by kernel_rfl) (by kernel_rfl) (by kernel_rfl) (fun _ _ _ h => h) (Or.inr ⟨by rfl, rfl⟩) (by assumption) ?_
                    try simp only [Act.put, List.setIfInBounds_toArray, List.set_cons_zero, List.set_cons_succ, List.getElem_toArray, List.getElem_cons_succ, List.getElem_cons_zero]
                    refine wpAnyH_take (i := 15) (v := undef) rfl (by kernel_rfl) (by kernel_rfl) (by kernel_rfl) (fun _ _ _ h => h) (Or.inr ⟨by rfl, rfl⟩) (by assumption) ?_
                    try simp only [Act.put, List.setIfInBounds_toArray, List.set_cons_zero, List.set_cons_succ, List.getElem_toArray, List.getElem_cons_succ, List.getElem_cons_zero]
                    refine wpAnyH_take (i := 16) (v := undef) rfl (by kernel_rfl) (by kernel_rfl) (by kernel_rfl) (fun _ _ _ h => h) (Or.inr ⟨by rfl, rfl⟩) (by assumption) ?_
                    try simp only [Act.put, List.setIfInBounds_toArray, List.set_cons_zero, List.set_cons_succ, List.getElem_toArray, List.getElem_cons_succ, List.getElem_cons_zero]
                    refine wpAnyH_take (i := 17) (v := undef) rfl (by kernel_rfl) (by kernel_rfl) (by kernel_rfl) (fun _ _ _ h => h) (Or.inr ⟨by rfl, rfl⟩) (by assumption) ?_
                    try simp only [Act.put, List.setIfInBounds_toArray, List.set_cons_zero, List.set_cons_succ, List.getElem_toArray, List.getElem_cons_succ, List.getElem_cons_zero]
                    refine wpAnyH_take (i := 18) (v := undef) rfl (by kernel_rfl) (by kernel_rfl) (by kernel_rfl) (fun _ _ _ h => h) (Or.inr ⟨by rfl, rfl⟩) (by assumption) ?_
                    try simp only [Act.put, List.setIfInBounds_toArray, List.set_cons_zero, List.set_cons_succ, List.getElem_toArray, List.getElem_cons_succ, List.getElem_cons_zero]
                    refine wpAnyH_take (i := 19) (v := undef) rfl (by kernel_rfl) (by kernel_rfl) (by kernel_rfl) (fun _ _ _ h => h) (Or.inr ⟨by rfl, rfl⟩) (by assumption) ?_
                    try simp only [Act.put, List.setIfInBounds_toArray, List.set_cons_zero, List.set_cons_succ, List.getElem_toArray, List.getElem_cons_succ, List.getElem_cons_zero]
                    refine wpAnyH_take (i := 20) (v := ?vx65_20) rfl (by kernel_rfl) (by kernel_rfl) (by kernel_rfl) (fun _ _ _ h => h) (Or.inl ⟨by rfl, ?hyx65_20⟩) (by assumption) ?restx65_20
                    case hyx65_20 => (intro w hSw; have F := Ok.sees hSw; clear hSw; simp only [sees, cellsFrom, Nat.add_zero, kCells, kRects, kBlk, kRow, cellsAt, Nat.reduceAdd] at F; go_simp; try with_reducible rfl)
                    try simp only [Act.put, List.setIfInBounds_toArray, List.set_cons_zero, List.set_cons_succ, List.getElem_toArray, List.getElem_cons_succ, List.getElem_cons_zero]
                    refine wpAnyH_take (i := 21) (v := ?vx66_21) rfl (by kernel_rfl) (by kernel_rfl) (by kernel_rfl) (fun _ _ _ h => h) (Or.inl ⟨by rfl, ?hyx66_21⟩) (by assumption) ?restx66_21
                    case hyx66_21 => (intro w hSw; have F := Ok.sees hSw; clear hSw; simp only [sees, cellsFrom, Nat.add_zero, kCells, kRects, kBlk, kRow, cellsAt, Nat.reduceAdd] at F; go_simp; try with_reducible rfl)
                    try simp only [Act.put, List.setIfInBounds_toArray, List.set_cons_zero, List.set_cons_succ, List.getElem_toArray, List.getElem_cons_succ, List.getElem_cons_zero]
                    refine wpAnyH_done (by kernel_rfl) ?_ _
                    clear z0 c0_0 c0_1 z3 c3_0 c3_1 z4 c4_0 c4_1 c4_2 c4_3 z5 c5_0 c5_1 c5_2 c5_3
                    clear H3
                    have H35 := Lib.hid hHeld
                    clear hHeld
                    go_wp2_with fail
                    go_roundw
                    case rel => exact ⟨k + 1, by omega, by go_num, OkRow.back H35.out.tail HFAR.out⟩
                    case measure => simp [intOf]; omega
                  · have F29 := H3.out.sees
                    simp only [sees, cellsFrom, Nat.add_zero, kCells, kRects, kBlk, kRow, cellsAt, Nat.reduceAdd] at F29
                    obtain ⟨⟨z0, c0_0, c0_1, -⟩, -, -, ⟨z3, c3_0, c3_1, -⟩, ⟨z4, c4_0, c4_1, c4_2, c4_3, -⟩, ⟨z5, c5_0, c5_1, c5_2, c5_3, -⟩, -⟩ := F29
                    go_wp2_with fail
                    refine wp_region_held_drew (S := fun W => Ok w [kCells g (k * 2) [.int .i64 x, .int .i64 y], kRow w.heap.size 23 2 (.slice (some ⟨g, 0, none⟩) 33 cp) 33 (rfCells l), kRects w3.heap.size ad L.length (fun i => L.getD i R4.zero), kBlk (w.heap.size + 1 + 1) 23 [.int .i64 c, .int .i64 t], kBlk (w.heap.size + 1) 38 [.int .i64 b1, .int .i64 b2, .int .i64 b3, .int .i64 b4], kBlk (w.heap.size) 38 [.int .i64 a1, .int .i64 a2, .int .i64 a3, .int .i64 a4]] W) (by kernel_rfl) H3.out.drew (fun hHeld => ?_)
                    refine wpAnyH_take (i := 0) (v := ?vx67_0) rfl (by kernel_rfl) (by kernel_rfl) (by kernel_rfl) (fun _ _ _ h => h) (Or.inl ⟨by rfl, ?hyx67_0⟩) (by assumption) ?restx67_0
                    case hyx67_0 => (intro w hSw; have F := Ok.sees hSw; clear hSw; simp only [sees, cellsFrom, Nat.add_zero, kCells, kRects, kBlk, kRow, cellsAt, Nat.reduceAdd] at F; go_simp; try with_reducible rfl)
                    try simp only [Act.put, List.setIfInBounds_toArray, List.set_cons_zero, List.set_cons_succ, List.getElem_toArray, List.getElem_cons_zero]
                    refine wpAnyH_take (i := 1) (v := ?vx68_1) rfl (by kernel_rfl) (by kernel_rfl) (by kernel_rfl) (fun _ _ _ h => h) (Or.inl ⟨by rfl, ?hyx68_1⟩) (by assumption) ?restx68_1
                    case hyx68_1 => (intro w hSw; have F := Ok.sees hSw; clear hSw; simp only [sees, cellsFrom, Nat.add_zero, kCells, kRects, kBlk, kRow, cellsAt, Nat.reduceAdd] at F; go_simp; try with_reducible rfl)
                    try simp only [Act.put, List.setIfInBounds_toArray, List.set_cons_zero, List.set_cons_succ, List.getElem_toArray, List.getElem_cons_succ, List.getElem_cons_zero]
                    refine wpAnyH_take (i := 2) (v := ?vx69_2) rfl (by kernel_rfl) (by kernel_rfl) (by kernel_rfl) (fun _ _ _ h => h) (Or.inl ⟨by rfl, ?hyx69_2⟩) (by assumption) ?restx69_2
                    case hyx69_2 => (intro w hSw; have F := Ok.sees hSw; clear hSw; simp only [sees, cellsFrom, Nat.add_zero, kCells, kRects, kBlk, kRow, cellsAt, Nat.reduceAdd] at F; go_simp; try with_reducible rfl)
                    try simp only [Act.put, List.setIfInBounds_toArray, List.set_cons_zero, List.set_cons_succ, List.getElem_toArray, List.getElem_cons_succ, List.getElem_cons_zero]
                    refine wpAnyH_take (i := 3) (v := ?vx70_3) rfl (by kernel_rfl) (by kernel_rfl) (by kernel_rfl) (fun _ _ _ h => h) (Or.inl ⟨by rfl, ?hyx70_3⟩) (by assumption) ?restx70_3
                    case hyx70_3 => (intro w hSw; have F := Ok.sees hSw; clear hSw; simp only [sees, cellsFrom, Nat.add_zero, kCells, kRects, kBlk, kRow, cellsAt, Nat.reduceAdd] at F; go_simp; try with_reducible rfl)
                    try simp only [Act.put, List.setIfInBounds_toArray, List.set_cons_zero, List.set_cons_succ, List.getElem_toArray, List.getElem_cons_succ, List.getElem_cons_zero]
                    refine wpAnyH_take (i := 4) (v := ?vx71_4) rfl (by kernel_rfl) (by kernel_rfl) (by kernel_rfl) (fun _ _ _ h => h) (Or.inl ⟨by rfl, ?hyx71_4⟩) (by assumption) ?restx71_4
                    case hyx71_4 => (intro w hSw; have F := Ok.sees hSw; clear hSw; simp only [sees, cellsFrom, Nat.add_zero, kCells, kRects, kBlk, kRow, cellsAt, Nat.reduceAdd] at F; go_simp; try with_reducible rfl)
                    try simp only [Act.put, List.setIfInBounds_toArray, List.set_cons_zero, List.set_cons_succ, List.getElem_toArray, List.getElem_cons_succ, List.getElem_cons_zero]
                    refine wpAnyH_take (i := 6) (v := ?vx72_6) rfl (by kernel_rfl) (by kernel_rfl) (by kernel_rfl) (fun _ _ _ h => h) (Or.inl ⟨by rfl, ?hyx72_6⟩) (by assumption) ?restx72_6
                    case hyx72_6 => (intro w hSw; have F := Ok.sees hSw; clear hSw; simp only [sees, cellsFrom, Nat.add_zero, kCells, kRects, kBlk, kRow, cellsAt, Nat.reduceAdd] at F; go_simp; try with_reducible rfl)
                    try simp only [Act.put, List.setIfInBounds_toArray, List.set_cons_zero, List.set_cons_succ, List.getElem_toArray, List.getElem_cons_succ, List.getElem_cons_zero]
                    refine wpAnyH_take (i := 7) (v := ?vx73_7) rfl (by kernel_rfl) (by kernel_rfl) (by kernel_rfl) (fun _ _ _ h => h) (Or.inl ⟨by rfl, ?hyx73_7⟩) (by assumption) ?restx73_7
                    case hyx73_7 => (intro w hSw; have F := Ok.sees hSw; clear hSw; simp only [sees, cellsFrom, Nat.add_zero, kCells, kRects, kBlk, kRow, cellsAt, Nat.reduceAdd] at F; go_simp; try with_reducible rfl)
                    try simp only [Act.put, List.setIfInBounds_toArray, List.set_cons_zero, List.set_cons_succ, List.getElem_toArray, List.getElem_cons_succ, List.getElem_cons_zero]
                    refine wpAnyH_take (i := 8) (v := ?vx74_8) rfl (by kernel_rfl) (by kernel_rfl) (by kernel_rfl) (fun _ _ _ h => h) (Or.inl ⟨by rfl, ?hyx74_8⟩) (by assumption) ?restx74_8
                    case hyx74_8 => (intro w hSw; have F := Ok.sees hSw; clear hSw; simp only [sees, cellsFrom, Nat.add_zero, kCells, kRects, kBlk, kRow, cellsAt, Nat.reduceAdd] at F; go_simp; try with_reducible rfl)
                    try simp only [Act.put, List.setIfInBounds_toArray, List.set_cons_zero, List.set_cons_succ, List.getElem_toArray, List.getElem_cons_succ, List.getElem_cons_zero]
                    refine wpAnyH_take (i := 9) (v := ?vx75_9) rfl (by kernel_rfl) (by kernel_rfl) (by kernel_rfl) (fun _ _ _ h => h) (Or.inl ⟨by rfl, ?hyx75_9⟩) (by assumption) ?restx75_9
                    case hyx75_9 => (intro w hSw; have F := Ok.sees hSw; clear hSw; simp only [sees, cellsFrom, Nat.add_zero, kCells, kRects, kBlk, kRow, cellsAt, Nat.reduceAdd] at F; go_simp; try with_reducible rfl)
                    try simp only [Act.put, List.setIfInBounds_toArray, List.set_cons_zero, List.set_cons_succ, List.getElem_toArray, List.getElem_cons_succ, List.getElem_cons_zero]
                    refine wpAnyH_take (i := 10) (v := ?vx76_10) rfl (by kernel_rfl) (by kernel_rfl) (by kernel_rfl) (fun _ _ _ h => h) (Or.inl ⟨by rfl, ?hyx76_10⟩) (by assumption) ?restx76_10
                    case hyx76_10 => (intro w hSw; have F := Ok.sees hSw; clear hSw; simp only [sees, cellsFrom, Nat.add_zero, kCells, kRects, kBlk, kRow, cellsAt, Nat.reduceAdd] at F; go_simp; try with_reducible rfl)
                    try simp only [Act.put, List.setIfInBounds_toArray, List.set_cons_zero, List.set_cons_succ, List.getElem_toArray, List.getElem_cons_succ, List.getElem_cons_zero]
                    refine wpAnyH_ready (rs := [5]) (by kernel_rfl) (by simp) ?_
                    refine AllReadyH.cons rfl (fun K hK => ?_) AllReadyH.nil
                    go_simp
                    refine (law_in _ _ _ _ _ _ _ (by have := HL4.out; omega) ((hHeld.get _ (List.mem_cons_of_mem _ (List.mem_cons_of_mem _ (List.mem_cons_self ..)))).1.below (Below.refl _ _) (hHeld.get _ (List.mem_cons_of_mem _ (List.mem_cons_of_mem _ (List.mem_cons_self ..)))).2)).mono ?_
                    rintro e w31 ⟨rfl, hb32⟩
                    rw [HI.out]
                    go_wp2_with fail
                    refine hK.out _ _ (hHeld.below hb32) (fun hHeld => ?_)
                    clear hK K
                    try simp only [Act.put, List.setIfInBounds_toArray, List.set_cons_zero, List.set_cons_succ, List.getElem_toArray, List.getElem_cons_succ, List.getElem_cons_zero]
                    refine wpAnyH_ready (rs := [11]) (by kernel_rfl) (by simp) ?_
                    refine AllReadyH.cons rfl (fun K hK => ?_) AllReadyH.nil
                    go_simp
                    refine (rect_Has _ _ _ _ _ _ _).mono ?_
                    rintro e w33 ⟨rfl, hb34⟩
                    rw [HHA.out]
                    go_wp2_with fail
                    refine hK.out _ _ (hHeld.below hb34) (fun hHeld => ?_)
                    clear hK K
                    try simp only [Act.put, List.setIfInBounds_toArray, List.set_cons_zero, List.set_cons_succ, List.getElem_toArray, List.getElem_cons_succ, List.getElem_cons_zero]
                    refine wpAnyH_take (i := 12) (v := ?vx77_12) rfl (by kernel_rfl) (by kernel_rfl) (by kernel_rfl) (fun _ _ _ h => h) (Or.inl ⟨by rfl, ?hyx77_12⟩) (by assumption) ?restx77_12
                    case hyx77_12 => (intro w hSw; have F := Ok.sees hSw; clear hSw; simp only [sees, cellsFrom, Nat.add_zero, kCells, kRects, kBlk, kRow, cellsAt, Nat.reduceAdd] at F; go_simp; try with_reducible rfl)
                    try simp only [Act.put, List.setIfInBounds_toArray, List.set_cons_zero, List.set_cons_succ, List.getElem_toArray, List.getElem_cons_succ, List.getElem_cons_zero]
                    refine wpAnyH_take (i := 13) (v := ?vx78_13) rfl (by kernel_rfl) (by kernel_rfl) (by kernel_rfl) (fun _ _ _ h => h) (Or.inl ⟨by rfl, ?hyx78_13⟩) (by assumption) ?restx78_13
                    case hyx78_13 => (intro w hSw; have F := Ok.sees hSw; clear hSw; simp only [sees, cellsFrom, Nat.add_zero, kCells, kRects, kBlk, kRow, cellsAt, Nat.reduceAdd] at F; go_simp; try with_reducible rfl)
                    try simp only [Act.put, List.setIfInBounds_toArray, List.set_cons_zero, List.set_cons_succ, List.getElem_toArray, List.getElem_cons_succ, List.getElem_cons_zero]
                    refine wpAnyH_take (i := 14) (v := ?vx79_14) rfl (by kernel_rfl) (by kernel_rfl) (by kernel_rfl) (fun _ _ _ h => h) (Or.inl ⟨by rfl, ?hyx79_14⟩) (by assumption) ?restx79_14
                    case hyx79_14 => (intro w hSw; have F := Ok.sees hSw; clear hSw; simp only [sees, cellsFrom, Nat.add_zero, kCells, kRects, kBlk, kRow, cellsAt, Nat.reduceAdd] at F; go_simp; try with_reducible rfl)
                    try simp only [Act.put, List.setIfInBounds_toArray, List.set_cons_zero, List.set_cons_succ, List.getElem_toArray, List.getElem_cons_succ, List.getElem_cons_zero]
                    refine wpAnyH_take (i := 15) (v := ?vx80_15) rfl (by kernel_rfl) (by kernel_rfl) (by kernel_rfl) (fun _ _ _ h => h) (Or.inl ⟨by rfl, ?hyx80_15⟩) (by assumption) ?restx80_15
                    case hyx80_15 => (intro w hSw; have F := Ok.sees hSw; clear hSw; simp only [sees, cellsFrom, Nat.add_zero, kCells, kRects, kBlk, kRow, cellsAt, Nat.reduceAdd] at F; go_simp; try with_reducible rfl)
                    try simp only [Act.put, List.setIfInBounds_toArray, List.set_cons_zero, List.set_cons_succ, List.getElem_toArray, List.getElem_cons_succ, List.getElem_cons_zero]
                    refine wpAnyH_take (i := 16) (v := ?vx81_16) rfl (by kernel_rfl) (by kernel_rfl) (by kernel_rfl) (fun _ _ _ h => h) (Or.inl ⟨by rfl, ?hyx81_16⟩) (by assumption) ?restx81_16
                    case hyx81_16 => (intro w hSw; have F := Ok.sees hSw; clear hSw; simp only [sees, cellsFrom, Nat.add_zero, kCells, kRects, kBlk, kRow, cellsAt, Nat.reduceAdd] at F; go_simp; try with_reducible rfl)
                    try simp only [Act.put, List.setIfInBounds_toArray, List.set_cons_zero, List.set_cons_succ, List.getElem_toArray, List.getElem_cons_succ, List.getElem_cons_zero]
                    refine wpAnyH_take (i := 17) (v := ?vx82_17) rfl (by kernel_rfl) (by kernel_rfl) (by kernel_rfl) (fun _ _ _ h => h) (Or.inl ⟨by rfl, ?hyx82_17⟩) (by assumption) ?restx82_17
                    case hyx82_17 => (intro w hSw; have F := Ok.sees hSw; clear hSw; simp only [sees, cellsFrom, Nat.add_zero, kCells, kRects, kBlk, kRow, cellsAt, Nat.reduceAdd] at F; go_simp; try with_reducible rfl)
                    try simp only [Act.put, List.setIfInBounds_toArray, List.set_cons_zero, List.set_cons_succ, List.getElem_toArray, List.getElem_cons_succ, List.getElem_cons_zero]
                    refine wpAnyH_ready (rs := [18]) (by kernel_rfl) (by simp) ?_
                    refine AllReadyH.cons rfl (fun K hK => ?_) AllReadyH.nil
                    go_simp
                    refine (rect_Has _ _ _ _ _ _ _).mono ?_
                    rintro e w35 ⟨rfl, hb36⟩
                    rw [HHB.out]
                    go_wp2_with fail
                    refine hK.out _ _ (hHeld.below hb36) (fun hHeld => ?_)
                    clear hK K
                    try simp only [Act.put, List.setIfInBounds_toArray, List.set_cons_zero, List.set_cons_succ, List.getElem_toArray, List.getElem_cons_succ, List.getElem_cons_zero]
                    refine wpAnyH_take (i := 19) (v := ?vx83_19) rfl (by kernel_rfl) (by kernel_rfl) (by kernel_rfl) (fun _ _ _ h => h) (Or.inl ⟨by rfl, ?hyx83_19⟩) (by assumption) ?restx83_19
                    case hyx83_19 => (intro w hSw; have F := Ok.sees hSw; clear hSw; simp only [sees, cellsFrom, Nat.add_zero, kCells, kRects, kBlk, kRow, cellsAt, Nat.reduceAdd] at F; go_simp; try with_reducible rfl)
                    try simp only [Act.put, List.setIfInBounds_toArray, List.set_cons_zero, List.set_cons_succ, List.getElem_toArray, List.getElem_cons_succ, List.getElem_cons_zero]
                    refine wpAnyH_take (i := 20) (v := ?vx84_20) rfl (by kernel_rfl) (by kernel_rfl) (by kernel_rfl) (fun _ _ _ h => h) (Or.inl ⟨by rfl, ?hyx84_20⟩) (by assumption) ?restx84_20
                    case hyx84_20 => (intro w hSw; have F := Ok.sees hSw; clear hSw; simp only [sees, cellsFrom, Nat.add_zero, kCells, kRects, kBlk, kRow, cellsAt, Nat.reduceAdd] at F; go_simp; try with_reducible rfl)
                    try simp only [Act.put, List.setIfInBounds_toArray, List.set_cons_zero, List.set_cons_succ, List.getElem_toArray, List.getElem_cons_succ, List.getElem_cons_zero]
                    refine wpAnyH_take (i := 21) (v := ?vx85_21) rfl (by kernel_rfl) (by kernel_rfl) (by kernel_rfl) (fun _ _ _ h => h) (Or.inl ⟨by rfl, ?hyx85_21⟩) (by assumption) ?restx85_21
                    case hyx85_21 => (intro w hSw; have F := Ok.sees hSw; clear hSw; simp only [sees, cellsFrom, Nat.add_zero, kCells, kRects, kBlk, kRow, cellsAt, Nat.reduceAdd] at F; go_simp; try with_reducible rfl)
                    try simp only [Act.put, List.setIfInBounds_toArray, List.set_cons_zero, List.set_cons_succ, List.getElem_toArray, List.getElem_cons_succ, List.getElem_cons_zero]
                    refine wpAnyH_done (by kernel_rfl) ?_ _
                    clear z0 c0_0 c0_1 z3 c3_0 c3_1 z4 c4_0 c4_1 c4_2 c4_3 z5 c5_0 c5_1 c5_2 c5_3
                    clear H3
                    have H37 := Lib.hid hHeld
                    clear hHeld
                    go_wp2_with fail
                    go_roundw
                    case rel => exact ⟨k + 1, by omega, by go_num, OkRow.back H37.out.tail HFAR.out⟩
                    case measure => simp [intOf]; omega
                · have hke : k = 33 := by omega
                  subst hke
                  go_wp2_with fail
                  have H4 := Lib.hid H2.out.ok
                  clear H2
                  refine (rect_known _ (HP.out.below H4.out.bel)).mono ?_
                  rintro e w29 ⟨rfl, hb30⟩
                  have H31 := Lib.hid (H4.out.below hb30)
                  clear hb30 H4
                  go_wp2_with fail
                  go_ret
                  exact ⟨rfl, H31.out.bel⟩
end Go.Proofs.YtkdabfepggehiaaDoor
