/- The walk of the law RectAll. -/
import Derived.Test.YtkdabfepggehiaaDoorCovL
import Derived.Test.YtkdabfepggehiaaDoorSmall
import Derived.Test.YtkdabfepggehiaaDoorAllP
namespace Go.Proofs.YtkdabfepggehiaaDoor
open Go.RowKit

theorem smallB_yes {r : R4} (h : smallB r = true) : checkB r = true ∧ areaN r ≤ 400 := by
  unfold smallB at h
  rw [Bool.and_eq_true, decide_eq_true_eq] at h
  exact h
theorem refCells_get (C c1 r1 : Int) (n k : Nat) (hk : k < n) : (refCells C c1 r1 n)[k * 2]? = some (.int .i64 (refAt C c1 r1 k).1) ∧ (refCells C c1 r1 n)[k * 2 + 1]? = some (.int .i64 (refAt C c1 r1 k).2) := by
  have hl : ∀ m, (refCells C c1 r1 m).length = m * 2 := by
    intro m
    induction m with
    | zero => rfl
    | succ m ih => rw [refCells_succ, List.length_append, ih]; simp; omega
  induction n with
  | zero => omega
  | succ n ih =>
    rw [refCells_succ]
    rcases Nat.lt_or_ge k n with h | h
    · obtain ⟨h1, h2⟩ := ih h
      rw [List.getElem?_append_left (by rw [hl]; omega), List.getElem?_append_left (by rw [hl]; omega)]
      exact ⟨h1, h2⟩
    · obtain rfl : k = n := by omega
      rw [List.getElem?_append_right (by rw [hl]; omega), List.getElem?_append_right (by rw [hl]; omega), hl]
      simp
theorem refs_pair {w : World} {base : Nat} {e : TypeId} {g n cp : Nat} {C c1 r1 : Int} (h : w.ownsRow base e 2 (.slice (some ⟨g, 0, none⟩) n cp) n (refCells C c1 r1 n)) (k : Nat) (hk : k < n) : (kCells g (k * 2) [.int .i64 (refAt C c1 r1 k).1, .int .i64 (refAt C c1 r1 k).2]).p w := by
  obtain ⟨h1, h2⟩ := refCells_get C c1 r1 n k hk
  have hc := h.cells (g := g) rfl
  have c1 := hc _ _ h1
  have c2 := hc _ _ h2
  have e1 : ∀ j, (⟨g, 0, none⟩ : Addr).add j = ⟨g, j, none⟩ := fun j => by unfold Addr.add; split <;> simp_all
  rw [e1] at c1 c2
  exact ⟨(h.lt g rfl).2, c1, c2, trivial⟩
attribute [local irreducible] coversS listR allT turnF smallB refAt refCells
set_option maxRecDepth 100000 in
set_option maxHeartbeats 8000000 in
theorem RectAll_walk (r1 r2 r3 r4 : Int) (a : Option Addr) (n c : Nat) (f1 : Nat → Nat → Int) (w : World) (_ : (Lit.int .i64 r1).wf = true) (_ : (Lit.int .i64 r2).wf = true) (_ : (Lit.int .i64 r3).wf = true) (_ : (Lit.int .i64 r4).wf = true)
    (hn : n ≤ maxLen) (wr : IsRows 4 w w.heap.size a n fun i j => .int .i64 (f1 i j)) (_ : ∀ i j, (Lit.int .i64 (f1 i j)).wf = true)
    (hL : laidMetH Tryd.prog Rows.rectAllRow.laid w) (_ : w.ShapedOpen Tryd.prog) :
    Calls Tryd.prog 14 #[.agg #[.int .i64 r1, .int .i64 r2, .int .i64 r3, .int .i64 r4], .slice a n c] w fun e w' => e = .returned (.bool true) ∧ Below w.heap.size w w' := by
  have HP := Lib.hid (pow_of_laid hL (by kernel_rfl))
  have hr := rects_of_rows wr
  generalize rowR f1 = f at hr
  have H0 := Lib.hid (((Ok.start w).add (kRects w.heap.size a n f) ⟨hr, Nat.le_refl _⟩).alloc w.heap.size 38 [.int .i64 r1, .int .i64 r2, .int .i64 r3, .int .i64 r4] rfl)
  clear hL hr wr
  unfold maxLen at hn
  cases hs : smallB ⟨r1, r2, r3, r4⟩
  · have HS := keep hs
    clear hs
    go_enter Tryd.func14, Tryd.ntmps14
    have F1 := H0.out.sees
    simp only [sees, kBlk, cellsAt, Nat.reduceAdd] at F1
    obtain ⟨⟨z0, c0_0, c0_1, c0_2, c0_3, -⟩, -, -⟩ := F1
    go_wp2_with fail
    clear z0 c0_0 c0_1 c0_2 c0_3
    generalize (w.alloc (.cells #[.int .i64 r1, .int .i64 r2, .int .i64 r3, .int .i64 r4] 38)) = W1 at H0 ⊢
    refine (law_small _ _ _ _ _).mono ?_
    rintro e w2 ⟨rfl, hb3⟩
    rw [HS.out]
    have H4 := Lib.hid (H0.out.below hb3)
    clear hb3 H0
    have F5 := H4.out.sees
    simp only [sees, kBlk, cellsAt, Nat.reduceAdd] at F5
    obtain ⟨⟨z0, c0_0, c0_1, c0_2, c0_3, -⟩, -, -⟩ := F5
    go_wp2_with fail
    refine (rect_known _ (HP.out.below H4.out.bel)).mono ?_
    rintro e w6 ⟨rfl, hb7⟩
    clear z0 c0_0 c0_1 c0_2 c0_3
    have H8 := Lib.hid (H4.out.below hb7)
    clear hb7 H4
    go_wp2_with fail
    go_ret
    exact ⟨rfl, H8.out.bel⟩
  have hck := smallB_yes hs
  have HS := keep hs
  obtain ⟨hck, har⟩ := hck
  clear hs
  by_cases h12 : (n : Int) > 12
  · have HCK := keep hck
    clear hck har
    go_enter Tryd.func14, Tryd.ntmps14
    have F1 := H0.out.sees
    simp only [sees, kBlk, cellsAt, Nat.reduceAdd] at F1
    obtain ⟨⟨z0, c0_0, c0_1, c0_2, c0_3, -⟩, -, -⟩ := F1
    go_wp2_with fail
    clear z0 c0_0 c0_1 c0_2 c0_3
    generalize (w.alloc (.cells #[.int .i64 r1, .int .i64 r2, .int .i64 r3, .int .i64 r4] 38)) = W1 at H0 ⊢
    refine (law_small _ _ _ _ _).mono ?_
    rintro e w2 ⟨rfl, hb3⟩
    rw [HS.out]
    have H4 := Lib.hid (H0.out.below hb3)
    clear hb3 H0
    have F5 := H4.out.sees
    simp only [sees, kBlk, cellsAt, Nat.reduceAdd] at F5
    obtain ⟨⟨z0, c0_0, c0_1, c0_2, c0_3, -⟩, -, -⟩ := F5
    go_wp2_with fail
    refine (rect_known _ (HP.out.below H4.out.bel)).mono ?_
    rintro e w6 ⟨rfl, hb7⟩
    clear z0 c0_0 c0_1 c0_2 c0_3
    have H8 := Lib.hid (H4.out.below hb7)
    clear hb7 H4
    go_wp2_with fail
    go_ret
    exact ⟨rfl, H8.out.bel⟩
  have hn12 : n ≤ 12 := by omega
  have hr := (checkB_iff _).1 hck
  have hl := area_le hck
  have HCK := keep hck
  obtain ⟨m, hm⟩ : ∃ m : Nat, areaN ⟨r1, r2, r3, r4⟩ = (m : Int) := ⟨(areaN ⟨r1, r2, r3, r4⟩).toNat, by omega⟩
  rw [hm] at hl har
  have HM := keep hm
  have HRE := keep (refsE_yes hck (by rw [hm]; omega))
  have HRN := keep (show refsN ⟨r1, r2, r3, r4⟩ = m by rw [refsN_yes hck (by rw [hm]; omega), hm]; rfl)
  have HAY := keep (show areaS ⟨r1, r2, r3, r4⟩ = ((m : Int), 0) by rw [areaS_yes hck, hm])
  have hmC : (m : Int) = (r3 - r1 + 1) * (r4 - r2 + 1) := by rw [← hm]; rfl
  have HMC := keep hmC
  simp only [] at hr
  obtain ⟨x1, x2, x3, x4, x5, x6⟩ := hr
  obtain ⟨x7, x8⟩ := hl
  clear hck hm hmC
  go_enter Tryd.func14, Tryd.ntmps14
  have F1 := H0.out.sees
  simp only [sees, kBlk, cellsAt, Nat.reduceAdd] at F1
  obtain ⟨⟨z0, c0_0, c0_1, c0_2, c0_3, -⟩, -, -⟩ := F1
  go_wp2_with fail
  clear z0 c0_0 c0_1 c0_2 c0_3
  generalize (w.alloc (.cells #[.int .i64 r1, .int .i64 r2, .int .i64 r3, .int .i64 r4] 38)) = W1 at H0 ⊢
  refine (law_small _ _ _ _ _).mono ?_
  rintro e w2 ⟨rfl, hb3⟩
  rw [HS.out]
  have H4 := Lib.hid (H0.out.below hb3)
  clear hb3 H0
  have F5 := H4.out.sees
  simp only [sees, kBlk, cellsAt, Nat.reduceAdd] at F5
  obtain ⟨⟨z0, c0_0, c0_1, c0_2, c0_3, -⟩, -, -⟩ := F5
  go_wp2_with fail
  clear z0 c0_0 c0_1 c0_2 c0_3
  go_loopw [5] (fun iv wr => ∃ k : Nat, k ≤ n ∧ iv = .int .i64 k ∧ Keep (∀ i, i < k → checkB (f i) = true) ∧ Hid (Ok w [kBlk (w.heap.size) 38 [.int .i64 r1, .int .i64 r2, .int .i64 r3, .int .i64 r4], kRects w.heap.size a n f] wr)) (fun iv _ => n - (intOf iv).toNat)
  case atStart => exact ⟨0, Nat.zero_le _, rfl, keep (fun i hi => absurd hi (by omega)), H4⟩
  case round =>
    obtain ⟨k, hk, rfl, HV, H⟩ := hrel
    by_cases hlt : (k : Int) < n
    · obtain ⟨b, o, rfl, hc⟩ := rects_cells (H.out.get (kRects w.heap.size a n f) (by simp)) k (by omega)
      have HX := Lib.hid (H.out.add _ hc)
      clear hc
      obtain ⟨q, hq⟩ : ∃ q, f k = q := ⟨_, rfl⟩
      rw [hq] at HX
      cases hcq : checkB q
      · have HQ := keep hcq
        have HFK := keep hq
        clear hcq hq
        obtain ⟨q1, q2, q3, q4⟩ := q
        have F6 := HX.out.sees
        simp only [sees, kBlk, kCells, cellsFrom, Nat.add_zero, cellsAt, Nat.reduceAdd] at F6
        obtain ⟨⟨z0, c0_0, c0_1, c0_2, c0_3, -⟩, ⟨z1, c1_0, c1_1, c1_2, c1_3, -⟩, -, -⟩ := F6
        go_wp2_with fail
        refine (rect_Check _ _ _ _ _).mono ?_
        rintro e w7 ⟨rfl, hb8⟩
        rw [checkE_no HQ.out]
        clear z0 c0_0 c0_1 c0_2 c0_3 z1 c1_0 c1_1 c1_2 c1_3
        have H9 := Lib.hid (HX.out.below hb8)
        clear hb8 HX
        go_wp2_with fail
        refine (rect_known _ (HP.out.below H9.out.bel)).mono ?_
        rintro e w10 ⟨rfl, hb11⟩
        have H12 := Lib.hid (H9.out.below hb11)
        clear hb11 H9
        go_wp2_with fail
        go_ret
        exact ⟨rfl, H12.out.bel⟩
      · have HQ := keep hcq
        have HFK := keep hq
        clear hcq hq
        obtain ⟨q1, q2, q3, q4⟩ := q
        have F6 := HX.out.sees
        simp only [sees, kBlk, kCells, cellsFrom, Nat.add_zero, cellsAt, Nat.reduceAdd] at F6
        obtain ⟨⟨z0, c0_0, c0_1, c0_2, c0_3, -⟩, ⟨z1, c1_0, c1_1, c1_2, c1_3, -⟩, -, -⟩ := F6
        go_wp2_with fail
        refine (rect_Check _ _ _ _ _).mono ?_
        rintro e w7 ⟨rfl, hb8⟩
        rw [checkE_yes HQ.out]
        clear z0 c0_0 c0_1 c0_2 c0_3 z1 c1_0 c1_1 c1_2 c1_3
        have H9 := Lib.hid (HX.out.below hb8)
        clear hb8 HX
        go_wp2_with fail
        go_roundw
        case rel => exact ⟨k + 1, by omega, by go_num, keep (fun i hi => by
          rcases Nat.lt_or_ge i k with h9 | h9
          · exact HV.out i h9
          · obtain rfl : i = k := by omega
            rw [HFK.out]; exact HQ.out), Lib.hid H9.out.tail⟩
        case measure => simp [intOf]; omega
    · obtain rfl : k = n := by omega
      have HAL := keep ((allB_iff f k).2 HV.out)
      clear HV hlt hk
      have F6 := H.out.sees
      simp only [sees, kBlk, cellsAt, Nat.reduceAdd] at F6
      obtain ⟨⟨z0, c0_0, c0_1, c0_2, c0_3, -⟩, -, -⟩ := F6
      go_wp2_with fail
      refine (rect_Refs _ _ _ _ _).mono ?_
      rintro e w7 ⟨v, rfl, hown, hb⟩
      rw [HRN.out] at hown
      rw [HRE.out]
      obtain ⟨g, cp, rfl, -, -⟩ := hown.form (by omega)
      clear z0 c0_0 c0_1 c0_2 c0_3
      have H8 := Lib.hid ((H.out.below hb).add (kRow wr.heap.size 23 2 (.slice (some ⟨g, 0, none⟩) m cp) m (refCells (r3 - r1 + 1) r1 r2 m)) hown)
      clear hown hb H
      generalize wr.heap.size = B0 at H8
      have F9 := H8.out.sees
      simp only [sees, kBlk, cellsAt, Nat.reduceAdd] at F9
      obtain ⟨-, ⟨z1, c1_0, c1_1, c1_2, c1_3, -⟩, -, -⟩ := F9
      go_wp2_with fail
      refine (rect_Area _ _ _ _ _).mono ?_
      rintro e w10 ⟨rfl, hb11⟩
      rw [HAY.out]
      clear z1 c1_0 c1_1 c1_2 c1_3
      have H12 := Lib.hid (H8.out.below hb11)
      clear hb11 H8
      have F13 := H12.out.sees
      simp only [sees, kBlk, cellsAt, Nat.reduceAdd] at F13
      obtain ⟨-, ⟨z1, c1_0, c1_1, c1_2, c1_3, -⟩, -, -⟩ := F13
      have hmC := HMC.out.symm
      go_wp2_with fail
      clear hmC
      clear z1 c1_0 c1_1 c1_2 c1_3
      skip
      go_loopw [10, 11] (fun av iv wr => ∃ j : Nat, j ≤ m ∧ iv = .int .i64 j ∧ av = .bool (allT ⟨r1, r2, r3, r4⟩ f k j) ∧ Hid (Ok w [kRow B0 23 2 (.slice (some ⟨g, 0, none⟩) m cp) m (refCells (r3 - r1 + 1) r1 r2 m), kBlk (w.heap.size) 38 [.int .i64 r1, .int .i64 r2, .int .i64 r3, .int .i64 r4], kRects w.heap.size a k f] wr)) (fun _ iv _ => m - (intOf iv).toNat)
      case atStart => exact ⟨0, Nat.zero_le _, rfl, by unfold allT; rfl, H12⟩
      case round =>
        obtain ⟨j, hj, rfl, rfl, H⟩ := hrel
        by_cases hjl : (j : Int) < (m : Int)
        · have HR := Lib.hid (H.out.add _ (refs_pair (H.out.get (kRow B0 23 2 (.slice (some ⟨g, 0, none⟩) m cp) m (refCells (r3 - r1 + 1) r1 r2 m)) (by simp)) j (by omega)))
          clear H
          have HT := keep (allT_succ ⟨r1, r2, r3, r4⟩ f k j)
          simp only [] at HT
          have hspl : refAt (r3 - r1 + 1) r1 r2 j = (r1 + (j : Int) % (r3 - r1 + 1), r2 + (j : Int) / (r3 - r1 + 1)) := by unfold refAt; rfl
          obtain ⟨p, hp⟩ : ∃ p, refAt (r3 - r1 + 1) r1 r2 j = p := ⟨_, rfl⟩
          rw [hp] at HR HT hspl
          obtain ⟨px, py⟩ := p
          simp only [] at HR HT
          have hpx : r1 + (j : Int) % (r3 - r1 + 1) = px := (congrArg Prod.fst hspl).symm
          have hpy : r2 + (j : Int) / (r3 - r1 + 1) = py := (congrArg Prod.snd hspl).symm
          have hm0 := Int.emod_nonneg (j : Int) (show r3 - r1 + 1 ≠ 0 by omega)
          have hm1 := Int.emod_lt_of_pos (j : Int) (show 0 < r3 - r1 + 1 by omega)
          have hd0 : 0 ≤ (j : Int) / (r3 - r1 + 1) := Int.ediv_nonneg (by omega) (by omega)
          have hd1 : (j : Int) / (r3 - r1 + 1) ≤ j := Int.ediv_le_self _ (by omega)
          have htm : (j : Int).tmod (r3 - r1 + 1) = (j : Int) % (r3 - r1 + 1) := Int.tmod_eq_emod_of_nonneg (by omega)
          have htd : (j : Int).tdiv (r3 - r1 + 1) = (j : Int) / (r3 - r1 + 1) := Int.tdiv_eq_ediv_of_nonneg (by omega)
          have hz : ¬ r3 - r1 + 1 = 0 := by omega
          have hw1 : IntKind.i64.wrap (r3 - r1) = r3 - r1 := IntWalk.i64_in _ (by omega)
          have hw2 : IntKind.i64.wrap (r3 - r1 + 1) = r3 - r1 + 1 := IntWalk.i64_in _ (by omega)
          have hw5 : IntKind.i64.wrap ((j : Int) / (r3 - r1 + 1)) = (j : Int) / (r3 - r1 + 1) := IntWalk.i64_in _ (by omega)
          have hw6 : IntKind.i64.wrap ((j : Int) % (r3 - r1 + 1)) = (j : Int) % (r3 - r1 + 1) := IntWalk.i64_in _ (by omega)
          have hw3 : IntKind.i64.wrap (r1 + (j : Int) % (r3 - r1 + 1)) = px := by rw [← hpx]; exact IntWalk.i64_in _ (by omega)
          have hw4 : IntKind.i64.wrap (r2 + (j : Int) / (r3 - r1 + 1)) = py := by rw [← hpy]; exact IntWalk.i64_in _ (by omega)
          clear hspl hp hpx hpy hm0 hm1 hd0 hd1
          have F14 := HR.out.sees
          simp only [sees, kBlk, kCells, cellsFrom, Nat.add_zero, cellsAt, Nat.reduceAdd] at F14
          obtain ⟨⟨z0, c0_0, c0_1, -⟩, -, ⟨z2, c2_0, c2_1, c2_2, c2_3, -⟩, -, -⟩ := F14
          go_wp2_with fail
          refine wp_region_held_drew (S := fun W => Ok w [kCells g (j * 2) [.int .i64 px, .int .i64 py], kRow B0 23 2 (.slice (some ⟨g, 0, none⟩) m cp) m (refCells (r3 - r1 + 1) r1 r2 m), kBlk (w.heap.size) 38 [.int .i64 r1, .int .i64 r2, .int .i64 r3, .int .i64 r4], kRects w.heap.size a k f] W) (by kernel_rfl) HR.out.drew (fun hHeld => ?_)
          clear z0 c0_0 c0_1 z2 c2_0 c2_1 c2_2 c2_3
          have H15 := Lib.hid HR.out.drew
          clear HR
          generalize wr.drew = W16 at hHeld H15 ⊢
          refine wpAnyH_take (i := 0) (v := ?vx1_0) rfl (by kernel_rfl) (by kernel_rfl) (by kernel_rfl) (fun _ _ _ h => h) (Or.inl ⟨by rfl, ?hyx1_0⟩) (by assumption) ?restx1_0
          case hyx1_0 => (intro w hSw; have F := Ok.sees hSw; clear hSw; simp only [sees, kBlk, kCells, cellsFrom, Nat.add_zero, cellsAt, Nat.reduceAdd] at F; go_simp; try with_reducible rfl)
          try simp only [Act.put, List.setIfInBounds_toArray, List.set_cons_zero, List.set_cons_succ, List.getElem_toArray, List.getElem_cons_zero]
          refine wpAnyH_take (i := 1) (v := ?vx2_1) rfl (by kernel_rfl) (by kernel_rfl) (by kernel_rfl) (fun _ _ _ h => h) (Or.inl ⟨by rfl, ?hyx2_1⟩) (by assumption) ?restx2_1
          case hyx2_1 => (intro w hSw; have F := Ok.sees hSw; clear hSw; simp only [sees, kBlk, kCells, cellsFrom, Nat.add_zero, cellsAt, Nat.reduceAdd] at F; go_simp; try with_reducible rfl)
          try simp only [Act.put, List.setIfInBounds_toArray, List.set_cons_zero, List.set_cons_succ, List.getElem_toArray, List.getElem_cons_succ, List.getElem_cons_zero]
          refine wpAnyH_take (i := 2) (v := ?vx3_2) rfl (by kernel_rfl) (by kernel_rfl) (by kernel_rfl) (fun _ _ _ h => h) (Or.inl ⟨by rfl, ?hyx3_2⟩) (by assumption) ?restx3_2
          case hyx3_2 => (intro w hSw; have F := Ok.sees hSw; clear hSw; simp only [sees, kBlk, kCells, cellsFrom, Nat.add_zero, cellsAt, Nat.reduceAdd] at F; go_simp; try with_reducible rfl)
          try simp only [Act.put, List.setIfInBounds_toArray, List.set_cons_zero, List.set_cons_succ, List.getElem_toArray, List.getElem_cons_succ, List.getElem_cons_zero]
          refine wpAnyH_take (i := 3) (v := ?vx4_3) rfl (by kernel_rfl) (by kernel_rfl) (by kernel_rfl) (fun _ _ _ h => h) (Or.inl ⟨by rfl, ?hyx4_3⟩) (by assumption) ?restx4_3
          case hyx4_3 => (intro w hSw; have F := Ok.sees hSw; clear hSw; simp only [sees, kBlk, kCells, cellsFrom, Nat.add_zero, cellsAt, Nat.reduceAdd] at F; go_simp; try with_reducible rfl)
          try simp only [Act.put, List.setIfInBounds_toArray, List.set_cons_zero, List.set_cons_succ, List.getElem_toArray, List.getElem_cons_succ, List.getElem_cons_zero]
          refine wpAnyH_take (i := 4) (v := ?vx5_4) rfl (by kernel_rfl) (by kernel_rfl) (by kernel_rfl) (fun _ _ _ h => h) (Or.inl ⟨by rfl, ?hyx5_4⟩) (by assumption) ?restx5_4
          case hyx5_4 => (intro w hSw; have F := Ok.sees hSw; clear hSw; simp only [sees, kBlk, kCells, cellsFrom, Nat.add_zero, cellsAt, Nat.reduceAdd] at F; go_simp; try with_reducible rfl)
          try simp only [Act.put, List.setIfInBounds_toArray, List.set_cons_zero, List.set_cons_succ, List.getElem_toArray, List.getElem_cons_succ, List.getElem_cons_zero]
          refine wpAnyH_take (i := 5) (v := ?vx6_5) rfl (by kernel_rfl) (by kernel_rfl) (by kernel_rfl) (fun _ _ _ h => h) (Or.inl ⟨by rfl, ?hyx6_5⟩) (by assumption) ?restx6_5
          case hyx6_5 => (intro w hSw; have F := Ok.sees hSw; clear hSw; simp only [sees, kBlk, kCells, cellsFrom, Nat.add_zero, cellsAt, Nat.reduceAdd] at F; go_simp; try with_reducible rfl)
          try simp only [Act.put, List.setIfInBounds_toArray, List.set_cons_zero, List.set_cons_succ, List.getElem_toArray, List.getElem_cons_succ, List.getElem_cons_zero]
          refine wpAnyH_take (i := 6) (v := ?vx7_6) rfl (by kernel_rfl) (by kernel_rfl) (by kernel_rfl) (fun _ _ _ h => h) (Or.inl ⟨by rfl, ?hyx7_6⟩) (by assumption) ?restx7_6
          case hyx7_6 => (intro w hSw; have F := Ok.sees hSw; clear hSw; simp only [sees, kBlk, kCells, cellsFrom, Nat.add_zero, cellsAt, Nat.reduceAdd] at F; go_simp; try with_reducible rfl)
          try simp only [Act.put, List.setIfInBounds_toArray, List.set_cons_zero, List.set_cons_succ, List.getElem_toArray, List.getElem_cons_succ, List.getElem_cons_zero]
          refine wpAnyH_take (i := 7) (v := ?vx8_7) rfl (by kernel_rfl) (by kernel_rfl) (by kernel_rfl) (fun _ _ _ h => h) (Or.inl ⟨by rfl, ?hyx8_7⟩) (by assumption) ?restx8_7
          case hyx8_7 => (intro w hSw; have F := Ok.sees hSw; clear hSw; simp only [sees, kBlk, kCells, cellsFrom, Nat.add_zero, cellsAt, Nat.reduceAdd] at F; go_simp; try with_reducible rfl)
          try simp only [Act.put, List.setIfInBounds_toArray, List.set_cons_zero, List.set_cons_succ, List.getElem_toArray, List.getElem_cons_succ, List.getElem_cons_zero]
          refine wpAnyH_take (i := 8) (v := ?vx9_8) rfl (by kernel_rfl) (by kernel_rfl) (by kernel_rfl) (fun _ _ _ h => h) (Or.inl ⟨by rfl, ?hyx9_8⟩) (by assumption) ?restx9_8
          case hyx9_8 => (intro w hSw; have F := Ok.sees hSw; clear hSw; simp only [sees, kBlk, kCells, cellsFrom, Nat.add_zero, cellsAt, Nat.reduceAdd] at F; go_simp; try with_reducible rfl)
          try simp only [Act.put, List.setIfInBounds_toArray, List.set_cons_zero, List.set_cons_succ, List.getElem_toArray, List.getElem_cons_succ, List.getElem_cons_zero]
          refine wpAnyH_take (i := 9) (v := ?vx10_9) rfl (by kernel_rfl) (by kernel_rfl) (by kernel_rfl) (fun _ _ _ h => h) (Or.inl ⟨by rfl, ?hyx10_9⟩) (by assumption) ?restx10_9
          case hyx10_9 => (intro w hSw; have F := Ok.sees hSw; clear hSw; simp only [sees, kBlk, kCells, cellsFrom, Nat.add_zero, cellsAt, Nat.reduceAdd] at F; go_simp; try with_reducible rfl)
          try simp only [Act.put, List.setIfInBounds_toArray, List.set_cons_zero, List.set_cons_succ, List.getElem_toArray, List.getElem_cons_succ, List.getElem_cons_zero]
          refine wpAnyH_take (i := 10) (v := ?vx11_10) rfl (by kernel_rfl) (by kernel_rfl) (by kernel_rfl) (fun _ _ _ h => h) (Or.inl ⟨by rfl, ?hyx11_10⟩) (by assumption) ?restx11_10
          case hyx11_10 => (intro w hSw; have F := Ok.sees hSw; clear hSw; simp only [sees, kBlk, kCells, cellsFrom, Nat.add_zero, cellsAt, Nat.reduceAdd] at F; go_simp; try with_reducible rfl)
          try simp only [Act.put, List.setIfInBounds_toArray, List.set_cons_zero, List.set_cons_succ, List.getElem_toArray, List.getElem_cons_succ, List.getElem_cons_zero]
          refine wpAnyH_take (i := 11) (v := ?vx12_11) rfl (by kernel_rfl) (by kernel_rfl) (by kernel_rfl) (fun _ _ _ h => h) (Or.inl ⟨by rfl, ?hyx12_11⟩) (by assumption) ?restx12_11
          case hyx12_11 => (intro w hSw; have F := Ok.sees hSw; clear hSw; simp only [sees, kBlk, kCells, cellsFrom, Nat.add_zero, cellsAt, Nat.reduceAdd] at F; go_simp; try with_reducible rfl)
          try simp only [Act.put, List.setIfInBounds_toArray, List.set_cons_zero, List.set_cons_succ, List.getElem_toArray, List.getElem_cons_succ, List.getElem_cons_zero]
          refine wpAnyH_take (i := 12) (v := ?vx13_12) rfl (by kernel_rfl) (by kernel_rfl) (by kernel_rfl) (fun _ _ _ h => h) (Or.inl ⟨by rfl, ?hyx13_12⟩) (by assumption) ?restx13_12
          case hyx13_12 => (intro w hSw; have F := Ok.sees hSw; clear hSw; simp only [sees, kBlk, kCells, cellsFrom, Nat.add_zero, cellsAt, Nat.reduceAdd] at F; go_simp; try with_reducible rfl)
          try simp only [Act.put, List.setIfInBounds_toArray, List.set_cons_zero, List.set_cons_succ, List.getElem_toArray, List.getElem_cons_succ, List.getElem_cons_zero]
          refine wpAnyH_take (i := 13) (v := ?vx14_13) rfl (by kernel_rfl) (by kernel_rfl) (by kernel_rfl) (fun _ _ _ h => h) (Or.inl ⟨by rfl, ?hyx14_13⟩) (by assumption) ?restx14_13
          case hyx14_13 => (intro w hSw; have F := Ok.sees hSw; clear hSw; simp only [sees, kBlk, kCells, cellsFrom, Nat.add_zero, cellsAt, Nat.reduceAdd] at F; go_simp; try with_reducible rfl)
          try simp only [Act.put, List.setIfInBounds_toArray, List.set_cons_zero, List.set_cons_succ, List.getElem_toArray, List.getElem_cons_succ, List.getElem_cons_zero]
          refine wpAnyH_take (i := 14) (v := ?vx15_14) rfl (by kernel_rfl) (by kernel_rfl) (by kernel_rfl) (fun _ _ _ h => h) (Or.inl ⟨by rfl, ?hyx15_14⟩) (by assumption) ?restx15_14
          case hyx15_14 => (intro w hSw; have F := Ok.sees hSw; clear hSw; simp only [sees, kBlk, kCells, cellsFrom, Nat.add_zero, cellsAt, Nat.reduceAdd] at F; go_simp; try with_reducible rfl)
          try simp only [Act.put, List.setIfInBounds_toArray, List.set_cons_zero, List.set_cons_succ, List.getElem_toArray, List.getElem_cons_succ, List.getElem_cons_zero]
          refine wpAnyH_take (i := 15) (v := ?vx16_15) rfl (by kernel_rfl) (by kernel_rfl) (by kernel_rfl) (fun _ _ _ h => h) (Or.inl ⟨by rfl, ?hyx16_15⟩) (by assumption) ?restx16_15
          case hyx16_15 => (intro w hSw; have F := Ok.sees hSw; clear hSw; simp only [sees, kBlk, kCells, cellsFrom, Nat.add_zero, cellsAt, Nat.reduceAdd] at F; go_simp; try with_reducible rfl)
          try simp only [Act.put, List.setIfInBounds_toArray, List.set_cons_zero, List.set_cons_succ, List.getElem_toArray, List.getElem_cons_succ, List.getElem_cons_zero]
          refine wpAnyH_take (i := 16) (v := ?vx17_16) rfl (by kernel_rfl) (by kernel_rfl) (by kernel_rfl) (fun _ _ _ h => h) (Or.inl ⟨by rfl, ?hyx17_16⟩) (by assumption) ?restx17_16
          case hyx17_16 => (intro w hSw; have F := Ok.sees hSw; clear hSw; simp only [sees, kBlk, kCells, cellsFrom, Nat.add_zero, cellsAt, Nat.reduceAdd] at F; go_simp; try with_reducible rfl)
          try simp only [Act.put, List.setIfInBounds_toArray, List.set_cons_zero, List.set_cons_succ, List.getElem_toArray, List.getElem_cons_succ, List.getElem_cons_zero]
          refine wpAnyH_take (i := 17) (v := ?vx18_17) rfl (by kernel_rfl) (by kernel_rfl) (by kernel_rfl) (fun _ _ _ h => h) (Or.inl ⟨by rfl, ?hyx18_17⟩) (by assumption) ?restx18_17
          case hyx18_17 => (intro w hSw; have F := Ok.sees hSw; clear hSw; simp only [sees, kBlk, kCells, cellsFrom, Nat.add_zero, cellsAt, Nat.reduceAdd] at F; go_simp; try with_reducible rfl)
          try simp only [Act.put, List.setIfInBounds_toArray, List.set_cons_zero, List.set_cons_succ, List.getElem_toArray, List.getElem_cons_succ, List.getElem_cons_zero]
          refine wpAnyH_take (i := 18) (v := ?vx19_18) rfl (by kernel_rfl) (by kernel_rfl) (by kernel_rfl) (fun _ _ _ h => h) (Or.inl ⟨by rfl, ?hyx19_18⟩) (by assumption) ?restx19_18
          case hyx19_18 => (intro w hSw; have F := Ok.sees hSw; clear hSw; simp only [sees, kBlk, kCells, cellsFrom, Nat.add_zero, cellsAt, Nat.reduceAdd] at F; go_simp; try with_reducible rfl)
          try simp only [Act.put, List.setIfInBounds_toArray, List.set_cons_zero, List.set_cons_succ, List.getElem_toArray, List.getElem_cons_succ, List.getElem_cons_zero]
          refine wpAnyH_take (i := 19) (v := ?vx20_19) rfl (by kernel_rfl) (by kernel_rfl) (by kernel_rfl) (fun _ _ _ h => h) (Or.inl ⟨by rfl, ?hyx20_19⟩) (by assumption) ?restx20_19
          case hyx20_19 => (intro w hSw; have F := Ok.sees hSw; clear hSw; simp only [sees, kBlk, kCells, cellsFrom, Nat.add_zero, cellsAt, Nat.reduceAdd] at F; go_simp; try with_reducible rfl)
          try simp only [Act.put, List.setIfInBounds_toArray, List.set_cons_zero, List.set_cons_succ, List.getElem_toArray, List.getElem_cons_succ, List.getElem_cons_zero]
          refine wpAnyH_take (i := 20) (v := ?vx21_20) rfl (by kernel_rfl) (by kernel_rfl) (by kernel_rfl) (fun _ _ _ h => h) (Or.inl ⟨by rfl, ?hyx21_20⟩) (by assumption) ?restx21_20
          case hyx21_20 => (intro w hSw; have F := Ok.sees hSw; clear hSw; simp only [sees, kBlk, kCells, cellsFrom, Nat.add_zero, cellsAt, Nat.reduceAdd] at F; go_simp; try with_reducible rfl)
          try simp only [Act.put, List.setIfInBounds_toArray, List.set_cons_zero, List.set_cons_succ, List.getElem_toArray, List.getElem_cons_succ, List.getElem_cons_zero]
          refine wpAnyH_take (i := 21) (v := ?vx22_21) rfl (by kernel_rfl) (by kernel_rfl) (by kernel_rfl) (fun _ _ _ h => h) (Or.inl ⟨by rfl, ?hyx22_21⟩) (by assumption) ?restx22_21
          case hyx22_21 => (intro w hSw; have F := Ok.sees hSw; clear hSw; simp only [sees, kBlk, kCells, cellsFrom, Nat.add_zero, cellsAt, Nat.reduceAdd] at F; go_simp; try with_reducible rfl)
          try simp only [Act.put, List.setIfInBounds_toArray, List.set_cons_zero, List.set_cons_succ, List.getElem_toArray, List.getElem_cons_succ, List.getElem_cons_zero]
          refine wpAnyH_take (i := 22) (v := ?vx23_22) rfl (by kernel_rfl) (by kernel_rfl) (by kernel_rfl) (fun _ _ _ h => h) (Or.inl ⟨by rfl, ?hyx23_22⟩) (by assumption) ?restx23_22
          case hyx23_22 => (intro w hSw; have F := Ok.sees hSw; clear hSw; simp only [sees, kBlk, kCells, cellsFrom, Nat.add_zero, cellsAt, Nat.reduceAdd] at F; go_simp; try with_reducible rfl)
          try simp only [Act.put, List.setIfInBounds_toArray, List.set_cons_zero, List.set_cons_succ, List.getElem_toArray, List.getElem_cons_succ, List.getElem_cons_zero]
          refine wpAnyH_ready (rs := [23]) (by kernel_rfl) (by simp) ?_
          refine AllReadyH.cons rfl (fun K hK => ?_) AllReadyH.nil
          go_simp
          have HF18 := Lib.hid (show ∀ x ∈ [kCells g (j * 2) [.int .i64 px, .int .i64 py], kRow B0 23 2 (.slice (some ⟨g, 0, none⟩) m cp) m (refCells (r3 - r1 + 1) r1 r2 m), kBlk (w.heap.size) 38 [.int .i64 r1, .int .i64 r2, .int .i64 r3, .int .i64 r4], kRects w.heap.size a k f], x.far (some W16.heap.size) from fun x hx => x.new _ _ (Nat.le_refl _) (H15.out.all x hx))
          have HZ19 := Lib.hid H15.out.bel.size
          have H17 := Lib.hid (H15.out.var W16.heap.size 23 [.int .i64 0, .int .i64 0] rfl)
          clear H15
          refine hK.out _ _ (H17.out.tail) (fun hHeld => ?_)
          clear hK K
          try simp only [Act.put, List.setIfInBounds_toArray, List.set_cons_zero, List.set_cons_succ, List.getElem_toArray, List.getElem_cons_succ, List.getElem_cons_zero]
          generalize (W16.alloc (.cells #[.int .i64 0, .int .i64 0] 23)) = W20 at H17 hHeld ⊢
          refine wpAnyH_ready (rs := [24]) (by kernel_rfl) (by simp) ?_
          refine AllReadyH.cons rfl (fun K hK => ?_) AllReadyH.nil
          have F21 := H17.out.sees
          simp only [sees, kBlk, kVar, kCells, cellsFrom, Nat.add_zero, cellsAt, Nat.reduceAdd] at F21
          go_split_ands
          go_simp
          have H22 := Lib.hid ((H17.out.set_ (i := 0) (u := .int .i64 px) HZ19.out HF18.out).set_ (i := 1) (u := .int .i64 py) HZ19.out HF18.out)
          clear H17
          refine hK.out _ _ (H22.out.tail) (fun hHeld => ?_)
          clear hK K
          try simp only [Act.put, List.setIfInBounds_toArray, List.set_cons_zero, List.set_cons_succ, List.getElem_toArray, List.getElem_cons_succ, List.getElem_cons_zero]
          refine wpAnyH_done (by kernel_rfl) ?_ _
          clear hHeld htm htd hz hw1 hw2 hw3 hw4 hw5 hw6
          have F23 := H22.out.sees
          simp only [sees, kBlk, kVar, kCells, cellsFrom, Nat.add_zero, cellsAt, Nat.reduceAdd] at F23
          obtain ⟨⟨⟨z0, fz0⟩, c0_0, c0_1, -⟩, ⟨z1, c1_0, c1_1, -⟩, -, ⟨z3, c3_0, c3_1, c3_2, c3_3, -⟩, -, -⟩ := F23
          have hjm : (j : Int) < m := by omega
          go_wp2_with fail
          refine wp_region_held_drew (S := fun W => Ok w [kVar (W16.heap.size) 23 [.int .i64 px, .int .i64 py], kCells g (j * 2) [.int .i64 px, .int .i64 py], kRow B0 23 2 (.slice (some ⟨g, 0, none⟩) m cp) m (refCells (r3 - r1 + 1) r1 r2 m), kBlk (w.heap.size) 38 [.int .i64 r1, .int .i64 r2, .int .i64 r3, .int .i64 r4], kRects w.heap.size a k f] W) (by kernel_rfl) H22.out.drew (fun hHeld => ?_)
          refine wpAnyH_take (i := 0) (v := ?vx24_0) rfl (by kernel_rfl) (by kernel_rfl) (by kernel_rfl) (fun _ _ _ h => h) (Or.inl ⟨by rfl, ?hyx24_0⟩) (by assumption) ?restx24_0
          case hyx24_0 => (intro w hSw; have F := Ok.sees hSw; clear hSw; simp only [sees, kBlk, kVar, kCells, cellsFrom, Nat.add_zero, cellsAt, Nat.reduceAdd] at F; go_simp; try with_reducible rfl)
          try simp only [Act.put, List.setIfInBounds_toArray, List.set_cons_zero, List.set_cons_succ, List.getElem_toArray, List.getElem_cons_zero]
          refine wpAnyH_take (i := 1) (v := ?vx25_1) rfl (by kernel_rfl) (by kernel_rfl) (by kernel_rfl) (fun _ _ _ h => h) (Or.inl ⟨by rfl, ?hyx25_1⟩) (by assumption) ?restx25_1
          case hyx25_1 => (intro w hSw; have F := Ok.sees hSw; clear hSw; simp only [sees, kBlk, kVar, kCells, cellsFrom, Nat.add_zero, cellsAt, Nat.reduceAdd] at F; go_simp; try with_reducible rfl)
          try simp only [Act.put, List.setIfInBounds_toArray, List.set_cons_zero, List.set_cons_succ, List.getElem_toArray, List.getElem_cons_succ, List.getElem_cons_zero]
          refine wpAnyH_take (i := 2) (v := ?vx26_2) rfl (by kernel_rfl) (by kernel_rfl) (by kernel_rfl) (fun _ _ _ h => h) (Or.inl ⟨by rfl, ?hyx26_2⟩) (by assumption) ?restx26_2
          case hyx26_2 => (intro w hSw; have F := Ok.sees hSw; clear hSw; simp only [sees, kBlk, kVar, kCells, cellsFrom, Nat.add_zero, cellsAt, Nat.reduceAdd] at F; go_simp; try with_reducible rfl)
          try simp only [Act.put, List.setIfInBounds_toArray, List.set_cons_zero, List.set_cons_succ, List.getElem_toArray, List.getElem_cons_succ, List.getElem_cons_zero]
          refine wpAnyH_take (i := 3) (v := ?vx27_3) rfl (by kernel_rfl) (by kernel_rfl) (by kernel_rfl) (fun _ _ _ h => h) (Or.inl ⟨by rfl, ?hyx27_3⟩) (by assumption) ?restx27_3
          case hyx27_3 => (intro w hSw; have F := Ok.sees hSw; clear hSw; simp only [sees, kBlk, kVar, kCells, cellsFrom, Nat.add_zero, cellsAt, Nat.reduceAdd] at F; go_simp; try with_reducible rfl)
          try simp only [Act.put, List.setIfInBounds_toArray, List.set_cons_zero, List.set_cons_succ, List.getElem_toArray, List.getElem_cons_succ, List.getElem_cons_zero]
          refine wpAnyH_take (i := 4) (v := ?vx28_4) rfl (by kernel_rfl) (by kernel_rfl) (by kernel_rfl) (fun _ _ _ h => h) (Or.inl ⟨by rfl, ?hyx28_4⟩) (by assumption) ?restx28_4
          case hyx28_4 => (intro w hSw; have F := Ok.sees hSw; clear hSw; simp only [sees, kBlk, kVar, kCells, cellsFrom, Nat.add_zero, cellsAt, Nat.reduceAdd] at F; go_simp; try with_reducible rfl)
          try simp only [Act.put, List.setIfInBounds_toArray, List.set_cons_zero, List.set_cons_succ, List.getElem_toArray, List.getElem_cons_succ, List.getElem_cons_zero]
          refine wpAnyH_take (i := 5) (v := ?vx29_5) rfl (by kernel_rfl) (by kernel_rfl) (by kernel_rfl) (fun _ _ _ h => h) (Or.inl ⟨by rfl, ?hyx29_5⟩) (by assumption) ?restx29_5
          case hyx29_5 => (intro w hSw; have F := Ok.sees hSw; clear hSw; simp only [sees, kBlk, kVar, kCells, cellsFrom, Nat.add_zero, cellsAt, Nat.reduceAdd] at F; go_simp; try with_reducible rfl)
          try simp only [Act.put, List.setIfInBounds_toArray, List.set_cons_zero, List.set_cons_succ, List.getElem_toArray, List.getElem_cons_succ, List.getElem_cons_zero]
          refine wpAnyH_done (by kernel_rfl) ?_ _
          clear z0 fz0 c0_0 c0_1 z1 c1_0 c1_1 z3 c3_0 c3_1 c3_2 c3_3
          clear H22
          have H25 := Lib.hid hHeld
          clear hHeld
          cases hat : allT ⟨r1, r2, r3, r4⟩ f k j
          · have HAT := keep hat
            clear hat
            have F26 := H25.out.sees
            simp only [sees, kBlk, kVar, kCells, cellsFrom, Nat.add_zero, cellsAt, Nat.reduceAdd] at F26
            obtain ⟨⟨⟨z0, fz0⟩, c0_0, c0_1, -⟩, ⟨z1, c1_0, c1_1, -⟩, -, ⟨z3, c3_0, c3_1, c3_2, c3_3, -⟩, -, -⟩ := F26
            go_wp2_with fail
            go_roundw
            case rel => exact ⟨j + 1, by omega, by go_num, by rw [HT.out, HAT.out]; rfl, Lib.hid (H25.out.drop [kRow B0 23 2 (.slice (some ⟨g, 0, none⟩) m cp) m (refCells (r3 - r1 + 1) r1 r2 m), kBlk (w.heap.size) 38 [.int .i64 r1, .int .i64 r2, .int .i64 r3, .int .i64 r4], kRects w.heap.size a k f] (by simp))⟩
            case measure => simp [intOf]; omega
          · have HAT := keep hat
            clear hat
            have F26 := H25.out.sees
            simp only [sees, kBlk, kVar, kCells, cellsFrom, Nat.add_zero, cellsAt, Nat.reduceAdd] at F26
            obtain ⟨⟨⟨z0, fz0⟩, c0_0, c0_1, -⟩, ⟨z1, c1_0, c1_1, -⟩, -, ⟨z3, c3_0, c3_1, c3_2, c3_3, -⟩, -, -⟩ := F26
            go_wp2_with fail
            clear z0 fz0 c0_0 c0_1 z1 c1_0 c1_1 z3 c3_0 c3_1 c3_2 c3_3
            refine (law_in px py a k c f _ (by omega) (((H25.out.get (kRects w.heap.size a k f) (by simp)).1).below (Below.refl _ _) H25.out.bel.size)).mono ?_
            rintro e w27 ⟨rfl, hb28⟩
            have H29 := Lib.hid (H25.out.below hb28)
            clear hb28 H25
            go_wp2_with fail
            go_roundw
            case rel => exact ⟨j + 1, by omega, by go_num, by rw [HT.out, HAT.out]; rfl, Lib.hid (H29.out.drop [kRow B0 23 2 (.slice (some ⟨g, 0, none⟩) m cp) m (refCells (r3 - r1 + 1) r1 r2 m), kBlk (w.heap.size) 38 [.int .i64 r1, .int .i64 r2, .int .i64 r3, .int .i64 r4], kRects w.heap.size a k f] (by simp))⟩
            case measure => simp [intOf]; omega
        · obtain rfl : j = m := by omega
          have HTC := keep (allT_covers ⟨r1, r2, r3, r4⟩ f k j HCK.out HAL.out HM.out)
          rw [HTC.out]
          clear hjl hj
          have H14 := Lib.hid (H.out.drop [kBlk (w.heap.size) 38 [.int .i64 r1, .int .i64 r2, .int .i64 r3, .int .i64 r4], kRects w.heap.size a k f] (by simp))
          clear H
          generalize hcv : coversP ⟨r1, r2, r3, r4⟩ (listR f k) = cv
          have HCV := keep hcv
          clear hcv
          go_wp2_with fail
          have hst := OkRow.start H14.out 38 4
          obtain ⟨i0, hi, hz0, hz1, hzb⟩ := info_parts info_rect
          go_loopw [13, 14] (fun tv iv wr => ∃ j : Nat, j ≤ k ∧ iv = .int .i64 ((k : Int) - 1 - j) ∧ Hid (OkRow w [kBlk (w.heap.size) 38 [.int .i64 r1, .int .i64 r2, .int .i64 r3, .int .i64 r4], kRects w.heap.size a k f] 38 4 tv (2 * j) (rcells (listR (turnF f k) (2 * j))) wr)) (fun _ iv _ => (intOf iv + 1).toNat)
          case atStart => exact ⟨0, Nat.zero_le _, by simp, by rw [show listR (turnF f k) (2 * 0) = [] from by unfold listR; rfl]; exact hst⟩
          case round =>
            obtain ⟨j, hj, rfl, H⟩ := hrel
            by_cases hjl : j < k
            · obtain ⟨i, hik⟩ : ∃ i : Nat, k = i + 1 + j := ⟨k - 1 - j, by omega⟩
              have hidx : (k : Int) - 1 - j = (i : Int) := by omega
              rw [hidx]
              have HTW := keep (turn_two f k j)
              rw [show k - 1 - j = i from by omega] at HTW
              obtain ⟨b, o, rfl, hc⟩ := rects_cells (H.out.ok.get (kRects w.heap.size a k f) (by simp)) i (by omega)
              obtain ⟨b2, o2, hbo, hc2⟩ := rects_cells (H.out.ok.get (kRects w.heap.size (some ⟨b, o, none⟩) k f) (by simp)) 0 (by omega)
              obtain ⟨rfl, rfl⟩ : b = b2 ∧ o = o2 := by simpa using hbo
              rw [Nat.zero_mul, Nat.add_zero] at hc2
              obtain ⟨p, hp⟩ : ∃ p, f i = p := ⟨_, rfl⟩
              obtain ⟨q, hq⟩ : ∃ q, f 0 = q := ⟨_, rfl⟩
              rw [hp] at hc HTW
              rw [hq] at hc2 HTW
              obtain ⟨p1, p2, p3, p4⟩ := p
              obtain ⟨q1, q2, q3, q4⟩ := q
              clear hp hq hbo
              have hrl : (rcells (listR (turnF f k) (2 * (j + 1)))) = rcells (listR (turnF f k) (2 * j)) ++ [.int .i64 p1, .int .i64 p2, .int .i64 p3, .int .i64 p4, .int .i64 q1, .int .i64 q2, .int .i64 q3, .int .i64 q4] := by rw [HTW.out, rcells_app]; rfl
              have HRL := keep hrl
              clear hrl
              have hbw : b < w.heap.size := by
                obtain ⟨b9, o9, h9, hB9, -⟩ := (H.out.ok.get (kRects w.heap.size (some ⟨b, o, none⟩) k f) (by simp)).1.spot (by omega)
                obtain ⟨rfl, rfl⟩ : b = b9 ∧ o = o9 := by simpa using h9
                exact hB9
              have H5 := Lib.hid ((H.out.add _ hc2 (fun e => by have := (H.out.own.lt b e.symm).1; omega)).add _ hc (fun e => by have := (H.out.own.lt b e.symm).1; omega))
              have HX := Lib.hid H5.out.ok
              clear hc hc2 H
              have hik0 : 0 < k := by omega
              have hikk : (i : Int) < (k : Int) := by omega
              have hi0 : (0 : Int) ≤ (i : Int) := by omega
              have hi12 : (i : Int) ≤ 12 := by omega
              have hj12 : j ≤ 12 := by omega
              have HIK := keep hik
              clear hik hidx hjl hj
              have F15 := HX.out.sees
              simp only [sees, kBlk, kCells, cellsFrom, Nat.add_zero, cellsAt, Nat.reduceAdd] at F15
              obtain ⟨⟨z0, c0_0, c0_1, c0_2, c0_3, -⟩, ⟨z1, c1_0, c1_1, c1_2, c1_3, -⟩, ⟨z2, c2_0, c2_1, c2_2, c2_3, -⟩, -, -⟩ := F15
              go_wp2_with fail
              clear z0 c0_0 c0_1 c0_2 c0_3 z1 c1_0 c1_1 c1_2 c1_3 z2 c2_0 c2_1 c2_2 c2_3
              refine wp_region_held_drew (S := fun W => Ok w [kCells b (o + i * 4) [.int .i64 p1, .int .i64 p2, .int .i64 p3, .int .i64 p4], kCells b o [.int .i64 q1, .int .i64 q2, .int .i64 q3, .int .i64 q4], kBlk (w.heap.size) 38 [.int .i64 r1, .int .i64 r2, .int .i64 r3, .int .i64 r4], kRects w.heap.size (some ⟨b, o, none⟩) k f] W) (by kernel_rfl) HX.out.drew (fun hHeld => ?_)
              refine wpAnyH_take (i := 0) (v := ?vx30_0) rfl (by kernel_rfl) (by kernel_rfl) (by kernel_rfl) (fun _ _ _ h => h) (Or.inl ⟨by rfl, ?hyx30_0⟩) (by assumption) ?restx30_0
              case hyx30_0 => (intro w hSw; have F := Ok.sees hSw; clear hSw; simp only [sees, kBlk, kCells, cellsFrom, Nat.add_zero, cellsAt, Nat.reduceAdd] at F; go_simp; try with_reducible rfl)
              try simp only [Act.put, List.setIfInBounds_toArray, List.set_cons_zero, List.set_cons_succ, List.getElem_toArray, List.getElem_cons_zero]
              refine wpAnyH_take (i := 1) (v := ?vx31_1) rfl (by kernel_rfl) (by kernel_rfl) (by kernel_rfl) (fun _ _ _ h => h) (Or.inl ⟨by rfl, ?hyx31_1⟩) (by assumption) ?restx31_1
              case hyx31_1 => (intro w hSw; have F := Ok.sees hSw; clear hSw; simp only [sees, kBlk, kCells, cellsFrom, Nat.add_zero, cellsAt, Nat.reduceAdd] at F; go_simp; try with_reducible rfl)
              try simp only [Act.put, List.setIfInBounds_toArray, List.set_cons_zero, List.set_cons_succ, List.getElem_toArray, List.getElem_cons_succ, List.getElem_cons_zero]
              refine wpAnyH_take (i := 2) (v := ?vx32_2) rfl (by kernel_rfl) (by kernel_rfl) (by kernel_rfl) (fun _ _ _ h => h) (Or.inl ⟨by rfl, ?hyx32_2⟩) (by assumption) ?restx32_2
              case hyx32_2 => (intro w hSw; have F := Ok.sees hSw; clear hSw; simp only [sees, kBlk, kCells, cellsFrom, Nat.add_zero, cellsAt, Nat.reduceAdd] at F; go_simp; try with_reducible rfl)
              try simp only [Act.put, List.setIfInBounds_toArray, List.set_cons_zero, List.set_cons_succ, List.getElem_toArray, List.getElem_cons_succ, List.getElem_cons_zero]
              refine wpAnyH_take (i := 3) (v := ?vx33_3) rfl (by kernel_rfl) (by kernel_rfl) (by kernel_rfl) (fun _ _ _ h => h) (Or.inl ⟨by rfl, ?hyx33_3⟩) (by assumption) ?restx33_3
              case hyx33_3 => (intro w hSw; have F := Ok.sees hSw; clear hSw; simp only [sees, kBlk, kCells, cellsFrom, Nat.add_zero, cellsAt, Nat.reduceAdd] at F; go_simp; try with_reducible rfl)
              try simp only [Act.put, List.setIfInBounds_toArray, List.set_cons_zero, List.set_cons_succ, List.getElem_toArray, List.getElem_cons_succ, List.getElem_cons_zero]
              refine wpAnyH_take (i := 4) (v := ?vx34_4) rfl (by kernel_rfl) (by kernel_rfl) (by kernel_rfl) (fun _ _ _ h => h) (Or.inl ⟨by rfl, ?hyx34_4⟩) (by assumption) ?restx34_4
              case hyx34_4 => (intro w hSw; have F := Ok.sees hSw; clear hSw; simp only [sees, kBlk, kCells, cellsFrom, Nat.add_zero, cellsAt, Nat.reduceAdd] at F; go_simp; try with_reducible rfl)
              try simp only [Act.put, List.setIfInBounds_toArray, List.set_cons_zero, List.set_cons_succ, List.getElem_toArray, List.getElem_cons_succ, List.getElem_cons_zero]
              refine wpAnyH_take (i := 5) (v := ?vx35_5) rfl (by kernel_rfl) (by kernel_rfl) (by kernel_rfl) (fun _ _ _ h => h) (Or.inl ⟨by rfl, ?hyx35_5⟩) (by assumption) ?restx35_5
              case hyx35_5 => (intro w hSw; have F := Ok.sees hSw; clear hSw; simp only [sees, kBlk, kCells, cellsFrom, Nat.add_zero, cellsAt, Nat.reduceAdd] at F; go_simp; try with_reducible rfl)
              try simp only [Act.put, List.setIfInBounds_toArray, List.set_cons_zero, List.set_cons_succ, List.getElem_toArray, List.getElem_cons_succ, List.getElem_cons_zero]
              refine wpAnyH_take (i := 6) (v := ?vx36_6) rfl (by kernel_rfl) (by kernel_rfl) (by kernel_rfl) (fun _ _ _ h => h) (Or.inl ⟨by rfl, ?hyx36_6⟩) (by assumption) ?restx36_6
              case hyx36_6 => (intro w hSw; have F := Ok.sees hSw; clear hSw; simp only [sees, kBlk, kCells, cellsFrom, Nat.add_zero, cellsAt, Nat.reduceAdd] at F; go_simp; try with_reducible rfl)
              try simp only [Act.put, List.setIfInBounds_toArray, List.set_cons_zero, List.set_cons_succ, List.getElem_toArray, List.getElem_cons_succ, List.getElem_cons_zero]
              refine wpAnyH_take (i := 7) (v := ?vx37_7) rfl (by kernel_rfl) (by kernel_rfl) (by kernel_rfl) (fun _ _ _ h => h) (Or.inl ⟨by rfl, ?hyx37_7⟩) (by assumption) ?restx37_7
              case hyx37_7 => (intro w hSw; have F := Ok.sees hSw; clear hSw; simp only [sees, kBlk, kCells, cellsFrom, Nat.add_zero, cellsAt, Nat.reduceAdd] at F; go_simp; try with_reducible rfl)
              try simp only [Act.put, List.setIfInBounds_toArray, List.set_cons_zero, List.set_cons_succ, List.getElem_toArray, List.getElem_cons_succ, List.getElem_cons_zero]
              refine wpAnyH_ready (rs := [8]) (by kernel_rfl) (by simp) ?_
              refine AllReadyH.cons rfl (fun K hK => ?_) AllReadyH.nil
              go_simp
              refine hK.out _ _ (hHeld.alloc_obj _) (fun hHeld => ?_)
              clear hK K
              try simp only [Act.put, List.setIfInBounds_toArray, List.set_cons_zero, List.set_cons_succ, List.getElem_toArray, List.getElem_cons_succ, List.getElem_cons_zero]
              refine wpAnyH_ready (rs := [9]) (by kernel_rfl) (by simp) ?_
              refine AllReadyH.cons rfl (fun K hK => ?_) AllReadyH.nil
              refine step_append_lies _ (by rfl) _ _ _ (by rfl) w.heap.size 38 i0 _ 4 32 Tryd.underlying57 hi hz0 hz1 hzb rfl (by omega) _ _ _ (by rfl) (H5.out.drew.alloc_obj _).own ⟨wr.heap.size, 0, none⟩ 2 2 [.int .i64 p1, .int .i64 p2, .int .i64 p3, .int .i64 p4, .int .i64 q1, .int .i64 q2, .int .i64 q3, .int .i64 q4] (by rfl) (by rfl) (World.news_of_block (cs := #[.int .i64 p1, .int .i64 p2, .int .i64 p3, .int .i64 p4, .int .i64 q1, .int .i64 q2, .int .i64 q3, .int .i64 q4]) (t := 38) (fr := (0, 0)) (heap_alloc_new wr _)) (by simp [Value.oneCell']) (by omega) (by unfold maxLen; omega) (by omega) (by have := H5.out.ok.bel.size; simp; omega) (wr.heap.size + 1) (by simp) ?_
              intro g' cap' w3 hown3 hgrow3 hat3 hlt3
              have HO3 := Lib.hid ((H5.out.drew.alloc_obj _).appended hown3 hgrow3 (by simpa using hat3))
              skip
              refine hK.out _ _ HO3.out.ok (fun hHeld => ?_)
              clear hK K
              try simp only [Act.put, List.setIfInBounds_toArray, List.set_cons_zero, List.set_cons_succ, List.getElem_toArray, List.getElem_cons_succ, List.getElem_cons_zero]
              refine wpAnyH_take (i := 10) (v := ?vx38_10) rfl (by kernel_rfl) (by kernel_rfl) (by kernel_rfl) (fun _ _ _ h => h) (Or.inl ⟨by rfl, ?hyx38_10⟩) (by assumption) ?restx38_10
              case hyx38_10 => (intro w hSw; have F := Ok.sees hSw; clear hSw; simp only [sees, kBlk, kCells, cellsFrom, Nat.add_zero, cellsAt, Nat.reduceAdd] at F; go_simp; try with_reducible rfl)
              try simp only [Act.put, List.setIfInBounds_toArray, List.set_cons_zero, List.set_cons_succ, List.getElem_toArray, List.getElem_cons_succ, List.getElem_cons_zero]
              refine wpAnyH_done (by kernel_rfl) ?_ _
              go_wp2_with fail
              go_roundw
              case rel => exact ⟨j + 1, by have h9 := HIK.out; omega, by have h9 := HIK.out; congr 1; omega, by rw [HRL.out]; exact Lib.hid HO3.out.tail.tail⟩
              case measure => simp [intOf]
            · obtain rfl : j = k := by omega
              rw [show (j : Int) - 1 - j = -1 from by omega]
              obtain ⟨a2, c2, rfl, hI, hln⟩ := own_rects (l := listR (turnF f j) (2 * j)) (by rw [listR_len]; exact H.out.own)
              rw [listR_len] at hI
              have hI2 := rects_congr hI fun i hi => listR_get (turnF f j) (2 * j) i hi
              have HK := Lib.hid (H.out.ok.add (kRects wr.heap.size a2 (2 * j) (turnF f j)) ⟨hI2, Nat.le_refl _⟩)
              rw [listR_len]
              clear hI hI2 hln H
              generalize wr.heap.size = B2 at HK
              have HC1 := keep (coversS_yes (f := f) (n := j) HCK.out HAL.out)
              have HC2 := keep (coversS_yes (f := turnF f j) (n := 2 * j) HCK.out (turn_all HAL.out))
              have HC3 := keep (turn_covers ⟨r1, r2, r3, r4⟩ f j HCK.out HAL.out)
              have F15 := HK.out.sees
              simp only [sees, kBlk, cellsAt, Nat.reduceAdd] at F15
              obtain ⟨-, ⟨z1, c1_0, c1_1, c1_2, c1_3, -⟩, -, -⟩ := F15
              go_wp2_with fail
              refine (rect_Covers r1 r2 r3 r4 a j c f _ (by omega) (((HK.out.get (kRects w.heap.size a j f) (by simp)).1).below (Below.refl _ _) HK.out.bel.size)).mono ?_
              rintro e w16 ⟨rfl, hb17⟩
              rw [HC1.out, HCV.out]
              clear z1 c1_0 c1_1 c1_2 c1_3
              have H18 := Lib.hid (HK.out.below hb17)
              clear hb17 HK
              have F19 := H18.out.sees
              simp only [sees, kBlk, cellsAt, Nat.reduceAdd] at F19
              obtain ⟨-, ⟨z1, c1_0, c1_1, c1_2, c1_3, -⟩, -, -⟩ := F19
              go_wp2_with fail
              refine (rect_Covers r1 r2 r3 r4 a2 (2 * j) c2 (turnF f j) _ (by omega) (((H18.out.get (kRects B2 a2 (2 * j) (turnF f j)) (by simp)).1).below (Below.refl _ _) (by have h9 := (H18.out.get (kRects B2 a2 (2 * j) (turnF f j)) (by simp)).2; exact h9))).mono ?_
              rintro e w20 ⟨rfl, hb21⟩
              rw [HC2.out, HC3.out, HCV.out]
              clear z1 c1_0 c1_1 c1_2 c1_3
              have H22 := Lib.hid (H18.out.below hb21)
              clear hb21 H18
              go_wp2_with fail
              refine (rect_known _ (HP.out.below H22.out.bel)).mono ?_
              rintro e w23 ⟨rfl, hb24⟩
              have H25 := Lib.hid (H22.out.below hb24)
              clear hb24 H22
              go_wp2_with fail
              go_ret
              exact ⟨rfl, H25.out.bel⟩
end Go.Proofs.YtkdabfepggehiaaDoor
