/- The walk of the law GroupSets. -/
import Derived.Test.YtjjdlhbbkkkjnaaDoorEqI
import Derived.Test.YtjjdlhbbkkkjnaaDoorGrpSets
namespace Go.Proofs.YtjjdlhbbkkkjnaaDoor
open Go.RowKit

theorem ofR_eg : ofR (fun i => [3, 0, 3].getD i 0) 3 = some 9 := by decide +kernel
theorem bitsL_len (s : Nat) : (bitsL s).length ≤ 64 := bitsN_len s 64
attribute [local irreducible] bitsL bitsN ofR ofE allR allE meetF hasB

set_option maxRecDepth 100000 in
set_option maxHeartbeats 8000000 in
theorem GroupSets_walk (A0 : Option Addr) (n0 c0 : Nat) (f0 : Nat → Int) (a1 : Int) (A2 : Option Addr) (n2 c2 : Nat) (f2 : Nat → Int) (w : World)
    (hn0 : n0 ≤ maxLen) (wr0 : IsInts .i64 w w.heap.size A0 n0 f0) (_ : ∀ i, (Lit.int .i64 (f0 i)).wf = true) (_ : (Lit.int .i64 a1).wf = true) (hn2 : n2 ≤ maxLen) (wr2 : IsInts .u64 w w.heap.size A2 n2 f2) (wz2 : ∀ i, (Lit.int .u64 (f2 i)).wf = true)
    (hL : laidMetH Tryd.prog Rows.groupSetsRow.laid w) (_ : w.ShapedOpen Tryd.prog) :
    Calls Tryd.prog 4 #[.slice A0 n0 c0, .int .i64 a1, .slice A2 n2 c2] w fun e w' => e = .returned (.bool true) ∧ Below w.heap.size w w' := by
  have hT := bru_of_laid hL (by kernel_rfl)
  have HT := Lib.hid hT
  have hTl := bru_lt hT
  clear hL hT
  obtain ⟨g, hg⟩ : ∃ g : Nat → Nat, ∀ i, f2 i = (g i : Nat) := ⟨fun i => (f2 i).toNat, fun i => by have := bounds_u64 (wz2 i); show f2 i = ((f2 i).toNat : Int); omega⟩
  have hgz : ∀ i, g i < 18446744073709551616 := fun i => by have := bounds_u64 (wz2 i); rw [hg i] at this; omega
  obtain rfl : f2 = fun i => (g i : Int) := funext hg
  clear hg wz2
  have wn2 : IsNums .u64 w w.heap.size A2 n2 g := wr2
  have HGZ := keep hgz
  have HR0 := Lib.hid wr0
  have HN2 := Lib.hid wn2
  have H0 := Lib.hid ((Ok.start w).add (kInts .u64 w.heap.size A2 n2 (fun i => (g i : Int))) ⟨wr2, Nat.le_refl _⟩)
  clear wr0 wr2 wn2 hgz
  unfold maxLen at hn0 hn2
  by_cases q0 : (n0 : Int) > 200
  · go_enter Tryd.func4, Tryd.ntmps4
    go_wp2_with fail
    go_ret
    exact ⟨rfl, Below.refl _ _⟩
  by_cases q2 : (n2 : Int) > 100
  · go_enter Tryd.func4, Tryd.ntmps4
    go_wp2_with fail
    go_ret
    exact ⟨rfl, Below.refl _ _⟩
  go_enter Tryd.func4, Tryd.ntmps4
  go_wp2_with fail
  refine (of_any _ _ _ f0 _ _ (by unfold maxLen; omega) HR0.out).mono ?_
  rintro e w9 ⟨rfl, rfl⟩
  generalize hp0 : (ofR f0 n0).getD 0 = p0
  generalize hp1 : ofE f0 n0 = p1
  have HP0 := keep hp0
  have HP1 := keep hp1
  clear hp0 hp1
  go_wp2_with fail
  refine (ref_of _ _ _ f0 _ _ (by unfold maxLen; omega) HR0.out).mono ?_
  rintro e w9 ⟨rfl, rfl⟩
  rw [HP0.out, HP1.out]
  go_wp2_with fail
  refine (all_any _ _).mono ?_
  rintro e w9 ⟨rfl, rfl⟩
  generalize hp2 : allR a1 = p2
  generalize hp3 : allE a1 = p3
  have HP2 := keep hp2
  have HP3 := keep hp3
  clear hp2 hp3
  go_wp2_with fail
  refine (ref_all _ _).mono ?_
  rintro e w9 ⟨rfl, rfl⟩
  rw [HP2.out, HP3.out]
  go_wp2_with fail
  refine (meet_any _ _ _ g _ _ (by unfold maxLen; omega) HN2.out HGZ.out).mono ?_
  rintro e w9 ⟨rfl, rfl⟩
  generalize hp4 : meetF g n2 = p4
  have HP4 := keep hp4
  clear hp4
  go_wp2_with fail
  refine (ref_meet _ _ _ g _ _ (by unfold maxLen; omega) HN2.out HGZ.out).mono ?_
  rintro e w9 ⟨rfl, rfl⟩
  rw [HP4.out]
  go_wp2_with fail
  go_loopw [15] (fun iv wr => ∃ k : Nat, k ≤ n2 ∧ iv = .int .i64 k ∧ Hid (Ok w [kInts .u64 w.heap.size A2 n2 (fun i => (g i : Int))] wr)) (fun iv _ => n2 - (intOf iv).toNat)
  case atStart => exact ⟨0, by omega, rfl, H0⟩
  case round =>
    obtain ⟨k, hk, rfl, H⟩ := hrel
    by_cases hlt : (k : Int) < (n2 : Int)
    · obtain ⟨b, o, rfl, hc⟩ := ints_cells (H.out.get _ (List.mem_cons_self ..)) k (by omega)
      have H1 := Lib.hid (H.out.add _ hc)
      clear hc H
      have hx := HGZ.out k
      try simp only [] at H1
      generalize g k = x at hx H1
      have HX := keep hx
      clear hx
      have F1 := H1.out.sees
      simp only [sees, kCells, cellsFrom, Nat.add_zero] at F1
      obtain ⟨⟨z0, c0_0, -⟩, -, -⟩ := F1
      go_wp2_with fail
      refine wp_region_held_drew (S := fun W => Ok w [kCells b (o + k) [.int .u64 x], kInts .u64 w.heap.size (some ⟨b, o, none⟩) n2 (fun i => (g i : Int))] W) (by kernel_rfl) H1.out.drew (fun hHeld => ?_)
      clear z0 c0_0
      have H2 := Lib.hid H1.out.drew
      clear H1
      generalize wr.drew = W3 at hHeld H2 ⊢
      refine wpAnyH_take (i := 0) (v := ?vx1_0) rfl (by kernel_rfl) (by kernel_rfl) (by kernel_rfl) (fun _ _ _ h => h) (Or.inl ⟨by rfl, ?hyx1_0⟩) (by assumption) ?restx1_0
      case hyx1_0 => (intro w hSw; have F := Ok.sees hSw; clear hSw; simp only [sees, kCells, cellsFrom, Nat.add_zero] at F; go_simp; try with_reducible rfl)
      try simp only [Act.put, List.setIfInBounds_toArray, List.set_cons_zero, List.set_cons_succ, List.getElem_toArray, List.getElem_cons_zero]
      refine wpAnyH_take (i := 1) (v := ?vx2_1) rfl (by kernel_rfl) (by kernel_rfl) (by kernel_rfl) (fun _ _ _ h => h) (Or.inl ⟨by rfl, ?hyx2_1⟩) (by assumption) ?restx2_1
      case hyx2_1 => (intro w hSw; have F := Ok.sees hSw; clear hSw; simp only [sees, kCells, cellsFrom, Nat.add_zero] at F; go_simp; try with_reducible rfl)
      try simp only [Act.put, List.setIfInBounds_toArray, List.set_cons_zero, List.set_cons_succ, List.getElem_toArray, List.getElem_cons_succ, List.getElem_cons_zero]
      refine wpAnyH_take (i := 2) (v := ?vx3_2) rfl (by kernel_rfl) (by kernel_rfl) (by kernel_rfl) (fun _ _ _ h => h) (Or.inl ⟨by rfl, ?hyx3_2⟩) (by assumption) ?restx3_2
      case hyx3_2 => (intro w hSw; have F := Ok.sees hSw; clear hSw; simp only [sees, kCells, cellsFrom, Nat.add_zero] at F; go_simp; try with_reducible rfl)
      try simp only [Act.put, List.setIfInBounds_toArray, List.set_cons_zero, List.set_cons_succ, List.getElem_toArray, List.getElem_cons_succ, List.getElem_cons_zero]
      refine wpAnyH_take (i := 3) (v := ?vx4_3) rfl (by kernel_rfl) (by kernel_rfl) (by kernel_rfl) (fun _ _ _ h => h) (Or.inl ⟨by rfl, ?hyx4_3⟩) (by assumption) ?restx4_3
      case hyx4_3 => (intro w hSw; have F := Ok.sees hSw; clear hSw; simp only [sees, kCells, cellsFrom, Nat.add_zero] at F; go_simp; try with_reducible rfl)
      try simp only [Act.put, List.setIfInBounds_toArray, List.set_cons_zero, List.set_cons_succ, List.getElem_toArray, List.getElem_cons_succ, List.getElem_cons_zero]
      refine wpAnyH_take (i := 5) (v := ?vx5_5) rfl (by kernel_rfl) (by kernel_rfl) (by kernel_rfl) (fun _ _ _ h => h) (Or.inl ⟨by rfl, ?hyx5_5⟩) (by assumption) ?restx5_5
      case hyx5_5 => (intro w hSw; have F := Ok.sees hSw; clear hSw; simp only [sees, kCells, cellsFrom, Nat.add_zero] at F; go_simp; try with_reducible rfl)
      try simp only [Act.put, List.setIfInBounds_toArray, List.set_cons_zero, List.set_cons_succ, List.getElem_toArray, List.getElem_cons_succ, List.getElem_cons_zero]
      refine wpAnyH_take (i := 6) (v := ?vx6_6) rfl (by kernel_rfl) (by kernel_rfl) (by kernel_rfl) (fun _ _ _ h => h) (Or.inl ⟨by rfl, ?hyx6_6⟩) (by assumption) ?restx6_6
      case hyx6_6 => (intro w hSw; have F := Ok.sees hSw; clear hSw; simp only [sees, kCells, cellsFrom, Nat.add_zero] at F; go_simp; try with_reducible rfl)
      try simp only [Act.put, List.setIfInBounds_toArray, List.set_cons_zero, List.set_cons_succ, List.getElem_toArray, List.getElem_cons_succ, List.getElem_cons_zero]
      refine wpAnyH_take (i := 7) (v := ?vx7_7) rfl (by kernel_rfl) (by kernel_rfl) (by kernel_rfl) (fun _ _ _ h => h) (Or.inl ⟨by rfl, ?hyx7_7⟩) (by assumption) ?restx7_7
      case hyx7_7 => (intro w hSw; have F := Ok.sees hSw; clear hSw; simp only [sees, kCells, cellsFrom, Nat.add_zero] at F; go_simp; try with_reducible rfl)
      try simp only [Act.put, List.setIfInBounds_toArray, List.set_cons_zero, List.set_cons_succ, List.getElem_toArray, List.getElem_cons_succ, List.getElem_cons_zero]
      refine wpAnyH_take (i := 8) (v := ?vx8_8) rfl (by kernel_rfl) (by kernel_rfl) (by kernel_rfl) (fun _ _ _ h => h) (Or.inl ⟨by rfl, ?hyx8_8⟩) (by assumption) ?restx8_8
      case hyx8_8 => (intro w hSw; have F := Ok.sees hSw; clear hSw; simp only [sees, kCells, cellsFrom, Nat.add_zero] at F; go_simp; try with_reducible rfl)
      try simp only [Act.put, List.setIfInBounds_toArray, List.set_cons_zero, List.set_cons_succ, List.getElem_toArray, List.getElem_cons_succ, List.getElem_cons_zero]
      refine wpAnyH_ready (rs := [4]) (by kernel_rfl) (by simp) ?_
      refine AllReadyH.cons rfl (fun K hK => ?_) AllReadyH.nil
      go_simp
      refine (group_Members x _ HX.out (HT.out.below H2.out.bel hTl)).mono ?_
      rintro e w4 ⟨v1, rfl, hown, hb⟩
      obtain ⟨ad1, cp1, rfl, hr, hln1⟩ := own_intsL hown
      go_wp2_with fail
      have H5 := Lib.hid ((H2.out.below hb).add (kInts .i64 w4.heap.size ad1 (bitsL x).length (fun i => (bitsL x).getD i 0)) ⟨hr, Nat.le_refl _⟩)
      clear hown hr hb hln1 H2
      refine hK.out _ _ (H5.out.tail) (fun hHeld => ?_)
      clear hK K
      try simp only [Act.put, List.setIfInBounds_toArray, List.set_cons_zero, List.set_cons_succ, List.getElem_toArray, List.getElem_cons_succ, List.getElem_cons_zero]
      refine wpAnyH_ready (rs := [9]) (by kernel_rfl) (by simp) ?_
      refine AllReadyH.cons rfl (fun K hK => ?_) AllReadyH.nil
      go_simp
      refine (ref_members x _ HX.out).mono ?_
      rintro e w6 ⟨v2, rfl, hown, hb⟩
      obtain ⟨ad2, cp2, rfl, hr, hln2⟩ := own_intsL hown
      go_wp2_with fail
      have H7 := Lib.hid ((H5.out.below hb).add (kInts .i64 w6.heap.size ad2 (bitsL x).length (fun i => (bitsL x).getD i 0)) ⟨hr, Nat.le_refl _⟩)
      clear hown hr hb hln2 H5
      refine hK.out _ _ (H7.out.tail.tail) (fun hHeld => ?_)
      clear hK K
      try simp only [Act.put, List.setIfInBounds_toArray, List.set_cons_zero, List.set_cons_succ, List.getElem_toArray, List.getElem_cons_succ, List.getElem_cons_zero]
      refine wpAnyH_ready (rs := [10]) (by kernel_rfl) (by simp) ?_
      refine AllReadyH.cons rfl (fun K hK => ?_) AllReadyH.nil
      go_simp
      refine (equal_ints _ _ (bitsL x).length _ _ (fun i => (bitsL x).getD i 0) _ (by have := bitsL_len x; omega) (ints_up (H7.out.get _ (List.mem_cons_of_mem _ (List.mem_cons_self ..)))) (ints_up (H7.out.get _ (List.mem_cons_self ..)))).mono ?_
      rintro e w8 ⟨rfl, hb9⟩
      go_wp2_with fail
      have H10 := Lib.hid (H7.out.below hb9)
      clear hb9 H7
      refine hK.out _ _ (H10.out.tail.tail) (fun hHeld => ?_)
      clear hK K
      try simp only [Act.put, List.setIfInBounds_toArray, List.set_cons_zero, List.set_cons_succ, List.getElem_toArray, List.getElem_cons_succ, List.getElem_cons_zero]
      refine wpAnyH_take (i := 11) (v := ?vx9_11) rfl (by kernel_rfl) (by kernel_rfl) (by kernel_rfl) (fun _ _ _ h => h) (Or.inl ⟨by rfl, ?hyx9_11⟩) (by assumption) ?restx9_11
      case hyx9_11 => (intro w hSw; have F := Ok.sees hSw; clear hSw; simp only [sees, kCells, cellsFrom, Nat.add_zero] at F; go_simp; try with_reducible rfl)
      try simp only [Act.put, List.setIfInBounds_toArray, List.set_cons_zero, List.set_cons_succ, List.getElem_toArray, List.getElem_cons_succ, List.getElem_cons_zero]
      refine wpAnyH_take (i := 12) (v := ?vx10_12) rfl (by kernel_rfl) (by kernel_rfl) (by kernel_rfl) (fun _ _ _ h => h) (Or.inl ⟨by rfl, ?hyx10_12⟩) (by assumption) ?restx10_12
      case hyx10_12 => (intro w hSw; have F := Ok.sees hSw; clear hSw; simp only [sees, kCells, cellsFrom, Nat.add_zero] at F; go_simp; try with_reducible rfl)
      try simp only [Act.put, List.setIfInBounds_toArray, List.set_cons_zero, List.set_cons_succ, List.getElem_toArray, List.getElem_cons_succ, List.getElem_cons_zero]
      refine wpAnyH_take (i := 13) (v := ?vx11_13) rfl (by kernel_rfl) (by kernel_rfl) (by kernel_rfl) (fun _ _ _ h => h) (Or.inl ⟨by rfl, ?hyx11_13⟩) (by assumption) ?restx11_13
      case hyx11_13 => (intro w hSw; have F := Ok.sees hSw; clear hSw; simp only [sees, kCells, cellsFrom, Nat.add_zero] at F; go_simp; try with_reducible rfl)
      try simp only [Act.put, List.setIfInBounds_toArray, List.set_cons_zero, List.set_cons_succ, List.getElem_toArray, List.getElem_cons_succ, List.getElem_cons_zero]
      refine wpAnyH_take (i := 14) (v := ?vx12_14) rfl (by kernel_rfl) (by kernel_rfl) (by kernel_rfl) (fun _ _ _ h => h) (Or.inl ⟨by rfl, ?hyx12_14⟩) (by assumption) ?restx12_14
      case hyx12_14 => (intro w hSw; have F := Ok.sees hSw; clear hSw; simp only [sees, kCells, cellsFrom, Nat.add_zero] at F; go_simp; try with_reducible rfl)
      try simp only [Act.put, List.setIfInBounds_toArray, List.set_cons_zero, List.set_cons_succ, List.getElem_toArray, List.getElem_cons_succ, List.getElem_cons_zero]
      refine wpAnyH_take (i := 15) (v := ?vx13_15) rfl (by kernel_rfl) (by kernel_rfl) (by kernel_rfl) (fun _ _ _ h => h) (Or.inl ⟨by rfl, ?hyx13_15⟩) (by assumption) ?restx13_15
      case hyx13_15 => (intro w hSw; have F := Ok.sees hSw; clear hSw; simp only [sees, kCells, cellsFrom, Nat.add_zero] at F; go_simp; try with_reducible rfl)
      try simp only [Act.put, List.setIfInBounds_toArray, List.set_cons_zero, List.set_cons_succ, List.getElem_toArray, List.getElem_cons_succ, List.getElem_cons_zero]
      refine wpAnyH_take (i := 16) (v := ?vx14_16) rfl (by kernel_rfl) (by kernel_rfl) (by kernel_rfl) (fun _ _ _ h => h) (Or.inl ⟨by rfl, ?hyx14_16⟩) (by assumption) ?restx14_16
      case hyx14_16 => (intro w hSw; have F := Ok.sees hSw; clear hSw; simp only [sees, kCells, cellsFrom, Nat.add_zero] at F; go_simp; try with_reducible rfl)
      try simp only [Act.put, List.setIfInBounds_toArray, List.set_cons_zero, List.set_cons_succ, List.getElem_toArray, List.getElem_cons_succ, List.getElem_cons_zero]
      refine wpAnyH_take (i := 17) (v := ?vx15_17) rfl (by kernel_rfl) (by kernel_rfl) (by kernel_rfl) (fun _ _ _ h => h) (Or.inl ⟨by rfl, ?hyx15_17⟩) (by assumption) ?restx15_17
      case hyx15_17 => (intro w hSw; have F := Ok.sees hSw; clear hSw; simp only [sees, kCells, cellsFrom, Nat.add_zero] at F; go_simp; try with_reducible rfl)
      try simp only [Act.put, List.setIfInBounds_toArray, List.set_cons_zero, List.set_cons_succ, List.getElem_toArray, List.getElem_cons_succ, List.getElem_cons_zero]
      refine wpAnyH_take (i := 19) (v := ?vx16_19) rfl (by kernel_rfl) (by kernel_rfl) (by kernel_rfl) (fun _ _ _ h => h) (Or.inl ⟨by rfl, ?hyx16_19⟩) (by assumption) ?restx16_19
      case hyx16_19 => (intro w hSw; have F := Ok.sees hSw; clear hSw; simp only [sees, kCells, cellsFrom, Nat.add_zero] at F; go_simp; try with_reducible rfl)
      try simp only [Act.put, List.setIfInBounds_toArray, List.set_cons_zero, List.set_cons_succ, List.getElem_toArray, List.getElem_cons_succ, List.getElem_cons_zero]
      refine wpAnyH_take (i := 20) (v := ?vx17_20) rfl (by kernel_rfl) (by kernel_rfl) (by kernel_rfl) (fun _ _ _ h => h) (Or.inl ⟨by rfl, ?hyx17_20⟩) (by assumption) ?restx17_20
      case hyx17_20 => (intro w hSw; have F := Ok.sees hSw; clear hSw; simp only [sees, kCells, cellsFrom, Nat.add_zero] at F; go_simp; try with_reducible rfl)
      try simp only [Act.put, List.setIfInBounds_toArray, List.set_cons_zero, List.set_cons_succ, List.getElem_toArray, List.getElem_cons_succ, List.getElem_cons_zero]
      refine wpAnyH_take (i := 21) (v := ?vx18_21) rfl (by kernel_rfl) (by kernel_rfl) (by kernel_rfl) (fun _ _ _ h => h) (Or.inl ⟨by rfl, ?hyx18_21⟩) (by assumption) ?restx18_21
      case hyx18_21 => (intro w hSw; have F := Ok.sees hSw; clear hSw; simp only [sees, kCells, cellsFrom, Nat.add_zero] at F; go_simp; try with_reducible rfl)
      try simp only [Act.put, List.setIfInBounds_toArray, List.set_cons_zero, List.set_cons_succ, List.getElem_toArray, List.getElem_cons_succ, List.getElem_cons_zero]
      refine wpAnyH_take (i := 22) (v := ?vx19_22) rfl (by kernel_rfl) (by kernel_rfl) (by kernel_rfl) (fun _ _ _ h => h) (Or.inl ⟨by rfl, ?hyx19_22⟩) (by assumption) ?restx19_22
      case hyx19_22 => (intro w hSw; have F := Ok.sees hSw; clear hSw; simp only [sees, kCells, cellsFrom, Nat.add_zero] at F; go_simp; try with_reducible rfl)
      try simp only [Act.put, List.setIfInBounds_toArray, List.set_cons_zero, List.set_cons_succ, List.getElem_toArray, List.getElem_cons_succ, List.getElem_cons_zero]
      refine wpAnyH_take (i := 23) (v := ?vx20_23) rfl (by kernel_rfl) (by kernel_rfl) (by kernel_rfl) (fun _ _ _ h => h) (Or.inl ⟨by rfl, ?hyx20_23⟩) (by assumption) ?restx20_23
      case hyx20_23 => (intro w hSw; have F := Ok.sees hSw; clear hSw; simp only [sees, kCells, cellsFrom, Nat.add_zero] at F; go_simp; try with_reducible rfl)
      try simp only [Act.put, List.setIfInBounds_toArray, List.set_cons_zero, List.set_cons_succ, List.getElem_toArray, List.getElem_cons_succ, List.getElem_cons_zero]
      refine wpAnyH_ready (rs := [18]) (by kernel_rfl) (by simp) ?_
      refine AllReadyH.cons rfl (fun K hK => ?_) AllReadyH.nil
      go_simp
      refine (has_any _ _ _ (by omega) (by have := HX.out; omega)).mono ?_
      rintro e w11 ⟨rfl, rfl⟩
      rw [Int.toNat_natCast]
      generalize hq : hasB x a1 = q
      have HQ := keep hq
      clear hq
      go_wp2_with fail
      refine hK.out _ _ (H10.out.tail.tail) (fun hHeld => ?_)
      clear hK K
      try simp only [Act.put, List.setIfInBounds_toArray, List.set_cons_zero, List.set_cons_succ, List.getElem_toArray, List.getElem_cons_succ, List.getElem_cons_zero]
      refine wpAnyH_ready (rs := [24]) (by kernel_rfl) (by simp) ?_
      refine AllReadyH.cons rfl (fun K hK => ?_) AllReadyH.nil
      go_simp
      refine (ref_has _ _ _ (by omega) (by have := HX.out; omega)).mono ?_
      rintro e w12 ⟨rfl, rfl⟩
      rw [Int.toNat_natCast, HQ.out]
      go_wp2_with fail
      refine hK.out _ _ (H10.out.tail.tail) (fun hHeld => ?_)
      clear hK K
      try simp only [Act.put, List.setIfInBounds_toArray, List.set_cons_zero, List.set_cons_succ, List.getElem_toArray, List.getElem_cons_succ, List.getElem_cons_zero]
      refine wpAnyH_take (i := 25) (v := ?vx21_25) rfl (by kernel_rfl) (by kernel_rfl) (by kernel_rfl) (fun _ _ _ h => h) (Or.inl ⟨by rfl, ?hyx21_25⟩) (by assumption) ?restx21_25
      case hyx21_25 => (intro w hSw; have F := Ok.sees hSw; clear hSw; simp only [sees, kCells, cellsFrom, Nat.add_zero] at F; go_simp; try with_reducible rfl)
      try simp only [Act.put, List.setIfInBounds_toArray, List.set_cons_zero, List.set_cons_succ, List.getElem_toArray, List.getElem_cons_succ, List.getElem_cons_zero]
      refine wpAnyH_take (i := 26) (v := ?vx22_26) rfl (by kernel_rfl) (by kernel_rfl) (by kernel_rfl) (fun _ _ _ h => h) (Or.inl ⟨by rfl, ?hyx22_26⟩) (by assumption) ?restx22_26
      case hyx22_26 => (intro w hSw; have F := Ok.sees hSw; clear hSw; simp only [sees, kCells, cellsFrom, Nat.add_zero] at F; go_simp; try with_reducible rfl)
      try simp only [Act.put, List.setIfInBounds_toArray, List.set_cons_zero, List.set_cons_succ, List.getElem_toArray, List.getElem_cons_succ, List.getElem_cons_zero]
      refine wpAnyH_done (by kernel_rfl) ?_ _
      have HE := Lib.hid H10.out.tail.tail
      clear H10
      go_wp2_with fail
      go_roundw
      case rel => exact ⟨k + 1, by omega, by go_num, HE.out.tail⟩
      case measure => simp [intOf]; omega
    · have hke : k = n2 := by omega
      subst hke
      go_wp2_with fail
      have H1 := Lib.hid (H.out.alloc wr.heap.size 3 [.int .i64 3, .int .i64 0, .int .i64 3] rfl)
      clear H
      generalize (wr.alloc (.cells #[.int .i64 3, .int .i64 0, .int .i64 3] 3)) = W2 at H1 ⊢
      refine (of_any _ 3 _ (fun i => [3, 0, 3].getD i 0) _ _ (by decide) (ints_of_blk [3, 0, 3] (H1.out.get _ (List.mem_cons_self ..)))).mono ?_
      rintro e w9 ⟨rfl, rfl⟩
      have he : ofE (fun i => [3, 0, 3].getD i 0) 3 = 0 := by unfold ofE; rw [ofR_eg]; rfl
      rw [ofR_eg, he]
      rw [show ((some 9).getD 0 : Nat) = 9 from rfl]
      go_wp2_with fail
      go_ret
      exact ⟨rfl, H1.out.bel⟩
end Go.Proofs.YtjjdlhbbkkkjnaaDoor
