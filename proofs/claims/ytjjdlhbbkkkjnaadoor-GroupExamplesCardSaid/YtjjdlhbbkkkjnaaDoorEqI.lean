/- The contract of the kit's EqualInts at two slices that read alike. -/
import Derived.Test.YtjjdlhbbkkkjnaaDoorInts
namespace Go.Proofs.YtjjdlhbbkkkjnaaDoor
open Go.RowKit

set_option maxRecDepth 100000 in
set_option maxHeartbeats 4000000 in
theorem equal_ints (a b : Option Addr) (n c d : Nat) (f : Nat → Int) (w : World) (hn : n ≤ 4611686018427387904) (ha : IsInts .i64 w w.heap.size a n f) (hb : IsInts .i64 w w.heap.size b n f) :
    Calls Tryd.prog 10 #[.slice a n c, .slice b n d] w fun e w' => e = .returned (.bool true) ∧ Below w.heap.size w w' := by
  have H0 := Lib.hid (((Ok.start w).add (kInts .i64 w.heap.size a n f) ⟨ha, Nat.le_refl _⟩).add (kInts .i64 w.heap.size b n f) ⟨hb, Nat.le_refl _⟩)
  clear ha hb
  go_enter Tryd.func10, Tryd.ntmps10
  go_wp2_with fail
  go_loopw [5] (fun iv wr => ∃ k : Nat, k ≤ n ∧ iv = .int .i64 k ∧ Hid (Ok w [kInts .i64 w.heap.size b n f, kInts .i64 w.heap.size a n f] wr)) (fun iv _ => n - (intOf iv).toNat)
  case atStart => exact ⟨0, Nat.zero_le _, rfl, H0⟩
  case round =>
    obtain ⟨k, hk, rfl, H⟩ := hrel
    by_cases hlt : (k : Int) < (n : Int)
    · obtain ⟨b2, o2, rfl, h2⟩ := ints_cells (H.out.get _ (List.mem_cons_self ..)) k (by omega)
      obtain ⟨b1, o1, rfl, h1⟩ := ints_cells (H.out.get _ (List.mem_cons_of_mem _ (List.mem_cons_self ..))) k (by omega)
      have H1 := Lib.hid ((H.out.add _ h2).add _ h1)
      clear h1 h2 H
      generalize f k = x at H1
      have F1 := H1.out.sees
      simp only [sees, kCells, cellsFrom, Nat.add_zero] at F1
      obtain ⟨⟨z0, c0_0, -⟩, ⟨z1, c1_0, -⟩, -, -, -⟩ := F1
      go_wp2_with fail
      refine wp_region_held_drew (S := fun W => Ok w [kCells b1 (o1 + k) [.int .i64 x], kCells b2 (o2 + k) [.int .i64 x], kInts .i64 w.heap.size (some ⟨b2, o2, none⟩) n f, kInts .i64 w.heap.size (some ⟨b1, o1, none⟩) n f] W) (by kernel_rfl) H1.out.drew (fun hHeld => ?_)
      refine wpAnyH_take (i := 0) (v := ?vx1_0) rfl (by kernel_rfl) (by kernel_rfl) (by kernel_rfl) (fun _ _ _ h => h) (Or.inl ⟨by rfl, ?hyx1_0⟩) (by assumption) ?restx1_0
      case hyx1_0 => (intro w hSw; have F := Ok.sees hSw; clear hSw; simp only [sees, kCells, cellsFrom, Nat.add_zero] at F; go_simp; try with_reducible rfl)
      try simp only [Act.put, List.setIfInBounds_toArray, List.set_cons_zero, List.set_cons_succ, List.getElem_toArray, List.getElem_cons_zero]
      refine wpAnyH_take (i := 1) (v := ?vx2_1) rfl (by kernel_rfl) (by kernel_rfl) (by kernel_rfl) (fun _ _ _ h => h) (Or.inl ⟨by rfl, ?hyx2_1⟩) (by assumption) ?restx2_1
      case hyx2_1 => (intro w hSw; have F := Ok.sees hSw; clear hSw; simp only [sees, kCells, cellsFrom, Nat.add_zero] at F; go_simp; try with_reducible rfl)
      try simp only [Act.put, List.setIfInBounds_toArray, List.set_cons_zero, List.set_cons_succ, List.getElem_toArray, List.getElem_cons_succ, List.getElem_cons_zero]
      refine wpAnyH_take (i := 2) (v := ?vx3_2) rfl (by kernel_rfl) (by kernel_rfl) (by kernel_rfl) (fun _ _ _ h => h) (Or.inl ⟨by rfl, ?hyx3_2⟩) (by assumption) ?restx3_2
      case hyx3_2 => (intro w hSw; have F := Ok.sees hSw; clear hSw; simp only [sees, kCells, cellsFrom, Nat.add_zero] at F; go_simp; try with_reducible rfl)
      try simp only [Act.put, List.setIfInBounds_toArray, List.set_cons_zero, List.set_cons_succ, List.getElem_toArray, List.getElem_cons_succ, List.getElem_cons_zero]
      refine wpAnyH_take (i := 3) (v := ?vx4_3) rfl (by kernel_rfl) (by kernel_rfl) (by kernel_rfl) (fun _ _ _ h => h) (Or.inl ⟨by rfl, ?hyx4_3⟩) (by assumption) ?restx4_3
      case hyx4_3 => (intro w hSw; have F := Ok.sees hSw; clear hSw; simp only [sees, kCells, cellsFrom, Nat.add_zero] at F; go_simp; try with_reducible rfl)
      try simp only [Act.put, List.setIfInBounds_toArray, List.set_cons_zero, List.set_cons_succ, List.getElem_toArray, List.getElem_cons_succ, List.getElem_cons_zero]
      refine wpAnyH_take (i := 4) (v := ?vx5_4) rfl (by kernel_rfl) (by kernel_rfl) (by kernel_rfl) (fun _ _ _ h => h) (Or.inl ⟨by rfl, ?hyx5_4⟩) (by assumption) ?restx5_4
      case hyx5_4 => (intro w hSw; have F := Ok.sees hSw; clear hSw; simp only [sees, kCells, cellsFrom, Nat.add_zero] at F; go_simp; try with_reducible rfl)
      try simp only [Act.put, List.setIfInBounds_toArray, List.set_cons_zero, List.set_cons_succ, List.getElem_toArray, List.getElem_cons_succ, List.getElem_cons_zero]
      refine wpAnyH_take (i := 5) (v := ?vx6_5) rfl (by kernel_rfl) (by kernel_rfl) (by kernel_rfl) (fun _ _ _ h => h) (Or.inl ⟨by rfl, ?hyx6_5⟩) (by assumption) ?restx6_5
      case hyx6_5 => (intro w hSw; have F := Ok.sees hSw; clear hSw; simp only [sees, kCells, cellsFrom, Nat.add_zero] at F; go_simp; try with_reducible rfl)
      try simp only [Act.put, List.setIfInBounds_toArray, List.set_cons_zero, List.set_cons_succ, List.getElem_toArray, List.getElem_cons_succ, List.getElem_cons_zero]
      refine wpAnyH_take (i := 6) (v := ?vx7_6) rfl (by kernel_rfl) (by kernel_rfl) (by kernel_rfl) (fun _ _ _ h => h) (Or.inl ⟨by rfl, ?hyx7_6⟩) (by assumption) ?restx7_6
      case hyx7_6 => (intro w hSw; have F := Ok.sees hSw; clear hSw; simp only [sees, kCells, cellsFrom, Nat.add_zero] at F; go_simp; try with_reducible rfl)
      try simp only [Act.put, List.setIfInBounds_toArray, List.set_cons_zero, List.set_cons_succ, List.getElem_toArray, List.getElem_cons_succ, List.getElem_cons_zero]
      refine wpAnyH_take (i := 7) (v := ?vx8_7) rfl (by kernel_rfl) (by kernel_rfl) (by kernel_rfl) (fun _ _ _ h => h) (Or.inl ⟨by rfl, ?hyx8_7⟩) (by assumption) ?restx8_7
      case hyx8_7 => (intro w hSw; have F := Ok.sees hSw; clear hSw; simp only [sees, kCells, cellsFrom, Nat.add_zero] at F; go_simp; try with_reducible rfl)
      try simp only [Act.put, List.setIfInBounds_toArray, List.set_cons_zero, List.set_cons_succ, List.getElem_toArray, List.getElem_cons_succ, List.getElem_cons_zero]
      refine wpAnyH_take (i := 8) (v := ?vx9_8) rfl (by kernel_rfl) (by kernel_rfl) (by kernel_rfl) (fun _ _ _ h => h) (Or.inl ⟨by rfl, ?hyx9_8⟩) (by assumption) ?restx9_8
      case hyx9_8 => (intro w hSw; have F := Ok.sees hSw; clear hSw; simp only [sees, kCells, cellsFrom, Nat.add_zero] at F; go_simp; try with_reducible rfl)
      try simp only [Act.put, List.setIfInBounds_toArray, List.set_cons_zero, List.set_cons_succ, List.getElem_toArray, List.getElem_cons_succ, List.getElem_cons_zero]
      refine wpAnyH_done (by kernel_rfl) ?_ _
      clear z0 c0_0 z1 c1_0
      clear H1
      have H3 := Lib.hid hHeld
      clear hHeld
      go_wp2_with fail
      go_roundw
      case rel => exact ⟨k + 1, by omega, by go_num, H3.out.tail.tail⟩
      case measure => simp [intOf]; omega
    · have hke : k = n := by omega
      subst hke
      go_wp2_with fail
      go_ret
      exact ⟨rfl, H.out.bel⟩
end Go.Proofs.YtjjdlhbbkkkjnaaDoor
