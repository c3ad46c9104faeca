/- The contract of the laws' corners: sixteen addresses, whichever they are. -/
import Derived.Test.YtkdabfepggehiaaDoorOk
import Derived.Test.YtkdabfepggehiaaDoorEqR
namespace Go.Proofs.YtkdabfepggehiaaDoor
open Go.RowKit

def rfCells (l : List (Int × Int)) : List Value := l.flatMap fun p => [.int .i64 p.1, .int .i64 p.2]
theorem rfCells_snoc (l : List (Int × Int)) (p : Int × Int) : rfCells (l ++ [p]) = rfCells l ++ [.int .i64 p.1, .int .i64 p.2] := by simp [rfCells]
theorem info_ref : (Tryd.prog.info? 23).map (fun i => (i.zero, i.size, i.bytes)) = some (some (.agg #[.int .i64 0, .int .i64 0]), 2, 16) := by kernel_rfl
theorem four_at (x y z u : Int) (k : Nat) (hk : k < 4) : ∃ v, [Value.int .i64 x, .int .i64 y, .int .i64 z, .int .i64 u].toArray[k]? = some (.int .i64 v) := by
  rcases (show k = 0 ∨ k = 1 ∨ k = 2 ∨ k = 3 from by omega) with rfl | rfl | rfl | rfl <;> exact ⟨_, rfl⟩

set_option maxRecDepth 100000 in
set_option maxHeartbeats 4000000 in
theorem law_corners (a1 a2 a3 a4 : Int) (w : World) (ha : checkB ⟨a1, a2, a3, a4⟩ = true) :
    Calls Tryd.prog 35 #[.agg #[.int .i64 a1, .int .i64 a2, .int .i64 a3, .int .i64 a4]] w fun e w' => ∃ v l, e = .returned v ∧ w'.ownsRow w.heap.size 23 2 v 16 (rfCells l) ∧ l.length = 16 ∧ Below w.heap.size w w' := by
  have hA := (checkB_iff _).1 ha
  simp only [] at hA
  clear ha
  obtain ⟨hA1, hA2, hA3, hA4, hA5, hA6⟩ := hA
  have H1 := Lib.hid (((Ok.start w).alloc w.heap.size 38 [.int .i64 a1, .int .i64 a2, .int .i64 a3, .int .i64 a4] rfl).alloc (w.heap.size + 1) 3 [.int .i64 (a1 - 1), .int .i64 a1, .int .i64 a3, .int .i64 (a3 + 1)] (by simp))
  go_enter Tryd.func35, Tryd.ntmps35
  go_wp2_with fail
  generalize ((w.alloc (.cells #[.int .i64 a1, .int .i64 a2, .int .i64 a3, .int .i64 a4] 38)).alloc (.cells #[.int .i64 (a1 - 1), .int .i64 a1, .int .i64 a3, .int .i64 (a3 + 1)] 3)) = W1 at H1 ⊢
  obtain ⟨i0, hi, hz0, hz1', hzb⟩ := info_parts info_ref
  go_loopw [3, 20] (fun ov iv wr => ∃ (k : Nat) (l : List (Int × Int)), k ≤ 4 ∧ iv = .int .i64 k ∧ l.length = 4 * k ∧ Hid (OkRow w [kBlk (w.heap.size + 1) 3 [.int .i64 (a1 - 1), .int .i64 a1, .int .i64 a3, .int .i64 (a3 + 1)], kBlk w.heap.size 38 [.int .i64 a1, .int .i64 a2, .int .i64 a3, .int .i64 a4]] 23 2 ov (4 * k) (rfCells l) wr)) (fun _ iv _ => 4 - (intOf iv).toNat)
  case atStart => exact ⟨0, [], by omega, rfl, rfl, OkRow.start H1.out _ _⟩
  case round =>
    obtain ⟨k, l, hk, rfl, hl, H2⟩ := hrel
    obtain ⟨wp, rfl⟩ : ∃ wp : World, wp = wr := ⟨_, rfl⟩
    have HL := Lib.hid hl
    clear hl
    by_cases hlt : (k : Int) < 4
    · have F := H2.out.ok.sees
      simp only [sees, kBlk, cellsAt, Nat.reduceAdd] at F
      obtain ⟨x, hx⟩ := four_at (a1 - 1) a1 a3 (a3 + 1) k (by omega)
      have cx := (Blk.cell (H2.out.ok.get _ (List.mem_cons_self ..)) k).trans hx
      clear hx
      have H3 := Lib.hid (H2.out.alloc wp.heap.size 3 [.int .i64 (a2 - 1), .int .i64 a2, .int .i64 a4, .int .i64 (a4 + 1)] rfl)
      go_split_ands
      go_wp2_with fail
      generalize wp.alloc (.cells #[.int .i64 (a2 - 1), .int .i64 a2, .int .i64 a4, .int .i64 (a4 + 1)] 3) = wo at H3 ⊢
      go_loopw [3, 36] (fun ov iv wr => ∃ (j : Nat) (l : List (Int × Int)), j ≤ 4 ∧ iv = .int .i64 j ∧ l.length = 4 * k + j ∧ Hid (OkRow w (kBlk wp.heap.size 3 [.int .i64 (a2 - 1), .int .i64 a2, .int .i64 a4, .int .i64 (a4 + 1)] :: [kBlk (w.heap.size + 1) 3 [.int .i64 (a1 - 1), .int .i64 a1, .int .i64 a3, .int .i64 (a3 + 1)], kBlk w.heap.size 38 [.int .i64 a1, .int .i64 a2, .int .i64 a3, .int .i64 a4]]) 23 2 ov (4 * k + j) (rfCells l) wr)) (fun _ iv _ => 4 - (intOf iv).toNat)
      case atStart => exact ⟨0, l, by omega, rfl, HL.out, H3.out⟩
      case round =>
        obtain ⟨j, l', hj, rfl, hl', H4⟩ := hrel
        have HL' := Lib.hid hl'
        clear hl'
        by_cases hjlt : (j : Int) < 4
        · obtain ⟨y, hy⟩ := four_at (a2 - 1) a2 a4 (a4 + 1) j (by omega)
          have cy := (Blk.cell (H4.out.ok.get _ (List.mem_cons_self ..)) j).trans hy
          clear hy
          go_wp2_with (at_builtin; refine wpList_append_lies _ rfl _ _ _ rfl w.heap.size 23 i0 _ 2 16 Tryd.underlying43 hi hz0 hz1' hzb rfl (by omega) _ _ _ rfl (H4.out.own.alloc _) ⟨wr.heap.size, 0, none⟩ 1 1 [.int .i64 x, .int .i64 y] rfl rfl (World.news_of_block (cs := #[.int .i64 x, .int .i64 y]) (t := 23) (fr := (0, 0)) (heap_alloc_new _ _)) (by intro u hu; simp at hu; rcases hu with rfl | rfl <;> rfl) (by omega) (by unfold maxLen; omega) (by omega) (by have := H4.out.ok.bel.size; simp; omega) _ rfl ?_; intro g cap w3 hown3 hgrow3 hat3 hlt3)
          go_roundw
          case rel => exact ⟨j + 1, l' ++ [(x, y)], by omega, by go_num, by simp [HL'.out]; omega, by rw [rfCells_snoc]; exact (H4.out.alloc_obj _).appended hown3 hgrow3 hat3⟩
          case measure => simp [intOf]; omega
        · have hje : j = 4 := by omega
          subst hje
          go_wp2_with fail
          go_roundw
          case rel => exact ⟨k + 1, l', by omega, by go_num, by rw [HL'.out]; omega, H4.out.tail⟩
          case measure => simp [intOf]; omega
    · have hke : k = 4 := by omega
      subst hke
      go_wp2_with fail
      go_ret
      exact ⟨_, rfl, l, H2.out.own, HL.out, H2.out.ok.bel⟩
end Go.Proofs.YtkdabfepggehiaaDoor
