/- The contract of the laws' in: whether an address lies in one of the ranges of a slice. -/
import Derived.Test.YtkdabfepggehiaaDoorRects
import Derived.Test.YtkdabfepggehiaaDoorRectH
namespace Go.Proofs.YtkdabfepggehiaaDoor
open Go.RowKit

def inF (f : Nat → R4) (x y : Int) : Nat → Bool
  | 0 => false
  | k + 1 => inF f x y k || hasR (f k) x y
theorem inF_some (f : Nat → R4) (x y : Int) (k : Nat) (h : hasR (f k) x y = true) : ∀ n, k < n → inF f x y n = true := by
  intro n
  induction n with
  | zero => intro h; omega
  | succ n ih =>
    intro hk
    rcases Nat.lt_or_ge k n with h1 | h1
    · simp [inF, ih h1]
    · have : k = n := by omega
      subst this; simp [inF, h]
theorem inF_any (l : List R4) (x y : Int) : inF (fun i => l.getD i R4.zero) x y l.length = l.any fun r => hasR r x y := by
  have key : ∀ n, n ≤ l.length → inF (fun i => l.getD i R4.zero) x y n = (l.take n).any fun r => hasR r x y := by
    intro n
    induction n with
    | zero => intro _; simp [inF]
    | succ n ih =>
      intro hn
      rw [inF, ih (by omega), List.take_succ_eq_append_getElem (by omega), List.any_append, List.getD_eq_getElem?_getD, List.getElem?_eq_getElem (by omega)]
      simp
  rw [key _ (Nat.le_refl _), List.take_length]

theorem has_cases5 (q1 q2 q3 q4 x y : Int) : (decide (q1 ≤ x) = false ∧ hasR ⟨q1, q2, q3, q4⟩ x y = false) ∨ (decide (q1 ≤ x) = true ∧ decide (x ≤ q3) = false ∧ hasR ⟨q1, q2, q3, q4⟩ x y = false) ∨ (decide (q1 ≤ x) = true ∧ decide (x ≤ q3) = true ∧ decide (q2 ≤ y) = false ∧ hasR ⟨q1, q2, q3, q4⟩ x y = false) ∨ (decide (q1 ≤ x) = true ∧ decide (x ≤ q3) = true ∧ decide (q2 ≤ y) = true ∧ decide (y ≤ q4) = false ∧ hasR ⟨q1, q2, q3, q4⟩ x y = false) ∨ (decide (q1 ≤ x) = true ∧ decide (x ≤ q3) = true ∧ decide (q2 ≤ y) = true ∧ decide (y ≤ q4) = true ∧ hasR ⟨q1, q2, q3, q4⟩ x y = true) := by
  unfold hasR
  by_cases h1 : q1 ≤ x <;> by_cases h2 : x ≤ q3 <;> by_cases h3 : q2 ≤ y <;> by_cases h4 : y ≤ q4 <;> simp [h1, h2, h3, h4]

set_option maxRecDepth 100000 in
set_option maxHeartbeats 4000000 in
theorem law_in (x y : Int) (ad : Option Addr) (n c : Nat) (f : Nat → R4) (w : World) (hn : n ≤ 4611686018427387904) (hr : IsRects w w.heap.size ad n f) :
    Calls Tryd.prog 53 #[.agg #[.int .i64 x, .int .i64 y], .slice ad n c] w fun e w' => e = .returned (.bool (inF f x y n)) ∧ Below w.heap.size w w' := by
  have H0 := Lib.hid (((Ok.start w).add (kRects w.heap.size ad n f) ⟨hr, Nat.le_refl _⟩).alloc w.heap.size 23 [.int .i64 x, .int .i64 y] rfl)
  clear hr
  go_enter Tryd.func53, Tryd.ntmps53
  go_wp2_with fail
  generalize (w.alloc (.cells #[.int .i64 x, .int .i64 y] 23)) = W1 at H0 ⊢
  go_loopw [5] (fun iv wr => ∃ k : Nat, k ≤ n ∧ iv = .int .i64 k ∧ Hid (inF f x y k = false) ∧ Hid (Ok w [kBlk (w.heap.size) 23 [.int .i64 x, .int .i64 y], kRects w.heap.size ad n f] wr)) (fun iv _ => n - (intOf iv).toNat)
  case atStart => exact ⟨0, Nat.zero_le _, rfl, rfl, H0⟩
  case round =>
    obtain ⟨k, hk, rfl, HI, H⟩ := hrel
    by_cases hlt : k < n
    · obtain ⟨b, o, rfl, hc⟩ := rects_cells (H.out.get _ (List.mem_cons_of_mem _ (List.mem_cons_self ..))) k hlt
      have H1 := Lib.hid (H.out.add _ hc)
      clear hc
      obtain ⟨q, hq⟩ : ∃ q, f k = q := ⟨_, rfl⟩
      rw [hq] at H1
      obtain ⟨q1, q2, q3, q4⟩ := q
      have HQ := Lib.hid hq
      clear hq
      rcases has_cases5 q1 q2 q3 q4 x y with ⟨h1, hv⟩ | ⟨h1, h2, hv⟩ | ⟨h1, h2, h3, hv⟩ | ⟨h1, h2, h3, h4, hv⟩ | ⟨h1, h2, h3, h4, hv⟩
      · have HV := Lib.hid hv
        clear hv H
        have F2 := H1.out.sees
        simp only [sees, kBlk, kCells, cellsFrom, Nat.add_zero, cellsAt, Nat.reduceAdd] at F2
        obtain ⟨⟨z0, c0_0, c0_1, c0_2, c0_3, -⟩, ⟨z1, c1_0, c1_1, -⟩, -, -⟩ := F2
        go_wp2_with fail
        refine wp_region_held_drew (S := fun W => Ok w [kCells b (o + k * 4) [.int .i64 q1, .int .i64 q2, .int .i64 q3, .int .i64 q4], kBlk (w.heap.size) 23 [.int .i64 x, .int .i64 y], kRects w.heap.size (some ⟨b, o, none⟩) n f] W) (by kernel_rfl) H1.out.drew (fun hHeld => ?_)
        refine wpAnyH_take (i := 0) (v := ?vx1_0) rfl (by kernel_rfl) (by kernel_rfl) (by kernel_rfl) (fun _ _ _ h => h) (Or.inl ⟨by rfl, ?hyx1_0⟩) (by assumption) ?restx1_0
        case hyx1_0 => (intro w hSw; have F := Ok.sees hSw; clear hSw; simp only [sees, kBlk, kCells, cellsFrom, Nat.add_zero, cellsAt, Nat.reduceAdd] at F; go_simp; try with_reducible rfl)
        try simp only [Act.put, List.setIfInBounds_toArray, List.set_cons_zero, List.set_cons_succ, List.getElem_toArray, List.getElem_cons_zero]
        refine wpAnyH_take (i := 1) (v := ?vx2_1) rfl (by kernel_rfl) (by kernel_rfl) (by kernel_rfl) (fun _ _ _ h => h) (Or.inl ⟨by rfl, ?hyx2_1⟩) (by assumption) ?restx2_1
        case hyx2_1 => (intro w hSw; have F := Ok.sees hSw; clear hSw; simp only [sees, kBlk, kCells, cellsFrom, Nat.add_zero, cellsAt, Nat.reduceAdd] at F; go_simp; try with_reducible rfl)
        try simp only [Act.put, List.setIfInBounds_toArray, List.set_cons_zero, List.set_cons_succ, List.getElem_toArray, List.getElem_cons_succ, List.getElem_cons_zero]
        refine wpAnyH_take (i := 2) (v := ?vx3_2) rfl (by kernel_rfl) (by kernel_rfl) (by kernel_rfl) (fun _ _ _ h => h) (Or.inl ⟨by rfl, ?hyx3_2⟩) (by assumption) ?restx3_2
        case hyx3_2 => (intro w hSw; have F := Ok.sees hSw; clear hSw; simp only [sees, kBlk, kCells, cellsFrom, Nat.add_zero, cellsAt, Nat.reduceAdd] at F; go_simp; try with_reducible rfl)
        try simp only [Act.put, List.setIfInBounds_toArray, List.set_cons_zero, List.set_cons_succ, List.getElem_toArray, List.getElem_cons_succ, List.getElem_cons_zero]
        refine wpAnyH_take (i := 3) (v := ?vx4_3) rfl (by kernel_rfl) (by kernel_rfl) (by kernel_rfl) (fun _ _ _ h => h) (Or.inl ⟨by rfl, ?hyx4_3⟩) (by assumption) ?restx4_3
        case hyx4_3 => (intro w hSw; have F := Ok.sees hSw; clear hSw; simp only [sees, kBlk, kCells, cellsFrom, Nat.add_zero, cellsAt, Nat.reduceAdd] at F; go_simp; try with_reducible rfl)
        try simp only [Act.put, List.setIfInBounds_toArray, List.set_cons_zero, List.set_cons_succ, List.getElem_toArray, List.getElem_cons_succ, List.getElem_cons_zero]
        refine wpAnyH_take (i := 4) (v := ?vx5_4) rfl (by kernel_rfl) (by kernel_rfl) (by kernel_rfl) (fun _ _ _ h => h) (Or.inl ⟨by rfl, ?hyx5_4⟩) (by assumption) ?restx5_4
        case hyx5_4 => (intro w hSw; have F := Ok.sees hSw; clear hSw; simp only [sees, kBlk, kCells, cellsFrom, Nat.add_zero, cellsAt, Nat.reduceAdd] at F; go_simp; try with_reducible rfl)
        try simp only [Act.put, List.setIfInBounds_toArray, List.set_cons_zero, List.set_cons_succ, List.getElem_toArray, List.getElem_cons_succ, List.getElem_cons_zero]
        refine wpAnyH_take (i := 5) (v := ?vx6_5) rfl (by kernel_rfl) (by kernel_rfl) (by kernel_rfl) (fun _ _ _ h => h) (Or.inl ⟨by rfl, ?hyx6_5⟩) (by assumption) ?restx6_5
        case hyx6_5 => (intro w hSw; have F := Ok.sees hSw; clear hSw; simp only [sees, kBlk, kCells, cellsFrom, Nat.add_zero, cellsAt, Nat.reduceAdd] at F; go_simp; try with_reducible rfl)
        try simp only [Act.put, List.setIfInBounds_toArray, List.set_cons_zero, List.set_cons_succ, List.getElem_toArray, List.getElem_cons_succ, List.getElem_cons_zero]
        refine wpAnyH_take (i := 6) (v := ?vx7_6) rfl (by kernel_rfl) (by kernel_rfl) (by kernel_rfl) (fun _ _ _ h => h) (Or.inl ⟨by rfl, ?hyx7_6⟩) (by assumption) ?restx7_6
        case hyx7_6 => (intro w hSw; have F := Ok.sees hSw; clear hSw; simp only [sees, kBlk, kCells, cellsFrom, Nat.add_zero, cellsAt, Nat.reduceAdd] at F; go_simp; try with_reducible rfl)
        try simp only [Act.put, List.setIfInBounds_toArray, List.set_cons_zero, List.set_cons_succ, List.getElem_toArray, List.getElem_cons_succ, List.getElem_cons_zero]
        refine wpAnyH_take (i := 7) (v := ?vx8_7) rfl (by kernel_rfl) (by kernel_rfl) (by kernel_rfl) (fun _ _ _ h => h) (Or.inl ⟨by rfl, ?hyx8_7⟩) (by assumption) ?restx8_7
        case hyx8_7 => (intro w hSw; have F := Ok.sees hSw; clear hSw; simp only [sees, kBlk, kCells, cellsFrom, Nat.add_zero, cellsAt, Nat.reduceAdd] at F; go_simp; try with_reducible rfl)
        try simp only [Act.put, List.setIfInBounds_toArray, List.set_cons_zero, List.set_cons_succ, List.getElem_toArray, List.getElem_cons_succ, List.getElem_cons_zero]
        refine wpAnyH_take (i := 8) (v := ?vx9_8) rfl (by kernel_rfl) (by kernel_rfl) (by kernel_rfl) (fun _ _ _ h => h) (Or.inl ⟨by rfl, ?hyx9_8⟩) (by assumption) ?restx9_8
        case hyx9_8 => (intro w hSw; have F := Ok.sees hSw; clear hSw; simp only [sees, kBlk, kCells, cellsFrom, Nat.add_zero, cellsAt, Nat.reduceAdd] at F; go_simp; try with_reducible rfl)
        try simp only [Act.put, List.setIfInBounds_toArray, List.set_cons_zero, List.set_cons_succ, List.getElem_toArray, List.getElem_cons_succ, List.getElem_cons_zero]
        refine wpAnyH_take (i := 9) (v := undef) rfl (by kernel_rfl) (by kernel_rfl) (by kernel_rfl) (fun _ _ _ h => h) (Or.inr ⟨by rfl, rfl⟩) (by assumption) ?_
        try simp only [Act.put, List.setIfInBounds_toArray, List.set_cons_zero, List.set_cons_succ, List.getElem_toArray, List.getElem_cons_succ, List.getElem_cons_zero]
        refine wpAnyH_take (i := 10) (v := undef) rfl (by kernel_rfl) (by kernel_rfl) (by kernel_rfl) (fun _ _ _ h => h) (Or.inr ⟨by rfl, rfl⟩) (by assumption) ?_
        try simp only [Act.put, List.setIfInBounds_toArray, List.set_cons_zero, List.set_cons_succ, List.getElem_toArray, List.getElem_cons_succ, List.getElem_cons_zero]
        refine wpAnyH_take (i := 11) (v := undef) rfl (by kernel_rfl) (by kernel_rfl) (by kernel_rfl) (fun _ _ _ h => h) (Or.inr ⟨by rfl, rfl⟩) (by assumption) ?_
        try simp only [Act.put, List.setIfInBounds_toArray, List.set_cons_zero, List.set_cons_succ, List.getElem_toArray, List.getElem_cons_succ, List.getElem_cons_zero]
        refine wpAnyH_take (i := 12) (v := undef) rfl (by kernel_rfl) (by kernel_rfl) (by kernel_rfl) (fun _ _ _ h => h) (Or.inr ⟨by rfl, rfl⟩) (by assumption) ?_
        try simp only [Act.put, List.setIfInBounds_toArray, List.set_cons_zero, List.set_cons_succ, List.getElem_toArray, List.getElem_cons_succ, List.getElem_cons_zero]
        refine wpAnyH_take (i := 13) (v := undef) rfl (by kernel_rfl) (by kernel_rfl) (by kernel_rfl) (fun _ _ _ h => h) (Or.inr ⟨by rfl, rfl⟩) (by assumption) ?_
        try simp only [Act.put, List.setIfInBounds_toArray, List.set_cons_zero, List.set_cons_succ, List.getElem_toArray, List.getElem_cons_succ, List.getElem_cons_zero]
        refine wpAnyH_take (i := 14) (v := undef) rfl (by kernel_rfl) (by kernel_rfl) (by kernel_rfl) (fun _ _ _ h => h) (Or.inr ⟨by rfl, rfl⟩) (by assumption) ?_
        try simp only [Act.put, List.setIfInBounds_toArray, List.set_cons_zero, List.set_cons_succ, List.getElem_toArray, List.getElem_cons_succ, List.getElem_cons_zero]
        refine wpAnyH_take (i := 15) (v := undef) rfl (by kernel_rfl) (by kernel_rfl) (by kernel_rfl) (fun _ _ _ h => h) (Or.inr ⟨by rfl, rfl⟩) (by assumption) ?_
        try simp only [Act.put, List.setIfInBounds_toArray, List.set_cons_zero, List.set_cons_succ, List.getElem_toArray, List.getElem_cons_succ, List.getElem_cons_zero]
        refine wpAnyH_take (i := 16) (v := undef) rfl (by kernel_rfl) (by kernel_rfl) (by kernel_rfl) (fun _ _ _ h => h) (Or.inr ⟨by rfl, rfl⟩) (by assumption) ?_
        try simp only [Act.put, List.setIfInBounds_toArray, List.set_cons_zero, List.set_cons_succ, List.getElem_toArray, List.getElem_cons_succ, List.getElem_cons_zero]
        refine wpAnyH_take (i := 17) (v := ?vx18_17) rfl (by kernel_rfl) (by kernel_rfl) (by kernel_rfl) (fun _ _ _ h => h) (Or.inl ⟨by rfl, ?hyx18_17⟩) (by assumption) ?restx18_17
        case hyx18_17 => (intro w hSw; have F := Ok.sees hSw; clear hSw; simp only [sees, kBlk, kCells, cellsFrom, Nat.add_zero, cellsAt, Nat.reduceAdd] at F; go_simp; try with_reducible rfl)
        try simp only [Act.put, List.setIfInBounds_toArray, List.set_cons_zero, List.set_cons_succ, List.getElem_toArray, List.getElem_cons_succ, List.getElem_cons_zero]
        refine wpAnyH_take (i := 18) (v := ?vx19_18) rfl (by kernel_rfl) (by kernel_rfl) (by kernel_rfl) (fun _ _ _ h => h) (Or.inl ⟨by rfl, ?hyx19_18⟩) (by assumption) ?restx19_18
        case hyx19_18 => (intro w hSw; have F := Ok.sees hSw; clear hSw; simp only [sees, kBlk, kCells, cellsFrom, Nat.add_zero, cellsAt, Nat.reduceAdd] at F; go_simp; try with_reducible rfl)
        try simp only [Act.put, List.setIfInBounds_toArray, List.set_cons_zero, List.set_cons_succ, List.getElem_toArray, List.getElem_cons_succ, List.getElem_cons_zero]
        refine wpAnyH_take (i := 19) (v := undef) rfl (by kernel_rfl) (by kernel_rfl) (by kernel_rfl) (fun _ _ _ h => h) (Or.inr ⟨by rfl, rfl⟩) (by assumption) ?_
        try simp only [Act.put, List.setIfInBounds_toArray, List.set_cons_zero, List.set_cons_succ, List.getElem_toArray, List.getElem_cons_succ, List.getElem_cons_zero]
        refine wpAnyH_take (i := 20) (v := undef) rfl (by kernel_rfl) (by kernel_rfl) (by kernel_rfl) (fun _ _ _ h => h) (Or.inr ⟨by rfl, rfl⟩) (by assumption) ?_
        try simp only [Act.put, List.setIfInBounds_toArray, List.set_cons_zero, List.set_cons_succ, List.getElem_toArray, List.getElem_cons_succ, List.getElem_cons_zero]
        refine wpAnyH_take (i := 21) (v := undef) rfl (by kernel_rfl) (by kernel_rfl) (by kernel_rfl) (fun _ _ _ h => h) (Or.inr ⟨by rfl, rfl⟩) (by assumption) ?_
        try simp only [Act.put, List.setIfInBounds_toArray, List.set_cons_zero, List.set_cons_succ, List.getElem_toArray, List.getElem_cons_succ, List.getElem_cons_zero]
        refine wpAnyH_take (i := 22) (v := undef) rfl (by kernel_rfl) (by kernel_rfl) (by kernel_rfl) (fun _ _ _ h => h) (Or.inr ⟨by rfl, rfl⟩) (by assumption) ?_
        try simp only [Act.put, List.setIfInBounds_toArray, List.set_cons_zero, List.set_cons_succ, List.getElem_toArray, List.getElem_cons_succ, List.getElem_cons_zero]
        refine wpAnyH_take (i := 23) (v := undef) rfl (by kernel_rfl) (by kernel_rfl) (by kernel_rfl) (fun _ _ _ h => h) (Or.inr ⟨by rfl, rfl⟩) (by assumption) ?_
        try simp only [Act.put, List.setIfInBounds_toArray, List.set_cons_zero, List.set_cons_succ, List.getElem_toArray, List.getElem_cons_succ, List.getElem_cons_zero]
        refine wpAnyH_take (i := 24) (v := undef) rfl (by kernel_rfl) (by kernel_rfl) (by kernel_rfl) (fun _ _ _ h => h) (Or.inr ⟨by rfl, rfl⟩) (by assumption) ?_
        try simp only [Act.put, List.setIfInBounds_toArray, List.set_cons_zero, List.set_cons_succ, List.getElem_toArray, List.getElem_cons_succ, List.getElem_cons_zero]
        refine wpAnyH_take (i := 25) (v := undef) rfl (by kernel_rfl) (by kernel_rfl) (by kernel_rfl) (fun _ _ _ h => h) (Or.inr ⟨by rfl, rfl⟩) (by assumption) ?_
        try simp only [Act.put, List.setIfInBounds_toArray, List.set_cons_zero, List.set_cons_succ, List.getElem_toArray, List.getElem_cons_succ, List.getElem_cons_zero]
        refine wpAnyH_take (i := 26) (v := undef) rfl (by kernel_rfl) (by kernel_rfl) (by kernel_rfl) (fun _ _ _ h => h) (Or.inr ⟨by rfl, rfl⟩) (by assumption) ?_
        try simp only [Act.put, List.setIfInBounds_toArray, List.set_cons_zero, List.set_cons_succ, List.getElem_toArray, List.getElem_cons_succ, List.getElem_cons_zero]
        refine wpAnyH_take (i := 27) (v := ?vx28_27) rfl (by kernel_rfl) (by kernel_rfl) (by kernel_rfl) (fun _ _ _ h => h) (Or.inl ⟨by rfl, ?hyx28_27⟩) (by assumption) ?restx28_27
        case hyx28_27 => (intro w hSw; have F := Ok.sees hSw; clear hSw; simp only [sees, kBlk, kCells, cellsFrom, Nat.add_zero, cellsAt, Nat.reduceAdd] at F; go_simp; try with_reducible rfl)
        try simp only [Act.put, List.setIfInBounds_toArray, List.set_cons_zero, List.set_cons_succ, List.getElem_toArray, List.getElem_cons_succ, List.getElem_cons_zero]
        refine wpAnyH_take (i := 28) (v := ?vx29_28) rfl (by kernel_rfl) (by kernel_rfl) (by kernel_rfl) (fun _ _ _ h => h) (Or.inl ⟨by rfl, ?hyx29_28⟩) (by assumption) ?restx29_28
        case hyx29_28 => (intro w hSw; have F := Ok.sees hSw; clear hSw; simp only [sees, kBlk, kCells, cellsFrom, Nat.add_zero, cellsAt, Nat.reduceAdd] at F; go_simp; try with_reducible rfl)
        try simp only [Act.put, List.setIfInBounds_toArray, List.set_cons_zero, List.set_cons_succ, List.getElem_toArray, List.getElem_cons_succ, List.getElem_cons_zero]
        refine wpAnyH_take (i := 29) (v := undef) rfl (by kernel_rfl) (by kernel_rfl) (by kernel_rfl) (fun _ _ _ h => h) (Or.inr ⟨by rfl, rfl⟩) (by assumption) ?_
        try simp only [Act.put, List.setIfInBounds_toArray, List.set_cons_zero, List.set_cons_succ, List.getElem_toArray, List.getElem_cons_succ, List.getElem_cons_zero]
        refine wpAnyH_take (i := 30) (v := undef) rfl (by kernel_rfl) (by kernel_rfl) (by kernel_rfl) (fun _ _ _ h => h) (Or.inr ⟨by rfl, rfl⟩) (by assumption) ?_
        try simp only [Act.put, List.setIfInBounds_toArray, List.set_cons_zero, List.set_cons_succ, List.getElem_toArray, List.getElem_cons_succ, List.getElem_cons_zero]
        refine wpAnyH_take (i := 31) (v := undef) rfl (by kernel_rfl) (by kernel_rfl) (by kernel_rfl) (fun _ _ _ h => h) (Or.inr ⟨by rfl, rfl⟩) (by assumption) ?_
        try simp only [Act.put, List.setIfInBounds_toArray, List.set_cons_zero, List.set_cons_succ, List.getElem_toArray, List.getElem_cons_succ, List.getElem_cons_zero]
        refine wpAnyH_take (i := 32) (v := undef) rfl (by kernel_rfl) (by kernel_rfl) (by kernel_rfl) (fun _ _ _ h => h) (Or.inr ⟨by rfl, rfl⟩) (by assumption) ?_
        try simp only [Act.put, List.setIfInBounds_toArray, List.set_cons_zero, List.set_cons_succ, List.getElem_toArray, List.getElem_cons_succ, List.getElem_cons_zero]
        refine wpAnyH_take (i := 33) (v := undef) rfl (by kernel_rfl) (by kernel_rfl) (by kernel_rfl) (fun _ _ _ h => h) (Or.inr ⟨by rfl, rfl⟩) (by assumption) ?_
        try simp only [Act.put, List.setIfInBounds_toArray, List.set_cons_zero, List.set_cons_succ, List.getElem_toArray, List.getElem_cons_succ, List.getElem_cons_zero]
        refine wpAnyH_take (i := 34) (v := undef) rfl (by kernel_rfl) (by kernel_rfl) (by kernel_rfl) (fun _ _ _ h => h) (Or.inr ⟨by rfl, rfl⟩) (by assumption) ?_
        try simp only [Act.put, List.setIfInBounds_toArray, List.set_cons_zero, List.set_cons_succ, List.getElem_toArray, List.getElem_cons_succ, List.getElem_cons_zero]
        refine wpAnyH_take (i := 35) (v := undef) rfl (by kernel_rfl) (by kernel_rfl) (by kernel_rfl) (fun _ _ _ h => h) (Or.inr ⟨by rfl, rfl⟩) (by assumption) ?_
        try simp only [Act.put, List.setIfInBounds_toArray, List.set_cons_zero, List.set_cons_succ, List.getElem_toArray, List.getElem_cons_succ, List.getElem_cons_zero]
        refine wpAnyH_take (i := 36) (v := undef) rfl (by kernel_rfl) (by kernel_rfl) (by kernel_rfl) (fun _ _ _ h => h) (Or.inr ⟨by rfl, rfl⟩) (by assumption) ?_
        try simp only [Act.put, List.setIfInBounds_toArray, List.set_cons_zero, List.set_cons_succ, List.getElem_toArray, List.getElem_cons_succ, List.getElem_cons_zero]
        refine wpAnyH_take (i := 37) (v := ?vx38_37) rfl (by kernel_rfl) (by kernel_rfl) (by kernel_rfl) (fun _ _ _ h => h) (Or.inl ⟨by rfl, ?hyx38_37⟩) (by assumption) ?restx38_37
        case hyx38_37 => (intro w hSw; have F := Ok.sees hSw; clear hSw; simp only [sees, kBlk, kCells, cellsFrom, Nat.add_zero, cellsAt, Nat.reduceAdd] at F; go_simp; try with_reducible rfl)
        try simp only [Act.put, List.setIfInBounds_toArray, List.set_cons_zero, List.set_cons_succ, List.getElem_toArray, List.getElem_cons_succ, List.getElem_cons_zero]
        refine wpAnyH_done (by kernel_rfl) ?_ _
        clear z0 c0_0 c0_1 c0_2 c0_3 z1 c1_0 c1_1
        clear H1
        have H4 := Lib.hid hHeld
        clear hHeld
        go_wp2_with fail
        go_roundw
        case rel => exact ⟨k + 1, by omega, by go_num, by show _ = _; rw [inF, HI.out, HQ.out, HV.out]; rfl, H4.out.tail⟩
        case measure => simp [intOf]; omega
      · have HV := Lib.hid hv
        clear hv H
        have F2 := H1.out.sees
        simp only [sees, kBlk, kCells, cellsFrom, Nat.add_zero, cellsAt, Nat.reduceAdd] at F2
        obtain ⟨⟨z0, c0_0, c0_1, c0_2, c0_3, -⟩, ⟨z1, c1_0, c1_1, -⟩, -, -⟩ := F2
        go_wp2_with fail
        refine wp_region_held_drew (S := fun W => Ok w [kCells b (o + k * 4) [.int .i64 q1, .int .i64 q2, .int .i64 q3, .int .i64 q4], kBlk (w.heap.size) 23 [.int .i64 x, .int .i64 y], kRects w.heap.size (some ⟨b, o, none⟩) n f] W) (by kernel_rfl) H1.out.drew (fun hHeld => ?_)
        refine wpAnyH_take (i := 0) (v := ?vx39_0) rfl (by kernel_rfl) (by kernel_rfl) (by kernel_rfl) (fun _ _ _ h => h) (Or.inl ⟨by rfl, ?hyx39_0⟩) (by assumption) ?restx39_0
        case hyx39_0 => (intro w hSw; have F := Ok.sees hSw; clear hSw; simp only [sees, kBlk, kCells, cellsFrom, Nat.add_zero, cellsAt, Nat.reduceAdd] at F; go_simp; try with_reducible rfl)
        try simp only [Act.put, List.setIfInBounds_toArray, List.set_cons_zero, List.set_cons_succ, List.getElem_toArray, List.getElem_cons_zero]
        refine wpAnyH_take (i := 1) (v := ?vx40_1) rfl (by kernel_rfl) (by kernel_rfl) (by kernel_rfl) (fun _ _ _ h => h) (Or.inl ⟨by rfl, ?hyx40_1⟩) (by assumption) ?restx40_1
        case hyx40_1 => (intro w hSw; have F := Ok.sees hSw; clear hSw; simp only [sees, kBlk, kCells, cellsFrom, Nat.add_zero, cellsAt, Nat.reduceAdd] at F; go_simp; try with_reducible rfl)
        try simp only [Act.put, List.setIfInBounds_toArray, List.set_cons_zero, List.set_cons_succ, List.getElem_toArray, List.getElem_cons_succ, List.getElem_cons_zero]
        refine wpAnyH_take (i := 2) (v := ?vx41_2) rfl (by kernel_rfl) (by kernel_rfl) (by kernel_rfl) (fun _ _ _ h => h) (Or.inl ⟨by rfl, ?hyx41_2⟩) (by assumption) ?restx41_2
        case hyx41_2 => (intro w hSw; have F := Ok.sees hSw; clear hSw; simp only [sees, kBlk, kCells, cellsFrom, Nat.add_zero, cellsAt, Nat.reduceAdd] at F; go_simp; try with_reducible rfl)
        try simp only [Act.put, List.setIfInBounds_toArray, List.set_cons_zero, List.set_cons_succ, List.getElem_toArray, List.getElem_cons_succ, List.getElem_cons_zero]
        refine wpAnyH_take (i := 3) (v := ?vx42_3) rfl (by kernel_rfl) (by kernel_rfl) (by kernel_rfl) (fun _ _ _ h => h) (Or.inl ⟨by rfl, ?hyx42_3⟩) (by assumption) ?restx42_3
        case hyx42_3 => (intro w hSw; have F := Ok.sees hSw; clear hSw; simp only [sees, kBlk, kCells, cellsFrom, Nat.add_zero, cellsAt, Nat.reduceAdd] at F; go_simp; try with_reducible rfl)
        try simp only [Act.put, List.setIfInBounds_toArray, List.set_cons_zero, List.set_cons_succ, List.getElem_toArray, List.getElem_cons_succ, List.getElem_cons_zero]
        refine wpAnyH_take (i := 4) (v := ?vx43_4) rfl (by kernel_rfl) (by kernel_rfl) (by kernel_rfl) (fun _ _ _ h => h) (Or.inl ⟨by rfl, ?hyx43_4⟩) (by assumption) ?restx43_4
        case hyx43_4 => (intro w hSw; have F := Ok.sees hSw; clear hSw; simp only [sees, kBlk, kCells, cellsFrom, Nat.add_zero, cellsAt, Nat.reduceAdd] at F; go_simp; try with_reducible rfl)
        try simp only [Act.put, List.setIfInBounds_toArray, List.set_cons_zero, List.set_cons_succ, List.getElem_toArray, List.getElem_cons_succ, List.getElem_cons_zero]
        refine wpAnyH_take (i := 5) (v := ?vx44_5) rfl (by kernel_rfl) (by kernel_rfl) (by kernel_rfl) (fun _ _ _ h => h) (Or.inl ⟨by rfl, ?hyx44_5⟩) (by assumption) ?restx44_5
        case hyx44_5 => (intro w hSw; have F := Ok.sees hSw; clear hSw; simp only [sees, kBlk, kCells, cellsFrom, Nat.add_zero, cellsAt, Nat.reduceAdd] at F; go_simp; try with_reducible rfl)
        try simp only [Act.put, List.setIfInBounds_toArray, List.set_cons_zero, List.set_cons_succ, List.getElem_toArray, List.getElem_cons_succ, List.getElem_cons_zero]
        refine wpAnyH_take (i := 6) (v := ?vx45_6) rfl (by kernel_rfl) (by kernel_rfl) (by kernel_rfl) (fun _ _ _ h => h) (Or.inl ⟨by rfl, ?hyx45_6⟩) (by assumption) ?restx45_6
        case hyx45_6 => (intro w hSw; have F := Ok.sees hSw; clear hSw; simp only [sees, kBlk, kCells, cellsFrom, Nat.add_zero, cellsAt, Nat.reduceAdd] at F; go_simp; try with_reducible rfl)
        try simp only [Act.put, List.setIfInBounds_toArray, List.set_cons_zero, List.set_cons_succ, List.getElem_toArray, List.getElem_cons_succ, List.getElem_cons_zero]
        refine wpAnyH_take (i := 7) (v := ?vx46_7) rfl (by kernel_rfl) (by kernel_rfl) (by kernel_rfl) (fun _ _ _ h => h) (Or.inl ⟨by rfl, ?hyx46_7⟩) (by assumption) ?restx46_7
        case hyx46_7 => (intro w hSw; have F := Ok.sees hSw; clear hSw; simp only [sees, kBlk, kCells, cellsFrom, Nat.add_zero, cellsAt, Nat.reduceAdd] at F; go_simp; try with_reducible rfl)
        try simp only [Act.put, List.setIfInBounds_toArray, List.set_cons_zero, List.set_cons_succ, List.getElem_toArray, List.getElem_cons_succ, List.getElem_cons_zero]
        refine wpAnyH_take (i := 8) (v := ?vx47_8) rfl (by kernel_rfl) (by kernel_rfl) (by kernel_rfl) (fun _ _ _ h => h) (Or.inl ⟨by rfl, ?hyx47_8⟩) (by assumption) ?restx47_8
        case hyx47_8 => (intro w hSw; have F := Ok.sees hSw; clear hSw; simp only [sees, kBlk, kCells, cellsFrom, Nat.add_zero, cellsAt, Nat.reduceAdd] at F; go_simp; try with_reducible rfl)
        try simp only [Act.put, List.setIfInBounds_toArray, List.set_cons_zero, List.set_cons_succ, List.getElem_toArray, List.getElem_cons_succ, List.getElem_cons_zero]
        refine wpAnyH_take (i := 9) (v := ?vx48_9) rfl (by kernel_rfl) (by kernel_rfl) (by kernel_rfl) (fun _ _ _ h => h) (Or.inl ⟨by rfl, ?hyx48_9⟩) (by assumption) ?restx48_9
        case hyx48_9 => (intro w hSw; have F := Ok.sees hSw; clear hSw; simp only [sees, kBlk, kCells, cellsFrom, Nat.add_zero, cellsAt, Nat.reduceAdd] at F; go_simp; try with_reducible rfl)
        try simp only [Act.put, List.setIfInBounds_toArray, List.set_cons_zero, List.set_cons_succ, List.getElem_toArray, List.getElem_cons_succ, List.getElem_cons_zero]
        refine wpAnyH_take (i := 10) (v := ?vx49_10) rfl (by kernel_rfl) (by kernel_rfl) (by kernel_rfl) (fun _ _ _ h => h) (Or.inl ⟨by rfl, ?hyx49_10⟩) (by assumption) ?restx49_10
        case hyx49_10 => (intro w hSw; have F := Ok.sees hSw; clear hSw; simp only [sees, kBlk, kCells, cellsFrom, Nat.add_zero, cellsAt, Nat.reduceAdd] at F; go_simp; try with_reducible rfl)
        try simp only [Act.put, List.setIfInBounds_toArray, List.set_cons_zero, List.set_cons_succ, List.getElem_toArray, List.getElem_cons_succ, List.getElem_cons_zero]
        refine wpAnyH_take (i := 11) (v := ?vx50_11) rfl (by kernel_rfl) (by kernel_rfl) (by kernel_rfl) (fun _ _ _ h => h) (Or.inl ⟨by rfl, ?hyx50_11⟩) (by assumption) ?restx50_11
        case hyx50_11 => (intro w hSw; have F := Ok.sees hSw; clear hSw; simp only [sees, kBlk, kCells, cellsFrom, Nat.add_zero, cellsAt, Nat.reduceAdd] at F; go_simp; try with_reducible rfl)
        try simp only [Act.put, List.setIfInBounds_toArray, List.set_cons_zero, List.set_cons_succ, List.getElem_toArray, List.getElem_cons_succ, List.getElem_cons_zero]
        refine wpAnyH_take (i := 12) (v := ?vx51_12) rfl (by kernel_rfl) (by kernel_rfl) (by kernel_rfl) (fun _ _ _ h => h) (Or.inl ⟨by rfl, ?hyx51_12⟩) (by assumption) ?restx51_12
        case hyx51_12 => (intro w hSw; have F := Ok.sees hSw; clear hSw; simp only [sees, kBlk, kCells, cellsFrom, Nat.add_zero, cellsAt, Nat.reduceAdd] at F; go_simp; try with_reducible rfl)
        try simp only [Act.put, List.setIfInBounds_toArray, List.set_cons_zero, List.set_cons_succ, List.getElem_toArray, List.getElem_cons_succ, List.getElem_cons_zero]
        refine wpAnyH_take (i := 13) (v := ?vx52_13) rfl (by kernel_rfl) (by kernel_rfl) (by kernel_rfl) (fun _ _ _ h => h) (Or.inl ⟨by rfl, ?hyx52_13⟩) (by assumption) ?restx52_13
        case hyx52_13 => (intro w hSw; have F := Ok.sees hSw; clear hSw; simp only [sees, kBlk, kCells, cellsFrom, Nat.add_zero, cellsAt, Nat.reduceAdd] at F; go_simp; try with_reducible rfl)
        try simp only [Act.put, List.setIfInBounds_toArray, List.set_cons_zero, List.set_cons_succ, List.getElem_toArray, List.getElem_cons_succ, List.getElem_cons_zero]
        refine wpAnyH_take (i := 14) (v := ?vx53_14) rfl (by kernel_rfl) (by kernel_rfl) (by kernel_rfl) (fun _ _ _ h => h) (Or.inl ⟨by rfl, ?hyx53_14⟩) (by assumption) ?restx53_14
        case hyx53_14 => (intro w hSw; have F := Ok.sees hSw; clear hSw; simp only [sees, kBlk, kCells, cellsFrom, Nat.add_zero, cellsAt, Nat.reduceAdd] at F; go_simp; try with_reducible rfl)
        try simp only [Act.put, List.setIfInBounds_toArray, List.set_cons_zero, List.set_cons_succ, List.getElem_toArray, List.getElem_cons_succ, List.getElem_cons_zero]
        refine wpAnyH_take (i := 15) (v := ?vx54_15) rfl (by kernel_rfl) (by kernel_rfl) (by kernel_rfl) (fun _ _ _ h => h) (Or.inl ⟨by rfl, ?hyx54_15⟩) (by assumption) ?restx54_15
        case hyx54_15 => (intro w hSw; have F := Ok.sees hSw; clear hSw; simp only [sees, kBlk, kCells, cellsFrom, Nat.add_zero, cellsAt, Nat.reduceAdd] at F; go_simp; try with_reducible rfl)
        try simp only [Act.put, List.setIfInBounds_toArray, List.set_cons_zero, List.set_cons_succ, List.getElem_toArray, List.getElem_cons_succ, List.getElem_cons_zero]
        refine wpAnyH_take (i := 16) (v := ?vx55_16) rfl (by kernel_rfl) (by kernel_rfl) (by kernel_rfl) (fun _ _ _ h => h) (Or.inl ⟨by rfl, ?hyx55_16⟩) (by assumption) ?restx55_16
        case hyx55_16 => (intro w hSw; have F := Ok.sees hSw; clear hSw; simp only [sees, kBlk, kCells, cellsFrom, Nat.add_zero, cellsAt, Nat.reduceAdd] at F; go_simp; try with_reducible rfl)
        try simp only [Act.put, List.setIfInBounds_toArray, List.set_cons_zero, List.set_cons_succ, List.getElem_toArray, List.getElem_cons_succ, List.getElem_cons_zero]
        refine wpAnyH_take (i := 17) (v := ?vx56_17) rfl (by kernel_rfl) (by kernel_rfl) (by kernel_rfl) (fun _ _ _ h => h) (Or.inl ⟨by rfl, ?hyx56_17⟩) (by assumption) ?restx56_17
        case hyx56_17 => (intro w hSw; have F := Ok.sees hSw; clear hSw; simp only [sees, kBlk, kCells, cellsFrom, Nat.add_zero, cellsAt, Nat.reduceAdd] at F; go_simp; try with_reducible rfl)
        try simp only [Act.put, List.setIfInBounds_toArray, List.set_cons_zero, List.set_cons_succ, List.getElem_toArray, List.getElem_cons_succ, List.getElem_cons_zero]
        refine wpAnyH_take (i := 18) (v := ?vx57_18) rfl (by kernel_rfl) (by kernel_rfl) (by kernel_rfl) (fun _ _ _ h => h) (Or.inl ⟨by rfl, ?hyx57_18⟩) (by assumption) ?restx57_18
        case hyx57_18 => (intro w hSw; have F := Ok.sees hSw; clear hSw; simp only [sees, kBlk, kCells, cellsFrom, Nat.add_zero, cellsAt, Nat.reduceAdd] at F; go_simp; try with_reducible rfl)
        try simp only [Act.put, List.setIfInBounds_toArray, List.set_cons_zero, List.set_cons_succ, List.getElem_toArray, List.getElem_cons_succ, List.getElem_cons_zero]
        refine wpAnyH_take (i := 19) (v := undef) rfl (by kernel_rfl) (by kernel_rfl) (by kernel_rfl) (fun _ _ _ h => h) (Or.inr ⟨by rfl, rfl⟩) (by assumption) ?_
        try simp only [Act.put, List.setIfInBounds_toArray, List.set_cons_zero, List.set_cons_succ, List.getElem_toArray, List.getElem_cons_succ, List.getElem_cons_zero]
        refine wpAnyH_take (i := 20) (v := undef) rfl (by kernel_rfl) (by kernel_rfl) (by kernel_rfl) (fun _ _ _ h => h) (Or.inr ⟨by rfl, rfl⟩) (by assumption) ?_
        try simp only [Act.put, List.setIfInBounds_toArray, List.set_cons_zero, List.set_cons_succ, List.getElem_toArray, List.getElem_cons_succ, List.getElem_cons_zero]
        refine wpAnyH_take (i := 21) (v := undef) rfl (by kernel_rfl) (by kernel_rfl) (by kernel_rfl) (fun _ _ _ h => h) (Or.inr ⟨by rfl, rfl⟩) (by assumption) ?_
        try simp only [Act.put, List.setIfInBounds_toArray, List.set_cons_zero, List.set_cons_succ, List.getElem_toArray, List.getElem_cons_succ, List.getElem_cons_zero]
        refine wpAnyH_take (i := 22) (v := undef) rfl (by kernel_rfl) (by kernel_rfl) (by kernel_rfl) (fun _ _ _ h => h) (Or.inr ⟨by rfl, rfl⟩) (by assumption) ?_
        try simp only [Act.put, List.setIfInBounds_toArray, List.set_cons_zero, List.set_cons_succ, List.getElem_toArray, List.getElem_cons_succ, List.getElem_cons_zero]
        refine wpAnyH_take (i := 23) (v := undef) rfl (by kernel_rfl) (by kernel_rfl) (by kernel_rfl) (fun _ _ _ h => h) (Or.inr ⟨by rfl, rfl⟩) (by assumption) ?_
        try simp only [Act.put, List.setIfInBounds_toArray, List.set_cons_zero, List.set_cons_succ, List.getElem_toArray, List.getElem_cons_succ, List.getElem_cons_zero]
        refine wpAnyH_take (i := 24) (v := undef) rfl (by kernel_rfl) (by kernel_rfl) (by kernel_rfl) (fun _ _ _ h => h) (Or.inr ⟨by rfl, rfl⟩) (by assumption) ?_
        try simp only [Act.put, List.setIfInBounds_toArray, List.set_cons_zero, List.set_cons_succ, List.getElem_toArray, List.getElem_cons_succ, List.getElem_cons_zero]
        refine wpAnyH_take (i := 25) (v := undef) rfl (by kernel_rfl) (by kernel_rfl) (by kernel_rfl) (fun _ _ _ h => h) (Or.inr ⟨by rfl, rfl⟩) (by assumption) ?_
        try simp only [Act.put, List.setIfInBounds_toArray, List.set_cons_zero, List.set_cons_succ, List.getElem_toArray, List.getElem_cons_succ, List.getElem_cons_zero]
        refine wpAnyH_take (i := 26) (v := undef) rfl (by kernel_rfl) (by kernel_rfl) (by kernel_rfl) (fun _ _ _ h => h) (Or.inr ⟨by rfl, rfl⟩) (by assumption) ?_
        try simp only [Act.put, List.setIfInBounds_toArray, List.set_cons_zero, List.set_cons_succ, List.getElem_toArray, List.getElem_cons_succ, List.getElem_cons_zero]
        refine wpAnyH_take (i := 27) (v := ?vx66_27) rfl (by kernel_rfl) (by kernel_rfl) (by kernel_rfl) (fun _ _ _ h => h) (Or.inl ⟨by rfl, ?hyx66_27⟩) (by assumption) ?restx66_27
        case hyx66_27 => (intro w hSw; have F := Ok.sees hSw; clear hSw; simp only [sees, kBlk, kCells, cellsFrom, Nat.add_zero, cellsAt, Nat.reduceAdd] at F; go_simp; try with_reducible rfl)
        try simp only [Act.put, List.setIfInBounds_toArray, List.set_cons_zero, List.set_cons_succ, List.getElem_toArray, List.getElem_cons_succ, List.getElem_cons_zero]
        refine wpAnyH_take (i := 28) (v := ?vx67_28) rfl (by kernel_rfl) (by kernel_rfl) (by kernel_rfl) (fun _ _ _ h => h) (Or.inl ⟨by rfl, ?hyx67_28⟩) (by assumption) ?restx67_28
        case hyx67_28 => (intro w hSw; have F := Ok.sees hSw; clear hSw; simp only [sees, kBlk, kCells, cellsFrom, Nat.add_zero, cellsAt, Nat.reduceAdd] at F; go_simp; try with_reducible rfl)
        try simp only [Act.put, List.setIfInBounds_toArray, List.set_cons_zero, List.set_cons_succ, List.getElem_toArray, List.getElem_cons_succ, List.getElem_cons_zero]
        refine wpAnyH_take (i := 29) (v := undef) rfl (by kernel_rfl) (by kernel_rfl) (by kernel_rfl) (fun _ _ _ h => h) (Or.inr ⟨by rfl, rfl⟩) (by assumption) ?_
        try simp only [Act.put, List.setIfInBounds_toArray, List.set_cons_zero, List.set_cons_succ, List.getElem_toArray, List.getElem_cons_succ, List.getElem_cons_zero]
        refine wpAnyH_take (i := 30) (v := undef) rfl (by kernel_rfl) (by kernel_rfl) (by kernel_rfl) (fun _ _ _ h => h) (Or.inr ⟨by rfl, rfl⟩) (by assumption) ?_
        try simp only [Act.put, List.setIfInBounds_toArray, List.set_cons_zero, List.set_cons_succ, List.getElem_toArray, List.getElem_cons_succ, List.getElem_cons_zero]
        refine wpAnyH_take (i := 31) (v := undef) rfl (by kernel_rfl) (by kernel_rfl) (by kernel_rfl) (fun _ _ _ h => h) (Or.inr ⟨by rfl, rfl⟩) (by assumption) ?_
        try simp only [Act.put, List.setIfInBounds_toArray, List.set_cons_zero, List.set_cons_succ, List.getElem_toArray, List.getElem_cons_succ, List.getElem_cons_zero]
        refine wpAnyH_take (i := 32) (v := undef) rfl (by kernel_rfl) (by kernel_rfl) (by kernel_rfl) (fun _ _ _ h => h) (Or.inr ⟨by rfl, rfl⟩) (by assumption) ?_
        try simp only [Act.put, List.setIfInBounds_toArray, List.set_cons_zero, List.set_cons_succ, List.getElem_toArray, List.getElem_cons_succ, List.getElem_cons_zero]
        refine wpAnyH_take (i := 33) (v := undef) rfl (by kernel_rfl) (by kernel_rfl) (by kernel_rfl) (fun _ _ _ h => h) (Or.inr ⟨by rfl, rfl⟩) (by assumption) ?_
        try simp only [Act.put, List.setIfInBounds_toArray, List.set_cons_zero, List.set_cons_succ, List.getElem_toArray, List.getElem_cons_succ, List.getElem_cons_zero]
        refine wpAnyH_take (i := 34) (v := undef) rfl (by kernel_rfl) (by kernel_rfl) (by kernel_rfl) (fun _ _ _ h => h) (Or.inr ⟨by rfl, rfl⟩) (by assumption) ?_
        try simp only [Act.put, List.setIfInBounds_toArray, List.set_cons_zero, List.set_cons_succ, List.getElem_toArray, List.getElem_cons_succ, List.getElem_cons_zero]
        refine wpAnyH_take (i := 35) (v := undef) rfl (by kernel_rfl) (by kernel_rfl) (by kernel_rfl) (fun _ _ _ h => h) (Or.inr ⟨by rfl, rfl⟩) (by assumption) ?_
        try simp only [Act.put, List.setIfInBounds_toArray, List.set_cons_zero, List.set_cons_succ, List.getElem_toArray, List.getElem_cons_succ, List.getElem_cons_zero]
        refine wpAnyH_take (i := 36) (v := undef) rfl (by kernel_rfl) (by kernel_rfl) (by kernel_rfl) (fun _ _ _ h => h) (Or.inr ⟨by rfl, rfl⟩) (by assumption) ?_
        try simp only [Act.put, List.setIfInBounds_toArray, List.set_cons_zero, List.set_cons_succ, List.getElem_toArray, List.getElem_cons_succ, List.getElem_cons_zero]
        refine wpAnyH_take (i := 37) (v := ?vx76_37) rfl (by kernel_rfl) (by kernel_rfl) (by kernel_rfl) (fun _ _ _ h => h) (Or.inl ⟨by rfl, ?hyx76_37⟩) (by assumption) ?restx76_37
        case hyx76_37 => (intro w hSw; have F := Ok.sees hSw; clear hSw; simp only [sees, kBlk, kCells, cellsFrom, Nat.add_zero, cellsAt, Nat.reduceAdd] at F; go_simp; try with_reducible rfl)
        try simp only [Act.put, List.setIfInBounds_toArray, List.set_cons_zero, List.set_cons_succ, List.getElem_toArray, List.getElem_cons_succ, List.getElem_cons_zero]
        refine wpAnyH_done (by kernel_rfl) ?_ _
        clear z0 c0_0 c0_1 c0_2 c0_3 z1 c1_0 c1_1
        clear H1
        have H4 := Lib.hid hHeld
        clear hHeld
        go_wp2_with fail
        go_roundw
        case rel => exact ⟨k + 1, by omega, by go_num, by show _ = _; rw [inF, HI.out, HQ.out, HV.out]; rfl, H4.out.tail⟩
        case measure => simp [intOf]; omega
      · have HV := Lib.hid hv
        clear hv H
        have F2 := H1.out.sees
        simp only [sees, kBlk, kCells, cellsFrom, Nat.add_zero, cellsAt, Nat.reduceAdd] at F2
        obtain ⟨⟨z0, c0_0, c0_1, c0_2, c0_3, -⟩, ⟨z1, c1_0, c1_1, -⟩, -, -⟩ := F2
        go_wp2_with fail
        refine wp_region_held_drew (S := fun W => Ok w [kCells b (o + k * 4) [.int .i64 q1, .int .i64 q2, .int .i64 q3, .int .i64 q4], kBlk (w.heap.size) 23 [.int .i64 x, .int .i64 y], kRects w.heap.size (some ⟨b, o, none⟩) n f] W) (by kernel_rfl) H1.out.drew (fun hHeld => ?_)
        refine wpAnyH_take (i := 0) (v := ?vx77_0) rfl (by kernel_rfl) (by kernel_rfl) (by kernel_rfl) (fun _ _ _ h => h) (Or.inl ⟨by rfl, ?hyx77_0⟩) (by assumption) ?restx77_0
        case hyx77_0 => (intro w hSw; have F := Ok.sees hSw; clear hSw; simp only [sees, kBlk, kCells, cellsFrom, Nat.add_zero, cellsAt, Nat.reduceAdd] at F; go_simp; try with_reducible rfl)
        try simp only [Act.put, List.setIfInBounds_toArray, List.set_cons_zero, List.set_cons_succ, List.getElem_toArray, List.getElem_cons_zero]
        refine wpAnyH_take (i := 1) (v := ?vx78_1) rfl (by kernel_rfl) (by kernel_rfl) (by kernel_rfl) (fun _ _ _ h => h) (Or.inl ⟨by rfl, ?hyx78_1⟩) (by assumption) ?restx78_1
        case hyx78_1 => (intro w hSw; have F := Ok.sees hSw; clear hSw; simp only [sees, kBlk, kCells, cellsFrom, Nat.add_zero, cellsAt, Nat.reduceAdd] at F; go_simp; try with_reducible rfl)
        try simp only [Act.put, List.setIfInBounds_toArray, List.set_cons_zero, List.set_cons_succ, List.getElem_toArray, List.getElem_cons_succ, List.getElem_cons_zero]
        refine wpAnyH_take (i := 2) (v := ?vx79_2) rfl (by kernel_rfl) (by kernel_rfl) (by kernel_rfl) (fun _ _ _ h => h) (Or.inl ⟨by rfl, ?hyx79_2⟩) (by assumption) ?restx79_2
        case hyx79_2 => (intro w hSw; have F := Ok.sees hSw; clear hSw; simp only [sees, kBlk, kCells, cellsFrom, Nat.add_zero, cellsAt, Nat.reduceAdd] at F; go_simp; try with_reducible rfl)
        try simp only [Act.put, List.setIfInBounds_toArray, List.set_cons_zero, List.set_cons_succ, List.getElem_toArray, List.getElem_cons_succ, List.getElem_cons_zero]
        refine wpAnyH_take (i := 3) (v := ?vx80_3) rfl (by kernel_rfl) (by kernel_rfl) (by kernel_rfl) (fun _ _ _ h => h) (Or.inl ⟨by rfl, ?hyx80_3⟩) (by assumption) ?restx80_3
        case hyx80_3 => (intro w hSw; have F := Ok.sees hSw; clear hSw; simp only [sees, kBlk, kCells, cellsFrom, Nat.add_zero, cellsAt, Nat.reduceAdd] at F; go_simp; try with_reducible rfl)
        try simp only [Act.put, List.setIfInBounds_toArray, List.set_cons_zero, List.set_cons_succ, List.getElem_toArray, List.getElem_cons_succ, List.getElem_cons_zero]
        refine wpAnyH_take (i := 4) (v := ?vx81_4) rfl (by kernel_rfl) (by kernel_rfl) (by kernel_rfl) (fun _ _ _ h => h) (Or.inl ⟨by rfl, ?hyx81_4⟩) (by assumption) ?restx81_4
        case hyx81_4 => (intro w hSw; have F := Ok.sees hSw; clear hSw; simp only [sees, kBlk, kCells, cellsFrom, Nat.add_zero, cellsAt, Nat.reduceAdd] at F; go_simp; try with_reducible rfl)
        try simp only [Act.put, List.setIfInBounds_toArray, List.set_cons_zero, List.set_cons_succ, List.getElem_toArray, List.getElem_cons_succ, List.getElem_cons_zero]
        refine wpAnyH_take (i := 5) (v := ?vx82_5) rfl (by kernel_rfl) (by kernel_rfl) (by kernel_rfl) (fun _ _ _ h => h) (Or.inl ⟨by rfl, ?hyx82_5⟩) (by assumption) ?restx82_5
        case hyx82_5 => (intro w hSw; have F := Ok.sees hSw; clear hSw; simp only [sees, kBlk, kCells, cellsFrom, Nat.add_zero, cellsAt, Nat.reduceAdd] at F; go_simp; try with_reducible rfl)
        try simp only [Act.put, List.setIfInBounds_toArray, List.set_cons_zero, List.set_cons_succ, List.getElem_toArray, List.getElem_cons_succ, List.getElem_cons_zero]
        refine wpAnyH_take (i := 6) (v := ?vx83_6) rfl (by kernel_rfl) (by kernel_rfl) (by kernel_rfl) (fun _ _ _ h => h) (Or.inl ⟨by rfl, ?hyx83_6⟩) (by assumption) ?restx83_6
        case hyx83_6 => (intro w hSw; have F := Ok.sees hSw; clear hSw; simp only [sees, kBlk, kCells, cellsFrom, Nat.add_zero, cellsAt, Nat.reduceAdd] at F; go_simp; try with_reducible rfl)
        try simp only [Act.put, List.setIfInBounds_toArray, List.set_cons_zero, List.set_cons_succ, List.getElem_toArray, List.getElem_cons_succ, List.getElem_cons_zero]
        refine wpAnyH_take (i := 7) (v := ?vx84_7) rfl (by kernel_rfl) (by kernel_rfl) (by kernel_rfl) (fun _ _ _ h => h) (Or.inl ⟨by rfl, ?hyx84_7⟩) (by assumption) ?restx84_7
        case hyx84_7 => (intro w hSw; have F := Ok.sees hSw; clear hSw; simp only [sees, kBlk, kCells, cellsFrom, Nat.add_zero, cellsAt, Nat.reduceAdd] at F; go_simp; try with_reducible rfl)
        try simp only [Act.put, List.setIfInBounds_toArray, List.set_cons_zero, List.set_cons_succ, List.getElem_toArray, List.getElem_cons_succ, List.getElem_cons_zero]
        refine wpAnyH_take (i := 8) (v := ?vx85_8) rfl (by kernel_rfl) (by kernel_rfl) (by kernel_rfl) (fun _ _ _ h => h) (Or.inl ⟨by rfl, ?hyx85_8⟩) (by assumption) ?restx85_8
        case hyx85_8 => (intro w hSw; have F := Ok.sees hSw; clear hSw; simp only [sees, kBlk, kCells, cellsFrom, Nat.add_zero, cellsAt, Nat.reduceAdd] at F; go_simp; try with_reducible rfl)
        try simp only [Act.put, List.setIfInBounds_toArray, List.set_cons_zero, List.set_cons_succ, List.getElem_toArray, List.getElem_cons_succ, List.getElem_cons_zero]
        refine wpAnyH_take (i := 9) (v := ?vx86_9) rfl (by kernel_rfl) (by kernel_rfl) (by kernel_rfl) (fun _ _ _ h => h) (Or.inl ⟨by rfl, ?hyx86_9⟩) (by assumption) ?restx86_9
        case hyx86_9 => (intro w hSw; have F := Ok.sees hSw; clear hSw; simp only [sees, kBlk, kCells, cellsFrom, Nat.add_zero, cellsAt, Nat.reduceAdd] at F; go_simp; try with_reducible rfl)
        try simp only [Act.put, List.setIfInBounds_toArray, List.set_cons_zero, List.set_cons_succ, List.getElem_toArray, List.getElem_cons_succ, List.getElem_cons_zero]
        refine wpAnyH_take (i := 10) (v := ?vx87_10) rfl (by kernel_rfl) (by kernel_rfl) (by kernel_rfl) (fun _ _ _ h => h) (Or.inl ⟨by rfl, ?hyx87_10⟩) (by assumption) ?restx87_10
        case hyx87_10 => (intro w hSw; have F := Ok.sees hSw; clear hSw; simp only [sees, kBlk, kCells, cellsFrom, Nat.add_zero, cellsAt, Nat.reduceAdd] at F; go_simp; try with_reducible rfl)
        try simp only [Act.put, List.setIfInBounds_toArray, List.set_cons_zero, List.set_cons_succ, List.getElem_toArray, List.getElem_cons_succ, List.getElem_cons_zero]
        refine wpAnyH_take (i := 11) (v := ?vx88_11) rfl (by kernel_rfl) (by kernel_rfl) (by kernel_rfl) (fun _ _ _ h => h) (Or.inl ⟨by rfl, ?hyx88_11⟩) (by assumption) ?restx88_11
        case hyx88_11 => (intro w hSw; have F := Ok.sees hSw; clear hSw; simp only [sees, kBlk, kCells, cellsFrom, Nat.add_zero, cellsAt, Nat.reduceAdd] at F; go_simp; try with_reducible rfl)
        try simp only [Act.put, List.setIfInBounds_toArray, List.set_cons_zero, List.set_cons_succ, List.getElem_toArray, List.getElem_cons_succ, List.getElem_cons_zero]
        refine wpAnyH_take (i := 12) (v := ?vx89_12) rfl (by kernel_rfl) (by kernel_rfl) (by kernel_rfl) (fun _ _ _ h => h) (Or.inl ⟨by rfl, ?hyx89_12⟩) (by assumption) ?restx89_12
        case hyx89_12 => (intro w hSw; have F := Ok.sees hSw; clear hSw; simp only [sees, kBlk, kCells, cellsFrom, Nat.add_zero, cellsAt, Nat.reduceAdd] at F; go_simp; try with_reducible rfl)
        try simp only [Act.put, List.setIfInBounds_toArray, List.set_cons_zero, List.set_cons_succ, List.getElem_toArray, List.getElem_cons_succ, List.getElem_cons_zero]
        refine wpAnyH_take (i := 13) (v := ?vx90_13) rfl (by kernel_rfl) (by kernel_rfl) (by kernel_rfl) (fun _ _ _ h => h) (Or.inl ⟨by rfl, ?hyx90_13⟩) (by assumption) ?restx90_13
        case hyx90_13 => (intro w hSw; have F := Ok.sees hSw; clear hSw; simp only [sees, kBlk, kCells, cellsFrom, Nat.add_zero, cellsAt, Nat.reduceAdd] at F; go_simp; try with_reducible rfl)
        try simp only [Act.put, List.setIfInBounds_toArray, List.set_cons_zero, List.set_cons_succ, List.getElem_toArray, List.getElem_cons_succ, List.getElem_cons_zero]
        refine wpAnyH_take (i := 14) (v := ?vx91_14) rfl (by kernel_rfl) (by kernel_rfl) (by kernel_rfl) (fun _ _ _ h => h) (Or.inl ⟨by rfl, ?hyx91_14⟩) (by assumption) ?restx91_14
        case hyx91_14 => (intro w hSw; have F := Ok.sees hSw; clear hSw; simp only [sees, kBlk, kCells, cellsFrom, Nat.add_zero, cellsAt, Nat.reduceAdd] at F; go_simp; try with_reducible rfl)
        try simp only [Act.put, List.setIfInBounds_toArray, List.set_cons_zero, List.set_cons_succ, List.getElem_toArray, List.getElem_cons_succ, List.getElem_cons_zero]
        refine wpAnyH_take (i := 15) (v := ?vx92_15) rfl (by kernel_rfl) (by kernel_rfl) (by kernel_rfl) (fun _ _ _ h => h) (Or.inl ⟨by rfl, ?hyx92_15⟩) (by assumption) ?restx92_15
        case hyx92_15 => (intro w hSw; have F := Ok.sees hSw; clear hSw; simp only [sees, kBlk, kCells, cellsFrom, Nat.add_zero, cellsAt, Nat.reduceAdd] at F; go_simp; try with_reducible rfl)
        try simp only [Act.put, List.setIfInBounds_toArray, List.set_cons_zero, List.set_cons_succ, List.getElem_toArray, List.getElem_cons_succ, List.getElem_cons_zero]
        refine wpAnyH_take (i := 16) (v := ?vx93_16) rfl (by kernel_rfl) (by kernel_rfl) (by kernel_rfl) (fun _ _ _ h => h) (Or.inl ⟨by rfl, ?hyx93_16⟩) (by assumption) ?restx93_16
        case hyx93_16 => (intro w hSw; have F := Ok.sees hSw; clear hSw; simp only [sees, kBlk, kCells, cellsFrom, Nat.add_zero, cellsAt, Nat.reduceAdd] at F; go_simp; try with_reducible rfl)
        try simp only [Act.put, List.setIfInBounds_toArray, List.set_cons_zero, List.set_cons_succ, List.getElem_toArray, List.getElem_cons_succ, List.getElem_cons_zero]
        refine wpAnyH_take (i := 17) (v := ?vx94_17) rfl (by kernel_rfl) (by kernel_rfl) (by kernel_rfl) (fun _ _ _ h => h) (Or.inl ⟨by rfl, ?hyx94_17⟩) (by assumption) ?restx94_17
        case hyx94_17 => (intro w hSw; have F := Ok.sees hSw; clear hSw; simp only [sees, kBlk, kCells, cellsFrom, Nat.add_zero, cellsAt, Nat.reduceAdd] at F; go_simp; try with_reducible rfl)
        try simp only [Act.put, List.setIfInBounds_toArray, List.set_cons_zero, List.set_cons_succ, List.getElem_toArray, List.getElem_cons_succ, List.getElem_cons_zero]
        refine wpAnyH_take (i := 18) (v := ?vx95_18) rfl (by kernel_rfl) (by kernel_rfl) (by kernel_rfl) (fun _ _ _ h => h) (Or.inl ⟨by rfl, ?hyx95_18⟩) (by assumption) ?restx95_18
        case hyx95_18 => (intro w hSw; have F := Ok.sees hSw; clear hSw; simp only [sees, kBlk, kCells, cellsFrom, Nat.add_zero, cellsAt, Nat.reduceAdd] at F; go_simp; try with_reducible rfl)
        try simp only [Act.put, List.setIfInBounds_toArray, List.set_cons_zero, List.set_cons_succ, List.getElem_toArray, List.getElem_cons_succ, List.getElem_cons_zero]
        refine wpAnyH_take (i := 19) (v := ?vx96_19) rfl (by kernel_rfl) (by kernel_rfl) (by kernel_rfl) (fun _ _ _ h => h) (Or.inl ⟨by rfl, ?hyx96_19⟩) (by assumption) ?restx96_19
        case hyx96_19 => (intro w hSw; have F := Ok.sees hSw; clear hSw; simp only [sees, kBlk, kCells, cellsFrom, Nat.add_zero, cellsAt, Nat.reduceAdd] at F; go_simp; try with_reducible rfl)
        try simp only [Act.put, List.setIfInBounds_toArray, List.set_cons_zero, List.set_cons_succ, List.getElem_toArray, List.getElem_cons_succ, List.getElem_cons_zero]
        refine wpAnyH_take (i := 20) (v := ?vx97_20) rfl (by kernel_rfl) (by kernel_rfl) (by kernel_rfl) (fun _ _ _ h => h) (Or.inl ⟨by rfl, ?hyx97_20⟩) (by assumption) ?restx97_20
        case hyx97_20 => (intro w hSw; have F := Ok.sees hSw; clear hSw; simp only [sees, kBlk, kCells, cellsFrom, Nat.add_zero, cellsAt, Nat.reduceAdd] at F; go_simp; try with_reducible rfl)
        try simp only [Act.put, List.setIfInBounds_toArray, List.set_cons_zero, List.set_cons_succ, List.getElem_toArray, List.getElem_cons_succ, List.getElem_cons_zero]
        refine wpAnyH_take (i := 21) (v := ?vx98_21) rfl (by kernel_rfl) (by kernel_rfl) (by kernel_rfl) (fun _ _ _ h => h) (Or.inl ⟨by rfl, ?hyx98_21⟩) (by assumption) ?restx98_21
        case hyx98_21 => (intro w hSw; have F := Ok.sees hSw; clear hSw; simp only [sees, kBlk, kCells, cellsFrom, Nat.add_zero, cellsAt, Nat.reduceAdd] at F; go_simp; try with_reducible rfl)
        try simp only [Act.put, List.setIfInBounds_toArray, List.set_cons_zero, List.set_cons_succ, List.getElem_toArray, List.getElem_cons_succ, List.getElem_cons_zero]
        refine wpAnyH_take (i := 22) (v := ?vx99_22) rfl (by kernel_rfl) (by kernel_rfl) (by kernel_rfl) (fun _ _ _ h => h) (Or.inl ⟨by rfl, ?hyx99_22⟩) (by assumption) ?restx99_22
        case hyx99_22 => (intro w hSw; have F := Ok.sees hSw; clear hSw; simp only [sees, kBlk, kCells, cellsFrom, Nat.add_zero, cellsAt, Nat.reduceAdd] at F; go_simp; try with_reducible rfl)
        try simp only [Act.put, List.setIfInBounds_toArray, List.set_cons_zero, List.set_cons_succ, List.getElem_toArray, List.getElem_cons_succ, List.getElem_cons_zero]
        refine wpAnyH_take (i := 23) (v := ?vx100_23) rfl (by kernel_rfl) (by kernel_rfl) (by kernel_rfl) (fun _ _ _ h => h) (Or.inl ⟨by rfl, ?hyx100_23⟩) (by assumption) ?restx100_23
        case hyx100_23 => (intro w hSw; have F := Ok.sees hSw; clear hSw; simp only [sees, kBlk, kCells, cellsFrom, Nat.add_zero, cellsAt, Nat.reduceAdd] at F; go_simp; try with_reducible rfl)
        try simp only [Act.put, List.setIfInBounds_toArray, List.set_cons_zero, List.set_cons_succ, List.getElem_toArray, List.getElem_cons_succ, List.getElem_cons_zero]
        refine wpAnyH_take (i := 24) (v := ?vx101_24) rfl (by kernel_rfl) (by kernel_rfl) (by kernel_rfl) (fun _ _ _ h => h) (Or.inl ⟨by rfl, ?hyx101_24⟩) (by assumption) ?restx101_24
        case hyx101_24 => (intro w hSw; have F := Ok.sees hSw; clear hSw; simp only [sees, kBlk, kCells, cellsFrom, Nat.add_zero, cellsAt, Nat.reduceAdd] at F; go_simp; try with_reducible rfl)
        try simp only [Act.put, List.setIfInBounds_toArray, List.set_cons_zero, List.set_cons_succ, List.getElem_toArray, List.getElem_cons_succ, List.getElem_cons_zero]
        refine wpAnyH_take (i := 25) (v := ?vx102_25) rfl (by kernel_rfl) (by kernel_rfl) (by kernel_rfl) (fun _ _ _ h => h) (Or.inl ⟨by rfl, ?hyx102_25⟩) (by assumption) ?restx102_25
        case hyx102_25 => (intro w hSw; have F := Ok.sees hSw; clear hSw; simp only [sees, kBlk, kCells, cellsFrom, Nat.add_zero, cellsAt, Nat.reduceAdd] at F; go_simp; try with_reducible rfl)
        try simp only [Act.put, List.setIfInBounds_toArray, List.set_cons_zero, List.set_cons_succ, List.getElem_toArray, List.getElem_cons_succ, List.getElem_cons_zero]
        refine wpAnyH_take (i := 26) (v := ?vx103_26) rfl (by kernel_rfl) (by kernel_rfl) (by kernel_rfl) (fun _ _ _ h => h) (Or.inl ⟨by rfl, ?hyx103_26⟩) (by assumption) ?restx103_26
        case hyx103_26 => (intro w hSw; have F := Ok.sees hSw; clear hSw; simp only [sees, kBlk, kCells, cellsFrom, Nat.add_zero, cellsAt, Nat.reduceAdd] at F; go_simp; try with_reducible rfl)
        try simp only [Act.put, List.setIfInBounds_toArray, List.set_cons_zero, List.set_cons_succ, List.getElem_toArray, List.getElem_cons_succ, List.getElem_cons_zero]
        refine wpAnyH_take (i := 27) (v := ?vx104_27) rfl (by kernel_rfl) (by kernel_rfl) (by kernel_rfl) (fun _ _ _ h => h) (Or.inl ⟨by rfl, ?hyx104_27⟩) (by assumption) ?restx104_27
        case hyx104_27 => (intro w hSw; have F := Ok.sees hSw; clear hSw; simp only [sees, kBlk, kCells, cellsFrom, Nat.add_zero, cellsAt, Nat.reduceAdd] at F; go_simp; try with_reducible rfl)
        try simp only [Act.put, List.setIfInBounds_toArray, List.set_cons_zero, List.set_cons_succ, List.getElem_toArray, List.getElem_cons_succ, List.getElem_cons_zero]
        refine wpAnyH_take (i := 28) (v := ?vx105_28) rfl (by kernel_rfl) (by kernel_rfl) (by kernel_rfl) (fun _ _ _ h => h) (Or.inl ⟨by rfl, ?hyx105_28⟩) (by assumption) ?restx105_28
        case hyx105_28 => (intro w hSw; have F := Ok.sees hSw; clear hSw; simp only [sees, kBlk, kCells, cellsFrom, Nat.add_zero, cellsAt, Nat.reduceAdd] at F; go_simp; try with_reducible rfl)
        try simp only [Act.put, List.setIfInBounds_toArray, List.set_cons_zero, List.set_cons_succ, List.getElem_toArray, List.getElem_cons_succ, List.getElem_cons_zero]
        refine wpAnyH_take (i := 29) (v := undef) rfl (by kernel_rfl) (by kernel_rfl) (by kernel_rfl) (fun _ _ _ h => h) (Or.inr ⟨by rfl, rfl⟩) (by assumption) ?_
        try simp only [Act.put, List.setIfInBounds_toArray, List.set_cons_zero, List.set_cons_succ, List.getElem_toArray, List.getElem_cons_succ, List.getElem_cons_zero]
        refine wpAnyH_take (i := 30) (v := undef) rfl (by kernel_rfl) (by kernel_rfl) (by kernel_rfl) (fun _ _ _ h => h) (Or.inr ⟨by rfl, rfl⟩) (by assumption) ?_
        try simp only [Act.put, List.setIfInBounds_toArray, List.set_cons_zero, List.set_cons_succ, List.getElem_toArray, List.getElem_cons_succ, List.getElem_cons_zero]
        refine wpAnyH_take (i := 31) (v := undef) rfl (by kernel_rfl) (by kernel_rfl) (by kernel_rfl) (fun _ _ _ h => h) (Or.inr ⟨by rfl, rfl⟩) (by assumption) ?_
        try simp only [Act.put, List.setIfInBounds_toArray, List.set_cons_zero, List.set_cons_succ, List.getElem_toArray, List.getElem_cons_succ, List.getElem_cons_zero]
        refine wpAnyH_take (i := 32) (v := undef) rfl (by kernel_rfl) (by kernel_rfl) (by kernel_rfl) (fun _ _ _ h => h) (Or.inr ⟨by rfl, rfl⟩) (by assumption) ?_
        try simp only [Act.put, List.setIfInBounds_toArray, List.set_cons_zero, List.set_cons_succ, List.getElem_toArray, List.getElem_cons_succ, List.getElem_cons_zero]
        refine wpAnyH_take (i := 33) (v := undef) rfl (by kernel_rfl) (by kernel_rfl) (by kernel_rfl) (fun _ _ _ h => h) (Or.inr ⟨by rfl, rfl⟩) (by assumption) ?_
        try simp only [Act.put, List.setIfInBounds_toArray, List.set_cons_zero, List.set_cons_succ, List.getElem_toArray, List.getElem_cons_succ, List.getElem_cons_zero]
        refine wpAnyH_take (i := 34) (v := undef) rfl (by kernel_rfl) (by kernel_rfl) (by kernel_rfl) (fun _ _ _ h => h) (Or.inr ⟨by rfl, rfl⟩) (by assumption) ?_
        try simp only [Act.put, List.setIfInBounds_toArray, List.set_cons_zero, List.set_cons_succ, List.getElem_toArray, List.getElem_cons_succ, List.getElem_cons_zero]
        refine wpAnyH_take (i := 35) (v := undef) rfl (by kernel_rfl) (by kernel_rfl) (by kernel_rfl) (fun _ _ _ h => h) (Or.inr ⟨by rfl, rfl⟩) (by assumption) ?_
        try simp only [Act.put, List.setIfInBounds_toArray, List.set_cons_zero, List.set_cons_succ, List.getElem_toArray, List.getElem_cons_succ, List.getElem_cons_zero]
        refine wpAnyH_take (i := 36) (v := undef) rfl (by kernel_rfl) (by kernel_rfl) (by kernel_rfl) (fun _ _ _ h => h) (Or.inr ⟨by rfl, rfl⟩) (by assumption) ?_
        try simp only [Act.put, List.setIfInBounds_toArray, List.set_cons_zero, List.set_cons_succ, List.getElem_toArray, List.getElem_cons_succ, List.getElem_cons_zero]
        refine wpAnyH_take (i := 37) (v := ?vx114_37) rfl (by kernel_rfl) (by kernel_rfl) (by kernel_rfl) (fun _ _ _ h => h) (Or.inl ⟨by rfl, ?hyx114_37⟩) (by assumption) ?restx114_37
        case hyx114_37 => (intro w hSw; have F := Ok.sees hSw; clear hSw; simp only [sees, kBlk, kCells, cellsFrom, Nat.add_zero, cellsAt, Nat.reduceAdd] at F; go_simp; try with_reducible rfl)
        try simp only [Act.put, List.setIfInBounds_toArray, List.set_cons_zero, List.set_cons_succ, List.getElem_toArray, List.getElem_cons_succ, List.getElem_cons_zero]
        refine wpAnyH_done (by kernel_rfl) ?_ _
        clear z0 c0_0 c0_1 c0_2 c0_3 z1 c1_0 c1_1
        clear H1
        have H4 := Lib.hid hHeld
        clear hHeld
        go_wp2_with fail
        go_roundw
        case rel => exact ⟨k + 1, by omega, by go_num, by show _ = _; rw [inF, HI.out, HQ.out, HV.out]; rfl, H4.out.tail⟩
        case measure => simp [intOf]; omega
      · have HV := Lib.hid hv
        clear hv H
        have F2 := H1.out.sees
        simp only [sees, kBlk, kCells, cellsFrom, Nat.add_zero, cellsAt, Nat.reduceAdd] at F2
        obtain ⟨⟨z0, c0_0, c0_1, c0_2, c0_3, -⟩, ⟨z1, c1_0, c1_1, -⟩, -, -⟩ := F2
        go_wp2_with fail
        refine wp_region_held_drew (S := fun W => Ok w [kCells b (o + k * 4) [.int .i64 q1, .int .i64 q2, .int .i64 q3, .int .i64 q4], kBlk (w.heap.size) 23 [.int .i64 x, .int .i64 y], kRects w.heap.size (some ⟨b, o, none⟩) n f] W) (by kernel_rfl) H1.out.drew (fun hHeld => ?_)
        refine wpAnyH_take (i := 0) (v := ?vx115_0) rfl (by kernel_rfl) (by kernel_rfl) (by kernel_rfl) (fun _ _ _ h => h) (Or.inl ⟨by rfl, ?hyx115_0⟩) (by assumption) ?restx115_0
        case hyx115_0 => (intro w hSw; have F := Ok.sees hSw; clear hSw; simp only [sees, kBlk, kCells, cellsFrom, Nat.add_zero, cellsAt, Nat.reduceAdd] at F; go_simp; try with_reducible rfl)
        try simp only [Act.put, List.setIfInBounds_toArray, List.set_cons_zero, List.set_cons_succ, List.getElem_toArray, List.getElem_cons_zero]
        refine wpAnyH_take (i := 1) (v := ?vx116_1) rfl (by kernel_rfl) (by kernel_rfl) (by kernel_rfl) (fun _ _ _ h => h) (Or.inl ⟨by rfl, ?hyx116_1⟩) (by assumption) ?restx116_1
        case hyx116_1 => (intro w hSw; have F := Ok.sees hSw; clear hSw; simp only [sees, kBlk, kCells, cellsFrom, Nat.add_zero, cellsAt, Nat.reduceAdd] at F; go_simp; try with_reducible rfl)
        try simp only [Act.put, List.setIfInBounds_toArray, List.set_cons_zero, List.set_cons_succ, List.getElem_toArray, List.getElem_cons_succ, List.getElem_cons_zero]
        refine wpAnyH_take (i := 2) (v := ?vx117_2) rfl (by kernel_rfl) (by kernel_rfl) (by kernel_rfl) (fun _ _ _ h => h) (Or.inl ⟨by rfl, ?hyx117_2⟩) (by assumption) ?restx117_2
        case hyx117_2 => (intro w hSw; have F := Ok.sees hSw; clear hSw; simp only [sees, kBlk, kCells, cellsFrom, Nat.add_zero, cellsAt, Nat.reduceAdd] at F; go_simp; try with_reducible rfl)
        try simp only [Act.put, List.setIfInBounds_toArray, List.set_cons_zero, List.set_cons_succ, List.getElem_toArray, List.getElem_cons_succ, List.getElem_cons_zero]
        refine wpAnyH_take (i := 3) (v := ?vx118_3) rfl (by kernel_rfl) (by kernel_rfl) (by kernel_rfl) (fun _ _ _ h => h) (Or.inl ⟨by rfl, ?hyx118_3⟩) (by assumption) ?restx118_3
        case hyx118_3 => (intro w hSw; have F := Ok.sees hSw; clear hSw; simp only [sees, kBlk, kCells, cellsFrom, Nat.add_zero, cellsAt, Nat.reduceAdd] at F; go_simp; try with_reducible rfl)
        try simp only [Act.put, List.setIfInBounds_toArray, List.set_cons_zero, List.set_cons_succ, List.getElem_toArray, List.getElem_cons_succ, List.getElem_cons_zero]
        refine wpAnyH_take (i := 4) (v := ?vx119_4) rfl (by kernel_rfl) (by kernel_rfl) (by kernel_rfl) (fun _ _ _ h => h) (Or.inl ⟨by rfl, ?hyx119_4⟩) (by assumption) ?restx119_4
        case hyx119_4 => (intro w hSw; have F := Ok.sees hSw; clear hSw; simp only [sees, kBlk, kCells, cellsFrom, Nat.add_zero, cellsAt, Nat.reduceAdd] at F; go_simp; try with_reducible rfl)
        try simp only [Act.put, List.setIfInBounds_toArray, List.set_cons_zero, List.set_cons_succ, List.getElem_toArray, List.getElem_cons_succ, List.getElem_cons_zero]
        refine wpAnyH_take (i := 5) (v := ?vx120_5) rfl (by kernel_rfl) (by kernel_rfl) (by kernel_rfl) (fun _ _ _ h => h) (Or.inl ⟨by rfl, ?hyx120_5⟩) (by assumption) ?restx120_5
        case hyx120_5 => (intro w hSw; have F := Ok.sees hSw; clear hSw; simp only [sees, kBlk, kCells, cellsFrom, Nat.add_zero, cellsAt, Nat.reduceAdd] at F; go_simp; try with_reducible rfl)
        try simp only [Act.put, List.setIfInBounds_toArray, List.set_cons_zero, List.set_cons_succ, List.getElem_toArray, List.getElem_cons_succ, List.getElem_cons_zero]
        refine wpAnyH_take (i := 6) (v := ?vx121_6) rfl (by kernel_rfl) (by kernel_rfl) (by kernel_rfl) (fun _ _ _ h => h) (Or.inl ⟨by rfl, ?hyx121_6⟩) (by assumption) ?restx121_6
        case hyx121_6 => (intro w hSw; have F := Ok.sees hSw; clear hSw; simp only [sees, kBlk, kCells, cellsFrom, Nat.add_zero, cellsAt, Nat.reduceAdd] at F; go_simp; try with_reducible rfl)
        try simp only [Act.put, List.setIfInBounds_toArray, List.set_cons_zero, List.set_cons_succ, List.getElem_toArray, List.getElem_cons_succ, List.getElem_cons_zero]
        refine wpAnyH_take (i := 7) (v := ?vx122_7) rfl (by kernel_rfl) (by kernel_rfl) (by kernel_rfl) (fun _ _ _ h => h) (Or.inl ⟨by rfl, ?hyx122_7⟩) (by assumption) ?restx122_7
        case hyx122_7 => (intro w hSw; have F := Ok.sees hSw; clear hSw; simp only [sees, kBlk, kCells, cellsFrom, Nat.add_zero, cellsAt, Nat.reduceAdd] at F; go_simp; try with_reducible rfl)
        try simp only [Act.put, List.setIfInBounds_toArray, List.set_cons_zero, List.set_cons_succ, List.getElem_toArray, List.getElem_cons_succ, List.getElem_cons_zero]
        refine wpAnyH_take (i := 8) (v := ?vx123_8) rfl (by kernel_rfl) (by kernel_rfl) (by kernel_rfl) (fun _ _ _ h => h) (Or.inl ⟨by rfl, ?hyx123_8⟩) (by assumption) ?restx123_8
        case hyx123_8 => (intro w hSw; have F := Ok.sees hSw; clear hSw; simp only [sees, kBlk, kCells, cellsFrom, Nat.add_zero, cellsAt, Nat.reduceAdd] at F; go_simp; try with_reducible rfl)
        try simp only [Act.put, List.setIfInBounds_toArray, List.set_cons_zero, List.set_cons_succ, List.getElem_toArray, List.getElem_cons_succ, List.getElem_cons_zero]
        refine wpAnyH_take (i := 9) (v := ?vx124_9) rfl (by kernel_rfl) (by kernel_rfl) (by kernel_rfl) (fun _ _ _ h => h) (Or.inl ⟨by rfl, ?hyx124_9⟩) (by assumption) ?restx124_9
        case hyx124_9 => (intro w hSw; have F := Ok.sees hSw; clear hSw; simp only [sees, kBlk, kCells, cellsFrom, Nat.add_zero, cellsAt, Nat.reduceAdd] at F; go_simp; try with_reducible rfl)
        try simp only [Act.put, List.setIfInBounds_toArray, List.set_cons_zero, List.set_cons_succ, List.getElem_toArray, List.getElem_cons_succ, List.getElem_cons_zero]
        refine wpAnyH_take (i := 10) (v := ?vx125_10) rfl (by kernel_rfl) (by kernel_rfl) (by kernel_rfl) (fun _ _ _ h => h) (Or.inl ⟨by rfl, ?hyx125_10⟩) (by assumption) ?restx125_10
        case hyx125_10 => (intro w hSw; have F := Ok.sees hSw; clear hSw; simp only [sees, kBlk, kCells, cellsFrom, Nat.add_zero, cellsAt, Nat.reduceAdd] at F; go_simp; try with_reducible rfl)
        try simp only [Act.put, List.setIfInBounds_toArray, List.set_cons_zero, List.set_cons_succ, List.getElem_toArray, List.getElem_cons_succ, List.getElem_cons_zero]
        refine wpAnyH_take (i := 11) (v := ?vx126_11) rfl (by kernel_rfl) (by kernel_rfl) (by kernel_rfl) (fun _ _ _ h => h) (Or.inl ⟨by rfl, ?hyx126_11⟩) (by assumption) ?restx126_11
        case hyx126_11 => (intro w hSw; have F := Ok.sees hSw; clear hSw; simp only [sees, kBlk, kCells, cellsFrom, Nat.add_zero, cellsAt, Nat.reduceAdd] at F; go_simp; try with_reducible rfl)
        try simp only [Act.put, List.setIfInBounds_toArray, List.set_cons_zero, List.set_cons_succ, List.getElem_toArray, List.getElem_cons_succ, List.getElem_cons_zero]
        refine wpAnyH_take (i := 12) (v := ?vx127_12) rfl (by kernel_rfl) (by kernel_rfl) (by kernel_rfl) (fun _ _ _ h => h) (Or.inl ⟨by rfl, ?hyx127_12⟩) (by assumption) ?restx127_12
        case hyx127_12 => (intro w hSw; have F := Ok.sees hSw; clear hSw; simp only [sees, kBlk, kCells, cellsFrom, Nat.add_zero, cellsAt, Nat.reduceAdd] at F; go_simp; try with_reducible rfl)
        try simp only [Act.put, List.setIfInBounds_toArray, List.set_cons_zero, List.set_cons_succ, List.getElem_toArray, List.getElem_cons_succ, List.getElem_cons_zero]
        refine wpAnyH_take (i := 13) (v := ?vx128_13) rfl (by kernel_rfl) (by kernel_rfl) (by kernel_rfl) (fun _ _ _ h => h) (Or.inl ⟨by rfl, ?hyx128_13⟩) (by assumption) ?restx128_13
        case hyx128_13 => (intro w hSw; have F := Ok.sees hSw; clear hSw; simp only [sees, kBlk, kCells, cellsFrom, Nat.add_zero, cellsAt, Nat.reduceAdd] at F; go_simp; try with_reducible rfl)
        try simp only [Act.put, List.setIfInBounds_toArray, List.set_cons_zero, List.set_cons_succ, List.getElem_toArray, List.getElem_cons_succ, List.getElem_cons_zero]
        refine wpAnyH_take (i := 14) (v := ?vx129_14) rfl (by kernel_rfl) (by kernel_rfl) (by kernel_rfl) (fun _ _ _ h => h) (Or.inl ⟨by rfl, ?hyx129_14⟩) (by assumption) ?restx129_14
        case hyx129_14 => (intro w hSw; have F := Ok.sees hSw; clear hSw; simp only [sees, kBlk, kCells, cellsFrom, Nat.add_zero, cellsAt, Nat.reduceAdd] at F; go_simp; try with_reducible rfl)
        try simp only [Act.put, List.setIfInBounds_toArray, List.set_cons_zero, List.set_cons_succ, List.getElem_toArray, List.getElem_cons_succ, List.getElem_cons_zero]
        refine wpAnyH_take (i := 15) (v := ?vx130_15) rfl (by kernel_rfl) (by kernel_rfl) (by kernel_rfl) (fun _ _ _ h => h) (Or.inl ⟨by rfl, ?hyx130_15⟩) (by assumption) ?restx130_15
        case hyx130_15 => (intro w hSw; have F := Ok.sees hSw; clear hSw; simp only [sees, kBlk, kCells, cellsFrom, Nat.add_zero, cellsAt, Nat.reduceAdd] at F; go_simp; try with_reducible rfl)
        try simp only [Act.put, List.setIfInBounds_toArray, List.set_cons_zero, List.set_cons_succ, List.getElem_toArray, List.getElem_cons_succ, List.getElem_cons_zero]
        refine wpAnyH_take (i := 16) (v := ?vx131_16) rfl (by kernel_rfl) (by kernel_rfl) (by kernel_rfl) (fun _ _ _ h => h) (Or.inl ⟨by rfl, ?hyx131_16⟩) (by assumption) ?restx131_16
        case hyx131_16 => (intro w hSw; have F := Ok.sees hSw; clear hSw; simp only [sees, kBlk, kCells, cellsFrom, Nat.add_zero, cellsAt, Nat.reduceAdd] at F; go_simp; try with_reducible rfl)
        try simp only [Act.put, List.setIfInBounds_toArray, List.set_cons_zero, List.set_cons_succ, List.getElem_toArray, List.getElem_cons_succ, List.getElem_cons_zero]
        refine wpAnyH_take (i := 17) (v := ?vx132_17) rfl (by kernel_rfl) (by kernel_rfl) (by kernel_rfl) (fun _ _ _ h => h) (Or.inl ⟨by rfl, ?hyx132_17⟩) (by assumption) ?restx132_17
        case hyx132_17 => (intro w hSw; have F := Ok.sees hSw; clear hSw; simp only [sees, kBlk, kCells, cellsFrom, Nat.add_zero, cellsAt, Nat.reduceAdd] at F; go_simp; try with_reducible rfl)
        try simp only [Act.put, List.setIfInBounds_toArray, List.set_cons_zero, List.set_cons_succ, List.getElem_toArray, List.getElem_cons_succ, List.getElem_cons_zero]
        refine wpAnyH_take (i := 18) (v := ?vx133_18) rfl (by kernel_rfl) (by kernel_rfl) (by kernel_rfl) (fun _ _ _ h => h) (Or.inl ⟨by rfl, ?hyx133_18⟩) (by assumption) ?restx133_18
        case hyx133_18 => (intro w hSw; have F := Ok.sees hSw; clear hSw; simp only [sees, kBlk, kCells, cellsFrom, Nat.add_zero, cellsAt, Nat.reduceAdd] at F; go_simp; try with_reducible rfl)
        try simp only [Act.put, List.setIfInBounds_toArray, List.set_cons_zero, List.set_cons_succ, List.getElem_toArray, List.getElem_cons_succ, List.getElem_cons_zero]
        refine wpAnyH_take (i := 19) (v := ?vx134_19) rfl (by kernel_rfl) (by kernel_rfl) (by kernel_rfl) (fun _ _ _ h => h) (Or.inl ⟨by rfl, ?hyx134_19⟩) (by assumption) ?restx134_19
        case hyx134_19 => (intro w hSw; have F := Ok.sees hSw; clear hSw; simp only [sees, kBlk, kCells, cellsFrom, Nat.add_zero, cellsAt, Nat.reduceAdd] at F; go_simp; try with_reducible rfl)
        try simp only [Act.put, List.setIfInBounds_toArray, List.set_cons_zero, List.set_cons_succ, List.getElem_toArray, List.getElem_cons_succ, List.getElem_cons_zero]
        refine wpAnyH_take (i := 20) (v := ?vx135_20) rfl (by kernel_rfl) (by kernel_rfl) (by kernel_rfl) (fun _ _ _ h => h) (Or.inl ⟨by rfl, ?hyx135_20⟩) (by assumption) ?restx135_20
        case hyx135_20 => (intro w hSw; have F := Ok.sees hSw; clear hSw; simp only [sees, kBlk, kCells, cellsFrom, Nat.add_zero, cellsAt, Nat.reduceAdd] at F; go_simp; try with_reducible rfl)
        try simp only [Act.put, List.setIfInBounds_toArray, List.set_cons_zero, List.set_cons_succ, List.getElem_toArray, List.getElem_cons_succ, List.getElem_cons_zero]
        refine wpAnyH_take (i := 21) (v := ?vx136_21) rfl (by kernel_rfl) (by kernel_rfl) (by kernel_rfl) (fun _ _ _ h => h) (Or.inl ⟨by rfl, ?hyx136_21⟩) (by assumption) ?restx136_21
        case hyx136_21 => (intro w hSw; have F := Ok.sees hSw; clear hSw; simp only [sees, kBlk, kCells, cellsFrom, Nat.add_zero, cellsAt, Nat.reduceAdd] at F; go_simp; try with_reducible rfl)
        try simp only [Act.put, List.setIfInBounds_toArray, List.set_cons_zero, List.set_cons_succ, List.getElem_toArray, List.getElem_cons_succ, List.getElem_cons_zero]
        refine wpAnyH_take (i := 22) (v := ?vx137_22) rfl (by kernel_rfl) (by kernel_rfl) (by kernel_rfl) (fun _ _ _ h => h) (Or.inl ⟨by rfl, ?hyx137_22⟩) (by assumption) ?restx137_22
        case hyx137_22 => (intro w hSw; have F := Ok.sees hSw; clear hSw; simp only [sees, kBlk, kCells, cellsFrom, Nat.add_zero, cellsAt, Nat.reduceAdd] at F; go_simp; try with_reducible rfl)
        try simp only [Act.put, List.setIfInBounds_toArray, List.set_cons_zero, List.set_cons_succ, List.getElem_toArray, List.getElem_cons_succ, List.getElem_cons_zero]
        refine wpAnyH_take (i := 23) (v := ?vx138_23) rfl (by kernel_rfl) (by kernel_rfl) (by kernel_rfl) (fun _ _ _ h => h) (Or.inl ⟨by rfl, ?hyx138_23⟩) (by assumption) ?restx138_23
        case hyx138_23 => (intro w hSw; have F := Ok.sees hSw; clear hSw; simp only [sees, kBlk, kCells, cellsFrom, Nat.add_zero, cellsAt, Nat.reduceAdd] at F; go_simp; try with_reducible rfl)
        try simp only [Act.put, List.setIfInBounds_toArray, List.set_cons_zero, List.set_cons_succ, List.getElem_toArray, List.getElem_cons_succ, List.getElem_cons_zero]
        refine wpAnyH_take (i := 24) (v := ?vx139_24) rfl (by kernel_rfl) (by kernel_rfl) (by kernel_rfl) (fun _ _ _ h => h) (Or.inl ⟨by rfl, ?hyx139_24⟩) (by assumption) ?restx139_24
        case hyx139_24 => (intro w hSw; have F := Ok.sees hSw; clear hSw; simp only [sees, kBlk, kCells, cellsFrom, Nat.add_zero, cellsAt, Nat.reduceAdd] at F; go_simp; try with_reducible rfl)
        try simp only [Act.put, List.setIfInBounds_toArray, List.set_cons_zero, List.set_cons_succ, List.getElem_toArray, List.getElem_cons_succ, List.getElem_cons_zero]
        refine wpAnyH_take (i := 25) (v := ?vx140_25) rfl (by kernel_rfl) (by kernel_rfl) (by kernel_rfl) (fun _ _ _ h => h) (Or.inl ⟨by rfl, ?hyx140_25⟩) (by assumption) ?restx140_25
        case hyx140_25 => (intro w hSw; have F := Ok.sees hSw; clear hSw; simp only [sees, kBlk, kCells, cellsFrom, Nat.add_zero, cellsAt, Nat.reduceAdd] at F; go_simp; try with_reducible rfl)
        try simp only [Act.put, List.setIfInBounds_toArray, List.set_cons_zero, List.set_cons_succ, List.getElem_toArray, List.getElem_cons_succ, List.getElem_cons_zero]
        refine wpAnyH_take (i := 26) (v := ?vx141_26) rfl (by kernel_rfl) (by kernel_rfl) (by kernel_rfl) (fun _ _ _ h => h) (Or.inl ⟨by rfl, ?hyx141_26⟩) (by assumption) ?restx141_26
        case hyx141_26 => (intro w hSw; have F := Ok.sees hSw; clear hSw; simp only [sees, kBlk, kCells, cellsFrom, Nat.add_zero, cellsAt, Nat.reduceAdd] at F; go_simp; try with_reducible rfl)
        try simp only [Act.put, List.setIfInBounds_toArray, List.set_cons_zero, List.set_cons_succ, List.getElem_toArray, List.getElem_cons_succ, List.getElem_cons_zero]
        refine wpAnyH_take (i := 27) (v := ?vx142_27) rfl (by kernel_rfl) (by kernel_rfl) (by kernel_rfl) (fun _ _ _ h => h) (Or.inl ⟨by rfl, ?hyx142_27⟩) (by assumption) ?restx142_27
        case hyx142_27 => (intro w hSw; have F := Ok.sees hSw; clear hSw; simp only [sees, kBlk, kCells, cellsFrom, Nat.add_zero, cellsAt, Nat.reduceAdd] at F; go_simp; try with_reducible rfl)
        try simp only [Act.put, List.setIfInBounds_toArray, List.set_cons_zero, List.set_cons_succ, List.getElem_toArray, List.getElem_cons_succ, List.getElem_cons_zero]
        refine wpAnyH_take (i := 28) (v := ?vx143_28) rfl (by kernel_rfl) (by kernel_rfl) (by kernel_rfl) (fun _ _ _ h => h) (Or.inl ⟨by rfl, ?hyx143_28⟩) (by assumption) ?restx143_28
        case hyx143_28 => (intro w hSw; have F := Ok.sees hSw; clear hSw; simp only [sees, kBlk, kCells, cellsFrom, Nat.add_zero, cellsAt, Nat.reduceAdd] at F; go_simp; try with_reducible rfl)
        try simp only [Act.put, List.setIfInBounds_toArray, List.set_cons_zero, List.set_cons_succ, List.getElem_toArray, List.getElem_cons_succ, List.getElem_cons_zero]
        refine wpAnyH_take (i := 29) (v := ?vx144_29) rfl (by kernel_rfl) (by kernel_rfl) (by kernel_rfl) (fun _ _ _ h => h) (Or.inl ⟨by rfl, ?hyx144_29⟩) (by assumption) ?restx144_29
        case hyx144_29 => (intro w hSw; have F := Ok.sees hSw; clear hSw; simp only [sees, kBlk, kCells, cellsFrom, Nat.add_zero, cellsAt, Nat.reduceAdd] at F; go_simp; try with_reducible rfl)
        try simp only [Act.put, List.setIfInBounds_toArray, List.set_cons_zero, List.set_cons_succ, List.getElem_toArray, List.getElem_cons_succ, List.getElem_cons_zero]
        refine wpAnyH_take (i := 30) (v := ?vx145_30) rfl (by kernel_rfl) (by kernel_rfl) (by kernel_rfl) (fun _ _ _ h => h) (Or.inl ⟨by rfl, ?hyx145_30⟩) (by assumption) ?restx145_30
        case hyx145_30 => (intro w hSw; have F := Ok.sees hSw; clear hSw; simp only [sees, kBlk, kCells, cellsFrom, Nat.add_zero, cellsAt, Nat.reduceAdd] at F; go_simp; try with_reducible rfl)
        try simp only [Act.put, List.setIfInBounds_toArray, List.set_cons_zero, List.set_cons_succ, List.getElem_toArray, List.getElem_cons_succ, List.getElem_cons_zero]
        refine wpAnyH_take (i := 31) (v := ?vx146_31) rfl (by kernel_rfl) (by kernel_rfl) (by kernel_rfl) (fun _ _ _ h => h) (Or.inl ⟨by rfl, ?hyx146_31⟩) (by assumption) ?restx146_31
        case hyx146_31 => (intro w hSw; have F := Ok.sees hSw; clear hSw; simp only [sees, kBlk, kCells, cellsFrom, Nat.add_zero, cellsAt, Nat.reduceAdd] at F; go_simp; try with_reducible rfl)
        try simp only [Act.put, List.setIfInBounds_toArray, List.set_cons_zero, List.set_cons_succ, List.getElem_toArray, List.getElem_cons_succ, List.getElem_cons_zero]
        refine wpAnyH_take (i := 32) (v := ?vx147_32) rfl (by kernel_rfl) (by kernel_rfl) (by kernel_rfl) (fun _ _ _ h => h) (Or.inl ⟨by rfl, ?hyx147_32⟩) (by assumption) ?restx147_32
        case hyx147_32 => (intro w hSw; have F := Ok.sees hSw; clear hSw; simp only [sees, kBlk, kCells, cellsFrom, Nat.add_zero, cellsAt, Nat.reduceAdd] at F; go_simp; try with_reducible rfl)
        try simp only [Act.put, List.setIfInBounds_toArray, List.set_cons_zero, List.set_cons_succ, List.getElem_toArray, List.getElem_cons_succ, List.getElem_cons_zero]
        refine wpAnyH_take (i := 33) (v := ?vx148_33) rfl (by kernel_rfl) (by kernel_rfl) (by kernel_rfl) (fun _ _ _ h => h) (Or.inl ⟨by rfl, ?hyx148_33⟩) (by assumption) ?restx148_33
        case hyx148_33 => (intro w hSw; have F := Ok.sees hSw; clear hSw; simp only [sees, kBlk, kCells, cellsFrom, Nat.add_zero, cellsAt, Nat.reduceAdd] at F; go_simp; try with_reducible rfl)
        try simp only [Act.put, List.setIfInBounds_toArray, List.set_cons_zero, List.set_cons_succ, List.getElem_toArray, List.getElem_cons_succ, List.getElem_cons_zero]
        refine wpAnyH_take (i := 34) (v := ?vx149_34) rfl (by kernel_rfl) (by kernel_rfl) (by kernel_rfl) (fun _ _ _ h => h) (Or.inl ⟨by rfl, ?hyx149_34⟩) (by assumption) ?restx149_34
        case hyx149_34 => (intro w hSw; have F := Ok.sees hSw; clear hSw; simp only [sees, kBlk, kCells, cellsFrom, Nat.add_zero, cellsAt, Nat.reduceAdd] at F; go_simp; try with_reducible rfl)
        try simp only [Act.put, List.setIfInBounds_toArray, List.set_cons_zero, List.set_cons_succ, List.getElem_toArray, List.getElem_cons_succ, List.getElem_cons_zero]
        refine wpAnyH_take (i := 35) (v := ?vx150_35) rfl (by kernel_rfl) (by kernel_rfl) (by kernel_rfl) (fun _ _ _ h => h) (Or.inl ⟨by rfl, ?hyx150_35⟩) (by assumption) ?restx150_35
        case hyx150_35 => (intro w hSw; have F := Ok.sees hSw; clear hSw; simp only [sees, kBlk, kCells, cellsFrom, Nat.add_zero, cellsAt, Nat.reduceAdd] at F; go_simp; try with_reducible rfl)
        try simp only [Act.put, List.setIfInBounds_toArray, List.set_cons_zero, List.set_cons_succ, List.getElem_toArray, List.getElem_cons_succ, List.getElem_cons_zero]
        refine wpAnyH_take (i := 36) (v := ?vx151_36) rfl (by kernel_rfl) (by kernel_rfl) (by kernel_rfl) (fun _ _ _ h => h) (Or.inl ⟨by rfl, ?hyx151_36⟩) (by assumption) ?restx151_36
        case hyx151_36 => (intro w hSw; have F := Ok.sees hSw; clear hSw; simp only [sees, kBlk, kCells, cellsFrom, Nat.add_zero, cellsAt, Nat.reduceAdd] at F; go_simp; try with_reducible rfl)
        try simp only [Act.put, List.setIfInBounds_toArray, List.set_cons_zero, List.set_cons_succ, List.getElem_toArray, List.getElem_cons_succ, List.getElem_cons_zero]
        refine wpAnyH_take (i := 37) (v := ?vx152_37) rfl (by kernel_rfl) (by kernel_rfl) (by kernel_rfl) (fun _ _ _ h => h) (Or.inl ⟨by rfl, ?hyx152_37⟩) (by assumption) ?restx152_37
        case hyx152_37 => (intro w hSw; have F := Ok.sees hSw; clear hSw; simp only [sees, kBlk, kCells, cellsFrom, Nat.add_zero, cellsAt, Nat.reduceAdd] at F; go_simp; try with_reducible rfl)
        try simp only [Act.put, List.setIfInBounds_toArray, List.set_cons_zero, List.set_cons_succ, List.getElem_toArray, List.getElem_cons_succ, List.getElem_cons_zero]
        refine wpAnyH_done (by kernel_rfl) ?_ _
        clear z0 c0_0 c0_1 c0_2 c0_3 z1 c1_0 c1_1
        clear H1
        have H4 := Lib.hid hHeld
        clear hHeld
        go_wp2_with fail
        go_roundw
        case rel => exact ⟨k + 1, by omega, by go_num, by show _ = _; rw [inF, HI.out, HQ.out, HV.out]; rfl, H4.out.tail⟩
        case measure => simp [intOf]; omega
      · have HV := Lib.hid hv
        clear hv H
        have F2 := H1.out.sees
        simp only [sees, kBlk, kCells, cellsFrom, Nat.add_zero, cellsAt, Nat.reduceAdd] at F2
        obtain ⟨⟨z0, c0_0, c0_1, c0_2, c0_3, -⟩, ⟨z1, c1_0, c1_1, -⟩, -, -⟩ := F2
        go_wp2_with fail
        refine wp_region_held_drew (S := fun W => Ok w [kCells b (o + k * 4) [.int .i64 q1, .int .i64 q2, .int .i64 q3, .int .i64 q4], kBlk (w.heap.size) 23 [.int .i64 x, .int .i64 y], kRects w.heap.size (some ⟨b, o, none⟩) n f] W) (by kernel_rfl) H1.out.drew (fun hHeld => ?_)
        refine wpAnyH_take (i := 0) (v := ?vx153_0) rfl (by kernel_rfl) (by kernel_rfl) (by kernel_rfl) (fun _ _ _ h => h) (Or.inl ⟨by rfl, ?hyx153_0⟩) (by assumption) ?restx153_0
        case hyx153_0 => (intro w hSw; have F := Ok.sees hSw; clear hSw; simp only [sees, kBlk, kCells, cellsFrom, Nat.add_zero, cellsAt, Nat.reduceAdd] at F; go_simp; try with_reducible rfl)
        try simp only [Act.put, List.setIfInBounds_toArray, List.set_cons_zero, List.set_cons_succ, List.getElem_toArray, List.getElem_cons_zero]
        refine wpAnyH_take (i := 1) (v := ?vx154_1) rfl (by kernel_rfl) (by kernel_rfl) (by kernel_rfl) (fun _ _ _ h => h) (Or.inl ⟨by rfl, ?hyx154_1⟩) (by assumption) ?restx154_1
        case hyx154_1 => (intro w hSw; have F := Ok.sees hSw; clear hSw; simp only [sees, kBlk, kCells, cellsFrom, Nat.add_zero, cellsAt, Nat.reduceAdd] at F; go_simp; try with_reducible rfl)
        try simp only [Act.put, List.setIfInBounds_toArray, List.set_cons_zero, List.set_cons_succ, List.getElem_toArray, List.getElem_cons_succ, List.getElem_cons_zero]
        refine wpAnyH_take (i := 2) (v := ?vx155_2) rfl (by kernel_rfl) (by kernel_rfl) (by kernel_rfl) (fun _ _ _ h => h) (Or.inl ⟨by rfl, ?hyx155_2⟩) (by assumption) ?restx155_2
        case hyx155_2 => (intro w hSw; have F := Ok.sees hSw; clear hSw; simp only [sees, kBlk, kCells, cellsFrom, Nat.add_zero, cellsAt, Nat.reduceAdd] at F; go_simp; try with_reducible rfl)
        try simp only [Act.put, List.setIfInBounds_toArray, List.set_cons_zero, List.set_cons_succ, List.getElem_toArray, List.getElem_cons_succ, List.getElem_cons_zero]
        refine wpAnyH_take (i := 3) (v := ?vx156_3) rfl (by kernel_rfl) (by kernel_rfl) (by kernel_rfl) (fun _ _ _ h => h) (Or.inl ⟨by rfl, ?hyx156_3⟩) (by assumption) ?restx156_3
        case hyx156_3 => (intro w hSw; have F := Ok.sees hSw; clear hSw; simp only [sees, kBlk, kCells, cellsFrom, Nat.add_zero, cellsAt, Nat.reduceAdd] at F; go_simp; try with_reducible rfl)
        try simp only [Act.put, List.setIfInBounds_toArray, List.set_cons_zero, List.set_cons_succ, List.getElem_toArray, List.getElem_cons_succ, List.getElem_cons_zero]
        refine wpAnyH_take (i := 4) (v := ?vx157_4) rfl (by kernel_rfl) (by kernel_rfl) (by kernel_rfl) (fun _ _ _ h => h) (Or.inl ⟨by rfl, ?hyx157_4⟩) (by assumption) ?restx157_4
        case hyx157_4 => (intro w hSw; have F := Ok.sees hSw; clear hSw; simp only [sees, kBlk, kCells, cellsFrom, Nat.add_zero, cellsAt, Nat.reduceAdd] at F; go_simp; try with_reducible rfl)
        try simp only [Act.put, List.setIfInBounds_toArray, List.set_cons_zero, List.set_cons_succ, List.getElem_toArray, List.getElem_cons_succ, List.getElem_cons_zero]
        refine wpAnyH_take (i := 5) (v := ?vx158_5) rfl (by kernel_rfl) (by kernel_rfl) (by kernel_rfl) (fun _ _ _ h => h) (Or.inl ⟨by rfl, ?hyx158_5⟩) (by assumption) ?restx158_5
        case hyx158_5 => (intro w hSw; have F := Ok.sees hSw; clear hSw; simp only [sees, kBlk, kCells, cellsFrom, Nat.add_zero, cellsAt, Nat.reduceAdd] at F; go_simp; try with_reducible rfl)
        try simp only [Act.put, List.setIfInBounds_toArray, List.set_cons_zero, List.set_cons_succ, List.getElem_toArray, List.getElem_cons_succ, List.getElem_cons_zero]
        refine wpAnyH_take (i := 6) (v := ?vx159_6) rfl (by kernel_rfl) (by kernel_rfl) (by kernel_rfl) (fun _ _ _ h => h) (Or.inl ⟨by rfl, ?hyx159_6⟩) (by assumption) ?restx159_6
        case hyx159_6 => (intro w hSw; have F := Ok.sees hSw; clear hSw; simp only [sees, kBlk, kCells, cellsFrom, Nat.add_zero, cellsAt, Nat.reduceAdd] at F; go_simp; try with_reducible rfl)
        try simp only [Act.put, List.setIfInBounds_toArray, List.set_cons_zero, List.set_cons_succ, List.getElem_toArray, List.getElem_cons_succ, List.getElem_cons_zero]
        refine wpAnyH_take (i := 7) (v := ?vx160_7) rfl (by kernel_rfl) (by kernel_rfl) (by kernel_rfl) (fun _ _ _ h => h) (Or.inl ⟨by rfl, ?hyx160_7⟩) (by assumption) ?restx160_7
        case hyx160_7 => (intro w hSw; have F := Ok.sees hSw; clear hSw; simp only [sees, kBlk, kCells, cellsFrom, Nat.add_zero, cellsAt, Nat.reduceAdd] at F; go_simp; try with_reducible rfl)
        try simp only [Act.put, List.setIfInBounds_toArray, List.set_cons_zero, List.set_cons_succ, List.getElem_toArray, List.getElem_cons_succ, List.getElem_cons_zero]
        refine wpAnyH_take (i := 8) (v := ?vx161_8) rfl (by kernel_rfl) (by kernel_rfl) (by kernel_rfl) (fun _ _ _ h => h) (Or.inl ⟨by rfl, ?hyx161_8⟩) (by assumption) ?restx161_8
        case hyx161_8 => (intro w hSw; have F := Ok.sees hSw; clear hSw; simp only [sees, kBlk, kCells, cellsFrom, Nat.add_zero, cellsAt, Nat.reduceAdd] at F; go_simp; try with_reducible rfl)
        try simp only [Act.put, List.setIfInBounds_toArray, List.set_cons_zero, List.set_cons_succ, List.getElem_toArray, List.getElem_cons_succ, List.getElem_cons_zero]
        refine wpAnyH_take (i := 9) (v := ?vx162_9) rfl (by kernel_rfl) (by kernel_rfl) (by kernel_rfl) (fun _ _ _ h => h) (Or.inl ⟨by rfl, ?hyx162_9⟩) (by assumption) ?restx162_9
        case hyx162_9 => (intro w hSw; have F := Ok.sees hSw; clear hSw; simp only [sees, kBlk, kCells, cellsFrom, Nat.add_zero, cellsAt, Nat.reduceAdd] at F; go_simp; try with_reducible rfl)
        try simp only [Act.put, List.setIfInBounds_toArray, List.set_cons_zero, List.set_cons_succ, List.getElem_toArray, List.getElem_cons_succ, List.getElem_cons_zero]
        refine wpAnyH_take (i := 10) (v := ?vx163_10) rfl (by kernel_rfl) (by kernel_rfl) (by kernel_rfl) (fun _ _ _ h => h) (Or.inl ⟨by rfl, ?hyx163_10⟩) (by assumption) ?restx163_10
        case hyx163_10 => (intro w hSw; have F := Ok.sees hSw; clear hSw; simp only [sees, kBlk, kCells, cellsFrom, Nat.add_zero, cellsAt, Nat.reduceAdd] at F; go_simp; try with_reducible rfl)
        try simp only [Act.put, List.setIfInBounds_toArray, List.set_cons_zero, List.set_cons_succ, List.getElem_toArray, List.getElem_cons_succ, List.getElem_cons_zero]
        refine wpAnyH_take (i := 11) (v := ?vx164_11) rfl (by kernel_rfl) (by kernel_rfl) (by kernel_rfl) (fun _ _ _ h => h) (Or.inl ⟨by rfl, ?hyx164_11⟩) (by assumption) ?restx164_11
        case hyx164_11 => (intro w hSw; have F := Ok.sees hSw; clear hSw; simp only [sees, kBlk, kCells, cellsFrom, Nat.add_zero, cellsAt, Nat.reduceAdd] at F; go_simp; try with_reducible rfl)
        try simp only [Act.put, List.setIfInBounds_toArray, List.set_cons_zero, List.set_cons_succ, List.getElem_toArray, List.getElem_cons_succ, List.getElem_cons_zero]
        refine wpAnyH_take (i := 12) (v := ?vx165_12) rfl (by kernel_rfl) (by kernel_rfl) (by kernel_rfl) (fun _ _ _ h => h) (Or.inl ⟨by rfl, ?hyx165_12⟩) (by assumption) ?restx165_12
        case hyx165_12 => (intro w hSw; have F := Ok.sees hSw; clear hSw; simp only [sees, kBlk, kCells, cellsFrom, Nat.add_zero, cellsAt, Nat.reduceAdd] at F; go_simp; try with_reducible rfl)
        try simp only [Act.put, List.setIfInBounds_toArray, List.set_cons_zero, List.set_cons_succ, List.getElem_toArray, List.getElem_cons_succ, List.getElem_cons_zero]
        refine wpAnyH_take (i := 13) (v := ?vx166_13) rfl (by kernel_rfl) (by kernel_rfl) (by kernel_rfl) (fun _ _ _ h => h) (Or.inl ⟨by rfl, ?hyx166_13⟩) (by assumption) ?restx166_13
        case hyx166_13 => (intro w hSw; have F := Ok.sees hSw; clear hSw; simp only [sees, kBlk, kCells, cellsFrom, Nat.add_zero, cellsAt, Nat.reduceAdd] at F; go_simp; try with_reducible rfl)
        try simp only [Act.put, List.setIfInBounds_toArray, List.set_cons_zero, List.set_cons_succ, List.getElem_toArray, List.getElem_cons_succ, List.getElem_cons_zero]
        refine wpAnyH_take (i := 14) (v := ?vx167_14) rfl (by kernel_rfl) (by kernel_rfl) (by kernel_rfl) (fun _ _ _ h => h) (Or.inl ⟨by rfl, ?hyx167_14⟩) (by assumption) ?restx167_14
        case hyx167_14 => (intro w hSw; have F := Ok.sees hSw; clear hSw; simp only [sees, kBlk, kCells, cellsFrom, Nat.add_zero, cellsAt, Nat.reduceAdd] at F; go_simp; try with_reducible rfl)
        try simp only [Act.put, List.setIfInBounds_toArray, List.set_cons_zero, List.set_cons_succ, List.getElem_toArray, List.getElem_cons_succ, List.getElem_cons_zero]
        refine wpAnyH_take (i := 15) (v := ?vx168_15) rfl (by kernel_rfl) (by kernel_rfl) (by kernel_rfl) (fun _ _ _ h => h) (Or.inl ⟨by rfl, ?hyx168_15⟩) (by assumption) ?restx168_15
        case hyx168_15 => (intro w hSw; have F := Ok.sees hSw; clear hSw; simp only [sees, kBlk, kCells, cellsFrom, Nat.add_zero, cellsAt, Nat.reduceAdd] at F; go_simp; try with_reducible rfl)
        try simp only [Act.put, List.setIfInBounds_toArray, List.set_cons_zero, List.set_cons_succ, List.getElem_toArray, List.getElem_cons_succ, List.getElem_cons_zero]
        refine wpAnyH_take (i := 16) (v := ?vx169_16) rfl (by kernel_rfl) (by kernel_rfl) (by kernel_rfl) (fun _ _ _ h => h) (Or.inl ⟨by rfl, ?hyx169_16⟩) (by assumption) ?restx169_16
        case hyx169_16 => (intro w hSw; have F := Ok.sees hSw; clear hSw; simp only [sees, kBlk, kCells, cellsFrom, Nat.add_zero, cellsAt, Nat.reduceAdd] at F; go_simp; try with_reducible rfl)
        try simp only [Act.put, List.setIfInBounds_toArray, List.set_cons_zero, List.set_cons_succ, List.getElem_toArray, List.getElem_cons_succ, List.getElem_cons_zero]
        refine wpAnyH_take (i := 17) (v := ?vx170_17) rfl (by kernel_rfl) (by kernel_rfl) (by kernel_rfl) (fun _ _ _ h => h) (Or.inl ⟨by rfl, ?hyx170_17⟩) (by assumption) ?restx170_17
        case hyx170_17 => (intro w hSw; have F := Ok.sees hSw; clear hSw; simp only [sees, kBlk, kCells, cellsFrom, Nat.add_zero, cellsAt, Nat.reduceAdd] at F; go_simp; try with_reducible rfl)
        try simp only [Act.put, List.setIfInBounds_toArray, List.set_cons_zero, List.set_cons_succ, List.getElem_toArray, List.getElem_cons_succ, List.getElem_cons_zero]
        refine wpAnyH_take (i := 18) (v := ?vx171_18) rfl (by kernel_rfl) (by kernel_rfl) (by kernel_rfl) (fun _ _ _ h => h) (Or.inl ⟨by rfl, ?hyx171_18⟩) (by assumption) ?restx171_18
        case hyx171_18 => (intro w hSw; have F := Ok.sees hSw; clear hSw; simp only [sees, kBlk, kCells, cellsFrom, Nat.add_zero, cellsAt, Nat.reduceAdd] at F; go_simp; try with_reducible rfl)
        try simp only [Act.put, List.setIfInBounds_toArray, List.set_cons_zero, List.set_cons_succ, List.getElem_toArray, List.getElem_cons_succ, List.getElem_cons_zero]
        refine wpAnyH_take (i := 19) (v := ?vx172_19) rfl (by kernel_rfl) (by kernel_rfl) (by kernel_rfl) (fun _ _ _ h => h) (Or.inl ⟨by rfl, ?hyx172_19⟩) (by assumption) ?restx172_19
        case hyx172_19 => (intro w hSw; have F := Ok.sees hSw; clear hSw; simp only [sees, kBlk, kCells, cellsFrom, Nat.add_zero, cellsAt, Nat.reduceAdd] at F; go_simp; try with_reducible rfl)
        try simp only [Act.put, List.setIfInBounds_toArray, List.set_cons_zero, List.set_cons_succ, List.getElem_toArray, List.getElem_cons_succ, List.getElem_cons_zero]
        refine wpAnyH_take (i := 20) (v := ?vx173_20) rfl (by kernel_rfl) (by kernel_rfl) (by kernel_rfl) (fun _ _ _ h => h) (Or.inl ⟨by rfl, ?hyx173_20⟩) (by assumption) ?restx173_20
        case hyx173_20 => (intro w hSw; have F := Ok.sees hSw; clear hSw; simp only [sees, kBlk, kCells, cellsFrom, Nat.add_zero, cellsAt, Nat.reduceAdd] at F; go_simp; try with_reducible rfl)
        try simp only [Act.put, List.setIfInBounds_toArray, List.set_cons_zero, List.set_cons_succ, List.getElem_toArray, List.getElem_cons_succ, List.getElem_cons_zero]
        refine wpAnyH_take (i := 21) (v := ?vx174_21) rfl (by kernel_rfl) (by kernel_rfl) (by kernel_rfl) (fun _ _ _ h => h) (Or.inl ⟨by rfl, ?hyx174_21⟩) (by assumption) ?restx174_21
        case hyx174_21 => (intro w hSw; have F := Ok.sees hSw; clear hSw; simp only [sees, kBlk, kCells, cellsFrom, Nat.add_zero, cellsAt, Nat.reduceAdd] at F; go_simp; try with_reducible rfl)
        try simp only [Act.put, List.setIfInBounds_toArray, List.set_cons_zero, List.set_cons_succ, List.getElem_toArray, List.getElem_cons_succ, List.getElem_cons_zero]
        refine wpAnyH_take (i := 22) (v := ?vx175_22) rfl (by kernel_rfl) (by kernel_rfl) (by kernel_rfl) (fun _ _ _ h => h) (Or.inl ⟨by rfl, ?hyx175_22⟩) (by assumption) ?restx175_22
        case hyx175_22 => (intro w hSw; have F := Ok.sees hSw; clear hSw; simp only [sees, kBlk, kCells, cellsFrom, Nat.add_zero, cellsAt, Nat.reduceAdd] at F; go_simp; try with_reducible rfl)
        try simp only [Act.put, List.setIfInBounds_toArray, List.set_cons_zero, List.set_cons_succ, List.getElem_toArray, List.getElem_cons_succ, List.getElem_cons_zero]
        refine wpAnyH_take (i := 23) (v := ?vx176_23) rfl (by kernel_rfl) (by kernel_rfl) (by kernel_rfl) (fun _ _ _ h => h) (Or.inl ⟨by rfl, ?hyx176_23⟩) (by assumption) ?restx176_23
        case hyx176_23 => (intro w hSw; have F := Ok.sees hSw; clear hSw; simp only [sees, kBlk, kCells, cellsFrom, Nat.add_zero, cellsAt, Nat.reduceAdd] at F; go_simp; try with_reducible rfl)
        try simp only [Act.put, List.setIfInBounds_toArray, List.set_cons_zero, List.set_cons_succ, List.getElem_toArray, List.getElem_cons_succ, List.getElem_cons_zero]
        refine wpAnyH_take (i := 24) (v := ?vx177_24) rfl (by kernel_rfl) (by kernel_rfl) (by kernel_rfl) (fun _ _ _ h => h) (Or.inl ⟨by rfl, ?hyx177_24⟩) (by assumption) ?restx177_24
        case hyx177_24 => (intro w hSw; have F := Ok.sees hSw; clear hSw; simp only [sees, kBlk, kCells, cellsFrom, Nat.add_zero, cellsAt, Nat.reduceAdd] at F; go_simp; try with_reducible rfl)
        try simp only [Act.put, List.setIfInBounds_toArray, List.set_cons_zero, List.set_cons_succ, List.getElem_toArray, List.getElem_cons_succ, List.getElem_cons_zero]
        refine wpAnyH_take (i := 25) (v := ?vx178_25) rfl (by kernel_rfl) (by kernel_rfl) (by kernel_rfl) (fun _ _ _ h => h) (Or.inl ⟨by rfl, ?hyx178_25⟩) (by assumption) ?restx178_25
        case hyx178_25 => (intro w hSw; have F := Ok.sees hSw; clear hSw; simp only [sees, kBlk, kCells, cellsFrom, Nat.add_zero, cellsAt, Nat.reduceAdd] at F; go_simp; try with_reducible rfl)
        try simp only [Act.put, List.setIfInBounds_toArray, List.set_cons_zero, List.set_cons_succ, List.getElem_toArray, List.getElem_cons_succ, List.getElem_cons_zero]
        refine wpAnyH_take (i := 26) (v := ?vx179_26) rfl (by kernel_rfl) (by kernel_rfl) (by kernel_rfl) (fun _ _ _ h => h) (Or.inl ⟨by rfl, ?hyx179_26⟩) (by assumption) ?restx179_26
        case hyx179_26 => (intro w hSw; have F := Ok.sees hSw; clear hSw; simp only [sees, kBlk, kCells, cellsFrom, Nat.add_zero, cellsAt, Nat.reduceAdd] at F; go_simp; try with_reducible rfl)
        try simp only [Act.put, List.setIfInBounds_toArray, List.set_cons_zero, List.set_cons_succ, List.getElem_toArray, List.getElem_cons_succ, List.getElem_cons_zero]
        refine wpAnyH_take (i := 27) (v := ?vx180_27) rfl (by kernel_rfl) (by kernel_rfl) (by kernel_rfl) (fun _ _ _ h => h) (Or.inl ⟨by rfl, ?hyx180_27⟩) (by assumption) ?restx180_27
        case hyx180_27 => (intro w hSw; have F := Ok.sees hSw; clear hSw; simp only [sees, kBlk, kCells, cellsFrom, Nat.add_zero, cellsAt, Nat.reduceAdd] at F; go_simp; try with_reducible rfl)
        try simp only [Act.put, List.setIfInBounds_toArray, List.set_cons_zero, List.set_cons_succ, List.getElem_toArray, List.getElem_cons_succ, List.getElem_cons_zero]
        refine wpAnyH_take (i := 28) (v := ?vx181_28) rfl (by kernel_rfl) (by kernel_rfl) (by kernel_rfl) (fun _ _ _ h => h) (Or.inl ⟨by rfl, ?hyx181_28⟩) (by assumption) ?restx181_28
        case hyx181_28 => (intro w hSw; have F := Ok.sees hSw; clear hSw; simp only [sees, kBlk, kCells, cellsFrom, Nat.add_zero, cellsAt, Nat.reduceAdd] at F; go_simp; try with_reducible rfl)
        try simp only [Act.put, List.setIfInBounds_toArray, List.set_cons_zero, List.set_cons_succ, List.getElem_toArray, List.getElem_cons_succ, List.getElem_cons_zero]
        refine wpAnyH_take (i := 29) (v := ?vx182_29) rfl (by kernel_rfl) (by kernel_rfl) (by kernel_rfl) (fun _ _ _ h => h) (Or.inl ⟨by rfl, ?hyx182_29⟩) (by assumption) ?restx182_29
        case hyx182_29 => (intro w hSw; have F := Ok.sees hSw; clear hSw; simp only [sees, kBlk, kCells, cellsFrom, Nat.add_zero, cellsAt, Nat.reduceAdd] at F; go_simp; try with_reducible rfl)
        try simp only [Act.put, List.setIfInBounds_toArray, List.set_cons_zero, List.set_cons_succ, List.getElem_toArray, List.getElem_cons_succ, List.getElem_cons_zero]
        refine wpAnyH_take (i := 30) (v := ?vx183_30) rfl (by kernel_rfl) (by kernel_rfl) (by kernel_rfl) (fun _ _ _ h => h) (Or.inl ⟨by rfl, ?hyx183_30⟩) (by assumption) ?restx183_30
        case hyx183_30 => (intro w hSw; have F := Ok.sees hSw; clear hSw; simp only [sees, kBlk, kCells, cellsFrom, Nat.add_zero, cellsAt, Nat.reduceAdd] at F; go_simp; try with_reducible rfl)
        try simp only [Act.put, List.setIfInBounds_toArray, List.set_cons_zero, List.set_cons_succ, List.getElem_toArray, List.getElem_cons_succ, List.getElem_cons_zero]
        refine wpAnyH_take (i := 31) (v := ?vx184_31) rfl (by kernel_rfl) (by kernel_rfl) (by kernel_rfl) (fun _ _ _ h => h) (Or.inl ⟨by rfl, ?hyx184_31⟩) (by assumption) ?restx184_31
        case hyx184_31 => (intro w hSw; have F := Ok.sees hSw; clear hSw; simp only [sees, kBlk, kCells, cellsFrom, Nat.add_zero, cellsAt, Nat.reduceAdd] at F; go_simp; try with_reducible rfl)
        try simp only [Act.put, List.setIfInBounds_toArray, List.set_cons_zero, List.set_cons_succ, List.getElem_toArray, List.getElem_cons_succ, List.getElem_cons_zero]
        refine wpAnyH_take (i := 32) (v := ?vx185_32) rfl (by kernel_rfl) (by kernel_rfl) (by kernel_rfl) (fun _ _ _ h => h) (Or.inl ⟨by rfl, ?hyx185_32⟩) (by assumption) ?restx185_32
        case hyx185_32 => (intro w hSw; have F := Ok.sees hSw; clear hSw; simp only [sees, kBlk, kCells, cellsFrom, Nat.add_zero, cellsAt, Nat.reduceAdd] at F; go_simp; try with_reducible rfl)
        try simp only [Act.put, List.setIfInBounds_toArray, List.set_cons_zero, List.set_cons_succ, List.getElem_toArray, List.getElem_cons_succ, List.getElem_cons_zero]
        refine wpAnyH_take (i := 33) (v := ?vx186_33) rfl (by kernel_rfl) (by kernel_rfl) (by kernel_rfl) (fun _ _ _ h => h) (Or.inl ⟨by rfl, ?hyx186_33⟩) (by assumption) ?restx186_33
        case hyx186_33 => (intro w hSw; have F := Ok.sees hSw; clear hSw; simp only [sees, kBlk, kCells, cellsFrom, Nat.add_zero, cellsAt, Nat.reduceAdd] at F; go_simp; try with_reducible rfl)
        try simp only [Act.put, List.setIfInBounds_toArray, List.set_cons_zero, List.set_cons_succ, List.getElem_toArray, List.getElem_cons_succ, List.getElem_cons_zero]
        refine wpAnyH_take (i := 34) (v := ?vx187_34) rfl (by kernel_rfl) (by kernel_rfl) (by kernel_rfl) (fun _ _ _ h => h) (Or.inl ⟨by rfl, ?hyx187_34⟩) (by assumption) ?restx187_34
        case hyx187_34 => (intro w hSw; have F := Ok.sees hSw; clear hSw; simp only [sees, kBlk, kCells, cellsFrom, Nat.add_zero, cellsAt, Nat.reduceAdd] at F; go_simp; try with_reducible rfl)
        try simp only [Act.put, List.setIfInBounds_toArray, List.set_cons_zero, List.set_cons_succ, List.getElem_toArray, List.getElem_cons_succ, List.getElem_cons_zero]
        refine wpAnyH_take (i := 35) (v := ?vx188_35) rfl (by kernel_rfl) (by kernel_rfl) (by kernel_rfl) (fun _ _ _ h => h) (Or.inl ⟨by rfl, ?hyx188_35⟩) (by assumption) ?restx188_35
        case hyx188_35 => (intro w hSw; have F := Ok.sees hSw; clear hSw; simp only [sees, kBlk, kCells, cellsFrom, Nat.add_zero, cellsAt, Nat.reduceAdd] at F; go_simp; try with_reducible rfl)
        try simp only [Act.put, List.setIfInBounds_toArray, List.set_cons_zero, List.set_cons_succ, List.getElem_toArray, List.getElem_cons_succ, List.getElem_cons_zero]
        refine wpAnyH_take (i := 36) (v := ?vx189_36) rfl (by kernel_rfl) (by kernel_rfl) (by kernel_rfl) (fun _ _ _ h => h) (Or.inl ⟨by rfl, ?hyx189_36⟩) (by assumption) ?restx189_36
        case hyx189_36 => (intro w hSw; have F := Ok.sees hSw; clear hSw; simp only [sees, kBlk, kCells, cellsFrom, Nat.add_zero, cellsAt, Nat.reduceAdd] at F; go_simp; try with_reducible rfl)
        try simp only [Act.put, List.setIfInBounds_toArray, List.set_cons_zero, List.set_cons_succ, List.getElem_toArray, List.getElem_cons_succ, List.getElem_cons_zero]
        refine wpAnyH_take (i := 37) (v := ?vx190_37) rfl (by kernel_rfl) (by kernel_rfl) (by kernel_rfl) (fun _ _ _ h => h) (Or.inl ⟨by rfl, ?hyx190_37⟩) (by assumption) ?restx190_37
        case hyx190_37 => (intro w hSw; have F := Ok.sees hSw; clear hSw; simp only [sees, kBlk, kCells, cellsFrom, Nat.add_zero, cellsAt, Nat.reduceAdd] at F; go_simp; try with_reducible rfl)
        try simp only [Act.put, List.setIfInBounds_toArray, List.set_cons_zero, List.set_cons_succ, List.getElem_toArray, List.getElem_cons_succ, List.getElem_cons_zero]
        refine wpAnyH_done (by kernel_rfl) ?_ _
        clear z0 c0_0 c0_1 c0_2 c0_3 z1 c1_0 c1_1
        clear H1
        have H4 := Lib.hid hHeld
        clear hHeld
        go_wp2_with fail
        go_ret
        exact ⟨by rw [inF_some f x y k (by rw [HQ.out]; exact HV.out) n hlt]; rfl, H4.out.bel⟩
    · have hke : k = n := by omega
      subst hke
      go_wp2_with fail
      go_ret
      exact ⟨by rw [HI.out]; rfl, H.out.bel⟩
end Go.Proofs.YtkdabfepggehiaaDoor
