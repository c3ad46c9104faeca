/- The contracts of what parse.Formula defers. -/
import Derived.Test.YtlngjiibbcgkmaaDoorParB
import Derived.Defers
import Derived.Recover
namespace Go.Proofs.YtlngjiibbcgkmaaDoor
open Go.RowKit

set_option maxRecDepth 100000 in
set_option maxHeartbeats 1000000 in
theorem catch_fault (w0 : World) (tb ab eb : Nat) (v1 v2 v3 : Value) (a c : Int) (w : World) (ht : w0.heap.size ≤ tb) (ha : w0.heap.size ≤ ab) (he : w0.heap.size ≤ eb) (h12 : tb ≠ ab) (h13 : tb ≠ eb) (h23 : ab ≠ eb) (h : Ok w0 [kVar tb 27 [v1], kVar ab 3 [v2], kVar eb 22 [v3]] w) :
    CallsD Tryd.prog 15 #[.pointer (some ⟨tb, 0, none⟩), .pointer (some ⟨ab, 0, none⟩), .pointer (some ⟨eb, 0, none⟩)] (.panicking (faultP a c)) w fun e u' w' =>
      e = .returned (.tuple #[]) ∧ u' = .panicking [{ v := .iface 49 (.agg #[.int .i64 a, .int .i64 c]), recovered := true }] ∧
        Ok w0 [kVar tb 27 [.slice none 0 0], kVar ab 3 [.int .i64 a], kVar eb 22 [.int .i64 c]] w' := by
  have hta : ∀ w : World, (Instr.typeAssert (.iface 49 (.agg #[.int .i64 a, .int .i64 c])) 20 49 true).run Tryd.prog w = .ok (.tuple #[.agg #[.int .i64 a, .int .i64 c], .bool true]) w := fun _ => by kernel_rfl
  have H := Lib.hid h
  clear h
  have F := H.out.sees
  simp only [sees, kVar, cellsAt] at F
  obtain ⟨⟨⟨z0, f0⟩, c0, -⟩, ⟨⟨z1, f1⟩, c1, -⟩, ⟨⟨z2, f2⟩, c2, -⟩, -⟩ := F
  refine callsD_of_wpS Tryd.func15 rfl fun c₀ cs hu => ?_
  apply wpS_seq
  apply wpS_region
  simp [wpOpsS, go_sem, recoverD, hu, Tryd.ntmps15, Exit.thenS, faultP]
  refine wpS_of_wp ?_
  go_wp2_with fail
  have n1 : w.heap.size ≠ tb := by omega
  have n2 : tb ≠ w.heap.size := by omega
  have HA := Lib.hid (H.out.alloc w.heap.size 49 [.int .i64 a, .int .i64 c] rfl)
  clear c0 z0 f0 c1 z1 f1 c2 z2 f2 H
  generalize (w.alloc (.cells #[.int .i64 a, .int .i64 c] 49)) = wa at HA ⊢
  generalize w.heap.size = ob at HA n1 n2 ⊢
  have F := HA.out.sees
  simp only [sees, kVar, kBlk, cellsAt, Nat.reduceAdd] at F
  obtain ⟨⟨z3, c3, c4, -⟩, ⟨⟨z0, f0⟩, c0, -⟩, ⟨⟨z1, f1⟩, c1, -⟩, ⟨⟨z2, f2⟩, c2, -⟩, -⟩ := F
  have HE := Lib.hid (((((((HA.out.drop [kVar tb 27 [v1], kVar ab 3 [v2], kVar eb 22 [v3]] (by simp)).set_ (i := 0) (u := .slice none 0 0) ht (by simp [kVar]; omega)).drop
    [kVar ab 3 [v2], kVar tb 27 [.slice none 0 0], kVar eb 22 [v3]] (by simp)).set_ (i := 0) (u := .int .i64 a) ha (by simp [kVar]; omega)).drop
    [kVar eb 22 [v3], kVar tb 27 [.slice none 0 0], kVar ab 3 [.int .i64 a]] (by simp)).set_ (i := 0) (u := .int .i64 c) he (by simp [kVar]; omega)).drop
    [kVar tb 27 [.slice none 0 0], kVar ab 3 [.int .i64 a], kVar eb 22 [.int .i64 c]] (by simp)).drew
  go_region
  all_goals go_wp2_with fail
  all_goals exact ⟨rfl, _, rfl, _, results_none rfl _ _ _, rfl, rfl, HE.out⟩
set_option maxRecDepth 100000 in
theorem catch_none (tb ab eb : Nat) (w : World) :
    CallsD Tryd.prog 15 #[.pointer (some ⟨tb, 0, none⟩), .pointer (some ⟨ab, 0, none⟩), .pointer (some ⟨eb, 0, none⟩)] .returning w fun e u' w' => e = .returned (.tuple #[]) ∧ u' = .returning ∧ w' = w := by
  refine callsD_of_wpS Tryd.func15 rfl fun c₀ cs hu => ?_
  apply wpS_seq
  apply wpS_region
  simp [wpOpsS, go_sem, recoverD, hu, Tryd.ntmps15, Exit.thenS]
  refine wpS_of_wp ?_
  go_wp2_with fail
  cases c₀
  simp only [] at hu
  subst hu
  exact ⟨rfl, _, rfl, _, results_none rfl _ _ _, rfl, rfl, rfl⟩
end Go.Proofs.YtlngjiibbcgkmaaDoor
