/- lex.write: texts, truths, errors, names. -/
import Derived.Test.YtlngjiibbcgkmaaGreatDoorWrite
namespace Go.Proofs.YtlngjiibbcgkmaaGreatDoor
open Go.RowKit

attribute [local go_sem high] eq_tok
def FailAny (c : Int) (e : Ending) : Prop := ∃ d : Int, 1 ≤ d ∧ d ≤ 7 ∧ (1 ≤ c → c ≤ 5 → d = c) ∧ e = .returned (.agg #[.int .u8 4, .int .i64 d, .string ⟨#[]⟩])
theorem fail_any (c : Int) (w : World) :
    Calls Tryz.prog 65 #[.int .i64 c] w fun e w' => FailAny c e ∧ Below w.heap.size w w' := by
  by_cases h : 1 ≤ c ∧ c ≤ 7
  · exact (fail_code c h.1 h.2 w).mono fun e w' ⟨h1, h2⟩ => ⟨⟨c, h.1, h.2, fun _ _ => rfl, h1⟩, h2⟩
  · have H0 := Lib.hid (Ok.start w)
    have hno : 1 ≤ c → c ≤ 5 → (2 : Int) = c := by omega
    have Hno := keep hno
    clear hno
    go_enter Tryz.func65, Tryz.ntmps65
    go_upto_region 1 with fail
    have H1 := Lib.hid (H0.out.var w.heap.size 28 [.int .u8 0, .int .i64 0, .string ⟨#[]⟩] rfl)
    clear H0
    generalize (w.alloc (.cells #[.int .u8 0, .int .i64 0, .string ⟨#[]⟩] 28)) = W2 at H1 ⊢
    have F3 := H1.out.sees
    simp only [sees, kVar, cellsAt, Nat.reduceAdd] at F3
    obtain ⟨⟨⟨z0, fz0⟩, c0_0, c0_1, c0_2, -⟩, -⟩ := F3
    have hK := H1.out.get (kVar (w.heap.size) 28 [.int .u8 0, .int .i64 0, .string ⟨#[]⟩]) (by simp)
    have hB := H1.out.bel
    have hE := Lib.hid ((((show Blk W2 (w.heap.size) 28 _ from hK).set_ 0 (.int .u8 4)).set_ 1 (.int .i64 2)).set_ 2 (.string ⟨#[]⟩))
    have HB := Lib.hid hB
    clear hB hK
    by_cases h1 : c < 1
    · have e1 : decide (c < 1) = true := decide_eq_true h1
      go_wp2_with fail
      have r0 := hE.out.cell 0
      have r1 := hE.out.cell 1
      have r2 := hE.out.cell 2
      simp at r0 r1 r2
      exact bodyPost_ret (v := .agg #[.int .u8 4, .int .i64 2, .string ⟨#[]⟩]) (by simp [results, Tryz.results65, go_sem, r0, r1, r2]) rfl ⟨⟨2, by decide, by decide, Hno.out, rfl⟩, (((HB.out.setCell (by simp) _).setCell (by simp) _).setCell (by simp) _)⟩
    · have e1 : decide (c < 1) = false := decide_eq_false h1
      have e2 : decide ((7 : Int) < c) = true := decide_eq_true (by omega)
      go_wp2_with fail
      have r0 := hE.out.cell 0
      have r1 := hE.out.cell 1
      have r2 := hE.out.cell 2
      simp at r0 r1 r2
      exact bodyPost_ret (v := .agg #[.int .u8 4, .int .i64 2, .string ⟨#[]⟩]) (by simp [results, Tryz.results65, go_sem, r0, r1, r2]) rfl ⟨⟨2, by decide, by decide, Hno.out, rfl⟩, (((HB.out.setCell (by simp) _).setCell (by simp) _).setCell (by simp) _)⟩
set_option maxRecDepth 100000 in
set_option maxHeartbeats 4000000 in
theorem write_3 (n a1 a2 a3 a4 p : Int) (s : ByteArray) (w : World) :
    Calls Tryz.prog 43 #[.agg #[.int .u8 3, .int .i64 n, .string s, .int .i64 a1, .int .i64 a2, .int .i64 a3, .int .i64 a4, .int .i64 p]] w (WOut ⟨3, n, s.data.toList, ⟨a1, a2, a3, a4⟩, 0⟩ w) := by
  by_cases h0 : n = 0
  · subst h0
    have hb : eq8 3 0 a1 a2 a3 a4 p 3 0 0 0 0 0 p s.toList [] = okT ⟨3, 0, s.data.toList, ⟨a1, a2, a3, a4⟩, 0⟩ := by
      unfold eq8 okT bareB
      rw [show s.data.toList.isEmpty = decide (s.data.toList = []) from by cases s.data.toList <;> rfl]
      simp [ByteArray.toList_eq]
    have HEq := keep hb
    clear hb
    have H1 := Lib.hid (((Ok.start w).alloc w.heap.size 43 [.int .u8 3, .int .i64 0, .string s, .int .i64 a1, .int .i64 a2, .int .i64 a3, .int .i64 a4, .int .i64 p] rfl).alloc (w.heap.size + 1) 43 [.int .u8 3, .int .i64 0, .string ⟨#[]⟩, .int .i64 0, .int .i64 0, .int .i64 0, .int .i64 0, .int .i64 p] (by simp))
    go_enter Tryz.func43, Tryz.ntmps43
    go_wp2_with fail
    generalize ((w.alloc (.cells #[.int .u8 3, .int .i64 0, .string s, .int .i64 a1, .int .i64 a2, .int .i64 a3, .int .i64 a4, .int .i64 p] 43)).alloc (.cells #[.int .u8 3, .int .i64 0, .string ⟨#[]⟩, .int .i64 0, .int .i64 0, .int .i64 0, .int .i64 0, .int .i64 p] 43)) = W2 at H1 ⊢
    refine wp_region_held_drew (S := fun W => Ok w [kBlk (w.heap.size + 1) 43 [.int .u8 3, .int .i64 0, .string ⟨#[]⟩, .int .i64 0, .int .i64 0, .int .i64 0, .int .i64 0, .int .i64 p], kBlk (w.heap.size) 43 [.int .u8 3, .int .i64 0, .string s, .int .i64 a1, .int .i64 a2, .int .i64 a3, .int .i64 a4, .int .i64 p]] W) (by kernel_rfl) H1.out.drew (fun hHeld => ?_)
    refine wpAnyH_take (i := 0) (v := ?vx60_0) rfl (by kernel_rfl) (by kernel_rfl) (by kernel_rfl) (fun _ _ _ h => h) (Or.inl ⟨by rfl, ?hyx60_0⟩) (by assumption) ?restx60_0
    case hyx60_0 => (intro w hSw; have F := Ok.sees hSw; clear hSw; simp only [sees, kBlk, cellsAt, Nat.reduceAdd] at F; go_simp; try with_reducible rfl)
    try simp only [Act.put, List.setIfInBounds_toArray, List.set_cons_zero, List.set_cons_succ, List.getElem_toArray, List.getElem_cons_zero]
    refine wpAnyH_take (i := 1) (v := ?vx61_1) rfl (by kernel_rfl) (by kernel_rfl) (by kernel_rfl) (fun _ _ _ h => h) (Or.inl ⟨by rfl, ?hyx61_1⟩) (by assumption) ?restx61_1
    case hyx61_1 => (intro w hSw; have F := Ok.sees hSw; clear hSw; simp only [sees, kBlk, cellsAt, Nat.reduceAdd] at F; go_simp; try with_reducible rfl)
    try simp only [Act.put, List.setIfInBounds_toArray, List.set_cons_zero, List.set_cons_succ, List.getElem_toArray, List.getElem_cons_succ, List.getElem_cons_zero]
    refine wpAnyH_take (i := 2) (v := ?vx62_2) rfl (by kernel_rfl) (by kernel_rfl) (by kernel_rfl) (fun _ _ _ h => h) (Or.inl ⟨by rfl, ?hyx62_2⟩) (by assumption) ?restx62_2
    case hyx62_2 => (intro w hSw; have F := Ok.sees hSw; clear hSw; simp only [sees, kBlk, cellsAt, Nat.reduceAdd] at F; go_simp; try with_reducible rfl)
    try simp only [Act.put, List.setIfInBounds_toArray, List.set_cons_zero, List.set_cons_succ, List.getElem_toArray, List.getElem_cons_succ, List.getElem_cons_zero]
    refine wpAnyH_take (i := 3) (v := ?vx63_3) rfl (by kernel_rfl) (by kernel_rfl) (by kernel_rfl) (fun _ _ _ h => h) (Or.inl ⟨by rfl, ?hyx63_3⟩) (by assumption) ?restx63_3
    case hyx63_3 => (intro w hSw; have F := Ok.sees hSw; clear hSw; simp only [sees, kBlk, cellsAt, Nat.reduceAdd] at F; go_simp; try with_reducible rfl)
    try simp only [Act.put, List.setIfInBounds_toArray, List.set_cons_zero, List.set_cons_succ, List.getElem_toArray, List.getElem_cons_succ, List.getElem_cons_zero]
    refine wpAnyH_take (i := 4) (v := undef) rfl (by kernel_rfl) (by kernel_rfl) (by kernel_rfl) (fun _ _ _ h => h) (Or.inr ⟨by rfl, rfl⟩) (by assumption) ?_
    try simp only [Act.put, List.setIfInBounds_toArray, List.set_cons_zero, List.set_cons_succ, List.getElem_toArray, List.getElem_cons_succ, List.getElem_cons_zero]
    refine wpAnyH_take (i := 5) (v := undef) rfl (by kernel_rfl) (by kernel_rfl) (by kernel_rfl) (fun _ _ _ h => h) (Or.inr ⟨by rfl, rfl⟩) (by assumption) ?_
    try simp only [Act.put, List.setIfInBounds_toArray, List.set_cons_zero, List.set_cons_succ, List.getElem_toArray, List.getElem_cons_succ, List.getElem_cons_zero]
    refine wpAnyH_take (i := 6) (v := undef) rfl (by kernel_rfl) (by kernel_rfl) (by kernel_rfl) (fun _ _ _ h => h) (Or.inr ⟨by rfl, rfl⟩) (by assumption) ?_
    try simp only [Act.put, List.setIfInBounds_toArray, List.set_cons_zero, List.set_cons_succ, List.getElem_toArray, List.getElem_cons_succ, List.getElem_cons_zero]
    refine wpAnyH_take (i := 7) (v := ?vx67_7) rfl (by kernel_rfl) (by kernel_rfl) (by kernel_rfl) (fun _ _ _ h => h) (Or.inl ⟨by rfl, ?hyx67_7⟩) (by assumption) ?restx67_7
    case hyx67_7 => (intro w hSw; have F := Ok.sees hSw; clear hSw; simp only [sees, kBlk, cellsAt, Nat.reduceAdd] at F; go_simp; try with_reducible rfl)
    try simp only [Act.put, List.setIfInBounds_toArray, List.set_cons_zero, List.set_cons_succ, List.getElem_toArray, List.getElem_cons_succ, List.getElem_cons_zero]
    refine wpAnyH_take (i := 8) (v := ?vx68_8) rfl (by kernel_rfl) (by kernel_rfl) (by kernel_rfl) (fun _ _ _ h => h) (Or.inl ⟨by rfl, ?hyx68_8⟩) (by assumption) ?restx68_8
    case hyx68_8 => (intro w hSw; have F := Ok.sees hSw; clear hSw; simp only [sees, kBlk, cellsAt, Nat.reduceAdd] at F; go_simp; try with_reducible rfl)
    try simp only [Act.put, List.setIfInBounds_toArray, List.set_cons_zero, List.set_cons_succ, List.getElem_toArray, List.getElem_cons_succ, List.getElem_cons_zero]
    refine wpAnyH_take (i := 9) (v := ?vx69_9) rfl (by kernel_rfl) (by kernel_rfl) (by kernel_rfl) (fun _ _ _ h => h) (Or.inl ⟨by rfl, ?hyx69_9⟩) (by assumption) ?restx69_9
    case hyx69_9 => (intro w hSw; have F := Ok.sees hSw; clear hSw; simp only [sees, kBlk, cellsAt, Nat.reduceAdd] at F; go_simp; try with_reducible rfl)
    try simp only [Act.put, List.setIfInBounds_toArray, List.set_cons_zero, List.set_cons_succ, List.getElem_toArray, List.getElem_cons_succ, List.getElem_cons_zero]
    refine wpAnyH_done (by kernel_rfl) ?_ _
    clear H1
    have H4 := Lib.hid hHeld
    clear hHeld
    have F5 := H4.out.sees
    simp only [sees, kBlk, cellsAt, Nat.reduceAdd] at F5
    obtain ⟨⟨z0, c0_0, c0_1, c0_2, c0_3, c0_4, c0_5, c0_6, c0_7, -⟩, ⟨z1, c1_0, c1_1, c1_2, c1_3, c1_4, c1_5, c1_6, c1_7, -⟩, -⟩ := F5
    go_wp2_with fail
    clear z0 c0_0 c0_1 c0_2 c0_3 c0_4 c0_5 c0_6 c0_7 z1 c1_0 c1_1 c1_2 c1_3 c1_4 c1_5 c1_6 c1_7
    refine wp_region_held_drew (S := fun W => Ok w [kBlk (w.heap.size + 1) 43 [.int .u8 3, .int .i64 0, .string ⟨#[]⟩, .int .i64 0, .int .i64 0, .int .i64 0, .int .i64 0, .int .i64 p], kBlk (w.heap.size) 43 [.int .u8 3, .int .i64 0, .string s, .int .i64 a1, .int .i64 a2, .int .i64 a3, .int .i64 a4, .int .i64 p]] W) (by kernel_rfl) H4.out.drew (fun hHeld => ?_)
    refine wpAnyH_take (i := 0) (v := ?vx70_0) rfl (by kernel_rfl) (by kernel_rfl) (by kernel_rfl) (fun _ _ _ h => h) (Or.inl ⟨by rfl, ?hyx70_0⟩) (by assumption) ?restx70_0
    case hyx70_0 => (intro w hSw; have F := Ok.sees hSw; clear hSw; simp only [sees, kBlk, cellsAt, Nat.reduceAdd] at F; go_simp; try with_reducible rfl)
    try simp only [Act.put, List.setIfInBounds_toArray, List.set_cons_zero, List.set_cons_succ, List.getElem_toArray, List.getElem_cons_zero]
    refine wpAnyH_take (i := 1) (v := ?vx71_1) rfl (by kernel_rfl) (by kernel_rfl) (by kernel_rfl) (fun _ _ _ h => h) (Or.inl ⟨by rfl, ?hyx71_1⟩) (by assumption) ?restx71_1
    case hyx71_1 => (intro w hSw; have F := Ok.sees hSw; clear hSw; simp only [sees, kBlk, cellsAt, Nat.reduceAdd] at F; go_simp; try with_reducible rfl)
    try simp only [Act.put, List.setIfInBounds_toArray, List.set_cons_zero, List.set_cons_succ, List.getElem_toArray, List.getElem_cons_succ, List.getElem_cons_zero]
    refine wpAnyH_take (i := 2) (v := ?vx72_2) rfl (by kernel_rfl) (by kernel_rfl) (by kernel_rfl) (fun _ _ _ h => h) (Or.inl ⟨by rfl, ?hyx72_2⟩) (by assumption) ?restx72_2
    case hyx72_2 => (intro w hSw; have F := Ok.sees hSw; clear hSw; simp only [sees, kBlk, cellsAt, Nat.reduceAdd] at F; go_simp; try with_reducible rfl)
    try simp only [Act.put, List.setIfInBounds_toArray, List.set_cons_zero, List.set_cons_succ, List.getElem_toArray, List.getElem_cons_succ, List.getElem_cons_zero]
    refine wpAnyH_take (i := 3) (v := ?vx73_3) rfl (by kernel_rfl) (by kernel_rfl) (by kernel_rfl) (fun _ _ _ h => h) (Or.inl ⟨by rfl, ?hyx73_3⟩) (by assumption) ?restx73_3
    case hyx73_3 => (intro w hSw; have F := Ok.sees hSw; clear hSw; simp only [sees, kBlk, cellsAt, Nat.reduceAdd] at F; go_simp; try with_reducible rfl)
    try simp only [Act.put, List.setIfInBounds_toArray, List.set_cons_zero, List.set_cons_succ, List.getElem_toArray, List.getElem_cons_succ, List.getElem_cons_zero]
    refine wpAnyH_take (i := 4) (v := ?vx74_4) rfl (by kernel_rfl) (by kernel_rfl) (by kernel_rfl) (fun _ _ _ h => h) (Or.inl ⟨by rfl, ?hyx74_4⟩) (by assumption) ?restx74_4
    case hyx74_4 => (intro w hSw; have F := Ok.sees hSw; clear hSw; simp only [sees, kBlk, cellsAt, Nat.reduceAdd] at F; go_simp; try with_reducible rfl)
    try simp only [Act.put, List.setIfInBounds_toArray, List.set_cons_zero, List.set_cons_succ, List.getElem_toArray, List.getElem_cons_succ, List.getElem_cons_zero]
    refine wpAnyH_take (i := 5) (v := ?vx75_5) rfl (by kernel_rfl) (by kernel_rfl) (by kernel_rfl) (fun _ _ _ h => h) (Or.inl ⟨by rfl, ?hyx75_5⟩) (by assumption) ?restx75_5
    case hyx75_5 => (intro w hSw; have F := Ok.sees hSw; clear hSw; simp only [sees, kBlk, cellsAt, Nat.reduceAdd] at F; go_simp; try with_reducible rfl)
    try simp only [Act.put, List.setIfInBounds_toArray, List.set_cons_zero, List.set_cons_succ, List.getElem_toArray, List.getElem_cons_succ, List.getElem_cons_zero]
    refine wpAnyH_take (i := 6) (v := ?vx76_6) rfl (by kernel_rfl) (by kernel_rfl) (by kernel_rfl) (fun _ _ _ h => h) (Or.inl ⟨by rfl, ?hyx76_6⟩) (by assumption) ?restx76_6
    case hyx76_6 => (intro w hSw; have F := Ok.sees hSw; clear hSw; simp only [sees, kBlk, cellsAt, Nat.reduceAdd] at F; go_simp; try with_reducible rfl)
    try simp only [Act.put, List.setIfInBounds_toArray, List.set_cons_zero, List.set_cons_succ, List.getElem_toArray, List.getElem_cons_succ, List.getElem_cons_zero]
    refine wpAnyH_take (i := 7) (v := ?vx77_7) rfl (by kernel_rfl) (by kernel_rfl) (by kernel_rfl) (fun _ _ _ h => h) (Or.inl ⟨by rfl, ?hyx77_7⟩) (by assumption) ?restx77_7
    case hyx77_7 => (intro w hSw; have F := Ok.sees hSw; clear hSw; simp only [sees, kBlk, cellsAt, Nat.reduceAdd] at F; go_simp; try with_reducible rfl)
    try simp only [Act.put, List.setIfInBounds_toArray, List.set_cons_zero, List.set_cons_succ, List.getElem_toArray, List.getElem_cons_succ, List.getElem_cons_zero]
    refine wpAnyH_take (i := 8) (v := ?vx78_8) rfl (by kernel_rfl) (by kernel_rfl) (by kernel_rfl) (fun _ _ _ h => h) (Or.inl ⟨by rfl, ?hyx78_8⟩) (by assumption) ?restx78_8
    case hyx78_8 => (intro w hSw; have F := Ok.sees hSw; clear hSw; simp only [sees, kBlk, cellsAt, Nat.reduceAdd] at F; go_simp; try with_reducible rfl)
    try simp only [Act.put, List.setIfInBounds_toArray, List.set_cons_zero, List.set_cons_succ, List.getElem_toArray, List.getElem_cons_succ, List.getElem_cons_zero]
    refine wpAnyH_done (by kernel_rfl) ?_ _
    clear H4
    have H7 := Lib.hid hHeld
    clear hHeld
    go_wp2_with fail
    refine bodyPost_ret (v := .tuple #[.string ⟨#[70, 65, 76, 83, 69]⟩, .bool (eq8 3 0 a1 a2 a3 a4 p 3 0 0 0 0 0 p s.toList [])]) (by simp [results, Tryz.results43, go_sem]) rfl ⟨⟨#[70, 65, 76, 83, 69]⟩, ?_, ?_, H7.out.bel⟩
    · rw [HEq.out]
    · intro _; rfl
  · by_cases h1 : n = 1
    · subst h1
      have hb : eq8 3 1 a1 a2 a3 a4 p 3 1 0 0 0 0 p s.toList [] = okT ⟨3, 1, s.data.toList, ⟨a1, a2, a3, a4⟩, 0⟩ := by
        unfold eq8 okT bareB
        rw [show s.data.toList.isEmpty = decide (s.data.toList = []) from by cases s.data.toList <;> rfl]
        simp [ByteArray.toList_eq]
      have HEq := keep hb
      clear hb
      have H1 := Lib.hid (((Ok.start w).alloc w.heap.size 43 [.int .u8 3, .int .i64 1, .string s, .int .i64 a1, .int .i64 a2, .int .i64 a3, .int .i64 a4, .int .i64 p] rfl).alloc (w.heap.size + 1) 43 [.int .u8 3, .int .i64 1, .string ⟨#[]⟩, .int .i64 0, .int .i64 0, .int .i64 0, .int .i64 0, .int .i64 p] (by simp))
      go_enter Tryz.func43, Tryz.ntmps43
      go_wp2_with fail
      generalize ((w.alloc (.cells #[.int .u8 3, .int .i64 1, .string s, .int .i64 a1, .int .i64 a2, .int .i64 a3, .int .i64 a4, .int .i64 p] 43)).alloc (.cells #[.int .u8 3, .int .i64 1, .string ⟨#[]⟩, .int .i64 0, .int .i64 0, .int .i64 0, .int .i64 0, .int .i64 p] 43)) = W2 at H1 ⊢
      refine wp_region_held_drew (S := fun W => Ok w [kBlk (w.heap.size + 1) 43 [.int .u8 3, .int .i64 1, .string ⟨#[]⟩, .int .i64 0, .int .i64 0, .int .i64 0, .int .i64 0, .int .i64 p], kBlk (w.heap.size) 43 [.int .u8 3, .int .i64 1, .string s, .int .i64 a1, .int .i64 a2, .int .i64 a3, .int .i64 a4, .int .i64 p]] W) (by kernel_rfl) H1.out.drew (fun hHeld => ?_)
      refine wpAnyH_take (i := 0) (v := ?vx79_0) rfl (by kernel_rfl) (by kernel_rfl) (by kernel_rfl) (fun _ _ _ h => h) (Or.inl ⟨by rfl, ?hyx79_0⟩) (by assumption) ?restx79_0
      case hyx79_0 => (intro w hSw; have F := Ok.sees hSw; clear hSw; simp only [sees, kBlk, cellsAt, Nat.reduceAdd] at F; go_simp; try with_reducible rfl)
      try simp only [Act.put, List.setIfInBounds_toArray, List.set_cons_zero, List.set_cons_succ, List.getElem_toArray, List.getElem_cons_zero]
      refine wpAnyH_take (i := 1) (v := ?vx80_1) rfl (by kernel_rfl) (by kernel_rfl) (by kernel_rfl) (fun _ _ _ h => h) (Or.inl ⟨by rfl, ?hyx80_1⟩) (by assumption) ?restx80_1
      case hyx80_1 => (intro w hSw; have F := Ok.sees hSw; clear hSw; simp only [sees, kBlk, cellsAt, Nat.reduceAdd] at F; go_simp; try with_reducible rfl)
      try simp only [Act.put, List.setIfInBounds_toArray, List.set_cons_zero, List.set_cons_succ, List.getElem_toArray, List.getElem_cons_succ, List.getElem_cons_zero]
      refine wpAnyH_take (i := 2) (v := ?vx81_2) rfl (by kernel_rfl) (by kernel_rfl) (by kernel_rfl) (fun _ _ _ h => h) (Or.inl ⟨by rfl, ?hyx81_2⟩) (by assumption) ?restx81_2
      case hyx81_2 => (intro w hSw; have F := Ok.sees hSw; clear hSw; simp only [sees, kBlk, cellsAt, Nat.reduceAdd] at F; go_simp; try with_reducible rfl)
      try simp only [Act.put, List.setIfInBounds_toArray, List.set_cons_zero, List.set_cons_succ, List.getElem_toArray, List.getElem_cons_succ, List.getElem_cons_zero]
      refine wpAnyH_take (i := 3) (v := ?vx82_3) rfl (by kernel_rfl) (by kernel_rfl) (by kernel_rfl) (fun _ _ _ h => h) (Or.inl ⟨by rfl, ?hyx82_3⟩) (by assumption) ?restx82_3
      case hyx82_3 => (intro w hSw; have F := Ok.sees hSw; clear hSw; simp only [sees, kBlk, cellsAt, Nat.reduceAdd] at F; go_simp; try with_reducible rfl)
      try simp only [Act.put, List.setIfInBounds_toArray, List.set_cons_zero, List.set_cons_succ, List.getElem_toArray, List.getElem_cons_succ, List.getElem_cons_zero]
      refine wpAnyH_take (i := 4) (v := ?vx83_4) rfl (by kernel_rfl) (by kernel_rfl) (by kernel_rfl) (fun _ _ _ h => h) (Or.inl ⟨by rfl, ?hyx83_4⟩) (by assumption) ?restx83_4
      case hyx83_4 => (intro w hSw; have F := Ok.sees hSw; clear hSw; simp only [sees, kBlk, cellsAt, Nat.reduceAdd] at F; go_simp; try with_reducible rfl)
      try simp only [Act.put, List.setIfInBounds_toArray, List.set_cons_zero, List.set_cons_succ, List.getElem_toArray, List.getElem_cons_succ, List.getElem_cons_zero]
      refine wpAnyH_take (i := 5) (v := ?vx84_5) rfl (by kernel_rfl) (by kernel_rfl) (by kernel_rfl) (fun _ _ _ h => h) (Or.inl ⟨by rfl, ?hyx84_5⟩) (by assumption) ?restx84_5
      case hyx84_5 => (intro w hSw; have F := Ok.sees hSw; clear hSw; simp only [sees, kBlk, cellsAt, Nat.reduceAdd] at F; go_simp; try with_reducible rfl)
      try simp only [Act.put, List.setIfInBounds_toArray, List.set_cons_zero, List.set_cons_succ, List.getElem_toArray, List.getElem_cons_succ, List.getElem_cons_zero]
      refine wpAnyH_take (i := 6) (v := ?vx85_6) rfl (by kernel_rfl) (by kernel_rfl) (by kernel_rfl) (fun _ _ _ h => h) (Or.inl ⟨by rfl, ?hyx85_6⟩) (by assumption) ?restx85_6
      case hyx85_6 => (intro w hSw; have F := Ok.sees hSw; clear hSw; simp only [sees, kBlk, cellsAt, Nat.reduceAdd] at F; go_simp; try with_reducible rfl)
      try simp only [Act.put, List.setIfInBounds_toArray, List.set_cons_zero, List.set_cons_succ, List.getElem_toArray, List.getElem_cons_succ, List.getElem_cons_zero]
      refine wpAnyH_take (i := 7) (v := ?vx86_7) rfl (by kernel_rfl) (by kernel_rfl) (by kernel_rfl) (fun _ _ _ h => h) (Or.inl ⟨by rfl, ?hyx86_7⟩) (by assumption) ?restx86_7
      case hyx86_7 => (intro w hSw; have F := Ok.sees hSw; clear hSw; simp only [sees, kBlk, cellsAt, Nat.reduceAdd] at F; go_simp; try with_reducible rfl)
      try simp only [Act.put, List.setIfInBounds_toArray, List.set_cons_zero, List.set_cons_succ, List.getElem_toArray, List.getElem_cons_succ, List.getElem_cons_zero]
      refine wpAnyH_take (i := 8) (v := ?vx87_8) rfl (by kernel_rfl) (by kernel_rfl) (by kernel_rfl) (fun _ _ _ h => h) (Or.inl ⟨by rfl, ?hyx87_8⟩) (by assumption) ?restx87_8
      case hyx87_8 => (intro w hSw; have F := Ok.sees hSw; clear hSw; simp only [sees, kBlk, cellsAt, Nat.reduceAdd] at F; go_simp; try with_reducible rfl)
      try simp only [Act.put, List.setIfInBounds_toArray, List.set_cons_zero, List.set_cons_succ, List.getElem_toArray, List.getElem_cons_succ, List.getElem_cons_zero]
      refine wpAnyH_take (i := 9) (v := ?vx88_9) rfl (by kernel_rfl) (by kernel_rfl) (by kernel_rfl) (fun _ _ _ h => h) (Or.inl ⟨by rfl, ?hyx88_9⟩) (by assumption) ?restx88_9
      case hyx88_9 => (intro w hSw; have F := Ok.sees hSw; clear hSw; simp only [sees, kBlk, cellsAt, Nat.reduceAdd] at F; go_simp; try with_reducible rfl)
      try simp only [Act.put, List.setIfInBounds_toArray, List.set_cons_zero, List.set_cons_succ, List.getElem_toArray, List.getElem_cons_succ, List.getElem_cons_zero]
      refine wpAnyH_done (by kernel_rfl) ?_ _
      clear H1
      have H4 := Lib.hid hHeld
      clear hHeld
      have F5 := H4.out.sees
      simp only [sees, kBlk, cellsAt, Nat.reduceAdd] at F5
      obtain ⟨⟨z0, c0_0, c0_1, c0_2, c0_3, c0_4, c0_5, c0_6, c0_7, -⟩, ⟨z1, c1_0, c1_1, c1_2, c1_3, c1_4, c1_5, c1_6, c1_7, -⟩, -⟩ := F5
      go_wp2_with fail
      clear z0 c0_0 c0_1 c0_2 c0_3 c0_4 c0_5 c0_6 c0_7 z1 c1_0 c1_1 c1_2 c1_3 c1_4 c1_5 c1_6 c1_7
      refine wp_region_held_drew (S := fun W => Ok w [kBlk (w.heap.size + 1) 43 [.int .u8 3, .int .i64 1, .string ⟨#[]⟩, .int .i64 0, .int .i64 0, .int .i64 0, .int .i64 0, .int .i64 p], kBlk (w.heap.size) 43 [.int .u8 3, .int .i64 1, .string s, .int .i64 a1, .int .i64 a2, .int .i64 a3, .int .i64 a4, .int .i64 p]] W) (by kernel_rfl) H4.out.drew (fun hHeld => ?_)
      refine wpAnyH_take (i := 0) (v := ?vx89_0) rfl (by kernel_rfl) (by kernel_rfl) (by kernel_rfl) (fun _ _ _ h => h) (Or.inl ⟨by rfl, ?hyx89_0⟩) (by assumption) ?restx89_0
      case hyx89_0 => (intro w hSw; have F := Ok.sees hSw; clear hSw; simp only [sees, kBlk, cellsAt, Nat.reduceAdd] at F; go_simp; try with_reducible rfl)
      try simp only [Act.put, List.setIfInBounds_toArray, List.set_cons_zero, List.set_cons_succ, List.getElem_toArray, List.getElem_cons_zero]
      refine wpAnyH_take (i := 1) (v := ?vx90_1) rfl (by kernel_rfl) (by kernel_rfl) (by kernel_rfl) (fun _ _ _ h => h) (Or.inl ⟨by rfl, ?hyx90_1⟩) (by assumption) ?restx90_1
      case hyx90_1 => (intro w hSw; have F := Ok.sees hSw; clear hSw; simp only [sees, kBlk, cellsAt, Nat.reduceAdd] at F; go_simp; try with_reducible rfl)
      try simp only [Act.put, List.setIfInBounds_toArray, List.set_cons_zero, List.set_cons_succ, List.getElem_toArray, List.getElem_cons_succ, List.getElem_cons_zero]
      refine wpAnyH_take (i := 2) (v := ?vx91_2) rfl (by kernel_rfl) (by kernel_rfl) (by kernel_rfl) (fun _ _ _ h => h) (Or.inl ⟨by rfl, ?hyx91_2⟩) (by assumption) ?restx91_2
      case hyx91_2 => (intro w hSw; have F := Ok.sees hSw; clear hSw; simp only [sees, kBlk, cellsAt, Nat.reduceAdd] at F; go_simp; try with_reducible rfl)
      try simp only [Act.put, List.setIfInBounds_toArray, List.set_cons_zero, List.set_cons_succ, List.getElem_toArray, List.getElem_cons_succ, List.getElem_cons_zero]
      refine wpAnyH_take (i := 3) (v := ?vx92_3) rfl (by kernel_rfl) (by kernel_rfl) (by kernel_rfl) (fun _ _ _ h => h) (Or.inl ⟨by rfl, ?hyx92_3⟩) (by assumption) ?restx92_3
      case hyx92_3 => (intro w hSw; have F := Ok.sees hSw; clear hSw; simp only [sees, kBlk, cellsAt, Nat.reduceAdd] at F; go_simp; try with_reducible rfl)
      try simp only [Act.put, List.setIfInBounds_toArray, List.set_cons_zero, List.set_cons_succ, List.getElem_toArray, List.getElem_cons_succ, List.getElem_cons_zero]
      refine wpAnyH_take (i := 4) (v := ?vx93_4) rfl (by kernel_rfl) (by kernel_rfl) (by kernel_rfl) (fun _ _ _ h => h) (Or.inl ⟨by rfl, ?hyx93_4⟩) (by assumption) ?restx93_4
      case hyx93_4 => (intro w hSw; have F := Ok.sees hSw; clear hSw; simp only [sees, kBlk, cellsAt, Nat.reduceAdd] at F; go_simp; try with_reducible rfl)
      try simp only [Act.put, List.setIfInBounds_toArray, List.set_cons_zero, List.set_cons_succ, List.getElem_toArray, List.getElem_cons_succ, List.getElem_cons_zero]
      refine wpAnyH_take (i := 5) (v := ?vx94_5) rfl (by kernel_rfl) (by kernel_rfl) (by kernel_rfl) (fun _ _ _ h => h) (Or.inl ⟨by rfl, ?hyx94_5⟩) (by assumption) ?restx94_5
      case hyx94_5 => (intro w hSw; have F := Ok.sees hSw; clear hSw; simp only [sees, kBlk, cellsAt, Nat.reduceAdd] at F; go_simp; try with_reducible rfl)
      try simp only [Act.put, List.setIfInBounds_toArray, List.set_cons_zero, List.set_cons_succ, List.getElem_toArray, List.getElem_cons_succ, List.getElem_cons_zero]
      refine wpAnyH_take (i := 6) (v := ?vx95_6) rfl (by kernel_rfl) (by kernel_rfl) (by kernel_rfl) (fun _ _ _ h => h) (Or.inl ⟨by rfl, ?hyx95_6⟩) (by assumption) ?restx95_6
      case hyx95_6 => (intro w hSw; have F := Ok.sees hSw; clear hSw; simp only [sees, kBlk, cellsAt, Nat.reduceAdd] at F; go_simp; try with_reducible rfl)
      try simp only [Act.put, List.setIfInBounds_toArray, List.set_cons_zero, List.set_cons_succ, List.getElem_toArray, List.getElem_cons_succ, List.getElem_cons_zero]
      refine wpAnyH_take (i := 7) (v := ?vx96_7) rfl (by kernel_rfl) (by kernel_rfl) (by kernel_rfl) (fun _ _ _ h => h) (Or.inl ⟨by rfl, ?hyx96_7⟩) (by assumption) ?restx96_7
      case hyx96_7 => (intro w hSw; have F := Ok.sees hSw; clear hSw; simp only [sees, kBlk, cellsAt, Nat.reduceAdd] at F; go_simp; try with_reducible rfl)
      try simp only [Act.put, List.setIfInBounds_toArray, List.set_cons_zero, List.set_cons_succ, List.getElem_toArray, List.getElem_cons_succ, List.getElem_cons_zero]
      refine wpAnyH_take (i := 8) (v := ?vx97_8) rfl (by kernel_rfl) (by kernel_rfl) (by kernel_rfl) (fun _ _ _ h => h) (Or.inl ⟨by rfl, ?hyx97_8⟩) (by assumption) ?restx97_8
      case hyx97_8 => (intro w hSw; have F := Ok.sees hSw; clear hSw; simp only [sees, kBlk, cellsAt, Nat.reduceAdd] at F; go_simp; try with_reducible rfl)
      try simp only [Act.put, List.setIfInBounds_toArray, List.set_cons_zero, List.set_cons_succ, List.getElem_toArray, List.getElem_cons_succ, List.getElem_cons_zero]
      refine wpAnyH_done (by kernel_rfl) ?_ _
      clear H4
      have H7 := Lib.hid hHeld
      clear hHeld
      go_wp2_with fail
      refine bodyPost_ret (v := .tuple #[.string ⟨#[84, 82, 85, 69]⟩, .bool (eq8 3 1 a1 a2 a3 a4 p 3 1 0 0 0 0 p s.toList [])]) (by simp [results, Tryz.results43, go_sem]) rfl ⟨⟨#[84, 82, 85, 69]⟩, ?_, ?_, H7.out.bel⟩
      · rw [HEq.out]
      · intro _; rfl
    · have e1 : (n == 0) = false := beq_eq_false_iff_ne.2 h0
      have e2 : (n == 1) = false := beq_eq_false_iff_ne.2 h1
      have hno : okT ⟨3, n, s.data.toList, ⟨a1, a2, a3, a4⟩, 0⟩ = false := by
        unfold okT
        simp [h0, h1]
      have H1 := Lib.hid (((Ok.start w).alloc w.heap.size 43 [.int .u8 3, .int .i64 n, .string s, .int .i64 a1, .int .i64 a2, .int .i64 a3, .int .i64 a4, .int .i64 p] rfl).alloc (w.heap.size + 1) 43 [.int .u8 3, .int .i64 n, .string ⟨#[]⟩, .int .i64 0, .int .i64 0, .int .i64 0, .int .i64 0, .int .i64 p] (by simp))
      go_enter Tryz.func43, Tryz.ntmps43
      go_wp2_with fail
      generalize ((w.alloc (.cells #[.int .u8 3, .int .i64 n, .string s, .int .i64 a1, .int .i64 a2, .int .i64 a3, .int .i64 a4, .int .i64 p] 43)).alloc (.cells #[.int .u8 3, .int .i64 n, .string ⟨#[]⟩, .int .i64 0, .int .i64 0, .int .i64 0, .int .i64 0, .int .i64 p] 43)) = W2 at H1 ⊢
      refine wp_region_held_drew (S := fun W => Ok w [kBlk (w.heap.size + 1) 43 [.int .u8 3, .int .i64 n, .string ⟨#[]⟩, .int .i64 0, .int .i64 0, .int .i64 0, .int .i64 0, .int .i64 p], kBlk (w.heap.size) 43 [.int .u8 3, .int .i64 n, .string s, .int .i64 a1, .int .i64 a2, .int .i64 a3, .int .i64 a4, .int .i64 p]] W) (by kernel_rfl) H1.out.drew (fun hHeld => ?_)
      refine wpAnyH_take (i := 0) (v := ?vx98_0) rfl (by kernel_rfl) (by kernel_rfl) (by kernel_rfl) (fun _ _ _ h => h) (Or.inl ⟨by rfl, ?hyx98_0⟩) (by assumption) ?restx98_0
      case hyx98_0 => (intro w hSw; have F := Ok.sees hSw; clear hSw; simp only [sees, kBlk, cellsAt, Nat.reduceAdd] at F; go_simp; try with_reducible rfl)
      try simp only [Act.put, List.setIfInBounds_toArray, List.set_cons_zero, List.set_cons_succ, List.getElem_toArray, List.getElem_cons_zero]
      refine wpAnyH_take (i := 1) (v := ?vx99_1) rfl (by kernel_rfl) (by kernel_rfl) (by kernel_rfl) (fun _ _ _ h => h) (Or.inl ⟨by rfl, ?hyx99_1⟩) (by assumption) ?restx99_1
      case hyx99_1 => (intro w hSw; have F := Ok.sees hSw; clear hSw; simp only [sees, kBlk, cellsAt, Nat.reduceAdd] at F; go_simp; try with_reducible rfl)
      try simp only [Act.put, List.setIfInBounds_toArray, List.set_cons_zero, List.set_cons_succ, List.getElem_toArray, List.getElem_cons_succ, List.getElem_cons_zero]
      refine wpAnyH_take (i := 2) (v := ?vx100_2) rfl (by kernel_rfl) (by kernel_rfl) (by kernel_rfl) (fun _ _ _ h => h) (Or.inl ⟨by rfl, ?hyx100_2⟩) (by assumption) ?restx100_2
      case hyx100_2 => (intro w hSw; have F := Ok.sees hSw; clear hSw; simp only [sees, kBlk, cellsAt, Nat.reduceAdd] at F; go_simp; try with_reducible rfl)
      try simp only [Act.put, List.setIfInBounds_toArray, List.set_cons_zero, List.set_cons_succ, List.getElem_toArray, List.getElem_cons_succ, List.getElem_cons_zero]
      refine wpAnyH_take (i := 3) (v := ?vx101_3) rfl (by kernel_rfl) (by kernel_rfl) (by kernel_rfl) (fun _ _ _ h => h) (Or.inl ⟨by rfl, ?hyx101_3⟩) (by assumption) ?restx101_3
      case hyx101_3 => (intro w hSw; have F := Ok.sees hSw; clear hSw; simp only [sees, kBlk, cellsAt, Nat.reduceAdd] at F; go_simp; try with_reducible rfl)
      try simp only [Act.put, List.setIfInBounds_toArray, List.set_cons_zero, List.set_cons_succ, List.getElem_toArray, List.getElem_cons_succ, List.getElem_cons_zero]
      refine wpAnyH_take (i := 4) (v := ?vx102_4) rfl (by kernel_rfl) (by kernel_rfl) (by kernel_rfl) (fun _ _ _ h => h) (Or.inl ⟨by rfl, ?hyx102_4⟩) (by assumption) ?restx102_4
      case hyx102_4 => (intro w hSw; have F := Ok.sees hSw; clear hSw; simp only [sees, kBlk, cellsAt, Nat.reduceAdd] at F; go_simp; try with_reducible rfl)
      try simp only [Act.put, List.setIfInBounds_toArray, List.set_cons_zero, List.set_cons_succ, List.getElem_toArray, List.getElem_cons_succ, List.getElem_cons_zero]
      refine wpAnyH_take (i := 5) (v := ?vx103_5) rfl (by kernel_rfl) (by kernel_rfl) (by kernel_rfl) (fun _ _ _ h => h) (Or.inl ⟨by rfl, ?hyx103_5⟩) (by assumption) ?restx103_5
      case hyx103_5 => (intro w hSw; have F := Ok.sees hSw; clear hSw; simp only [sees, kBlk, cellsAt, Nat.reduceAdd] at F; go_simp; try with_reducible rfl)
      try simp only [Act.put, List.setIfInBounds_toArray, List.set_cons_zero, List.set_cons_succ, List.getElem_toArray, List.getElem_cons_succ, List.getElem_cons_zero]
      refine wpAnyH_take (i := 6) (v := ?vx104_6) rfl (by kernel_rfl) (by kernel_rfl) (by kernel_rfl) (fun _ _ _ h => h) (Or.inl ⟨by rfl, ?hyx104_6⟩) (by assumption) ?restx104_6
      case hyx104_6 => (intro w hSw; have F := Ok.sees hSw; clear hSw; simp only [sees, kBlk, cellsAt, Nat.reduceAdd] at F; go_simp; try with_reducible rfl)
      try simp only [Act.put, List.setIfInBounds_toArray, List.set_cons_zero, List.set_cons_succ, List.getElem_toArray, List.getElem_cons_succ, List.getElem_cons_zero]
      refine wpAnyH_take (i := 7) (v := ?vx105_7) rfl (by kernel_rfl) (by kernel_rfl) (by kernel_rfl) (fun _ _ _ h => h) (Or.inl ⟨by rfl, ?hyx105_7⟩) (by assumption) ?restx105_7
      case hyx105_7 => (intro w hSw; have F := Ok.sees hSw; clear hSw; simp only [sees, kBlk, cellsAt, Nat.reduceAdd] at F; go_simp; try with_reducible rfl)
      try simp only [Act.put, List.setIfInBounds_toArray, List.set_cons_zero, List.set_cons_succ, List.getElem_toArray, List.getElem_cons_succ, List.getElem_cons_zero]
      refine wpAnyH_take (i := 8) (v := ?vx106_8) rfl (by kernel_rfl) (by kernel_rfl) (by kernel_rfl) (fun _ _ _ h => h) (Or.inl ⟨by rfl, ?hyx106_8⟩) (by assumption) ?restx106_8
      case hyx106_8 => (intro w hSw; have F := Ok.sees hSw; clear hSw; simp only [sees, kBlk, cellsAt, Nat.reduceAdd] at F; go_simp; try with_reducible rfl)
      try simp only [Act.put, List.setIfInBounds_toArray, List.set_cons_zero, List.set_cons_succ, List.getElem_toArray, List.getElem_cons_succ, List.getElem_cons_zero]
      refine wpAnyH_take (i := 9) (v := ?vx107_9) rfl (by kernel_rfl) (by kernel_rfl) (by kernel_rfl) (fun _ _ _ h => h) (Or.inl ⟨by rfl, ?hyx107_9⟩) (by assumption) ?restx107_9
      case hyx107_9 => (intro w hSw; have F := Ok.sees hSw; clear hSw; simp only [sees, kBlk, cellsAt, Nat.reduceAdd] at F; go_simp; try with_reducible rfl)
      try simp only [Act.put, List.setIfInBounds_toArray, List.set_cons_zero, List.set_cons_succ, List.getElem_toArray, List.getElem_cons_succ, List.getElem_cons_zero]
      refine wpAnyH_done (by kernel_rfl) ?_ _
      clear H1
      have H4 := Lib.hid hHeld
      clear hHeld
      have F5 := H4.out.sees
      simp only [sees, kBlk, cellsAt, Nat.reduceAdd] at F5
      obtain ⟨⟨z0, c0_0, c0_1, c0_2, c0_3, c0_4, c0_5, c0_6, c0_7, -⟩, ⟨z1, c1_0, c1_1, c1_2, c1_3, c1_4, c1_5, c1_6, c1_7, -⟩, -⟩ := F5
      go_wp2_with fail
      clear z0 c0_0 c0_1 c0_2 c0_3 c0_4 c0_5 c0_6 c0_7 z1 c1_0 c1_1 c1_2 c1_3 c1_4 c1_5 c1_6 c1_7
      refine wp_region_held_drew (S := fun W => Ok w [kBlk (w.heap.size + 1) 43 [.int .u8 3, .int .i64 n, .string ⟨#[]⟩, .int .i64 0, .int .i64 0, .int .i64 0, .int .i64 0, .int .i64 p], kBlk (w.heap.size) 43 [.int .u8 3, .int .i64 n, .string s, .int .i64 a1, .int .i64 a2, .int .i64 a3, .int .i64 a4, .int .i64 p]] W) (by kernel_rfl) H4.out.drew (fun hHeld => ?_)
      refine wpAnyH_take (i := 0) (v := ?vx108_0) rfl (by kernel_rfl) (by kernel_rfl) (by kernel_rfl) (fun _ _ _ h => h) (Or.inl ⟨by rfl, ?hyx108_0⟩) (by assumption) ?restx108_0
      case hyx108_0 => (intro w hSw; have F := Ok.sees hSw; clear hSw; simp only [sees, kBlk, cellsAt, Nat.reduceAdd] at F; go_simp; try with_reducible rfl)
      try simp only [Act.put, List.setIfInBounds_toArray, List.set_cons_zero, List.set_cons_succ, List.getElem_toArray, List.getElem_cons_zero]
      refine wpAnyH_take (i := 1) (v := ?vx109_1) rfl (by kernel_rfl) (by kernel_rfl) (by kernel_rfl) (fun _ _ _ h => h) (Or.inl ⟨by rfl, ?hyx109_1⟩) (by assumption) ?restx109_1
      case hyx109_1 => (intro w hSw; have F := Ok.sees hSw; clear hSw; simp only [sees, kBlk, cellsAt, Nat.reduceAdd] at F; go_simp; try with_reducible rfl)
      try simp only [Act.put, List.setIfInBounds_toArray, List.set_cons_zero, List.set_cons_succ, List.getElem_toArray, List.getElem_cons_succ, List.getElem_cons_zero]
      refine wpAnyH_take (i := 2) (v := ?vx110_2) rfl (by kernel_rfl) (by kernel_rfl) (by kernel_rfl) (fun _ _ _ h => h) (Or.inl ⟨by rfl, ?hyx110_2⟩) (by assumption) ?restx110_2
      case hyx110_2 => (intro w hSw; have F := Ok.sees hSw; clear hSw; simp only [sees, kBlk, cellsAt, Nat.reduceAdd] at F; go_simp; try with_reducible rfl)
      try simp only [Act.put, List.setIfInBounds_toArray, List.set_cons_zero, List.set_cons_succ, List.getElem_toArray, List.getElem_cons_succ, List.getElem_cons_zero]
      refine wpAnyH_take (i := 3) (v := undef) rfl (by kernel_rfl) (by kernel_rfl) (by kernel_rfl) (fun _ _ _ h => h) (Or.inr ⟨by rfl, rfl⟩) (by assumption) ?_
      try simp only [Act.put, List.setIfInBounds_toArray, List.set_cons_zero, List.set_cons_succ, List.getElem_toArray, List.getElem_cons_succ, List.getElem_cons_zero]
      refine wpAnyH_take (i := 4) (v := undef) rfl (by kernel_rfl) (by kernel_rfl) (by kernel_rfl) (fun _ _ _ h => h) (Or.inr ⟨by rfl, rfl⟩) (by assumption) ?_
      try simp only [Act.put, List.setIfInBounds_toArray, List.set_cons_zero, List.set_cons_succ, List.getElem_toArray, List.getElem_cons_succ, List.getElem_cons_zero]
      refine wpAnyH_take (i := 5) (v := undef) rfl (by kernel_rfl) (by kernel_rfl) (by kernel_rfl) (fun _ _ _ h => h) (Or.inr ⟨by rfl, rfl⟩) (by assumption) ?_
      try simp only [Act.put, List.setIfInBounds_toArray, List.set_cons_zero, List.set_cons_succ, List.getElem_toArray, List.getElem_cons_succ, List.getElem_cons_zero]
      refine wpAnyH_take (i := 6) (v := ?vx114_6) rfl (by kernel_rfl) (by kernel_rfl) (by kernel_rfl) (fun _ _ _ h => h) (Or.inl ⟨by rfl, ?hyx114_6⟩) (by assumption) ?restx114_6
      case hyx114_6 => (intro w hSw; have F := Ok.sees hSw; clear hSw; simp only [sees, kBlk, cellsAt, Nat.reduceAdd] at F; go_simp; try with_reducible rfl)
      try simp only [Act.put, List.setIfInBounds_toArray, List.set_cons_zero, List.set_cons_succ, List.getElem_toArray, List.getElem_cons_succ, List.getElem_cons_zero]
      refine wpAnyH_take (i := 7) (v := ?vx115_7) rfl (by kernel_rfl) (by kernel_rfl) (by kernel_rfl) (fun _ _ _ h => h) (Or.inl ⟨by rfl, ?hyx115_7⟩) (by assumption) ?restx115_7
      case hyx115_7 => (intro w hSw; have F := Ok.sees hSw; clear hSw; simp only [sees, kBlk, cellsAt, Nat.reduceAdd] at F; go_simp; try with_reducible rfl)
      try simp only [Act.put, List.setIfInBounds_toArray, List.set_cons_zero, List.set_cons_succ, List.getElem_toArray, List.getElem_cons_succ, List.getElem_cons_zero]
      refine wpAnyH_take (i := 8) (v := ?vx116_8) rfl (by kernel_rfl) (by kernel_rfl) (by kernel_rfl) (fun _ _ _ h => h) (Or.inl ⟨by rfl, ?hyx116_8⟩) (by assumption) ?restx116_8
      case hyx116_8 => (intro w hSw; have F := Ok.sees hSw; clear hSw; simp only [sees, kBlk, cellsAt, Nat.reduceAdd] at F; go_simp; try with_reducible rfl)
      try simp only [Act.put, List.setIfInBounds_toArray, List.set_cons_zero, List.set_cons_succ, List.getElem_toArray, List.getElem_cons_succ, List.getElem_cons_zero]
      refine wpAnyH_done (by kernel_rfl) ?_ _
      clear H4
      have H7 := Lib.hid hHeld
      clear hHeld
      go_wp2_with fail
      refine bodyPost_ret (v := .tuple #[.string ⟨#[70, 65, 76, 83, 69]⟩, .bool (false)]) (by simp [results, Tryz.results43, go_sem]) rfl ⟨⟨#[70, 65, 76, 83, 69]⟩, ?_, ?_, H7.out.bel⟩
      · rw [hno]
      · intro h; rw [hno] at h; cases h
set_option maxRecDepth 100000 in
set_option maxHeartbeats 4000000 in
theorem write_4 (n a1 a2 a3 a4 p : Int) (s : ByteArray) (w : World) (hw : Words w) :
    Calls Tryz.prog 43 #[.agg #[.int .u8 4, .int .i64 n, .string s, .int .i64 a1, .int .i64 a2, .int .i64 a3, .int .i64 a4, .int .i64 p]] w (WOut ⟨4, n, s.data.toList, ⟨a1, a2, a3, a4⟩, 0⟩ w) := by
  by_cases h0 : 1 ≤ n ∧ n ≤ 5
  · have hb : eq8 4 n a1 a2 a3 a4 p 4 n 0 0 0 0 p s.toList [] = okT ⟨4, n, s.data.toList, ⟨a1, a2, a3, a4⟩, 0⟩ := by
      unfold eq8 okT bareB
      rw [show s.data.toList.isEmpty = decide (s.data.toList = []) from by cases s.data.toList <;> rfl]
      simp [ByteArray.toList_eq, h0]
    have HW := Lib.hid hw
    clear hw
    have he : decide (1 ≤ n ∧ n ≤ 5) = true := decide_eq_true h0
    have HEq := keep hb
    clear hb
    have HE := keep he
    have H0 := keep h0
    clear he h0
    have H1 := Lib.hid (((Ok.start w).alloc w.heap.size 43 [.int .u8 4, .int .i64 n, .string s, .int .i64 a1, .int .i64 a2, .int .i64 a3, .int .i64 a4, .int .i64 p] rfl).alloc (w.heap.size + 1) 43 [.int .u8 4, .int .i64 n, .string ⟨#[]⟩, .int .i64 0, .int .i64 0, .int .i64 0, .int .i64 0, .int .i64 p] (by simp))
    go_enter Tryz.func43, Tryz.ntmps43
    go_wp2_with fail
    generalize ((w.alloc (.cells #[.int .u8 4, .int .i64 n, .string s, .int .i64 a1, .int .i64 a2, .int .i64 a3, .int .i64 a4, .int .i64 p] 43)).alloc (.cells #[.int .u8 4, .int .i64 n, .string ⟨#[]⟩, .int .i64 0, .int .i64 0, .int .i64 0, .int .i64 0, .int .i64 p] 43)) = W2 at H1 ⊢
    refine wp_region_held_drew (S := fun W => Ok w [kBlk (w.heap.size + 1) 43 [.int .u8 4, .int .i64 n, .string ⟨#[]⟩, .int .i64 0, .int .i64 0, .int .i64 0, .int .i64 0, .int .i64 p], kBlk (w.heap.size) 43 [.int .u8 4, .int .i64 n, .string s, .int .i64 a1, .int .i64 a2, .int .i64 a3, .int .i64 a4, .int .i64 p]] W) (by kernel_rfl) H1.out.drew (fun hHeld => ?_)
    refine wpAnyH_take (i := 0) (v := ?vx117_0) rfl (by kernel_rfl) (by kernel_rfl) (by kernel_rfl) (fun _ _ _ h => h) (Or.inl ⟨by rfl, ?hyx117_0⟩) (by assumption) ?restx117_0
    case hyx117_0 => (intro w hSw; have F := Ok.sees hSw; clear hSw; simp only [sees, kBlk, cellsAt, Nat.reduceAdd] at F; go_simp; try with_reducible rfl)
    try simp only [Act.put, List.setIfInBounds_toArray, List.set_cons_zero, List.set_cons_succ, List.getElem_toArray, List.getElem_cons_zero]
    refine wpAnyH_take (i := 1) (v := ?vx118_1) rfl (by kernel_rfl) (by kernel_rfl) (by kernel_rfl) (fun _ _ _ h => h) (Or.inl ⟨by rfl, ?hyx118_1⟩) (by assumption) ?restx118_1
    case hyx118_1 => (intro w hSw; have F := Ok.sees hSw; clear hSw; simp only [sees, kBlk, cellsAt, Nat.reduceAdd] at F; go_simp; try with_reducible rfl)
    try simp only [Act.put, List.setIfInBounds_toArray, List.set_cons_zero, List.set_cons_succ, List.getElem_toArray, List.getElem_cons_succ, List.getElem_cons_zero]
    refine wpAnyH_take (i := 4) (v := ?vx119_4) rfl (by kernel_rfl) (by kernel_rfl) (by kernel_rfl) (fun _ _ _ h => h) (Or.inl ⟨by rfl, ?hyx119_4⟩) (by assumption) ?restx119_4
    case hyx119_4 => (intro w hSw; have F := Ok.sees hSw; clear hSw; simp only [sees, kBlk, cellsAt, Nat.reduceAdd] at F; go_simp; try with_reducible rfl)
    try simp only [Act.put, List.setIfInBounds_toArray, List.set_cons_zero, List.set_cons_succ, List.getElem_toArray, List.getElem_cons_succ, List.getElem_cons_zero]
    refine wpAnyH_take (i := 5) (v := ?vx120_5) rfl (by kernel_rfl) (by kernel_rfl) (by kernel_rfl) (fun _ _ _ h => h) (Or.inl ⟨by rfl, ?hyx120_5⟩) (by assumption) ?restx120_5
    case hyx120_5 => (intro w hSw; have F := Ok.sees hSw; clear hSw; simp only [sees, kBlk, cellsAt, Nat.reduceAdd] at F; go_simp; try with_reducible rfl)
    try simp only [Act.put, List.setIfInBounds_toArray, List.set_cons_zero, List.set_cons_succ, List.getElem_toArray, List.getElem_cons_succ, List.getElem_cons_zero]
    refine wpAnyH_ready (rs := [2]) (by kernel_rfl) (by simp) ?_
    refine AllReadyH.cons rfl (fun K hK => ?_) AllReadyH.nil
    go_simp
    refine (fail_any n _).mono ?_
    rintro e w6 ⟨⟨d, hd1, hd7, hdn, rfl⟩, hb6⟩
    have HDN := keep hdn
    clear hdn
    go_wp2_with fail
    refine hK.out _ _ (hHeld.below hb6) (fun hHeld => ?_)
    clear hK K
    try simp only [Act.put, List.setIfInBounds_toArray, List.set_cons_zero, List.set_cons_succ, List.getElem_toArray, List.getElem_cons_succ, List.getElem_cons_zero]
    refine wpAnyH_ready (rs := [3]) (by kernel_rfl) (by simp) ?_
    refine AllReadyH.cons rfl (fun K hK => ?_) AllReadyH.nil
    go_simp
    refine (show_err d hd1 hd7 _ (HW.out.below hHeld.bel)).mono ?_
    rintro e w7 ⟨rfl, hb7⟩
    go_wp2_with fail
    refine hK.out _ _ (hHeld.below hb7) (fun hHeld => ?_)
    clear hK K
    try simp only [Act.put, List.setIfInBounds_toArray, List.set_cons_zero, List.set_cons_succ, List.getElem_toArray, List.getElem_cons_succ, List.getElem_cons_zero]
    refine wpAnyH_ready (rs := [6]) (by kernel_rfl) (by simp) ?_
    refine AllReadyH.cons rfl (fun K hK => ?_) AllReadyH.nil
    go_simp
    refine (lex_literal n _).mono ?_
    rintro e w8 ⟨rfl, rfl⟩
    rw [HE.out]
    go_wp2_with fail
    refine hK.out _ _ hHeld (fun hHeld => ?_)
    clear hK K
    try simp only [Act.put, List.setIfInBounds_toArray, List.set_cons_zero, List.set_cons_succ, List.getElem_toArray, List.getElem_cons_succ, List.getElem_cons_zero]
    refine wpAnyH_take (i := 7) (v := ?vx121_7) rfl (by kernel_rfl) (by kernel_rfl) (by kernel_rfl) (fun _ _ _ h => h) (Or.inl ⟨by rfl, ?hyx121_7⟩) (by assumption) ?restx121_7
    case hyx121_7 => (intro w hSw; have F := Ok.sees hSw; clear hSw; simp only [sees, kBlk, cellsAt, Nat.reduceAdd] at F; go_simp; try with_reducible rfl)
    try simp only [Act.put, List.setIfInBounds_toArray, List.set_cons_zero, List.set_cons_succ, List.getElem_toArray, List.getElem_cons_succ, List.getElem_cons_zero]
    refine wpAnyH_take (i := 8) (v := ?vx122_8) rfl (by kernel_rfl) (by kernel_rfl) (by kernel_rfl) (fun _ _ _ h => h) (Or.inl ⟨by rfl, ?hyx122_8⟩) (by assumption) ?restx122_8
    case hyx122_8 => (intro w hSw; have F := Ok.sees hSw; clear hSw; simp only [sees, kBlk, cellsAt, Nat.reduceAdd] at F; go_simp; try with_reducible rfl)
    try simp only [Act.put, List.setIfInBounds_toArray, List.set_cons_zero, List.set_cons_succ, List.getElem_toArray, List.getElem_cons_succ, List.getElem_cons_zero]
    refine wpAnyH_done (by kernel_rfl) ?_ _
    clear H1
    have H3 := Lib.hid hHeld
    clear hHeld
    go_wp2_with fail
    refine wp_region_held_drew (S := fun W => Ok w [kBlk (w.heap.size + 1) 43 [.int .u8 4, .int .i64 n, .string ⟨#[]⟩, .int .i64 0, .int .i64 0, .int .i64 0, .int .i64 0, .int .i64 p], kBlk (w.heap.size) 43 [.int .u8 4, .int .i64 n, .string s, .int .i64 a1, .int .i64 a2, .int .i64 a3, .int .i64 a4, .int .i64 p]] W) (by kernel_rfl) H3.out.drew (fun hHeld => ?_)
    refine wpAnyH_take (i := 0) (v := ?vx123_0) rfl (by kernel_rfl) (by kernel_rfl) (by kernel_rfl) (fun _ _ _ h => h) (Or.inl ⟨by rfl, ?hyx123_0⟩) (by assumption) ?restx123_0
    case hyx123_0 => (intro w hSw; have F := Ok.sees hSw; clear hSw; simp only [sees, kBlk, cellsAt, Nat.reduceAdd] at F; go_simp; try with_reducible rfl)
    try simp only [Act.put, List.setIfInBounds_toArray, List.set_cons_zero, List.set_cons_succ, List.getElem_toArray, List.getElem_cons_zero]
    refine wpAnyH_take (i := 1) (v := ?vx124_1) rfl (by kernel_rfl) (by kernel_rfl) (by kernel_rfl) (fun _ _ _ h => h) (Or.inl ⟨by rfl, ?hyx124_1⟩) (by assumption) ?restx124_1
    case hyx124_1 => (intro w hSw; have F := Ok.sees hSw; clear hSw; simp only [sees, kBlk, cellsAt, Nat.reduceAdd] at F; go_simp; try with_reducible rfl)
    try simp only [Act.put, List.setIfInBounds_toArray, List.set_cons_zero, List.set_cons_succ, List.getElem_toArray, List.getElem_cons_succ, List.getElem_cons_zero]
    refine wpAnyH_take (i := 2) (v := ?vx125_2) rfl (by kernel_rfl) (by kernel_rfl) (by kernel_rfl) (fun _ _ _ h => h) (Or.inl ⟨by rfl, ?hyx125_2⟩) (by assumption) ?restx125_2
    case hyx125_2 => (intro w hSw; have F := Ok.sees hSw; clear hSw; simp only [sees, kBlk, cellsAt, Nat.reduceAdd] at F; go_simp; try with_reducible rfl)
    try simp only [Act.put, List.setIfInBounds_toArray, List.set_cons_zero, List.set_cons_succ, List.getElem_toArray, List.getElem_cons_succ, List.getElem_cons_zero]
    refine wpAnyH_take (i := 3) (v := ?vx126_3) rfl (by kernel_rfl) (by kernel_rfl) (by kernel_rfl) (fun _ _ _ h => h) (Or.inl ⟨by rfl, ?hyx126_3⟩) (by assumption) ?restx126_3
    case hyx126_3 => (intro w hSw; have F := Ok.sees hSw; clear hSw; simp only [sees, kBlk, cellsAt, Nat.reduceAdd] at F; go_simp; try with_reducible rfl)
    try simp only [Act.put, List.setIfInBounds_toArray, List.set_cons_zero, List.set_cons_succ, List.getElem_toArray, List.getElem_cons_succ, List.getElem_cons_zero]
    refine wpAnyH_take (i := 4) (v := ?vx127_4) rfl (by kernel_rfl) (by kernel_rfl) (by kernel_rfl) (fun _ _ _ h => h) (Or.inl ⟨by rfl, ?hyx127_4⟩) (by assumption) ?restx127_4
    case hyx127_4 => (intro w hSw; have F := Ok.sees hSw; clear hSw; simp only [sees, kBlk, cellsAt, Nat.reduceAdd] at F; go_simp; try with_reducible rfl)
    try simp only [Act.put, List.setIfInBounds_toArray, List.set_cons_zero, List.set_cons_succ, List.getElem_toArray, List.getElem_cons_succ, List.getElem_cons_zero]
    refine wpAnyH_take (i := 5) (v := ?vx128_5) rfl (by kernel_rfl) (by kernel_rfl) (by kernel_rfl) (fun _ _ _ h => h) (Or.inl ⟨by rfl, ?hyx128_5⟩) (by assumption) ?restx128_5
    case hyx128_5 => (intro w hSw; have F := Ok.sees hSw; clear hSw; simp only [sees, kBlk, cellsAt, Nat.reduceAdd] at F; go_simp; try with_reducible rfl)
    try simp only [Act.put, List.setIfInBounds_toArray, List.set_cons_zero, List.set_cons_succ, List.getElem_toArray, List.getElem_cons_succ, List.getElem_cons_zero]
    refine wpAnyH_take (i := 6) (v := ?vx129_6) rfl (by kernel_rfl) (by kernel_rfl) (by kernel_rfl) (fun _ _ _ h => h) (Or.inl ⟨by rfl, ?hyx129_6⟩) (by assumption) ?restx129_6
    case hyx129_6 => (intro w hSw; have F := Ok.sees hSw; clear hSw; simp only [sees, kBlk, cellsAt, Nat.reduceAdd] at F; go_simp; try with_reducible rfl)
    try simp only [Act.put, List.setIfInBounds_toArray, List.set_cons_zero, List.set_cons_succ, List.getElem_toArray, List.getElem_cons_succ, List.getElem_cons_zero]
    refine wpAnyH_take (i := 7) (v := ?vx130_7) rfl (by kernel_rfl) (by kernel_rfl) (by kernel_rfl) (fun _ _ _ h => h) (Or.inl ⟨by rfl, ?hyx130_7⟩) (by assumption) ?restx130_7
    case hyx130_7 => (intro w hSw; have F := Ok.sees hSw; clear hSw; simp only [sees, kBlk, cellsAt, Nat.reduceAdd] at F; go_simp; try with_reducible rfl)
    try simp only [Act.put, List.setIfInBounds_toArray, List.set_cons_zero, List.set_cons_succ, List.getElem_toArray, List.getElem_cons_succ, List.getElem_cons_zero]
    refine wpAnyH_take (i := 8) (v := ?vx131_8) rfl (by kernel_rfl) (by kernel_rfl) (by kernel_rfl) (fun _ _ _ h => h) (Or.inl ⟨by rfl, ?hyx131_8⟩) (by assumption) ?restx131_8
    case hyx131_8 => (intro w hSw; have F := Ok.sees hSw; clear hSw; simp only [sees, kBlk, cellsAt, Nat.reduceAdd] at F; go_simp; try with_reducible rfl)
    try simp only [Act.put, List.setIfInBounds_toArray, List.set_cons_zero, List.set_cons_succ, List.getElem_toArray, List.getElem_cons_succ, List.getElem_cons_zero]
    refine wpAnyH_done (by kernel_rfl) ?_ _
    clear H3
    have H5 := Lib.hid hHeld
    clear hHeld
    go_wp2_with fail
    refine bodyPost_ret (v := .tuple #[.string ⟨(allNames[d.toNat]?.getD []).toArray⟩, .bool (eq8 4 n a1 a2 a3 a4 p 4 n 0 0 0 0 p s.toList [])]) (by simp [results, Tryz.results43, go_sem]) rfl ⟨⟨(allNames[d.toNat]?.getD []).toArray⟩, ?_, ?_, H5.out.bel⟩
    · rw [HEq.out]
    · intro _; rw [HDN.out H0.out.1 H0.out.2]; simp [textS]
  · have HW := Lib.hid hw
    clear hw
    have he : decide (1 ≤ n ∧ n ≤ 5) = false := decide_eq_false h0
    have HNo := keep (show okT ⟨4, n, s.data.toList, ⟨a1, a2, a3, a4⟩, 0⟩ = false from by unfold okT; simp [h0])
    have h5 : True := trivial
    have HE := keep he
    have H0 := keep h0
    clear he h0
    have H1 := Lib.hid (((Ok.start w).alloc w.heap.size 43 [.int .u8 4, .int .i64 n, .string s, .int .i64 a1, .int .i64 a2, .int .i64 a3, .int .i64 a4, .int .i64 p] rfl).alloc (w.heap.size + 1) 43 [.int .u8 4, .int .i64 n, .string ⟨#[]⟩, .int .i64 0, .int .i64 0, .int .i64 0, .int .i64 0, .int .i64 p] (by simp))
    go_enter Tryz.func43, Tryz.ntmps43
    go_wp2_with fail
    generalize ((w.alloc (.cells #[.int .u8 4, .int .i64 n, .string s, .int .i64 a1, .int .i64 a2, .int .i64 a3, .int .i64 a4, .int .i64 p] 43)).alloc (.cells #[.int .u8 4, .int .i64 n, .string ⟨#[]⟩, .int .i64 0, .int .i64 0, .int .i64 0, .int .i64 0, .int .i64 p] 43)) = W2 at H1 ⊢
    refine wp_region_held_drew (S := fun W => Ok w [kBlk (w.heap.size + 1) 43 [.int .u8 4, .int .i64 n, .string ⟨#[]⟩, .int .i64 0, .int .i64 0, .int .i64 0, .int .i64 0, .int .i64 p], kBlk (w.heap.size) 43 [.int .u8 4, .int .i64 n, .string s, .int .i64 a1, .int .i64 a2, .int .i64 a3, .int .i64 a4, .int .i64 p]] W) (by kernel_rfl) H1.out.drew (fun hHeld => ?_)
    refine wpAnyH_take (i := 0) (v := ?vx132_0) rfl (by kernel_rfl) (by kernel_rfl) (by kernel_rfl) (fun _ _ _ h => h) (Or.inl ⟨by rfl, ?hyx132_0⟩) (by assumption) ?restx132_0
    case hyx132_0 => (intro w hSw; have F := Ok.sees hSw; clear hSw; simp only [sees, kBlk, cellsAt, Nat.reduceAdd] at F; go_simp; try with_reducible rfl)
    try simp only [Act.put, List.setIfInBounds_toArray, List.set_cons_zero, List.set_cons_succ, List.getElem_toArray, List.getElem_cons_zero]
    refine wpAnyH_take (i := 1) (v := ?vx133_1) rfl (by kernel_rfl) (by kernel_rfl) (by kernel_rfl) (fun _ _ _ h => h) (Or.inl ⟨by rfl, ?hyx133_1⟩) (by assumption) ?restx133_1
    case hyx133_1 => (intro w hSw; have F := Ok.sees hSw; clear hSw; simp only [sees, kBlk, cellsAt, Nat.reduceAdd] at F; go_simp; try with_reducible rfl)
    try simp only [Act.put, List.setIfInBounds_toArray, List.set_cons_zero, List.set_cons_succ, List.getElem_toArray, List.getElem_cons_succ, List.getElem_cons_zero]
    refine wpAnyH_take (i := 4) (v := ?vx134_4) rfl (by kernel_rfl) (by kernel_rfl) (by kernel_rfl) (fun _ _ _ h => h) (Or.inl ⟨by rfl, ?hyx134_4⟩) (by assumption) ?restx134_4
    case hyx134_4 => (intro w hSw; have F := Ok.sees hSw; clear hSw; simp only [sees, kBlk, cellsAt, Nat.reduceAdd] at F; go_simp; try with_reducible rfl)
    try simp only [Act.put, List.setIfInBounds_toArray, List.set_cons_zero, List.set_cons_succ, List.getElem_toArray, List.getElem_cons_succ, List.getElem_cons_zero]
    refine wpAnyH_take (i := 5) (v := ?vx135_5) rfl (by kernel_rfl) (by kernel_rfl) (by kernel_rfl) (fun _ _ _ h => h) (Or.inl ⟨by rfl, ?hyx135_5⟩) (by assumption) ?restx135_5
    case hyx135_5 => (intro w hSw; have F := Ok.sees hSw; clear hSw; simp only [sees, kBlk, cellsAt, Nat.reduceAdd] at F; go_simp; try with_reducible rfl)
    try simp only [Act.put, List.setIfInBounds_toArray, List.set_cons_zero, List.set_cons_succ, List.getElem_toArray, List.getElem_cons_succ, List.getElem_cons_zero]
    refine wpAnyH_ready (rs := [2]) (by kernel_rfl) (by simp) ?_
    refine AllReadyH.cons rfl (fun K hK => ?_) AllReadyH.nil
    go_simp
    refine (fail_any n _).mono ?_
    rintro e w6 ⟨⟨d, hd1, hd7, hdn, rfl⟩, hb6⟩
    have HDN := keep hdn
    clear hdn
    go_wp2_with fail
    refine hK.out _ _ (hHeld.below hb6) (fun hHeld => ?_)
    clear hK K
    try simp only [Act.put, List.setIfInBounds_toArray, List.set_cons_zero, List.set_cons_succ, List.getElem_toArray, List.getElem_cons_succ, List.getElem_cons_zero]
    refine wpAnyH_ready (rs := [3]) (by kernel_rfl) (by simp) ?_
    refine AllReadyH.cons rfl (fun K hK => ?_) AllReadyH.nil
    go_simp
    refine (show_err d hd1 hd7 _ (HW.out.below hHeld.bel)).mono ?_
    rintro e w7 ⟨rfl, hb7⟩
    go_wp2_with fail
    refine hK.out _ _ (hHeld.below hb7) (fun hHeld => ?_)
    clear hK K
    try simp only [Act.put, List.setIfInBounds_toArray, List.set_cons_zero, List.set_cons_succ, List.getElem_toArray, List.getElem_cons_succ, List.getElem_cons_zero]
    refine wpAnyH_ready (rs := [6]) (by kernel_rfl) (by simp) ?_
    refine AllReadyH.cons rfl (fun K hK => ?_) AllReadyH.nil
    go_simp
    refine (lex_literal n _).mono ?_
    rintro e w8 ⟨rfl, rfl⟩
    rw [HE.out]
    go_wp2_with fail
    refine hK.out _ _ hHeld (fun hHeld => ?_)
    clear hK K
    try simp only [Act.put, List.setIfInBounds_toArray, List.set_cons_zero, List.set_cons_succ, List.getElem_toArray, List.getElem_cons_succ, List.getElem_cons_zero]
    refine wpAnyH_take (i := 7) (v := ?vx136_7) rfl (by kernel_rfl) (by kernel_rfl) (by kernel_rfl) (fun _ _ _ h => h) (Or.inl ⟨by rfl, ?hyx136_7⟩) (by assumption) ?restx136_7
    case hyx136_7 => (intro w hSw; have F := Ok.sees hSw; clear hSw; simp only [sees, kBlk, cellsAt, Nat.reduceAdd] at F; go_simp; try with_reducible rfl)
    try simp only [Act.put, List.setIfInBounds_toArray, List.set_cons_zero, List.set_cons_succ, List.getElem_toArray, List.getElem_cons_succ, List.getElem_cons_zero]
    refine wpAnyH_take (i := 8) (v := ?vx137_8) rfl (by kernel_rfl) (by kernel_rfl) (by kernel_rfl) (fun _ _ _ h => h) (Or.inl ⟨by rfl, ?hyx137_8⟩) (by assumption) ?restx137_8
    case hyx137_8 => (intro w hSw; have F := Ok.sees hSw; clear hSw; simp only [sees, kBlk, cellsAt, Nat.reduceAdd] at F; go_simp; try with_reducible rfl)
    try simp only [Act.put, List.setIfInBounds_toArray, List.set_cons_zero, List.set_cons_succ, List.getElem_toArray, List.getElem_cons_succ, List.getElem_cons_zero]
    refine wpAnyH_done (by kernel_rfl) ?_ _
    clear H1
    have H3 := Lib.hid hHeld
    clear hHeld
    go_wp2_with fail
    refine wp_region_held_drew (S := fun W => Ok w [kBlk (w.heap.size + 1) 43 [.int .u8 4, .int .i64 n, .string ⟨#[]⟩, .int .i64 0, .int .i64 0, .int .i64 0, .int .i64 0, .int .i64 p], kBlk (w.heap.size) 43 [.int .u8 4, .int .i64 n, .string s, .int .i64 a1, .int .i64 a2, .int .i64 a3, .int .i64 a4, .int .i64 p]] W) (by kernel_rfl) H3.out.drew (fun hHeld => ?_)
    refine wpAnyH_take (i := 0) (v := ?vx138_0) rfl (by kernel_rfl) (by kernel_rfl) (by kernel_rfl) (fun _ _ _ h => h) (Or.inl ⟨by rfl, ?hyx138_0⟩) (by assumption) ?restx138_0
    case hyx138_0 => (intro w hSw; have F := Ok.sees hSw; clear hSw; simp only [sees, kBlk, cellsAt, Nat.reduceAdd] at F; go_simp; try with_reducible rfl)
    try simp only [Act.put, List.setIfInBounds_toArray, List.set_cons_zero, List.set_cons_succ, List.getElem_toArray, List.getElem_cons_zero]
    refine wpAnyH_take (i := 1) (v := ?vx139_1) rfl (by kernel_rfl) (by kernel_rfl) (by kernel_rfl) (fun _ _ _ h => h) (Or.inl ⟨by rfl, ?hyx139_1⟩) (by assumption) ?restx139_1
    case hyx139_1 => (intro w hSw; have F := Ok.sees hSw; clear hSw; simp only [sees, kBlk, cellsAt, Nat.reduceAdd] at F; go_simp; try with_reducible rfl)
    try simp only [Act.put, List.setIfInBounds_toArray, List.set_cons_zero, List.set_cons_succ, List.getElem_toArray, List.getElem_cons_succ, List.getElem_cons_zero]
    refine wpAnyH_take (i := 2) (v := ?vx140_2) rfl (by kernel_rfl) (by kernel_rfl) (by kernel_rfl) (fun _ _ _ h => h) (Or.inl ⟨by rfl, ?hyx140_2⟩) (by assumption) ?restx140_2
    case hyx140_2 => (intro w hSw; have F := Ok.sees hSw; clear hSw; simp only [sees, kBlk, cellsAt, Nat.reduceAdd] at F; go_simp; try with_reducible rfl)
    try simp only [Act.put, List.setIfInBounds_toArray, List.set_cons_zero, List.set_cons_succ, List.getElem_toArray, List.getElem_cons_succ, List.getElem_cons_zero]
    refine wpAnyH_take (i := 3) (v := undef) rfl (by kernel_rfl) (by kernel_rfl) (by kernel_rfl) (fun _ _ _ h => h) (Or.inr ⟨by rfl, rfl⟩) (by assumption) ?_
    try simp only [Act.put, List.setIfInBounds_toArray, List.set_cons_zero, List.set_cons_succ, List.getElem_toArray, List.getElem_cons_succ, List.getElem_cons_zero]
    refine wpAnyH_take (i := 4) (v := undef) rfl (by kernel_rfl) (by kernel_rfl) (by kernel_rfl) (fun _ _ _ h => h) (Or.inr ⟨by rfl, rfl⟩) (by assumption) ?_
    try simp only [Act.put, List.setIfInBounds_toArray, List.set_cons_zero, List.set_cons_succ, List.getElem_toArray, List.getElem_cons_succ, List.getElem_cons_zero]
    refine wpAnyH_take (i := 5) (v := undef) rfl (by kernel_rfl) (by kernel_rfl) (by kernel_rfl) (fun _ _ _ h => h) (Or.inr ⟨by rfl, rfl⟩) (by assumption) ?_
    try simp only [Act.put, List.setIfInBounds_toArray, List.set_cons_zero, List.set_cons_succ, List.getElem_toArray, List.getElem_cons_succ, List.getElem_cons_zero]
    refine wpAnyH_take (i := 6) (v := ?vx144_6) rfl (by kernel_rfl) (by kernel_rfl) (by kernel_rfl) (fun _ _ _ h => h) (Or.inl ⟨by rfl, ?hyx144_6⟩) (by assumption) ?restx144_6
    case hyx144_6 => (intro w hSw; have F := Ok.sees hSw; clear hSw; simp only [sees, kBlk, cellsAt, Nat.reduceAdd] at F; go_simp; try with_reducible rfl)
    try simp only [Act.put, List.setIfInBounds_toArray, List.set_cons_zero, List.set_cons_succ, List.getElem_toArray, List.getElem_cons_succ, List.getElem_cons_zero]
    refine wpAnyH_take (i := 7) (v := ?vx145_7) rfl (by kernel_rfl) (by kernel_rfl) (by kernel_rfl) (fun _ _ _ h => h) (Or.inl ⟨by rfl, ?hyx145_7⟩) (by assumption) ?restx145_7
    case hyx145_7 => (intro w hSw; have F := Ok.sees hSw; clear hSw; simp only [sees, kBlk, cellsAt, Nat.reduceAdd] at F; go_simp; try with_reducible rfl)
    try simp only [Act.put, List.setIfInBounds_toArray, List.set_cons_zero, List.set_cons_succ, List.getElem_toArray, List.getElem_cons_succ, List.getElem_cons_zero]
    refine wpAnyH_take (i := 8) (v := ?vx146_8) rfl (by kernel_rfl) (by kernel_rfl) (by kernel_rfl) (fun _ _ _ h => h) (Or.inl ⟨by rfl, ?hyx146_8⟩) (by assumption) ?restx146_8
    case hyx146_8 => (intro w hSw; have F := Ok.sees hSw; clear hSw; simp only [sees, kBlk, cellsAt, Nat.reduceAdd] at F; go_simp; try with_reducible rfl)
    try simp only [Act.put, List.setIfInBounds_toArray, List.set_cons_zero, List.set_cons_succ, List.getElem_toArray, List.getElem_cons_succ, List.getElem_cons_zero]
    refine wpAnyH_done (by kernel_rfl) ?_ _
    clear H3
    have H5 := Lib.hid hHeld
    clear hHeld
    go_wp2_with fail
    refine bodyPost_ret (v := .tuple #[.string ⟨(allNames[d.toNat]?.getD []).toArray⟩, .bool (false)]) (by simp [results, Tryz.results43, go_sem]) rfl ⟨⟨(allNames[d.toNat]?.getD []).toArray⟩, ?_, ?_, H5.out.bel⟩
    · rw [HNo.out]
    · intro h; rw [HNo.out] at h; cases h
set_option maxRecDepth 100000 in
set_option maxHeartbeats 4000000 in
theorem write_7 (n a1 a2 a3 a4 p : Int) (s : ByteArray) (w : World) (hs : s.size ≤ 4611686018427387904) :
    Calls Tryz.prog 43 #[.agg #[.int .u8 7, .int .i64 n, .string s, .int .i64 a1, .int .i64 a2, .int .i64 a3, .int .i64 a4, .int .i64 p]] w (WOut ⟨7, n, s.data.toList, ⟨a1, a2, a3, a4⟩, 0⟩ w) := by
  cases h0 : nameB s.data.toList
  · have HNo := keep (show okT ⟨7, n, s.data.toList, ⟨a1, a2, a3, a4⟩, 0⟩ = false from by unfold okT; simp [h0])
    have HE := keep h0
    clear h0
    have H1 := Lib.hid (((Ok.start w).alloc w.heap.size 43 [.int .u8 7, .int .i64 n, .string s, .int .i64 a1, .int .i64 a2, .int .i64 a3, .int .i64 a4, .int .i64 p] rfl).alloc (w.heap.size + 1) 43 [.int .u8 7, .int .i64 0, .string s, .int .i64 0, .int .i64 0, .int .i64 0, .int .i64 0, .int .i64 p] (by simp))
    go_enter Tryz.func43, Tryz.ntmps43
    go_wp2_with fail
    generalize ((w.alloc (.cells #[.int .u8 7, .int .i64 n, .string s, .int .i64 a1, .int .i64 a2, .int .i64 a3, .int .i64 a4, .int .i64 p] 43)).alloc (.cells #[.int .u8 7, .int .i64 0, .string s, .int .i64 0, .int .i64 0, .int .i64 0, .int .i64 0, .int .i64 p] 43)) = W2 at H1 ⊢
    refine wp_region_held_drew (S := fun W => Ok w [kBlk (w.heap.size + 1) 43 [.int .u8 7, .int .i64 0, .string s, .int .i64 0, .int .i64 0, .int .i64 0, .int .i64 0, .int .i64 p], kBlk (w.heap.size) 43 [.int .u8 7, .int .i64 n, .string s, .int .i64 a1, .int .i64 a2, .int .i64 a3, .int .i64 a4, .int .i64 p]] W) (by kernel_rfl) H1.out.drew (fun hHeld => ?_)
    refine wpAnyH_take (i := 0) (v := ?vx162_0) rfl (by kernel_rfl) (by kernel_rfl) (by kernel_rfl) (fun _ _ _ h => h) (Or.inl ⟨by rfl, ?hyx162_0⟩) (by assumption) ?restx162_0
    case hyx162_0 => (intro w hSw; have F := Ok.sees hSw; clear hSw; simp only [sees, kBlk, cellsAt, Nat.reduceAdd] at F; go_simp; try with_reducible rfl)
    try simp only [Act.put, List.setIfInBounds_toArray, List.set_cons_zero, List.set_cons_succ, List.getElem_toArray, List.getElem_cons_zero]
    refine wpAnyH_take (i := 1) (v := ?vx163_1) rfl (by kernel_rfl) (by kernel_rfl) (by kernel_rfl) (fun _ _ _ h => h) (Or.inl ⟨by rfl, ?hyx163_1⟩) (by assumption) ?restx163_1
    case hyx163_1 => (intro w hSw; have F := Ok.sees hSw; clear hSw; simp only [sees, kBlk, cellsAt, Nat.reduceAdd] at F; go_simp; try with_reducible rfl)
    try simp only [Act.put, List.setIfInBounds_toArray, List.set_cons_zero, List.set_cons_succ, List.getElem_toArray, List.getElem_cons_succ, List.getElem_cons_zero]
    refine wpAnyH_take (i := 2) (v := ?vx164_2) rfl (by kernel_rfl) (by kernel_rfl) (by kernel_rfl) (fun _ _ _ h => h) (Or.inl ⟨by rfl, ?hyx164_2⟩) (by assumption) ?restx164_2
    case hyx164_2 => (intro w hSw; have F := Ok.sees hSw; clear hSw; simp only [sees, kBlk, cellsAt, Nat.reduceAdd] at F; go_simp; try with_reducible rfl)
    try simp only [Act.put, List.setIfInBounds_toArray, List.set_cons_zero, List.set_cons_succ, List.getElem_toArray, List.getElem_cons_succ, List.getElem_cons_zero]
    refine wpAnyH_take (i := 3) (v := ?vx165_3) rfl (by kernel_rfl) (by kernel_rfl) (by kernel_rfl) (fun _ _ _ h => h) (Or.inl ⟨by rfl, ?hyx165_3⟩) (by assumption) ?restx165_3
    case hyx165_3 => (intro w hSw; have F := Ok.sees hSw; clear hSw; simp only [sees, kBlk, cellsAt, Nat.reduceAdd] at F; go_simp; try with_reducible rfl)
    try simp only [Act.put, List.setIfInBounds_toArray, List.set_cons_zero, List.set_cons_succ, List.getElem_toArray, List.getElem_cons_succ, List.getElem_cons_zero]
    refine wpAnyH_ready (rs := [4]) (by kernel_rfl) (by simp) ?_
    refine AllReadyH.cons rfl (fun K hK => ?_) AllReadyH.nil
    go_simp
    refine (lex_name s _ hs).mono ?_
    rintro e w4 ⟨rfl, hb5⟩
    rw [HE.out]
    go_wp2_with fail
    refine hK.out _ _ (hHeld.below hb5) (fun hHeld => ?_)
    clear hK K
    try simp only [Act.put, List.setIfInBounds_toArray, List.set_cons_zero, List.set_cons_succ, List.getElem_toArray, List.getElem_cons_succ, List.getElem_cons_zero]
    refine wpAnyH_take (i := 5) (v := ?vx166_5) rfl (by kernel_rfl) (by kernel_rfl) (by kernel_rfl) (fun _ _ _ h => h) (Or.inl ⟨by rfl, ?hyx166_5⟩) (by assumption) ?restx166_5
    case hyx166_5 => (intro w hSw; have F := Ok.sees hSw; clear hSw; simp only [sees, kBlk, cellsAt, Nat.reduceAdd] at F; go_simp; try with_reducible rfl)
    try simp only [Act.put, List.setIfInBounds_toArray, List.set_cons_zero, List.set_cons_succ, List.getElem_toArray, List.getElem_cons_succ, List.getElem_cons_zero]
    refine wpAnyH_take (i := 6) (v := ?vx167_6) rfl (by kernel_rfl) (by kernel_rfl) (by kernel_rfl) (fun _ _ _ h => h) (Or.inl ⟨by rfl, ?hyx167_6⟩) (by assumption) ?restx167_6
    case hyx167_6 => (intro w hSw; have F := Ok.sees hSw; clear hSw; simp only [sees, kBlk, cellsAt, Nat.reduceAdd] at F; go_simp; try with_reducible rfl)
    try simp only [Act.put, List.setIfInBounds_toArray, List.set_cons_zero, List.set_cons_succ, List.getElem_toArray, List.getElem_cons_succ, List.getElem_cons_zero]
    refine wpAnyH_done (by kernel_rfl) ?_ _
    clear H1
    have H6 := Lib.hid hHeld
    clear hHeld
    go_wp2_with fail
    refine wp_region_held_drew (S := fun W => Ok w [kBlk (w.heap.size + 1) 43 [.int .u8 7, .int .i64 0, .string s, .int .i64 0, .int .i64 0, .int .i64 0, .int .i64 0, .int .i64 p], kBlk (w.heap.size) 43 [.int .u8 7, .int .i64 n, .string s, .int .i64 a1, .int .i64 a2, .int .i64 a3, .int .i64 a4, .int .i64 p]] W) (by kernel_rfl) H6.out.drew (fun hHeld => ?_)
    refine wpAnyH_take (i := 0) (v := ?vx168_0) rfl (by kernel_rfl) (by kernel_rfl) (by kernel_rfl) (fun _ _ _ h => h) (Or.inl ⟨by rfl, ?hyx168_0⟩) (by assumption) ?restx168_0
    case hyx168_0 => (intro w hSw; have F := Ok.sees hSw; clear hSw; simp only [sees, kBlk, cellsAt, Nat.reduceAdd] at F; go_simp; try with_reducible rfl)
    try simp only [Act.put, List.setIfInBounds_toArray, List.set_cons_zero, List.set_cons_succ, List.getElem_toArray, List.getElem_cons_zero]
    refine wpAnyH_take (i := 1) (v := ?vx169_1) rfl (by kernel_rfl) (by kernel_rfl) (by kernel_rfl) (fun _ _ _ h => h) (Or.inl ⟨by rfl, ?hyx169_1⟩) (by assumption) ?restx169_1
    case hyx169_1 => (intro w hSw; have F := Ok.sees hSw; clear hSw; simp only [sees, kBlk, cellsAt, Nat.reduceAdd] at F; go_simp; try with_reducible rfl)
    try simp only [Act.put, List.setIfInBounds_toArray, List.set_cons_zero, List.set_cons_succ, List.getElem_toArray, List.getElem_cons_succ, List.getElem_cons_zero]
    refine wpAnyH_take (i := 2) (v := ?vx170_2) rfl (by kernel_rfl) (by kernel_rfl) (by kernel_rfl) (fun _ _ _ h => h) (Or.inl ⟨by rfl, ?hyx170_2⟩) (by assumption) ?restx170_2
    case hyx170_2 => (intro w hSw; have F := Ok.sees hSw; clear hSw; simp only [sees, kBlk, cellsAt, Nat.reduceAdd] at F; go_simp; try with_reducible rfl)
    try simp only [Act.put, List.setIfInBounds_toArray, List.set_cons_zero, List.set_cons_succ, List.getElem_toArray, List.getElem_cons_succ, List.getElem_cons_zero]
    refine wpAnyH_take (i := 3) (v := undef) rfl (by kernel_rfl) (by kernel_rfl) (by kernel_rfl) (fun _ _ _ h => h) (Or.inr ⟨by rfl, rfl⟩) (by assumption) ?_
    try simp only [Act.put, List.setIfInBounds_toArray, List.set_cons_zero, List.set_cons_succ, List.getElem_toArray, List.getElem_cons_succ, List.getElem_cons_zero]
    refine wpAnyH_take (i := 4) (v := undef) rfl (by kernel_rfl) (by kernel_rfl) (by kernel_rfl) (fun _ _ _ h => h) (Or.inr ⟨by rfl, rfl⟩) (by assumption) ?_
    try simp only [Act.put, List.setIfInBounds_toArray, List.set_cons_zero, List.set_cons_succ, List.getElem_toArray, List.getElem_cons_succ, List.getElem_cons_zero]
    refine wpAnyH_take (i := 5) (v := undef) rfl (by kernel_rfl) (by kernel_rfl) (by kernel_rfl) (fun _ _ _ h => h) (Or.inr ⟨by rfl, rfl⟩) (by assumption) ?_
    try simp only [Act.put, List.setIfInBounds_toArray, List.set_cons_zero, List.set_cons_succ, List.getElem_toArray, List.getElem_cons_succ, List.getElem_cons_zero]
    refine wpAnyH_take (i := 6) (v := ?vx174_6) rfl (by kernel_rfl) (by kernel_rfl) (by kernel_rfl) (fun _ _ _ h => h) (Or.inl ⟨by rfl, ?hyx174_6⟩) (by assumption) ?restx174_6
    case hyx174_6 => (intro w hSw; have F := Ok.sees hSw; clear hSw; simp only [sees, kBlk, cellsAt, Nat.reduceAdd] at F; go_simp; try with_reducible rfl)
    try simp only [Act.put, List.setIfInBounds_toArray, List.set_cons_zero, List.set_cons_succ, List.getElem_toArray, List.getElem_cons_succ, List.getElem_cons_zero]
    refine wpAnyH_take (i := 7) (v := ?vx175_7) rfl (by kernel_rfl) (by kernel_rfl) (by kernel_rfl) (fun _ _ _ h => h) (Or.inl ⟨by rfl, ?hyx175_7⟩) (by assumption) ?restx175_7
    case hyx175_7 => (intro w hSw; have F := Ok.sees hSw; clear hSw; simp only [sees, kBlk, cellsAt, Nat.reduceAdd] at F; go_simp; try with_reducible rfl)
    try simp only [Act.put, List.setIfInBounds_toArray, List.set_cons_zero, List.set_cons_succ, List.getElem_toArray, List.getElem_cons_succ, List.getElem_cons_zero]
    refine wpAnyH_take (i := 8) (v := ?vx176_8) rfl (by kernel_rfl) (by kernel_rfl) (by kernel_rfl) (fun _ _ _ h => h) (Or.inl ⟨by rfl, ?hyx176_8⟩) (by assumption) ?restx176_8
    case hyx176_8 => (intro w hSw; have F := Ok.sees hSw; clear hSw; simp only [sees, kBlk, cellsAt, Nat.reduceAdd] at F; go_simp; try with_reducible rfl)
    try simp only [Act.put, List.setIfInBounds_toArray, List.set_cons_zero, List.set_cons_succ, List.getElem_toArray, List.getElem_cons_succ, List.getElem_cons_zero]
    refine wpAnyH_done (by kernel_rfl) ?_ _
    clear H6
    have H8 := Lib.hid hHeld
    clear hHeld
    go_wp2_with fail
    refine bodyPost_ret (v := .tuple #[.string s, .bool (false)]) (by simp [results, Tryz.results43, go_sem]) rfl ⟨s, ?_, ?_, H8.out.bel⟩
    · rw [HNo.out]
    · intro h; rw [HNo.out] at h; cases h
  · have hb : eq8 7 n a1 a2 a3 a4 p 7 0 0 0 0 0 p s.toList s.toList = okT ⟨7, n, s.data.toList, ⟨a1, a2, a3, a4⟩, 0⟩ := by
      unfold eq8 okT bareB
      rw [show s.data.toList.isEmpty = decide (s.data.toList = []) from by cases s.data.toList <;> rfl]
      simp [ByteArray.toList_eq, h0]
    have HEq := keep hb
    clear hb
    have HE := keep h0
    clear h0
    have H1 := Lib.hid (((Ok.start w).alloc w.heap.size 43 [.int .u8 7, .int .i64 n, .string s, .int .i64 a1, .int .i64 a2, .int .i64 a3, .int .i64 a4, .int .i64 p] rfl).alloc (w.heap.size + 1) 43 [.int .u8 7, .int .i64 0, .string s, .int .i64 0, .int .i64 0, .int .i64 0, .int .i64 0, .int .i64 p] (by simp))
    go_enter Tryz.func43, Tryz.ntmps43
    go_wp2_with fail
    generalize ((w.alloc (.cells #[.int .u8 7, .int .i64 n, .string s, .int .i64 a1, .int .i64 a2, .int .i64 a3, .int .i64 a4, .int .i64 p] 43)).alloc (.cells #[.int .u8 7, .int .i64 0, .string s, .int .i64 0, .int .i64 0, .int .i64 0, .int .i64 0, .int .i64 p] 43)) = W2 at H1 ⊢
    refine wp_region_held_drew (S := fun W => Ok w [kBlk (w.heap.size + 1) 43 [.int .u8 7, .int .i64 0, .string s, .int .i64 0, .int .i64 0, .int .i64 0, .int .i64 0, .int .i64 p], kBlk (w.heap.size) 43 [.int .u8 7, .int .i64 n, .string s, .int .i64 a1, .int .i64 a2, .int .i64 a3, .int .i64 a4, .int .i64 p]] W) (by kernel_rfl) H1.out.drew (fun hHeld => ?_)
    refine wpAnyH_take (i := 0) (v := ?vx147_0) rfl (by kernel_rfl) (by kernel_rfl) (by kernel_rfl) (fun _ _ _ h => h) (Or.inl ⟨by rfl, ?hyx147_0⟩) (by assumption) ?restx147_0
    case hyx147_0 => (intro w hSw; have F := Ok.sees hSw; clear hSw; simp only [sees, kBlk, cellsAt, Nat.reduceAdd] at F; go_simp; try with_reducible rfl)
    try simp only [Act.put, List.setIfInBounds_toArray, List.set_cons_zero, List.set_cons_succ, List.getElem_toArray, List.getElem_cons_zero]
    refine wpAnyH_take (i := 1) (v := ?vx148_1) rfl (by kernel_rfl) (by kernel_rfl) (by kernel_rfl) (fun _ _ _ h => h) (Or.inl ⟨by rfl, ?hyx148_1⟩) (by assumption) ?restx148_1
    case hyx148_1 => (intro w hSw; have F := Ok.sees hSw; clear hSw; simp only [sees, kBlk, cellsAt, Nat.reduceAdd] at F; go_simp; try with_reducible rfl)
    try simp only [Act.put, List.setIfInBounds_toArray, List.set_cons_zero, List.set_cons_succ, List.getElem_toArray, List.getElem_cons_succ, List.getElem_cons_zero]
    refine wpAnyH_take (i := 2) (v := ?vx149_2) rfl (by kernel_rfl) (by kernel_rfl) (by kernel_rfl) (fun _ _ _ h => h) (Or.inl ⟨by rfl, ?hyx149_2⟩) (by assumption) ?restx149_2
    case hyx149_2 => (intro w hSw; have F := Ok.sees hSw; clear hSw; simp only [sees, kBlk, cellsAt, Nat.reduceAdd] at F; go_simp; try with_reducible rfl)
    try simp only [Act.put, List.setIfInBounds_toArray, List.set_cons_zero, List.set_cons_succ, List.getElem_toArray, List.getElem_cons_succ, List.getElem_cons_zero]
    refine wpAnyH_take (i := 3) (v := ?vx150_3) rfl (by kernel_rfl) (by kernel_rfl) (by kernel_rfl) (fun _ _ _ h => h) (Or.inl ⟨by rfl, ?hyx150_3⟩) (by assumption) ?restx150_3
    case hyx150_3 => (intro w hSw; have F := Ok.sees hSw; clear hSw; simp only [sees, kBlk, cellsAt, Nat.reduceAdd] at F; go_simp; try with_reducible rfl)
    try simp only [Act.put, List.setIfInBounds_toArray, List.set_cons_zero, List.set_cons_succ, List.getElem_toArray, List.getElem_cons_succ, List.getElem_cons_zero]
    refine wpAnyH_ready (rs := [4]) (by kernel_rfl) (by simp) ?_
    refine AllReadyH.cons rfl (fun K hK => ?_) AllReadyH.nil
    go_simp
    refine (lex_name s _ hs).mono ?_
    rintro e w4 ⟨rfl, hb5⟩
    rw [HE.out]
    go_wp2_with fail
    refine hK.out _ _ (hHeld.below hb5) (fun hHeld => ?_)
    clear hK K
    try simp only [Act.put, List.setIfInBounds_toArray, List.set_cons_zero, List.set_cons_succ, List.getElem_toArray, List.getElem_cons_succ, List.getElem_cons_zero]
    refine wpAnyH_take (i := 5) (v := ?vx151_5) rfl (by kernel_rfl) (by kernel_rfl) (by kernel_rfl) (fun _ _ _ h => h) (Or.inl ⟨by rfl, ?hyx151_5⟩) (by assumption) ?restx151_5
    case hyx151_5 => (intro w hSw; have F := Ok.sees hSw; clear hSw; simp only [sees, kBlk, cellsAt, Nat.reduceAdd] at F; go_simp; try with_reducible rfl)
    try simp only [Act.put, List.setIfInBounds_toArray, List.set_cons_zero, List.set_cons_succ, List.getElem_toArray, List.getElem_cons_succ, List.getElem_cons_zero]
    refine wpAnyH_take (i := 6) (v := ?vx152_6) rfl (by kernel_rfl) (by kernel_rfl) (by kernel_rfl) (fun _ _ _ h => h) (Or.inl ⟨by rfl, ?hyx152_6⟩) (by assumption) ?restx152_6
    case hyx152_6 => (intro w hSw; have F := Ok.sees hSw; clear hSw; simp only [sees, kBlk, cellsAt, Nat.reduceAdd] at F; go_simp; try with_reducible rfl)
    try simp only [Act.put, List.setIfInBounds_toArray, List.set_cons_zero, List.set_cons_succ, List.getElem_toArray, List.getElem_cons_succ, List.getElem_cons_zero]
    refine wpAnyH_done (by kernel_rfl) ?_ _
    clear H1
    have H6 := Lib.hid hHeld
    clear hHeld
    go_wp2_with fail
    refine wp_region_held_drew (S := fun W => Ok w [kBlk (w.heap.size + 1) 43 [.int .u8 7, .int .i64 0, .string s, .int .i64 0, .int .i64 0, .int .i64 0, .int .i64 0, .int .i64 p], kBlk (w.heap.size) 43 [.int .u8 7, .int .i64 n, .string s, .int .i64 a1, .int .i64 a2, .int .i64 a3, .int .i64 a4, .int .i64 p]] W) (by kernel_rfl) H6.out.drew (fun hHeld => ?_)
    refine wpAnyH_take (i := 0) (v := ?vx153_0) rfl (by kernel_rfl) (by kernel_rfl) (by kernel_rfl) (fun _ _ _ h => h) (Or.inl ⟨by rfl, ?hyx153_0⟩) (by assumption) ?restx153_0
    case hyx153_0 => (intro w hSw; have F := Ok.sees hSw; clear hSw; simp only [sees, kBlk, cellsAt, Nat.reduceAdd] at F; go_simp; try with_reducible rfl)
    try simp only [Act.put, List.setIfInBounds_toArray, List.set_cons_zero, List.set_cons_succ, List.getElem_toArray, List.getElem_cons_zero]
    refine wpAnyH_take (i := 1) (v := ?vx154_1) rfl (by kernel_rfl) (by kernel_rfl) (by kernel_rfl) (fun _ _ _ h => h) (Or.inl ⟨by rfl, ?hyx154_1⟩) (by assumption) ?restx154_1
    case hyx154_1 => (intro w hSw; have F := Ok.sees hSw; clear hSw; simp only [sees, kBlk, cellsAt, Nat.reduceAdd] at F; go_simp; try with_reducible rfl)
    try simp only [Act.put, List.setIfInBounds_toArray, List.set_cons_zero, List.set_cons_succ, List.getElem_toArray, List.getElem_cons_succ, List.getElem_cons_zero]
    refine wpAnyH_take (i := 2) (v := ?vx155_2) rfl (by kernel_rfl) (by kernel_rfl) (by kernel_rfl) (fun _ _ _ h => h) (Or.inl ⟨by rfl, ?hyx155_2⟩) (by assumption) ?restx155_2
    case hyx155_2 => (intro w hSw; have F := Ok.sees hSw; clear hSw; simp only [sees, kBlk, cellsAt, Nat.reduceAdd] at F; go_simp; try with_reducible rfl)
    try simp only [Act.put, List.setIfInBounds_toArray, List.set_cons_zero, List.set_cons_succ, List.getElem_toArray, List.getElem_cons_succ, List.getElem_cons_zero]
    refine wpAnyH_take (i := 3) (v := ?vx156_3) rfl (by kernel_rfl) (by kernel_rfl) (by kernel_rfl) (fun _ _ _ h => h) (Or.inl ⟨by rfl, ?hyx156_3⟩) (by assumption) ?restx156_3
    case hyx156_3 => (intro w hSw; have F := Ok.sees hSw; clear hSw; simp only [sees, kBlk, cellsAt, Nat.reduceAdd] at F; go_simp; try with_reducible rfl)
    try simp only [Act.put, List.setIfInBounds_toArray, List.set_cons_zero, List.set_cons_succ, List.getElem_toArray, List.getElem_cons_succ, List.getElem_cons_zero]
    refine wpAnyH_take (i := 4) (v := ?vx157_4) rfl (by kernel_rfl) (by kernel_rfl) (by kernel_rfl) (fun _ _ _ h => h) (Or.inl ⟨by rfl, ?hyx157_4⟩) (by assumption) ?restx157_4
    case hyx157_4 => (intro w hSw; have F := Ok.sees hSw; clear hSw; simp only [sees, kBlk, cellsAt, Nat.reduceAdd] at F; go_simp; try with_reducible rfl)
    try simp only [Act.put, List.setIfInBounds_toArray, List.set_cons_zero, List.set_cons_succ, List.getElem_toArray, List.getElem_cons_succ, List.getElem_cons_zero]
    refine wpAnyH_take (i := 5) (v := ?vx158_5) rfl (by kernel_rfl) (by kernel_rfl) (by kernel_rfl) (fun _ _ _ h => h) (Or.inl ⟨by rfl, ?hyx158_5⟩) (by assumption) ?restx158_5
    case hyx158_5 => (intro w hSw; have F := Ok.sees hSw; clear hSw; simp only [sees, kBlk, cellsAt, Nat.reduceAdd] at F; go_simp; try with_reducible rfl)
    try simp only [Act.put, List.setIfInBounds_toArray, List.set_cons_zero, List.set_cons_succ, List.getElem_toArray, List.getElem_cons_succ, List.getElem_cons_zero]
    refine wpAnyH_take (i := 6) (v := ?vx159_6) rfl (by kernel_rfl) (by kernel_rfl) (by kernel_rfl) (fun _ _ _ h => h) (Or.inl ⟨by rfl, ?hyx159_6⟩) (by assumption) ?restx159_6
    case hyx159_6 => (intro w hSw; have F := Ok.sees hSw; clear hSw; simp only [sees, kBlk, cellsAt, Nat.reduceAdd] at F; go_simp; try with_reducible rfl)
    try simp only [Act.put, List.setIfInBounds_toArray, List.set_cons_zero, List.set_cons_succ, List.getElem_toArray, List.getElem_cons_succ, List.getElem_cons_zero]
    refine wpAnyH_take (i := 7) (v := ?vx160_7) rfl (by kernel_rfl) (by kernel_rfl) (by kernel_rfl) (fun _ _ _ h => h) (Or.inl ⟨by rfl, ?hyx160_7⟩) (by assumption) ?restx160_7
    case hyx160_7 => (intro w hSw; have F := Ok.sees hSw; clear hSw; simp only [sees, kBlk, cellsAt, Nat.reduceAdd] at F; go_simp; try with_reducible rfl)
    try simp only [Act.put, List.setIfInBounds_toArray, List.set_cons_zero, List.set_cons_succ, List.getElem_toArray, List.getElem_cons_succ, List.getElem_cons_zero]
    refine wpAnyH_take (i := 8) (v := ?vx161_8) rfl (by kernel_rfl) (by kernel_rfl) (by kernel_rfl) (fun _ _ _ h => h) (Or.inl ⟨by rfl, ?hyx161_8⟩) (by assumption) ?restx161_8
    case hyx161_8 => (intro w hSw; have F := Ok.sees hSw; clear hSw; simp only [sees, kBlk, cellsAt, Nat.reduceAdd] at F; go_simp; try with_reducible rfl)
    try simp only [Act.put, List.setIfInBounds_toArray, List.set_cons_zero, List.set_cons_succ, List.getElem_toArray, List.getElem_cons_succ, List.getElem_cons_zero]
    refine wpAnyH_done (by kernel_rfl) ?_ _
    clear H6
    have H8 := Lib.hid hHeld
    clear hHeld
    go_wp2_with fail
    refine bodyPost_ret (v := .tuple #[.string s, .bool (eq8 7 n a1 a2 a3 a4 p 7 0 0 0 0 0 p s.toList s.toList)]) (by simp [results, Tryz.results43, go_sem]) rfl ⟨s, ?_, ?_, H8.out.bel⟩
    · rw [HEq.out]
    · intro _; rfl
end Go.Proofs.YtlngjiibbcgkmaaGreatDoor
