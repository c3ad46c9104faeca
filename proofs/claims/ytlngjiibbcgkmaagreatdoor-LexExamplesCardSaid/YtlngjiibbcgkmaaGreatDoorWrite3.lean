/- lex.write: literals of text, operators, and kinds that no token has. -/
import Derived.Test.YtlngjiibbcgkmaaGreatDoorWrite
import Derived.Test.YtlngjiibbcgkmaaGreatDoorTk
namespace Go.Proofs.YtlngjiibbcgkmaaGreatDoor
open Go.RowKit

attribute [local go_sem high] eq_tok
theorem check_zero {l : List UInt8} (h : checkT l = 0) : l.length ≤ 256 ∧ l.all plainB = true := by
  unfold checkT at h
  split at h
  · cases h
  · split at h
    · exact ⟨by omega, by assumption⟩
    · cases h
theorem check_not {l : List UInt8} (h : ¬ checkT l = 0) : (l.all plainB && decide (l.length ≤ 256)) = false := by
  unfold checkT at h
  split at h
  · rw [decide_eq_false (p := l.length ≤ 256) (by omega), Bool.and_false]
  · split at h
    · exact absurd rfl h
    · rename_i h9
      rw [Bool.eq_false_iff.2 h9, Bool.false_and]
theorem okT_text (n : Int) (l : List UInt8) (r : R4) : okT ⟨2, n, l, r, 0⟩ = (l.all plainB && decide (l.length ≤ 256) && decide ((quoteS l).length ≤ 256) && bareB ⟨2, n, [], r, 0⟩) := rfl
set_option maxRecDepth 100000 in
set_option maxHeartbeats 4000000 in
theorem write_2 (n a1 a2 a3 a4 p : Int) (s : ByteArray) (w : World) (hs : s.size ≤ 4611686018427387904) (hm : ∃ m, w.cell? ⟨1, 0, none⟩ = some (.int .i64 m)) :
    Calls Tryz.prog 43 #[.agg #[.int .u8 2, .int .i64 n, .string s, .int .i64 a1, .int .i64 a2, .int .i64 a3, .int .i64 a4, .int .i64 p]] w (WOut ⟨2, n, s.data.toList, ⟨a1, a2, a3, a4⟩, 0⟩ w) := by
  obtain ⟨c, hc⟩ : ∃ c, checkT s.data.toList = c := ⟨_, rfl⟩
  obtain ⟨Q, hQ⟩ : ∃ Q : ByteArray, (⟨(quoteT s.data.toList).toArray⟩ : ByteArray) = Q := ⟨_, rfl⟩
  have hq := hQ
  have HC := keep hc
  have HQ := keep hQ
  have HM := Lib.hid hm
  clear hc hQ hm
  by_cases h0 : c = 0
  · subst h0
    have hz := check_zero HC.out
    have hqs : Q.data.toList = quoteS s.data.toList := by rw [← hq]; unfold quoteT; rw [if_pos HC.out]
    have hql : (quoteS s.data.toList).length = Q.size := by rw [← hqs]; exact Array.length_toList
    clear hq
    by_cases h1 : Q.size ≤ 256
    · have HEq := keep (show eq8 2 n a1 a2 a3 a4 p 2 0 0 0 0 0 p s.toList s.toList = okT ⟨2, n, s.data.toList, ⟨a1, a2, a3, a4⟩, 0⟩ from by
        rw [okT_text, hz.2, decide_eq_true hz.1, decide_eq_true (p := (quoteS s.data.toList).length ≤ 256) (by omega)]
        unfold eq8 bareB
        simp)
      have HQS := keep hqs
      have e2 : decide ((Q.size : Int) ≤ 256) = true := decide_eq_true (by omega)
      clear hz hqs hql
      have H1 := Lib.hid (((Ok.start w).alloc w.heap.size 43 [.int .u8 2, .int .i64 n, .string s, .int .i64 a1, .int .i64 a2, .int .i64 a3, .int .i64 a4, .int .i64 p] rfl).alloc (w.heap.size + 1) 43 [.int .u8 2, .int .i64 0, .string s, .int .i64 0, .int .i64 0, .int .i64 0, .int .i64 0, .int .i64 p] (by simp))
      go_enter Tryz.func43, Tryz.ntmps43
      go_wp2_with fail
      generalize ((w.alloc (.cells #[.int .u8 2, .int .i64 n, .string s, .int .i64 a1, .int .i64 a2, .int .i64 a3, .int .i64 a4, .int .i64 p] 43)).alloc (.cells #[.int .u8 2, .int .i64 0, .string s, .int .i64 0, .int .i64 0, .int .i64 0, .int .i64 0, .int .i64 p] 43)) = W2 at H1 ⊢
      refine (glyph_Quote s _ hs (HM.out.imp fun _ h => cell_step H1.out.bel h)).mono ?_
      rintro e w3 ⟨rfl, hb4⟩
      rw [HC.out, HQ.out]
      have H5 := Lib.hid (H1.out.below hb4)
      clear hb4 H1
      have F6 := H5.out.sees
      simp only [sees, kBlk, cellsAt, Nat.reduceAdd] at F6
      obtain ⟨⟨z0, c0_0, c0_1, c0_2, c0_3, c0_4, c0_5, c0_6, c0_7, -⟩, ⟨z1, c1_0, c1_1, c1_2, c1_3, c1_4, c1_5, c1_6, c1_7, -⟩, -⟩ := F6
      go_wp2_with fail
      clear z0 c0_0 c0_1 c0_2 c0_3 c0_4 c0_5 c0_6 c0_7 z1 c1_0 c1_1 c1_2 c1_3 c1_4 c1_5 c1_6 c1_7
      refine wp_region_held_drew (S := fun W => Ok w [kBlk (w.heap.size + 1) 43 [.int .u8 2, .int .i64 0, .string s, .int .i64 0, .int .i64 0, .int .i64 0, .int .i64 0, .int .i64 p], kBlk (w.heap.size) 43 [.int .u8 2, .int .i64 n, .string s, .int .i64 a1, .int .i64 a2, .int .i64 a3, .int .i64 a4, .int .i64 p]] W) (by kernel_rfl) H5.out.drew (fun hHeld => ?_)
      refine tk (i := 0) (v := ?a1) rfl ?b1 (by assumption) ?c1
      case b1 => (intro w F; simp only [sees, kBlk, cellsAt, Nat.reduceAdd] at F; go_simp; try with_reducible rfl)
      try simp only [Act.put, p1, p2, p3, p4, p6]
      refine tk (i := 1) (v := ?a2) rfl ?b2 (by assumption) ?c2
      case b2 => (intro w F; simp only [sees, kBlk, cellsAt, Nat.reduceAdd] at F; go_simp; try with_reducible rfl)
      try simp only [Act.put, p1, p2, p3, p4, p5, p6]
      refine tk (i := 2) (v := ?a3) rfl ?b3 (by assumption) ?c3
      case b3 => (intro w F; simp only [sees, kBlk, cellsAt, Nat.reduceAdd] at F; go_simp; try with_reducible rfl)
      try simp only [Act.put, p1, p2, p3, p4, p5, p6]
      refine tk (i := 3) (v := ?a4) rfl ?b4 (by assumption) ?c4
      case b4 => (intro w F; simp only [sees, kBlk, cellsAt, Nat.reduceAdd] at F; go_simp; try with_reducible rfl)
      try simp only [Act.put, p1, p2, p3, p4, p5, p6]
      refine tk (i := 4) (v := ?a5) rfl ?b5 (by assumption) ?c5
      case b5 => (intro w F; simp only [sees, kBlk, cellsAt, Nat.reduceAdd] at F; go_simp; try with_reducible rfl)
      try simp only [Act.put, p1, p2, p3, p4, p5, p6]
      refine tk (i := 5) (v := ?a6) rfl ?b6 (by assumption) ?c6
      case b6 => (intro w F; simp only [sees, kBlk, cellsAt, Nat.reduceAdd] at F; go_simp; try with_reducible rfl)
      try simp only [Act.put, p1, p2, p3, p4, p5, p6]
      refine tk (i := 6) (v := ?a7) rfl ?b7 (by assumption) ?c7
      case b7 => (intro w F; simp only [sees, kBlk, cellsAt, Nat.reduceAdd] at F; go_simp; try with_reducible rfl)
      try simp only [Act.put, p1, p2, p3, p4, p5, p6]
      refine tk (i := 7) (v := ?a8) rfl ?b8 (by assumption) ?c8
      case b8 => (intro w F; simp only [sees, kBlk, cellsAt, Nat.reduceAdd] at F; go_simp; try with_reducible rfl)
      try simp only [Act.put, p1, p2, p3, p4, p5, p6]
      refine tk (i := 8) (v := ?a9) rfl ?b9 (by assumption) ?c9
      case b9 => (intro w F; simp only [sees, kBlk, cellsAt, Nat.reduceAdd] at F; go_simp; try with_reducible rfl)
      try simp only [Act.put, p1, p2, p3, p4, p5, p6]
      refine wpAnyH_done (by kernel_rfl) ?_ _
      clear H5
      have H8 := Lib.hid hHeld
      clear hHeld
      go_wp2_with fail
      refine bodyPost_ret (v := .tuple #[.string Q, .bool (eq8 2 n a1 a2 a3 a4 p 2 0 0 0 0 0 p s.toList s.toList)]) (by simp [results, Tryz.results43, go_sem]) rfl ⟨Q, ?_, ?_, H8.out.bel⟩
      · rw [HEq.out]
      · intro _; exact HQS.out
    · have HNo := keep (show okT ⟨2, n, s.data.toList, ⟨a1, a2, a3, a4⟩, 0⟩ = false from by
        rw [okT_text, decide_eq_false (p := (quoteS s.data.toList).length ≤ 256) (by omega), Bool.and_false, Bool.false_and])
      have e2 : decide ((Q.size : Int) ≤ 256) = false := decide_eq_false (by omega)
      clear hz hqs hql
      have H1 := Lib.hid (((Ok.start w).alloc w.heap.size 43 [.int .u8 2, .int .i64 n, .string s, .int .i64 a1, .int .i64 a2, .int .i64 a3, .int .i64 a4, .int .i64 p] rfl).alloc (w.heap.size + 1) 43 [.int .u8 2, .int .i64 0, .string s, .int .i64 0, .int .i64 0, .int .i64 0, .int .i64 0, .int .i64 p] (by simp))
      go_enter Tryz.func43, Tryz.ntmps43
      go_wp2_with fail
      generalize ((w.alloc (.cells #[.int .u8 2, .int .i64 n, .string s, .int .i64 a1, .int .i64 a2, .int .i64 a3, .int .i64 a4, .int .i64 p] 43)).alloc (.cells #[.int .u8 2, .int .i64 0, .string s, .int .i64 0, .int .i64 0, .int .i64 0, .int .i64 0, .int .i64 p] 43)) = W2 at H1 ⊢
      refine (glyph_Quote s _ hs (HM.out.imp fun _ h => cell_step H1.out.bel h)).mono ?_
      rintro e w3 ⟨rfl, hb4⟩
      rw [HC.out, HQ.out]
      have H5 := Lib.hid (H1.out.below hb4)
      clear hb4 H1
      have F6 := H5.out.sees
      simp only [sees, kBlk, cellsAt, Nat.reduceAdd] at F6
      obtain ⟨⟨z0, c0_0, c0_1, c0_2, c0_3, c0_4, c0_5, c0_6, c0_7, -⟩, ⟨z1, c1_0, c1_1, c1_2, c1_3, c1_4, c1_5, c1_6, c1_7, -⟩, -⟩ := F6
      go_wp2_with fail
      clear z0 c0_0 c0_1 c0_2 c0_3 c0_4 c0_5 c0_6 c0_7 z1 c1_0 c1_1 c1_2 c1_3 c1_4 c1_5 c1_6 c1_7
      refine wp_region_held_drew (S := fun W => Ok w [kBlk (w.heap.size + 1) 43 [.int .u8 2, .int .i64 0, .string s, .int .i64 0, .int .i64 0, .int .i64 0, .int .i64 0, .int .i64 p], kBlk (w.heap.size) 43 [.int .u8 2, .int .i64 n, .string s, .int .i64 a1, .int .i64 a2, .int .i64 a3, .int .i64 a4, .int .i64 p]] W) (by kernel_rfl) H5.out.drew (fun hHeld => ?_)
      refine tk (i := 0) (v := ?a10) rfl ?b10 (by assumption) ?c10
      case b10 => (intro w F; simp only [sees, kBlk, cellsAt, Nat.reduceAdd] at F; go_simp; try with_reducible rfl)
      try simp only [Act.put, p1, p2, p3, p4, p6]
      refine tk (i := 1) (v := ?a11) rfl ?b11 (by assumption) ?c11
      case b11 => (intro w F; simp only [sees, kBlk, cellsAt, Nat.reduceAdd] at F; go_simp; try with_reducible rfl)
      try simp only [Act.put, p1, p2, p3, p4, p5, p6]
      refine tk (i := 2) (v := ?a12) rfl ?b12 (by assumption) ?c12
      case b12 => (intro w F; simp only [sees, kBlk, cellsAt, Nat.reduceAdd] at F; go_simp; try with_reducible rfl)
      try simp only [Act.put, p1, p2, p3, p4, p5, p6]
      refine sk (i := 3) rfl (by assumption) ?_
      try simp only [Act.put, p1, p2, p3, p4, p5, p6]
      refine sk (i := 4) rfl (by assumption) ?_
      try simp only [Act.put, p1, p2, p3, p4, p5, p6]
      refine sk (i := 5) rfl (by assumption) ?_
      try simp only [Act.put, p1, p2, p3, p4, p5, p6]
      refine tk (i := 6) (v := ?a13) rfl ?b13 (by assumption) ?c13
      case b13 => (intro w F; simp only [sees, kBlk, cellsAt, Nat.reduceAdd] at F; go_simp; try with_reducible rfl)
      try simp only [Act.put, p1, p2, p3, p4, p5, p6]
      refine tk (i := 7) (v := ?a14) rfl ?b14 (by assumption) ?c14
      case b14 => (intro w F; simp only [sees, kBlk, cellsAt, Nat.reduceAdd] at F; go_simp; try with_reducible rfl)
      try simp only [Act.put, p1, p2, p3, p4, p5, p6]
      refine tk (i := 8) (v := ?a15) rfl ?b15 (by assumption) ?c15
      case b15 => (intro w F; simp only [sees, kBlk, cellsAt, Nat.reduceAdd] at F; go_simp; try with_reducible rfl)
      try simp only [Act.put, p1, p2, p3, p4, p5, p6]
      refine wpAnyH_done (by kernel_rfl) ?_ _
      clear H5
      have H8 := Lib.hid hHeld
      clear hHeld
      go_wp2_with fail
      refine bodyPost_ret (v := .tuple #[.string Q, .bool (false)]) (by simp [results, Tryz.results43, go_sem]) rfl ⟨Q, ?_, ?_, H8.out.bel⟩
      · rw [HNo.out]
      · intro h; rw [HNo.out] at h; cases h
  · have HNo := keep (show okT ⟨2, n, s.data.toList, ⟨a1, a2, a3, a4⟩, 0⟩ = false from by
      rw [okT_text, check_not (by rw [HC.out]; exact h0), Bool.false_and, Bool.false_and])
    have e1 : (c == 0) = false := beq_eq_false_iff_ne.2 h0
    clear hq
    have H1 := Lib.hid (((Ok.start w).alloc w.heap.size 43 [.int .u8 2, .int .i64 n, .string s, .int .i64 a1, .int .i64 a2, .int .i64 a3, .int .i64 a4, .int .i64 p] rfl).alloc (w.heap.size + 1) 43 [.int .u8 2, .int .i64 0, .string s, .int .i64 0, .int .i64 0, .int .i64 0, .int .i64 0, .int .i64 p] (by simp))
    go_enter Tryz.func43, Tryz.ntmps43
    go_wp2_with fail
    generalize ((w.alloc (.cells #[.int .u8 2, .int .i64 n, .string s, .int .i64 a1, .int .i64 a2, .int .i64 a3, .int .i64 a4, .int .i64 p] 43)).alloc (.cells #[.int .u8 2, .int .i64 0, .string s, .int .i64 0, .int .i64 0, .int .i64 0, .int .i64 0, .int .i64 p] 43)) = W2 at H1 ⊢
    refine (glyph_Quote s _ hs (HM.out.imp fun _ h => cell_step H1.out.bel h)).mono ?_
    rintro e w3 ⟨rfl, hb4⟩
    rw [HC.out, HQ.out]
    have H5 := Lib.hid (H1.out.below hb4)
    clear hb4 H1
    have F6 := H5.out.sees
    simp only [sees, kBlk, cellsAt, Nat.reduceAdd] at F6
    obtain ⟨⟨z0, c0_0, c0_1, c0_2, c0_3, c0_4, c0_5, c0_6, c0_7, -⟩, ⟨z1, c1_0, c1_1, c1_2, c1_3, c1_4, c1_5, c1_6, c1_7, -⟩, -⟩ := F6
    go_wp2_with fail
    clear z0 c0_0 c0_1 c0_2 c0_3 c0_4 c0_5 c0_6 c0_7 z1 c1_0 c1_1 c1_2 c1_3 c1_4 c1_5 c1_6 c1_7
    refine wp_region_held_drew (S := fun W => Ok w [kBlk (w.heap.size + 1) 43 [.int .u8 2, .int .i64 0, .string s, .int .i64 0, .int .i64 0, .int .i64 0, .int .i64 0, .int .i64 p], kBlk (w.heap.size) 43 [.int .u8 2, .int .i64 n, .string s, .int .i64 a1, .int .i64 a2, .int .i64 a3, .int .i64 a4, .int .i64 p]] W) (by kernel_rfl) H5.out.drew (fun hHeld => ?_)
    refine tk (i := 0) (v := ?a16) rfl ?b16 (by assumption) ?c16
    case b16 => (intro w F; simp only [sees, kBlk, cellsAt, Nat.reduceAdd] at F; go_simp; try with_reducible rfl)
    try simp only [Act.put, p1, p2, p3, p4, p6]
    refine tk (i := 1) (v := ?a17) rfl ?b17 (by assumption) ?c17
    case b17 => (intro w F; simp only [sees, kBlk, cellsAt, Nat.reduceAdd] at F; go_simp; try with_reducible rfl)
    try simp only [Act.put, p1, p2, p3, p4, p5, p6]
    refine tk (i := 2) (v := ?a18) rfl ?b18 (by assumption) ?c18
    case b18 => (intro w F; simp only [sees, kBlk, cellsAt, Nat.reduceAdd] at F; go_simp; try with_reducible rfl)
    try simp only [Act.put, p1, p2, p3, p4, p5, p6]
    refine sk (i := 3) rfl (by assumption) ?_
    try simp only [Act.put, p1, p2, p3, p4, p5, p6]
    refine sk (i := 4) rfl (by assumption) ?_
    try simp only [Act.put, p1, p2, p3, p4, p5, p6]
    refine sk (i := 5) rfl (by assumption) ?_
    try simp only [Act.put, p1, p2, p3, p4, p5, p6]
    refine tk (i := 6) (v := ?a19) rfl ?b19 (by assumption) ?c19
    case b19 => (intro w F; simp only [sees, kBlk, cellsAt, Nat.reduceAdd] at F; go_simp; try with_reducible rfl)
    try simp only [Act.put, p1, p2, p3, p4, p5, p6]
    refine tk (i := 7) (v := ?a20) rfl ?b20 (by assumption) ?c20
    case b20 => (intro w F; simp only [sees, kBlk, cellsAt, Nat.reduceAdd] at F; go_simp; try with_reducible rfl)
    try simp only [Act.put, p1, p2, p3, p4, p5, p6]
    refine tk (i := 8) (v := ?a21) rfl ?b21 (by assumption) ?c21
    case b21 => (intro w F; simp only [sees, kBlk, cellsAt, Nat.reduceAdd] at F; go_simp; try with_reducible rfl)
    try simp only [Act.put, p1, p2, p3, p4, p5, p6]
    refine wpAnyH_done (by kernel_rfl) ?_ _
    clear H5
    have H8 := Lib.hid hHeld
    clear hHeld
    go_wp2_with fail
    refine bodyPost_ret (v := .tuple #[.string Q, .bool (false)]) (by simp [results, Tryz.results43, go_sem]) rfl ⟨Q, ?_, ?_, H8.out.bel⟩
    · rw [HNo.out]
    · intro h; rw [HNo.out] at h; cases h
theorem ops_look (n : Int) : (1 ≤ n ∧ n ≤ 13 → ∃ i : Nat, i < 13 ∧ Lib.idxOf (opsN.take 13) n = i ∧ opsT[i]? = some (opText n)) ∧ (¬ (1 ≤ n ∧ n ≤ 13) → Lib.idxOf (opsN.take 13) n = -1) := by
  constructor
  · rintro ⟨h1, h2⟩
    rcases (show n = 1 ∨ n = 2 ∨ n = 3 ∨ n = 4 ∨ n = 5 ∨ n = 6 ∨ n = 7 ∨ n = 8 ∨ n = 9 ∨ n = 10 ∨ n = 11 ∨ n = 12 ∨ n = 13 by omega) with rfl | rfl | rfl | rfl | rfl | rfl | rfl | rfl | rfl | rfl | rfl | rfl | rfl
    · exact ⟨3, by decide, by decide, rfl⟩
    · exact ⟨4, by decide, by decide, rfl⟩
    · exact ⟨5, by decide, by decide, rfl⟩
    · exact ⟨6, by decide, by decide, rfl⟩
    · exact ⟨7, by decide, by decide, rfl⟩
    · exact ⟨8, by decide, by decide, rfl⟩
    · exact ⟨9, by decide, by decide, rfl⟩
    · exact ⟨0, by decide, by decide, rfl⟩
    · exact ⟨10, by decide, by decide, rfl⟩
    · exact ⟨1, by decide, by decide, rfl⟩
    · exact ⟨11, by decide, by decide, rfl⟩
    · exact ⟨2, by decide, by decide, rfl⟩
    · exact ⟨12, by decide, by decide, rfl⟩
  · intro h
    refine Lib.idxOf_miss _ _ _ fun j hj => ?_
    intro e
    have key : ∀ j < 13, 1 ≤ opsN.getD j 0 ∧ opsN.getD j 0 ≤ 13 := by decide
    have := key j hj
    omega
set_option maxRecDepth 100000 in
set_option maxHeartbeats 4000000 in
theorem write_8 (n a1 a2 a3 a4 p : Int) (s : ByteArray) (w : World) :
    Calls Tryz.prog 43 #[.agg #[.int .u8 8, .int .i64 n, .string s, .int .i64 a1, .int .i64 a2, .int .i64 a3, .int .i64 a4, .int .i64 p]] w (WOut ⟨8, n, s.data.toList, ⟨a1, a2, a3, a4⟩, 0⟩ w) := by
  by_cases h0 : 1 ≤ n ∧ n ≤ 13
  · have hb : eq8 8 n a1 a2 a3 a4 p 8 n 0 0 0 0 p s.toList [] = okT ⟨8, n, s.data.toList, ⟨a1, a2, a3, a4⟩, 0⟩ := by
      unfold eq8 okT bareB
      rw [show s.data.toList.isEmpty = decide (s.data.toList = []) from by cases s.data.toList <;> rfl]
      simp [ByteArray.toList_eq, h0]
    have HEq := keep hb
    clear hb
    obtain ⟨i, hi, hix, hit⟩ := (ops_look n).1 h0
    have HIT := keep hit
    clear hit
    have HIX := keep hix
    clear hix
    have H1 := Lib.hid (((Ok.start w).alloc w.heap.size 43 [.int .u8 8, .int .i64 n, .string s, .int .i64 a1, .int .i64 a2, .int .i64 a3, .int .i64 a4, .int .i64 p] rfl).alloc (w.heap.size + 1) 43 [.int .u8 8, .int .i64 n, .string ⟨#[]⟩, .int .i64 0, .int .i64 0, .int .i64 0, .int .i64 0, .int .i64 p] (by simp))
    go_enter Tryz.func43, Tryz.ntmps43
    go_wp2_with fail
    generalize ((w.alloc (.cells #[.int .u8 8, .int .i64 n, .string s, .int .i64 a1, .int .i64 a2, .int .i64 a3, .int .i64 a4, .int .i64 p] 43)).alloc (.cells #[.int .u8 8, .int .i64 n, .string ⟨#[]⟩, .int .i64 0, .int .i64 0, .int .i64 0, .int .i64 0, .int .i64 p] 43)) = W2 at H1 ⊢
    refine (lex_operators _).mono ?_
    rintro e w5 ⟨rfl, hw5⟩
    obtain ⟨q, hq⟩ : ∃ q, W2.heap.size = q := ⟨_, rfl⟩
    have HA := Lib.hid ((H1.out.alloc q 9 opsTV hq).alloc (q + 1) 2 opsNV (by simp [hq]))
    have hcn : ∀ j, j < opsN.length → w5.cell? ⟨q + 1, 0 + j, none⟩ = some (.int .i64 (opsN.getD j 0)) := by
      intro j hj
      have hbN := HA.out.get (kBlk (q + 1) 2 opsNV) (by simp)
      rw [← hw5] at hbN
      rw [Nat.zero_add, Blk.cell hbN j]
      have key : ∀ j < 13, opsNV.toArray[j]? = some (.int .i64 (opsN.getD j 0)) := by
        intro j hj
        rcases (show j = 0 ∨ j = 1 ∨ j = 2 ∨ j = 3 ∨ j = 4 ∨ j = 5 ∨ j = 6 ∨ j = 7 ∨ j = 8 ∨ j = 9 ∨ j = 10 ∨ j = 11 ∨ j = 12 by omega) with rfl | rfl | rfl | rfl | rfl | rfl | rfl | rfl | rfl | rfl | rfl | rfl | rfl <;> rfl
      exact key j hj
    have hct : w5.cell? ⟨q, i, none⟩ = some (.string ⟨(opText n).toArray⟩) := by
      have hbT := HA.out.get (kBlk q 9 opsTV) (by simp)
      rw [← hw5] at hbT
      rw [Blk.cell hbT i]
      unfold opsTV
      rw [List.getElem?_toArray, List.getElem?_map, HIT.out]
      rfl
    rw [← hw5] at HA
    rw [hq]
    have HCN := Lib.hid hcn
    have HCT := Lib.hid hct
    clear hw5 hq hcn hct H1
    have HD := Lib.hid (HA.out.drop [kBlk (w.heap.size + 1) 43 [.int .u8 8, .int .i64 n, .string ⟨#[]⟩, .int .i64 0, .int .i64 0, .int .i64 0, .int .i64 0, .int .i64 p], kBlk (w.heap.size) 43 [.int .u8 8, .int .i64 n, .string s, .int .i64 a1, .int .i64 a2, .int .i64 a3, .int .i64 a4, .int .i64 p]] (by simp))
    clear HA
    have F3 := HD.out.sees
    simp only [sees, kBlk, cellsAt, Nat.reduceAdd] at F3
    obtain ⟨⟨z0, c0_0, c0_1, c0_2, c0_3, c0_4, c0_5, c0_6, c0_7, -⟩, ⟨z1, c1_0, c1_1, c1_2, c1_3, c1_4, c1_5, c1_6, c1_7, -⟩, -⟩ := F3
    go_wp2_with fail
    clear z0 c0_0 c0_1 c0_2 c0_3 c0_4 c0_5 c0_6 c0_7 z1 c1_0 c1_1 c1_2 c1_3 c1_4 c1_5 c1_6 c1_7
    refine (Tryz.slices_Index_int (q + 1) 0 13 13 opsN n _ (by decide) (by decide) HCN.out).mono ?_
    rintro e w6 ⟨rfl, rfl⟩
    rw [HIX.out]
    have hct := HCT.out
    have e1 : decide ((0 : Int) ≤ (i : Int)) = true := decide_eq_true (by omega)
    have e3 : (i : Int) < 13 := by omega
    clear HCN HCT
    go_wp2_with fail
    clear hct e1 e3
    refine wp_region_held_drew (S := fun W => Ok w [kBlk (w.heap.size + 1) 43 [.int .u8 8, .int .i64 n, .string ⟨#[]⟩, .int .i64 0, .int .i64 0, .int .i64 0, .int .i64 0, .int .i64 p], kBlk (w.heap.size) 43 [.int .u8 8, .int .i64 n, .string s, .int .i64 a1, .int .i64 a2, .int .i64 a3, .int .i64 a4, .int .i64 p]] W) (by kernel_rfl) HD.out.drew (fun hHeld => ?_)
    refine tk (i := 0) (v := ?a22) rfl ?b22 (by assumption) ?c22
    case b22 => (intro w F; simp only [sees, kBlk, cellsAt, Nat.reduceAdd] at F; go_simp; try with_reducible rfl)
    try simp only [Act.put, p1, p2, p3, p4, p6]
    refine tk (i := 1) (v := ?a23) rfl ?b23 (by assumption) ?c23
    case b23 => (intro w F; simp only [sees, kBlk, cellsAt, Nat.reduceAdd] at F; go_simp; try with_reducible rfl)
    try simp only [Act.put, p1, p2, p3, p4, p5, p6]
    refine tk (i := 2) (v := ?a24) rfl ?b24 (by assumption) ?c24
    case b24 => (intro w F; simp only [sees, kBlk, cellsAt, Nat.reduceAdd] at F; go_simp; try with_reducible rfl)
    try simp only [Act.put, p1, p2, p3, p4, p5, p6]
    refine tk (i := 3) (v := ?a25) rfl ?b25 (by assumption) ?c25
    case b25 => (intro w F; simp only [sees, kBlk, cellsAt, Nat.reduceAdd] at F; go_simp; try with_reducible rfl)
    try simp only [Act.put, p1, p2, p3, p4, p5, p6]
    refine tk (i := 4) (v := ?a26) rfl ?b26 (by assumption) ?c26
    case b26 => (intro w F; simp only [sees, kBlk, cellsAt, Nat.reduceAdd] at F; go_simp; try with_reducible rfl)
    try simp only [Act.put, p1, p2, p3, p4, p5, p6]
    refine tk (i := 5) (v := ?a27) rfl ?b27 (by assumption) ?c27
    case b27 => (intro w F; simp only [sees, kBlk, cellsAt, Nat.reduceAdd] at F; go_simp; try with_reducible rfl)
    try simp only [Act.put, p1, p2, p3, p4, p5, p6]
    refine tk (i := 6) (v := ?a28) rfl ?b28 (by assumption) ?c28
    case b28 => (intro w F; simp only [sees, kBlk, cellsAt, Nat.reduceAdd] at F; go_simp; try with_reducible rfl)
    try simp only [Act.put, p1, p2, p3, p4, p5, p6]
    refine tk (i := 7) (v := ?a29) rfl ?b29 (by assumption) ?c29
    case b29 => (intro w F; simp only [sees, kBlk, cellsAt, Nat.reduceAdd] at F; go_simp; try with_reducible rfl)
    try simp only [Act.put, p1, p2, p3, p4, p5, p6]
    refine tk (i := 8) (v := ?a30) rfl ?b30 (by assumption) ?c30
    case b30 => (intro w F; simp only [sees, kBlk, cellsAt, Nat.reduceAdd] at F; go_simp; try with_reducible rfl)
    try simp only [Act.put, p1, p2, p3, p4, p5, p6]
    refine wpAnyH_done (by kernel_rfl) ?_ _
    clear HD
    have H5 := Lib.hid hHeld
    clear hHeld
    go_wp2_with fail
    refine bodyPost_ret (v := .tuple #[.string ⟨(opText n).toArray⟩, .bool (eq8 8 n a1 a2 a3 a4 p 8 n 0 0 0 0 p s.toList [])]) (by simp [results, Tryz.results43, go_sem]) rfl ⟨⟨(opText n).toArray⟩, ?_, ?_, H5.out.bel⟩
    · rw [HEq.out]
    · intro _; simp [textS]
  · have HNo := keep (show okT ⟨8, n, s.data.toList, ⟨a1, a2, a3, a4⟩, 0⟩ = false from by unfold okT; simp [h0])
    have hix := (ops_look n).2 h0
    have HIX := keep hix
    clear hix
    have H1 := Lib.hid (((Ok.start w).alloc w.heap.size 43 [.int .u8 8, .int .i64 n, .string s, .int .i64 a1, .int .i64 a2, .int .i64 a3, .int .i64 a4, .int .i64 p] rfl).alloc (w.heap.size + 1) 43 [.int .u8 8, .int .i64 n, .string ⟨#[]⟩, .int .i64 0, .int .i64 0, .int .i64 0, .int .i64 0, .int .i64 p] (by simp))
    go_enter Tryz.func43, Tryz.ntmps43
    go_wp2_with fail
    generalize ((w.alloc (.cells #[.int .u8 8, .int .i64 n, .string s, .int .i64 a1, .int .i64 a2, .int .i64 a3, .int .i64 a4, .int .i64 p] 43)).alloc (.cells #[.int .u8 8, .int .i64 n, .string ⟨#[]⟩, .int .i64 0, .int .i64 0, .int .i64 0, .int .i64 0, .int .i64 p] 43)) = W2 at H1 ⊢
    refine (lex_operators _).mono ?_
    rintro e w5 ⟨rfl, hw5⟩
    obtain ⟨q, hq⟩ : ∃ q, W2.heap.size = q := ⟨_, rfl⟩
    have HA := Lib.hid ((H1.out.alloc q 9 opsTV hq).alloc (q + 1) 2 opsNV (by simp [hq]))
    have hcn : ∀ j, j < opsN.length → w5.cell? ⟨q + 1, 0 + j, none⟩ = some (.int .i64 (opsN.getD j 0)) := by
      intro j hj
      have hbN := HA.out.get (kBlk (q + 1) 2 opsNV) (by simp)
      rw [← hw5] at hbN
      rw [Nat.zero_add, Blk.cell hbN j]
      have key : ∀ j < 13, opsNV.toArray[j]? = some (.int .i64 (opsN.getD j 0)) := by
        intro j hj
        rcases (show j = 0 ∨ j = 1 ∨ j = 2 ∨ j = 3 ∨ j = 4 ∨ j = 5 ∨ j = 6 ∨ j = 7 ∨ j = 8 ∨ j = 9 ∨ j = 10 ∨ j = 11 ∨ j = 12 by omega) with rfl | rfl | rfl | rfl | rfl | rfl | rfl | rfl | rfl | rfl | rfl | rfl | rfl <;> rfl
      exact key j hj
    rw [← hw5] at HA
    rw [hq]
    have HCN := Lib.hid hcn
    clear hw5 hq hcn H1
    have HD := Lib.hid (HA.out.drop [kBlk (w.heap.size + 1) 43 [.int .u8 8, .int .i64 n, .string ⟨#[]⟩, .int .i64 0, .int .i64 0, .int .i64 0, .int .i64 0, .int .i64 p], kBlk (w.heap.size) 43 [.int .u8 8, .int .i64 n, .string s, .int .i64 a1, .int .i64 a2, .int .i64 a3, .int .i64 a4, .int .i64 p]] (by simp))
    clear HA
    have F3 := HD.out.sees
    simp only [sees, kBlk, cellsAt, Nat.reduceAdd] at F3
    obtain ⟨⟨z0, c0_0, c0_1, c0_2, c0_3, c0_4, c0_5, c0_6, c0_7, -⟩, ⟨z1, c1_0, c1_1, c1_2, c1_3, c1_4, c1_5, c1_6, c1_7, -⟩, -⟩ := F3
    go_wp2_with fail
    clear z0 c0_0 c0_1 c0_2 c0_3 c0_4 c0_5 c0_6 c0_7 z1 c1_0 c1_1 c1_2 c1_3 c1_4 c1_5 c1_6 c1_7
    refine (Tryz.slices_Index_int (q + 1) 0 13 13 opsN n _ (by decide) (by decide) HCN.out).mono ?_
    rintro e w6 ⟨rfl, rfl⟩
    rw [HIX.out]
    clear HCN
    go_wp2_with fail
    refine wp_region_held_drew (S := fun W => Ok w [kBlk (w.heap.size + 1) 43 [.int .u8 8, .int .i64 n, .string ⟨#[]⟩, .int .i64 0, .int .i64 0, .int .i64 0, .int .i64 0, .int .i64 p], kBlk (w.heap.size) 43 [.int .u8 8, .int .i64 n, .string s, .int .i64 a1, .int .i64 a2, .int .i64 a3, .int .i64 a4, .int .i64 p]] W) (by kernel_rfl) HD.out.drew (fun hHeld => ?_)
    refine tk (i := 0) (v := ?a31) rfl ?b31 (by assumption) ?c31
    case b31 => (intro w F; simp only [sees, kBlk, cellsAt, Nat.reduceAdd] at F; go_simp; try with_reducible rfl)
    try simp only [Act.put, p1, p2, p3, p4, p6]
    refine tk (i := 1) (v := ?a32) rfl ?b32 (by assumption) ?c32
    case b32 => (intro w F; simp only [sees, kBlk, cellsAt, Nat.reduceAdd] at F; go_simp; try with_reducible rfl)
    try simp only [Act.put, p1, p2, p3, p4, p5, p6]
    refine tk (i := 2) (v := ?a33) rfl ?b33 (by assumption) ?c33
    case b33 => (intro w F; simp only [sees, kBlk, cellsAt, Nat.reduceAdd] at F; go_simp; try with_reducible rfl)
    try simp only [Act.put, p1, p2, p3, p4, p5, p6]
    refine sk (i := 3) rfl (by assumption) ?_
    try simp only [Act.put, p1, p2, p3, p4, p5, p6]
    refine sk (i := 4) rfl (by assumption) ?_
    try simp only [Act.put, p1, p2, p3, p4, p5, p6]
    refine sk (i := 5) rfl (by assumption) ?_
    try simp only [Act.put, p1, p2, p3, p4, p5, p6]
    refine tk (i := 6) (v := ?a34) rfl ?b34 (by assumption) ?c34
    case b34 => (intro w F; simp only [sees, kBlk, cellsAt, Nat.reduceAdd] at F; go_simp; try with_reducible rfl)
    try simp only [Act.put, p1, p2, p3, p4, p5, p6]
    refine tk (i := 7) (v := ?a35) rfl ?b35 (by assumption) ?c35
    case b35 => (intro w F; simp only [sees, kBlk, cellsAt, Nat.reduceAdd] at F; go_simp; try with_reducible rfl)
    try simp only [Act.put, p1, p2, p3, p4, p5, p6]
    refine tk (i := 8) (v := ?a36) rfl ?b36 (by assumption) ?c36
    case b36 => (intro w F; simp only [sees, kBlk, cellsAt, Nat.reduceAdd] at F; go_simp; try with_reducible rfl)
    try simp only [Act.put, p1, p2, p3, p4, p5, p6]
    refine wpAnyH_done (by kernel_rfl) ?_ _
    clear HD
    have H5 := Lib.hid hHeld
    clear hHeld
    go_wp2_with fail
    refine bodyPost_ret (v := .tuple #[.string ⟨#[]⟩, .bool (false)]) (by simp [results, Tryz.results43, go_sem]) rfl ⟨⟨#[]⟩, ?_, ?_, H5.out.bel⟩
    · rw [HNo.out]
    · intro h; rw [HNo.out] at h; cases h
set_option maxRecDepth 100000 in
set_option maxHeartbeats 4000000 in
theorem write_none (k : Nat) (hk : k = 0 ∨ 12 ≤ k) (n a1 a2 a3 a4 p : Int) (s : ByteArray) (w : World) :
    Calls Tryz.prog 43 #[.agg #[.int .u8 (k : Nat), .int .i64 n, .string s, .int .i64 a1, .int .i64 a2, .int .i64 a3, .int .i64 a4, .int .i64 p]] w (WOut ⟨k, n, s.data.toList, ⟨a1, a2, a3, a4⟩, 0⟩ w) := by
  have HNo := keep (show okT ⟨k, n, s.data.toList, ⟨a1, a2, a3, a4⟩, 0⟩ = false from by
    unfold okT
    simp only
    rw [if_neg (by omega), if_neg (by omega), if_neg (by omega), if_neg (by omega), if_neg (by omega), if_neg (by omega), if_neg (by omega), if_neg (by omega), decide_eq_false (p := 9 ≤ k ∧ k ≤ 11) (by omega), Bool.false_and])
  have k1 : ((k : Int) == 1) = false := beq_eq_false_iff_ne.2 (by omega)
  have k2 : ((k : Int) == 2) = false := beq_eq_false_iff_ne.2 (by omega)
  have k3 : ((k : Int) == 3) = false := beq_eq_false_iff_ne.2 (by omega)
  have k4 : ((k : Int) == 4) = false := beq_eq_false_iff_ne.2 (by omega)
  have k5 : ((k : Int) == 5) = false := beq_eq_false_iff_ne.2 (by omega)
  have k6 : ((k : Int) == 6) = false := beq_eq_false_iff_ne.2 (by omega)
  have k7 : ((k : Int) == 7) = false := beq_eq_false_iff_ne.2 (by omega)
  have k8 : ((k : Int) == 8) = false := beq_eq_false_iff_ne.2 (by omega)
  have k9 : ((k : Int) == 9) = false := beq_eq_false_iff_ne.2 (by omega)
  have k10 : ((k : Int) == 10) = false := beq_eq_false_iff_ne.2 (by omega)
  have k11 : ((k : Int) == 11) = false := beq_eq_false_iff_ne.2 (by omega)
  clear hk
  have H1 := Lib.hid (((Ok.start w).alloc w.heap.size 43 [.int .u8 (k : Nat), .int .i64 n, .string s, .int .i64 a1, .int .i64 a2, .int .i64 a3, .int .i64 a4, .int .i64 p] rfl).alloc (w.heap.size + 1) 43 [.int .u8 (k : Nat), .int .i64 0, .string ⟨#[]⟩, .int .i64 0, .int .i64 0, .int .i64 0, .int .i64 0, .int .i64 p] (by simp))
  go_enter Tryz.func43, Tryz.ntmps43
  go_wp2_with fail
  generalize ((w.alloc (.cells #[.int .u8 (k : Nat), .int .i64 n, .string s, .int .i64 a1, .int .i64 a2, .int .i64 a3, .int .i64 a4, .int .i64 p] 43)).alloc (.cells #[.int .u8 (k : Nat), .int .i64 0, .string ⟨#[]⟩, .int .i64 0, .int .i64 0, .int .i64 0, .int .i64 0, .int .i64 p] 43)) = W2 at H1 ⊢
  clear k1 k2 k3 k4 k5 k6 k7 k8 k9 k10 k11
  refine wp_region_held_drew (S := fun W => Ok w [kBlk (w.heap.size + 1) 43 [.int .u8 (k : Nat), .int .i64 0, .string ⟨#[]⟩, .int .i64 0, .int .i64 0, .int .i64 0, .int .i64 0, .int .i64 p], kBlk (w.heap.size) 43 [.int .u8 (k : Nat), .int .i64 n, .string s, .int .i64 a1, .int .i64 a2, .int .i64 a3, .int .i64 a4, .int .i64 p]] W) (by kernel_rfl) H1.out.drew (fun hHeld => ?_)
  refine tk (i := 0) (v := ?a37) rfl ?b37 (by assumption) ?c37
  case b37 => (intro w F; simp only [sees, kBlk, cellsAt, Nat.reduceAdd] at F; go_simp; try with_reducible rfl)
  try simp only [Act.put, p1, p2, p3, p4, p6]
  refine tk (i := 1) (v := ?a38) rfl ?b38 (by assumption) ?c38
  case b38 => (intro w F; simp only [sees, kBlk, cellsAt, Nat.reduceAdd] at F; go_simp; try with_reducible rfl)
  try simp only [Act.put, p1, p2, p3, p4, p5, p6]
  refine tk (i := 2) (v := ?a39) rfl ?b39 (by assumption) ?c39
  case b39 => (intro w F; simp only [sees, kBlk, cellsAt, Nat.reduceAdd] at F; go_simp; try with_reducible rfl)
  try simp only [Act.put, p1, p2, p3, p4, p5, p6]
  refine sk (i := 3) rfl (by assumption) ?_
  try simp only [Act.put, p1, p2, p3, p4, p5, p6]
  refine sk (i := 4) rfl (by assumption) ?_
  try simp only [Act.put, p1, p2, p3, p4, p5, p6]
  refine sk (i := 5) rfl (by assumption) ?_
  try simp only [Act.put, p1, p2, p3, p4, p5, p6]
  refine tk (i := 6) (v := ?a40) rfl ?b40 (by assumption) ?c40
  case b40 => (intro w F; simp only [sees, kBlk, cellsAt, Nat.reduceAdd] at F; go_simp; try with_reducible rfl)
  try simp only [Act.put, p1, p2, p3, p4, p5, p6]
  refine tk (i := 7) (v := ?a41) rfl ?b41 (by assumption) ?c41
  case b41 => (intro w F; simp only [sees, kBlk, cellsAt, Nat.reduceAdd] at F; go_simp; try with_reducible rfl)
  try simp only [Act.put, p1, p2, p3, p4, p5, p6]
  refine tk (i := 8) (v := ?a42) rfl ?b42 (by assumption) ?c42
  case b42 => (intro w F; simp only [sees, kBlk, cellsAt, Nat.reduceAdd] at F; go_simp; try with_reducible rfl)
  try simp only [Act.put, p1, p2, p3, p4, p5, p6]
  refine wpAnyH_done (by kernel_rfl) ?_ _
  clear H1
  have H4 := Lib.hid hHeld
  clear hHeld
  go_wp2_with fail
  refine bodyPost_ret (v := .tuple #[.string ⟨#[]⟩, .bool (false)]) (by simp [results, Tryz.results43, go_sem]) rfl ⟨⟨#[]⟩, ?_, ?_, H4.out.bel⟩
  · rw [HNo.out]
  · intro h; rw [HNo.out] at h; cases h
end Go.Proofs.YtlngjiibbcgkmaaGreatDoor
