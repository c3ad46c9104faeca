/- The reference's written: texts, operators, ranges, and kinds that no token has. -/
import Derived.Test.YtlngjiibbcgkmaaGreatDoorWri1
import Derived.Test.YtlngjiibbcgkmaaGreatDoorTk
namespace Go.Proofs.YtlngjiibbcgkmaaGreatDoor
open Go.RowKit

attribute [local go_sem high] eq_tok
set_option maxRecDepth 100000 in
set_option maxHeartbeats 4000000 in
theorem written_2 (n a1 a2 a3 a4 p : Int) (s : ByteArray) (w : World) (hs : s.size ≤ 4611686018427387904) :
    Calls Tryz.prog 47 #[.agg #[.int .u8 2, .int .i64 n, .string s, .int .i64 a1, .int .i64 a2, .int .i64 a3, .int .i64 a4, .int .i64 p]] w (WOut ⟨2, n, s.data.toList, ⟨a1, a2, a3, a4⟩, 0⟩ w) := by
  obtain ⟨c, hc⟩ : ∃ c, checkT s.data.toList = c := ⟨_, rfl⟩
  obtain ⟨Q, hQ⟩ : ∃ Q : ByteArray, (⟨(quoteT s.data.toList).toArray⟩ : ByteArray) = Q := ⟨_, rfl⟩
  have hq := hQ
  have HC := keep hc
  have HQ := keep hQ
  clear hc hQ
  by_cases h0 : c = 0
  · subst h0
    have hz := check_zero HC.out
    have hqs : Q.data.toList = quoteS s.data.toList := by rw [← hq]; unfold quoteT; rw [if_pos HC.out]
    have hql : (quoteS s.data.toList).length = Q.size := by rw [← hqs]; exact Array.length_toList
    clear hq
    by_cases h1 : Q.size ≤ 256
    · have HEq := keep (show eq8 2 n a1 a2 a3 a4 p 2 0 0 0 0 0 p s.toList s.toList = okT ⟨2, n, s.data.toList, ⟨a1, a2, a3, a4⟩, 0⟩ from by
        rw [okT_text, hz.2, decide_eq_true hz.1, decide_eq_true (p := (quoteS s.data.toList).length ≤ 256) (by omega)]
        unfold eq8 bareB
        simp)
      have HQS := keep hqs
      have e2 : decide ((Q.size : Int) ≤ 256) = true := decide_eq_true (by omega)
      clear hz hqs hql
      have H1 := Lib.hid (((Ok.start w).alloc w.heap.size 43 [.int .u8 2, .int .i64 n, .string s, .int .i64 a1, .int .i64 a2, .int .i64 a3, .int .i64 a4, .int .i64 p] rfl).alloc (w.heap.size + 1) 43 [.int .u8 2, .int .i64 0, .string s, .int .i64 0, .int .i64 0, .int .i64 0, .int .i64 0, .int .i64 p] (by simp))
      go_enter Tryz.func47, Tryz.ntmps47
      go_wp2_with fail
      generalize ((w.alloc (.cells #[.int .u8 2, .int .i64 n, .string s, .int .i64 a1, .int .i64 a2, .int .i64 a3, .int .i64 a4, .int .i64 p] 43)).alloc (.cells #[.int .u8 2, .int .i64 0, .string s, .int .i64 0, .int .i64 0, .int .i64 0, .int .i64 0, .int .i64 p] 43)) = W2 at H1 ⊢
      refine (ref4_Quote s _ hs).mono ?_
      rintro e w3 ⟨rfl, hb4⟩
      rw [HC.out, HQ.out]
      have H5 := Lib.hid (H1.out.below hb4)
      clear hb4 H1
      have F6 := H5.out.sees
      simp only [sees, kBlk, cellsAt, Nat.reduceAdd] at F6
      obtain ⟨⟨z0, c0_0, c0_1, c0_2, c0_3, c0_4, c0_5, c0_6, c0_7, -⟩, ⟨z1, c1_0, c1_1, c1_2, c1_3, c1_4, c1_5, c1_6, c1_7, -⟩, -⟩ := F6
      go_wp2_with fail
      clear z0 c0_0 c0_1 c0_2 c0_3 c0_4 c0_5 c0_6 c0_7 z1 c1_0 c1_1 c1_2 c1_3 c1_4 c1_5 c1_6 c1_7
      refine wp_region_held_drew (S := fun W => Ok w [kBlk (w.heap.size + 1) 43 [.int .u8 2, .int .i64 0, .string s, .int .i64 0, .int .i64 0, .int .i64 0, .int .i64 0, .int .i64 p], kBlk (w.heap.size) 43 [.int .u8 2, .int .i64 n, .string s, .int .i64 a1, .int .i64 a2, .int .i64 a3, .int .i64 a4, .int .i64 p]] W) (by kernel_rfl) H5.out.drew (fun hHeld => ?_)
      refine tk (i := 0) (v := ?a1) rfl ?b1 (by assumption) ?c1
      case b1 => (intro w F; simp only [sees, kBlk, cellsAt, Nat.reduceAdd] at F; go_simp; try with_reducible rfl)
      try simp only [Act.put, p1, p2, p3, p4, p6]
      refine tk (i := 1) (v := ?a2) rfl ?b2 (by assumption) ?c2
      case b2 => (intro w F; simp only [sees, kBlk, cellsAt, Nat.reduceAdd] at F; go_simp; try with_reducible rfl)
      try simp only [Act.put, p1, p2, p3, p4, p5, p6]
      refine tk (i := 2) (v := ?a3) rfl ?b3 (by assumption) ?c3
      case b3 => (intro w F; simp only [sees, kBlk, cellsAt, Nat.reduceAdd] at F; go_simp; try with_reducible rfl)
      try simp only [Act.put, p1, p2, p3, p4, p5, p6]
      refine tk (i := 3) (v := ?a4) rfl ?b4 (by assumption) ?c4
      case b4 => (intro w F; simp only [sees, kBlk, cellsAt, Nat.reduceAdd] at F; go_simp; try with_reducible rfl)
      try simp only [Act.put, p1, p2, p3, p4, p5, p6]
      refine tk (i := 4) (v := ?a5) rfl ?b5 (by assumption) ?c5
      case b5 => (intro w F; simp only [sees, kBlk, cellsAt, Nat.reduceAdd] at F; go_simp; try with_reducible rfl)
      try simp only [Act.put, p1, p2, p3, p4, p5, p6]
      refine tk (i := 5) (v := ?a6) rfl ?b6 (by assumption) ?c6
      case b6 => (intro w F; simp only [sees, kBlk, cellsAt, Nat.reduceAdd] at F; go_simp; try with_reducible rfl)
      try simp only [Act.put, p1, p2, p3, p4, p5, p6]
      refine tk (i := 6) (v := ?a7) rfl ?b7 (by assumption) ?c7
      case b7 => (intro w F; simp only [sees, kBlk, cellsAt, Nat.reduceAdd] at F; go_simp; try with_reducible rfl)
      try simp only [Act.put, p1, p2, p3, p4, p5, p6]
      refine tk (i := 7) (v := ?a8) rfl ?b8 (by assumption) ?c8
      case b8 => (intro w F; simp only [sees, kBlk, cellsAt, Nat.reduceAdd] at F; go_simp; try with_reducible rfl)
      try simp only [Act.put, p1, p2, p3, p4, p5, p6]
      refine tk (i := 8) (v := ?a9) rfl ?b9 (by assumption) ?c9
      case b9 => (intro w F; simp only [sees, kBlk, cellsAt, Nat.reduceAdd] at F; go_simp; try with_reducible rfl)
      try simp only [Act.put, p1, p2, p3, p4, p5, p6]
      refine wpAnyH_done (by kernel_rfl) ?_ _
      clear H5
      have H8 := Lib.hid hHeld
      clear hHeld
      go_wp2_with fail
      refine bodyPost_ret (v := .tuple #[.string Q, .bool (eq8 2 0 0 0 0 0 p 2 n a1 a2 a3 a4 p s.toList s.toList)]) (by simp [results, Tryz.results47, go_sem]) rfl ⟨Q, ?_, ?_, H8.out.bel⟩
      · rw [eq8_comm, HEq.out]
      · intro _; exact HQS.out
    · have HNo := keep (show okT ⟨2, n, s.data.toList, ⟨a1, a2, a3, a4⟩, 0⟩ = false from by
        rw [okT_text, decide_eq_false (p := (quoteS s.data.toList).length ≤ 256) (by omega), Bool.and_false, Bool.false_and])
      have e2 : decide ((Q.size : Int) ≤ 256) = false := decide_eq_false (by omega)
      clear hz hqs hql
      have H1 := Lib.hid (((Ok.start w).alloc w.heap.size 43 [.int .u8 2, .int .i64 n, .string s, .int .i64 a1, .int .i64 a2, .int .i64 a3, .int .i64 a4, .int .i64 p] rfl).alloc (w.heap.size + 1) 43 [.int .u8 2, .int .i64 0, .string s, .int .i64 0, .int .i64 0, .int .i64 0, .int .i64 0, .int .i64 p] (by simp))
      go_enter Tryz.func47, Tryz.ntmps47
      go_wp2_with fail
      generalize ((w.alloc (.cells #[.int .u8 2, .int .i64 n, .string s, .int .i64 a1, .int .i64 a2, .int .i64 a3, .int .i64 a4, .int .i64 p] 43)).alloc (.cells #[.int .u8 2, .int .i64 0, .string s, .int .i64 0, .int .i64 0, .int .i64 0, .int .i64 0, .int .i64 p] 43)) = W2 at H1 ⊢
      refine (ref4_Quote s _ hs).mono ?_
      rintro e w3 ⟨rfl, hb4⟩
      rw [HC.out, HQ.out]
      have H5 := Lib.hid (H1.out.below hb4)
      clear hb4 H1
      have F6 := H5.out.sees
      simp only [sees, kBlk, cellsAt, Nat.reduceAdd] at F6
      obtain ⟨⟨z0, c0_0, c0_1, c0_2, c0_3, c0_4, c0_5, c0_6, c0_7, -⟩, ⟨z1, c1_0, c1_1, c1_2, c1_3, c1_4, c1_5, c1_6, c1_7, -⟩, -⟩ := F6
      go_wp2_with fail
      clear z0 c0_0 c0_1 c0_2 c0_3 c0_4 c0_5 c0_6 c0_7 z1 c1_0 c1_1 c1_2 c1_3 c1_4 c1_5 c1_6 c1_7
      refine wp_region_held_drew (S := fun W => Ok w [kBlk (w.heap.size + 1) 43 [.int .u8 2, .int .i64 0, .string s, .int .i64 0, .int .i64 0, .int .i64 0, .int .i64 0, .int .i64 p], kBlk (w.heap.size) 43 [.int .u8 2, .int .i64 n, .string s, .int .i64 a1, .int .i64 a2, .int .i64 a3, .int .i64 a4, .int .i64 p]] W) (by kernel_rfl) H5.out.drew (fun hHeld => ?_)
      refine tk (i := 0) (v := ?a10) rfl ?b10 (by assumption) ?c10
      case b10 => (intro w F; simp only [sees, kBlk, cellsAt, Nat.reduceAdd] at F; go_simp; try with_reducible rfl)
      try simp only [Act.put, p1, p2, p3, p4, p6]
      refine tk (i := 1) (v := ?a11) rfl ?b11 (by assumption) ?c11
      case b11 => (intro w F; simp only [sees, kBlk, cellsAt, Nat.reduceAdd] at F; go_simp; try with_reducible rfl)
      try simp only [Act.put, p1, p2, p3, p4, p5, p6]
      refine tk (i := 2) (v := ?a12) rfl ?b12 (by assumption) ?c12
      case b12 => (intro w F; simp only [sees, kBlk, cellsAt, Nat.reduceAdd] at F; go_simp; try with_reducible rfl)
      try simp only [Act.put, p1, p2, p3, p4, p5, p6]
      refine sk (i := 3) rfl (by assumption) ?_
      try simp only [Act.put, p1, p2, p3, p4, p5, p6]
      refine sk (i := 4) rfl (by assumption) ?_
      try simp only [Act.put, p1, p2, p3, p4, p5, p6]
      refine sk (i := 5) rfl (by assumption) ?_
      try simp only [Act.put, p1, p2, p3, p4, p5, p6]
      refine tk (i := 6) (v := ?a13) rfl ?b13 (by assumption) ?c13
      case b13 => (intro w F; simp only [sees, kBlk, cellsAt, Nat.reduceAdd] at F; go_simp; try with_reducible rfl)
      try simp only [Act.put, p1, p2, p3, p4, p5, p6]
      refine tk (i := 7) (v := ?a14) rfl ?b14 (by assumption) ?c14
      case b14 => (intro w F; simp only [sees, kBlk, cellsAt, Nat.reduceAdd] at F; go_simp; try with_reducible rfl)
      try simp only [Act.put, p1, p2, p3, p4, p5, p6]
      refine tk (i := 8) (v := ?a15) rfl ?b15 (by assumption) ?c15
      case b15 => (intro w F; simp only [sees, kBlk, cellsAt, Nat.reduceAdd] at F; go_simp; try with_reducible rfl)
      try simp only [Act.put, p1, p2, p3, p4, p5, p6]
      refine wpAnyH_done (by kernel_rfl) ?_ _
      clear H5
      have H8 := Lib.hid hHeld
      clear hHeld
      go_wp2_with fail
      refine bodyPost_ret (v := .tuple #[.string Q, .bool (false)]) (by simp [results, Tryz.results47, go_sem]) rfl ⟨Q, ?_, ?_, H8.out.bel⟩
      · rw [HNo.out]
      · intro h; rw [HNo.out] at h; cases h
  · have HNo := keep (show okT ⟨2, n, s.data.toList, ⟨a1, a2, a3, a4⟩, 0⟩ = false from by
      rw [okT_text, check_not (by rw [HC.out]; exact h0), Bool.false_and, Bool.false_and])
    have e1 : (c == 0) = false := beq_eq_false_iff_ne.2 h0
    clear hq
    have H1 := Lib.hid (((Ok.start w).alloc w.heap.size 43 [.int .u8 2, .int .i64 n, .string s, .int .i64 a1, .int .i64 a2, .int .i64 a3, .int .i64 a4, .int .i64 p] rfl).alloc (w.heap.size + 1) 43 [.int .u8 2, .int .i64 0, .string s, .int .i64 0, .int .i64 0, .int .i64 0, .int .i64 0, .int .i64 p] (by simp))
    go_enter Tryz.func47, Tryz.ntmps47
    go_wp2_with fail
    generalize ((w.alloc (.cells #[.int .u8 2, .int .i64 n, .string s, .int .i64 a1, .int .i64 a2, .int .i64 a3, .int .i64 a4, .int .i64 p] 43)).alloc (.cells #[.int .u8 2, .int .i64 0, .string s, .int .i64 0, .int .i64 0, .int .i64 0, .int .i64 0, .int .i64 p] 43)) = W2 at H1 ⊢
    refine (ref4_Quote s _ hs).mono ?_
    rintro e w3 ⟨rfl, hb4⟩
    rw [HC.out, HQ.out]
    have H5 := Lib.hid (H1.out.below hb4)
    clear hb4 H1
    have F6 := H5.out.sees
    simp only [sees, kBlk, cellsAt, Nat.reduceAdd] at F6
    obtain ⟨⟨z0, c0_0, c0_1, c0_2, c0_3, c0_4, c0_5, c0_6, c0_7, -⟩, ⟨z1, c1_0, c1_1, c1_2, c1_3, c1_4, c1_5, c1_6, c1_7, -⟩, -⟩ := F6
    go_wp2_with fail
    clear z0 c0_0 c0_1 c0_2 c0_3 c0_4 c0_5 c0_6 c0_7 z1 c1_0 c1_1 c1_2 c1_3 c1_4 c1_5 c1_6 c1_7
    refine wp_region_held_drew (S := fun W => Ok w [kBlk (w.heap.size + 1) 43 [.int .u8 2, .int .i64 0, .string s, .int .i64 0, .int .i64 0, .int .i64 0, .int .i64 0, .int .i64 p], kBlk (w.heap.size) 43 [.int .u8 2, .int .i64 n, .string s, .int .i64 a1, .int .i64 a2, .int .i64 a3, .int .i64 a4, .int .i64 p]] W) (by kernel_rfl) H5.out.drew (fun hHeld => ?_)
    refine tk (i := 0) (v := ?a16) rfl ?b16 (by assumption) ?c16
    case b16 => (intro w F; simp only [sees, kBlk, cellsAt, Nat.reduceAdd] at F; go_simp; try with_reducible rfl)
    try simp only [Act.put, p1, p2, p3, p4, p6]
    refine tk (i := 1) (v := ?a17) rfl ?b17 (by assumption) ?c17
    case b17 => (intro w F; simp only [sees, kBlk, cellsAt, Nat.reduceAdd] at F; go_simp; try with_reducible rfl)
    try simp only [Act.put, p1, p2, p3, p4, p5, p6]
    refine tk (i := 2) (v := ?a18) rfl ?b18 (by assumption) ?c18
    case b18 => (intro w F; simp only [sees, kBlk, cellsAt, Nat.reduceAdd] at F; go_simp; try with_reducible rfl)
    try simp only [Act.put, p1, p2, p3, p4, p5, p6]
    refine sk (i := 3) rfl (by assumption) ?_
    try simp only [Act.put, p1, p2, p3, p4, p5, p6]
    refine sk (i := 4) rfl (by assumption) ?_
    try simp only [Act.put, p1, p2, p3, p4, p5, p6]
    refine sk (i := 5) rfl (by assumption) ?_
    try simp only [Act.put, p1, p2, p3, p4, p5, p6]
    refine tk (i := 6) (v := ?a19) rfl ?b19 (by assumption) ?c19
    case b19 => (intro w F; simp only [sees, kBlk, cellsAt, Nat.reduceAdd] at F; go_simp; try with_reducible rfl)
    try simp only [Act.put, p1, p2, p3, p4, p5, p6]
    refine tk (i := 7) (v := ?a20) rfl ?b20 (by assumption) ?c20
    case b20 => (intro w F; simp only [sees, kBlk, cellsAt, Nat.reduceAdd] at F; go_simp; try with_reducible rfl)
    try simp only [Act.put, p1, p2, p3, p4, p5, p6]
    refine tk (i := 8) (v := ?a21) rfl ?b21 (by assumption) ?c21
    case b21 => (intro w F; simp only [sees, kBlk, cellsAt, Nat.reduceAdd] at F; go_simp; try with_reducible rfl)
    try simp only [Act.put, p1, p2, p3, p4, p5, p6]
    refine wpAnyH_done (by kernel_rfl) ?_ _
    clear H5
    have H8 := Lib.hid hHeld
    clear hHeld
    go_wp2_with fail
    refine bodyPost_ret (v := .tuple #[.string Q, .bool (false)]) (by simp [results, Tryz.results47, go_sem]) rfl ⟨Q, ?_, ?_, H8.out.bel⟩
    · rw [HNo.out]
    · intro h; rw [HNo.out] at h; cases h
set_option maxRecDepth 100000 in
set_option maxHeartbeats 4000000 in
theorem written_8 (n a1 a2 a3 a4 p : Int) (s : ByteArray) (w : World) :
    Calls Tryz.prog 47 #[.agg #[.int .u8 8, .int .i64 n, .string s, .int .i64 a1, .int .i64 a2, .int .i64 a3, .int .i64 a4, .int .i64 p]] w (WOut ⟨8, n, s.data.toList, ⟨a1, a2, a3, a4⟩, 0⟩ w) := by
  by_cases h0 : 1 ≤ n ∧ n ≤ 13
  · have hb : eq8 8 n a1 a2 a3 a4 p 8 n 0 0 0 0 p s.toList [] = okT ⟨8, n, s.data.toList, ⟨a1, a2, a3, a4⟩, 0⟩ := by
      unfold eq8 okT bareB
      rw [show s.data.toList.isEmpty = decide (s.data.toList = []) from by cases s.data.toList <;> rfl]
      simp [ByteArray.toList_eq, h0]
    have HEq := keep hb
    clear hb
    have hlen : 1 ≤ (opText n).length := by rcases (show n = 1 ∨ n = 2 ∨ n = 3 ∨ n = 4 ∨ n = 5 ∨ n = 6 ∨ n = 7 ∨ n = 8 ∨ n = 9 ∨ n = 10 ∨ n = 11 ∨ n = 12 ∨ n = 13 by omega) with rfl | rfl | rfl | rfl | rfl | rfl | rfl | rfl | rfl | rfl | rfl | rfl | rfl <;> decide
    obtain ⟨Q, hQ⟩ : ∃ Q : ByteArray, Q = ⟨(opText n).toArray⟩ := ⟨_, rfl⟩
    have HQ := keep hQ
    have hqe : (Q.toList == []) = false := by rw [Lib.toList_data, hQ]; cases h9 : opText n with
      | nil => rw [h9] at hlen; simp at hlen
      | cons b l => rfl
    have hqe2 : Q.toList.isEmpty = false := by rw [Lib.toList_data, hQ]; cases h9 : opText n with
      | nil => rw [h9] at hlen; simp at hlen
      | cons b l => rfl
    have hqe3 : ¬ Q.toList = [] := by intro e; rw [e] at hqe2; cases hqe2
    clear hQ h0 hlen
    have H1 := Lib.hid (((Ok.start w).alloc w.heap.size 43 [.int .u8 8, .int .i64 n, .string s, .int .i64 a1, .int .i64 a2, .int .i64 a3, .int .i64 a4, .int .i64 p] rfl).alloc (w.heap.size + 1) 43 [.int .u8 8, .int .i64 n, .string ⟨#[]⟩, .int .i64 0, .int .i64 0, .int .i64 0, .int .i64 0, .int .i64 p] (by simp))
    go_enter Tryz.func47, Tryz.ntmps47
    go_wp2_with fail
    generalize ((w.alloc (.cells #[.int .u8 8, .int .i64 n, .string s, .int .i64 a1, .int .i64 a2, .int .i64 a3, .int .i64 a4, .int .i64 p] 43)).alloc (.cells #[.int .u8 8, .int .i64 n, .string ⟨#[]⟩, .int .i64 0, .int .i64 0, .int .i64 0, .int .i64 0, .int .i64 p] 43)) = W2 at H1 ⊢
    refine (ref7_Operator n _).mono ?_
    rintro e w5 ⟨rfl, hw5⟩
    obtain rfl : W2 = w5 := hw5.symm
    rw [← HQ.out]
    go_wp2_with fail
    clear hqe hqe2 hqe3
    refine wp_region_held_drew (S := fun W => Ok w [kBlk (w.heap.size + 1) 43 [.int .u8 8, .int .i64 n, .string ⟨#[]⟩, .int .i64 0, .int .i64 0, .int .i64 0, .int .i64 0, .int .i64 p], kBlk (w.heap.size) 43 [.int .u8 8, .int .i64 n, .string s, .int .i64 a1, .int .i64 a2, .int .i64 a3, .int .i64 a4, .int .i64 p]] W) (by kernel_rfl) H1.out.drew (fun hHeld => ?_)
    refine tk (i := 0) (v := ?a22) rfl ?b22 (by assumption) ?c22
    case b22 => (intro w F; simp only [sees, kBlk, cellsAt, Nat.reduceAdd] at F; go_simp; try with_reducible rfl)
    try simp only [Act.put, p1, p2, p3, p4, p6]
    refine tk (i := 1) (v := ?a23) rfl ?b23 (by assumption) ?c23
    case b23 => (intro w F; simp only [sees, kBlk, cellsAt, Nat.reduceAdd] at F; go_simp; try with_reducible rfl)
    try simp only [Act.put, p1, p2, p3, p4, p5, p6]
    refine tk (i := 2) (v := ?a24) rfl ?b24 (by assumption) ?c24
    case b24 => (intro w F; simp only [sees, kBlk, cellsAt, Nat.reduceAdd] at F; go_simp; try with_reducible rfl)
    try simp only [Act.put, p1, p2, p3, p4, p5, p6]
    refine tk (i := 3) (v := ?a25) rfl ?b25 (by assumption) ?c25
    case b25 => (intro w F; simp only [sees, kBlk, cellsAt, Nat.reduceAdd] at F; go_simp; try with_reducible rfl)
    try simp only [Act.put, p1, p2, p3, p4, p5, p6]
    refine tk (i := 4) (v := ?a26) rfl ?b26 (by assumption) ?c26
    case b26 => (intro w F; simp only [sees, kBlk, cellsAt, Nat.reduceAdd] at F; go_simp; try with_reducible rfl)
    try simp only [Act.put, p1, p2, p3, p4, p5, p6]
    refine tk (i := 5) (v := ?a27) rfl ?b27 (by assumption) ?c27
    case b27 => (intro w F; simp only [sees, kBlk, cellsAt, Nat.reduceAdd] at F; go_simp; try with_reducible rfl)
    try simp only [Act.put, p1, p2, p3, p4, p5, p6]
    refine tk (i := 6) (v := ?a28) rfl ?b28 (by assumption) ?c28
    case b28 => (intro w F; simp only [sees, kBlk, cellsAt, Nat.reduceAdd] at F; go_simp; try with_reducible rfl)
    try simp only [Act.put, p1, p2, p3, p4, p5, p6]
    refine tk (i := 7) (v := ?a29) rfl ?b29 (by assumption) ?c29
    case b29 => (intro w F; simp only [sees, kBlk, cellsAt, Nat.reduceAdd] at F; go_simp; try with_reducible rfl)
    try simp only [Act.put, p1, p2, p3, p4, p5, p6]
    refine tk (i := 8) (v := ?a30) rfl ?b30 (by assumption) ?c30
    case b30 => (intro w F; simp only [sees, kBlk, cellsAt, Nat.reduceAdd] at F; go_simp; try with_reducible rfl)
    try simp only [Act.put, p1, p2, p3, p4, p5, p6]
    refine wpAnyH_done (by kernel_rfl) ?_ _
    clear H1
    have H4 := Lib.hid hHeld
    clear hHeld
    go_wp2_with fail
    refine bodyPost_ret (v := .tuple #[.string Q, .bool (eq8 8 n 0 0 0 0 p 8 n a1 a2 a3 a4 p [] s.toList)]) (by simp [results, Tryz.results47, go_sem]) rfl ⟨Q, ?_, ?_, H4.out.bel⟩
    · rw [eq8_comm, HEq.out]
    · intro _; rw [HQ.out]; rfl
  · have HNo := keep (show okT ⟨8, n, s.data.toList, ⟨a1, a2, a3, a4⟩, 0⟩ = false from by unfold okT; simp [h0])
    have HE := keep (show opText n = [] by unfold opText; rw [if_neg (by omega), if_neg (by omega), if_neg (by omega), if_neg (by omega), if_neg (by omega), if_neg (by omega), if_neg (by omega), if_neg (by omega), if_neg (by omega), if_neg (by omega), if_neg (by omega), if_neg (by omega), if_neg (by omega)])
    obtain ⟨Q, hQ⟩ : ∃ Q : ByteArray, Q = ⟨(opText n).toArray⟩ := ⟨_, rfl⟩
    have HQ := keep hQ
    have hqe : (Q.toList == []) = true := by rw [Lib.toList_data, hQ, HE.out]; rfl
    have hqe2 : Q.toList.isEmpty = true := by rw [Lib.toList_data, hQ, HE.out]; rfl
    have hqe3 : Q.toList = [] := by rw [Lib.toList_data, hQ, HE.out]
    clear hQ h0
    have H1 := Lib.hid (((Ok.start w).alloc w.heap.size 43 [.int .u8 8, .int .i64 n, .string s, .int .i64 a1, .int .i64 a2, .int .i64 a3, .int .i64 a4, .int .i64 p] rfl).alloc (w.heap.size + 1) 43 [.int .u8 8, .int .i64 n, .string ⟨#[]⟩, .int .i64 0, .int .i64 0, .int .i64 0, .int .i64 0, .int .i64 p] (by simp))
    go_enter Tryz.func47, Tryz.ntmps47
    go_wp2_with fail
    generalize ((w.alloc (.cells #[.int .u8 8, .int .i64 n, .string s, .int .i64 a1, .int .i64 a2, .int .i64 a3, .int .i64 a4, .int .i64 p] 43)).alloc (.cells #[.int .u8 8, .int .i64 n, .string ⟨#[]⟩, .int .i64 0, .int .i64 0, .int .i64 0, .int .i64 0, .int .i64 p] 43)) = W2 at H1 ⊢
    refine (ref7_Operator n _).mono ?_
    rintro e w5 ⟨rfl, hw5⟩
    obtain rfl : W2 = w5 := hw5.symm
    rw [← HQ.out]
    go_wp2_with fail
    clear hqe hqe2 hqe3
    refine wp_region_held_drew (S := fun W => Ok w [kBlk (w.heap.size + 1) 43 [.int .u8 8, .int .i64 n, .string ⟨#[]⟩, .int .i64 0, .int .i64 0, .int .i64 0, .int .i64 0, .int .i64 p], kBlk (w.heap.size) 43 [.int .u8 8, .int .i64 n, .string s, .int .i64 a1, .int .i64 a2, .int .i64 a3, .int .i64 a4, .int .i64 p]] W) (by kernel_rfl) H1.out.drew (fun hHeld => ?_)
    refine tk (i := 0) (v := ?a31) rfl ?b31 (by assumption) ?c31
    case b31 => (intro w F; simp only [sees, kBlk, cellsAt, Nat.reduceAdd] at F; go_simp; try with_reducible rfl)
    try simp only [Act.put, p1, p2, p3, p4, p6]
    refine tk (i := 1) (v := ?a32) rfl ?b32 (by assumption) ?c32
    case b32 => (intro w F; simp only [sees, kBlk, cellsAt, Nat.reduceAdd] at F; go_simp; try with_reducible rfl)
    try simp only [Act.put, p1, p2, p3, p4, p5, p6]
    refine tk (i := 2) (v := ?a33) rfl ?b33 (by assumption) ?c33
    case b33 => (intro w F; simp only [sees, kBlk, cellsAt, Nat.reduceAdd] at F; go_simp; try with_reducible rfl)
    try simp only [Act.put, p1, p2, p3, p4, p5, p6]
    refine sk (i := 3) rfl (by assumption) ?_
    try simp only [Act.put, p1, p2, p3, p4, p5, p6]
    refine sk (i := 4) rfl (by assumption) ?_
    try simp only [Act.put, p1, p2, p3, p4, p5, p6]
    refine sk (i := 5) rfl (by assumption) ?_
    try simp only [Act.put, p1, p2, p3, p4, p5, p6]
    refine tk (i := 6) (v := ?a34) rfl ?b34 (by assumption) ?c34
    case b34 => (intro w F; simp only [sees, kBlk, cellsAt, Nat.reduceAdd] at F; go_simp; try with_reducible rfl)
    try simp only [Act.put, p1, p2, p3, p4, p5, p6]
    refine tk (i := 7) (v := ?a35) rfl ?b35 (by assumption) ?c35
    case b35 => (intro w F; simp only [sees, kBlk, cellsAt, Nat.reduceAdd] at F; go_simp; try with_reducible rfl)
    try simp only [Act.put, p1, p2, p3, p4, p5, p6]
    refine tk (i := 8) (v := ?a36) rfl ?b36 (by assumption) ?c36
    case b36 => (intro w F; simp only [sees, kBlk, cellsAt, Nat.reduceAdd] at F; go_simp; try with_reducible rfl)
    try simp only [Act.put, p1, p2, p3, p4, p5, p6]
    refine wpAnyH_done (by kernel_rfl) ?_ _
    clear H1
    have H4 := Lib.hid hHeld
    clear hHeld
    go_wp2_with fail
    refine bodyPost_ret (v := .tuple #[.string Q, .bool (false)]) (by simp [results, Tryz.results47, go_sem]) rfl ⟨Q, ?_, ?_, H4.out.bel⟩
    · rw [HNo.out]
    · intro h; rw [HNo.out] at h; cases h
set_option maxRecDepth 100000 in
set_option maxHeartbeats 4000000 in
theorem written_none (k : Nat) (hk : k = 0 ∨ 12 ≤ k) (n a1 a2 a3 a4 p : Int) (s : ByteArray) (w : World) :
    Calls Tryz.prog 47 #[.agg #[.int .u8 (k : Nat), .int .i64 n, .string s, .int .i64 a1, .int .i64 a2, .int .i64 a3, .int .i64 a4, .int .i64 p]] w (WOut ⟨k, n, s.data.toList, ⟨a1, a2, a3, a4⟩, 0⟩ w) := by
  have HNo := keep (show okT ⟨k, n, s.data.toList, ⟨a1, a2, a3, a4⟩, 0⟩ = false from by
    unfold okT
    simp only
    rw [if_neg (by omega), if_neg (by omega), if_neg (by omega), if_neg (by omega), if_neg (by omega), if_neg (by omega), if_neg (by omega), if_neg (by omega), decide_eq_false (p := 9 ≤ k ∧ k ≤ 11) (by omega), Bool.false_and])
  have k1 : ((k : Int) == 1) = false := beq_eq_false_iff_ne.2 (by omega)
  have k2 : ((k : Int) == 2) = false := beq_eq_false_iff_ne.2 (by omega)
  have k3 : ((k : Int) == 3) = false := beq_eq_false_iff_ne.2 (by omega)
  have k4 : ((k : Int) == 4) = false := beq_eq_false_iff_ne.2 (by omega)
  have k5 : ((k : Int) == 5) = false := beq_eq_false_iff_ne.2 (by omega)
  have k6 : ((k : Int) == 6) = false := beq_eq_false_iff_ne.2 (by omega)
  have k7 : ((k : Int) == 7) = false := beq_eq_false_iff_ne.2 (by omega)
  have k8 : ((k : Int) == 8) = false := beq_eq_false_iff_ne.2 (by omega)
  have k9 : ((k : Int) == 9) = false := beq_eq_false_iff_ne.2 (by omega)
  have k10 : ((k : Int) == 10) = false := beq_eq_false_iff_ne.2 (by omega)
  have k11 : ((k : Int) == 11) = false := beq_eq_false_iff_ne.2 (by omega)
  clear hk
  have H1 := Lib.hid (((Ok.start w).alloc w.heap.size 43 [.int .u8 (k : Nat), .int .i64 n, .string s, .int .i64 a1, .int .i64 a2, .int .i64 a3, .int .i64 a4, .int .i64 p] rfl).alloc (w.heap.size + 1) 43 [.int .u8 (k : Nat), .int .i64 0, .string ⟨#[]⟩, .int .i64 0, .int .i64 0, .int .i64 0, .int .i64 0, .int .i64 p] (by simp))
  go_enter Tryz.func47, Tryz.ntmps47
  go_wp2_with fail
  generalize ((w.alloc (.cells #[.int .u8 (k : Nat), .int .i64 n, .string s, .int .i64 a1, .int .i64 a2, .int .i64 a3, .int .i64 a4, .int .i64 p] 43)).alloc (.cells #[.int .u8 (k : Nat), .int .i64 0, .string ⟨#[]⟩, .int .i64 0, .int .i64 0, .int .i64 0, .int .i64 0, .int .i64 p] 43)) = W2 at H1 ⊢
  clear k1 k2 k3 k4 k5 k6 k7 k8 k9 k10 k11
  refine wp_region_held_drew (S := fun W => Ok w [kBlk (w.heap.size + 1) 43 [.int .u8 (k : Nat), .int .i64 0, .string ⟨#[]⟩, .int .i64 0, .int .i64 0, .int .i64 0, .int .i64 0, .int .i64 p], kBlk (w.heap.size) 43 [.int .u8 (k : Nat), .int .i64 n, .string s, .int .i64 a1, .int .i64 a2, .int .i64 a3, .int .i64 a4, .int .i64 p]] W) (by kernel_rfl) H1.out.drew (fun hHeld => ?_)
  refine tk (i := 0) (v := ?a37) rfl ?b37 (by assumption) ?c37
  case b37 => (intro w F; simp only [sees, kBlk, cellsAt, Nat.reduceAdd] at F; go_simp; try with_reducible rfl)
  try simp only [Act.put, p1, p2, p3, p4, p6]
  refine tk (i := 1) (v := ?a38) rfl ?b38 (by assumption) ?c38
  case b38 => (intro w F; simp only [sees, kBlk, cellsAt, Nat.reduceAdd] at F; go_simp; try with_reducible rfl)
  try simp only [Act.put, p1, p2, p3, p4, p5, p6]
  refine tk (i := 2) (v := ?a39) rfl ?b39 (by assumption) ?c39
  case b39 => (intro w F; simp only [sees, kBlk, cellsAt, Nat.reduceAdd] at F; go_simp; try with_reducible rfl)
  try simp only [Act.put, p1, p2, p3, p4, p5, p6]
  refine sk (i := 3) rfl (by assumption) ?_
  try simp only [Act.put, p1, p2, p3, p4, p5, p6]
  refine sk (i := 4) rfl (by assumption) ?_
  try simp only [Act.put, p1, p2, p3, p4, p5, p6]
  refine sk (i := 5) rfl (by assumption) ?_
  try simp only [Act.put, p1, p2, p3, p4, p5, p6]
  refine tk (i := 6) (v := ?a40) rfl ?b40 (by assumption) ?c40
  case b40 => (intro w F; simp only [sees, kBlk, cellsAt, Nat.reduceAdd] at F; go_simp; try with_reducible rfl)
  try simp only [Act.put, p1, p2, p3, p4, p5, p6]
  refine tk (i := 7) (v := ?a41) rfl ?b41 (by assumption) ?c41
  case b41 => (intro w F; simp only [sees, kBlk, cellsAt, Nat.reduceAdd] at F; go_simp; try with_reducible rfl)
  try simp only [Act.put, p1, p2, p3, p4, p5, p6]
  refine tk (i := 8) (v := ?a42) rfl ?b42 (by assumption) ?c42
  case b42 => (intro w F; simp only [sees, kBlk, cellsAt, Nat.reduceAdd] at F; go_simp; try with_reducible rfl)
  try simp only [Act.put, p1, p2, p3, p4, p5, p6]
  refine wpAnyH_done (by kernel_rfl) ?_ _
  clear H1
  have H4 := Lib.hid hHeld
  clear hHeld
  go_wp2_with fail
  refine bodyPost_ret (v := .tuple #[.string ⟨#[]⟩, .bool (false)]) (by simp [results, Tryz.results47, go_sem]) rfl ⟨⟨#[]⟩, ?_, ?_, H4.out.bel⟩
  · rw [HNo.out]
  · intro h; rw [HNo.out] at h; cases h
set_option maxRecDepth 100000 in
set_option maxHeartbeats 4000000 in
theorem written_5 (n a1 a2 a3 a4 p : Int) (s : ByteArray) (w : World) :
    Calls Tryz.prog 47 #[.agg #[.int .u8 5, .int .i64 n, .string s, .int .i64 a1, .int .i64 a2, .int .i64 a3, .int .i64 a4, .int .i64 p]] w (WOut ⟨5, n, s.data.toList, ⟨a1, a2, a3, a4⟩, 0⟩ w) := by
  obtain ⟨c, hc⟩ : ∃ c, (fmtR ⟨a1, a2, a3, a4⟩).2 = c := ⟨_, rfl⟩
  obtain ⟨Q, hQ⟩ : ∃ Q : ByteArray, (⟨(fmtR ⟨a1, a2, a3, a4⟩).1.toArray⟩ : ByteArray) = Q := ⟨_, rfl⟩
  have hc2 := hc
  rw [fmtR_zero] at hc2
  have HC := keep hc
  have HQ := keep hQ
  clear hc hQ
  by_cases hck : checkB ⟨a1, a2, a3, a4⟩ = true
  · rw [if_pos hck] at hc2
    subst hc2
    by_cases x1 : a1 = a3
    · by_cases x2 : a2 = a4
      · have e1 : (a1 == a3) = true := beq_iff_eq.2 x1
        have e2 : (a2 == a4) = true := beq_iff_eq.2 x2
        have hone : oneB ⟨a1, a2, a3, a4⟩ = true := by unfold oneB; simp [x1, x2]
        clear x1 x2
        have HEq := keep (show eq8 5 n a1 a2 a3 a4 p 5 0 a1 a2 a3 a4 p s.toList [] = okT ⟨5, n, s.data.toList, ⟨a1, a2, a3, a4⟩, 0⟩ from by
          rw [show okT ⟨5, n, s.data.toList, ⟨a1, a2, a3, a4⟩, 0⟩ = (checkB ⟨a1, a2, a3, a4⟩ && oneB ⟨a1, a2, a3, a4⟩ && bareB ⟨5, n, s.data.toList, R4.zero, 0⟩) from rfl, hck, hone]
          unfold eq8 bareB R4.zero
          rw [show s.data.toList.isEmpty = decide (s.data.toList = []) from by cases s.data.toList <;> rfl]
          simp [ByteArray.toList_eq])
        clear hck hone
        have H1 := Lib.hid (((Ok.start w).alloc w.heap.size 43 [.int .u8 5, .int .i64 n, .string s, .int .i64 a1, .int .i64 a2, .int .i64 a3, .int .i64 a4, .int .i64 p] rfl).alloc (w.heap.size + 1) 43 [.int .u8 5, .int .i64 0, .string ⟨#[]⟩, .int .i64 a1, .int .i64 a2, .int .i64 a3, .int .i64 a4, .int .i64 p] (by simp))
        go_enter Tryz.func47, Tryz.ntmps47
        go_wp2_with fail
        generalize ((w.alloc (.cells #[.int .u8 5, .int .i64 n, .string s, .int .i64 a1, .int .i64 a2, .int .i64 a3, .int .i64 a4, .int .i64 p] 43)).alloc (.cells #[.int .u8 5, .int .i64 0, .string ⟨#[]⟩, .int .i64 a1, .int .i64 a2, .int .i64 a3, .int .i64 a4, .int .i64 p] 43)) = W2 at H1 ⊢
        refine (ref3_Format a1 a2 a3 a4 _).mono ?_
        rintro e w3 ⟨rfl, hb4⟩
        rw [HC.out, HQ.out]
        have H5 := Lib.hid (H1.out.below hb4)
        clear hb4 H1
        have F6 := H5.out.sees
        simp only [sees, kBlk, cellsAt, Nat.reduceAdd] at F6
        obtain ⟨⟨z0, c0_0, c0_1, c0_2, c0_3, c0_4, c0_5, c0_6, c0_7, -⟩, ⟨z1, c1_0, c1_1, c1_2, c1_3, c1_4, c1_5, c1_6, c1_7, -⟩, -⟩ := F6
        go_wp2_with fail
        clear z0 c0_0 c0_1 c0_2 c0_3 c0_4 c0_5 c0_6 c0_7 z1 c1_0 c1_1 c1_2 c1_3 c1_4 c1_5 c1_6 c1_7
        refine wp_region_held_drew (S := fun W => Ok w [kBlk (w.heap.size + 1) 43 [.int .u8 5, .int .i64 0, .string ⟨#[]⟩, .int .i64 a1, .int .i64 a2, .int .i64 a3, .int .i64 a4, .int .i64 p], kBlk (w.heap.size) 43 [.int .u8 5, .int .i64 n, .string s, .int .i64 a1, .int .i64 a2, .int .i64 a3, .int .i64 a4, .int .i64 p]] W) (by kernel_rfl) H5.out.drew (fun hHeld => ?_)
        refine tk (i := 0) (v := ?a43) rfl ?b43 (by assumption) ?c43
        case b43 => (intro w F; simp only [sees, kBlk, cellsAt, Nat.reduceAdd] at F; go_simp; try with_reducible rfl)
        try simp only [Act.put, p1, p2, p3, p4, p6]
        refine tk (i := 1) (v := ?a44) rfl ?b44 (by assumption) ?c44
        case b44 => (intro w F; simp only [sees, kBlk, cellsAt, Nat.reduceAdd] at F; go_simp; try with_reducible rfl)
        try simp only [Act.put, p1, p2, p3, p4, p5, p6]
        refine tk (i := 2) (v := ?a45) rfl ?b45 (by assumption) ?c45
        case b45 => (intro w F; simp only [sees, kBlk, cellsAt, Nat.reduceAdd] at F; go_simp; try with_reducible rfl)
        try simp only [Act.put, p1, p2, p3, p4, p5, p6]
        refine tk (i := 3) (v := ?a46) rfl ?b46 (by assumption) ?c46
        case b46 => (intro w F; simp only [sees, kBlk, cellsAt, Nat.reduceAdd] at F; go_simp; try with_reducible rfl)
        try simp only [Act.put, p1, p2, p3, p4, p5, p6]
        refine tk (i := 4) (v := ?a47) rfl ?b47 (by assumption) ?c47
        case b47 => (intro w F; simp only [sees, kBlk, cellsAt, Nat.reduceAdd] at F; go_simp; try with_reducible rfl)
        try simp only [Act.put, p1, p2, p3, p4, p5, p6]
        refine tk (i := 5) (v := ?a48) rfl ?b48 (by assumption) ?c48
        case b48 => (intro w F; simp only [sees, kBlk, cellsAt, Nat.reduceAdd] at F; go_simp; try with_reducible rfl)
        try simp only [Act.put, p1, p2, p3, p4, p5, p6]
        refine tk (i := 6) (v := ?a49) rfl ?b49 (by assumption) ?c49
        case b49 => (intro w F; simp only [sees, kBlk, cellsAt, Nat.reduceAdd] at F; go_simp; try with_reducible rfl)
        try simp only [Act.put, p1, p2, p3, p4, p5, p6]
        refine tk (i := 7) (v := ?a50) rfl ?b50 (by assumption) ?c50
        case b50 => (intro w F; simp only [sees, kBlk, cellsAt, Nat.reduceAdd] at F; go_simp; try with_reducible rfl)
        try simp only [Act.put, p1, p2, p3, p4, p5, p6]
        refine tk (i := 8) (v := ?a51) rfl ?b51 (by assumption) ?c51
        case b51 => (intro w F; simp only [sees, kBlk, cellsAt, Nat.reduceAdd] at F; go_simp; try with_reducible rfl)
        try simp only [Act.put, p1, p2, p3, p4, p5, p6]
        refine tk (i := 9) (v := ?a52) rfl ?b52 (by assumption) ?c52
        case b52 => (intro w F; simp only [sees, kBlk, cellsAt, Nat.reduceAdd] at F; go_simp; try with_reducible rfl)
        try simp only [Act.put, p1, p2, p3, p4, p5, p6]
        refine tk (i := 10) (v := ?a53) rfl ?b53 (by assumption) ?c53
        case b53 => (intro w F; simp only [sees, kBlk, cellsAt, Nat.reduceAdd] at F; go_simp; try with_reducible rfl)
        try simp only [Act.put, p1, p2, p3, p4, p5, p6]
        refine tk (i := 11) (v := ?a54) rfl ?b54 (by assumption) ?c54
        case b54 => (intro w F; simp only [sees, kBlk, cellsAt, Nat.reduceAdd] at F; go_simp; try with_reducible rfl)
        try simp only [Act.put, p1, p2, p3, p4, p5, p6]
        refine wpAnyH_done (by kernel_rfl) ?_ _
        clear H5
        have H8 := Lib.hid hHeld
        clear hHeld
        go_wp2_with fail
        refine wp_region_held_drew (S := fun W => Ok w [kBlk (w.heap.size + 1) 43 [.int .u8 5, .int .i64 0, .string ⟨#[]⟩, .int .i64 a1, .int .i64 a2, .int .i64 a3, .int .i64 a4, .int .i64 p], kBlk (w.heap.size) 43 [.int .u8 5, .int .i64 n, .string s, .int .i64 a1, .int .i64 a2, .int .i64 a3, .int .i64 a4, .int .i64 p]] W) (by kernel_rfl) H8.out.drew (fun hHeld => ?_)
        refine tk (i := 0) (v := ?a55) rfl ?b55 (by assumption) ?c55
        case b55 => (intro w F; simp only [sees, kBlk, cellsAt, Nat.reduceAdd] at F; go_simp; try with_reducible rfl)
        try simp only [Act.put, p1, p2, p3, p4, p6]
        refine tk (i := 1) (v := ?a56) rfl ?b56 (by assumption) ?c56
        case b56 => (intro w F; simp only [sees, kBlk, cellsAt, Nat.reduceAdd] at F; go_simp; try with_reducible rfl)
        try simp only [Act.put, p1, p2, p3, p4, p5, p6]
        refine tk (i := 2) (v := ?a57) rfl ?b57 (by assumption) ?c57
        case b57 => (intro w F; simp only [sees, kBlk, cellsAt, Nat.reduceAdd] at F; go_simp; try with_reducible rfl)
        try simp only [Act.put, p1, p2, p3, p4, p5, p6]
        refine tk (i := 3) (v := ?a58) rfl ?b58 (by assumption) ?c58
        case b58 => (intro w F; simp only [sees, kBlk, cellsAt, Nat.reduceAdd] at F; go_simp; try with_reducible rfl)
        try simp only [Act.put, p1, p2, p3, p4, p5, p6]
        refine tk (i := 4) (v := ?a59) rfl ?b59 (by assumption) ?c59
        case b59 => (intro w F; simp only [sees, kBlk, cellsAt, Nat.reduceAdd] at F; go_simp; try with_reducible rfl)
        try simp only [Act.put, p1, p2, p3, p4, p5, p6]
        refine tk (i := 5) (v := ?a60) rfl ?b60 (by assumption) ?c60
        case b60 => (intro w F; simp only [sees, kBlk, cellsAt, Nat.reduceAdd] at F; go_simp; try with_reducible rfl)
        try simp only [Act.put, p1, p2, p3, p4, p5, p6]
        refine tk (i := 6) (v := ?a61) rfl ?b61 (by assumption) ?c61
        case b61 => (intro w F; simp only [sees, kBlk, cellsAt, Nat.reduceAdd] at F; go_simp; try with_reducible rfl)
        try simp only [Act.put, p1, p2, p3, p4, p5, p6]
        refine tk (i := 7) (v := ?a62) rfl ?b62 (by assumption) ?c62
        case b62 => (intro w F; simp only [sees, kBlk, cellsAt, Nat.reduceAdd] at F; go_simp; try with_reducible rfl)
        try simp only [Act.put, p1, p2, p3, p4, p5, p6]
        refine tk (i := 8) (v := ?a63) rfl ?b63 (by assumption) ?c63
        case b63 => (intro w F; simp only [sees, kBlk, cellsAt, Nat.reduceAdd] at F; go_simp; try with_reducible rfl)
        try simp only [Act.put, p1, p2, p3, p4, p5, p6]
        refine wpAnyH_done (by kernel_rfl) ?_ _
        clear H8
        have H10 := Lib.hid hHeld
        clear hHeld
        go_wp2_with fail
        refine bodyPost_ret (v := .tuple #[.string Q, .bool (eq8 5 0 a1 a2 a3 a4 p 5 n a1 a2 a3 a4 p [] s.toList)]) (by simp [results, Tryz.results47, go_sem]) rfl ⟨Q, ?_, ?_, H10.out.bel⟩
        · rw [eq8_comm, HEq.out]
        · intro _; rw [← HQ.out]; rfl
      · have e1 : (a1 == a3) = true := beq_iff_eq.2 x1
        have e2 : (a2 == a4) = false := beq_eq_false_iff_ne.2 x2
        have hone : oneB ⟨a1, a2, a3, a4⟩ = false := by unfold oneB; simp [x1, x2]
        clear x1 x2
        have HNo := keep (show okT ⟨5, n, s.data.toList, ⟨a1, a2, a3, a4⟩, 0⟩ = false from by
          rw [show okT ⟨5, n, s.data.toList, ⟨a1, a2, a3, a4⟩, 0⟩ = (checkB ⟨a1, a2, a3, a4⟩ && oneB ⟨a1, a2, a3, a4⟩ && bareB ⟨5, n, s.data.toList, R4.zero, 0⟩) from rfl, hone, hck, Bool.true_and, Bool.false_and])
        clear hck hone
        have H1 := Lib.hid (((Ok.start w).alloc w.heap.size 43 [.int .u8 5, .int .i64 n, .string s, .int .i64 a1, .int .i64 a2, .int .i64 a3, .int .i64 a4, .int .i64 p] rfl).alloc (w.heap.size + 1) 43 [.int .u8 5, .int .i64 0, .string ⟨#[]⟩, .int .i64 a1, .int .i64 a2, .int .i64 a3, .int .i64 a4, .int .i64 p] (by simp))
        go_enter Tryz.func47, Tryz.ntmps47
        go_wp2_with fail
        generalize ((w.alloc (.cells #[.int .u8 5, .int .i64 n, .string s, .int .i64 a1, .int .i64 a2, .int .i64 a3, .int .i64 a4, .int .i64 p] 43)).alloc (.cells #[.int .u8 5, .int .i64 0, .string ⟨#[]⟩, .int .i64 a1, .int .i64 a2, .int .i64 a3, .int .i64 a4, .int .i64 p] 43)) = W2 at H1 ⊢
        refine (ref3_Format a1 a2 a3 a4 _).mono ?_
        rintro e w3 ⟨rfl, hb4⟩
        rw [HC.out, HQ.out]
        have H5 := Lib.hid (H1.out.below hb4)
        clear hb4 H1
        have F6 := H5.out.sees
        simp only [sees, kBlk, cellsAt, Nat.reduceAdd] at F6
        obtain ⟨⟨z0, c0_0, c0_1, c0_2, c0_3, c0_4, c0_5, c0_6, c0_7, -⟩, ⟨z1, c1_0, c1_1, c1_2, c1_3, c1_4, c1_5, c1_6, c1_7, -⟩, -⟩ := F6
        go_wp2_with fail
        clear z0 c0_0 c0_1 c0_2 c0_3 c0_4 c0_5 c0_6 c0_7 z1 c1_0 c1_1 c1_2 c1_3 c1_4 c1_5 c1_6 c1_7
        refine wp_region_held_drew (S := fun W => Ok w [kBlk (w.heap.size + 1) 43 [.int .u8 5, .int .i64 0, .string ⟨#[]⟩, .int .i64 a1, .int .i64 a2, .int .i64 a3, .int .i64 a4, .int .i64 p], kBlk (w.heap.size) 43 [.int .u8 5, .int .i64 n, .string s, .int .i64 a1, .int .i64 a2, .int .i64 a3, .int .i64 a4, .int .i64 p]] W) (by kernel_rfl) H5.out.drew (fun hHeld => ?_)
        refine tk (i := 0) (v := ?a64) rfl ?b64 (by assumption) ?c64
        case b64 => (intro w F; simp only [sees, kBlk, cellsAt, Nat.reduceAdd] at F; go_simp; try with_reducible rfl)
        try simp only [Act.put, p1, p2, p3, p4, p6]
        refine tk (i := 1) (v := ?a65) rfl ?b65 (by assumption) ?c65
        case b65 => (intro w F; simp only [sees, kBlk, cellsAt, Nat.reduceAdd] at F; go_simp; try with_reducible rfl)
        try simp only [Act.put, p1, p2, p3, p4, p5, p6]
        refine tk (i := 2) (v := ?a66) rfl ?b66 (by assumption) ?c66
        case b66 => (intro w F; simp only [sees, kBlk, cellsAt, Nat.reduceAdd] at F; go_simp; try with_reducible rfl)
        try simp only [Act.put, p1, p2, p3, p4, p5, p6]
        refine tk (i := 3) (v := ?a67) rfl ?b67 (by assumption) ?c67
        case b67 => (intro w F; simp only [sees, kBlk, cellsAt, Nat.reduceAdd] at F; go_simp; try with_reducible rfl)
        try simp only [Act.put, p1, p2, p3, p4, p5, p6]
        refine tk (i := 4) (v := ?a68) rfl ?b68 (by assumption) ?c68
        case b68 => (intro w F; simp only [sees, kBlk, cellsAt, Nat.reduceAdd] at F; go_simp; try with_reducible rfl)
        try simp only [Act.put, p1, p2, p3, p4, p5, p6]
        refine tk (i := 5) (v := ?a69) rfl ?b69 (by assumption) ?c69
        case b69 => (intro w F; simp only [sees, kBlk, cellsAt, Nat.reduceAdd] at F; go_simp; try with_reducible rfl)
        try simp only [Act.put, p1, p2, p3, p4, p5, p6]
        refine tk (i := 6) (v := ?a70) rfl ?b70 (by assumption) ?c70
        case b70 => (intro w F; simp only [sees, kBlk, cellsAt, Nat.reduceAdd] at F; go_simp; try with_reducible rfl)
        try simp only [Act.put, p1, p2, p3, p4, p5, p6]
        refine tk (i := 7) (v := ?a71) rfl ?b71 (by assumption) ?c71
        case b71 => (intro w F; simp only [sees, kBlk, cellsAt, Nat.reduceAdd] at F; go_simp; try with_reducible rfl)
        try simp only [Act.put, p1, p2, p3, p4, p5, p6]
        refine tk (i := 8) (v := ?a72) rfl ?b72 (by assumption) ?c72
        case b72 => (intro w F; simp only [sees, kBlk, cellsAt, Nat.reduceAdd] at F; go_simp; try with_reducible rfl)
        try simp only [Act.put, p1, p2, p3, p4, p5, p6]
        refine tk (i := 9) (v := ?a73) rfl ?b73 (by assumption) ?c73
        case b73 => (intro w F; simp only [sees, kBlk, cellsAt, Nat.reduceAdd] at F; go_simp; try with_reducible rfl)
        try simp only [Act.put, p1, p2, p3, p4, p5, p6]
        refine tk (i := 10) (v := ?a74) rfl ?b74 (by assumption) ?c74
        case b74 => (intro w F; simp only [sees, kBlk, cellsAt, Nat.reduceAdd] at F; go_simp; try with_reducible rfl)
        try simp only [Act.put, p1, p2, p3, p4, p5, p6]
        refine tk (i := 11) (v := ?a75) rfl ?b75 (by assumption) ?c75
        case b75 => (intro w F; simp only [sees, kBlk, cellsAt, Nat.reduceAdd] at F; go_simp; try with_reducible rfl)
        try simp only [Act.put, p1, p2, p3, p4, p5, p6]
        refine wpAnyH_done (by kernel_rfl) ?_ _
        clear H5
        have H8 := Lib.hid hHeld
        clear hHeld
        go_wp2_with fail
        refine wp_region_held_drew (S := fun W => Ok w [kBlk (w.heap.size + 1) 43 [.int .u8 5, .int .i64 0, .string ⟨#[]⟩, .int .i64 a1, .int .i64 a2, .int .i64 a3, .int .i64 a4, .int .i64 p], kBlk (w.heap.size) 43 [.int .u8 5, .int .i64 n, .string s, .int .i64 a1, .int .i64 a2, .int .i64 a3, .int .i64 a4, .int .i64 p]] W) (by kernel_rfl) H8.out.drew (fun hHeld => ?_)
        refine tk (i := 0) (v := ?a76) rfl ?b76 (by assumption) ?c76
        case b76 => (intro w F; simp only [sees, kBlk, cellsAt, Nat.reduceAdd] at F; go_simp; try with_reducible rfl)
        try simp only [Act.put, p1, p2, p3, p4, p6]
        refine tk (i := 1) (v := ?a77) rfl ?b77 (by assumption) ?c77
        case b77 => (intro w F; simp only [sees, kBlk, cellsAt, Nat.reduceAdd] at F; go_simp; try with_reducible rfl)
        try simp only [Act.put, p1, p2, p3, p4, p5, p6]
        refine tk (i := 2) (v := ?a78) rfl ?b78 (by assumption) ?c78
        case b78 => (intro w F; simp only [sees, kBlk, cellsAt, Nat.reduceAdd] at F; go_simp; try with_reducible rfl)
        try simp only [Act.put, p1, p2, p3, p4, p5, p6]
        refine sk (i := 3) rfl (by assumption) ?_
        try simp only [Act.put, p1, p2, p3, p4, p5, p6]
        refine sk (i := 4) rfl (by assumption) ?_
        try simp only [Act.put, p1, p2, p3, p4, p5, p6]
        refine sk (i := 5) rfl (by assumption) ?_
        try simp only [Act.put, p1, p2, p3, p4, p5, p6]
        refine tk (i := 6) (v := ?a79) rfl ?b79 (by assumption) ?c79
        case b79 => (intro w F; simp only [sees, kBlk, cellsAt, Nat.reduceAdd] at F; go_simp; try with_reducible rfl)
        try simp only [Act.put, p1, p2, p3, p4, p5, p6]
        refine tk (i := 7) (v := ?a80) rfl ?b80 (by assumption) ?c80
        case b80 => (intro w F; simp only [sees, kBlk, cellsAt, Nat.reduceAdd] at F; go_simp; try with_reducible rfl)
        try simp only [Act.put, p1, p2, p3, p4, p5, p6]
        refine tk (i := 8) (v := ?a81) rfl ?b81 (by assumption) ?c81
        case b81 => (intro w F; simp only [sees, kBlk, cellsAt, Nat.reduceAdd] at F; go_simp; try with_reducible rfl)
        try simp only [Act.put, p1, p2, p3, p4, p5, p6]
        refine wpAnyH_done (by kernel_rfl) ?_ _
        clear H8
        have H10 := Lib.hid hHeld
        clear hHeld
        go_wp2_with fail
        refine bodyPost_ret (v := .tuple #[.string Q, .bool (false)]) (by simp [results, Tryz.results47, go_sem]) rfl ⟨Q, ?_, ?_, H10.out.bel⟩
        · rw [HNo.out]
        · intro h; rw [HNo.out] at h; cases h
    · have e1 : (a1 == a3) = false := beq_eq_false_iff_ne.2 x1
      have hone : oneB ⟨a1, a2, a3, a4⟩ = false := by unfold oneB; simp [x1]
      clear x1
      have HNo := keep (show okT ⟨5, n, s.data.toList, ⟨a1, a2, a3, a4⟩, 0⟩ = false from by
        rw [show okT ⟨5, n, s.data.toList, ⟨a1, a2, a3, a4⟩, 0⟩ = (checkB ⟨a1, a2, a3, a4⟩ && oneB ⟨a1, a2, a3, a4⟩ && bareB ⟨5, n, s.data.toList, R4.zero, 0⟩) from rfl, hone, hck, Bool.true_and, Bool.false_and])
      clear hck hone
      have H1 := Lib.hid (((Ok.start w).alloc w.heap.size 43 [.int .u8 5, .int .i64 n, .string s, .int .i64 a1, .int .i64 a2, .int .i64 a3, .int .i64 a4, .int .i64 p] rfl).alloc (w.heap.size + 1) 43 [.int .u8 5, .int .i64 0, .string ⟨#[]⟩, .int .i64 a1, .int .i64 a2, .int .i64 a3, .int .i64 a4, .int .i64 p] (by simp))
      go_enter Tryz.func47, Tryz.ntmps47
      go_wp2_with fail
      generalize ((w.alloc (.cells #[.int .u8 5, .int .i64 n, .string s, .int .i64 a1, .int .i64 a2, .int .i64 a3, .int .i64 a4, .int .i64 p] 43)).alloc (.cells #[.int .u8 5, .int .i64 0, .string ⟨#[]⟩, .int .i64 a1, .int .i64 a2, .int .i64 a3, .int .i64 a4, .int .i64 p] 43)) = W2 at H1 ⊢
      refine (ref3_Format a1 a2 a3 a4 _).mono ?_
      rintro e w3 ⟨rfl, hb4⟩
      rw [HC.out, HQ.out]
      have H5 := Lib.hid (H1.out.below hb4)
      clear hb4 H1
      have F6 := H5.out.sees
      simp only [sees, kBlk, cellsAt, Nat.reduceAdd] at F6
      obtain ⟨⟨z0, c0_0, c0_1, c0_2, c0_3, c0_4, c0_5, c0_6, c0_7, -⟩, ⟨z1, c1_0, c1_1, c1_2, c1_3, c1_4, c1_5, c1_6, c1_7, -⟩, -⟩ := F6
      go_wp2_with fail
      clear z0 c0_0 c0_1 c0_2 c0_3 c0_4 c0_5 c0_6 c0_7 z1 c1_0 c1_1 c1_2 c1_3 c1_4 c1_5 c1_6 c1_7
      refine wp_region_held_drew (S := fun W => Ok w [kBlk (w.heap.size + 1) 43 [.int .u8 5, .int .i64 0, .string ⟨#[]⟩, .int .i64 a1, .int .i64 a2, .int .i64 a3, .int .i64 a4, .int .i64 p], kBlk (w.heap.size) 43 [.int .u8 5, .int .i64 n, .string s, .int .i64 a1, .int .i64 a2, .int .i64 a3, .int .i64 a4, .int .i64 p]] W) (by kernel_rfl) H5.out.drew (fun hHeld => ?_)
      refine tk (i := 0) (v := ?a82) rfl ?b82 (by assumption) ?c82
      case b82 => (intro w F; simp only [sees, kBlk, cellsAt, Nat.reduceAdd] at F; go_simp; try with_reducible rfl)
      try simp only [Act.put, p1, p2, p3, p4, p6]
      refine tk (i := 1) (v := ?a83) rfl ?b83 (by assumption) ?c83
      case b83 => (intro w F; simp only [sees, kBlk, cellsAt, Nat.reduceAdd] at F; go_simp; try with_reducible rfl)
      try simp only [Act.put, p1, p2, p3, p4, p5, p6]
      refine tk (i := 2) (v := ?a84) rfl ?b84 (by assumption) ?c84
      case b84 => (intro w F; simp only [sees, kBlk, cellsAt, Nat.reduceAdd] at F; go_simp; try with_reducible rfl)
      try simp only [Act.put, p1, p2, p3, p4, p5, p6]
      refine tk (i := 3) (v := ?a85) rfl ?b85 (by assumption) ?c85
      case b85 => (intro w F; simp only [sees, kBlk, cellsAt, Nat.reduceAdd] at F; go_simp; try with_reducible rfl)
      try simp only [Act.put, p1, p2, p3, p4, p5, p6]
      refine tk (i := 4) (v := ?a86) rfl ?b86 (by assumption) ?c86
      case b86 => (intro w F; simp only [sees, kBlk, cellsAt, Nat.reduceAdd] at F; go_simp; try with_reducible rfl)
      try simp only [Act.put, p1, p2, p3, p4, p5, p6]
      refine tk (i := 5) (v := ?a87) rfl ?b87 (by assumption) ?c87
      case b87 => (intro w F; simp only [sees, kBlk, cellsAt, Nat.reduceAdd] at F; go_simp; try with_reducible rfl)
      try simp only [Act.put, p1, p2, p3, p4, p5, p6]
      refine tk (i := 6) (v := ?a88) rfl ?b88 (by assumption) ?c88
      case b88 => (intro w F; simp only [sees, kBlk, cellsAt, Nat.reduceAdd] at F; go_simp; try with_reducible rfl)
      try simp only [Act.put, p1, p2, p3, p4, p5, p6]
      refine tk (i := 7) (v := ?a89) rfl ?b89 (by assumption) ?c89
      case b89 => (intro w F; simp only [sees, kBlk, cellsAt, Nat.reduceAdd] at F; go_simp; try with_reducible rfl)
      try simp only [Act.put, p1, p2, p3, p4, p5, p6]
      refine tk (i := 8) (v := ?a90) rfl ?b90 (by assumption) ?c90
      case b90 => (intro w F; simp only [sees, kBlk, cellsAt, Nat.reduceAdd] at F; go_simp; try with_reducible rfl)
      try simp only [Act.put, p1, p2, p3, p4, p5, p6]
      refine tk (i := 9) (v := ?a91) rfl ?b91 (by assumption) ?c91
      case b91 => (intro w F; simp only [sees, kBlk, cellsAt, Nat.reduceAdd] at F; go_simp; try with_reducible rfl)
      try simp only [Act.put, p1, p2, p3, p4, p5, p6]
      refine tk (i := 10) (v := ?a92) rfl ?b92 (by assumption) ?c92
      case b92 => (intro w F; simp only [sees, kBlk, cellsAt, Nat.reduceAdd] at F; go_simp; try with_reducible rfl)
      try simp only [Act.put, p1, p2, p3, p4, p5, p6]
      refine tk (i := 11) (v := ?a93) rfl ?b93 (by assumption) ?c93
      case b93 => (intro w F; simp only [sees, kBlk, cellsAt, Nat.reduceAdd] at F; go_simp; try with_reducible rfl)
      try simp only [Act.put, p1, p2, p3, p4, p5, p6]
      refine wpAnyH_done (by kernel_rfl) ?_ _
      clear H5
      have H8 := Lib.hid hHeld
      clear hHeld
      go_wp2_with fail
      refine wp_region_held_drew (S := fun W => Ok w [kBlk (w.heap.size + 1) 43 [.int .u8 5, .int .i64 0, .string ⟨#[]⟩, .int .i64 a1, .int .i64 a2, .int .i64 a3, .int .i64 a4, .int .i64 p], kBlk (w.heap.size) 43 [.int .u8 5, .int .i64 n, .string s, .int .i64 a1, .int .i64 a2, .int .i64 a3, .int .i64 a4, .int .i64 p]] W) (by kernel_rfl) H8.out.drew (fun hHeld => ?_)
      refine tk (i := 0) (v := ?a94) rfl ?b94 (by assumption) ?c94
      case b94 => (intro w F; simp only [sees, kBlk, cellsAt, Nat.reduceAdd] at F; go_simp; try with_reducible rfl)
      try simp only [Act.put, p1, p2, p3, p4, p6]
      refine tk (i := 1) (v := ?a95) rfl ?b95 (by assumption) ?c95
      case b95 => (intro w F; simp only [sees, kBlk, cellsAt, Nat.reduceAdd] at F; go_simp; try with_reducible rfl)
      try simp only [Act.put, p1, p2, p3, p4, p5, p6]
      refine tk (i := 2) (v := ?a96) rfl ?b96 (by assumption) ?c96
      case b96 => (intro w F; simp only [sees, kBlk, cellsAt, Nat.reduceAdd] at F; go_simp; try with_reducible rfl)
      try simp only [Act.put, p1, p2, p3, p4, p5, p6]
      refine sk (i := 3) rfl (by assumption) ?_
      try simp only [Act.put, p1, p2, p3, p4, p5, p6]
      refine sk (i := 4) rfl (by assumption) ?_
      try simp only [Act.put, p1, p2, p3, p4, p5, p6]
      refine sk (i := 5) rfl (by assumption) ?_
      try simp only [Act.put, p1, p2, p3, p4, p5, p6]
      refine tk (i := 6) (v := ?a97) rfl ?b97 (by assumption) ?c97
      case b97 => (intro w F; simp only [sees, kBlk, cellsAt, Nat.reduceAdd] at F; go_simp; try with_reducible rfl)
      try simp only [Act.put, p1, p2, p3, p4, p5, p6]
      refine tk (i := 7) (v := ?a98) rfl ?b98 (by assumption) ?c98
      case b98 => (intro w F; simp only [sees, kBlk, cellsAt, Nat.reduceAdd] at F; go_simp; try with_reducible rfl)
      try simp only [Act.put, p1, p2, p3, p4, p5, p6]
      refine tk (i := 8) (v := ?a99) rfl ?b99 (by assumption) ?c99
      case b99 => (intro w F; simp only [sees, kBlk, cellsAt, Nat.reduceAdd] at F; go_simp; try with_reducible rfl)
      try simp only [Act.put, p1, p2, p3, p4, p5, p6]
      refine wpAnyH_done (by kernel_rfl) ?_ _
      clear H8
      have H10 := Lib.hid hHeld
      clear hHeld
      go_wp2_with fail
      refine bodyPost_ret (v := .tuple #[.string Q, .bool (false)]) (by simp [results, Tryz.results47, go_sem]) rfl ⟨Q, ?_, ?_, H10.out.bel⟩
      · rw [HNo.out]
      · intro h; rw [HNo.out] at h; cases h
  · rw [if_neg hck] at hc2
    subst hc2
    rw [Bool.not_eq_true] at hck
    by_cases x1 : a1 = a3
    · by_cases x2 : a2 = a4
      · have e1 : (a1 == a3) = true := beq_iff_eq.2 x1
        have e2 : (a2 == a4) = true := beq_iff_eq.2 x2
        have hone : oneB ⟨a1, a2, a3, a4⟩ = true := by unfold oneB; simp [x1, x2]
        clear x1 x2
        have HNo := keep (show okT ⟨5, n, s.data.toList, ⟨a1, a2, a3, a4⟩, 0⟩ = false from by
          rw [show okT ⟨5, n, s.data.toList, ⟨a1, a2, a3, a4⟩, 0⟩ = (checkB ⟨a1, a2, a3, a4⟩ && oneB ⟨a1, a2, a3, a4⟩ && bareB ⟨5, n, s.data.toList, R4.zero, 0⟩) from rfl, hck, Bool.false_and, Bool.false_and])
        clear hck hone
        have H1 := Lib.hid (((Ok.start w).alloc w.heap.size 43 [.int .u8 5, .int .i64 n, .string s, .int .i64 a1, .int .i64 a2, .int .i64 a3, .int .i64 a4, .int .i64 p] rfl).alloc (w.heap.size + 1) 43 [.int .u8 5, .int .i64 0, .string ⟨#[]⟩, .int .i64 a1, .int .i64 a2, .int .i64 a3, .int .i64 a4, .int .i64 p] (by simp))
        go_enter Tryz.func47, Tryz.ntmps47
        go_wp2_with fail
        generalize ((w.alloc (.cells #[.int .u8 5, .int .i64 n, .string s, .int .i64 a1, .int .i64 a2, .int .i64 a3, .int .i64 a4, .int .i64 p] 43)).alloc (.cells #[.int .u8 5, .int .i64 0, .string ⟨#[]⟩, .int .i64 a1, .int .i64 a2, .int .i64 a3, .int .i64 a4, .int .i64 p] 43)) = W2 at H1 ⊢
        refine (ref3_Format a1 a2 a3 a4 _).mono ?_
        rintro e w3 ⟨rfl, hb4⟩
        rw [HC.out, HQ.out]
        have H5 := Lib.hid (H1.out.below hb4)
        clear hb4 H1
        have F6 := H5.out.sees
        simp only [sees, kBlk, cellsAt, Nat.reduceAdd] at F6
        obtain ⟨⟨z0, c0_0, c0_1, c0_2, c0_3, c0_4, c0_5, c0_6, c0_7, -⟩, ⟨z1, c1_0, c1_1, c1_2, c1_3, c1_4, c1_5, c1_6, c1_7, -⟩, -⟩ := F6
        go_wp2_with fail
        clear z0 c0_0 c0_1 c0_2 c0_3 c0_4 c0_5 c0_6 c0_7 z1 c1_0 c1_1 c1_2 c1_3 c1_4 c1_5 c1_6 c1_7
        refine wp_region_held_drew (S := fun W => Ok w [kBlk (w.heap.size + 1) 43 [.int .u8 5, .int .i64 0, .string ⟨#[]⟩, .int .i64 a1, .int .i64 a2, .int .i64 a3, .int .i64 a4, .int .i64 p], kBlk (w.heap.size) 43 [.int .u8 5, .int .i64 n, .string s, .int .i64 a1, .int .i64 a2, .int .i64 a3, .int .i64 a4, .int .i64 p]] W) (by kernel_rfl) H5.out.drew (fun hHeld => ?_)
        refine tk (i := 0) (v := ?a100) rfl ?b100 (by assumption) ?c100
        case b100 => (intro w F; simp only [sees, kBlk, cellsAt, Nat.reduceAdd] at F; go_simp; try with_reducible rfl)
        try simp only [Act.put, p1, p2, p3, p4, p6]
        refine tk (i := 1) (v := ?a101) rfl ?b101 (by assumption) ?c101
        case b101 => (intro w F; simp only [sees, kBlk, cellsAt, Nat.reduceAdd] at F; go_simp; try with_reducible rfl)
        try simp only [Act.put, p1, p2, p3, p4, p5, p6]
        refine tk (i := 2) (v := ?a102) rfl ?b102 (by assumption) ?c102
        case b102 => (intro w F; simp only [sees, kBlk, cellsAt, Nat.reduceAdd] at F; go_simp; try with_reducible rfl)
        try simp only [Act.put, p1, p2, p3, p4, p5, p6]
        refine tk (i := 3) (v := ?a103) rfl ?b103 (by assumption) ?c103
        case b103 => (intro w F; simp only [sees, kBlk, cellsAt, Nat.reduceAdd] at F; go_simp; try with_reducible rfl)
        try simp only [Act.put, p1, p2, p3, p4, p5, p6]
        refine sk (i := 4) rfl (by assumption) ?_
        try simp only [Act.put, p1, p2, p3, p4, p5, p6]
        refine sk (i := 5) rfl (by assumption) ?_
        try simp only [Act.put, p1, p2, p3, p4, p5, p6]
        refine sk (i := 6) rfl (by assumption) ?_
        try simp only [Act.put, p1, p2, p3, p4, p5, p6]
        refine sk (i := 7) rfl (by assumption) ?_
        try simp only [Act.put, p1, p2, p3, p4, p5, p6]
        refine sk (i := 8) rfl (by assumption) ?_
        try simp only [Act.put, p1, p2, p3, p4, p5, p6]
        refine tk (i := 9) (v := ?a104) rfl ?b104 (by assumption) ?c104
        case b104 => (intro w F; simp only [sees, kBlk, cellsAt, Nat.reduceAdd] at F; go_simp; try with_reducible rfl)
        try simp only [Act.put, p1, p2, p3, p4, p5, p6]
        refine tk (i := 10) (v := ?a105) rfl ?b105 (by assumption) ?c105
        case b105 => (intro w F; simp only [sees, kBlk, cellsAt, Nat.reduceAdd] at F; go_simp; try with_reducible rfl)
        try simp only [Act.put, p1, p2, p3, p4, p5, p6]
        refine tk (i := 11) (v := ?a106) rfl ?b106 (by assumption) ?c106
        case b106 => (intro w F; simp only [sees, kBlk, cellsAt, Nat.reduceAdd] at F; go_simp; try with_reducible rfl)
        try simp only [Act.put, p1, p2, p3, p4, p5, p6]
        refine wpAnyH_done (by kernel_rfl) ?_ _
        clear H5
        have H8 := Lib.hid hHeld
        clear hHeld
        go_wp2_with fail
        refine wp_region_held_drew (S := fun W => Ok w [kBlk (w.heap.size + 1) 43 [.int .u8 5, .int .i64 0, .string ⟨#[]⟩, .int .i64 a1, .int .i64 a2, .int .i64 a3, .int .i64 a4, .int .i64 p], kBlk (w.heap.size) 43 [.int .u8 5, .int .i64 n, .string s, .int .i64 a1, .int .i64 a2, .int .i64 a3, .int .i64 a4, .int .i64 p]] W) (by kernel_rfl) H8.out.drew (fun hHeld => ?_)
        refine tk (i := 0) (v := ?a107) rfl ?b107 (by assumption) ?c107
        case b107 => (intro w F; simp only [sees, kBlk, cellsAt, Nat.reduceAdd] at F; go_simp; try with_reducible rfl)
        try simp only [Act.put, p1, p2, p3, p4, p6]
        refine tk (i := 1) (v := ?a108) rfl ?b108 (by assumption) ?c108
        case b108 => (intro w F; simp only [sees, kBlk, cellsAt, Nat.reduceAdd] at F; go_simp; try with_reducible rfl)
        try simp only [Act.put, p1, p2, p3, p4, p5, p6]
        refine tk (i := 2) (v := ?a109) rfl ?b109 (by assumption) ?c109
        case b109 => (intro w F; simp only [sees, kBlk, cellsAt, Nat.reduceAdd] at F; go_simp; try with_reducible rfl)
        try simp only [Act.put, p1, p2, p3, p4, p5, p6]
        refine sk (i := 3) rfl (by assumption) ?_
        try simp only [Act.put, p1, p2, p3, p4, p5, p6]
        refine sk (i := 4) rfl (by assumption) ?_
        try simp only [Act.put, p1, p2, p3, p4, p5, p6]
        refine sk (i := 5) rfl (by assumption) ?_
        try simp only [Act.put, p1, p2, p3, p4, p5, p6]
        refine tk (i := 6) (v := ?a110) rfl ?b110 (by assumption) ?c110
        case b110 => (intro w F; simp only [sees, kBlk, cellsAt, Nat.reduceAdd] at F; go_simp; try with_reducible rfl)
        try simp only [Act.put, p1, p2, p3, p4, p5, p6]
        refine tk (i := 7) (v := ?a111) rfl ?b111 (by assumption) ?c111
        case b111 => (intro w F; simp only [sees, kBlk, cellsAt, Nat.reduceAdd] at F; go_simp; try with_reducible rfl)
        try simp only [Act.put, p1, p2, p3, p4, p5, p6]
        refine tk (i := 8) (v := ?a112) rfl ?b112 (by assumption) ?c112
        case b112 => (intro w F; simp only [sees, kBlk, cellsAt, Nat.reduceAdd] at F; go_simp; try with_reducible rfl)
        try simp only [Act.put, p1, p2, p3, p4, p5, p6]
        refine wpAnyH_done (by kernel_rfl) ?_ _
        clear H8
        have H10 := Lib.hid hHeld
        clear hHeld
        go_wp2_with fail
        refine bodyPost_ret (v := .tuple #[.string Q, .bool (false)]) (by simp [results, Tryz.results47, go_sem]) rfl ⟨Q, ?_, ?_, H10.out.bel⟩
        · rw [HNo.out]
        · intro h; rw [HNo.out] at h; cases h
      · have e1 : (a1 == a3) = true := beq_iff_eq.2 x1
        have e2 : (a2 == a4) = false := beq_eq_false_iff_ne.2 x2
        have hone : oneB ⟨a1, a2, a3, a4⟩ = false := by unfold oneB; simp [x1, x2]
        clear x1 x2
        have HNo := keep (show okT ⟨5, n, s.data.toList, ⟨a1, a2, a3, a4⟩, 0⟩ = false from by
          rw [show okT ⟨5, n, s.data.toList, ⟨a1, a2, a3, a4⟩, 0⟩ = (checkB ⟨a1, a2, a3, a4⟩ && oneB ⟨a1, a2, a3, a4⟩ && bareB ⟨5, n, s.data.toList, R4.zero, 0⟩) from rfl, hck, Bool.false_and, Bool.false_and])
        clear hck hone
        have H1 := Lib.hid (((Ok.start w).alloc w.heap.size 43 [.int .u8 5, .int .i64 n, .string s, .int .i64 a1, .int .i64 a2, .int .i64 a3, .int .i64 a4, .int .i64 p] rfl).alloc (w.heap.size + 1) 43 [.int .u8 5, .int .i64 0, .string ⟨#[]⟩, .int .i64 a1, .int .i64 a2, .int .i64 a3, .int .i64 a4, .int .i64 p] (by simp))
        go_enter Tryz.func47, Tryz.ntmps47
        go_wp2_with fail
        generalize ((w.alloc (.cells #[.int .u8 5, .int .i64 n, .string s, .int .i64 a1, .int .i64 a2, .int .i64 a3, .int .i64 a4, .int .i64 p] 43)).alloc (.cells #[.int .u8 5, .int .i64 0, .string ⟨#[]⟩, .int .i64 a1, .int .i64 a2, .int .i64 a3, .int .i64 a4, .int .i64 p] 43)) = W2 at H1 ⊢
        refine (ref3_Format a1 a2 a3 a4 _).mono ?_
        rintro e w3 ⟨rfl, hb4⟩
        rw [HC.out, HQ.out]
        have H5 := Lib.hid (H1.out.below hb4)
        clear hb4 H1
        have F6 := H5.out.sees
        simp only [sees, kBlk, cellsAt, Nat.reduceAdd] at F6
        obtain ⟨⟨z0, c0_0, c0_1, c0_2, c0_3, c0_4, c0_5, c0_6, c0_7, -⟩, ⟨z1, c1_0, c1_1, c1_2, c1_3, c1_4, c1_5, c1_6, c1_7, -⟩, -⟩ := F6
        go_wp2_with fail
        clear z0 c0_0 c0_1 c0_2 c0_3 c0_4 c0_5 c0_6 c0_7 z1 c1_0 c1_1 c1_2 c1_3 c1_4 c1_5 c1_6 c1_7
        refine wp_region_held_drew (S := fun W => Ok w [kBlk (w.heap.size + 1) 43 [.int .u8 5, .int .i64 0, .string ⟨#[]⟩, .int .i64 a1, .int .i64 a2, .int .i64 a3, .int .i64 a4, .int .i64 p], kBlk (w.heap.size) 43 [.int .u8 5, .int .i64 n, .string s, .int .i64 a1, .int .i64 a2, .int .i64 a3, .int .i64 a4, .int .i64 p]] W) (by kernel_rfl) H5.out.drew (fun hHeld => ?_)
        refine tk (i := 0) (v := ?a113) rfl ?b113 (by assumption) ?c113
        case b113 => (intro w F; simp only [sees, kBlk, cellsAt, Nat.reduceAdd] at F; go_simp; try with_reducible rfl)
        try simp only [Act.put, p1, p2, p3, p4, p6]
        refine tk (i := 1) (v := ?a114) rfl ?b114 (by assumption) ?c114
        case b114 => (intro w F; simp only [sees, kBlk, cellsAt, Nat.reduceAdd] at F; go_simp; try with_reducible rfl)
        try simp only [Act.put, p1, p2, p3, p4, p5, p6]
        refine tk (i := 2) (v := ?a115) rfl ?b115 (by assumption) ?c115
        case b115 => (intro w F; simp only [sees, kBlk, cellsAt, Nat.reduceAdd] at F; go_simp; try with_reducible rfl)
        try simp only [Act.put, p1, p2, p3, p4, p5, p6]
        refine tk (i := 3) (v := ?a116) rfl ?b116 (by assumption) ?c116
        case b116 => (intro w F; simp only [sees, kBlk, cellsAt, Nat.reduceAdd] at F; go_simp; try with_reducible rfl)
        try simp only [Act.put, p1, p2, p3, p4, p5, p6]
        refine sk (i := 4) rfl (by assumption) ?_
        try simp only [Act.put, p1, p2, p3, p4, p5, p6]
        refine sk (i := 5) rfl (by assumption) ?_
        try simp only [Act.put, p1, p2, p3, p4, p5, p6]
        refine sk (i := 6) rfl (by assumption) ?_
        try simp only [Act.put, p1, p2, p3, p4, p5, p6]
        refine sk (i := 7) rfl (by assumption) ?_
        try simp only [Act.put, p1, p2, p3, p4, p5, p6]
        refine sk (i := 8) rfl (by assumption) ?_
        try simp only [Act.put, p1, p2, p3, p4, p5, p6]
        refine tk (i := 9) (v := ?a117) rfl ?b117 (by assumption) ?c117
        case b117 => (intro w F; simp only [sees, kBlk, cellsAt, Nat.reduceAdd] at F; go_simp; try with_reducible rfl)
        try simp only [Act.put, p1, p2, p3, p4, p5, p6]
        refine tk (i := 10) (v := ?a118) rfl ?b118 (by assumption) ?c118
        case b118 => (intro w F; simp only [sees, kBlk, cellsAt, Nat.reduceAdd] at F; go_simp; try with_reducible rfl)
        try simp only [Act.put, p1, p2, p3, p4, p5, p6]
        refine tk (i := 11) (v := ?a119) rfl ?b119 (by assumption) ?c119
        case b119 => (intro w F; simp only [sees, kBlk, cellsAt, Nat.reduceAdd] at F; go_simp; try with_reducible rfl)
        try simp only [Act.put, p1, p2, p3, p4, p5, p6]
        refine wpAnyH_done (by kernel_rfl) ?_ _
        clear H5
        have H8 := Lib.hid hHeld
        clear hHeld
        go_wp2_with fail
        refine wp_region_held_drew (S := fun W => Ok w [kBlk (w.heap.size + 1) 43 [.int .u8 5, .int .i64 0, .string ⟨#[]⟩, .int .i64 a1, .int .i64 a2, .int .i64 a3, .int .i64 a4, .int .i64 p], kBlk (w.heap.size) 43 [.int .u8 5, .int .i64 n, .string s, .int .i64 a1, .int .i64 a2, .int .i64 a3, .int .i64 a4, .int .i64 p]] W) (by kernel_rfl) H8.out.drew (fun hHeld => ?_)
        refine tk (i := 0) (v := ?a120) rfl ?b120 (by assumption) ?c120
        case b120 => (intro w F; simp only [sees, kBlk, cellsAt, Nat.reduceAdd] at F; go_simp; try with_reducible rfl)
        try simp only [Act.put, p1, p2, p3, p4, p6]
        refine tk (i := 1) (v := ?a121) rfl ?b121 (by assumption) ?c121
        case b121 => (intro w F; simp only [sees, kBlk, cellsAt, Nat.reduceAdd] at F; go_simp; try with_reducible rfl)
        try simp only [Act.put, p1, p2, p3, p4, p5, p6]
        refine tk (i := 2) (v := ?a122) rfl ?b122 (by assumption) ?c122
        case b122 => (intro w F; simp only [sees, kBlk, cellsAt, Nat.reduceAdd] at F; go_simp; try with_reducible rfl)
        try simp only [Act.put, p1, p2, p3, p4, p5, p6]
        refine sk (i := 3) rfl (by assumption) ?_
        try simp only [Act.put, p1, p2, p3, p4, p5, p6]
        refine sk (i := 4) rfl (by assumption) ?_
        try simp only [Act.put, p1, p2, p3, p4, p5, p6]
        refine sk (i := 5) rfl (by assumption) ?_
        try simp only [Act.put, p1, p2, p3, p4, p5, p6]
        refine tk (i := 6) (v := ?a123) rfl ?b123 (by assumption) ?c123
        case b123 => (intro w F; simp only [sees, kBlk, cellsAt, Nat.reduceAdd] at F; go_simp; try with_reducible rfl)
        try simp only [Act.put, p1, p2, p3, p4, p5, p6]
        refine tk (i := 7) (v := ?a124) rfl ?b124 (by assumption) ?c124
        case b124 => (intro w F; simp only [sees, kBlk, cellsAt, Nat.reduceAdd] at F; go_simp; try with_reducible rfl)
        try simp only [Act.put, p1, p2, p3, p4, p5, p6]
        refine tk (i := 8) (v := ?a125) rfl ?b125 (by assumption) ?c125
        case b125 => (intro w F; simp only [sees, kBlk, cellsAt, Nat.reduceAdd] at F; go_simp; try with_reducible rfl)
        try simp only [Act.put, p1, p2, p3, p4, p5, p6]
        refine wpAnyH_done (by kernel_rfl) ?_ _
        clear H8
        have H10 := Lib.hid hHeld
        clear hHeld
        go_wp2_with fail
        refine bodyPost_ret (v := .tuple #[.string Q, .bool (false)]) (by simp [results, Tryz.results47, go_sem]) rfl ⟨Q, ?_, ?_, H10.out.bel⟩
        · rw [HNo.out]
        · intro h; rw [HNo.out] at h; cases h
    · have e1 : (a1 == a3) = false := beq_eq_false_iff_ne.2 x1
      have hone : oneB ⟨a1, a2, a3, a4⟩ = false := by unfold oneB; simp [x1]
      clear x1
      have HNo := keep (show okT ⟨5, n, s.data.toList, ⟨a1, a2, a3, a4⟩, 0⟩ = false from by
        rw [show okT ⟨5, n, s.data.toList, ⟨a1, a2, a3, a4⟩, 0⟩ = (checkB ⟨a1, a2, a3, a4⟩ && oneB ⟨a1, a2, a3, a4⟩ && bareB ⟨5, n, s.data.toList, R4.zero, 0⟩) from rfl, hck, Bool.false_and, Bool.false_and])
      clear hck hone
      have H1 := Lib.hid (((Ok.start w).alloc w.heap.size 43 [.int .u8 5, .int .i64 n, .string s, .int .i64 a1, .int .i64 a2, .int .i64 a3, .int .i64 a4, .int .i64 p] rfl).alloc (w.heap.size + 1) 43 [.int .u8 5, .int .i64 0, .string ⟨#[]⟩, .int .i64 a1, .int .i64 a2, .int .i64 a3, .int .i64 a4, .int .i64 p] (by simp))
      go_enter Tryz.func47, Tryz.ntmps47
      go_wp2_with fail
      generalize ((w.alloc (.cells #[.int .u8 5, .int .i64 n, .string s, .int .i64 a1, .int .i64 a2, .int .i64 a3, .int .i64 a4, .int .i64 p] 43)).alloc (.cells #[.int .u8 5, .int .i64 0, .string ⟨#[]⟩, .int .i64 a1, .int .i64 a2, .int .i64 a3, .int .i64 a4, .int .i64 p] 43)) = W2 at H1 ⊢
      refine (ref3_Format a1 a2 a3 a4 _).mono ?_
      rintro e w3 ⟨rfl, hb4⟩
      rw [HC.out, HQ.out]
      have H5 := Lib.hid (H1.out.below hb4)
      clear hb4 H1
      have F6 := H5.out.sees
      simp only [sees, kBlk, cellsAt, Nat.reduceAdd] at F6
      obtain ⟨⟨z0, c0_0, c0_1, c0_2, c0_3, c0_4, c0_5, c0_6, c0_7, -⟩, ⟨z1, c1_0, c1_1, c1_2, c1_3, c1_4, c1_5, c1_6, c1_7, -⟩, -⟩ := F6
      go_wp2_with fail
      clear z0 c0_0 c0_1 c0_2 c0_3 c0_4 c0_5 c0_6 c0_7 z1 c1_0 c1_1 c1_2 c1_3 c1_4 c1_5 c1_6 c1_7
      refine wp_region_held_drew (S := fun W => Ok w [kBlk (w.heap.size + 1) 43 [.int .u8 5, .int .i64 0, .string ⟨#[]⟩, .int .i64 a1, .int .i64 a2, .int .i64 a3, .int .i64 a4, .int .i64 p], kBlk (w.heap.size) 43 [.int .u8 5, .int .i64 n, .string s, .int .i64 a1, .int .i64 a2, .int .i64 a3, .int .i64 a4, .int .i64 p]] W) (by kernel_rfl) H5.out.drew (fun hHeld => ?_)
      refine tk (i := 0) (v := ?a126) rfl ?b126 (by assumption) ?c126
      case b126 => (intro w F; simp only [sees, kBlk, cellsAt, Nat.reduceAdd] at F; go_simp; try with_reducible rfl)
      try simp only [Act.put, p1, p2, p3, p4, p6]
      refine tk (i := 1) (v := ?a127) rfl ?b127 (by assumption) ?c127
      case b127 => (intro w F; simp only [sees, kBlk, cellsAt, Nat.reduceAdd] at F; go_simp; try with_reducible rfl)
      try simp only [Act.put, p1, p2, p3, p4, p5, p6]
      refine tk (i := 2) (v := ?a128) rfl ?b128 (by assumption) ?c128
      case b128 => (intro w F; simp only [sees, kBlk, cellsAt, Nat.reduceAdd] at F; go_simp; try with_reducible rfl)
      try simp only [Act.put, p1, p2, p3, p4, p5, p6]
      refine tk (i := 3) (v := ?a129) rfl ?b129 (by assumption) ?c129
      case b129 => (intro w F; simp only [sees, kBlk, cellsAt, Nat.reduceAdd] at F; go_simp; try with_reducible rfl)
      try simp only [Act.put, p1, p2, p3, p4, p5, p6]
      refine sk (i := 4) rfl (by assumption) ?_
      try simp only [Act.put, p1, p2, p3, p4, p5, p6]
      refine sk (i := 5) rfl (by assumption) ?_
      try simp only [Act.put, p1, p2, p3, p4, p5, p6]
      refine sk (i := 6) rfl (by assumption) ?_
      try simp only [Act.put, p1, p2, p3, p4, p5, p6]
      refine sk (i := 7) rfl (by assumption) ?_
      try simp only [Act.put, p1, p2, p3, p4, p5, p6]
      refine sk (i := 8) rfl (by assumption) ?_
      try simp only [Act.put, p1, p2, p3, p4, p5, p6]
      refine tk (i := 9) (v := ?a130) rfl ?b130 (by assumption) ?c130
      case b130 => (intro w F; simp only [sees, kBlk, cellsAt, Nat.reduceAdd] at F; go_simp; try with_reducible rfl)
      try simp only [Act.put, p1, p2, p3, p4, p5, p6]
      refine tk (i := 10) (v := ?a131) rfl ?b131 (by assumption) ?c131
      case b131 => (intro w F; simp only [sees, kBlk, cellsAt, Nat.reduceAdd] at F; go_simp; try with_reducible rfl)
      try simp only [Act.put, p1, p2, p3, p4, p5, p6]
      refine tk (i := 11) (v := ?a132) rfl ?b132 (by assumption) ?c132
      case b132 => (intro w F; simp only [sees, kBlk, cellsAt, Nat.reduceAdd] at F; go_simp; try with_reducible rfl)
      try simp only [Act.put, p1, p2, p3, p4, p5, p6]
      refine wpAnyH_done (by kernel_rfl) ?_ _
      clear H5
      have H8 := Lib.hid hHeld
      clear hHeld
      go_wp2_with fail
      refine wp_region_held_drew (S := fun W => Ok w [kBlk (w.heap.size + 1) 43 [.int .u8 5, .int .i64 0, .string ⟨#[]⟩, .int .i64 a1, .int .i64 a2, .int .i64 a3, .int .i64 a4, .int .i64 p], kBlk (w.heap.size) 43 [.int .u8 5, .int .i64 n, .string s, .int .i64 a1, .int .i64 a2, .int .i64 a3, .int .i64 a4, .int .i64 p]] W) (by kernel_rfl) H8.out.drew (fun hHeld => ?_)
      refine tk (i := 0) (v := ?a133) rfl ?b133 (by assumption) ?c133
      case b133 => (intro w F; simp only [sees, kBlk, cellsAt, Nat.reduceAdd] at F; go_simp; try with_reducible rfl)
      try simp only [Act.put, p1, p2, p3, p4, p6]
      refine tk (i := 1) (v := ?a134) rfl ?b134 (by assumption) ?c134
      case b134 => (intro w F; simp only [sees, kBlk, cellsAt, Nat.reduceAdd] at F; go_simp; try with_reducible rfl)
      try simp only [Act.put, p1, p2, p3, p4, p5, p6]
      refine tk (i := 2) (v := ?a135) rfl ?b135 (by assumption) ?c135
      case b135 => (intro w F; simp only [sees, kBlk, cellsAt, Nat.reduceAdd] at F; go_simp; try with_reducible rfl)
      try simp only [Act.put, p1, p2, p3, p4, p5, p6]
      refine sk (i := 3) rfl (by assumption) ?_
      try simp only [Act.put, p1, p2, p3, p4, p5, p6]
      refine sk (i := 4) rfl (by assumption) ?_
      try simp only [Act.put, p1, p2, p3, p4, p5, p6]
      refine sk (i := 5) rfl (by assumption) ?_
      try simp only [Act.put, p1, p2, p3, p4, p5, p6]
      refine tk (i := 6) (v := ?a136) rfl ?b136 (by assumption) ?c136
      case b136 => (intro w F; simp only [sees, kBlk, cellsAt, Nat.reduceAdd] at F; go_simp; try with_reducible rfl)
      try simp only [Act.put, p1, p2, p3, p4, p5, p6]
      refine tk (i := 7) (v := ?a137) rfl ?b137 (by assumption) ?c137
      case b137 => (intro w F; simp only [sees, kBlk, cellsAt, Nat.reduceAdd] at F; go_simp; try with_reducible rfl)
      try simp only [Act.put, p1, p2, p3, p4, p5, p6]
      refine tk (i := 8) (v := ?a138) rfl ?b138 (by assumption) ?c138
      case b138 => (intro w F; simp only [sees, kBlk, cellsAt, Nat.reduceAdd] at F; go_simp; try with_reducible rfl)
      try simp only [Act.put, p1, p2, p3, p4, p5, p6]
      refine wpAnyH_done (by kernel_rfl) ?_ _
      clear H8
      have H10 := Lib.hid hHeld
      clear hHeld
      go_wp2_with fail
      refine bodyPost_ret (v := .tuple #[.string Q, .bool (false)]) (by simp [results, Tryz.results47, go_sem]) rfl ⟨Q, ?_, ?_, H10.out.bel⟩
      · rw [HNo.out]
      · intro h; rw [HNo.out] at h; cases h
set_option maxRecDepth 100000 in
set_option maxHeartbeats 4000000 in
theorem written_6 (n a1 a2 a3 a4 p : Int) (s : ByteArray) (w : World) :
    Calls Tryz.prog 47 #[.agg #[.int .u8 6, .int .i64 n, .string s, .int .i64 a1, .int .i64 a2, .int .i64 a3, .int .i64 a4, .int .i64 p]] w (WOut ⟨6, n, s.data.toList, ⟨a1, a2, a3, a4⟩, 0⟩ w) := by
  obtain ⟨c, hc⟩ : ∃ c, (fmtR ⟨a1, a2, a3, a4⟩).2 = c := ⟨_, rfl⟩
  obtain ⟨Q, hQ⟩ : ∃ Q : ByteArray, (⟨(fmtR ⟨a1, a2, a3, a4⟩).1.toArray⟩ : ByteArray) = Q := ⟨_, rfl⟩
  have hc2 := hc
  rw [fmtR_zero] at hc2
  have HC := keep hc
  have HQ := keep hQ
  clear hc hQ
  by_cases hck : checkB ⟨a1, a2, a3, a4⟩ = true
  · rw [if_pos hck] at hc2
    subst hc2
    by_cases x1 : a1 = a3
    · by_cases x2 : a2 = a4
      · have e1 : (a1 == a3) = true := beq_iff_eq.2 x1
        have e2 : (a2 == a4) = true := beq_iff_eq.2 x2
        have hone : oneB ⟨a1, a2, a3, a4⟩ = true := by unfold oneB; simp [x1, x2]
        clear x1 x2
        have HNo := keep (show okT ⟨6, n, s.data.toList, ⟨a1, a2, a3, a4⟩, 0⟩ = false from by
          rw [show okT ⟨6, n, s.data.toList, ⟨a1, a2, a3, a4⟩, 0⟩ = (checkB ⟨a1, a2, a3, a4⟩ && !oneB ⟨a1, a2, a3, a4⟩ && bareB ⟨6, n, s.data.toList, R4.zero, 0⟩) from rfl, hone, hck, Bool.true_and, Bool.not_true, Bool.false_and])
        clear hck hone
        have H1 := Lib.hid (((Ok.start w).alloc w.heap.size 43 [.int .u8 6, .int .i64 n, .string s, .int .i64 a1, .int .i64 a2, .int .i64 a3, .int .i64 a4, .int .i64 p] rfl).alloc (w.heap.size + 1) 43 [.int .u8 6, .int .i64 0, .string ⟨#[]⟩, .int .i64 a1, .int .i64 a2, .int .i64 a3, .int .i64 a4, .int .i64 p] (by simp))
        go_enter Tryz.func47, Tryz.ntmps47
        go_wp2_with fail
        generalize ((w.alloc (.cells #[.int .u8 6, .int .i64 n, .string s, .int .i64 a1, .int .i64 a2, .int .i64 a3, .int .i64 a4, .int .i64 p] 43)).alloc (.cells #[.int .u8 6, .int .i64 0, .string ⟨#[]⟩, .int .i64 a1, .int .i64 a2, .int .i64 a3, .int .i64 a4, .int .i64 p] 43)) = W2 at H1 ⊢
        refine (ref3_Format a1 a2 a3 a4 _).mono ?_
        rintro e w3 ⟨rfl, hb4⟩
        rw [HC.out, HQ.out]
        have H5 := Lib.hid (H1.out.below hb4)
        clear hb4 H1
        have F6 := H5.out.sees
        simp only [sees, kBlk, cellsAt, Nat.reduceAdd] at F6
        obtain ⟨⟨z0, c0_0, c0_1, c0_2, c0_3, c0_4, c0_5, c0_6, c0_7, -⟩, ⟨z1, c1_0, c1_1, c1_2, c1_3, c1_4, c1_5, c1_6, c1_7, -⟩, -⟩ := F6
        go_wp2_with fail
        clear z0 c0_0 c0_1 c0_2 c0_3 c0_4 c0_5 c0_6 c0_7 z1 c1_0 c1_1 c1_2 c1_3 c1_4 c1_5 c1_6 c1_7
        refine wp_region_held_drew (S := fun W => Ok w [kBlk (w.heap.size + 1) 43 [.int .u8 6, .int .i64 0, .string ⟨#[]⟩, .int .i64 a1, .int .i64 a2, .int .i64 a3, .int .i64 a4, .int .i64 p], kBlk (w.heap.size) 43 [.int .u8 6, .int .i64 n, .string s, .int .i64 a1, .int .i64 a2, .int .i64 a3, .int .i64 a4, .int .i64 p]] W) (by kernel_rfl) H5.out.drew (fun hHeld => ?_)
        refine tk (i := 0) (v := ?a139) rfl ?b139 (by assumption) ?c139
        case b139 => (intro w F; simp only [sees, kBlk, cellsAt, Nat.reduceAdd] at F; go_simp; try with_reducible rfl)
        try simp only [Act.put, p1, p2, p3, p4, p6]
        refine tk (i := 1) (v := ?a140) rfl ?b140 (by assumption) ?c140
        case b140 => (intro w F; simp only [sees, kBlk, cellsAt, Nat.reduceAdd] at F; go_simp; try with_reducible rfl)
        try simp only [Act.put, p1, p2, p3, p4, p5, p6]
        refine tk (i := 2) (v := ?a141) rfl ?b141 (by assumption) ?c141
        case b141 => (intro w F; simp only [sees, kBlk, cellsAt, Nat.reduceAdd] at F; go_simp; try with_reducible rfl)
        try simp only [Act.put, p1, p2, p3, p4, p5, p6]
        refine tk (i := 3) (v := ?a142) rfl ?b142 (by assumption) ?c142
        case b142 => (intro w F; simp only [sees, kBlk, cellsAt, Nat.reduceAdd] at F; go_simp; try with_reducible rfl)
        try simp only [Act.put, p1, p2, p3, p4, p5, p6]
        refine tk (i := 4) (v := ?a143) rfl ?b143 (by assumption) ?c143
        case b143 => (intro w F; simp only [sees, kBlk, cellsAt, Nat.reduceAdd] at F; go_simp; try with_reducible rfl)
        try simp only [Act.put, p1, p2, p3, p4, p5, p6]
        refine tk (i := 5) (v := ?a144) rfl ?b144 (by assumption) ?c144
        case b144 => (intro w F; simp only [sees, kBlk, cellsAt, Nat.reduceAdd] at F; go_simp; try with_reducible rfl)
        try simp only [Act.put, p1, p2, p3, p4, p5, p6]
        refine tk (i := 6) (v := ?a145) rfl ?b145 (by assumption) ?c145
        case b145 => (intro w F; simp only [sees, kBlk, cellsAt, Nat.reduceAdd] at F; go_simp; try with_reducible rfl)
        try simp only [Act.put, p1, p2, p3, p4, p5, p6]
        refine tk (i := 7) (v := ?a146) rfl ?b146 (by assumption) ?c146
        case b146 => (intro w F; simp only [sees, kBlk, cellsAt, Nat.reduceAdd] at F; go_simp; try with_reducible rfl)
        try simp only [Act.put, p1, p2, p3, p4, p5, p6]
        refine tk (i := 8) (v := ?a147) rfl ?b147 (by assumption) ?c147
        case b147 => (intro w F; simp only [sees, kBlk, cellsAt, Nat.reduceAdd] at F; go_simp; try with_reducible rfl)
        try simp only [Act.put, p1, p2, p3, p4, p5, p6]
        refine tk (i := 9) (v := ?a148) rfl ?b148 (by assumption) ?c148
        case b148 => (intro w F; simp only [sees, kBlk, cellsAt, Nat.reduceAdd] at F; go_simp; try with_reducible rfl)
        try simp only [Act.put, p1, p2, p3, p4, p5, p6]
        refine tk (i := 10) (v := ?a149) rfl ?b149 (by assumption) ?c149
        case b149 => (intro w F; simp only [sees, kBlk, cellsAt, Nat.reduceAdd] at F; go_simp; try with_reducible rfl)
        try simp only [Act.put, p1, p2, p3, p4, p5, p6]
        refine tk (i := 11) (v := ?a150) rfl ?b150 (by assumption) ?c150
        case b150 => (intro w F; simp only [sees, kBlk, cellsAt, Nat.reduceAdd] at F; go_simp; try with_reducible rfl)
        try simp only [Act.put, p1, p2, p3, p4, p5, p6]
        refine wpAnyH_done (by kernel_rfl) ?_ _
        clear H5
        have H8 := Lib.hid hHeld
        clear hHeld
        go_wp2_with fail
        refine wp_region_held_drew (S := fun W => Ok w [kBlk (w.heap.size + 1) 43 [.int .u8 6, .int .i64 0, .string ⟨#[]⟩, .int .i64 a1, .int .i64 a2, .int .i64 a3, .int .i64 a4, .int .i64 p], kBlk (w.heap.size) 43 [.int .u8 6, .int .i64 n, .string s, .int .i64 a1, .int .i64 a2, .int .i64 a3, .int .i64 a4, .int .i64 p]] W) (by kernel_rfl) H8.out.drew (fun hHeld => ?_)
        refine tk (i := 0) (v := ?a151) rfl ?b151 (by assumption) ?c151
        case b151 => (intro w F; simp only [sees, kBlk, cellsAt, Nat.reduceAdd] at F; go_simp; try with_reducible rfl)
        try simp only [Act.put, p1, p2, p3, p4, p6]
        refine tk (i := 1) (v := ?a152) rfl ?b152 (by assumption) ?c152
        case b152 => (intro w F; simp only [sees, kBlk, cellsAt, Nat.reduceAdd] at F; go_simp; try with_reducible rfl)
        try simp only [Act.put, p1, p2, p3, p4, p5, p6]
        refine tk (i := 2) (v := ?a153) rfl ?b153 (by assumption) ?c153
        case b153 => (intro w F; simp only [sees, kBlk, cellsAt, Nat.reduceAdd] at F; go_simp; try with_reducible rfl)
        try simp only [Act.put, p1, p2, p3, p4, p5, p6]
        refine sk (i := 3) rfl (by assumption) ?_
        try simp only [Act.put, p1, p2, p3, p4, p5, p6]
        refine sk (i := 4) rfl (by assumption) ?_
        try simp only [Act.put, p1, p2, p3, p4, p5, p6]
        refine sk (i := 5) rfl (by assumption) ?_
        try simp only [Act.put, p1, p2, p3, p4, p5, p6]
        refine tk (i := 6) (v := ?a154) rfl ?b154 (by assumption) ?c154
        case b154 => (intro w F; simp only [sees, kBlk, cellsAt, Nat.reduceAdd] at F; go_simp; try with_reducible rfl)
        try simp only [Act.put, p1, p2, p3, p4, p5, p6]
        refine tk (i := 7) (v := ?a155) rfl ?b155 (by assumption) ?c155
        case b155 => (intro w F; simp only [sees, kBlk, cellsAt, Nat.reduceAdd] at F; go_simp; try with_reducible rfl)
        try simp only [Act.put, p1, p2, p3, p4, p5, p6]
        refine tk (i := 8) (v := ?a156) rfl ?b156 (by assumption) ?c156
        case b156 => (intro w F; simp only [sees, kBlk, cellsAt, Nat.reduceAdd] at F; go_simp; try with_reducible rfl)
        try simp only [Act.put, p1, p2, p3, p4, p5, p6]
        refine wpAnyH_done (by kernel_rfl) ?_ _
        clear H8
        have H10 := Lib.hid hHeld
        clear hHeld
        go_wp2_with fail
        refine bodyPost_ret (v := .tuple #[.string Q, .bool (false)]) (by simp [results, Tryz.results47, go_sem]) rfl ⟨Q, ?_, ?_, H10.out.bel⟩
        · rw [HNo.out]
        · intro h; rw [HNo.out] at h; cases h
      · have e1 : (a1 == a3) = true := beq_iff_eq.2 x1
        have e2 : (a2 == a4) = false := beq_eq_false_iff_ne.2 x2
        have hone : oneB ⟨a1, a2, a3, a4⟩ = false := by unfold oneB; simp [x1, x2]
        clear x1 x2
        have HEq := keep (show eq8 6 n a1 a2 a3 a4 p 6 0 a1 a2 a3 a4 p s.toList [] = okT ⟨6, n, s.data.toList, ⟨a1, a2, a3, a4⟩, 0⟩ from by
          rw [show okT ⟨6, n, s.data.toList, ⟨a1, a2, a3, a4⟩, 0⟩ = (checkB ⟨a1, a2, a3, a4⟩ && !oneB ⟨a1, a2, a3, a4⟩ && bareB ⟨6, n, s.data.toList, R4.zero, 0⟩) from rfl, hck, hone]
          unfold eq8 bareB R4.zero
          rw [show s.data.toList.isEmpty = decide (s.data.toList = []) from by cases s.data.toList <;> rfl]
          simp [ByteArray.toList_eq])
        clear hck hone
        have H1 := Lib.hid (((Ok.start w).alloc w.heap.size 43 [.int .u8 6, .int .i64 n, .string s, .int .i64 a1, .int .i64 a2, .int .i64 a3, .int .i64 a4, .int .i64 p] rfl).alloc (w.heap.size + 1) 43 [.int .u8 6, .int .i64 0, .string ⟨#[]⟩, .int .i64 a1, .int .i64 a2, .int .i64 a3, .int .i64 a4, .int .i64 p] (by simp))
        go_enter Tryz.func47, Tryz.ntmps47
        go_wp2_with fail
        generalize ((w.alloc (.cells #[.int .u8 6, .int .i64 n, .string s, .int .i64 a1, .int .i64 a2, .int .i64 a3, .int .i64 a4, .int .i64 p] 43)).alloc (.cells #[.int .u8 6, .int .i64 0, .string ⟨#[]⟩, .int .i64 a1, .int .i64 a2, .int .i64 a3, .int .i64 a4, .int .i64 p] 43)) = W2 at H1 ⊢
        refine (ref3_Format a1 a2 a3 a4 _).mono ?_
        rintro e w3 ⟨rfl, hb4⟩
        rw [HC.out, HQ.out]
        have H5 := Lib.hid (H1.out.below hb4)
        clear hb4 H1
        have F6 := H5.out.sees
        simp only [sees, kBlk, cellsAt, Nat.reduceAdd] at F6
        obtain ⟨⟨z0, c0_0, c0_1, c0_2, c0_3, c0_4, c0_5, c0_6, c0_7, -⟩, ⟨z1, c1_0, c1_1, c1_2, c1_3, c1_4, c1_5, c1_6, c1_7, -⟩, -⟩ := F6
        go_wp2_with fail
        clear z0 c0_0 c0_1 c0_2 c0_3 c0_4 c0_5 c0_6 c0_7 z1 c1_0 c1_1 c1_2 c1_3 c1_4 c1_5 c1_6 c1_7
        refine wp_region_held_drew (S := fun W => Ok w [kBlk (w.heap.size + 1) 43 [.int .u8 6, .int .i64 0, .string ⟨#[]⟩, .int .i64 a1, .int .i64 a2, .int .i64 a3, .int .i64 a4, .int .i64 p], kBlk (w.heap.size) 43 [.int .u8 6, .int .i64 n, .string s, .int .i64 a1, .int .i64 a2, .int .i64 a3, .int .i64 a4, .int .i64 p]] W) (by kernel_rfl) H5.out.drew (fun hHeld => ?_)
        refine tk (i := 0) (v := ?a157) rfl ?b157 (by assumption) ?c157
        case b157 => (intro w F; simp only [sees, kBlk, cellsAt, Nat.reduceAdd] at F; go_simp; try with_reducible rfl)
        try simp only [Act.put, p1, p2, p3, p4, p6]
        refine tk (i := 1) (v := ?a158) rfl ?b158 (by assumption) ?c158
        case b158 => (intro w F; simp only [sees, kBlk, cellsAt, Nat.reduceAdd] at F; go_simp; try with_reducible rfl)
        try simp only [Act.put, p1, p2, p3, p4, p5, p6]
        refine tk (i := 2) (v := ?a159) rfl ?b159 (by assumption) ?c159
        case b159 => (intro w F; simp only [sees, kBlk, cellsAt, Nat.reduceAdd] at F; go_simp; try with_reducible rfl)
        try simp only [Act.put, p1, p2, p3, p4, p5, p6]
        refine tk (i := 3) (v := ?a160) rfl ?b160 (by assumption) ?c160
        case b160 => (intro w F; simp only [sees, kBlk, cellsAt, Nat.reduceAdd] at F; go_simp; try with_reducible rfl)
        try simp only [Act.put, p1, p2, p3, p4, p5, p6]
        refine tk (i := 4) (v := ?a161) rfl ?b161 (by assumption) ?c161
        case b161 => (intro w F; simp only [sees, kBlk, cellsAt, Nat.reduceAdd] at F; go_simp; try with_reducible rfl)
        try simp only [Act.put, p1, p2, p3, p4, p5, p6]
        refine tk (i := 5) (v := ?a162) rfl ?b162 (by assumption) ?c162
        case b162 => (intro w F; simp only [sees, kBlk, cellsAt, Nat.reduceAdd] at F; go_simp; try with_reducible rfl)
        try simp only [Act.put, p1, p2, p3, p4, p5, p6]
        refine tk (i := 6) (v := ?a163) rfl ?b163 (by assumption) ?c163
        case b163 => (intro w F; simp only [sees, kBlk, cellsAt, Nat.reduceAdd] at F; go_simp; try with_reducible rfl)
        try simp only [Act.put, p1, p2, p3, p4, p5, p6]
        refine tk (i := 7) (v := ?a164) rfl ?b164 (by assumption) ?c164
        case b164 => (intro w F; simp only [sees, kBlk, cellsAt, Nat.reduceAdd] at F; go_simp; try with_reducible rfl)
        try simp only [Act.put, p1, p2, p3, p4, p5, p6]
        refine tk (i := 8) (v := ?a165) rfl ?b165 (by assumption) ?c165
        case b165 => (intro w F; simp only [sees, kBlk, cellsAt, Nat.reduceAdd] at F; go_simp; try with_reducible rfl)
        try simp only [Act.put, p1, p2, p3, p4, p5, p6]
        refine tk (i := 9) (v := ?a166) rfl ?b166 (by assumption) ?c166
        case b166 => (intro w F; simp only [sees, kBlk, cellsAt, Nat.reduceAdd] at F; go_simp; try with_reducible rfl)
        try simp only [Act.put, p1, p2, p3, p4, p5, p6]
        refine tk (i := 10) (v := ?a167) rfl ?b167 (by assumption) ?c167
        case b167 => (intro w F; simp only [sees, kBlk, cellsAt, Nat.reduceAdd] at F; go_simp; try with_reducible rfl)
        try simp only [Act.put, p1, p2, p3, p4, p5, p6]
        refine tk (i := 11) (v := ?a168) rfl ?b168 (by assumption) ?c168
        case b168 => (intro w F; simp only [sees, kBlk, cellsAt, Nat.reduceAdd] at F; go_simp; try with_reducible rfl)
        try simp only [Act.put, p1, p2, p3, p4, p5, p6]
        refine wpAnyH_done (by kernel_rfl) ?_ _
        clear H5
        have H8 := Lib.hid hHeld
        clear hHeld
        go_wp2_with fail
        refine wp_region_held_drew (S := fun W => Ok w [kBlk (w.heap.size + 1) 43 [.int .u8 6, .int .i64 0, .string ⟨#[]⟩, .int .i64 a1, .int .i64 a2, .int .i64 a3, .int .i64 a4, .int .i64 p], kBlk (w.heap.size) 43 [.int .u8 6, .int .i64 n, .string s, .int .i64 a1, .int .i64 a2, .int .i64 a3, .int .i64 a4, .int .i64 p]] W) (by kernel_rfl) H8.out.drew (fun hHeld => ?_)
        refine tk (i := 0) (v := ?a169) rfl ?b169 (by assumption) ?c169
        case b169 => (intro w F; simp only [sees, kBlk, cellsAt, Nat.reduceAdd] at F; go_simp; try with_reducible rfl)
        try simp only [Act.put, p1, p2, p3, p4, p6]
        refine tk (i := 1) (v := ?a170) rfl ?b170 (by assumption) ?c170
        case b170 => (intro w F; simp only [sees, kBlk, cellsAt, Nat.reduceAdd] at F; go_simp; try with_reducible rfl)
        try simp only [Act.put, p1, p2, p3, p4, p5, p6]
        refine tk (i := 2) (v := ?a171) rfl ?b171 (by assumption) ?c171
        case b171 => (intro w F; simp only [sees, kBlk, cellsAt, Nat.reduceAdd] at F; go_simp; try with_reducible rfl)
        try simp only [Act.put, p1, p2, p3, p4, p5, p6]
        refine tk (i := 3) (v := ?a172) rfl ?b172 (by assumption) ?c172
        case b172 => (intro w F; simp only [sees, kBlk, cellsAt, Nat.reduceAdd] at F; go_simp; try with_reducible rfl)
        try simp only [Act.put, p1, p2, p3, p4, p5, p6]
        refine tk (i := 4) (v := ?a173) rfl ?b173 (by assumption) ?c173
        case b173 => (intro w F; simp only [sees, kBlk, cellsAt, Nat.reduceAdd] at F; go_simp; try with_reducible rfl)
        try simp only [Act.put, p1, p2, p3, p4, p5, p6]
        refine tk (i := 5) (v := ?a174) rfl ?b174 (by assumption) ?c174
        case b174 => (intro w F; simp only [sees, kBlk, cellsAt, Nat.reduceAdd] at F; go_simp; try with_reducible rfl)
        try simp only [Act.put, p1, p2, p3, p4, p5, p6]
        refine tk (i := 6) (v := ?a175) rfl ?b175 (by assumption) ?c175
        case b175 => (intro w F; simp only [sees, kBlk, cellsAt, Nat.reduceAdd] at F; go_simp; try with_reducible rfl)
        try simp only [Act.put, p1, p2, p3, p4, p5, p6]
        refine tk (i := 7) (v := ?a176) rfl ?b176 (by assumption) ?c176
        case b176 => (intro w F; simp only [sees, kBlk, cellsAt, Nat.reduceAdd] at F; go_simp; try with_reducible rfl)
        try simp only [Act.put, p1, p2, p3, p4, p5, p6]
        refine tk (i := 8) (v := ?a177) rfl ?b177 (by assumption) ?c177
        case b177 => (intro w F; simp only [sees, kBlk, cellsAt, Nat.reduceAdd] at F; go_simp; try with_reducible rfl)
        try simp only [Act.put, p1, p2, p3, p4, p5, p6]
        refine wpAnyH_done (by kernel_rfl) ?_ _
        clear H8
        have H10 := Lib.hid hHeld
        clear hHeld
        go_wp2_with fail
        refine bodyPost_ret (v := .tuple #[.string Q, .bool (eq8 6 0 a1 a2 a3 a4 p 6 n a1 a2 a3 a4 p [] s.toList)]) (by simp [results, Tryz.results47, go_sem]) rfl ⟨Q, ?_, ?_, H10.out.bel⟩
        · rw [eq8_comm, HEq.out]
        · intro _; rw [← HQ.out]; rfl
    · have e1 : (a1 == a3) = false := beq_eq_false_iff_ne.2 x1
      have hone : oneB ⟨a1, a2, a3, a4⟩ = false := by unfold oneB; simp [x1]
      clear x1
      have HEq := keep (show eq8 6 n a1 a2 a3 a4 p 6 0 a1 a2 a3 a4 p s.toList [] = okT ⟨6, n, s.data.toList, ⟨a1, a2, a3, a4⟩, 0⟩ from by
        rw [show okT ⟨6, n, s.data.toList, ⟨a1, a2, a3, a4⟩, 0⟩ = (checkB ⟨a1, a2, a3, a4⟩ && !oneB ⟨a1, a2, a3, a4⟩ && bareB ⟨6, n, s.data.toList, R4.zero, 0⟩) from rfl, hck, hone]
        unfold eq8 bareB R4.zero
        rw [show s.data.toList.isEmpty = decide (s.data.toList = []) from by cases s.data.toList <;> rfl]
        simp [ByteArray.toList_eq])
      clear hck hone
      have H1 := Lib.hid (((Ok.start w).alloc w.heap.size 43 [.int .u8 6, .int .i64 n, .string s, .int .i64 a1, .int .i64 a2, .int .i64 a3, .int .i64 a4, .int .i64 p] rfl).alloc (w.heap.size + 1) 43 [.int .u8 6, .int .i64 0, .string ⟨#[]⟩, .int .i64 a1, .int .i64 a2, .int .i64 a3, .int .i64 a4, .int .i64 p] (by simp))
      go_enter Tryz.func47, Tryz.ntmps47
      go_wp2_with fail
      generalize ((w.alloc (.cells #[.int .u8 6, .int .i64 n, .string s, .int .i64 a1, .int .i64 a2, .int .i64 a3, .int .i64 a4, .int .i64 p] 43)).alloc (.cells #[.int .u8 6, .int .i64 0, .string ⟨#[]⟩, .int .i64 a1, .int .i64 a2, .int .i64 a3, .int .i64 a4, .int .i64 p] 43)) = W2 at H1 ⊢
      refine (ref3_Format a1 a2 a3 a4 _).mono ?_
      rintro e w3 ⟨rfl, hb4⟩
      rw [HC.out, HQ.out]
      have H5 := Lib.hid (H1.out.below hb4)
      clear hb4 H1
      have F6 := H5.out.sees
      simp only [sees, kBlk, cellsAt, Nat.reduceAdd] at F6
      obtain ⟨⟨z0, c0_0, c0_1, c0_2, c0_3, c0_4, c0_5, c0_6, c0_7, -⟩, ⟨z1, c1_0, c1_1, c1_2, c1_3, c1_4, c1_5, c1_6, c1_7, -⟩, -⟩ := F6
      go_wp2_with fail
      clear z0 c0_0 c0_1 c0_2 c0_3 c0_4 c0_5 c0_6 c0_7 z1 c1_0 c1_1 c1_2 c1_3 c1_4 c1_5 c1_6 c1_7
      refine wp_region_held_drew (S := fun W => Ok w [kBlk (w.heap.size + 1) 43 [.int .u8 6, .int .i64 0, .string ⟨#[]⟩, .int .i64 a1, .int .i64 a2, .int .i64 a3, .int .i64 a4, .int .i64 p], kBlk (w.heap.size) 43 [.int .u8 6, .int .i64 n, .string s, .int .i64 a1, .int .i64 a2, .int .i64 a3, .int .i64 a4, .int .i64 p]] W) (by kernel_rfl) H5.out.drew (fun hHeld => ?_)
      refine tk (i := 0) (v := ?a178) rfl ?b178 (by assumption) ?c178
      case b178 => (intro w F; simp only [sees, kBlk, cellsAt, Nat.reduceAdd] at F; go_simp; try with_reducible rfl)
      try simp only [Act.put, p1, p2, p3, p4, p6]
      refine tk (i := 1) (v := ?a179) rfl ?b179 (by assumption) ?c179
      case b179 => (intro w F; simp only [sees, kBlk, cellsAt, Nat.reduceAdd] at F; go_simp; try with_reducible rfl)
      try simp only [Act.put, p1, p2, p3, p4, p5, p6]
      refine tk (i := 2) (v := ?a180) rfl ?b180 (by assumption) ?c180
      case b180 => (intro w F; simp only [sees, kBlk, cellsAt, Nat.reduceAdd] at F; go_simp; try with_reducible rfl)
      try simp only [Act.put, p1, p2, p3, p4, p5, p6]
      refine tk (i := 3) (v := ?a181) rfl ?b181 (by assumption) ?c181
      case b181 => (intro w F; simp only [sees, kBlk, cellsAt, Nat.reduceAdd] at F; go_simp; try with_reducible rfl)
      try simp only [Act.put, p1, p2, p3, p4, p5, p6]
      refine tk (i := 4) (v := ?a182) rfl ?b182 (by assumption) ?c182
      case b182 => (intro w F; simp only [sees, kBlk, cellsAt, Nat.reduceAdd] at F; go_simp; try with_reducible rfl)
      try simp only [Act.put, p1, p2, p3, p4, p5, p6]
      refine tk (i := 5) (v := ?a183) rfl ?b183 (by assumption) ?c183
      case b183 => (intro w F; simp only [sees, kBlk, cellsAt, Nat.reduceAdd] at F; go_simp; try with_reducible rfl)
      try simp only [Act.put, p1, p2, p3, p4, p5, p6]
      refine tk (i := 6) (v := ?a184) rfl ?b184 (by assumption) ?c184
      case b184 => (intro w F; simp only [sees, kBlk, cellsAt, Nat.reduceAdd] at F; go_simp; try with_reducible rfl)
      try simp only [Act.put, p1, p2, p3, p4, p5, p6]
      refine tk (i := 7) (v := ?a185) rfl ?b185 (by assumption) ?c185
      case b185 => (intro w F; simp only [sees, kBlk, cellsAt, Nat.reduceAdd] at F; go_simp; try with_reducible rfl)
      try simp only [Act.put, p1, p2, p3, p4, p5, p6]
      refine tk (i := 8) (v := ?a186) rfl ?b186 (by assumption) ?c186
      case b186 => (intro w F; simp only [sees, kBlk, cellsAt, Nat.reduceAdd] at F; go_simp; try with_reducible rfl)
      try simp only [Act.put, p1, p2, p3, p4, p5, p6]
      refine tk (i := 9) (v := ?a187) rfl ?b187 (by assumption) ?c187
      case b187 => (intro w F; simp only [sees, kBlk, cellsAt, Nat.reduceAdd] at F; go_simp; try with_reducible rfl)
      try simp only [Act.put, p1, p2, p3, p4, p5, p6]
      refine tk (i := 10) (v := ?a188) rfl ?b188 (by assumption) ?c188
      case b188 => (intro w F; simp only [sees, kBlk, cellsAt, Nat.reduceAdd] at F; go_simp; try with_reducible rfl)
      try simp only [Act.put, p1, p2, p3, p4, p5, p6]
      refine tk (i := 11) (v := ?a189) rfl ?b189 (by assumption) ?c189
      case b189 => (intro w F; simp only [sees, kBlk, cellsAt, Nat.reduceAdd] at F; go_simp; try with_reducible rfl)
      try simp only [Act.put, p1, p2, p3, p4, p5, p6]
      refine wpAnyH_done (by kernel_rfl) ?_ _
      clear H5
      have H8 := Lib.hid hHeld
      clear hHeld
      go_wp2_with fail
      refine wp_region_held_drew (S := fun W => Ok w [kBlk (w.heap.size + 1) 43 [.int .u8 6, .int .i64 0, .string ⟨#[]⟩, .int .i64 a1, .int .i64 a2, .int .i64 a3, .int .i64 a4, .int .i64 p], kBlk (w.heap.size) 43 [.int .u8 6, .int .i64 n, .string s, .int .i64 a1, .int .i64 a2, .int .i64 a3, .int .i64 a4, .int .i64 p]] W) (by kernel_rfl) H8.out.drew (fun hHeld => ?_)
      refine tk (i := 0) (v := ?a190) rfl ?b190 (by assumption) ?c190
      case b190 => (intro w F; simp only [sees, kBlk, cellsAt, Nat.reduceAdd] at F; go_simp; try with_reducible rfl)
      try simp only [Act.put, p1, p2, p3, p4, p6]
      refine tk (i := 1) (v := ?a191) rfl ?b191 (by assumption) ?c191
      case b191 => (intro w F; simp only [sees, kBlk, cellsAt, Nat.reduceAdd] at F; go_simp; try with_reducible rfl)
      try simp only [Act.put, p1, p2, p3, p4, p5, p6]
      refine tk (i := 2) (v := ?a192) rfl ?b192 (by assumption) ?c192
      case b192 => (intro w F; simp only [sees, kBlk, cellsAt, Nat.reduceAdd] at F; go_simp; try with_reducible rfl)
      try simp only [Act.put, p1, p2, p3, p4, p5, p6]
      refine tk (i := 3) (v := ?a193) rfl ?b193 (by assumption) ?c193
      case b193 => (intro w F; simp only [sees, kBlk, cellsAt, Nat.reduceAdd] at F; go_simp; try with_reducible rfl)
      try simp only [Act.put, p1, p2, p3, p4, p5, p6]
      refine tk (i := 4) (v := ?a194) rfl ?b194 (by assumption) ?c194
      case b194 => (intro w F; simp only [sees, kBlk, cellsAt, Nat.reduceAdd] at F; go_simp; try with_reducible rfl)
      try simp only [Act.put, p1, p2, p3, p4, p5, p6]
      refine tk (i := 5) (v := ?a195) rfl ?b195 (by assumption) ?c195
      case b195 => (intro w F; simp only [sees, kBlk, cellsAt, Nat.reduceAdd] at F; go_simp; try with_reducible rfl)
      try simp only [Act.put, p1, p2, p3, p4, p5, p6]
      refine tk (i := 6) (v := ?a196) rfl ?b196 (by assumption) ?c196
      case b196 => (intro w F; simp only [sees, kBlk, cellsAt, Nat.reduceAdd] at F; go_simp; try with_reducible rfl)
      try simp only [Act.put, p1, p2, p3, p4, p5, p6]
      refine tk (i := 7) (v := ?a197) rfl ?b197 (by assumption) ?c197
      case b197 => (intro w F; simp only [sees, kBlk, cellsAt, Nat.reduceAdd] at F; go_simp; try with_reducible rfl)
      try simp only [Act.put, p1, p2, p3, p4, p5, p6]
      refine tk (i := 8) (v := ?a198) rfl ?b198 (by assumption) ?c198
      case b198 => (intro w F; simp only [sees, kBlk, cellsAt, Nat.reduceAdd] at F; go_simp; try with_reducible rfl)
      try simp only [Act.put, p1, p2, p3, p4, p5, p6]
      refine wpAnyH_done (by kernel_rfl) ?_ _
      clear H8
      have H10 := Lib.hid hHeld
      clear hHeld
      go_wp2_with fail
      refine bodyPost_ret (v := .tuple #[.string Q, .bool (eq8 6 0 a1 a2 a3 a4 p 6 n a1 a2 a3 a4 p [] s.toList)]) (by simp [results, Tryz.results47, go_sem]) rfl ⟨Q, ?_, ?_, H10.out.bel⟩
      · rw [eq8_comm, HEq.out]
      · intro _; rw [← HQ.out]; rfl
  · rw [if_neg hck] at hc2
    subst hc2
    rw [Bool.not_eq_true] at hck
    by_cases x1 : a1 = a3
    · by_cases x2 : a2 = a4
      · have e1 : (a1 == a3) = true := beq_iff_eq.2 x1
        have e2 : (a2 == a4) = true := beq_iff_eq.2 x2
        have hone : oneB ⟨a1, a2, a3, a4⟩ = true := by unfold oneB; simp [x1, x2]
        clear x1 x2
        have HNo := keep (show okT ⟨6, n, s.data.toList, ⟨a1, a2, a3, a4⟩, 0⟩ = false from by
          rw [show okT ⟨6, n, s.data.toList, ⟨a1, a2, a3, a4⟩, 0⟩ = (checkB ⟨a1, a2, a3, a4⟩ && !oneB ⟨a1, a2, a3, a4⟩ && bareB ⟨6, n, s.data.toList, R4.zero, 0⟩) from rfl, hck, Bool.false_and, Bool.false_and])
        clear hck hone
        have H1 := Lib.hid (((Ok.start w).alloc w.heap.size 43 [.int .u8 6, .int .i64 n, .string s, .int .i64 a1, .int .i64 a2, .int .i64 a3, .int .i64 a4, .int .i64 p] rfl).alloc (w.heap.size + 1) 43 [.int .u8 6, .int .i64 0, .string ⟨#[]⟩, .int .i64 a1, .int .i64 a2, .int .i64 a3, .int .i64 a4, .int .i64 p] (by simp))
        go_enter Tryz.func47, Tryz.ntmps47
        go_wp2_with fail
        generalize ((w.alloc (.cells #[.int .u8 6, .int .i64 n, .string s, .int .i64 a1, .int .i64 a2, .int .i64 a3, .int .i64 a4, .int .i64 p] 43)).alloc (.cells #[.int .u8 6, .int .i64 0, .string ⟨#[]⟩, .int .i64 a1, .int .i64 a2, .int .i64 a3, .int .i64 a4, .int .i64 p] 43)) = W2 at H1 ⊢
        refine (ref3_Format a1 a2 a3 a4 _).mono ?_
        rintro e w3 ⟨rfl, hb4⟩
        rw [HC.out, HQ.out]
        have H5 := Lib.hid (H1.out.below hb4)
        clear hb4 H1
        have F6 := H5.out.sees
        simp only [sees, kBlk, cellsAt, Nat.reduceAdd] at F6
        obtain ⟨⟨z0, c0_0, c0_1, c0_2, c0_3, c0_4, c0_5, c0_6, c0_7, -⟩, ⟨z1, c1_0, c1_1, c1_2, c1_3, c1_4, c1_5, c1_6, c1_7, -⟩, -⟩ := F6
        go_wp2_with fail
        clear z0 c0_0 c0_1 c0_2 c0_3 c0_4 c0_5 c0_6 c0_7 z1 c1_0 c1_1 c1_2 c1_3 c1_4 c1_5 c1_6 c1_7
        refine wp_region_held_drew (S := fun W => Ok w [kBlk (w.heap.size + 1) 43 [.int .u8 6, .int .i64 0, .string ⟨#[]⟩, .int .i64 a1, .int .i64 a2, .int .i64 a3, .int .i64 a4, .int .i64 p], kBlk (w.heap.size) 43 [.int .u8 6, .int .i64 n, .string s, .int .i64 a1, .int .i64 a2, .int .i64 a3, .int .i64 a4, .int .i64 p]] W) (by kernel_rfl) H5.out.drew (fun hHeld => ?_)
        refine tk (i := 0) (v := ?a199) rfl ?b199 (by assumption) ?c199
        case b199 => (intro w F; simp only [sees, kBlk, cellsAt, Nat.reduceAdd] at F; go_simp; try with_reducible rfl)
        try simp only [Act.put, p1, p2, p3, p4, p6]
        refine tk (i := 1) (v := ?a200) rfl ?b200 (by assumption) ?c200
        case b200 => (intro w F; simp only [sees, kBlk, cellsAt, Nat.reduceAdd] at F; go_simp; try with_reducible rfl)
        try simp only [Act.put, p1, p2, p3, p4, p5, p6]
        refine tk (i := 2) (v := ?a201) rfl ?b201 (by assumption) ?c201
        case b201 => (intro w F; simp only [sees, kBlk, cellsAt, Nat.reduceAdd] at F; go_simp; try with_reducible rfl)
        try simp only [Act.put, p1, p2, p3, p4, p5, p6]
        refine tk (i := 3) (v := ?a202) rfl ?b202 (by assumption) ?c202
        case b202 => (intro w F; simp only [sees, kBlk, cellsAt, Nat.reduceAdd] at F; go_simp; try with_reducible rfl)
        try simp only [Act.put, p1, p2, p3, p4, p5, p6]
        refine sk (i := 4) rfl (by assumption) ?_
        try simp only [Act.put, p1, p2, p3, p4, p5, p6]
        refine sk (i := 5) rfl (by assumption) ?_
        try simp only [Act.put, p1, p2, p3, p4, p5, p6]
        refine sk (i := 6) rfl (by assumption) ?_
        try simp only [Act.put, p1, p2, p3, p4, p5, p6]
        refine sk (i := 7) rfl (by assumption) ?_
        try simp only [Act.put, p1, p2, p3, p4, p5, p6]
        refine sk (i := 8) rfl (by assumption) ?_
        try simp only [Act.put, p1, p2, p3, p4, p5, p6]
        refine tk (i := 9) (v := ?a203) rfl ?b203 (by assumption) ?c203
        case b203 => (intro w F; simp only [sees, kBlk, cellsAt, Nat.reduceAdd] at F; go_simp; try with_reducible rfl)
        try simp only [Act.put, p1, p2, p3, p4, p5, p6]
        refine tk (i := 10) (v := ?a204) rfl ?b204 (by assumption) ?c204
        case b204 => (intro w F; simp only [sees, kBlk, cellsAt, Nat.reduceAdd] at F; go_simp; try with_reducible rfl)
        try simp only [Act.put, p1, p2, p3, p4, p5, p6]
        refine tk (i := 11) (v := ?a205) rfl ?b205 (by assumption) ?c205
        case b205 => (intro w F; simp only [sees, kBlk, cellsAt, Nat.reduceAdd] at F; go_simp; try with_reducible rfl)
        try simp only [Act.put, p1, p2, p3, p4, p5, p6]
        refine wpAnyH_done (by kernel_rfl) ?_ _
        clear H5
        have H8 := Lib.hid hHeld
        clear hHeld
        go_wp2_with fail
        refine wp_region_held_drew (S := fun W => Ok w [kBlk (w.heap.size + 1) 43 [.int .u8 6, .int .i64 0, .string ⟨#[]⟩, .int .i64 a1, .int .i64 a2, .int .i64 a3, .int .i64 a4, .int .i64 p], kBlk (w.heap.size) 43 [.int .u8 6, .int .i64 n, .string s, .int .i64 a1, .int .i64 a2, .int .i64 a3, .int .i64 a4, .int .i64 p]] W) (by kernel_rfl) H8.out.drew (fun hHeld => ?_)
        refine tk (i := 0) (v := ?a206) rfl ?b206 (by assumption) ?c206
        case b206 => (intro w F; simp only [sees, kBlk, cellsAt, Nat.reduceAdd] at F; go_simp; try with_reducible rfl)
        try simp only [Act.put, p1, p2, p3, p4, p6]
        refine tk (i := 1) (v := ?a207) rfl ?b207 (by assumption) ?c207
        case b207 => (intro w F; simp only [sees, kBlk, cellsAt, Nat.reduceAdd] at F; go_simp; try with_reducible rfl)
        try simp only [Act.put, p1, p2, p3, p4, p5, p6]
        refine tk (i := 2) (v := ?a208) rfl ?b208 (by assumption) ?c208
        case b208 => (intro w F; simp only [sees, kBlk, cellsAt, Nat.reduceAdd] at F; go_simp; try with_reducible rfl)
        try simp only [Act.put, p1, p2, p3, p4, p5, p6]
        refine sk (i := 3) rfl (by assumption) ?_
        try simp only [Act.put, p1, p2, p3, p4, p5, p6]
        refine sk (i := 4) rfl (by assumption) ?_
        try simp only [Act.put, p1, p2, p3, p4, p5, p6]
        refine sk (i := 5) rfl (by assumption) ?_
        try simp only [Act.put, p1, p2, p3, p4, p5, p6]
        refine tk (i := 6) (v := ?a209) rfl ?b209 (by assumption) ?c209
        case b209 => (intro w F; simp only [sees, kBlk, cellsAt, Nat.reduceAdd] at F; go_simp; try with_reducible rfl)
        try simp only [Act.put, p1, p2, p3, p4, p5, p6]
        refine tk (i := 7) (v := ?a210) rfl ?b210 (by assumption) ?c210
        case b210 => (intro w F; simp only [sees, kBlk, cellsAt, Nat.reduceAdd] at F; go_simp; try with_reducible rfl)
        try simp only [Act.put, p1, p2, p3, p4, p5, p6]
        refine tk (i := 8) (v := ?a211) rfl ?b211 (by assumption) ?c211
        case b211 => (intro w F; simp only [sees, kBlk, cellsAt, Nat.reduceAdd] at F; go_simp; try with_reducible rfl)
        try simp only [Act.put, p1, p2, p3, p4, p5, p6]
        refine wpAnyH_done (by kernel_rfl) ?_ _
        clear H8
        have H10 := Lib.hid hHeld
        clear hHeld
        go_wp2_with fail
        refine bodyPost_ret (v := .tuple #[.string Q, .bool (false)]) (by simp [results, Tryz.results47, go_sem]) rfl ⟨Q, ?_, ?_, H10.out.bel⟩
        · rw [HNo.out]
        · intro h; rw [HNo.out] at h; cases h
      · have e1 : (a1 == a3) = true := beq_iff_eq.2 x1
        have e2 : (a2 == a4) = false := beq_eq_false_iff_ne.2 x2
        have hone : oneB ⟨a1, a2, a3, a4⟩ = false := by unfold oneB; simp [x1, x2]
        clear x1 x2
        have HNo := keep (show okT ⟨6, n, s.data.toList, ⟨a1, a2, a3, a4⟩, 0⟩ = false from by
          rw [show okT ⟨6, n, s.data.toList, ⟨a1, a2, a3, a4⟩, 0⟩ = (checkB ⟨a1, a2, a3, a4⟩ && !oneB ⟨a1, a2, a3, a4⟩ && bareB ⟨6, n, s.data.toList, R4.zero, 0⟩) from rfl, hck, Bool.false_and, Bool.false_and])
        clear hck hone
        have H1 := Lib.hid (((Ok.start w).alloc w.heap.size 43 [.int .u8 6, .int .i64 n, .string s, .int .i64 a1, .int .i64 a2, .int .i64 a3, .int .i64 a4, .int .i64 p] rfl).alloc (w.heap.size + 1) 43 [.int .u8 6, .int .i64 0, .string ⟨#[]⟩, .int .i64 a1, .int .i64 a2, .int .i64 a3, .int .i64 a4, .int .i64 p] (by simp))
        go_enter Tryz.func47, Tryz.ntmps47
        go_wp2_with fail
        generalize ((w.alloc (.cells #[.int .u8 6, .int .i64 n, .string s, .int .i64 a1, .int .i64 a2, .int .i64 a3, .int .i64 a4, .int .i64 p] 43)).alloc (.cells #[.int .u8 6, .int .i64 0, .string ⟨#[]⟩, .int .i64 a1, .int .i64 a2, .int .i64 a3, .int .i64 a4, .int .i64 p] 43)) = W2 at H1 ⊢
        refine (ref3_Format a1 a2 a3 a4 _).mono ?_
        rintro e w3 ⟨rfl, hb4⟩
        rw [HC.out, HQ.out]
        have H5 := Lib.hid (H1.out.below hb4)
        clear hb4 H1
        have F6 := H5.out.sees
        simp only [sees, kBlk, cellsAt, Nat.reduceAdd] at F6
        obtain ⟨⟨z0, c0_0, c0_1, c0_2, c0_3, c0_4, c0_5, c0_6, c0_7, -⟩, ⟨z1, c1_0, c1_1, c1_2, c1_3, c1_4, c1_5, c1_6, c1_7, -⟩, -⟩ := F6
        go_wp2_with fail
        clear z0 c0_0 c0_1 c0_2 c0_3 c0_4 c0_5 c0_6 c0_7 z1 c1_0 c1_1 c1_2 c1_3 c1_4 c1_5 c1_6 c1_7
        refine wp_region_held_drew (S := fun W => Ok w [kBlk (w.heap.size + 1) 43 [.int .u8 6, .int .i64 0, .string ⟨#[]⟩, .int .i64 a1, .int .i64 a2, .int .i64 a3, .int .i64 a4, .int .i64 p], kBlk (w.heap.size) 43 [.int .u8 6, .int .i64 n, .string s, .int .i64 a1, .int .i64 a2, .int .i64 a3, .int .i64 a4, .int .i64 p]] W) (by kernel_rfl) H5.out.drew (fun hHeld => ?_)
        refine tk (i := 0) (v := ?a212) rfl ?b212 (by assumption) ?c212
        case b212 => (intro w F; simp only [sees, kBlk, cellsAt, Nat.reduceAdd] at F; go_simp; try with_reducible rfl)
        try simp only [Act.put, p1, p2, p3, p4, p6]
        refine tk (i := 1) (v := ?a213) rfl ?b213 (by assumption) ?c213
        case b213 => (intro w F; simp only [sees, kBlk, cellsAt, Nat.reduceAdd] at F; go_simp; try with_reducible rfl)
        try simp only [Act.put, p1, p2, p3, p4, p5, p6]
        refine tk (i := 2) (v := ?a214) rfl ?b214 (by assumption) ?c214
        case b214 => (intro w F; simp only [sees, kBlk, cellsAt, Nat.reduceAdd] at F; go_simp; try with_reducible rfl)
        try simp only [Act.put, p1, p2, p3, p4, p5, p6]
        refine tk (i := 3) (v := ?a215) rfl ?b215 (by assumption) ?c215
        case b215 => (intro w F; simp only [sees, kBlk, cellsAt, Nat.reduceAdd] at F; go_simp; try with_reducible rfl)
        try simp only [Act.put, p1, p2, p3, p4, p5, p6]
        refine sk (i := 4) rfl (by assumption) ?_
        try simp only [Act.put, p1, p2, p3, p4, p5, p6]
        refine sk (i := 5) rfl (by assumption) ?_
        try simp only [Act.put, p1, p2, p3, p4, p5, p6]
        refine sk (i := 6) rfl (by assumption) ?_
        try simp only [Act.put, p1, p2, p3, p4, p5, p6]
        refine sk (i := 7) rfl (by assumption) ?_
        try simp only [Act.put, p1, p2, p3, p4, p5, p6]
        refine sk (i := 8) rfl (by assumption) ?_
        try simp only [Act.put, p1, p2, p3, p4, p5, p6]
        refine tk (i := 9) (v := ?a216) rfl ?b216 (by assumption) ?c216
        case b216 => (intro w F; simp only [sees, kBlk, cellsAt, Nat.reduceAdd] at F; go_simp; try with_reducible rfl)
        try simp only [Act.put, p1, p2, p3, p4, p5, p6]
        refine tk (i := 10) (v := ?a217) rfl ?b217 (by assumption) ?c217
        case b217 => (intro w F; simp only [sees, kBlk, cellsAt, Nat.reduceAdd] at F; go_simp; try with_reducible rfl)
        try simp only [Act.put, p1, p2, p3, p4, p5, p6]
        refine tk (i := 11) (v := ?a218) rfl ?b218 (by assumption) ?c218
        case b218 => (intro w F; simp only [sees, kBlk, cellsAt, Nat.reduceAdd] at F; go_simp; try with_reducible rfl)
        try simp only [Act.put, p1, p2, p3, p4, p5, p6]
        refine wpAnyH_done (by kernel_rfl) ?_ _
        clear H5
        have H8 := Lib.hid hHeld
        clear hHeld
        go_wp2_with fail
        refine wp_region_held_drew (S := fun W => Ok w [kBlk (w.heap.size + 1) 43 [.int .u8 6, .int .i64 0, .string ⟨#[]⟩, .int .i64 a1, .int .i64 a2, .int .i64 a3, .int .i64 a4, .int .i64 p], kBlk (w.heap.size) 43 [.int .u8 6, .int .i64 n, .string s, .int .i64 a1, .int .i64 a2, .int .i64 a3, .int .i64 a4, .int .i64 p]] W) (by kernel_rfl) H8.out.drew (fun hHeld => ?_)
        refine tk (i := 0) (v := ?a219) rfl ?b219 (by assumption) ?c219
        case b219 => (intro w F; simp only [sees, kBlk, cellsAt, Nat.reduceAdd] at F; go_simp; try with_reducible rfl)
        try simp only [Act.put, p1, p2, p3, p4, p6]
        refine tk (i := 1) (v := ?a220) rfl ?b220 (by assumption) ?c220
        case b220 => (intro w F; simp only [sees, kBlk, cellsAt, Nat.reduceAdd] at F; go_simp; try with_reducible rfl)
        try simp only [Act.put, p1, p2, p3, p4, p5, p6]
        refine tk (i := 2) (v := ?a221) rfl ?b221 (by assumption) ?c221
        case b221 => (intro w F; simp only [sees, kBlk, cellsAt, Nat.reduceAdd] at F; go_simp; try with_reducible rfl)
        try simp only [Act.put, p1, p2, p3, p4, p5, p6]
        refine sk (i := 3) rfl (by assumption) ?_
        try simp only [Act.put, p1, p2, p3, p4, p5, p6]
        refine sk (i := 4) rfl (by assumption) ?_
        try simp only [Act.put, p1, p2, p3, p4, p5, p6]
        refine sk (i := 5) rfl (by assumption) ?_
        try simp only [Act.put, p1, p2, p3, p4, p5, p6]
        refine tk (i := 6) (v := ?a222) rfl ?b222 (by assumption) ?c222
        case b222 => (intro w F; simp only [sees, kBlk, cellsAt, Nat.reduceAdd] at F; go_simp; try with_reducible rfl)
        try simp only [Act.put, p1, p2, p3, p4, p5, p6]
        refine tk (i := 7) (v := ?a223) rfl ?b223 (by assumption) ?c223
        case b223 => (intro w F; simp only [sees, kBlk, cellsAt, Nat.reduceAdd] at F; go_simp; try with_reducible rfl)
        try simp only [Act.put, p1, p2, p3, p4, p5, p6]
        refine tk (i := 8) (v := ?a224) rfl ?b224 (by assumption) ?c224
        case b224 => (intro w F; simp only [sees, kBlk, cellsAt, Nat.reduceAdd] at F; go_simp; try with_reducible rfl)
        try simp only [Act.put, p1, p2, p3, p4, p5, p6]
        refine wpAnyH_done (by kernel_rfl) ?_ _
        clear H8
        have H10 := Lib.hid hHeld
        clear hHeld
        go_wp2_with fail
        refine bodyPost_ret (v := .tuple #[.string Q, .bool (false)]) (by simp [results, Tryz.results47, go_sem]) rfl ⟨Q, ?_, ?_, H10.out.bel⟩
        · rw [HNo.out]
        · intro h; rw [HNo.out] at h; cases h
    · have e1 : (a1 == a3) = false := beq_eq_false_iff_ne.2 x1
      have hone : oneB ⟨a1, a2, a3, a4⟩ = false := by unfold oneB; simp [x1]
      clear x1
      have HNo := keep (show okT ⟨6, n, s.data.toList, ⟨a1, a2, a3, a4⟩, 0⟩ = false from by
        rw [show okT ⟨6, n, s.data.toList, ⟨a1, a2, a3, a4⟩, 0⟩ = (checkB ⟨a1, a2, a3, a4⟩ && !oneB ⟨a1, a2, a3, a4⟩ && bareB ⟨6, n, s.data.toList, R4.zero, 0⟩) from rfl, hck, Bool.false_and, Bool.false_and])
      clear hck hone
      have H1 := Lib.hid (((Ok.start w).alloc w.heap.size 43 [.int .u8 6, .int .i64 n, .string s, .int .i64 a1, .int .i64 a2, .int .i64 a3, .int .i64 a4, .int .i64 p] rfl).alloc (w.heap.size + 1) 43 [.int .u8 6, .int .i64 0, .string ⟨#[]⟩, .int .i64 a1, .int .i64 a2, .int .i64 a3, .int .i64 a4, .int .i64 p] (by simp))
      go_enter Tryz.func47, Tryz.ntmps47
      go_wp2_with fail
      generalize ((w.alloc (.cells #[.int .u8 6, .int .i64 n, .string s, .int .i64 a1, .int .i64 a2, .int .i64 a3, .int .i64 a4, .int .i64 p] 43)).alloc (.cells #[.int .u8 6, .int .i64 0, .string ⟨#[]⟩, .int .i64 a1, .int .i64 a2, .int .i64 a3, .int .i64 a4, .int .i64 p] 43)) = W2 at H1 ⊢
      refine (ref3_Format a1 a2 a3 a4 _).mono ?_
      rintro e w3 ⟨rfl, hb4⟩
      rw [HC.out, HQ.out]
      have H5 := Lib.hid (H1.out.below hb4)
      clear hb4 H1
      have F6 := H5.out.sees
      simp only [sees, kBlk, cellsAt, Nat.reduceAdd] at F6
      obtain ⟨⟨z0, c0_0, c0_1, c0_2, c0_3, c0_4, c0_5, c0_6, c0_7, -⟩, ⟨z1, c1_0, c1_1, c1_2, c1_3, c1_4, c1_5, c1_6, c1_7, -⟩, -⟩ := F6
      go_wp2_with fail
      clear z0 c0_0 c0_1 c0_2 c0_3 c0_4 c0_5 c0_6 c0_7 z1 c1_0 c1_1 c1_2 c1_3 c1_4 c1_5 c1_6 c1_7
      refine wp_region_held_drew (S := fun W => Ok w [kBlk (w.heap.size + 1) 43 [.int .u8 6, .int .i64 0, .string ⟨#[]⟩, .int .i64 a1, .int .i64 a2, .int .i64 a3, .int .i64 a4, .int .i64 p], kBlk (w.heap.size) 43 [.int .u8 6, .int .i64 n, .string s, .int .i64 a1, .int .i64 a2, .int .i64 a3, .int .i64 a4, .int .i64 p]] W) (by kernel_rfl) H5.out.drew (fun hHeld => ?_)
      refine tk (i := 0) (v := ?a225) rfl ?b225 (by assumption) ?c225
      case b225 => (intro w F; simp only [sees, kBlk, cellsAt, Nat.reduceAdd] at F; go_simp; try with_reducible rfl)
      try simp only [Act.put, p1, p2, p3, p4, p6]
      refine tk (i := 1) (v := ?a226) rfl ?b226 (by assumption) ?c226
      case b226 => (intro w F; simp only [sees, kBlk, cellsAt, Nat.reduceAdd] at F; go_simp; try with_reducible rfl)
      try simp only [Act.put, p1, p2, p3, p4, p5, p6]
      refine tk (i := 2) (v := ?a227) rfl ?b227 (by assumption) ?c227
      case b227 => (intro w F; simp only [sees, kBlk, cellsAt, Nat.reduceAdd] at F; go_simp; try with_reducible rfl)
      try simp only [Act.put, p1, p2, p3, p4, p5, p6]
      refine tk (i := 3) (v := ?a228) rfl ?b228 (by assumption) ?c228
      case b228 => (intro w F; simp only [sees, kBlk, cellsAt, Nat.reduceAdd] at F; go_simp; try with_reducible rfl)
      try simp only [Act.put, p1, p2, p3, p4, p5, p6]
      refine sk (i := 4) rfl (by assumption) ?_
      try simp only [Act.put, p1, p2, p3, p4, p5, p6]
      refine sk (i := 5) rfl (by assumption) ?_
      try simp only [Act.put, p1, p2, p3, p4, p5, p6]
      refine sk (i := 6) rfl (by assumption) ?_
      try simp only [Act.put, p1, p2, p3, p4, p5, p6]
      refine sk (i := 7) rfl (by assumption) ?_
      try simp only [Act.put, p1, p2, p3, p4, p5, p6]
      refine sk (i := 8) rfl (by assumption) ?_
      try simp only [Act.put, p1, p2, p3, p4, p5, p6]
      refine tk (i := 9) (v := ?a229) rfl ?b229 (by assumption) ?c229
      case b229 => (intro w F; simp only [sees, kBlk, cellsAt, Nat.reduceAdd] at F; go_simp; try with_reducible rfl)
      try simp only [Act.put, p1, p2, p3, p4, p5, p6]
      refine tk (i := 10) (v := ?a230) rfl ?b230 (by assumption) ?c230
      case b230 => (intro w F; simp only [sees, kBlk, cellsAt, Nat.reduceAdd] at F; go_simp; try with_reducible rfl)
      try simp only [Act.put, p1, p2, p3, p4, p5, p6]
      refine tk (i := 11) (v := ?a231) rfl ?b231 (by assumption) ?c231
      case b231 => (intro w F; simp only [sees, kBlk, cellsAt, Nat.reduceAdd] at F; go_simp; try with_reducible rfl)
      try simp only [Act.put, p1, p2, p3, p4, p5, p6]
      refine wpAnyH_done (by kernel_rfl) ?_ _
      clear H5
      have H8 := Lib.hid hHeld
      clear hHeld
      go_wp2_with fail
      refine wp_region_held_drew (S := fun W => Ok w [kBlk (w.heap.size + 1) 43 [.int .u8 6, .int .i64 0, .string ⟨#[]⟩, .int .i64 a1, .int .i64 a2, .int .i64 a3, .int .i64 a4, .int .i64 p], kBlk (w.heap.size) 43 [.int .u8 6, .int .i64 n, .string s, .int .i64 a1, .int .i64 a2, .int .i64 a3, .int .i64 a4, .int .i64 p]] W) (by kernel_rfl) H8.out.drew (fun hHeld => ?_)
      refine tk (i := 0) (v := ?a232) rfl ?b232 (by assumption) ?c232
      case b232 => (intro w F; simp only [sees, kBlk, cellsAt, Nat.reduceAdd] at F; go_simp; try with_reducible rfl)
      try simp only [Act.put, p1, p2, p3, p4, p6]
      refine tk (i := 1) (v := ?a233) rfl ?b233 (by assumption) ?c233
      case b233 => (intro w F; simp only [sees, kBlk, cellsAt, Nat.reduceAdd] at F; go_simp; try with_reducible rfl)
      try simp only [Act.put, p1, p2, p3, p4, p5, p6]
      refine tk (i := 2) (v := ?a234) rfl ?b234 (by assumption) ?c234
      case b234 => (intro w F; simp only [sees, kBlk, cellsAt, Nat.reduceAdd] at F; go_simp; try with_reducible rfl)
      try simp only [Act.put, p1, p2, p3, p4, p5, p6]
      refine sk (i := 3) rfl (by assumption) ?_
      try simp only [Act.put, p1, p2, p3, p4, p5, p6]
      refine sk (i := 4) rfl (by assumption) ?_
      try simp only [Act.put, p1, p2, p3, p4, p5, p6]
      refine sk (i := 5) rfl (by assumption) ?_
      try simp only [Act.put, p1, p2, p3, p4, p5, p6]
      refine tk (i := 6) (v := ?a235) rfl ?b235 (by assumption) ?c235
      case b235 => (intro w F; simp only [sees, kBlk, cellsAt, Nat.reduceAdd] at F; go_simp; try with_reducible rfl)
      try simp only [Act.put, p1, p2, p3, p4, p5, p6]
      refine tk (i := 7) (v := ?a236) rfl ?b236 (by assumption) ?c236
      case b236 => (intro w F; simp only [sees, kBlk, cellsAt, Nat.reduceAdd] at F; go_simp; try with_reducible rfl)
      try simp only [Act.put, p1, p2, p3, p4, p5, p6]
      refine tk (i := 8) (v := ?a237) rfl ?b237 (by assumption) ?c237
      case b237 => (intro w F; simp only [sees, kBlk, cellsAt, Nat.reduceAdd] at F; go_simp; try with_reducible rfl)
      try simp only [Act.put, p1, p2, p3, p4, p5, p6]
      refine wpAnyH_done (by kernel_rfl) ?_ _
      clear H8
      have H10 := Lib.hid hHeld
      clear hHeld
      go_wp2_with fail
      refine bodyPost_ret (v := .tuple #[.string Q, .bool (false)]) (by simp [results, Tryz.results47, go_sem]) rfl ⟨Q, ?_, ?_, H10.out.bel⟩
      · rw [HNo.out]
      · intro h; rw [HNo.out] at h; cases h
end Go.Proofs.YtlngjiibbcgkmaaGreatDoor
