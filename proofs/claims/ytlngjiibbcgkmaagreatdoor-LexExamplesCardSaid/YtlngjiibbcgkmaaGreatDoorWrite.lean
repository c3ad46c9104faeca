/- lex.write: what is written for a token, and whether it occurs in a formula. -/
import Derived.Test.YtlngjiibbcgkmaaGreatDoorLexO
import Derived.Test.YtlngjiibbcgkmaaGreatDoorTk
import Derived.Test.YtlngjiibbcgkmaaGreatDoorLexK
import Derived.Test.YtlngjiibbcgkmaaGreatDoorDecF
import Derived.Test.YtlngjiibbcgkmaaGreatDoorRectF
import Derived.Laws.StructEq
namespace Go.Proofs.YtlngjiibbcgkmaaGreatDoor
open Go.RowKit

/-- whether two tokens are alike, field by field -/
def eq8 (k n a1 a2 a3 a4 p k' n' a1' a2' a3' a4' p' : Int) (s s' : List UInt8) : Bool := decide (k = k') && (decide (n = n') && (decide (s = s') && (decide (a1 = a1') && (decide (a2 = a2') && (decide (a3 = a3') && (decide (a4 = a4') && (decide (p = p'))))))))
set_option maxHeartbeats 1000000 in
@[local go_sem high] theorem eq_tok (k n a1 a2 a3 a4 p k' n' a1' a2' a3' a4' p' : Int) (s s' : ByteArray) (w : World) : (Op.equalIn 10000 43 (.agg #[.int .u8 k, .int .i64 n, .string s, .int .i64 a1, .int .i64 a2, .int .i64 a3, .int .i64 a4, .int .i64 p]) (.agg #[.int .u8 k', .int .i64 n', .string s', .int .i64 a1', .int .i64 a2', .int .i64 a3', .int .i64 a4', .int .i64 p'])).run Tryz.prog w = .ok (eq8 k n a1 a2 a3 a4 p k' n' a1' a2' a3' a4' p' s.toList s'.toList) w := by
  have u1 := Tryz.underlying5
  have u2 := Tryz.underlying2
  have u3 := Tryz.underlying3
  have u4 := Tryz.underlying9
  have u5 := Tryz.underlying30
  have hS : Tryz.prog.underlying 43 = some (.struct (Tryz.prog.fieldsOf 43)) := by kernel_rfl
  have hp : Tryz.prog.stoodInHeld 43 = false := by kernel_rfl
  rw [show (10000 : Nat) = 9999 + 1 from rfl, run_equalIn_agg w 9999 _ _ _ hS hp]
  simp only [Program.fieldsOf, Tryz.underlying43]
  unfold eq8
  go_simp
  by_cases h : k = k'
  rotate_left
  · rw [if_neg h, decide_eq_false h]; rfl
  rw [if_pos h, decide_eq_true h, Bool.true_and]
  clear h
  by_cases h : n = n'
  rotate_left
  · rw [if_neg h, decide_eq_false h]; rfl
  rw [if_pos h, decide_eq_true h, Bool.true_and]
  clear h
  by_cases h : s.toList = s'.toList
  rotate_left
  · rw [if_neg h, decide_eq_false h]; rfl
  rw [if_pos h, decide_eq_true h, Bool.true_and]
  clear h
  by_cases h : a1 = a1'
  rotate_left
  · rw [if_neg h, decide_eq_false h]; rfl
  rw [if_pos h, decide_eq_true h, Bool.true_and]
  clear h
  by_cases h : a2 = a2'
  rotate_left
  · rw [if_neg h, decide_eq_false h]; rfl
  rw [if_pos h, decide_eq_true h, Bool.true_and]
  clear h
  by_cases h : a3 = a3'
  rotate_left
  · rw [if_neg h, decide_eq_false h]; rfl
  rw [if_pos h, decide_eq_true h, Bool.true_and]
  clear h
  by_cases h : a4 = a4'
  rotate_left
  · rw [if_neg h, decide_eq_false h]; rfl
  rw [if_pos h, decide_eq_true h, Bool.true_and]
  clear h
  by_cases h : p = p'
  · rw [if_pos h, decide_eq_true h]
  · rw [if_neg h, decide_eq_false h]
def textS (t : Tk) : List UInt8 :=
  if t.kind = 1 then decS t.num else if t.kind = 2 then quoteS t.text else if t.kind = 3 then (if t.num = 1 then [84, 82, 85, 69] else [70, 65, 76, 83, 69])
  else if t.kind = 4 then allNames[t.num.toNat]?.getD [] else if t.kind = 5 then (fmtR t.r).1 else if t.kind = 6 then (fmtR t.r).1 else if t.kind = 7 then t.text
  else if t.kind = 8 then opText t.num else if t.kind = 9 then [40] else if t.kind = 10 then [41] else [44]
/-- what write hands back -/
def WOut (t : Tk) (w : World) (e : Ending) (w' : World) : Prop :=
  ∃ x : ByteArray, e = .returned (.tuple #[.string x, .bool (okT t)]) ∧ (okT t = true → x.data.toList = textS t) ∧ Below w.heap.size w w'
set_option maxRecDepth 100000 in
set_option maxHeartbeats 4000000 in
theorem write_9 (n a1 a2 a3 a4 p : Int) (s : ByteArray) (w : World) :
    Calls Tryz.prog 43 #[.agg #[.int .u8 9, .int .i64 n, .string s, .int .i64 a1, .int .i64 a2, .int .i64 a3, .int .i64 a4, .int .i64 p]] w (WOut ⟨9, n, s.data.toList, ⟨a1, a2, a3, a4⟩, 0⟩ w) := by
  have hb : eq8 9 n a1 a2 a3 a4 p 9 0 0 0 0 0 p s.toList [] = okT ⟨9, n, s.data.toList, ⟨a1, a2, a3, a4⟩, 0⟩ := by
    unfold eq8 okT bareB
    rw [show s.data.toList.isEmpty = decide (s.data.toList = []) from by cases s.data.toList <;> rfl]
    simp [ByteArray.toList_eq, Bool.and_assoc]
  have HEq := keep hb
  clear hb
  have H1 := Lib.hid (((Ok.start w).alloc w.heap.size 43 [.int .u8 9, .int .i64 n, .string s, .int .i64 a1, .int .i64 a2, .int .i64 a3, .int .i64 a4, .int .i64 p] rfl).alloc (w.heap.size + 1) 43 [.int .u8 9, .int .i64 0, .string ⟨#[]⟩, .int .i64 0, .int .i64 0, .int .i64 0, .int .i64 0, .int .i64 p] (by simp))
  go_enter Tryz.func43, Tryz.ntmps43
  go_wp2_with fail
  generalize ((w.alloc (.cells #[.int .u8 9, .int .i64 n, .string s, .int .i64 a1, .int .i64 a2, .int .i64 a3, .int .i64 a4, .int .i64 p] 43)).alloc (.cells #[.int .u8 9, .int .i64 0, .string ⟨#[]⟩, .int .i64 0, .int .i64 0, .int .i64 0, .int .i64 0, .int .i64 p] 43)) = W2 at H1 ⊢
  refine wp_region_held_drew (S := fun W => Ok w [kBlk (w.heap.size + 1) 43 [.int .u8 9, .int .i64 0, .string ⟨#[]⟩, .int .i64 0, .int .i64 0, .int .i64 0, .int .i64 0, .int .i64 p], kBlk (w.heap.size) 43 [.int .u8 9, .int .i64 n, .string s, .int .i64 a1, .int .i64 a2, .int .i64 a3, .int .i64 a4, .int .i64 p]] W) (by kernel_rfl) H1.out.drew (fun hHeld => ?_)
  refine tk (i := 0) (v := ?a1) rfl ?b1 (by assumption) ?c1
  case b1 => (intro w F; simp only [sees, kBlk, cellsAt, Nat.reduceAdd] at F; go_simp; try with_reducible rfl)
  try simp only [Act.put, p1, p2, p3, p4, p6]
  refine tk (i := 1) (v := ?a2) rfl ?b2 (by assumption) ?c2
  case b2 => (intro w F; simp only [sees, kBlk, cellsAt, Nat.reduceAdd] at F; go_simp; try with_reducible rfl)
  try simp only [Act.put, p1, p2, p3, p4, p5, p6]
  refine tk (i := 2) (v := ?a3) rfl ?b3 (by assumption) ?c3
  case b3 => (intro w F; simp only [sees, kBlk, cellsAt, Nat.reduceAdd] at F; go_simp; try with_reducible rfl)
  try simp only [Act.put, p1, p2, p3, p4, p5, p6]
  refine tk (i := 3) (v := ?a4) rfl ?b4 (by assumption) ?c4
  case b4 => (intro w F; simp only [sees, kBlk, cellsAt, Nat.reduceAdd] at F; go_simp; try with_reducible rfl)
  try simp only [Act.put, p1, p2, p3, p4, p5, p6]
  refine tk (i := 4) (v := ?a5) rfl ?b5 (by assumption) ?c5
  case b5 => (intro w F; simp only [sees, kBlk, cellsAt, Nat.reduceAdd] at F; go_simp; try with_reducible rfl)
  try simp only [Act.put, p1, p2, p3, p4, p5, p6]
  refine tk (i := 5) (v := ?a6) rfl ?b6 (by assumption) ?c6
  case b6 => (intro w F; simp only [sees, kBlk, cellsAt, Nat.reduceAdd] at F; go_simp; try with_reducible rfl)
  try simp only [Act.put, p1, p2, p3, p4, p5, p6]
  refine tk (i := 6) (v := ?a7) rfl ?b7 (by assumption) ?c7
  case b7 => (intro w F; simp only [sees, kBlk, cellsAt, Nat.reduceAdd] at F; go_simp; try with_reducible rfl)
  try simp only [Act.put, p1, p2, p3, p4, p5, p6]
  refine tk (i := 7) (v := ?a8) rfl ?b8 (by assumption) ?c8
  case b8 => (intro w F; simp only [sees, kBlk, cellsAt, Nat.reduceAdd] at F; go_simp; try with_reducible rfl)
  try simp only [Act.put, p1, p2, p3, p4, p5, p6]
  refine tk (i := 8) (v := ?a9) rfl ?b9 (by assumption) ?c9
  case b9 => (intro w F; simp only [sees, kBlk, cellsAt, Nat.reduceAdd] at F; go_simp; try with_reducible rfl)
  try simp only [Act.put, p1, p2, p3, p4, p5, p6]
  refine wpAnyH_done (by kernel_rfl) ?_ _
  clear H1
  have H4 := Lib.hid hHeld
  clear hHeld
  go_wp2_with fail
  refine bodyPost_ret (v := .tuple #[.string ⟨#[40]⟩, .bool (eq8 9 n a1 a2 a3 a4 p 9 0 0 0 0 0 p s.toList [])]) (by simp [results, Tryz.results43, go_sem]) rfl ⟨⟨#[40]⟩, ?_, ?_, H4.out.bel⟩
  · rw [HEq.out]
  · intro _; rfl
set_option maxRecDepth 100000 in
set_option maxHeartbeats 4000000 in
theorem write_10 (n a1 a2 a3 a4 p : Int) (s : ByteArray) (w : World) :
    Calls Tryz.prog 43 #[.agg #[.int .u8 10, .int .i64 n, .string s, .int .i64 a1, .int .i64 a2, .int .i64 a3, .int .i64 a4, .int .i64 p]] w (WOut ⟨10, n, s.data.toList, ⟨a1, a2, a3, a4⟩, 0⟩ w) := by
  have hb : eq8 10 n a1 a2 a3 a4 p 10 0 0 0 0 0 p s.toList [] = okT ⟨10, n, s.data.toList, ⟨a1, a2, a3, a4⟩, 0⟩ := by
    unfold eq8 okT bareB
    rw [show s.data.toList.isEmpty = decide (s.data.toList = []) from by cases s.data.toList <;> rfl]
    simp [ByteArray.toList_eq, Bool.and_assoc]
  have HEq := keep hb
  clear hb
  have H1 := Lib.hid (((Ok.start w).alloc w.heap.size 43 [.int .u8 10, .int .i64 n, .string s, .int .i64 a1, .int .i64 a2, .int .i64 a3, .int .i64 a4, .int .i64 p] rfl).alloc (w.heap.size + 1) 43 [.int .u8 10, .int .i64 0, .string ⟨#[]⟩, .int .i64 0, .int .i64 0, .int .i64 0, .int .i64 0, .int .i64 p] (by simp))
  go_enter Tryz.func43, Tryz.ntmps43
  go_wp2_with fail
  generalize ((w.alloc (.cells #[.int .u8 10, .int .i64 n, .string s, .int .i64 a1, .int .i64 a2, .int .i64 a3, .int .i64 a4, .int .i64 p] 43)).alloc (.cells #[.int .u8 10, .int .i64 0, .string ⟨#[]⟩, .int .i64 0, .int .i64 0, .int .i64 0, .int .i64 0, .int .i64 p] 43)) = W2 at H1 ⊢
  refine wp_region_held_drew (S := fun W => Ok w [kBlk (w.heap.size + 1) 43 [.int .u8 10, .int .i64 0, .string ⟨#[]⟩, .int .i64 0, .int .i64 0, .int .i64 0, .int .i64 0, .int .i64 p], kBlk (w.heap.size) 43 [.int .u8 10, .int .i64 n, .string s, .int .i64 a1, .int .i64 a2, .int .i64 a3, .int .i64 a4, .int .i64 p]] W) (by kernel_rfl) H1.out.drew (fun hHeld => ?_)
  refine tk (i := 0) (v := ?a10) rfl ?b10 (by assumption) ?c10
  case b10 => (intro w F; simp only [sees, kBlk, cellsAt, Nat.reduceAdd] at F; go_simp; try with_reducible rfl)
  try simp only [Act.put, p1, p2, p3, p4, p6]
  refine tk (i := 1) (v := ?a11) rfl ?b11 (by assumption) ?c11
  case b11 => (intro w F; simp only [sees, kBlk, cellsAt, Nat.reduceAdd] at F; go_simp; try with_reducible rfl)
  try simp only [Act.put, p1, p2, p3, p4, p5, p6]
  refine tk (i := 2) (v := ?a12) rfl ?b12 (by assumption) ?c12
  case b12 => (intro w F; simp only [sees, kBlk, cellsAt, Nat.reduceAdd] at F; go_simp; try with_reducible rfl)
  try simp only [Act.put, p1, p2, p3, p4, p5, p6]
  refine tk (i := 3) (v := ?a13) rfl ?b13 (by assumption) ?c13
  case b13 => (intro w F; simp only [sees, kBlk, cellsAt, Nat.reduceAdd] at F; go_simp; try with_reducible rfl)
  try simp only [Act.put, p1, p2, p3, p4, p5, p6]
  refine tk (i := 4) (v := ?a14) rfl ?b14 (by assumption) ?c14
  case b14 => (intro w F; simp only [sees, kBlk, cellsAt, Nat.reduceAdd] at F; go_simp; try with_reducible rfl)
  try simp only [Act.put, p1, p2, p3, p4, p5, p6]
  refine tk (i := 5) (v := ?a15) rfl ?b15 (by assumption) ?c15
  case b15 => (intro w F; simp only [sees, kBlk, cellsAt, Nat.reduceAdd] at F; go_simp; try with_reducible rfl)
  try simp only [Act.put, p1, p2, p3, p4, p5, p6]
  refine tk (i := 6) (v := ?a16) rfl ?b16 (by assumption) ?c16
  case b16 => (intro w F; simp only [sees, kBlk, cellsAt, Nat.reduceAdd] at F; go_simp; try with_reducible rfl)
  try simp only [Act.put, p1, p2, p3, p4, p5, p6]
  refine tk (i := 7) (v := ?a17) rfl ?b17 (by assumption) ?c17
  case b17 => (intro w F; simp only [sees, kBlk, cellsAt, Nat.reduceAdd] at F; go_simp; try with_reducible rfl)
  try simp only [Act.put, p1, p2, p3, p4, p5, p6]
  refine tk (i := 8) (v := ?a18) rfl ?b18 (by assumption) ?c18
  case b18 => (intro w F; simp only [sees, kBlk, cellsAt, Nat.reduceAdd] at F; go_simp; try with_reducible rfl)
  try simp only [Act.put, p1, p2, p3, p4, p5, p6]
  refine wpAnyH_done (by kernel_rfl) ?_ _
  clear H1
  have H4 := Lib.hid hHeld
  clear hHeld
  go_wp2_with fail
  refine bodyPost_ret (v := .tuple #[.string ⟨#[41]⟩, .bool (eq8 10 n a1 a2 a3 a4 p 10 0 0 0 0 0 p s.toList [])]) (by simp [results, Tryz.results43, go_sem]) rfl ⟨⟨#[41]⟩, ?_, ?_, H4.out.bel⟩
  · rw [HEq.out]
  · intro _; rfl
set_option maxRecDepth 100000 in
set_option maxHeartbeats 4000000 in
theorem write_11 (n a1 a2 a3 a4 p : Int) (s : ByteArray) (w : World) :
    Calls Tryz.prog 43 #[.agg #[.int .u8 11, .int .i64 n, .string s, .int .i64 a1, .int .i64 a2, .int .i64 a3, .int .i64 a4, .int .i64 p]] w (WOut ⟨11, n, s.data.toList, ⟨a1, a2, a3, a4⟩, 0⟩ w) := by
  have hb : eq8 11 n a1 a2 a3 a4 p 11 0 0 0 0 0 p s.toList [] = okT ⟨11, n, s.data.toList, ⟨a1, a2, a3, a4⟩, 0⟩ := by
    unfold eq8 okT bareB
    rw [show s.data.toList.isEmpty = decide (s.data.toList = []) from by cases s.data.toList <;> rfl]
    simp [ByteArray.toList_eq, Bool.and_assoc]
  have HEq := keep hb
  clear hb
  have H1 := Lib.hid (((Ok.start w).alloc w.heap.size 43 [.int .u8 11, .int .i64 n, .string s, .int .i64 a1, .int .i64 a2, .int .i64 a3, .int .i64 a4, .int .i64 p] rfl).alloc (w.heap.size + 1) 43 [.int .u8 11, .int .i64 0, .string ⟨#[]⟩, .int .i64 0, .int .i64 0, .int .i64 0, .int .i64 0, .int .i64 p] (by simp))
  go_enter Tryz.func43, Tryz.ntmps43
  go_wp2_with fail
  generalize ((w.alloc (.cells #[.int .u8 11, .int .i64 n, .string s, .int .i64 a1, .int .i64 a2, .int .i64 a3, .int .i64 a4, .int .i64 p] 43)).alloc (.cells #[.int .u8 11, .int .i64 0, .string ⟨#[]⟩, .int .i64 0, .int .i64 0, .int .i64 0, .int .i64 0, .int .i64 p] 43)) = W2 at H1 ⊢
  refine wp_region_held_drew (S := fun W => Ok w [kBlk (w.heap.size + 1) 43 [.int .u8 11, .int .i64 0, .string ⟨#[]⟩, .int .i64 0, .int .i64 0, .int .i64 0, .int .i64 0, .int .i64 p], kBlk (w.heap.size) 43 [.int .u8 11, .int .i64 n, .string s, .int .i64 a1, .int .i64 a2, .int .i64 a3, .int .i64 a4, .int .i64 p]] W) (by kernel_rfl) H1.out.drew (fun hHeld => ?_)
  refine tk (i := 0) (v := ?a19) rfl ?b19 (by assumption) ?c19
  case b19 => (intro w F; simp only [sees, kBlk, cellsAt, Nat.reduceAdd] at F; go_simp; try with_reducible rfl)
  try simp only [Act.put, p1, p2, p3, p4, p6]
  refine tk (i := 1) (v := ?a20) rfl ?b20 (by assumption) ?c20
  case b20 => (intro w F; simp only [sees, kBlk, cellsAt, Nat.reduceAdd] at F; go_simp; try with_reducible rfl)
  try simp only [Act.put, p1, p2, p3, p4, p5, p6]
  refine tk (i := 2) (v := ?a21) rfl ?b21 (by assumption) ?c21
  case b21 => (intro w F; simp only [sees, kBlk, cellsAt, Nat.reduceAdd] at F; go_simp; try with_reducible rfl)
  try simp only [Act.put, p1, p2, p3, p4, p5, p6]
  refine tk (i := 3) (v := ?a22) rfl ?b22 (by assumption) ?c22
  case b22 => (intro w F; simp only [sees, kBlk, cellsAt, Nat.reduceAdd] at F; go_simp; try with_reducible rfl)
  try simp only [Act.put, p1, p2, p3, p4, p5, p6]
  refine tk (i := 4) (v := ?a23) rfl ?b23 (by assumption) ?c23
  case b23 => (intro w F; simp only [sees, kBlk, cellsAt, Nat.reduceAdd] at F; go_simp; try with_reducible rfl)
  try simp only [Act.put, p1, p2, p3, p4, p5, p6]
  refine tk (i := 5) (v := ?a24) rfl ?b24 (by assumption) ?c24
  case b24 => (intro w F; simp only [sees, kBlk, cellsAt, Nat.reduceAdd] at F; go_simp; try with_reducible rfl)
  try simp only [Act.put, p1, p2, p3, p4, p5, p6]
  refine tk (i := 6) (v := ?a25) rfl ?b25 (by assumption) ?c25
  case b25 => (intro w F; simp only [sees, kBlk, cellsAt, Nat.reduceAdd] at F; go_simp; try with_reducible rfl)
  try simp only [Act.put, p1, p2, p3, p4, p5, p6]
  refine tk (i := 7) (v := ?a26) rfl ?b26 (by assumption) ?c26
  case b26 => (intro w F; simp only [sees, kBlk, cellsAt, Nat.reduceAdd] at F; go_simp; try with_reducible rfl)
  try simp only [Act.put, p1, p2, p3, p4, p5, p6]
  refine tk (i := 8) (v := ?a27) rfl ?b27 (by assumption) ?c27
  case b27 => (intro w F; simp only [sees, kBlk, cellsAt, Nat.reduceAdd] at F; go_simp; try with_reducible rfl)
  try simp only [Act.put, p1, p2, p3, p4, p5, p6]
  refine wpAnyH_done (by kernel_rfl) ?_ _
  clear H1
  have H4 := Lib.hid hHeld
  clear hHeld
  go_wp2_with fail
  refine bodyPost_ret (v := .tuple #[.string ⟨#[44]⟩, .bool (eq8 11 n a1 a2 a3 a4 p 11 0 0 0 0 0 p s.toList [])]) (by simp [results, Tryz.results43, go_sem]) rfl ⟨⟨#[44]⟩, ?_, ?_, H4.out.bel⟩
  · rw [HEq.out]
  · intro _; rfl
set_option maxRecDepth 100000 in
set_option maxHeartbeats 4000000 in
theorem write_1 (n a1 a2 a3 a4 p : Int) (s : ByteArray) (w : World) (h1 : -9223372036854775808 ≤ n) (h2 : n ≤ 9223372036854775807) :
    Calls Tryz.prog 43 #[.agg #[.int .u8 1, .int .i64 n, .string s, .int .i64 a1, .int .i64 a2, .int .i64 a3, .int .i64 a4, .int .i64 p]] w (WOut ⟨1, n, s.data.toList, ⟨a1, a2, a3, a4⟩, 0⟩ w) := by
  by_cases h0 : 0 ≤ n
  · have hb : eq8 1 n a1 a2 a3 a4 p 1 n 0 0 0 0 p s.toList [] = okT ⟨1, n, s.data.toList, ⟨a1, a2, a3, a4⟩, 0⟩ := by
      unfold eq8 okT bareB
      rw [show s.data.toList.isEmpty = decide (s.data.toList = []) from by cases s.data.toList <;> rfl]
      simp [ByteArray.toList_eq, h0]
    have he : decide ((0 : Int) ≤ n) = true := decide_eq_true h0
    have HEq := keep hb
    clear hb
    have H1 := Lib.hid (((Ok.start w).alloc w.heap.size 43 [.int .u8 1, .int .i64 n, .string s, .int .i64 a1, .int .i64 a2, .int .i64 a3, .int .i64 a4, .int .i64 p] rfl).alloc (w.heap.size + 1) 43 [.int .u8 1, .int .i64 n, .string ⟨#[]⟩, .int .i64 0, .int .i64 0, .int .i64 0, .int .i64 0, .int .i64 p] (by simp))
    go_enter Tryz.func43, Tryz.ntmps43
    go_wp2_with fail
    generalize ((w.alloc (.cells #[.int .u8 1, .int .i64 n, .string s, .int .i64 a1, .int .i64 a2, .int .i64 a3, .int .i64 a4, .int .i64 p] 43)).alloc (.cells #[.int .u8 1, .int .i64 n, .string ⟨#[]⟩, .int .i64 0, .int .i64 0, .int .i64 0, .int .i64 0, .int .i64 p] 43)) = W2 at H1 ⊢
    refine wp_region_held_drew (S := fun W => Ok w [kBlk (w.heap.size + 1) 43 [.int .u8 1, .int .i64 n, .string ⟨#[]⟩, .int .i64 0, .int .i64 0, .int .i64 0, .int .i64 0, .int .i64 p], kBlk (w.heap.size) 43 [.int .u8 1, .int .i64 n, .string s, .int .i64 a1, .int .i64 a2, .int .i64 a3, .int .i64 a4, .int .i64 p]] W) (by kernel_rfl) H1.out.drew (fun hHeld => ?_)
    refine tk (i := 0) (v := ?a28) rfl ?b28 (by assumption) ?c28
    case b28 => (intro w F; simp only [sees, kBlk, cellsAt, Nat.reduceAdd] at F; go_simp; try with_reducible rfl)
    try simp only [Act.put, p1, p2, p3, p4, p6]
    refine tk (i := 1) (v := ?a29) rfl ?b29 (by assumption) ?c29
    case b29 => (intro w F; simp only [sees, kBlk, cellsAt, Nat.reduceAdd] at F; go_simp; try with_reducible rfl)
    try simp only [Act.put, p1, p2, p3, p4, p5, p6]
    refine tk (i := 3) (v := ?a30) rfl ?b30 (by assumption) ?c30
    case b30 => (intro w F; simp only [sees, kBlk, cellsAt, Nat.reduceAdd] at F; go_simp; try with_reducible rfl)
    try simp only [Act.put, p1, p2, p3, p4, p5, p6]
    refine tk (i := 4) (v := ?a31) rfl ?b31 (by assumption) ?c31
    case b31 => (intro w F; simp only [sees, kBlk, cellsAt, Nat.reduceAdd] at F; go_simp; try with_reducible rfl)
    try simp only [Act.put, p1, p2, p3, p4, p5, p6]
    refine tk (i := 5) (v := ?a32) rfl ?b32 (by assumption) ?c32
    case b32 => (intro w F; simp only [sees, kBlk, cellsAt, Nat.reduceAdd] at F; go_simp; try with_reducible rfl)
    try simp only [Act.put, p1, p2, p3, p4, p5, p6]
    refine wpAnyH_ready (rs := [2]) (by kernel_rfl) (by simp) ?_
    refine AllReadyH.cons rfl (fun K hK => ?_) AllReadyH.nil
    go_simp
    refine (dec_Format n _ h1 h2).mono ?_
    rintro e w4 ⟨rfl, hb5⟩
    go_wp2_with fail
    refine hK.out _ _ (hHeld.below hb5) (fun hHeld => ?_)
    clear hK K
    try simp only [Act.put, p1, p2, p3, p4, p5, p6]
    refine tk (i := 6) (v := ?a33) rfl ?b33 (by assumption) ?c33
    case b33 => (intro w F; simp only [sees, kBlk, cellsAt, Nat.reduceAdd] at F; go_simp; try with_reducible rfl)
    try simp only [Act.put, p1, p2, p3, p4, p5, p6]
    refine tk (i := 7) (v := ?a34) rfl ?b34 (by assumption) ?c34
    case b34 => (intro w F; simp only [sees, kBlk, cellsAt, Nat.reduceAdd] at F; go_simp; try with_reducible rfl)
    try simp only [Act.put, p1, p2, p3, p4, p5, p6]
    refine wpAnyH_done (by kernel_rfl) ?_ _
    clear H1
    have H6 := Lib.hid hHeld
    clear hHeld
    go_wp2_with fail
    clear he
    refine wp_region_held_drew (S := fun W => Ok w [kBlk (w.heap.size + 1) 43 [.int .u8 1, .int .i64 n, .string ⟨#[]⟩, .int .i64 0, .int .i64 0, .int .i64 0, .int .i64 0, .int .i64 p], kBlk (w.heap.size) 43 [.int .u8 1, .int .i64 n, .string s, .int .i64 a1, .int .i64 a2, .int .i64 a3, .int .i64 a4, .int .i64 p]] W) (by kernel_rfl) H6.out.drew (fun hHeld => ?_)
    refine tk (i := 0) (v := ?a35) rfl ?b35 (by assumption) ?c35
    case b35 => (intro w F; simp only [sees, kBlk, cellsAt, Nat.reduceAdd] at F; go_simp; try with_reducible rfl)
    try simp only [Act.put, p1, p2, p3, p4, p6]
    refine tk (i := 1) (v := ?a36) rfl ?b36 (by assumption) ?c36
    case b36 => (intro w F; simp only [sees, kBlk, cellsAt, Nat.reduceAdd] at F; go_simp; try with_reducible rfl)
    try simp only [Act.put, p1, p2, p3, p4, p5, p6]
    refine tk (i := 2) (v := ?a37) rfl ?b37 (by assumption) ?c37
    case b37 => (intro w F; simp only [sees, kBlk, cellsAt, Nat.reduceAdd] at F; go_simp; try with_reducible rfl)
    try simp only [Act.put, p1, p2, p3, p4, p5, p6]
    refine tk (i := 3) (v := ?a38) rfl ?b38 (by assumption) ?c38
    case b38 => (intro w F; simp only [sees, kBlk, cellsAt, Nat.reduceAdd] at F; go_simp; try with_reducible rfl)
    try simp only [Act.put, p1, p2, p3, p4, p5, p6]
    refine tk (i := 4) (v := ?a39) rfl ?b39 (by assumption) ?c39
    case b39 => (intro w F; simp only [sees, kBlk, cellsAt, Nat.reduceAdd] at F; go_simp; try with_reducible rfl)
    try simp only [Act.put, p1, p2, p3, p4, p5, p6]
    refine tk (i := 5) (v := ?a40) rfl ?b40 (by assumption) ?c40
    case b40 => (intro w F; simp only [sees, kBlk, cellsAt, Nat.reduceAdd] at F; go_simp; try with_reducible rfl)
    try simp only [Act.put, p1, p2, p3, p4, p5, p6]
    refine tk (i := 6) (v := ?a41) rfl ?b41 (by assumption) ?c41
    case b41 => (intro w F; simp only [sees, kBlk, cellsAt, Nat.reduceAdd] at F; go_simp; try with_reducible rfl)
    try simp only [Act.put, p1, p2, p3, p4, p5, p6]
    refine tk (i := 7) (v := ?a42) rfl ?b42 (by assumption) ?c42
    case b42 => (intro w F; simp only [sees, kBlk, cellsAt, Nat.reduceAdd] at F; go_simp; try with_reducible rfl)
    try simp only [Act.put, p1, p2, p3, p4, p5, p6]
    refine tk (i := 8) (v := ?a43) rfl ?b43 (by assumption) ?c43
    case b43 => (intro w F; simp only [sees, kBlk, cellsAt, Nat.reduceAdd] at F; go_simp; try with_reducible rfl)
    try simp only [Act.put, p1, p2, p3, p4, p5, p6]
    refine wpAnyH_done (by kernel_rfl) ?_ _
    clear H6
    have H8 := Lib.hid hHeld
    clear hHeld
    go_wp2_with fail
    refine bodyPost_ret (v := .tuple #[.string ⟨(decS n).toArray⟩, .bool (eq8 1 n a1 a2 a3 a4 p 1 n 0 0 0 0 p s.toList [])]) (by simp [results, Tryz.results43, go_sem]) rfl ⟨⟨(decS n).toArray⟩, ?_, ?_, H8.out.bel⟩
    · rw [HEq.out]
    · intro _; simp [textS]
  · have he : decide ((0 : Int) ≤ n) = false := decide_eq_false h0
    have hno : okT ⟨1, n, s.data.toList, ⟨a1, a2, a3, a4⟩, 0⟩ = false := by
      unfold okT
      simp [h0]
    have H1 := Lib.hid (((Ok.start w).alloc w.heap.size 43 [.int .u8 1, .int .i64 n, .string s, .int .i64 a1, .int .i64 a2, .int .i64 a3, .int .i64 a4, .int .i64 p] rfl).alloc (w.heap.size + 1) 43 [.int .u8 1, .int .i64 n, .string ⟨#[]⟩, .int .i64 0, .int .i64 0, .int .i64 0, .int .i64 0, .int .i64 p] (by simp))
    go_enter Tryz.func43, Tryz.ntmps43
    go_wp2_with fail
    generalize ((w.alloc (.cells #[.int .u8 1, .int .i64 n, .string s, .int .i64 a1, .int .i64 a2, .int .i64 a3, .int .i64 a4, .int .i64 p] 43)).alloc (.cells #[.int .u8 1, .int .i64 n, .string ⟨#[]⟩, .int .i64 0, .int .i64 0, .int .i64 0, .int .i64 0, .int .i64 p] 43)) = W2 at H1 ⊢
    refine wp_region_held_drew (S := fun W => Ok w [kBlk (w.heap.size + 1) 43 [.int .u8 1, .int .i64 n, .string ⟨#[]⟩, .int .i64 0, .int .i64 0, .int .i64 0, .int .i64 0, .int .i64 p], kBlk (w.heap.size) 43 [.int .u8 1, .int .i64 n, .string s, .int .i64 a1, .int .i64 a2, .int .i64 a3, .int .i64 a4, .int .i64 p]] W) (by kernel_rfl) H1.out.drew (fun hHeld => ?_)
    refine tk (i := 0) (v := ?a44) rfl ?b44 (by assumption) ?c44
    case b44 => (intro w F; simp only [sees, kBlk, cellsAt, Nat.reduceAdd] at F; go_simp; try with_reducible rfl)
    try simp only [Act.put, p1, p2, p3, p4, p6]
    refine tk (i := 1) (v := ?a45) rfl ?b45 (by assumption) ?c45
    case b45 => (intro w F; simp only [sees, kBlk, cellsAt, Nat.reduceAdd] at F; go_simp; try with_reducible rfl)
    try simp only [Act.put, p1, p2, p3, p4, p5, p6]
    refine tk (i := 3) (v := ?a46) rfl ?b46 (by assumption) ?c46
    case b46 => (intro w F; simp only [sees, kBlk, cellsAt, Nat.reduceAdd] at F; go_simp; try with_reducible rfl)
    try simp only [Act.put, p1, p2, p3, p4, p5, p6]
    refine tk (i := 4) (v := ?a47) rfl ?b47 (by assumption) ?c47
    case b47 => (intro w F; simp only [sees, kBlk, cellsAt, Nat.reduceAdd] at F; go_simp; try with_reducible rfl)
    try simp only [Act.put, p1, p2, p3, p4, p5, p6]
    refine tk (i := 5) (v := ?a48) rfl ?b48 (by assumption) ?c48
    case b48 => (intro w F; simp only [sees, kBlk, cellsAt, Nat.reduceAdd] at F; go_simp; try with_reducible rfl)
    try simp only [Act.put, p1, p2, p3, p4, p5, p6]
    refine wpAnyH_ready (rs := [2]) (by kernel_rfl) (by simp) ?_
    refine AllReadyH.cons rfl (fun K hK => ?_) AllReadyH.nil
    go_simp
    refine (dec_Format n _ h1 h2).mono ?_
    rintro e w4 ⟨rfl, hb5⟩
    go_wp2_with fail
    refine hK.out _ _ (hHeld.below hb5) (fun hHeld => ?_)
    clear hK K
    try simp only [Act.put, p1, p2, p3, p4, p5, p6]
    refine tk (i := 6) (v := ?a49) rfl ?b49 (by assumption) ?c49
    case b49 => (intro w F; simp only [sees, kBlk, cellsAt, Nat.reduceAdd] at F; go_simp; try with_reducible rfl)
    try simp only [Act.put, p1, p2, p3, p4, p5, p6]
    refine tk (i := 7) (v := ?a50) rfl ?b50 (by assumption) ?c50
    case b50 => (intro w F; simp only [sees, kBlk, cellsAt, Nat.reduceAdd] at F; go_simp; try with_reducible rfl)
    try simp only [Act.put, p1, p2, p3, p4, p5, p6]
    refine wpAnyH_done (by kernel_rfl) ?_ _
    clear H1
    have H6 := Lib.hid hHeld
    clear hHeld
    go_wp2_with fail
    clear he
    refine wp_region_held_drew (S := fun W => Ok w [kBlk (w.heap.size + 1) 43 [.int .u8 1, .int .i64 n, .string ⟨#[]⟩, .int .i64 0, .int .i64 0, .int .i64 0, .int .i64 0, .int .i64 p], kBlk (w.heap.size) 43 [.int .u8 1, .int .i64 n, .string s, .int .i64 a1, .int .i64 a2, .int .i64 a3, .int .i64 a4, .int .i64 p]] W) (by kernel_rfl) H6.out.drew (fun hHeld => ?_)
    refine tk (i := 0) (v := ?a51) rfl ?b51 (by assumption) ?c51
    case b51 => (intro w F; simp only [sees, kBlk, cellsAt, Nat.reduceAdd] at F; go_simp; try with_reducible rfl)
    try simp only [Act.put, p1, p2, p3, p4, p6]
    refine tk (i := 1) (v := ?a52) rfl ?b52 (by assumption) ?c52
    case b52 => (intro w F; simp only [sees, kBlk, cellsAt, Nat.reduceAdd] at F; go_simp; try with_reducible rfl)
    try simp only [Act.put, p1, p2, p3, p4, p5, p6]
    refine tk (i := 2) (v := ?a53) rfl ?b53 (by assumption) ?c53
    case b53 => (intro w F; simp only [sees, kBlk, cellsAt, Nat.reduceAdd] at F; go_simp; try with_reducible rfl)
    try simp only [Act.put, p1, p2, p3, p4, p5, p6]
    refine sk (i := 3) rfl (by assumption) ?_
    try simp only [Act.put, p1, p2, p3, p4, p5, p6]
    refine sk (i := 4) rfl (by assumption) ?_
    try simp only [Act.put, p1, p2, p3, p4, p5, p6]
    refine sk (i := 5) rfl (by assumption) ?_
    try simp only [Act.put, p1, p2, p3, p4, p5, p6]
    refine tk (i := 6) (v := ?a54) rfl ?b54 (by assumption) ?c54
    case b54 => (intro w F; simp only [sees, kBlk, cellsAt, Nat.reduceAdd] at F; go_simp; try with_reducible rfl)
    try simp only [Act.put, p1, p2, p3, p4, p5, p6]
    refine tk (i := 7) (v := ?a55) rfl ?b55 (by assumption) ?c55
    case b55 => (intro w F; simp only [sees, kBlk, cellsAt, Nat.reduceAdd] at F; go_simp; try with_reducible rfl)
    try simp only [Act.put, p1, p2, p3, p4, p5, p6]
    refine tk (i := 8) (v := ?a56) rfl ?b56 (by assumption) ?c56
    case b56 => (intro w F; simp only [sees, kBlk, cellsAt, Nat.reduceAdd] at F; go_simp; try with_reducible rfl)
    try simp only [Act.put, p1, p2, p3, p4, p5, p6]
    refine wpAnyH_done (by kernel_rfl) ?_ _
    clear H6
    have H8 := Lib.hid hHeld
    clear hHeld
    go_wp2_with fail
    refine bodyPost_ret (v := .tuple #[.string ⟨(decS n).toArray⟩, .bool (false)]) (by simp [results, Tryz.results43, go_sem]) rfl ⟨⟨(decS n).toArray⟩, ?_, ?_, H8.out.bel⟩
    · rw [hno]
    · intro h; rw [hno] at h; cases h
end Go.Proofs.YtlngjiibbcgkmaaGreatDoor
