/- lex.write: texts, truths, errors, names. -/
import Derived.Test.YtlngjiibbcgkmaaGreatDoorWrite
import Derived.Test.YtlngjiibbcgkmaaGreatDoorTk
namespace Go.Proofs.YtlngjiibbcgkmaaGreatDoor
open Go.RowKit

attribute [local go_sem high] eq_tok
def FailAny (c : Int) (e : Ending) : Prop := ∃ d : Int, 1 ≤ d ∧ d ≤ 7 ∧ (1 ≤ c → c ≤ 5 → d = c) ∧ e = .returned (.agg #[.int .u8 4, .int .i64 d, .string ⟨#[]⟩])
theorem fail_any (c : Int) (w : World) :
    Calls Tryz.prog 65 #[.int .i64 c] w fun e w' => FailAny c e ∧ Below w.heap.size w w' := by
  by_cases h : 1 ≤ c ∧ c ≤ 7
  · exact (fail_code c h.1 h.2 w).mono fun e w' ⟨h1, h2⟩ => ⟨⟨c, h.1, h.2, fun _ _ => rfl, h1⟩, h2⟩
  · have H0 := Lib.hid (Ok.start w)
    have hno : 1 ≤ c → c ≤ 5 → (2 : Int) = c := by omega
    have Hno := keep hno
    clear hno
    go_enter Tryz.func65, Tryz.ntmps65
    go_upto_region 1 with fail
    have H1 := Lib.hid (H0.out.var w.heap.size 28 [.int .u8 0, .int .i64 0, .string ⟨#[]⟩] rfl)
    clear H0
    generalize (w.alloc (.cells #[.int .u8 0, .int .i64 0, .string ⟨#[]⟩] 28)) = W2 at H1 ⊢
    have F3 := H1.out.sees
    simp only [sees, kVar, cellsAt, Nat.reduceAdd] at F3
    obtain ⟨⟨⟨z0, fz0⟩, c0_0, c0_1, c0_2, -⟩, -⟩ := F3
    have hK := H1.out.get (kVar (w.heap.size) 28 [.int .u8 0, .int .i64 0, .string ⟨#[]⟩]) (by simp)
    have hB := H1.out.bel
    have hE := Lib.hid ((((show Blk W2 (w.heap.size) 28 _ from hK).set_ 0 (.int .u8 4)).set_ 1 (.int .i64 2)).set_ 2 (.string ⟨#[]⟩))
    have HB := Lib.hid hB
    clear hB hK
    by_cases h1 : c < 1
    · have e1 : decide (c < 1) = true := decide_eq_true h1
      go_wp2_with fail
      have r0 := hE.out.cell 0
      have r1 := hE.out.cell 1
      have r2 := hE.out.cell 2
      simp at r0 r1 r2
      exact bodyPost_ret (v := .agg #[.int .u8 4, .int .i64 2, .string ⟨#[]⟩]) (by simp [results, Tryz.results65, go_sem, r0, r1, r2]) rfl ⟨⟨2, by decide, by decide, Hno.out, rfl⟩, (((HB.out.setCell (by simp) _).setCell (by simp) _).setCell (by simp) _)⟩
    · have e1 : decide (c < 1) = false := decide_eq_false h1
      have e2 : decide ((7 : Int) < c) = true := decide_eq_true (by omega)
      go_wp2_with fail
      have r0 := hE.out.cell 0
      have r1 := hE.out.cell 1
      have r2 := hE.out.cell 2
      simp at r0 r1 r2
      exact bodyPost_ret (v := .agg #[.int .u8 4, .int .i64 2, .string ⟨#[]⟩]) (by simp [results, Tryz.results65, go_sem, r0, r1, r2]) rfl ⟨⟨2, by decide, by decide, Hno.out, rfl⟩, (((HB.out.setCell (by simp) _).setCell (by simp) _).setCell (by simp) _)⟩
set_option maxRecDepth 100000 in
set_option maxHeartbeats 4000000 in
theorem write_3 (n a1 a2 a3 a4 p : Int) (s : ByteArray) (w : World) :
    Calls Tryz.prog 43 #[.agg #[.int .u8 3, .int .i64 n, .string s, .int .i64 a1, .int .i64 a2, .int .i64 a3, .int .i64 a4, .int .i64 p]] w (WOut ⟨3, n, s.data.toList, ⟨a1, a2, a3, a4⟩, 0⟩ w) := by
  by_cases h0 : n = 0
  · subst h0
    have hb : eq8 3 0 a1 a2 a3 a4 p 3 0 0 0 0 0 p s.toList [] = okT ⟨3, 0, s.data.toList, ⟨a1, a2, a3, a4⟩, 0⟩ := by
      unfold eq8 okT bareB
      rw [show s.data.toList.isEmpty = decide (s.data.toList = []) from by cases s.data.toList <;> rfl]
      simp [ByteArray.toList_eq]
    have HEq := keep hb
    clear hb
    have H1 := Lib.hid (((Ok.start w).alloc w.heap.size 43 [.int .u8 3, .int .i64 0, .string s, .int .i64 a1, .int .i64 a2, .int .i64 a3, .int .i64 a4, .int .i64 p] rfl).alloc (w.heap.size + 1) 43 [.int .u8 3, .int .i64 0, .string ⟨#[]⟩, .int .i64 0, .int .i64 0, .int .i64 0, .int .i64 0, .int .i64 p] (by simp))
    go_enter Tryz.func43, Tryz.ntmps43
    go_wp2_with fail
    generalize ((w.alloc (.cells #[.int .u8 3, .int .i64 0, .string s, .int .i64 a1, .int .i64 a2, .int .i64 a3, .int .i64 a4, .int .i64 p] 43)).alloc (.cells #[.int .u8 3, .int .i64 0, .string ⟨#[]⟩, .int .i64 0, .int .i64 0, .int .i64 0, .int .i64 0, .int .i64 p] 43)) = W2 at H1 ⊢
    refine wp_region_held_drew (S := fun W => Ok w [kBlk (w.heap.size + 1) 43 [.int .u8 3, .int .i64 0, .string ⟨#[]⟩, .int .i64 0, .int .i64 0, .int .i64 0, .int .i64 0, .int .i64 p], kBlk (w.heap.size) 43 [.int .u8 3, .int .i64 0, .string s, .int .i64 a1, .int .i64 a2, .int .i64 a3, .int .i64 a4, .int .i64 p]] W) (by kernel_rfl) H1.out.drew (fun hHeld => ?_)
    refine tk (i := 0) (v := ?a1) rfl ?b1 (by assumption) ?c1
    case b1 => (intro w F; simp only [sees, kBlk, cellsAt, Nat.reduceAdd] at F; go_simp; try with_reducible rfl)
    try simp only [Act.put, p1, p2, p3, p4, p6]
    refine tk (i := 1) (v := ?a2) rfl ?b2 (by assumption) ?c2
    case b2 => (intro w F; simp only [sees, kBlk, cellsAt, Nat.reduceAdd] at F; go_simp; try with_reducible rfl)
    try simp only [Act.put, p1, p2, p3, p4, p5, p6]
    refine tk (i := 2) (v := ?a3) rfl ?b3 (by assumption) ?c3
    case b3 => (intro w F; simp only [sees, kBlk, cellsAt, Nat.reduceAdd] at F; go_simp; try with_reducible rfl)
    try simp only [Act.put, p1, p2, p3, p4, p5, p6]
    refine tk (i := 3) (v := ?a4) rfl ?b4 (by assumption) ?c4
    case b4 => (intro w F; simp only [sees, kBlk, cellsAt, Nat.reduceAdd] at F; go_simp; try with_reducible rfl)
    try simp only [Act.put, p1, p2, p3, p4, p5, p6]
    refine sk (i := 4) rfl (by assumption) ?_
    try simp only [Act.put, p1, p2, p3, p4, p5, p6]
    refine sk (i := 5) rfl (by assumption) ?_
    try simp only [Act.put, p1, p2, p3, p4, p5, p6]
    refine sk (i := 6) rfl (by assumption) ?_
    try simp only [Act.put, p1, p2, p3, p4, p5, p6]
    refine tk (i := 7) (v := ?a5) rfl ?b5 (by assumption) ?c5
    case b5 => (intro w F; simp only [sees, kBlk, cellsAt, Nat.reduceAdd] at F; go_simp; try with_reducible rfl)
    try simp only [Act.put, p1, p2, p3, p4, p5, p6]
    refine tk (i := 8) (v := ?a6) rfl ?b6 (by assumption) ?c6
    case b6 => (intro w F; simp only [sees, kBlk, cellsAt, Nat.reduceAdd] at F; go_simp; try with_reducible rfl)
    try simp only [Act.put, p1, p2, p3, p4, p5, p6]
    refine tk (i := 9) (v := ?a7) rfl ?b7 (by assumption) ?c7
    case b7 => (intro w F; simp only [sees, kBlk, cellsAt, Nat.reduceAdd] at F; go_simp; try with_reducible rfl)
    try simp only [Act.put, p1, p2, p3, p4, p5, p6]
    refine wpAnyH_done (by kernel_rfl) ?_ _
    clear H1
    have H4 := Lib.hid hHeld
    clear hHeld
    have F5 := H4.out.sees
    simp only [sees, kBlk, cellsAt, Nat.reduceAdd] at F5
    obtain ⟨⟨z0, c0_0, c0_1, c0_2, c0_3, c0_4, c0_5, c0_6, c0_7, -⟩, ⟨z1, c1_0, c1_1, c1_2, c1_3, c1_4, c1_5, c1_6, c1_7, -⟩, -⟩ := F5
    go_wp2_with fail
    clear z0 c0_0 c0_1 c0_2 c0_3 c0_4 c0_5 c0_6 c0_7 z1 c1_0 c1_1 c1_2 c1_3 c1_4 c1_5 c1_6 c1_7
    refine wp_region_held_drew (S := fun W => Ok w [kBlk (w.heap.size + 1) 43 [.int .u8 3, .int .i64 0, .string ⟨#[]⟩, .int .i64 0, .int .i64 0, .int .i64 0, .int .i64 0, .int .i64 p], kBlk (w.heap.size) 43 [.int .u8 3, .int .i64 0, .string s, .int .i64 a1, .int .i64 a2, .int .i64 a3, .int .i64 a4, .int .i64 p]] W) (by kernel_rfl) H4.out.drew (fun hHeld => ?_)
    refine tk (i := 0) (v := ?a8) rfl ?b8 (by assumption) ?c8
    case b8 => (intro w F; simp only [sees, kBlk, cellsAt, Nat.reduceAdd] at F; go_simp; try with_reducible rfl)
    try simp only [Act.put, p1, p2, p3, p4, p6]
    refine tk (i := 1) (v := ?a9) rfl ?b9 (by assumption) ?c9
    case b9 => (intro w F; simp only [sees, kBlk, cellsAt, Nat.reduceAdd] at F; go_simp; try with_reducible rfl)
    try simp only [Act.put, p1, p2, p3, p4, p5, p6]
    refine tk (i := 2) (v := ?a10) rfl ?b10 (by assumption) ?c10
    case b10 => (intro w F; simp only [sees, kBlk, cellsAt, Nat.reduceAdd] at F; go_simp; try with_reducible rfl)
    try simp only [Act.put, p1, p2, p3, p4, p5, p6]
    refine tk (i := 3) (v := ?a11) rfl ?b11 (by assumption) ?c11
    case b11 => (intro w F; simp only [sees, kBlk, cellsAt, Nat.reduceAdd] at F; go_simp; try with_reducible rfl)
    try simp only [Act.put, p1, p2, p3, p4, p5, p6]
    refine tk (i := 4) (v := ?a12) rfl ?b12 (by assumption) ?c12
    case b12 => (intro w F; simp only [sees, kBlk, cellsAt, Nat.reduceAdd] at F; go_simp; try with_reducible rfl)
    try simp only [Act.put, p1, p2, p3, p4, p5, p6]
    refine tk (i := 5) (v := ?a13) rfl ?b13 (by assumption) ?c13
    case b13 => (intro w F; simp only [sees, kBlk, cellsAt, Nat.reduceAdd] at F; go_simp; try with_reducible rfl)
    try simp only [Act.put, p1, p2, p3, p4, p5, p6]
    refine tk (i := 6) (v := ?a14) rfl ?b14 (by assumption) ?c14
    case b14 => (intro w F; simp only [sees, kBlk, cellsAt, Nat.reduceAdd] at F; go_simp; try with_reducible rfl)
    try simp only [Act.put, p1, p2, p3, p4, p5, p6]
    refine tk (i := 7) (v := ?a15) rfl ?b15 (by assumption) ?c15
    case b15 => (intro w F; simp only [sees, kBlk, cellsAt, Nat.reduceAdd] at F; go_simp; try with_reducible rfl)
    try simp only [Act.put, p1, p2, p3, p4, p5, p6]
    refine tk (i := 8) (v := ?a16) rfl ?b16 (by assumption) ?c16
    case b16 => (intro w F; simp only [sees, kBlk, cellsAt, Nat.reduceAdd] at F; go_simp; try with_reducible rfl)
    try simp only [Act.put, p1, p2, p3, p4, p5, p6]
    refine wpAnyH_done (by kernel_rfl) ?_ _
    clear H4
    have H7 := Lib.hid hHeld
    clear hHeld
    go_wp2_with fail
    refine bodyPost_ret (v := .tuple #[.string ⟨#[70, 65, 76, 83, 69]⟩, .bool (eq8 3 0 a1 a2 a3 a4 p 3 0 0 0 0 0 p s.toList [])]) (by simp [results, Tryz.results43, go_sem]) rfl ⟨⟨#[70, 65, 76, 83, 69]⟩, ?_, ?_, H7.out.bel⟩
    · rw [HEq.out]
    · intro _; rfl
  · by_cases h1 : n = 1
    · subst h1
      have hb : eq8 3 1 a1 a2 a3 a4 p 3 1 0 0 0 0 p s.toList [] = okT ⟨3, 1, s.data.toList, ⟨a1, a2, a3, a4⟩, 0⟩ := by
        unfold eq8 okT bareB
        rw [show s.data.toList.isEmpty = decide (s.data.toList = []) from by cases s.data.toList <;> rfl]
        simp [ByteArray.toList_eq]
      have HEq := keep hb
      clear hb
      have H1 := Lib.hid (((Ok.start w).alloc w.heap.size 43 [.int .u8 3, .int .i64 1, .string s, .int .i64 a1, .int .i64 a2, .int .i64 a3, .int .i64 a4, .int .i64 p] rfl).alloc (w.heap.size + 1) 43 [.int .u8 3, .int .i64 1, .string ⟨#[]⟩, .int .i64 0, .int .i64 0, .int .i64 0, .int .i64 0, .int .i64 p] (by simp))
      go_enter Tryz.func43, Tryz.ntmps43
      go_wp2_with fail
      generalize ((w.alloc (.cells #[.int .u8 3, .int .i64 1, .string s, .int .i64 a1, .int .i64 a2, .int .i64 a3, .int .i64 a4, .int .i64 p] 43)).alloc (.cells #[.int .u8 3, .int .i64 1, .string ⟨#[]⟩, .int .i64 0, .int .i64 0, .int .i64 0, .int .i64 0, .int .i64 p] 43)) = W2 at H1 ⊢
      refine wp_region_held_drew (S := fun W => Ok w [kBlk (w.heap.size + 1) 43 [.int .u8 3, .int .i64 1, .string ⟨#[]⟩, .int .i64 0, .int .i64 0, .int .i64 0, .int .i64 0, .int .i64 p], kBlk (w.heap.size) 43 [.int .u8 3, .int .i64 1, .string s, .int .i64 a1, .int .i64 a2, .int .i64 a3, .int .i64 a4, .int .i64 p]] W) (by kernel_rfl) H1.out.drew (fun hHeld => ?_)
      refine tk (i := 0) (v := ?a17) rfl ?b17 (by assumption) ?c17
      case b17 => (intro w F; simp only [sees, kBlk, cellsAt, Nat.reduceAdd] at F; go_simp; try with_reducible rfl)
      try simp only [Act.put, p1, p2, p3, p4, p6]
      refine tk (i := 1) (v := ?a18) rfl ?b18 (by assumption) ?c18
      case b18 => (intro w F; simp only [sees, kBlk, cellsAt, Nat.reduceAdd] at F; go_simp; try with_reducible rfl)
      try simp only [Act.put, p1, p2, p3, p4, p5, p6]
      refine tk (i := 2) (v := ?a19) rfl ?b19 (by assumption) ?c19
      case b19 => (intro w F; simp only [sees, kBlk, cellsAt, Nat.reduceAdd] at F; go_simp; try with_reducible rfl)
      try simp only [Act.put, p1, p2, p3, p4, p5, p6]
      refine tk (i := 3) (v := ?a20) rfl ?b20 (by assumption) ?c20
      case b20 => (intro w F; simp only [sees, kBlk, cellsAt, Nat.reduceAdd] at F; go_simp; try with_reducible rfl)
      try simp only [Act.put, p1, p2, p3, p4, p5, p6]
      refine tk (i := 4) (v := ?a21) rfl ?b21 (by assumption) ?c21
      case b21 => (intro w F; simp only [sees, kBlk, cellsAt, Nat.reduceAdd] at F; go_simp; try with_reducible rfl)
      try simp only [Act.put, p1, p2, p3, p4, p5, p6]
      refine tk (i := 5) (v := ?a22) rfl ?b22 (by assumption) ?c22
      case b22 => (intro w F; simp only [sees, kBlk, cellsAt, Nat.reduceAdd] at F; go_simp; try with_reducible rfl)
      try simp only [Act.put, p1, p2, p3, p4, p5, p6]
      refine tk (i := 6) (v := ?a23) rfl ?b23 (by assumption) ?c23
      case b23 => (intro w F; simp only [sees, kBlk, cellsAt, Nat.reduceAdd] at F; go_simp; try with_reducible rfl)
      try simp only [Act.put, p1, p2, p3, p4, p5, p6]
      refine tk (i := 7) (v := ?a24) rfl ?b24 (by assumption) ?c24
      case b24 => (intro w F; simp only [sees, kBlk, cellsAt, Nat.reduceAdd] at F; go_simp; try with_reducible rfl)
      try simp only [Act.put, p1, p2, p3, p4, p5, p6]
      refine tk (i := 8) (v := ?a25) rfl ?b25 (by assumption) ?c25
      case b25 => (intro w F; simp only [sees, kBlk, cellsAt, Nat.reduceAdd] at F; go_simp; try with_reducible rfl)
      try simp only [Act.put, p1, p2, p3, p4, p5, p6]
      refine tk (i := 9) (v := ?a26) rfl ?b26 (by assumption) ?c26
      case b26 => (intro w F; simp only [sees, kBlk, cellsAt, Nat.reduceAdd] at F; go_simp; try with_reducible rfl)
      try simp only [Act.put, p1, p2, p3, p4, p5, p6]
      refine wpAnyH_done (by kernel_rfl) ?_ _
      clear H1
      have H4 := Lib.hid hHeld
      clear hHeld
      have F5 := H4.out.sees
      simp only [sees, kBlk, cellsAt, Nat.reduceAdd] at F5
      obtain ⟨⟨z0, c0_0, c0_1, c0_2, c0_3, c0_4, c0_5, c0_6, c0_7, -⟩, ⟨z1, c1_0, c1_1, c1_2, c1_3, c1_4, c1_5, c1_6, c1_7, -⟩, -⟩ := F5
      go_wp2_with fail
      clear z0 c0_0 c0_1 c0_2 c0_3 c0_4 c0_5 c0_6 c0_7 z1 c1_0 c1_1 c1_2 c1_3 c1_4 c1_5 c1_6 c1_7
      refine wp_region_held_drew (S := fun W => Ok w [kBlk (w.heap.size + 1) 43 [.int .u8 3, .int .i64 1, .string ⟨#[]⟩, .int .i64 0, .int .i64 0, .int .i64 0, .int .i64 0, .int .i64 p], kBlk (w.heap.size) 43 [.int .u8 3, .int .i64 1, .string s, .int .i64 a1, .int .i64 a2, .int .i64 a3, .int .i64 a4, .int .i64 p]] W) (by kernel_rfl) H4.out.drew (fun hHeld => ?_)
      refine tk (i := 0) (v := ?a27) rfl ?b27 (by assumption) ?c27
      case b27 => (intro w F; simp only [sees, kBlk, cellsAt, Nat.reduceAdd] at F; go_simp; try with_reducible rfl)
      try simp only [Act.put, p1, p2, p3, p4, p6]
      refine tk (i := 1) (v := ?a28) rfl ?b28 (by assumption) ?c28
      case b28 => (intro w F; simp only [sees, kBlk, cellsAt, Nat.reduceAdd] at F; go_simp; try with_reducible rfl)
      try simp only [Act.put, p1, p2, p3, p4, p5, p6]
      refine tk (i := 2) (v := ?a29) rfl ?b29 (by assumption) ?c29
      case b29 => (intro w F; simp only [sees, kBlk, cellsAt, Nat.reduceAdd] at F; go_simp; try with_reducible rfl)
      try simp only [Act.put, p1, p2, p3, p4, p5, p6]
      refine tk (i := 3) (v := ?a30) rfl ?b30 (by assumption) ?c30
      case b30 => (intro w F; simp only [sees, kBlk, cellsAt, Nat.reduceAdd] at F; go_simp; try with_reducible rfl)
      try simp only [Act.put, p1, p2, p3, p4, p5, p6]
      refine tk (i := 4) (v := ?a31) rfl ?b31 (by assumption) ?c31
      case b31 => (intro w F; simp only [sees, kBlk, cellsAt, Nat.reduceAdd] at F; go_simp; try with_reducible rfl)
      try simp only [Act.put, p1, p2, p3, p4, p5, p6]
      refine tk (i := 5) (v := ?a32) rfl ?b32 (by assumption) ?c32
      case b32 => (intro w F; simp only [sees, kBlk, cellsAt, Nat.reduceAdd] at F; go_simp; try with_reducible rfl)
      try simp only [Act.put, p1, p2, p3, p4, p5, p6]
      refine tk (i := 6) (v := ?a33) rfl ?b33 (by assumption) ?c33
      case b33 => (intro w F; simp only [sees, kBlk, cellsAt, Nat.reduceAdd] at F; go_simp; try with_reducible rfl)
      try simp only [Act.put, p1, p2, p3, p4, p5, p6]
      refine tk (i := 7) (v := ?a34) rfl ?b34 (by assumption) ?c34
      case b34 => (intro w F; simp only [sees, kBlk, cellsAt, Nat.reduceAdd] at F; go_simp; try with_reducible rfl)
      try simp only [Act.put, p1, p2, p3, p4, p5, p6]
      refine tk (i := 8) (v := ?a35) rfl ?b35 (by assumption) ?c35
      case b35 => (intro w F; simp only [sees, kBlk, cellsAt, Nat.reduceAdd] at F; go_simp; try with_reducible rfl)
      try simp only [Act.put, p1, p2, p3, p4, p5, p6]
      refine wpAnyH_done (by kernel_rfl) ?_ _
      clear H4
      have H7 := Lib.hid hHeld
      clear hHeld
      go_wp2_with fail
      refine bodyPost_ret (v := .tuple #[.string ⟨#[84, 82, 85, 69]⟩, .bool (eq8 3 1 a1 a2 a3 a4 p 3 1 0 0 0 0 p s.toList [])]) (by simp [results, Tryz.results43, go_sem]) rfl ⟨⟨#[84, 82, 85, 69]⟩, ?_, ?_, H7.out.bel⟩
      · rw [HEq.out]
      · intro _; rfl
    · have e1 : (n == 0) = false := beq_eq_false_iff_ne.2 h0
      have e2 : (n == 1) = false := beq_eq_false_iff_ne.2 h1
      have hno : okT ⟨3, n, s.data.toList, ⟨a1, a2, a3, a4⟩, 0⟩ = false := by
        unfold okT
        simp [h0, h1]
      have H1 := Lib.hid (((Ok.start w).alloc w.heap.size 43 [.int .u8 3, .int .i64 n, .string s, .int .i64 a1, .int .i64 a2, .int .i64 a3, .int .i64 a4, .int .i64 p] rfl).alloc (w.heap.size + 1) 43 [.int .u8 3, .int .i64 n, .string ⟨#[]⟩, .int .i64 0, .int .i64 0, .int .i64 0, .int .i64 0, .int .i64 p] (by simp))
      go_enter Tryz.func43, Tryz.ntmps43
      go_wp2_with fail
      generalize ((w.alloc (.cells #[.int .u8 3, .int .i64 n, .string s, .int .i64 a1, .int .i64 a2, .int .i64 a3, .int .i64 a4, .int .i64 p] 43)).alloc (.cells #[.int .u8 3, .int .i64 n, .string ⟨#[]⟩, .int .i64 0, .int .i64 0, .int .i64 0, .int .i64 0, .int .i64 p] 43)) = W2 at H1 ⊢
      refine wp_region_held_drew (S := fun W => Ok w [kBlk (w.heap.size + 1) 43 [.int .u8 3, .int .i64 n, .string ⟨#[]⟩, .int .i64 0, .int .i64 0, .int .i64 0, .int .i64 0, .int .i64 p], kBlk (w.heap.size) 43 [.int .u8 3, .int .i64 n, .string s, .int .i64 a1, .int .i64 a2, .int .i64 a3, .int .i64 a4, .int .i64 p]] W) (by kernel_rfl) H1.out.drew (fun hHeld => ?_)
      refine tk (i := 0) (v := ?a36) rfl ?b36 (by assumption) ?c36
      case b36 => (intro w F; simp only [sees, kBlk, cellsAt, Nat.reduceAdd] at F; go_simp; try with_reducible rfl)
      try simp only [Act.put, p1, p2, p3, p4, p6]
      refine tk (i := 1) (v := ?a37) rfl ?b37 (by assumption) ?c37
      case b37 => (intro w F; simp only [sees, kBlk, cellsAt, Nat.reduceAdd] at F; go_simp; try with_reducible rfl)
      try simp only [Act.put, p1, p2, p3, p4, p5, p6]
      refine tk (i := 2) (v := ?a38) rfl ?b38 (by assumption) ?c38
      case b38 => (intro w F; simp only [sees, kBlk, cellsAt, Nat.reduceAdd] at F; go_simp; try with_reducible rfl)
      try simp only [Act.put, p1, p2, p3, p4, p5, p6]
      refine tk (i := 3) (v := ?a39) rfl ?b39 (by assumption) ?c39
      case b39 => (intro w F; simp only [sees, kBlk, cellsAt, Nat.reduceAdd] at F; go_simp; try with_reducible rfl)
      try simp only [Act.put, p1, p2, p3, p4, p5, p6]
      refine tk (i := 4) (v := ?a40) rfl ?b40 (by assumption) ?c40
      case b40 => (intro w F; simp only [sees, kBlk, cellsAt, Nat.reduceAdd] at F; go_simp; try with_reducible rfl)
      try simp only [Act.put, p1, p2, p3, p4, p5, p6]
      refine tk (i := 5) (v := ?a41) rfl ?b41 (by assumption) ?c41
      case b41 => (intro w F; simp only [sees, kBlk, cellsAt, Nat.reduceAdd] at F; go_simp; try with_reducible rfl)
      try simp only [Act.put, p1, p2, p3, p4, p5, p6]
      refine tk (i := 6) (v := ?a42) rfl ?b42 (by assumption) ?c42
      case b42 => (intro w F; simp only [sees, kBlk, cellsAt, Nat.reduceAdd] at F; go_simp; try with_reducible rfl)
      try simp only [Act.put, p1, p2, p3, p4, p5, p6]
      refine tk (i := 7) (v := ?a43) rfl ?b43 (by assumption) ?c43
      case b43 => (intro w F; simp only [sees, kBlk, cellsAt, Nat.reduceAdd] at F; go_simp; try with_reducible rfl)
      try simp only [Act.put, p1, p2, p3, p4, p5, p6]
      refine tk (i := 8) (v := ?a44) rfl ?b44 (by assumption) ?c44
      case b44 => (intro w F; simp only [sees, kBlk, cellsAt, Nat.reduceAdd] at F; go_simp; try with_reducible rfl)
      try simp only [Act.put, p1, p2, p3, p4, p5, p6]
      refine tk (i := 9) (v := ?a45) rfl ?b45 (by assumption) ?c45
      case b45 => (intro w F; simp only [sees, kBlk, cellsAt, Nat.reduceAdd] at F; go_simp; try with_reducible rfl)
      try simp only [Act.put, p1, p2, p3, p4, p5, p6]
      refine wpAnyH_done (by kernel_rfl) ?_ _
      clear H1
      have H4 := Lib.hid hHeld
      clear hHeld
      have F5 := H4.out.sees
      simp only [sees, kBlk, cellsAt, Nat.reduceAdd] at F5
      obtain ⟨⟨z0, c0_0, c0_1, c0_2, c0_3, c0_4, c0_5, c0_6, c0_7, -⟩, ⟨z1, c1_0, c1_1, c1_2, c1_3, c1_4, c1_5, c1_6, c1_7, -⟩, -⟩ := F5
      go_wp2_with fail
      clear z0 c0_0 c0_1 c0_2 c0_3 c0_4 c0_5 c0_6 c0_7 z1 c1_0 c1_1 c1_2 c1_3 c1_4 c1_5 c1_6 c1_7
      refine wp_region_held_drew (S := fun W => Ok w [kBlk (w.heap.size + 1) 43 [.int .u8 3, .int .i64 n, .string ⟨#[]⟩, .int .i64 0, .int .i64 0, .int .i64 0, .int .i64 0, .int .i64 p], kBlk (w.heap.size) 43 [.int .u8 3, .int .i64 n, .string s, .int .i64 a1, .int .i64 a2, .int .i64 a3, .int .i64 a4, .int .i64 p]] W) (by kernel_rfl) H4.out.drew (fun hHeld => ?_)
      refine tk (i := 0) (v := ?a46) rfl ?b46 (by assumption) ?c46
      case b46 => (intro w F; simp only [sees, kBlk, cellsAt, Nat.reduceAdd] at F; go_simp; try with_reducible rfl)
      try simp only [Act.put, p1, p2, p3, p4, p6]
      refine tk (i := 1) (v := ?a47) rfl ?b47 (by assumption) ?c47
      case b47 => (intro w F; simp only [sees, kBlk, cellsAt, Nat.reduceAdd] at F; go_simp; try with_reducible rfl)
      try simp only [Act.put, p1, p2, p3, p4, p5, p6]
      refine tk (i := 2) (v := ?a48) rfl ?b48 (by assumption) ?c48
      case b48 => (intro w F; simp only [sees, kBlk, cellsAt, Nat.reduceAdd] at F; go_simp; try with_reducible rfl)
      try simp only [Act.put, p1, p2, p3, p4, p5, p6]
      refine sk (i := 3) rfl (by assumption) ?_
      try simp only [Act.put, p1, p2, p3, p4, p5, p6]
      refine sk (i := 4) rfl (by assumption) ?_
      try simp only [Act.put, p1, p2, p3, p4, p5, p6]
      refine sk (i := 5) rfl (by assumption) ?_
      try simp only [Act.put, p1, p2, p3, p4, p5, p6]
      refine tk (i := 6) (v := ?a49) rfl ?b49 (by assumption) ?c49
      case b49 => (intro w F; simp only [sees, kBlk, cellsAt, Nat.reduceAdd] at F; go_simp; try with_reducible rfl)
      try simp only [Act.put, p1, p2, p3, p4, p5, p6]
      refine tk (i := 7) (v := ?a50) rfl ?b50 (by assumption) ?c50
      case b50 => (intro w F; simp only [sees, kBlk, cellsAt, Nat.reduceAdd] at F; go_simp; try with_reducible rfl)
      try simp only [Act.put, p1, p2, p3, p4, p5, p6]
      refine tk (i := 8) (v := ?a51) rfl ?b51 (by assumption) ?c51
      case b51 => (intro w F; simp only [sees, kBlk, cellsAt, Nat.reduceAdd] at F; go_simp; try with_reducible rfl)
      try simp only [Act.put, p1, p2, p3, p4, p5, p6]
      refine wpAnyH_done (by kernel_rfl) ?_ _
      clear H4
      have H7 := Lib.hid hHeld
      clear hHeld
      go_wp2_with fail
      refine bodyPost_ret (v := .tuple #[.string ⟨#[70, 65, 76, 83, 69]⟩, .bool (false)]) (by simp [results, Tryz.results43, go_sem]) rfl ⟨⟨#[70, 65, 76, 83, 69]⟩, ?_, ?_, H7.out.bel⟩
      · rw [hno]
      · intro h; rw [hno] at h; cases h
set_option maxRecDepth 100000 in
set_option maxHeartbeats 4000000 in
theorem write_4 (n a1 a2 a3 a4 p : Int) (s : ByteArray) (w : World) (hw : Words w) :
    Calls Tryz.prog 43 #[.agg #[.int .u8 4, .int .i64 n, .string s, .int .i64 a1, .int .i64 a2, .int .i64 a3, .int .i64 a4, .int .i64 p]] w (WOut ⟨4, n, s.data.toList, ⟨a1, a2, a3, a4⟩, 0⟩ w) := by
  by_cases h0 : 1 ≤ n ∧ n ≤ 5
  · have hb : eq8 4 n a1 a2 a3 a4 p 4 n 0 0 0 0 p s.toList [] = okT ⟨4, n, s.data.toList, ⟨a1, a2, a3, a4⟩, 0⟩ := by
      unfold eq8 okT bareB
      rw [show s.data.toList.isEmpty = decide (s.data.toList = []) from by cases s.data.toList <;> rfl]
      simp [ByteArray.toList_eq, h0]
    have HW := Lib.hid hw
    clear hw
    have he : decide (1 ≤ n ∧ n ≤ 5) = true := decide_eq_true h0
    have HEq := keep hb
    clear hb
    have HE := keep he
    have H0 := keep h0
    clear he h0
    have H1 := Lib.hid (((Ok.start w).alloc w.heap.size 43 [.int .u8 4, .int .i64 n, .string s, .int .i64 a1, .int .i64 a2, .int .i64 a3, .int .i64 a4, .int .i64 p] rfl).alloc (w.heap.size + 1) 43 [.int .u8 4, .int .i64 n, .string ⟨#[]⟩, .int .i64 0, .int .i64 0, .int .i64 0, .int .i64 0, .int .i64 p] (by simp))
    go_enter Tryz.func43, Tryz.ntmps43
    go_wp2_with fail
    generalize ((w.alloc (.cells #[.int .u8 4, .int .i64 n, .string s, .int .i64 a1, .int .i64 a2, .int .i64 a3, .int .i64 a4, .int .i64 p] 43)).alloc (.cells #[.int .u8 4, .int .i64 n, .string ⟨#[]⟩, .int .i64 0, .int .i64 0, .int .i64 0, .int .i64 0, .int .i64 p] 43)) = W2 at H1 ⊢
    refine wp_region_held_drew (S := fun W => Ok w [kBlk (w.heap.size + 1) 43 [.int .u8 4, .int .i64 n, .string ⟨#[]⟩, .int .i64 0, .int .i64 0, .int .i64 0, .int .i64 0, .int .i64 p], kBlk (w.heap.size) 43 [.int .u8 4, .int .i64 n, .string s, .int .i64 a1, .int .i64 a2, .int .i64 a3, .int .i64 a4, .int .i64 p]] W) (by kernel_rfl) H1.out.drew (fun hHeld => ?_)
    refine tk (i := 0) (v := ?a52) rfl ?b52 (by assumption) ?c52
    case b52 => (intro w F; simp only [sees, kBlk, cellsAt, Nat.reduceAdd] at F; go_simp; try with_reducible rfl)
    try simp only [Act.put, p1, p2, p3, p4, p6]
    refine tk (i := 1) (v := ?a53) rfl ?b53 (by assumption) ?c53
    case b53 => (intro w F; simp only [sees, kBlk, cellsAt, Nat.reduceAdd] at F; go_simp; try with_reducible rfl)
    try simp only [Act.put, p1, p2, p3, p4, p5, p6]
    refine tk (i := 4) (v := ?a54) rfl ?b54 (by assumption) ?c54
    case b54 => (intro w F; simp only [sees, kBlk, cellsAt, Nat.reduceAdd] at F; go_simp; try with_reducible rfl)
    try simp only [Act.put, p1, p2, p3, p4, p5, p6]
    refine tk (i := 5) (v := ?a55) rfl ?b55 (by assumption) ?c55
    case b55 => (intro w F; simp only [sees, kBlk, cellsAt, Nat.reduceAdd] at F; go_simp; try with_reducible rfl)
    try simp only [Act.put, p1, p2, p3, p4, p5, p6]
    refine wpAnyH_ready (rs := [2]) (by kernel_rfl) (by simp) ?_
    refine AllReadyH.cons rfl (fun K hK => ?_) AllReadyH.nil
    go_simp
    refine (fail_any n _).mono ?_
    rintro e w6 ⟨⟨d, hd1, hd7, hdn, rfl⟩, hb6⟩
    have HDN := keep hdn
    clear hdn
    go_wp2_with fail
    refine hK.out _ _ (hHeld.below hb6) (fun hHeld => ?_)
    clear hK K
    try simp only [Act.put, p1, p2, p3, p4, p5, p6]
    refine wpAnyH_ready (rs := [3]) (by kernel_rfl) (by simp) ?_
    refine AllReadyH.cons rfl (fun K hK => ?_) AllReadyH.nil
    go_simp
    refine (show_err d hd1 hd7 _ (HW.out.below hHeld.bel)).mono ?_
    rintro e w7 ⟨rfl, hb7⟩
    go_wp2_with fail
    refine hK.out _ _ (hHeld.below hb7) (fun hHeld => ?_)
    clear hK K
    try simp only [Act.put, p1, p2, p3, p4, p5, p6]
    refine wpAnyH_ready (rs := [6]) (by kernel_rfl) (by simp) ?_
    refine AllReadyH.cons rfl (fun K hK => ?_) AllReadyH.nil
    go_simp
    refine (lex_literal n _).mono ?_
    rintro e w8 ⟨rfl, rfl⟩
    rw [HE.out]
    go_wp2_with fail
    refine hK.out _ _ hHeld (fun hHeld => ?_)
    clear hK K
    try simp only [Act.put, p1, p2, p3, p4, p5, p6]
    refine tk (i := 7) (v := ?a56) rfl ?b56 (by assumption) ?c56
    case b56 => (intro w F; simp only [sees, kBlk, cellsAt, Nat.reduceAdd] at F; go_simp; try with_reducible rfl)
    try simp only [Act.put, p1, p2, p3, p4, p5, p6]
    refine tk (i := 8) (v := ?a57) rfl ?b57 (by assumption) ?c57
    case b57 => (intro w F; simp only [sees, kBlk, cellsAt, Nat.reduceAdd] at F; go_simp; try with_reducible rfl)
    try simp only [Act.put, p1, p2, p3, p4, p5, p6]
    refine wpAnyH_done (by kernel_rfl) ?_ _
    clear H1
    have H3 := Lib.hid hHeld
    clear hHeld
    go_wp2_with fail
    refine wp_region_held_drew (S := fun W => Ok w [kBlk (w.heap.size + 1) 43 [.int .u8 4, .int .i64 n, .string ⟨#[]⟩, .int .i64 0, .int .i64 0, .int .i64 0, .int .i64 0, .int .i64 p], kBlk (w.heap.size) 43 [.int .u8 4, .int .i64 n, .string s, .int .i64 a1, .int .i64 a2, .int .i64 a3, .int .i64 a4, .int .i64 p]] W) (by kernel_rfl) H3.out.drew (fun hHeld => ?_)
    refine tk (i := 0) (v := ?a58) rfl ?b58 (by assumption) ?c58
    case b58 => (intro w F; simp only [sees, kBlk, cellsAt, Nat.reduceAdd] at F; go_simp; try with_reducible rfl)
    try simp only [Act.put, p1, p2, p3, p4, p6]
    refine tk (i := 1) (v := ?a59) rfl ?b59 (by assumption) ?c59
    case b59 => (intro w F; simp only [sees, kBlk, cellsAt, Nat.reduceAdd] at F; go_simp; try with_reducible rfl)
    try simp only [Act.put, p1, p2, p3, p4, p5, p6]
    refine tk (i := 2) (v := ?a60) rfl ?b60 (by assumption) ?c60
    case b60 => (intro w F; simp only [sees, kBlk, cellsAt, Nat.reduceAdd] at F; go_simp; try with_reducible rfl)
    try simp only [Act.put, p1, p2, p3, p4, p5, p6]
    refine tk (i := 3) (v := ?a61) rfl ?b61 (by assumption) ?c61
    case b61 => (intro w F; simp only [sees, kBlk, cellsAt, Nat.reduceAdd] at F; go_simp; try with_reducible rfl)
    try simp only [Act.put, p1, p2, p3, p4, p5, p6]
    refine tk (i := 4) (v := ?a62) rfl ?b62 (by assumption) ?c62
    case b62 => (intro w F; simp only [sees, kBlk, cellsAt, Nat.reduceAdd] at F; go_simp; try with_reducible rfl)
    try simp only [Act.put, p1, p2, p3, p4, p5, p6]
    refine tk (i := 5) (v := ?a63) rfl ?b63 (by assumption) ?c63
    case b63 => (intro w F; simp only [sees, kBlk, cellsAt, Nat.reduceAdd] at F; go_simp; try with_reducible rfl)
    try simp only [Act.put, p1, p2, p3, p4, p5, p6]
    refine tk (i := 6) (v := ?a64) rfl ?b64 (by assumption) ?c64
    case b64 => (intro w F; simp only [sees, kBlk, cellsAt, Nat.reduceAdd] at F; go_simp; try with_reducible rfl)
    try simp only [Act.put, p1, p2, p3, p4, p5, p6]
    refine tk (i := 7) (v := ?a65) rfl ?b65 (by assumption) ?c65
    case b65 => (intro w F; simp only [sees, kBlk, cellsAt, Nat.reduceAdd] at F; go_simp; try with_reducible rfl)
    try simp only [Act.put, p1, p2, p3, p4, p5, p6]
    refine tk (i := 8) (v := ?a66) rfl ?b66 (by assumption) ?c66
    case b66 => (intro w F; simp only [sees, kBlk, cellsAt, Nat.reduceAdd] at F; go_simp; try with_reducible rfl)
    try simp only [Act.put, p1, p2, p3, p4, p5, p6]
    refine wpAnyH_done (by kernel_rfl) ?_ _
    clear H3
    have H5 := Lib.hid hHeld
    clear hHeld
    go_wp2_with fail
    refine bodyPost_ret (v := .tuple #[.string ⟨(allNames[d.toNat]?.getD []).toArray⟩, .bool (eq8 4 n a1 a2 a3 a4 p 4 n 0 0 0 0 p s.toList [])]) (by simp [results, Tryz.results43, go_sem]) rfl ⟨⟨(allNames[d.toNat]?.getD []).toArray⟩, ?_, ?_, H5.out.bel⟩
    · rw [HEq.out]
    · intro _; rw [HDN.out H0.out.1 H0.out.2]; simp [textS]
  · have HW := Lib.hid hw
    clear hw
    have he : decide (1 ≤ n ∧ n ≤ 5) = false := decide_eq_false h0
    have HNo := keep (show okT ⟨4, n, s.data.toList, ⟨a1, a2, a3, a4⟩, 0⟩ = false from by unfold okT; simp [h0])
    have h5 : True := trivial
    have HE := keep he
    have H0 := keep h0
    clear he h0
    have H1 := Lib.hid (((Ok.start w).alloc w.heap.size 43 [.int .u8 4, .int .i64 n, .string s, .int .i64 a1, .int .i64 a2, .int .i64 a3, .int .i64 a4, .int .i64 p] rfl).alloc (w.heap.size + 1) 43 [.int .u8 4, .int .i64 n, .string ⟨#[]⟩, .int .i64 0, .int .i64 0, .int .i64 0, .int .i64 0, .int .i64 p] (by simp))
    go_enter Tryz.func43, Tryz.ntmps43
    go_wp2_with fail
    generalize ((w.alloc (.cells #[.int .u8 4, .int .i64 n, .string s, .int .i64 a1, .int .i64 a2, .int .i64 a3, .int .i64 a4, .int .i64 p] 43)).alloc (.cells #[.int .u8 4, .int .i64 n, .string ⟨#[]⟩, .int .i64 0, .int .i64 0, .int .i64 0, .int .i64 0, .int .i64 p] 43)) = W2 at H1 ⊢
    refine wp_region_held_drew (S := fun W => Ok w [kBlk (w.heap.size + 1) 43 [.int .u8 4, .int .i64 n, .string ⟨#[]⟩, .int .i64 0, .int .i64 0, .int .i64 0, .int .i64 0, .int .i64 p], kBlk (w.heap.size) 43 [.int .u8 4, .int .i64 n, .string s, .int .i64 a1, .int .i64 a2, .int .i64 a3, .int .i64 a4, .int .i64 p]] W) (by kernel_rfl) H1.out.drew (fun hHeld => ?_)
    refine tk (i := 0) (v := ?a67) rfl ?b67 (by assumption) ?c67
    case b67 => (intro w F; simp only [sees, kBlk, cellsAt, Nat.reduceAdd] at F; go_simp; try with_reducible rfl)
    try simp only [Act.put, p1, p2, p3, p4, p6]
    refine tk (i := 1) (v := ?a68) rfl ?b68 (by assumption) ?c68
    case b68 => (intro w F; simp only [sees, kBlk, cellsAt, Nat.reduceAdd] at F; go_simp; try with_reducible rfl)
    try simp only [Act.put, p1, p2, p3, p4, p5, p6]
    refine tk (i := 4) (v := ?a69) rfl ?b69 (by assumption) ?c69
    case b69 => (intro w F; simp only [sees, kBlk, cellsAt, Nat.reduceAdd] at F; go_simp; try with_reducible rfl)
    try simp only [Act.put, p1, p2, p3, p4, p5, p6]
    refine tk (i := 5) (v := ?a70) rfl ?b70 (by assumption) ?c70
    case b70 => (intro w F; simp only [sees, kBlk, cellsAt, Nat.reduceAdd] at F; go_simp; try with_reducible rfl)
    try simp only [Act.put, p1, p2, p3, p4, p5, p6]
    refine wpAnyH_ready (rs := [2]) (by kernel_rfl) (by simp) ?_
    refine AllReadyH.cons rfl (fun K hK => ?_) AllReadyH.nil
    go_simp
    refine (fail_any n _).mono ?_
    rintro e w6 ⟨⟨d, hd1, hd7, hdn, rfl⟩, hb6⟩
    have HDN := keep hdn
    clear hdn
    go_wp2_with fail
    refine hK.out _ _ (hHeld.below hb6) (fun hHeld => ?_)
    clear hK K
    try simp only [Act.put, p1, p2, p3, p4, p5, p6]
    refine wpAnyH_ready (rs := [3]) (by kernel_rfl) (by simp) ?_
    refine AllReadyH.cons rfl (fun K hK => ?_) AllReadyH.nil
    go_simp
    refine (show_err d hd1 hd7 _ (HW.out.below hHeld.bel)).mono ?_
    rintro e w7 ⟨rfl, hb7⟩
    go_wp2_with fail
    refine hK.out _ _ (hHeld.below hb7) (fun hHeld => ?_)
    clear hK K
    try simp only [Act.put, p1, p2, p3, p4, p5, p6]
    refine wpAnyH_ready (rs := [6]) (by kernel_rfl) (by simp) ?_
    refine AllReadyH.cons rfl (fun K hK => ?_) AllReadyH.nil
    go_simp
    refine (lex_literal n _).mono ?_
    rintro e w8 ⟨rfl, rfl⟩
    rw [HE.out]
    go_wp2_with fail
    refine hK.out _ _ hHeld (fun hHeld => ?_)
    clear hK K
    try simp only [Act.put, p1, p2, p3, p4, p5, p6]
    refine tk (i := 7) (v := ?a71) rfl ?b71 (by assumption) ?c71
    case b71 => (intro w F; simp only [sees, kBlk, cellsAt, Nat.reduceAdd] at F; go_simp; try with_reducible rfl)
    try simp only [Act.put, p1, p2, p3, p4, p5, p6]
    refine tk (i := 8) (v := ?a72) rfl ?b72 (by assumption) ?c72
    case b72 => (intro w F; simp only [sees, kBlk, cellsAt, Nat.reduceAdd] at F; go_simp; try with_reducible rfl)
    try simp only [Act.put, p1, p2, p3, p4, p5, p6]
    refine wpAnyH_done (by kernel_rfl) ?_ _
    clear H1
    have H3 := Lib.hid hHeld
    clear hHeld
    go_wp2_with fail
    refine wp_region_held_drew (S := fun W => Ok w [kBlk (w.heap.size + 1) 43 [.int .u8 4, .int .i64 n, .string ⟨#[]⟩, .int .i64 0, .int .i64 0, .int .i64 0, .int .i64 0, .int .i64 p], kBlk (w.heap.size) 43 [.int .u8 4, .int .i64 n, .string s, .int .i64 a1, .int .i64 a2, .int .i64 a3, .int .i64 a4, .int .i64 p]] W) (by kernel_rfl) H3.out.drew (fun hHeld => ?_)
    refine tk (i := 0) (v := ?a73) rfl ?b73 (by assumption) ?c73
    case b73 => (intro w F; simp only [sees, kBlk, cellsAt, Nat.reduceAdd] at F; go_simp; try with_reducible rfl)
    try simp only [Act.put, p1, p2, p3, p4, p6]
    refine tk (i := 1) (v := ?a74) rfl ?b74 (by assumption) ?c74
    case b74 => (intro w F; simp only [sees, kBlk, cellsAt, Nat.reduceAdd] at F; go_simp; try with_reducible rfl)
    try simp only [Act.put, p1, p2, p3, p4, p5, p6]
    refine tk (i := 2) (v := ?a75) rfl ?b75 (by assumption) ?c75
    case b75 => (intro w F; simp only [sees, kBlk, cellsAt, Nat.reduceAdd] at F; go_simp; try with_reducible rfl)
    try simp only [Act.put, p1, p2, p3, p4, p5, p6]
    refine sk (i := 3) rfl (by assumption) ?_
    try simp only [Act.put, p1, p2, p3, p4, p5, p6]
    refine sk (i := 4) rfl (by assumption) ?_
    try simp only [Act.put, p1, p2, p3, p4, p5, p6]
    refine sk (i := 5) rfl (by assumption) ?_
    try simp only [Act.put, p1, p2, p3, p4, p5, p6]
    refine tk (i := 6) (v := ?a76) rfl ?b76 (by assumption) ?c76
    case b76 => (intro w F; simp only [sees, kBlk, cellsAt, Nat.reduceAdd] at F; go_simp; try with_reducible rfl)
    try simp only [Act.put, p1, p2, p3, p4, p5, p6]
    refine tk (i := 7) (v := ?a77) rfl ?b77 (by assumption) ?c77
    case b77 => (intro w F; simp only [sees, kBlk, cellsAt, Nat.reduceAdd] at F; go_simp; try with_reducible rfl)
    try simp only [Act.put, p1, p2, p3, p4, p5, p6]
    refine tk (i := 8) (v := ?a78) rfl ?b78 (by assumption) ?c78
    case b78 => (intro w F; simp only [sees, kBlk, cellsAt, Nat.reduceAdd] at F; go_simp; try with_reducible rfl)
    try simp only [Act.put, p1, p2, p3, p4, p5, p6]
    refine wpAnyH_done (by kernel_rfl) ?_ _
    clear H3
    have H5 := Lib.hid hHeld
    clear hHeld
    go_wp2_with fail
    refine bodyPost_ret (v := .tuple #[.string ⟨(allNames[d.toNat]?.getD []).toArray⟩, .bool (false)]) (by simp [results, Tryz.results43, go_sem]) rfl ⟨⟨(allNames[d.toNat]?.getD []).toArray⟩, ?_, ?_, H5.out.bel⟩
    · rw [HNo.out]
    · intro h; rw [HNo.out] at h; cases h
set_option maxRecDepth 100000 in
set_option maxHeartbeats 4000000 in
theorem write_7 (n a1 a2 a3 a4 p : Int) (s : ByteArray) (w : World) (hs : s.size ≤ 4611686018427387904) :
    Calls Tryz.prog 43 #[.agg #[.int .u8 7, .int .i64 n, .string s, .int .i64 a1, .int .i64 a2, .int .i64 a3, .int .i64 a4, .int .i64 p]] w (WOut ⟨7, n, s.data.toList, ⟨a1, a2, a3, a4⟩, 0⟩ w) := by
  cases h0 : nameB s.data.toList
  · have HNo := keep (show okT ⟨7, n, s.data.toList, ⟨a1, a2, a3, a4⟩, 0⟩ = false from by unfold okT; simp [h0])
    have HE := keep h0
    clear h0
    have H1 := Lib.hid (((Ok.start w).alloc w.heap.size 43 [.int .u8 7, .int .i64 n, .string s, .int .i64 a1, .int .i64 a2, .int .i64 a3, .int .i64 a4, .int .i64 p] rfl).alloc (w.heap.size + 1) 43 [.int .u8 7, .int .i64 0, .string s, .int .i64 0, .int .i64 0, .int .i64 0, .int .i64 0, .int .i64 p] (by simp))
    go_enter Tryz.func43, Tryz.ntmps43
    go_wp2_with fail
    generalize ((w.alloc (.cells #[.int .u8 7, .int .i64 n, .string s, .int .i64 a1, .int .i64 a2, .int .i64 a3, .int .i64 a4, .int .i64 p] 43)).alloc (.cells #[.int .u8 7, .int .i64 0, .string s, .int .i64 0, .int .i64 0, .int .i64 0, .int .i64 0, .int .i64 p] 43)) = W2 at H1 ⊢
    refine wp_region_held_drew (S := fun W => Ok w [kBlk (w.heap.size + 1) 43 [.int .u8 7, .int .i64 0, .string s, .int .i64 0, .int .i64 0, .int .i64 0, .int .i64 0, .int .i64 p], kBlk (w.heap.size) 43 [.int .u8 7, .int .i64 n, .string s, .int .i64 a1, .int .i64 a2, .int .i64 a3, .int .i64 a4, .int .i64 p]] W) (by kernel_rfl) H1.out.drew (fun hHeld => ?_)
    refine tk (i := 0) (v := ?a79) rfl ?b79 (by assumption) ?c79
    case b79 => (intro w F; simp only [sees, kBlk, cellsAt, Nat.reduceAdd] at F; go_simp; try with_reducible rfl)
    try simp only [Act.put, p1, p2, p3, p4, p6]
    refine tk (i := 1) (v := ?a80) rfl ?b80 (by assumption) ?c80
    case b80 => (intro w F; simp only [sees, kBlk, cellsAt, Nat.reduceAdd] at F; go_simp; try with_reducible rfl)
    try simp only [Act.put, p1, p2, p3, p4, p5, p6]
    refine tk (i := 2) (v := ?a81) rfl ?b81 (by assumption) ?c81
    case b81 => (intro w F; simp only [sees, kBlk, cellsAt, Nat.reduceAdd] at F; go_simp; try with_reducible rfl)
    try simp only [Act.put, p1, p2, p3, p4, p5, p6]
    refine tk (i := 3) (v := ?a82) rfl ?b82 (by assumption) ?c82
    case b82 => (intro w F; simp only [sees, kBlk, cellsAt, Nat.reduceAdd] at F; go_simp; try with_reducible rfl)
    try simp only [Act.put, p1, p2, p3, p4, p5, p6]
    refine wpAnyH_ready (rs := [4]) (by kernel_rfl) (by simp) ?_
    refine AllReadyH.cons rfl (fun K hK => ?_) AllReadyH.nil
    go_simp
    refine (lex_name s _ hs).mono ?_
    rintro e w4 ⟨rfl, hb5⟩
    rw [HE.out]
    go_wp2_with fail
    refine hK.out _ _ (hHeld.below hb5) (fun hHeld => ?_)
    clear hK K
    try simp only [Act.put, p1, p2, p3, p4, p5, p6]
    refine tk (i := 5) (v := ?a83) rfl ?b83 (by assumption) ?c83
    case b83 => (intro w F; simp only [sees, kBlk, cellsAt, Nat.reduceAdd] at F; go_simp; try with_reducible rfl)
    try simp only [Act.put, p1, p2, p3, p4, p5, p6]
    refine tk (i := 6) (v := ?a84) rfl ?b84 (by assumption) ?c84
    case b84 => (intro w F; simp only [sees, kBlk, cellsAt, Nat.reduceAdd] at F; go_simp; try with_reducible rfl)
    try simp only [Act.put, p1, p2, p3, p4, p5, p6]
    refine wpAnyH_done (by kernel_rfl) ?_ _
    clear H1
    have H6 := Lib.hid hHeld
    clear hHeld
    go_wp2_with fail
    refine wp_region_held_drew (S := fun W => Ok w [kBlk (w.heap.size + 1) 43 [.int .u8 7, .int .i64 0, .string s, .int .i64 0, .int .i64 0, .int .i64 0, .int .i64 0, .int .i64 p], kBlk (w.heap.size) 43 [.int .u8 7, .int .i64 n, .string s, .int .i64 a1, .int .i64 a2, .int .i64 a3, .int .i64 a4, .int .i64 p]] W) (by kernel_rfl) H6.out.drew (fun hHeld => ?_)
    refine tk (i := 0) (v := ?a85) rfl ?b85 (by assumption) ?c85
    case b85 => (intro w F; simp only [sees, kBlk, cellsAt, Nat.reduceAdd] at F; go_simp; try with_reducible rfl)
    try simp only [Act.put, p1, p2, p3, p4, p6]
    refine tk (i := 1) (v := ?a86) rfl ?b86 (by assumption) ?c86
    case b86 => (intro w F; simp only [sees, kBlk, cellsAt, Nat.reduceAdd] at F; go_simp; try with_reducible rfl)
    try simp only [Act.put, p1, p2, p3, p4, p5, p6]
    refine tk (i := 2) (v := ?a87) rfl ?b87 (by assumption) ?c87
    case b87 => (intro w F; simp only [sees, kBlk, cellsAt, Nat.reduceAdd] at F; go_simp; try with_reducible rfl)
    try simp only [Act.put, p1, p2, p3, p4, p5, p6]
    refine sk (i := 3) rfl (by assumption) ?_
    try simp only [Act.put, p1, p2, p3, p4, p5, p6]
    refine sk (i := 4) rfl (by assumption) ?_
    try simp only [Act.put, p1, p2, p3, p4, p5, p6]
    refine sk (i := 5) rfl (by assumption) ?_
    try simp only [Act.put, p1, p2, p3, p4, p5, p6]
    refine tk (i := 6) (v := ?a88) rfl ?b88 (by assumption) ?c88
    case b88 => (intro w F; simp only [sees, kBlk, cellsAt, Nat.reduceAdd] at F; go_simp; try with_reducible rfl)
    try simp only [Act.put, p1, p2, p3, p4, p5, p6]
    refine tk (i := 7) (v := ?a89) rfl ?b89 (by assumption) ?c89
    case b89 => (intro w F; simp only [sees, kBlk, cellsAt, Nat.reduceAdd] at F; go_simp; try with_reducible rfl)
    try simp only [Act.put, p1, p2, p3, p4, p5, p6]
    refine tk (i := 8) (v := ?a90) rfl ?b90 (by assumption) ?c90
    case b90 => (intro w F; simp only [sees, kBlk, cellsAt, Nat.reduceAdd] at F; go_simp; try with_reducible rfl)
    try simp only [Act.put, p1, p2, p3, p4, p5, p6]
    refine wpAnyH_done (by kernel_rfl) ?_ _
    clear H6
    have H8 := Lib.hid hHeld
    clear hHeld
    go_wp2_with fail
    refine bodyPost_ret (v := .tuple #[.string s, .bool (false)]) (by simp [results, Tryz.results43, go_sem]) rfl ⟨s, ?_, ?_, H8.out.bel⟩
    · rw [HNo.out]
    · intro h; rw [HNo.out] at h; cases h
  · have hb : eq8 7 n a1 a2 a3 a4 p 7 0 0 0 0 0 p s.toList s.toList = okT ⟨7, n, s.data.toList, ⟨a1, a2, a3, a4⟩, 0⟩ := by
      unfold eq8 okT bareB
      rw [show s.data.toList.isEmpty = decide (s.data.toList = []) from by cases s.data.toList <;> rfl]
      simp [ByteArray.toList_eq, h0]
    have HEq := keep hb
    clear hb
    have HE := keep h0
    clear h0
    have H1 := Lib.hid (((Ok.start w).alloc w.heap.size 43 [.int .u8 7, .int .i64 n, .string s, .int .i64 a1, .int .i64 a2, .int .i64 a3, .int .i64 a4, .int .i64 p] rfl).alloc (w.heap.size + 1) 43 [.int .u8 7, .int .i64 0, .string s, .int .i64 0, .int .i64 0, .int .i64 0, .int .i64 0, .int .i64 p] (by simp))
    go_enter Tryz.func43, Tryz.ntmps43
    go_wp2_with fail
    generalize ((w.alloc (.cells #[.int .u8 7, .int .i64 n, .string s, .int .i64 a1, .int .i64 a2, .int .i64 a3, .int .i64 a4, .int .i64 p] 43)).alloc (.cells #[.int .u8 7, .int .i64 0, .string s, .int .i64 0, .int .i64 0, .int .i64 0, .int .i64 0, .int .i64 p] 43)) = W2 at H1 ⊢
    refine wp_region_held_drew (S := fun W => Ok w [kBlk (w.heap.size + 1) 43 [.int .u8 7, .int .i64 0, .string s, .int .i64 0, .int .i64 0, .int .i64 0, .int .i64 0, .int .i64 p], kBlk (w.heap.size) 43 [.int .u8 7, .int .i64 n, .string s, .int .i64 a1, .int .i64 a2, .int .i64 a3, .int .i64 a4, .int .i64 p]] W) (by kernel_rfl) H1.out.drew (fun hHeld => ?_)
    refine tk (i := 0) (v := ?a91) rfl ?b91 (by assumption) ?c91
    case b91 => (intro w F; simp only [sees, kBlk, cellsAt, Nat.reduceAdd] at F; go_simp; try with_reducible rfl)
    try simp only [Act.put, p1, p2, p3, p4, p6]
    refine tk (i := 1) (v := ?a92) rfl ?b92 (by assumption) ?c92
    case b92 => (intro w F; simp only [sees, kBlk, cellsAt, Nat.reduceAdd] at F; go_simp; try with_reducible rfl)
    try simp only [Act.put, p1, p2, p3, p4, p5, p6]
    refine tk (i := 2) (v := ?a93) rfl ?b93 (by assumption) ?c93
    case b93 => (intro w F; simp only [sees, kBlk, cellsAt, Nat.reduceAdd] at F; go_simp; try with_reducible rfl)
    try simp only [Act.put, p1, p2, p3, p4, p5, p6]
    refine tk (i := 3) (v := ?a94) rfl ?b94 (by assumption) ?c94
    case b94 => (intro w F; simp only [sees, kBlk, cellsAt, Nat.reduceAdd] at F; go_simp; try with_reducible rfl)
    try simp only [Act.put, p1, p2, p3, p4, p5, p6]
    refine wpAnyH_ready (rs := [4]) (by kernel_rfl) (by simp) ?_
    refine AllReadyH.cons rfl (fun K hK => ?_) AllReadyH.nil
    go_simp
    refine (lex_name s _ hs).mono ?_
    rintro e w4 ⟨rfl, hb5⟩
    rw [HE.out]
    go_wp2_with fail
    refine hK.out _ _ (hHeld.below hb5) (fun hHeld => ?_)
    clear hK K
    try simp only [Act.put, p1, p2, p3, p4, p5, p6]
    refine tk (i := 5) (v := ?a95) rfl ?b95 (by assumption) ?c95
    case b95 => (intro w F; simp only [sees, kBlk, cellsAt, Nat.reduceAdd] at F; go_simp; try with_reducible rfl)
    try simp only [Act.put, p1, p2, p3, p4, p5, p6]
    refine tk (i := 6) (v := ?a96) rfl ?b96 (by assumption) ?c96
    case b96 => (intro w F; simp only [sees, kBlk, cellsAt, Nat.reduceAdd] at F; go_simp; try with_reducible rfl)
    try simp only [Act.put, p1, p2, p3, p4, p5, p6]
    refine wpAnyH_done (by kernel_rfl) ?_ _
    clear H1
    have H6 := Lib.hid hHeld
    clear hHeld
    go_wp2_with fail
    refine wp_region_held_drew (S := fun W => Ok w [kBlk (w.heap.size + 1) 43 [.int .u8 7, .int .i64 0, .string s, .int .i64 0, .int .i64 0, .int .i64 0, .int .i64 0, .int .i64 p], kBlk (w.heap.size) 43 [.int .u8 7, .int .i64 n, .string s, .int .i64 a1, .int .i64 a2, .int .i64 a3, .int .i64 a4, .int .i64 p]] W) (by kernel_rfl) H6.out.drew (fun hHeld => ?_)
    refine tk (i := 0) (v := ?a97) rfl ?b97 (by assumption) ?c97
    case b97 => (intro w F; simp only [sees, kBlk, cellsAt, Nat.reduceAdd] at F; go_simp; try with_reducible rfl)
    try simp only [Act.put, p1, p2, p3, p4, p6]
    refine tk (i := 1) (v := ?a98) rfl ?b98 (by assumption) ?c98
    case b98 => (intro w F; simp only [sees, kBlk, cellsAt, Nat.reduceAdd] at F; go_simp; try with_reducible rfl)
    try simp only [Act.put, p1, p2, p3, p4, p5, p6]
    refine tk (i := 2) (v := ?a99) rfl ?b99 (by assumption) ?c99
    case b99 => (intro w F; simp only [sees, kBlk, cellsAt, Nat.reduceAdd] at F; go_simp; try with_reducible rfl)
    try simp only [Act.put, p1, p2, p3, p4, p5, p6]
    refine tk (i := 3) (v := ?a100) rfl ?b100 (by assumption) ?c100
    case b100 => (intro w F; simp only [sees, kBlk, cellsAt, Nat.reduceAdd] at F; go_simp; try with_reducible rfl)
    try simp only [Act.put, p1, p2, p3, p4, p5, p6]
    refine tk (i := 4) (v := ?a101) rfl ?b101 (by assumption) ?c101
    case b101 => (intro w F; simp only [sees, kBlk, cellsAt, Nat.reduceAdd] at F; go_simp; try with_reducible rfl)
    try simp only [Act.put, p1, p2, p3, p4, p5, p6]
    refine tk (i := 5) (v := ?a102) rfl ?b102 (by assumption) ?c102
    case b102 => (intro w F; simp only [sees, kBlk, cellsAt, Nat.reduceAdd] at F; go_simp; try with_reducible rfl)
    try simp only [Act.put, p1, p2, p3, p4, p5, p6]
    refine tk (i := 6) (v := ?a103) rfl ?b103 (by assumption) ?c103
    case b103 => (intro w F; simp only [sees, kBlk, cellsAt, Nat.reduceAdd] at F; go_simp; try with_reducible rfl)
    try simp only [Act.put, p1, p2, p3, p4, p5, p6]
    refine tk (i := 7) (v := ?a104) rfl ?b104 (by assumption) ?c104
    case b104 => (intro w F; simp only [sees, kBlk, cellsAt, Nat.reduceAdd] at F; go_simp; try with_reducible rfl)
    try simp only [Act.put, p1, p2, p3, p4, p5, p6]
    refine tk (i := 8) (v := ?a105) rfl ?b105 (by assumption) ?c105
    case b105 => (intro w F; simp only [sees, kBlk, cellsAt, Nat.reduceAdd] at F; go_simp; try with_reducible rfl)
    try simp only [Act.put, p1, p2, p3, p4, p5, p6]
    refine wpAnyH_done (by kernel_rfl) ?_ _
    clear H6
    have H8 := Lib.hid hHeld
    clear hHeld
    go_wp2_with fail
    refine bodyPost_ret (v := .tuple #[.string s, .bool (eq8 7 n a1 a2 a3 a4 p 7 0 0 0 0 0 p s.toList s.toList)]) (by simp [results, Tryz.results43, go_sem]) rfl ⟨s, ?_, ?_, H8.out.bel⟩
    · rw [HEq.out]
    · intro _; rfl
end Go.Proofs.YtlngjiibbcgkmaaGreatDoor
