/- The reference of chapter 29: Uses, word, Only, Mutates, Target. -/
import Derived.Test.YtjbimcdofenmdaaGreatDoorMOpB
import Derived.Test.YtjbimcdofenmdaaGreatDoorMOpP
namespace Go.Proofs.YtjbimcdofenmdaaGreatDoor
open Go.RowKit
set_option maxRecDepth 100000 in
set_option maxHeartbeats 4000000 in
theorem r9_uses_1  (w : World) :
  Calls Tryz.prog 22 #[.int .u8 1] w fun e w' => e = .returned (.int .i64 1) ∧ Below w.heap.size w w':=by
 go_enter Tryz.func22,Tryz.ntmps22
 go_wp2_with fail
 try rw [Exit.noGoto_ret]
 go_ret
 exact ⟨rfl,Below.refl _ _⟩
set_option maxRecDepth 100000 in
set_option maxHeartbeats 4000000 in
theorem r9_uses_2  (w : World) :
  Calls Tryz.prog 22 #[.int .u8 2] w fun e w' => e = .returned (.int .i64 1) ∧ Below w.heap.size w w':=by
 go_enter Tryz.func22,Tryz.ntmps22
 go_wp2_with fail
 try rw [Exit.noGoto_ret]
 go_ret
 exact ⟨rfl,Below.refl _ _⟩
set_option maxRecDepth 100000 in
set_option maxHeartbeats 4000000 in
theorem r9_uses_3  (w : World) :
  Calls Tryz.prog 22 #[.int .u8 3] w fun e w' => e = .returned (.int .i64 7) ∧ Below w.heap.size w w':=by
 go_enter Tryz.func22,Tryz.ntmps22
 go_wp2_with fail
 try rw [Exit.noGoto_ret]
 go_ret
 exact ⟨rfl,Below.refl _ _⟩
set_option maxRecDepth 100000 in
set_option maxHeartbeats 4000000 in
theorem r9_uses_4  (w : World) :
  Calls Tryz.prog 22 #[.int .u8 4] w fun e w' => e = .returned (.int .i64 3) ∧ Below w.heap.size w w':=by
 go_enter Tryz.func22,Tryz.ntmps22
 go_wp2_with fail
 try rw [Exit.noGoto_ret]
 go_ret
 exact ⟨rfl,Below.refl _ _⟩
set_option maxRecDepth 100000 in
set_option maxHeartbeats 4000000 in
theorem r9_uses_5  (w : World) :
  Calls Tryz.prog 22 #[.int .u8 5] w fun e w' => e = .returned (.int .i64 3) ∧ Below w.heap.size w w':=by
 go_enter Tryz.func22,Tryz.ntmps22
 go_wp2_with fail
 try rw [Exit.noGoto_ret]
 go_ret
 exact ⟨rfl,Below.refl _ _⟩
set_option maxRecDepth 100000 in
set_option maxHeartbeats 4000000 in
theorem r9_uses_6  (w : World) :
  Calls Tryz.prog 22 #[.int .u8 6] w fun e w' => e = .returned (.int .i64 3) ∧ Below w.heap.size w w':=by
 go_enter Tryz.func22,Tryz.ntmps22
 go_wp2_with fail
 try rw [Exit.noGoto_ret]
 go_ret
 exact ⟨rfl,Below.refl _ _⟩
set_option maxRecDepth 100000 in
set_option maxHeartbeats 4000000 in
theorem r9_uses_7  (w : World) :
  Calls Tryz.prog 22 #[.int .u8 7] w fun e w' => e = .returned (.int .i64 11) ∧ Below w.heap.size w w':=by
 go_enter Tryz.func22,Tryz.ntmps22
 go_wp2_with fail
 try rw [Exit.noGoto_ret]
 go_ret
 exact ⟨rfl,Below.refl _ _⟩
set_option maxRecDepth 100000 in
set_option maxHeartbeats 4000000 in
theorem r9_uses_8  (w : World) :
  Calls Tryz.prog 22 #[.int .u8 8] w fun e w' => e = .returned (.int .i64 51) ∧ Below w.heap.size w w':=by
 go_enter Tryz.func22,Tryz.ntmps22
 go_wp2_with fail
 try rw [Exit.noGoto_ret]
 go_ret
 exact ⟨rfl,Below.refl _ _⟩
set_option maxRecDepth 100000 in
set_option maxHeartbeats 4000000 in
theorem r9_uses_9  (w : World) :
  Calls Tryz.prog 22 #[.int .u8 9] w fun e w' => e = .returned (.int .i64 65) ∧ Below w.heap.size w w':=by
 go_enter Tryz.func22,Tryz.ntmps22
 go_wp2_with fail
 try rw [Exit.noGoto_ret]
 go_ret
 exact ⟨rfl,Below.refl _ _⟩
set_option maxRecDepth 100000 in
set_option maxHeartbeats 4000000 in
theorem r9_uses_10  (w : World) :
  Calls Tryz.prog 22 #[.int .u8 10] w fun e w' => e = .returned (.int .i64 1) ∧ Below w.heap.size w w':=by
 go_enter Tryz.func22,Tryz.ntmps22
 go_wp2_with fail
 try rw [Exit.noGoto_ret]
 go_ret
 exact ⟨rfl,Below.refl _ _⟩
set_option maxRecDepth 100000 in
set_option maxHeartbeats 4000000 in
theorem r9_uses_no (k : Nat) (hk : ¬ (1 ≤ k ∧ k ≤ 10)) (w : World) :
  Calls Tryz.prog 22 #[.int .u8 (k : Nat)] w fun e w' => e = .returned (.int .i64 0) ∧ Below w.heap.size w w':=by
 have e1 : ((k : Int) == 1) = false:=by simp; omega
 have e2 : ((k : Int) == 2) = false:=by simp; omega
 have e3 : ((k : Int) == 3) = false:=by simp; omega
 have e4 : ((k : Int) == 4) = false:=by simp; omega
 have e5 : ((k : Int) == 5) = false:=by simp; omega
 have e6 : ((k : Int) == 6) = false:=by simp; omega
 have e7 : ((k : Int) == 7) = false:=by simp; omega
 have e8 : ((k : Int) == 8) = false:=by simp; omega
 have e9 : ((k : Int) == 9) = false:=by simp; omega
 have e10 : ((k : Int) == 10) = false:=by simp; omega
 clear hk
 go_enter Tryz.func22,Tryz.ntmps22
 go_wp2_with fail
 try rw [Exit.noGoto_ret]
 go_ret
 exact ⟨rfl,Below.refl _ _⟩
set_option maxRecDepth 100000 in
set_option maxHeartbeats 4000000 in
theorem r9_word_1  (w : World) :
  Calls Tryz.prog 29 #[.int .u8 1] w fun e w' => e = .returned (.string ⟨#[108,111,103,105,110]⟩) ∧ Below w.heap.size w w':=by
 go_enter Tryz.func29,Tryz.ntmps29
 go_wp2_with fail
 try rw [Exit.noGoto_ret]
 go_ret
 exact ⟨rfl,Below.refl _ _⟩
set_option maxRecDepth 100000 in
set_option maxHeartbeats 4000000 in
theorem r9_word_2  (w : World) :
  Calls Tryz.prog 29 #[.int .u8 2] w fun e w' => e = .returned (.string ⟨#[108,111,103,111,117,116]⟩) ∧ Below w.heap.size w w':=by
 go_enter Tryz.func29,Tryz.ntmps29
 go_wp2_with fail
 try rw [Exit.noGoto_ret]
 go_ret
 exact ⟨rfl,Below.refl _ _⟩
set_option maxRecDepth 100000 in
set_option maxHeartbeats 4000000 in
theorem r9_word_3  (w : World) :
  Calls Tryz.prog 29 #[.int .u8 3] w fun e w' => e = .returned (.string ⟨#[115,101,116]⟩) ∧ Below w.heap.size w w':=by
 go_enter Tryz.func29,Tryz.ntmps29
 go_wp2_with fail
 try rw [Exit.noGoto_ret]
 go_ret
 exact ⟨rfl,Below.refl _ _⟩
set_option maxRecDepth 100000 in
set_option maxHeartbeats 4000000 in
theorem r9_word_4  (w : World) :
  Calls Tryz.prog 29 #[.int .u8 4] w fun e w' => e = .returned (.string ⟨#[99,108,101,97,114]⟩) ∧ Below w.heap.size w w':=by
 go_enter Tryz.func29,Tryz.ntmps29
 go_wp2_with fail
 try rw [Exit.noGoto_ret]
 go_ret
 exact ⟨rfl,Below.refl _ _⟩
set_option maxRecDepth 100000 in
set_option maxHeartbeats 4000000 in
theorem r9_word_5  (w : World) :
  Calls Tryz.prog 29 #[.int .u8 5] w fun e w' => e = .returned (.string ⟨#[114,101,97,100]⟩) ∧ Below w.heap.size w w':=by
 go_enter Tryz.func29,Tryz.ntmps29
 go_wp2_with fail
 try rw [Exit.noGoto_ret]
 go_ret
 exact ⟨rfl,Below.refl _ _⟩
set_option maxRecDepth 100000 in
set_option maxHeartbeats 4000000 in
theorem r9_word_6  (w : World) :
  Calls Tryz.prog 29 #[.int .u8 6] w fun e w' => e = .returned (.string ⟨#[102,111,114,109,117,108,97]⟩) ∧ Below w.heap.size w w':=by
 go_enter Tryz.func29,Tryz.ntmps29
 go_wp2_with fail
 try rw [Exit.noGoto_ret]
 go_ret
 exact ⟨rfl,Below.refl _ _⟩
set_option maxRecDepth 100000 in
set_option maxHeartbeats 4000000 in
theorem r9_word_7  (w : World) :
  Calls Tryz.prog 29 #[.int .u8 7] w fun e w' => e = .returned (.string ⟨#[114,117,108,101]⟩) ∧ Below w.heap.size w w':=by
 go_enter Tryz.func29,Tryz.ntmps29
 go_wp2_with fail
 try rw [Exit.noGoto_ret]
 go_ret
 exact ⟨rfl,Below.refl _ _⟩
set_option maxRecDepth 100000 in
set_option maxHeartbeats 4000000 in
theorem r9_word_8  (w : World) :
  Calls Tryz.prog 29 #[.int .u8 8] w fun e w' => e = .returned (.string ⟨#[103,114,97,110,116]⟩) ∧ Below w.heap.size w w':=by
 go_enter Tryz.func29,Tryz.ntmps29
 go_wp2_with fail
 try rw [Exit.noGoto_ret]
 go_ret
 exact ⟨rfl,Below.refl _ _⟩
set_option maxRecDepth 100000 in
set_option maxHeartbeats 4000000 in
theorem r9_word_9  (w : World) :
  Calls Tryz.prog 29 #[.int .u8 9] w fun e w' => e = .returned (.string ⟨#[114,101,118,111,107,101]⟩) ∧ Below w.heap.size w w':=by
 go_enter Tryz.func29,Tryz.ntmps29
 go_wp2_with fail
 try rw [Exit.noGoto_ret]
 go_ret
 exact ⟨rfl,Below.refl _ _⟩
set_option maxRecDepth 100000 in
set_option maxHeartbeats 4000000 in
theorem r9_word_10  (w : World) :
  Calls Tryz.prog 29 #[.int .u8 10] w fun e w' => e = .returned (.string ⟨#[97,117,100,105,116]⟩) ∧ Below w.heap.size w w':=by
 go_enter Tryz.func29,Tryz.ntmps29
 go_wp2_with fail
 try rw [Exit.noGoto_ret]
 go_ret
 exact ⟨rfl,Below.refl _ _⟩
theorem r9_word (k : Nat) (h1 : 1 ≤ k) (h2 : k ≤ 10) (w : World) : Calls Tryz.prog 29 #[.int .u8 (k : Nat)] w fun e w' => e = .returned (.string ⟨(wordK k).toArray⟩) ∧ Below w.heap.size w w':=by
 have h : k = 1 ∨ k = 2 ∨ k = 3 ∨ k = 4 ∨ k = 5 ∨ k = 6 ∨ k = 7 ∨ k = 8 ∨ k = 9 ∨ k = 10:=by omega
 clear h1 h2
 rcases h with rfl | rfl | rfl | rfl | rfl | rfl | rfl | rfl | rfl | rfl
 ·exact r9_word_1 w
 ·exact r9_word_2 w
 ·exact r9_word_3 w
 ·exact r9_word_4 w
 ·exact r9_word_5 w
 ·exact r9_word_6 w
 ·exact r9_word_7 w
 ·exact r9_word_8 w
 ·exact r9_word_9 w
 ·exact r9_word_10 w
set_option maxRecDepth 100000 in
set_option maxHeartbeats 4000000 in
theorem r9_only_0 (k : Nat) (u x1 y1 x2 y2 : Int) (inp : List UInt8) (a b c f t : Nat) (n : Int) (w : World) :
  Calls Tryz.prog 37 #[.agg #[.int .u8 (k : Nat),.int .i64 u,.int .i64 x1,.int .i64 y1,.int .i64 x2,.int .i64 y2,.string ⟨inp.toArray⟩,.int .u64 (a : Nat),.int .u64 (b : Nat),.int .u64 (c : Nat),.int .u8 (f : Nat),.int .u64 (t : Nat),.int .i64 n],.int .i64 0] w fun e w' => e = .returned (.agg #[.int .u8 (k : Nat),.int .i64 0,.int .i64 0,.int .i64 0,.int .i64 0,.int .i64 0,.string ⟨#[]⟩,.int .u64 0,.int .u64 0,.int .u64 0,.int .u8 0,.int .u64 0,.int .i64 0]) ∧ Below w.heap.size w w':=by
 have H1:=Lib.hid ((((Ok.start w).alloc w.heap.size 28 [.int .u8 (k : Nat),.int .i64 u,.int .i64 x1,.int .i64 y1,.int .i64 x2,.int .i64 y2,.string ⟨inp.toArray⟩,.int .u64 (a : Nat),.int .u64 (b : Nat),.int .u64 (c : Nat),.int .u8 (f : Nat),.int .u64 (t : Nat),.int .i64 n] rfl).var (w.heap.size + 1) 28 [.int .u8 0,.int .i64 0,.int .i64 0,.int .i64 0,.int .i64 0,.int .i64 0,.string ⟨#[]⟩,.int .u64 0,.int .u64 0,.int .u64 0,.int .u8 0,.int .u64 0,.int .i64 0] (by simp)).var (w.heap.size + 1 + 1) 28 [.int .u8 (k : Nat),.int .i64 0,.int .i64 0,.int .i64 0,.int .i64 0,.int .i64 0,.string ⟨#[]⟩,.int .u64 0,.int .u64 0,.int .u64 0,.int .u8 0,.int .u64 0,.int .i64 0] (by simp))
 go_enter Tryz.func37,Tryz.ntmps37
 go_upto_region 2 with fail
 generalize (((w.alloc (.cells #[.int .u8 (k : Nat),.int .i64 u,.int .i64 x1,.int .i64 y1,.int .i64 x2,.int .i64 y2,.string ⟨inp.toArray⟩,.int .u64 (a : Nat),.int .u64 (b : Nat),.int .u64 (c : Nat),.int .u8 (f : Nat),.int .u64 (t : Nat),.int .i64 n] 28)).alloc (.cells #[.int .u8 0,.int .i64 0,.int .i64 0,.int .i64 0,.int .i64 0,.int .i64 0,.string ⟨#[]⟩,.int .u64 0,.int .u64 0,.int .u64 0,.int .u8 0,.int .u64 0,.int .i64 0] 28)).alloc (.cells #[.int .u8 (k : Nat),.int .i64 0,.int .i64 0,.int .i64 0,.int .i64 0,.int .i64 0,.string ⟨#[]⟩,.int .u64 0,.int .u64 0,.int .u64 0,.int .u8 0,.int .u64 0,.int .i64 0] 28)) = W2 at H1 ⊢
 have F3:=H1.out.sees
 simp only [sees,kBlk,kVar,cellsAt,Nat.reduceAdd] at F3
 obtain ⟨⟨⟨z0,fz0⟩,q00,q01,q02,q03,q04,q05,q06,q07,q08,q09,q0a,q0b,q0c,-⟩,⟨⟨z1,fz1⟩,q10,q11,q12,q13,q14,q15,q16,q17,q18,q19,q1a,q1b,q1c,-⟩,⟨z2,q20,q21,q22,q23,q24,q25,q26,q27,q28,q29,q2a,q2b,q2c,-⟩,-⟩:=F3
 go_upto_region 16 with fail
 go_wp2_with fail
 have hK:=H1.out.get (kVar (w.heap.size + 1) 28 [.int .u8 0,.int .i64 0,.int .i64 0,.int .i64 0,.int .i64 0,.int .i64 0,.string ⟨#[]⟩,.int .u64 0,.int .u64 0,.int .u64 0,.int .u8 0,.int .u64 0,.int .i64 0]) (by simp)
 have hB:=H1.out.bel
 have hE:=((((((((((((((show Blk W2 (w.heap.size + 1) 28 _ from hK).set_ 0 (.int .u8 (k : Nat))).set_ 1 (.int .i64 0)).set_ 2 (.int .i64 0)).set_ 3 (.int .i64 0)).set_ 4 (.int .i64 0)).set_ 5 (.int .i64 0)).set_ 6 (.string ⟨#[]⟩)).set_ 7 (.int .u64 0)).set_ 8 (.int .u64 0)).set_ 9 (.int .u64 0)).set_ 10 (.int .u8 0)).set_ 11 (.int .u64 0)).set_ 12 (.int .i64 0))
 have r0:=hE.cell 0
 have r1:=hE.cell 1
 have r2:=hE.cell 2
 have r3:=hE.cell 3
 have r4:=hE.cell 4
 have r5:=hE.cell 5
 have r6:=hE.cell 6
 have r7:=hE.cell 7
 have r8:=hE.cell 8
 have r9:=hE.cell 9
 have r10:=hE.cell 10
 have r11:=hE.cell 11
 have r12:=hE.cell 12
 simp at r0 r1 r2 r3 r4 r5 r6 r7 r8 r9 r10 r11 r12
 refine bodyPost_ret (v:=.agg #[.int .u8 (k : Nat),.int .i64 0,.int .i64 0,.int .i64 0,.int .i64 0,.int .i64 0,.string ⟨#[]⟩,.int .u64 0,.int .u64 0,.int .u64 0,.int .u8 0,.int .u64 0,.int .i64 0]) (by simp [results,Tryz.results37,go_sem,r0,r1,r2,r3,r4,r5,r6,r7,r8,r9,r10,r11,r12]) rfl ⟨rfl,(((((((((((((hB.setCell (by simp) _).setCell (by simp) _).setCell (by simp) _).setCell (by simp) _).setCell (by simp) _).setCell (by simp) _).setCell (by simp) _).setCell (by simp) _).setCell (by simp) _).setCell (by simp) _).setCell (by simp) _).setCell (by simp) _).setCell (by simp) _)⟩
set_option maxRecDepth 100000 in
set_option maxHeartbeats 4000000 in
theorem r9_only_1 (k : Nat) (u x1 y1 x2 y2 : Int) (inp : List UInt8) (a b c f t : Nat) (n : Int) (w : World) :
  Calls Tryz.prog 37 #[.agg #[.int .u8 (k : Nat),.int .i64 u,.int .i64 x1,.int .i64 y1,.int .i64 x2,.int .i64 y2,.string ⟨inp.toArray⟩,.int .u64 (a : Nat),.int .u64 (b : Nat),.int .u64 (c : Nat),.int .u8 (f : Nat),.int .u64 (t : Nat),.int .i64 n],.int .i64 1] w fun e w' => e = .returned (.agg #[.int .u8 (k : Nat),.int .i64 u,.int .i64 0,.int .i64 0,.int .i64 0,.int .i64 0,.string ⟨#[]⟩,.int .u64 0,.int .u64 0,.int .u64 0,.int .u8 0,.int .u64 0,.int .i64 0]) ∧ Below w.heap.size w w':=by
 have H1:=Lib.hid ((((Ok.start w).alloc w.heap.size 28 [.int .u8 (k : Nat),.int .i64 u,.int .i64 x1,.int .i64 y1,.int .i64 x2,.int .i64 y2,.string ⟨inp.toArray⟩,.int .u64 (a : Nat),.int .u64 (b : Nat),.int .u64 (c : Nat),.int .u8 (f : Nat),.int .u64 (t : Nat),.int .i64 n] rfl).var (w.heap.size + 1) 28 [.int .u8 0,.int .i64 0,.int .i64 0,.int .i64 0,.int .i64 0,.int .i64 0,.string ⟨#[]⟩,.int .u64 0,.int .u64 0,.int .u64 0,.int .u8 0,.int .u64 0,.int .i64 0] (by simp)).var (w.heap.size + 1 + 1) 28 [.int .u8 (k : Nat),.int .i64 0,.int .i64 0,.int .i64 0,.int .i64 0,.int .i64 0,.string ⟨#[]⟩,.int .u64 0,.int .u64 0,.int .u64 0,.int .u8 0,.int .u64 0,.int .i64 0] (by simp))
 go_enter Tryz.func37,Tryz.ntmps37
 go_upto_region 2 with fail
 generalize (((w.alloc (.cells #[.int .u8 (k : Nat),.int .i64 u,.int .i64 x1,.int .i64 y1,.int .i64 x2,.int .i64 y2,.string ⟨inp.toArray⟩,.int .u64 (a : Nat),.int .u64 (b : Nat),.int .u64 (c : Nat),.int .u8 (f : Nat),.int .u64 (t : Nat),.int .i64 n] 28)).alloc (.cells #[.int .u8 0,.int .i64 0,.int .i64 0,.int .i64 0,.int .i64 0,.int .i64 0,.string ⟨#[]⟩,.int .u64 0,.int .u64 0,.int .u64 0,.int .u8 0,.int .u64 0,.int .i64 0] 28)).alloc (.cells #[.int .u8 (k : Nat),.int .i64 0,.int .i64 0,.int .i64 0,.int .i64 0,.int .i64 0,.string ⟨#[]⟩,.int .u64 0,.int .u64 0,.int .u64 0,.int .u8 0,.int .u64 0,.int .i64 0] 28)) = W2 at H1 ⊢
 have F3:=H1.out.sees
 simp only [sees,kBlk,kVar,cellsAt,Nat.reduceAdd] at F3
 obtain ⟨⟨⟨z0,fz0⟩,q00,q01,q02,q03,q04,q05,q06,q07,q08,q09,q0a,q0b,q0c,-⟩,⟨⟨z1,fz1⟩,q10,q11,q12,q13,q14,q15,q16,q17,q18,q19,q1a,q1b,q1c,-⟩,⟨z2,q20,q21,q22,q23,q24,q25,q26,q27,q28,q29,q2a,q2b,q2c,-⟩,-⟩:=F3
 go_upto_region 16 with fail
 have H4:=Lib.hid (H1.out.drop [kVar (w.heap.size + 1 + 1) 28 [.int .u8 (k : Nat),.int .i64 0,.int .i64 0,.int .i64 0,.int .i64 0,.int .i64 0,.string ⟨#[]⟩,.int .u64 0,.int .u64 0,.int .u64 0,.int .u8 0,.int .u64 0,.int .i64 0],kVar (w.heap.size + 1) 28 [.int .u8 0,.int .i64 0,.int .i64 0,.int .i64 0,.int .i64 0,.int .i64 0,.string ⟨#[]⟩,.int .u64 0,.int .u64 0,.int .u64 0,.int .u8 0,.int .u64 0,.int .i64 0],kBlk (w.heap.size) 28 [.int .u8 (k : Nat),.int .i64 u,.int .i64 x1,.int .i64 y1,.int .i64 x2,.int .i64 y2,.string ⟨inp.toArray⟩,.int .u64 (a : Nat),.int .u64 (b : Nat),.int .u64 (c : Nat),.int .u8 (f : Nat),.int .u64 (t : Nat),.int .i64 n]] (by simp))
 have hfar : ∀ x ∈ [kVar (w.heap.size + 1) 28 [.int .u8 0,.int .i64 0,.int .i64 0,.int .i64 0,.int .i64 0,.int .i64 0,.string ⟨#[]⟩,.int .u64 0,.int .u64 0,.int .u64 0,.int .u8 0,.int .u64 0,.int .i64 0],kBlk (w.heap.size) 28 [.int .u8 (k : Nat),.int .i64 u,.int .i64 x1,.int .i64 y1,.int .i64 x2,.int .i64 y2,.string ⟨inp.toArray⟩,.int .u64 (a : Nat),.int .u64 (b : Nat),.int .u64 (c : Nat),.int .u8 (f : Nat),.int .u64 (t : Nat),.int .i64 n]],x.far (some (w.heap.size + 1 + 1)):=by
  simp [kBlk,kVar]; omega
 have H5 : Hid (Ok w [kVar (w.heap.size + 1 + 1) 28 [.int .u8 (k : Nat),.int .i64 u,.int .i64 0,.int .i64 0,.int .i64 0,.int .i64 0,.string ⟨#[]⟩,.int .u64 0,.int .u64 0,.int .u64 0,.int .u8 0,.int .u64 0,.int .i64 0],kVar (w.heap.size + 1) 28 [.int .u8 0,.int .i64 0,.int .i64 0,.int .i64 0,.int .i64 0,.int .i64 0,.string ⟨#[]⟩,.int .u64 0,.int .u64 0,.int .u64 0,.int .u8 0,.int .u64 0,.int .i64 0],kBlk (w.heap.size) 28 [.int .u8 (k : Nat),.int .i64 u,.int .i64 x1,.int .i64 y1,.int .i64 x2,.int .i64 y2,.string ⟨inp.toArray⟩,.int .u64 (a : Nat),.int .u64 (b : Nat),.int .u64 (c : Nat),.int .u8 (f : Nat),.int .u64 (t : Nat),.int .i64 n]] (W2.setCell ⟨w.heap.size + 1 + 1,1,none⟩ (.int .i64 u))):=(H4.out.set_ (i:=1) (u:=.int .i64 u) (by omega) hfar)
 clear z0 fz0 q00 q01 q02 q03 q04 q05 q06 q07 q08 q09 q0a q0b q0c z1 fz1 q10 q11 q12 q13 q14 q15 q16 q17 q18 q19 q1a q1b q1c z2 q20 q21 q22 q23 q24 q25 q26 q27 q28 q29 q2a q2b q2c
 clear H1 H4 hfar
 generalize (W2.setCell ⟨w.heap.size + 1 + 1,1,none⟩ (.int .i64 u)) = W6 at H5 ⊢
 have F7:=H5.out.sees
 simp only [sees,kBlk,kVar,cellsAt,Nat.reduceAdd] at F7
 obtain ⟨⟨⟨z0,fz0⟩,q00,q01,q02,q03,q04,q05,q06,q07,q08,q09,q0a,q0b,q0c,-⟩,⟨⟨z1,fz1⟩,q10,q11,q12,q13,q14,q15,q16,q17,q18,q19,q1a,q1b,q1c,-⟩,⟨z2,q20,q21,q22,q23,q24,q25,q26,q27,q28,q29,q2a,q2b,q2c,-⟩,-⟩:=F7
 go_wp2_with fail
 have hK:=H5.out.get (kVar (w.heap.size + 1) 28 [.int .u8 0,.int .i64 0,.int .i64 0,.int .i64 0,.int .i64 0,.int .i64 0,.string ⟨#[]⟩,.int .u64 0,.int .u64 0,.int .u64 0,.int .u8 0,.int .u64 0,.int .i64 0]) (by simp)
 have hB:=H5.out.bel
 have hE:=((((((((((((((show Blk W6 (w.heap.size + 1) 28 _ from hK).set_ 0 (.int .u8 (k : Nat))).set_ 1 (.int .i64 u)).set_ 2 (.int .i64 0)).set_ 3 (.int .i64 0)).set_ 4 (.int .i64 0)).set_ 5 (.int .i64 0)).set_ 6 (.string ⟨#[]⟩)).set_ 7 (.int .u64 0)).set_ 8 (.int .u64 0)).set_ 9 (.int .u64 0)).set_ 10 (.int .u8 0)).set_ 11 (.int .u64 0)).set_ 12 (.int .i64 0))
 have r0:=hE.cell 0
 have r1:=hE.cell 1
 have r2:=hE.cell 2
 have r3:=hE.cell 3
 have r4:=hE.cell 4
 have r5:=hE.cell 5
 have r6:=hE.cell 6
 have r7:=hE.cell 7
 have r8:=hE.cell 8
 have r9:=hE.cell 9
 have r10:=hE.cell 10
 have r11:=hE.cell 11
 have r12:=hE.cell 12
 simp at r0 r1 r2 r3 r4 r5 r6 r7 r8 r9 r10 r11 r12
 refine bodyPost_ret (v:=.agg #[.int .u8 (k : Nat),.int .i64 u,.int .i64 0,.int .i64 0,.int .i64 0,.int .i64 0,.string ⟨#[]⟩,.int .u64 0,.int .u64 0,.int .u64 0,.int .u8 0,.int .u64 0,.int .i64 0]) (by simp [results,Tryz.results37,go_sem,r0,r1,r2,r3,r4,r5,r6,r7,r8,r9,r10,r11,r12]) rfl ⟨rfl,(((((((((((((hB.setCell (by simp) _).setCell (by simp) _).setCell (by simp) _).setCell (by simp) _).setCell (by simp) _).setCell (by simp) _).setCell (by simp) _).setCell (by simp) _).setCell (by simp) _).setCell (by simp) _).setCell (by simp) _).setCell (by simp) _).setCell (by simp) _)⟩
set_option maxRecDepth 100000 in
set_option maxHeartbeats 4000000 in
theorem r9_only_3 (k : Nat) (u x1 y1 x2 y2 : Int) (inp : List UInt8) (a b c f t : Nat) (n : Int) (w : World) :
  Calls Tryz.prog 37 #[.agg #[.int .u8 (k : Nat),.int .i64 u,.int .i64 x1,.int .i64 y1,.int .i64 x2,.int .i64 y2,.string ⟨inp.toArray⟩,.int .u64 (a : Nat),.int .u64 (b : Nat),.int .u64 (c : Nat),.int .u8 (f : Nat),.int .u64 (t : Nat),.int .i64 n],.int .i64 3] w fun e w' => e = .returned (.agg #[.int .u8 (k : Nat),.int .i64 u,.int .i64 x1,.int .i64 y1,.int .i64 x2,.int .i64 y2,.string ⟨#[]⟩,.int .u64 0,.int .u64 0,.int .u64 0,.int .u8 0,.int .u64 0,.int .i64 0]) ∧ Below w.heap.size w w':=by
 have H1:=Lib.hid ((((Ok.start w).alloc w.heap.size 28 [.int .u8 (k : Nat),.int .i64 u,.int .i64 x1,.int .i64 y1,.int .i64 x2,.int .i64 y2,.string ⟨inp.toArray⟩,.int .u64 (a : Nat),.int .u64 (b : Nat),.int .u64 (c : Nat),.int .u8 (f : Nat),.int .u64 (t : Nat),.int .i64 n] rfl).var (w.heap.size + 1) 28 [.int .u8 0,.int .i64 0,.int .i64 0,.int .i64 0,.int .i64 0,.int .i64 0,.string ⟨#[]⟩,.int .u64 0,.int .u64 0,.int .u64 0,.int .u8 0,.int .u64 0,.int .i64 0] (by simp)).var (w.heap.size + 1 + 1) 28 [.int .u8 (k : Nat),.int .i64 0,.int .i64 0,.int .i64 0,.int .i64 0,.int .i64 0,.string ⟨#[]⟩,.int .u64 0,.int .u64 0,.int .u64 0,.int .u8 0,.int .u64 0,.int .i64 0] (by simp))
 go_enter Tryz.func37,Tryz.ntmps37
 go_upto_region 2 with fail
 generalize (((w.alloc (.cells #[.int .u8 (k : Nat),.int .i64 u,.int .i64 x1,.int .i64 y1,.int .i64 x2,.int .i64 y2,.string ⟨inp.toArray⟩,.int .u64 (a : Nat),.int .u64 (b : Nat),.int .u64 (c : Nat),.int .u8 (f : Nat),.int .u64 (t : Nat),.int .i64 n] 28)).alloc (.cells #[.int .u8 0,.int .i64 0,.int .i64 0,.int .i64 0,.int .i64 0,.int .i64 0,.string ⟨#[]⟩,.int .u64 0,.int .u64 0,.int .u64 0,.int .u8 0,.int .u64 0,.int .i64 0] 28)).alloc (.cells #[.int .u8 (k : Nat),.int .i64 0,.int .i64 0,.int .i64 0,.int .i64 0,.int .i64 0,.string ⟨#[]⟩,.int .u64 0,.int .u64 0,.int .u64 0,.int .u8 0,.int .u64 0,.int .i64 0] 28)) = W2 at H1 ⊢
 have F3:=H1.out.sees
 simp only [sees,kBlk,kVar,cellsAt,Nat.reduceAdd] at F3
 obtain ⟨⟨⟨z0,fz0⟩,q00,q01,q02,q03,q04,q05,q06,q07,q08,q09,q0a,q0b,q0c,-⟩,⟨⟨z1,fz1⟩,q10,q11,q12,q13,q14,q15,q16,q17,q18,q19,q1a,q1b,q1c,-⟩,⟨z2,q20,q21,q22,q23,q24,q25,q26,q27,q28,q29,q2a,q2b,q2c,-⟩,-⟩:=F3
 go_upto_region 16 with fail
 have H4:=Lib.hid (H1.out.drop [kVar (w.heap.size + 1 + 1) 28 [.int .u8 (k : Nat),.int .i64 0,.int .i64 0,.int .i64 0,.int .i64 0,.int .i64 0,.string ⟨#[]⟩,.int .u64 0,.int .u64 0,.int .u64 0,.int .u8 0,.int .u64 0,.int .i64 0],kVar (w.heap.size + 1) 28 [.int .u8 0,.int .i64 0,.int .i64 0,.int .i64 0,.int .i64 0,.int .i64 0,.string ⟨#[]⟩,.int .u64 0,.int .u64 0,.int .u64 0,.int .u8 0,.int .u64 0,.int .i64 0],kBlk (w.heap.size) 28 [.int .u8 (k : Nat),.int .i64 u,.int .i64 x1,.int .i64 y1,.int .i64 x2,.int .i64 y2,.string ⟨inp.toArray⟩,.int .u64 (a : Nat),.int .u64 (b : Nat),.int .u64 (c : Nat),.int .u8 (f : Nat),.int .u64 (t : Nat),.int .i64 n]] (by simp))
 have hfar : ∀ x ∈ [kVar (w.heap.size + 1) 28 [.int .u8 0,.int .i64 0,.int .i64 0,.int .i64 0,.int .i64 0,.int .i64 0,.string ⟨#[]⟩,.int .u64 0,.int .u64 0,.int .u64 0,.int .u8 0,.int .u64 0,.int .i64 0],kBlk (w.heap.size) 28 [.int .u8 (k : Nat),.int .i64 u,.int .i64 x1,.int .i64 y1,.int .i64 x2,.int .i64 y2,.string ⟨inp.toArray⟩,.int .u64 (a : Nat),.int .u64 (b : Nat),.int .u64 (c : Nat),.int .u8 (f : Nat),.int .u64 (t : Nat),.int .i64 n]],x.far (some (w.heap.size + 1 + 1)):=by
  simp [kBlk,kVar]; omega
 have H5 : Hid (Ok w [kVar (w.heap.size + 1 + 1) 28 [.int .u8 (k : Nat),.int .i64 u,.int .i64 x1,.int .i64 y1,.int .i64 x2,.int .i64 y2,.string ⟨#[]⟩,.int .u64 0,.int .u64 0,.int .u64 0,.int .u8 0,.int .u64 0,.int .i64 0],kVar (w.heap.size + 1) 28 [.int .u8 0,.int .i64 0,.int .i64 0,.int .i64 0,.int .i64 0,.int .i64 0,.string ⟨#[]⟩,.int .u64 0,.int .u64 0,.int .u64 0,.int .u8 0,.int .u64 0,.int .i64 0],kBlk (w.heap.size) 28 [.int .u8 (k : Nat),.int .i64 u,.int .i64 x1,.int .i64 y1,.int .i64 x2,.int .i64 y2,.string ⟨inp.toArray⟩,.int .u64 (a : Nat),.int .u64 (b : Nat),.int .u64 (c : Nat),.int .u8 (f : Nat),.int .u64 (t : Nat),.int .i64 n]] (((((W2.setCell ⟨w.heap.size + 1 + 1,1,none⟩ (.int .i64 u)).setCell ⟨w.heap.size + 1 + 1,2,none⟩ (.int .i64 x1)).setCell ⟨w.heap.size + 1 + 1,3,none⟩ (.int .i64 y1)).setCell ⟨w.heap.size + 1 + 1,4,none⟩ (.int .i64 x2)).setCell ⟨w.heap.size + 1 + 1,5,none⟩ (.int .i64 y2))):=(((((H4.out.set_ (i:=1) (u:=.int .i64 u) (by omega) hfar).set_ (i:=2) (u:=.int .i64 x1) (by omega) hfar).set_ (i:=3) (u:=.int .i64 y1) (by omega) hfar).set_ (i:=4) (u:=.int .i64 x2) (by omega) hfar).set_ (i:=5) (u:=.int .i64 y2) (by omega) hfar)
 clear z0 fz0 q00 q01 q02 q03 q04 q05 q06 q07 q08 q09 q0a q0b q0c z1 fz1 q10 q11 q12 q13 q14 q15 q16 q17 q18 q19 q1a q1b q1c z2 q20 q21 q22 q23 q24 q25 q26 q27 q28 q29 q2a q2b q2c
 clear H1 H4 hfar
 generalize (((((W2.setCell ⟨w.heap.size + 1 + 1,1,none⟩ (.int .i64 u)).setCell ⟨w.heap.size + 1 + 1,2,none⟩ (.int .i64 x1)).setCell ⟨w.heap.size + 1 + 1,3,none⟩ (.int .i64 y1)).setCell ⟨w.heap.size + 1 + 1,4,none⟩ (.int .i64 x2)).setCell ⟨w.heap.size + 1 + 1,5,none⟩ (.int .i64 y2)) = W6 at H5 ⊢
 have F7:=H5.out.sees
 simp only [sees,kBlk,kVar,cellsAt,Nat.reduceAdd] at F7
 obtain ⟨⟨⟨z0,fz0⟩,q00,q01,q02,q03,q04,q05,q06,q07,q08,q09,q0a,q0b,q0c,-⟩,⟨⟨z1,fz1⟩,q10,q11,q12,q13,q14,q15,q16,q17,q18,q19,q1a,q1b,q1c,-⟩,⟨z2,q20,q21,q22,q23,q24,q25,q26,q27,q28,q29,q2a,q2b,q2c,-⟩,-⟩:=F7
 go_wp2_with fail
 have hK:=H5.out.get (kVar (w.heap.size + 1) 28 [.int .u8 0,.int .i64 0,.int .i64 0,.int .i64 0,.int .i64 0,.int .i64 0,.string ⟨#[]⟩,.int .u64 0,.int .u64 0,.int .u64 0,.int .u8 0,.int .u64 0,.int .i64 0]) (by simp)
 have hB:=H5.out.bel
 have hE:=((((((((((((((show Blk W6 (w.heap.size + 1) 28 _ from hK).set_ 0 (.int .u8 (k : Nat))).set_ 1 (.int .i64 u)).set_ 2 (.int .i64 x1)).set_ 3 (.int .i64 y1)).set_ 4 (.int .i64 x2)).set_ 5 (.int .i64 y2)).set_ 6 (.string ⟨#[]⟩)).set_ 7 (.int .u64 0)).set_ 8 (.int .u64 0)).set_ 9 (.int .u64 0)).set_ 10 (.int .u8 0)).set_ 11 (.int .u64 0)).set_ 12 (.int .i64 0))
 have r0:=hE.cell 0
 have r1:=hE.cell 1
 have r2:=hE.cell 2
 have r3:=hE.cell 3
 have r4:=hE.cell 4
 have r5:=hE.cell 5
 have r6:=hE.cell 6
 have r7:=hE.cell 7
 have r8:=hE.cell 8
 have r9:=hE.cell 9
 have r10:=hE.cell 10
 have r11:=hE.cell 11
 have r12:=hE.cell 12
 simp at r0 r1 r2 r3 r4 r5 r6 r7 r8 r9 r10 r11 r12
 refine bodyPost_ret (v:=.agg #[.int .u8 (k : Nat),.int .i64 u,.int .i64 x1,.int .i64 y1,.int .i64 x2,.int .i64 y2,.string ⟨#[]⟩,.int .u64 0,.int .u64 0,.int .u64 0,.int .u8 0,.int .u64 0,.int .i64 0]) (by simp [results,Tryz.results37,go_sem,r0,r1,r2,r3,r4,r5,r6,r7,r8,r9,r10,r11,r12]) rfl ⟨rfl,(((((((((((((hB.setCell (by simp) _).setCell (by simp) _).setCell (by simp) _).setCell (by simp) _).setCell (by simp) _).setCell (by simp) _).setCell (by simp) _).setCell (by simp) _).setCell (by simp) _).setCell (by simp) _).setCell (by simp) _).setCell (by simp) _).setCell (by simp) _)⟩
set_option maxRecDepth 100000 in
set_option maxHeartbeats 4000000 in
theorem r9_only_7 (k : Nat) (u x1 y1 x2 y2 : Int) (inp : List UInt8) (a b c f t : Nat) (n : Int) (w : World) :
  Calls Tryz.prog 37 #[.agg #[.int .u8 (k : Nat),.int .i64 u,.int .i64 x1,.int .i64 y1,.int .i64 x2,.int .i64 y2,.string ⟨inp.toArray⟩,.int .u64 (a : Nat),.int .u64 (b : Nat),.int .u64 (c : Nat),.int .u8 (f : Nat),.int .u64 (t : Nat),.int .i64 n],.int .i64 7] w fun e w' => e = .returned (.agg #[.int .u8 (k : Nat),.int .i64 u,.int .i64 x1,.int .i64 y1,.int .i64 x2,.int .i64 y2,.string ⟨inp.toArray⟩,.int .u64 0,.int .u64 0,.int .u64 0,.int .u8 0,.int .u64 0,.int .i64 0]) ∧ Below w.heap.size w w':=by
 have H1:=Lib.hid ((((Ok.start w).alloc w.heap.size 28 [.int .u8 (k : Nat),.int .i64 u,.int .i64 x1,.int .i64 y1,.int .i64 x2,.int .i64 y2,.string ⟨inp.toArray⟩,.int .u64 (a : Nat),.int .u64 (b : Nat),.int .u64 (c : Nat),.int .u8 (f : Nat),.int .u64 (t : Nat),.int .i64 n] rfl).var (w.heap.size + 1) 28 [.int .u8 0,.int .i64 0,.int .i64 0,.int .i64 0,.int .i64 0,.int .i64 0,.string ⟨#[]⟩,.int .u64 0,.int .u64 0,.int .u64 0,.int .u8 0,.int .u64 0,.int .i64 0] (by simp)).var (w.heap.size + 1 + 1) 28 [.int .u8 (k : Nat),.int .i64 0,.int .i64 0,.int .i64 0,.int .i64 0,.int .i64 0,.string ⟨#[]⟩,.int .u64 0,.int .u64 0,.int .u64 0,.int .u8 0,.int .u64 0,.int .i64 0] (by simp))
 go_enter Tryz.func37,Tryz.ntmps37
 go_upto_region 2 with fail
 generalize (((w.alloc (.cells #[.int .u8 (k : Nat),.int .i64 u,.int .i64 x1,.int .i64 y1,.int .i64 x2,.int .i64 y2,.string ⟨inp.toArray⟩,.int .u64 (a : Nat),.int .u64 (b : Nat),.int .u64 (c : Nat),.int .u8 (f : Nat),.int .u64 (t : Nat),.int .i64 n] 28)).alloc (.cells #[.int .u8 0,.int .i64 0,.int .i64 0,.int .i64 0,.int .i64 0,.int .i64 0,.string ⟨#[]⟩,.int .u64 0,.int .u64 0,.int .u64 0,.int .u8 0,.int .u64 0,.int .i64 0] 28)).alloc (.cells #[.int .u8 (k : Nat),.int .i64 0,.int .i64 0,.int .i64 0,.int .i64 0,.int .i64 0,.string ⟨#[]⟩,.int .u64 0,.int .u64 0,.int .u64 0,.int .u8 0,.int .u64 0,.int .i64 0] 28)) = W2 at H1 ⊢
 have F3:=H1.out.sees
 simp only [sees,kBlk,kVar,cellsAt,Nat.reduceAdd] at F3
 obtain ⟨⟨⟨z0,fz0⟩,q00,q01,q02,q03,q04,q05,q06,q07,q08,q09,q0a,q0b,q0c,-⟩,⟨⟨z1,fz1⟩,q10,q11,q12,q13,q14,q15,q16,q17,q18,q19,q1a,q1b,q1c,-⟩,⟨z2,q20,q21,q22,q23,q24,q25,q26,q27,q28,q29,q2a,q2b,q2c,-⟩,-⟩:=F3
 go_upto_region 16 with fail
 have H4:=Lib.hid (H1.out.drop [kVar (w.heap.size + 1 + 1) 28 [.int .u8 (k : Nat),.int .i64 0,.int .i64 0,.int .i64 0,.int .i64 0,.int .i64 0,.string ⟨#[]⟩,.int .u64 0,.int .u64 0,.int .u64 0,.int .u8 0,.int .u64 0,.int .i64 0],kVar (w.heap.size + 1) 28 [.int .u8 0,.int .i64 0,.int .i64 0,.int .i64 0,.int .i64 0,.int .i64 0,.string ⟨#[]⟩,.int .u64 0,.int .u64 0,.int .u64 0,.int .u8 0,.int .u64 0,.int .i64 0],kBlk (w.heap.size) 28 [.int .u8 (k : Nat),.int .i64 u,.int .i64 x1,.int .i64 y1,.int .i64 x2,.int .i64 y2,.string ⟨inp.toArray⟩,.int .u64 (a : Nat),.int .u64 (b : Nat),.int .u64 (c : Nat),.int .u8 (f : Nat),.int .u64 (t : Nat),.int .i64 n]] (by simp))
 have hfar : ∀ x ∈ [kVar (w.heap.size + 1) 28 [.int .u8 0,.int .i64 0,.int .i64 0,.int .i64 0,.int .i64 0,.int .i64 0,.string ⟨#[]⟩,.int .u64 0,.int .u64 0,.int .u64 0,.int .u8 0,.int .u64 0,.int .i64 0],kBlk (w.heap.size) 28 [.int .u8 (k : Nat),.int .i64 u,.int .i64 x1,.int .i64 y1,.int .i64 x2,.int .i64 y2,.string ⟨inp.toArray⟩,.int .u64 (a : Nat),.int .u64 (b : Nat),.int .u64 (c : Nat),.int .u8 (f : Nat),.int .u64 (t : Nat),.int .i64 n]],x.far (some (w.heap.size + 1 + 1)):=by
  simp [kBlk,kVar]; omega
 have H5 : Hid (Ok w [kVar (w.heap.size + 1 + 1) 28 [.int .u8 (k : Nat),.int .i64 u,.int .i64 x1,.int .i64 y1,.int .i64 x2,.int .i64 y2,.string ⟨inp.toArray⟩,.int .u64 0,.int .u64 0,.int .u64 0,.int .u8 0,.int .u64 0,.int .i64 0],kVar (w.heap.size + 1) 28 [.int .u8 0,.int .i64 0,.int .i64 0,.int .i64 0,.int .i64 0,.int .i64 0,.string ⟨#[]⟩,.int .u64 0,.int .u64 0,.int .u64 0,.int .u8 0,.int .u64 0,.int .i64 0],kBlk (w.heap.size) 28 [.int .u8 (k : Nat),.int .i64 u,.int .i64 x1,.int .i64 y1,.int .i64 x2,.int .i64 y2,.string ⟨inp.toArray⟩,.int .u64 (a : Nat),.int .u64 (b : Nat),.int .u64 (c : Nat),.int .u8 (f : Nat),.int .u64 (t : Nat),.int .i64 n]] ((((((W2.setCell ⟨w.heap.size + 1 + 1,1,none⟩ (.int .i64 u)).setCell ⟨w.heap.size + 1 + 1,2,none⟩ (.int .i64 x1)).setCell ⟨w.heap.size + 1 + 1,3,none⟩ (.int .i64 y1)).setCell ⟨w.heap.size + 1 + 1,4,none⟩ (.int .i64 x2)).setCell ⟨w.heap.size + 1 + 1,5,none⟩ (.int .i64 y2)).setCell ⟨w.heap.size + 1 + 1,6,none⟩ (.string ⟨inp.toArray⟩))):=((((((H4.out.set_ (i:=1) (u:=.int .i64 u) (by omega) hfar).set_ (i:=2) (u:=.int .i64 x1) (by omega) hfar).set_ (i:=3) (u:=.int .i64 y1) (by omega) hfar).set_ (i:=4) (u:=.int .i64 x2) (by omega) hfar).set_ (i:=5) (u:=.int .i64 y2) (by omega) hfar).set_ (i:=6) (u:=.string ⟨inp.toArray⟩) (by omega) hfar)
 clear z0 fz0 q00 q01 q02 q03 q04 q05 q06 q07 q08 q09 q0a q0b q0c z1 fz1 q10 q11 q12 q13 q14 q15 q16 q17 q18 q19 q1a q1b q1c z2 q20 q21 q22 q23 q24 q25 q26 q27 q28 q29 q2a q2b q2c
 clear H1 H4 hfar
 generalize ((((((W2.setCell ⟨w.heap.size + 1 + 1,1,none⟩ (.int .i64 u)).setCell ⟨w.heap.size + 1 + 1,2,none⟩ (.int .i64 x1)).setCell ⟨w.heap.size + 1 + 1,3,none⟩ (.int .i64 y1)).setCell ⟨w.heap.size + 1 + 1,4,none⟩ (.int .i64 x2)).setCell ⟨w.heap.size + 1 + 1,5,none⟩ (.int .i64 y2)).setCell ⟨w.heap.size + 1 + 1,6,none⟩ (.string ⟨inp.toArray⟩)) = W6 at H5 ⊢
 have F7:=H5.out.sees
 simp only [sees,kBlk,kVar,cellsAt,Nat.reduceAdd] at F7
 obtain ⟨⟨⟨z0,fz0⟩,q00,q01,q02,q03,q04,q05,q06,q07,q08,q09,q0a,q0b,q0c,-⟩,⟨⟨z1,fz1⟩,q10,q11,q12,q13,q14,q15,q16,q17,q18,q19,q1a,q1b,q1c,-⟩,⟨z2,q20,q21,q22,q23,q24,q25,q26,q27,q28,q29,q2a,q2b,q2c,-⟩,-⟩:=F7
 go_wp2_with fail
 have hK:=H5.out.get (kVar (w.heap.size + 1) 28 [.int .u8 0,.int .i64 0,.int .i64 0,.int .i64 0,.int .i64 0,.int .i64 0,.string ⟨#[]⟩,.int .u64 0,.int .u64 0,.int .u64 0,.int .u8 0,.int .u64 0,.int .i64 0]) (by simp)
 have hB:=H5.out.bel
 have hE:=((((((((((((((show Blk W6 (w.heap.size + 1) 28 _ from hK).set_ 0 (.int .u8 (k : Nat))).set_ 1 (.int .i64 u)).set_ 2 (.int .i64 x1)).set_ 3 (.int .i64 y1)).set_ 4 (.int .i64 x2)).set_ 5 (.int .i64 y2)).set_ 6 (.string ⟨inp.toArray⟩)).set_ 7 (.int .u64 0)).set_ 8 (.int .u64 0)).set_ 9 (.int .u64 0)).set_ 10 (.int .u8 0)).set_ 11 (.int .u64 0)).set_ 12 (.int .i64 0))
 have r0:=hE.cell 0
 have r1:=hE.cell 1
 have r2:=hE.cell 2
 have r3:=hE.cell 3
 have r4:=hE.cell 4
 have r5:=hE.cell 5
 have r6:=hE.cell 6
 have r7:=hE.cell 7
 have r8:=hE.cell 8
 have r9:=hE.cell 9
 have r10:=hE.cell 10
 have r11:=hE.cell 11
 have r12:=hE.cell 12
 simp at r0 r1 r2 r3 r4 r5 r6 r7 r8 r9 r10 r11 r12
 refine bodyPost_ret (v:=.agg #[.int .u8 (k : Nat),.int .i64 u,.int .i64 x1,.int .i64 y1,.int .i64 x2,.int .i64 y2,.string ⟨inp.toArray⟩,.int .u64 0,.int .u64 0,.int .u64 0,.int .u8 0,.int .u64 0,.int .i64 0]) (by simp [results,Tryz.results37,go_sem,r0,r1,r2,r3,r4,r5,r6,r7,r8,r9,r10,r11,r12]) rfl ⟨rfl,(((((((((((((hB.setCell (by simp) _).setCell (by simp) _).setCell (by simp) _).setCell (by simp) _).setCell (by simp) _).setCell (by simp) _).setCell (by simp) _).setCell (by simp) _).setCell (by simp) _).setCell (by simp) _).setCell (by simp) _).setCell (by simp) _).setCell (by simp) _)⟩
set_option maxRecDepth 100000 in
set_option maxHeartbeats 4000000 in
theorem r9_only_11 (k : Nat) (u x1 y1 x2 y2 : Int) (inp : List UInt8) (a b c f t : Nat) (n : Int) (w : World) :
  Calls Tryz.prog 37 #[.agg #[.int .u8 (k : Nat),.int .i64 u,.int .i64 x1,.int .i64 y1,.int .i64 x2,.int .i64 y2,.string ⟨inp.toArray⟩,.int .u64 (a : Nat),.int .u64 (b : Nat),.int .u64 (c : Nat),.int .u8 (f : Nat),.int .u64 (t : Nat),.int .i64 n],.int .i64 11] w fun e w' => e = .returned (.agg #[.int .u8 (k : Nat),.int .i64 u,.int .i64 x1,.int .i64 y1,.int .i64 x2,.int .i64 y2,.string ⟨#[]⟩,.int .u64 (a : Nat),.int .u64 (b : Nat),.int .u64 (c : Nat),.int .u8 0,.int .u64 0,.int .i64 0]) ∧ Below w.heap.size w w':=by
 have H1:=Lib.hid ((((Ok.start w).alloc w.heap.size 28 [.int .u8 (k : Nat),.int .i64 u,.int .i64 x1,.int .i64 y1,.int .i64 x2,.int .i64 y2,.string ⟨inp.toArray⟩,.int .u64 (a : Nat),.int .u64 (b : Nat),.int .u64 (c : Nat),.int .u8 (f : Nat),.int .u64 (t : Nat),.int .i64 n] rfl).var (w.heap.size + 1) 28 [.int .u8 0,.int .i64 0,.int .i64 0,.int .i64 0,.int .i64 0,.int .i64 0,.string ⟨#[]⟩,.int .u64 0,.int .u64 0,.int .u64 0,.int .u8 0,.int .u64 0,.int .i64 0] (by simp)).var (w.heap.size + 1 + 1) 28 [.int .u8 (k : Nat),.int .i64 0,.int .i64 0,.int .i64 0,.int .i64 0,.int .i64 0,.string ⟨#[]⟩,.int .u64 0,.int .u64 0,.int .u64 0,.int .u8 0,.int .u64 0,.int .i64 0] (by simp))
 go_enter Tryz.func37,Tryz.ntmps37
 go_upto_region 2 with fail
 generalize (((w.alloc (.cells #[.int .u8 (k : Nat),.int .i64 u,.int .i64 x1,.int .i64 y1,.int .i64 x2,.int .i64 y2,.string ⟨inp.toArray⟩,.int .u64 (a : Nat),.int .u64 (b : Nat),.int .u64 (c : Nat),.int .u8 (f : Nat),.int .u64 (t : Nat),.int .i64 n] 28)).alloc (.cells #[.int .u8 0,.int .i64 0,.int .i64 0,.int .i64 0,.int .i64 0,.int .i64 0,.string ⟨#[]⟩,.int .u64 0,.int .u64 0,.int .u64 0,.int .u8 0,.int .u64 0,.int .i64 0] 28)).alloc (.cells #[.int .u8 (k : Nat),.int .i64 0,.int .i64 0,.int .i64 0,.int .i64 0,.int .i64 0,.string ⟨#[]⟩,.int .u64 0,.int .u64 0,.int .u64 0,.int .u8 0,.int .u64 0,.int .i64 0] 28)) = W2 at H1 ⊢
 have F3:=H1.out.sees
 simp only [sees,kBlk,kVar,cellsAt,Nat.reduceAdd] at F3
 obtain ⟨⟨⟨z0,fz0⟩,q00,q01,q02,q03,q04,q05,q06,q07,q08,q09,q0a,q0b,q0c,-⟩,⟨⟨z1,fz1⟩,q10,q11,q12,q13,q14,q15,q16,q17,q18,q19,q1a,q1b,q1c,-⟩,⟨z2,q20,q21,q22,q23,q24,q25,q26,q27,q28,q29,q2a,q2b,q2c,-⟩,-⟩:=F3
 go_upto_region 16 with fail
 have H4:=Lib.hid (H1.out.drop [kVar (w.heap.size + 1 + 1) 28 [.int .u8 (k : Nat),.int .i64 0,.int .i64 0,.int .i64 0,.int .i64 0,.int .i64 0,.string ⟨#[]⟩,.int .u64 0,.int .u64 0,.int .u64 0,.int .u8 0,.int .u64 0,.int .i64 0],kVar (w.heap.size + 1) 28 [.int .u8 0,.int .i64 0,.int .i64 0,.int .i64 0,.int .i64 0,.int .i64 0,.string ⟨#[]⟩,.int .u64 0,.int .u64 0,.int .u64 0,.int .u8 0,.int .u64 0,.int .i64 0],kBlk (w.heap.size) 28 [.int .u8 (k : Nat),.int .i64 u,.int .i64 x1,.int .i64 y1,.int .i64 x2,.int .i64 y2,.string ⟨inp.toArray⟩,.int .u64 (a : Nat),.int .u64 (b : Nat),.int .u64 (c : Nat),.int .u8 (f : Nat),.int .u64 (t : Nat),.int .i64 n]] (by simp))
 have hfar : ∀ x ∈ [kVar (w.heap.size + 1) 28 [.int .u8 0,.int .i64 0,.int .i64 0,.int .i64 0,.int .i64 0,.int .i64 0,.string ⟨#[]⟩,.int .u64 0,.int .u64 0,.int .u64 0,.int .u8 0,.int .u64 0,.int .i64 0],kBlk (w.heap.size) 28 [.int .u8 (k : Nat),.int .i64 u,.int .i64 x1,.int .i64 y1,.int .i64 x2,.int .i64 y2,.string ⟨inp.toArray⟩,.int .u64 (a : Nat),.int .u64 (b : Nat),.int .u64 (c : Nat),.int .u8 (f : Nat),.int .u64 (t : Nat),.int .i64 n]],x.far (some (w.heap.size + 1 + 1)):=by
  simp [kBlk,kVar]; omega
 have H5 : Hid (Ok w [kVar (w.heap.size + 1 + 1) 28 [.int .u8 (k : Nat),.int .i64 u,.int .i64 x1,.int .i64 y1,.int .i64 x2,.int .i64 y2,.string ⟨#[]⟩,.int .u64 (a : Nat),.int .u64 (b : Nat),.int .u64 (c : Nat),.int .u8 0,.int .u64 0,.int .i64 0],kVar (w.heap.size + 1) 28 [.int .u8 0,.int .i64 0,.int .i64 0,.int .i64 0,.int .i64 0,.int .i64 0,.string ⟨#[]⟩,.int .u64 0,.int .u64 0,.int .u64 0,.int .u8 0,.int .u64 0,.int .i64 0],kBlk (w.heap.size) 28 [.int .u8 (k : Nat),.int .i64 u,.int .i64 x1,.int .i64 y1,.int .i64 x2,.int .i64 y2,.string ⟨inp.toArray⟩,.int .u64 (a : Nat),.int .u64 (b : Nat),.int .u64 (c : Nat),.int .u8 (f : Nat),.int .u64 (t : Nat),.int .i64 n]] ((((((((W2.setCell ⟨w.heap.size + 1 + 1,1,none⟩ (.int .i64 u)).setCell ⟨w.heap.size + 1 + 1,2,none⟩ (.int .i64 x1)).setCell ⟨w.heap.size + 1 + 1,3,none⟩ (.int .i64 y1)).setCell ⟨w.heap.size + 1 + 1,4,none⟩ (.int .i64 x2)).setCell ⟨w.heap.size + 1 + 1,5,none⟩ (.int .i64 y2)).setCell ⟨w.heap.size + 1 + 1,7,none⟩ (.int .u64 (a : Nat))).setCell ⟨w.heap.size + 1 + 1,8,none⟩ (.int .u64 (b : Nat))).setCell ⟨w.heap.size + 1 + 1,9,none⟩ (.int .u64 (c : Nat)))):=((((((((H4.out.set_ (i:=1) (u:=.int .i64 u) (by omega) hfar).set_ (i:=2) (u:=.int .i64 x1) (by omega) hfar).set_ (i:=3) (u:=.int .i64 y1) (by omega) hfar).set_ (i:=4) (u:=.int .i64 x2) (by omega) hfar).set_ (i:=5) (u:=.int .i64 y2) (by omega) hfar).set_ (i:=7) (u:=.int .u64 (a : Nat)) (by omega) hfar).set_ (i:=8) (u:=.int .u64 (b : Nat)) (by omega) hfar).set_ (i:=9) (u:=.int .u64 (c : Nat)) (by omega) hfar)
 clear z0 fz0 q00 q01 q02 q03 q04 q05 q06 q07 q08 q09 q0a q0b q0c z1 fz1 q10 q11 q12 q13 q14 q15 q16 q17 q18 q19 q1a q1b q1c z2 q20 q21 q22 q23 q24 q25 q26 q27 q28 q29 q2a q2b q2c
 clear H1 H4 hfar
 generalize ((((((((W2.setCell ⟨w.heap.size + 1 + 1,1,none⟩ (.int .i64 u)).setCell ⟨w.heap.size + 1 + 1,2,none⟩ (.int .i64 x1)).setCell ⟨w.heap.size + 1 + 1,3,none⟩ (.int .i64 y1)).setCell ⟨w.heap.size + 1 + 1,4,none⟩ (.int .i64 x2)).setCell ⟨w.heap.size + 1 + 1,5,none⟩ (.int .i64 y2)).setCell ⟨w.heap.size + 1 + 1,7,none⟩ (.int .u64 (a : Nat))).setCell ⟨w.heap.size + 1 + 1,8,none⟩ (.int .u64 (b : Nat))).setCell ⟨w.heap.size + 1 + 1,9,none⟩ (.int .u64 (c : Nat))) = W6 at H5 ⊢
 have F7:=H5.out.sees
 simp only [sees,kBlk,kVar,cellsAt,Nat.reduceAdd] at F7
 obtain ⟨⟨⟨z0,fz0⟩,q00,q01,q02,q03,q04,q05,q06,q07,q08,q09,q0a,q0b,q0c,-⟩,⟨⟨z1,fz1⟩,q10,q11,q12,q13,q14,q15,q16,q17,q18,q19,q1a,q1b,q1c,-⟩,⟨z2,q20,q21,q22,q23,q24,q25,q26,q27,q28,q29,q2a,q2b,q2c,-⟩,-⟩:=F7
 go_wp2_with fail
 have hK:=H5.out.get (kVar (w.heap.size + 1) 28 [.int .u8 0,.int .i64 0,.int .i64 0,.int .i64 0,.int .i64 0,.int .i64 0,.string ⟨#[]⟩,.int .u64 0,.int .u64 0,.int .u64 0,.int .u8 0,.int .u64 0,.int .i64 0]) (by simp)
 have hB:=H5.out.bel
 have hE:=((((((((((((((show Blk W6 (w.heap.size + 1) 28 _ from hK).set_ 0 (.int .u8 (k : Nat))).set_ 1 (.int .i64 u)).set_ 2 (.int .i64 x1)).set_ 3 (.int .i64 y1)).set_ 4 (.int .i64 x2)).set_ 5 (.int .i64 y2)).set_ 6 (.string ⟨#[]⟩)).set_ 7 (.int .u64 (a : Nat))).set_ 8 (.int .u64 (b : Nat))).set_ 9 (.int .u64 (c : Nat))).set_ 10 (.int .u8 0)).set_ 11 (.int .u64 0)).set_ 12 (.int .i64 0))
 have r0:=hE.cell 0
 have r1:=hE.cell 1
 have r2:=hE.cell 2
 have r3:=hE.cell 3
 have r4:=hE.cell 4
 have r5:=hE.cell 5
 have r6:=hE.cell 6
 have r7:=hE.cell 7
 have r8:=hE.cell 8
 have r9:=hE.cell 9
 have r10:=hE.cell 10
 have r11:=hE.cell 11
 have r12:=hE.cell 12
 simp at r0 r1 r2 r3 r4 r5 r6 r7 r8 r9 r10 r11 r12
 refine bodyPost_ret (v:=.agg #[.int .u8 (k : Nat),.int .i64 u,.int .i64 x1,.int .i64 y1,.int .i64 x2,.int .i64 y2,.string ⟨#[]⟩,.int .u64 (a : Nat),.int .u64 (b : Nat),.int .u64 (c : Nat),.int .u8 0,.int .u64 0,.int .i64 0]) (by simp [results,Tryz.results37,go_sem,r0,r1,r2,r3,r4,r5,r6,r7,r8,r9,r10,r11,r12]) rfl ⟨rfl,(((((((((((((hB.setCell (by simp) _).setCell (by simp) _).setCell (by simp) _).setCell (by simp) _).setCell (by simp) _).setCell (by simp) _).setCell (by simp) _).setCell (by simp) _).setCell (by simp) _).setCell (by simp) _).setCell (by simp) _).setCell (by simp) _).setCell (by simp) _)⟩
set_option maxRecDepth 100000 in
set_option maxHeartbeats 4000000 in
theorem r9_only_51 (k : Nat) (u x1 y1 x2 y2 : Int) (inp : List UInt8) (a b c f t : Nat) (n : Int) (w : World) :
  Calls Tryz.prog 37 #[.agg #[.int .u8 (k : Nat),.int .i64 u,.int .i64 x1,.int .i64 y1,.int .i64 x2,.int .i64 y2,.string ⟨inp.toArray⟩,.int .u64 (a : Nat),.int .u64 (b : Nat),.int .u64 (c : Nat),.int .u8 (f : Nat),.int .u64 (t : Nat),.int .i64 n],.int .i64 51] w fun e w' => e = .returned (.agg #[.int .u8 (k : Nat),.int .i64 u,.int .i64 x1,.int .i64 y1,.int .i64 x2,.int .i64 y2,.string ⟨#[]⟩,.int .u64 0,.int .u64 0,.int .u64 0,.int .u8 (f : Nat),.int .u64 (t : Nat),.int .i64 0]) ∧ Below w.heap.size w w':=by
 have H1:=Lib.hid ((((Ok.start w).alloc w.heap.size 28 [.int .u8 (k : Nat),.int .i64 u,.int .i64 x1,.int .i64 y1,.int .i64 x2,.int .i64 y2,.string ⟨inp.toArray⟩,.int .u64 (a : Nat),.int .u64 (b : Nat),.int .u64 (c : Nat),.int .u8 (f : Nat),.int .u64 (t : Nat),.int .i64 n] rfl).var (w.heap.size + 1) 28 [.int .u8 0,.int .i64 0,.int .i64 0,.int .i64 0,.int .i64 0,.int .i64 0,.string ⟨#[]⟩,.int .u64 0,.int .u64 0,.int .u64 0,.int .u8 0,.int .u64 0,.int .i64 0] (by simp)).var (w.heap.size + 1 + 1) 28 [.int .u8 (k : Nat),.int .i64 0,.int .i64 0,.int .i64 0,.int .i64 0,.int .i64 0,.string ⟨#[]⟩,.int .u64 0,.int .u64 0,.int .u64 0,.int .u8 0,.int .u64 0,.int .i64 0] (by simp))
 go_enter Tryz.func37,Tryz.ntmps37
 go_upto_region 2 with fail
 generalize (((w.alloc (.cells #[.int .u8 (k : Nat),.int .i64 u,.int .i64 x1,.int .i64 y1,.int .i64 x2,.int .i64 y2,.string ⟨inp.toArray⟩,.int .u64 (a : Nat),.int .u64 (b : Nat),.int .u64 (c : Nat),.int .u8 (f : Nat),.int .u64 (t : Nat),.int .i64 n] 28)).alloc (.cells #[.int .u8 0,.int .i64 0,.int .i64 0,.int .i64 0,.int .i64 0,.int .i64 0,.string ⟨#[]⟩,.int .u64 0,.int .u64 0,.int .u64 0,.int .u8 0,.int .u64 0,.int .i64 0] 28)).alloc (.cells #[.int .u8 (k : Nat),.int .i64 0,.int .i64 0,.int .i64 0,.int .i64 0,.int .i64 0,.string ⟨#[]⟩,.int .u64 0,.int .u64 0,.int .u64 0,.int .u8 0,.int .u64 0,.int .i64 0] 28)) = W2 at H1 ⊢
 have F3:=H1.out.sees
 simp only [sees,kBlk,kVar,cellsAt,Nat.reduceAdd] at F3
 obtain ⟨⟨⟨z0,fz0⟩,q00,q01,q02,q03,q04,q05,q06,q07,q08,q09,q0a,q0b,q0c,-⟩,⟨⟨z1,fz1⟩,q10,q11,q12,q13,q14,q15,q16,q17,q18,q19,q1a,q1b,q1c,-⟩,⟨z2,q20,q21,q22,q23,q24,q25,q26,q27,q28,q29,q2a,q2b,q2c,-⟩,-⟩:=F3
 go_upto_region 16 with fail
 have H4:=Lib.hid (H1.out.drop [kVar (w.heap.size + 1 + 1) 28 [.int .u8 (k : Nat),.int .i64 0,.int .i64 0,.int .i64 0,.int .i64 0,.int .i64 0,.string ⟨#[]⟩,.int .u64 0,.int .u64 0,.int .u64 0,.int .u8 0,.int .u64 0,.int .i64 0],kVar (w.heap.size + 1) 28 [.int .u8 0,.int .i64 0,.int .i64 0,.int .i64 0,.int .i64 0,.int .i64 0,.string ⟨#[]⟩,.int .u64 0,.int .u64 0,.int .u64 0,.int .u8 0,.int .u64 0,.int .i64 0],kBlk (w.heap.size) 28 [.int .u8 (k : Nat),.int .i64 u,.int .i64 x1,.int .i64 y1,.int .i64 x2,.int .i64 y2,.string ⟨inp.toArray⟩,.int .u64 (a : Nat),.int .u64 (b : Nat),.int .u64 (c : Nat),.int .u8 (f : Nat),.int .u64 (t : Nat),.int .i64 n]] (by simp))
 have hfar : ∀ x ∈ [kVar (w.heap.size + 1) 28 [.int .u8 0,.int .i64 0,.int .i64 0,.int .i64 0,.int .i64 0,.int .i64 0,.string ⟨#[]⟩,.int .u64 0,.int .u64 0,.int .u64 0,.int .u8 0,.int .u64 0,.int .i64 0],kBlk (w.heap.size) 28 [.int .u8 (k : Nat),.int .i64 u,.int .i64 x1,.int .i64 y1,.int .i64 x2,.int .i64 y2,.string ⟨inp.toArray⟩,.int .u64 (a : Nat),.int .u64 (b : Nat),.int .u64 (c : Nat),.int .u8 (f : Nat),.int .u64 (t : Nat),.int .i64 n]],x.far (some (w.heap.size + 1 + 1)):=by
  simp [kBlk,kVar]; omega
 have H5 : Hid (Ok w [kVar (w.heap.size + 1 + 1) 28 [.int .u8 (k : Nat),.int .i64 u,.int .i64 x1,.int .i64 y1,.int .i64 x2,.int .i64 y2,.string ⟨#[]⟩,.int .u64 0,.int .u64 0,.int .u64 0,.int .u8 (f : Nat),.int .u64 (t : Nat),.int .i64 0],kVar (w.heap.size + 1) 28 [.int .u8 0,.int .i64 0,.int .i64 0,.int .i64 0,.int .i64 0,.int .i64 0,.string ⟨#[]⟩,.int .u64 0,.int .u64 0,.int .u64 0,.int .u8 0,.int .u64 0,.int .i64 0],kBlk (w.heap.size) 28 [.int .u8 (k : Nat),.int .i64 u,.int .i64 x1,.int .i64 y1,.int .i64 x2,.int .i64 y2,.string ⟨inp.toArray⟩,.int .u64 (a : Nat),.int .u64 (b : Nat),.int .u64 (c : Nat),.int .u8 (f : Nat),.int .u64 (t : Nat),.int .i64 n]] (((((((W2.setCell ⟨w.heap.size + 1 + 1,1,none⟩ (.int .i64 u)).setCell ⟨w.heap.size + 1 + 1,2,none⟩ (.int .i64 x1)).setCell ⟨w.heap.size + 1 + 1,3,none⟩ (.int .i64 y1)).setCell ⟨w.heap.size + 1 + 1,4,none⟩ (.int .i64 x2)).setCell ⟨w.heap.size + 1 + 1,5,none⟩ (.int .i64 y2)).setCell ⟨w.heap.size + 1 + 1,10,none⟩ (.int .u8 (f : Nat))).setCell ⟨w.heap.size + 1 + 1,11,none⟩ (.int .u64 (t : Nat)))):=(((((((H4.out.set_ (i:=1) (u:=.int .i64 u) (by omega) hfar).set_ (i:=2) (u:=.int .i64 x1) (by omega) hfar).set_ (i:=3) (u:=.int .i64 y1) (by omega) hfar).set_ (i:=4) (u:=.int .i64 x2) (by omega) hfar).set_ (i:=5) (u:=.int .i64 y2) (by omega) hfar).set_ (i:=10) (u:=.int .u8 (f : Nat)) (by omega) hfar).set_ (i:=11) (u:=.int .u64 (t : Nat)) (by omega) hfar)
 clear z0 fz0 q00 q01 q02 q03 q04 q05 q06 q07 q08 q09 q0a q0b q0c z1 fz1 q10 q11 q12 q13 q14 q15 q16 q17 q18 q19 q1a q1b q1c z2 q20 q21 q22 q23 q24 q25 q26 q27 q28 q29 q2a q2b q2c
 clear H1 H4 hfar
 generalize (((((((W2.setCell ⟨w.heap.size + 1 + 1,1,none⟩ (.int .i64 u)).setCell ⟨w.heap.size + 1 + 1,2,none⟩ (.int .i64 x1)).setCell ⟨w.heap.size + 1 + 1,3,none⟩ (.int .i64 y1)).setCell ⟨w.heap.size + 1 + 1,4,none⟩ (.int .i64 x2)).setCell ⟨w.heap.size + 1 + 1,5,none⟩ (.int .i64 y2)).setCell ⟨w.heap.size + 1 + 1,10,none⟩ (.int .u8 (f : Nat))).setCell ⟨w.heap.size + 1 + 1,11,none⟩ (.int .u64 (t : Nat))) = W6 at H5 ⊢
 have F7:=H5.out.sees
 simp only [sees,kBlk,kVar,cellsAt,Nat.reduceAdd] at F7
 obtain ⟨⟨⟨z0,fz0⟩,q00,q01,q02,q03,q04,q05,q06,q07,q08,q09,q0a,q0b,q0c,-⟩,⟨⟨z1,fz1⟩,q10,q11,q12,q13,q14,q15,q16,q17,q18,q19,q1a,q1b,q1c,-⟩,⟨z2,q20,q21,q22,q23,q24,q25,q26,q27,q28,q29,q2a,q2b,q2c,-⟩,-⟩:=F7
 go_wp2_with fail
 have hK:=H5.out.get (kVar (w.heap.size + 1) 28 [.int .u8 0,.int .i64 0,.int .i64 0,.int .i64 0,.int .i64 0,.int .i64 0,.string ⟨#[]⟩,.int .u64 0,.int .u64 0,.int .u64 0,.int .u8 0,.int .u64 0,.int .i64 0]) (by simp)
 have hB:=H5.out.bel
 have hE:=((((((((((((((show Blk W6 (w.heap.size + 1) 28 _ from hK).set_ 0 (.int .u8 (k : Nat))).set_ 1 (.int .i64 u)).set_ 2 (.int .i64 x1)).set_ 3 (.int .i64 y1)).set_ 4 (.int .i64 x2)).set_ 5 (.int .i64 y2)).set_ 6 (.string ⟨#[]⟩)).set_ 7 (.int .u64 0)).set_ 8 (.int .u64 0)).set_ 9 (.int .u64 0)).set_ 10 (.int .u8 (f : Nat))).set_ 11 (.int .u64 (t : Nat))).set_ 12 (.int .i64 0))
 have r0:=hE.cell 0
 have r1:=hE.cell 1
 have r2:=hE.cell 2
 have r3:=hE.cell 3
 have r4:=hE.cell 4
 have r5:=hE.cell 5
 have r6:=hE.cell 6
 have r7:=hE.cell 7
 have r8:=hE.cell 8
 have r9:=hE.cell 9
 have r10:=hE.cell 10
 have r11:=hE.cell 11
 have r12:=hE.cell 12
 simp at r0 r1 r2 r3 r4 r5 r6 r7 r8 r9 r10 r11 r12
 refine bodyPost_ret (v:=.agg #[.int .u8 (k : Nat),.int .i64 u,.int .i64 x1,.int .i64 y1,.int .i64 x2,.int .i64 y2,.string ⟨#[]⟩,.int .u64 0,.int .u64 0,.int .u64 0,.int .u8 (f : Nat),.int .u64 (t : Nat),.int .i64 0]) (by simp [results,Tryz.results37,go_sem,r0,r1,r2,r3,r4,r5,r6,r7,r8,r9,r10,r11,r12]) rfl ⟨rfl,(((((((((((((hB.setCell (by simp) _).setCell (by simp) _).setCell (by simp) _).setCell (by simp) _).setCell (by simp) _).setCell (by simp) _).setCell (by simp) _).setCell (by simp) _).setCell (by simp) _).setCell (by simp) _).setCell (by simp) _).setCell (by simp) _).setCell (by simp) _)⟩
set_option maxRecDepth 100000 in
set_option maxHeartbeats 4000000 in
theorem r9_only_65 (k : Nat) (u x1 y1 x2 y2 : Int) (inp : List UInt8) (a b c f t : Nat) (n : Int) (w : World) :
  Calls Tryz.prog 37 #[.agg #[.int .u8 (k : Nat),.int .i64 u,.int .i64 x1,.int .i64 y1,.int .i64 x2,.int .i64 y2,.string ⟨inp.toArray⟩,.int .u64 (a : Nat),.int .u64 (b : Nat),.int .u64 (c : Nat),.int .u8 (f : Nat),.int .u64 (t : Nat),.int .i64 n],.int .i64 65] w fun e w' => e = .returned (.agg #[.int .u8 (k : Nat),.int .i64 u,.int .i64 0,.int .i64 0,.int .i64 0,.int .i64 0,.string ⟨#[]⟩,.int .u64 0,.int .u64 0,.int .u64 0,.int .u8 0,.int .u64 0,.int .i64 n]) ∧ Below w.heap.size w w':=by
 have H1:=Lib.hid ((((Ok.start w).alloc w.heap.size 28 [.int .u8 (k : Nat),.int .i64 u,.int .i64 x1,.int .i64 y1,.int .i64 x2,.int .i64 y2,.string ⟨inp.toArray⟩,.int .u64 (a : Nat),.int .u64 (b : Nat),.int .u64 (c : Nat),.int .u8 (f : Nat),.int .u64 (t : Nat),.int .i64 n] rfl).var (w.heap.size + 1) 28 [.int .u8 0,.int .i64 0,.int .i64 0,.int .i64 0,.int .i64 0,.int .i64 0,.string ⟨#[]⟩,.int .u64 0,.int .u64 0,.int .u64 0,.int .u8 0,.int .u64 0,.int .i64 0] (by simp)).var (w.heap.size + 1 + 1) 28 [.int .u8 (k : Nat),.int .i64 0,.int .i64 0,.int .i64 0,.int .i64 0,.int .i64 0,.string ⟨#[]⟩,.int .u64 0,.int .u64 0,.int .u64 0,.int .u8 0,.int .u64 0,.int .i64 0] (by simp))
 go_enter Tryz.func37,Tryz.ntmps37
 go_upto_region 2 with fail
 generalize (((w.alloc (.cells #[.int .u8 (k : Nat),.int .i64 u,.int .i64 x1,.int .i64 y1,.int .i64 x2,.int .i64 y2,.string ⟨inp.toArray⟩,.int .u64 (a : Nat),.int .u64 (b : Nat),.int .u64 (c : Nat),.int .u8 (f : Nat),.int .u64 (t : Nat),.int .i64 n] 28)).alloc (.cells #[.int .u8 0,.int .i64 0,.int .i64 0,.int .i64 0,.int .i64 0,.int .i64 0,.string ⟨#[]⟩,.int .u64 0,.int .u64 0,.int .u64 0,.int .u8 0,.int .u64 0,.int .i64 0] 28)).alloc (.cells #[.int .u8 (k : Nat),.int .i64 0,.int .i64 0,.int .i64 0,.int .i64 0,.int .i64 0,.string ⟨#[]⟩,.int .u64 0,.int .u64 0,.int .u64 0,.int .u8 0,.int .u64 0,.int .i64 0] 28)) = W2 at H1 ⊢
 have F3:=H1.out.sees
 simp only [sees,kBlk,kVar,cellsAt,Nat.reduceAdd] at F3
 obtain ⟨⟨⟨z0,fz0⟩,q00,q01,q02,q03,q04,q05,q06,q07,q08,q09,q0a,q0b,q0c,-⟩,⟨⟨z1,fz1⟩,q10,q11,q12,q13,q14,q15,q16,q17,q18,q19,q1a,q1b,q1c,-⟩,⟨z2,q20,q21,q22,q23,q24,q25,q26,q27,q28,q29,q2a,q2b,q2c,-⟩,-⟩:=F3
 go_upto_region 16 with fail
 have H4:=Lib.hid (H1.out.drop [kVar (w.heap.size + 1 + 1) 28 [.int .u8 (k : Nat),.int .i64 0,.int .i64 0,.int .i64 0,.int .i64 0,.int .i64 0,.string ⟨#[]⟩,.int .u64 0,.int .u64 0,.int .u64 0,.int .u8 0,.int .u64 0,.int .i64 0],kVar (w.heap.size + 1) 28 [.int .u8 0,.int .i64 0,.int .i64 0,.int .i64 0,.int .i64 0,.int .i64 0,.string ⟨#[]⟩,.int .u64 0,.int .u64 0,.int .u64 0,.int .u8 0,.int .u64 0,.int .i64 0],kBlk (w.heap.size) 28 [.int .u8 (k : Nat),.int .i64 u,.int .i64 x1,.int .i64 y1,.int .i64 x2,.int .i64 y2,.string ⟨inp.toArray⟩,.int .u64 (a : Nat),.int .u64 (b : Nat),.int .u64 (c : Nat),.int .u8 (f : Nat),.int .u64 (t : Nat),.int .i64 n]] (by simp))
 have hfar : ∀ x ∈ [kVar (w.heap.size + 1) 28 [.int .u8 0,.int .i64 0,.int .i64 0,.int .i64 0,.int .i64 0,.int .i64 0,.string ⟨#[]⟩,.int .u64 0,.int .u64 0,.int .u64 0,.int .u8 0,.int .u64 0,.int .i64 0],kBlk (w.heap.size) 28 [.int .u8 (k : Nat),.int .i64 u,.int .i64 x1,.int .i64 y1,.int .i64 x2,.int .i64 y2,.string ⟨inp.toArray⟩,.int .u64 (a : Nat),.int .u64 (b : Nat),.int .u64 (c : Nat),.int .u8 (f : Nat),.int .u64 (t : Nat),.int .i64 n]],x.far (some (w.heap.size + 1 + 1)):=by
  simp [kBlk,kVar]; omega
 have H5 : Hid (Ok w [kVar (w.heap.size + 1 + 1) 28 [.int .u8 (k : Nat),.int .i64 u,.int .i64 0,.int .i64 0,.int .i64 0,.int .i64 0,.string ⟨#[]⟩,.int .u64 0,.int .u64 0,.int .u64 0,.int .u8 0,.int .u64 0,.int .i64 n],kVar (w.heap.size + 1) 28 [.int .u8 0,.int .i64 0,.int .i64 0,.int .i64 0,.int .i64 0,.int .i64 0,.string ⟨#[]⟩,.int .u64 0,.int .u64 0,.int .u64 0,.int .u8 0,.int .u64 0,.int .i64 0],kBlk (w.heap.size) 28 [.int .u8 (k : Nat),.int .i64 u,.int .i64 x1,.int .i64 y1,.int .i64 x2,.int .i64 y2,.string ⟨inp.toArray⟩,.int .u64 (a : Nat),.int .u64 (b : Nat),.int .u64 (c : Nat),.int .u8 (f : Nat),.int .u64 (t : Nat),.int .i64 n]] ((W2.setCell ⟨w.heap.size + 1 + 1,1,none⟩ (.int .i64 u)).setCell ⟨w.heap.size + 1 + 1,12,none⟩ (.int .i64 n))):=((H4.out.set_ (i:=1) (u:=.int .i64 u) (by omega) hfar).set_ (i:=12) (u:=.int .i64 n) (by omega) hfar)
 clear z0 fz0 q00 q01 q02 q03 q04 q05 q06 q07 q08 q09 q0a q0b q0c z1 fz1 q10 q11 q12 q13 q14 q15 q16 q17 q18 q19 q1a q1b q1c z2 q20 q21 q22 q23 q24 q25 q26 q27 q28 q29 q2a q2b q2c
 clear H1 H4 hfar
 generalize ((W2.setCell ⟨w.heap.size + 1 + 1,1,none⟩ (.int .i64 u)).setCell ⟨w.heap.size + 1 + 1,12,none⟩ (.int .i64 n)) = W6 at H5 ⊢
 have F7:=H5.out.sees
 simp only [sees,kBlk,kVar,cellsAt,Nat.reduceAdd] at F7
 obtain ⟨⟨⟨z0,fz0⟩,q00,q01,q02,q03,q04,q05,q06,q07,q08,q09,q0a,q0b,q0c,-⟩,⟨⟨z1,fz1⟩,q10,q11,q12,q13,q14,q15,q16,q17,q18,q19,q1a,q1b,q1c,-⟩,⟨z2,q20,q21,q22,q23,q24,q25,q26,q27,q28,q29,q2a,q2b,q2c,-⟩,-⟩:=F7
 go_wp2_with fail
 have hK:=H5.out.get (kVar (w.heap.size + 1) 28 [.int .u8 0,.int .i64 0,.int .i64 0,.int .i64 0,.int .i64 0,.int .i64 0,.string ⟨#[]⟩,.int .u64 0,.int .u64 0,.int .u64 0,.int .u8 0,.int .u64 0,.int .i64 0]) (by simp)
 have hB:=H5.out.bel
 have hE:=((((((((((((((show Blk W6 (w.heap.size + 1) 28 _ from hK).set_ 0 (.int .u8 (k : Nat))).set_ 1 (.int .i64 u)).set_ 2 (.int .i64 0)).set_ 3 (.int .i64 0)).set_ 4 (.int .i64 0)).set_ 5 (.int .i64 0)).set_ 6 (.string ⟨#[]⟩)).set_ 7 (.int .u64 0)).set_ 8 (.int .u64 0)).set_ 9 (.int .u64 0)).set_ 10 (.int .u8 0)).set_ 11 (.int .u64 0)).set_ 12 (.int .i64 n))
 have r0:=hE.cell 0
 have r1:=hE.cell 1
 have r2:=hE.cell 2
 have r3:=hE.cell 3
 have r4:=hE.cell 4
 have r5:=hE.cell 5
 have r6:=hE.cell 6
 have r7:=hE.cell 7
 have r8:=hE.cell 8
 have r9:=hE.cell 9
 have r10:=hE.cell 10
 have r11:=hE.cell 11
 have r12:=hE.cell 12
 simp at r0 r1 r2 r3 r4 r5 r6 r7 r8 r9 r10 r11 r12
 refine bodyPost_ret (v:=.agg #[.int .u8 (k : Nat),.int .i64 u,.int .i64 0,.int .i64 0,.int .i64 0,.int .i64 0,.string ⟨#[]⟩,.int .u64 0,.int .u64 0,.int .u64 0,.int .u8 0,.int .u64 0,.int .i64 n]) (by simp [results,Tryz.results37,go_sem,r0,r1,r2,r3,r4,r5,r6,r7,r8,r9,r10,r11,r12]) rfl ⟨rfl,(((((((((((((hB.setCell (by simp) _).setCell (by simp) _).setCell (by simp) _).setCell (by simp) _).setCell (by simp) _).setCell (by simp) _).setCell (by simp) _).setCell (by simp) _).setCell (by simp) _).setCell (by simp) _).setCell (by simp) _).setCell (by simp) _).setCell (by simp) _)⟩
end Go.Proofs.YtjbimcdofenmdaaGreatDoor
