/- Contracts of op.Plain and words. -/
import Derived.Test.YtjbimcdofenmdaaGreatDoorMOpA
namespace Go.Proofs.YtjbimcdofenmdaaGreatDoor
open Go.RowKit
set_option maxRecDepth 100000 in
set_option maxHeartbeats 4000000 in
theorem plain_1 (u x1 y1 x2 y2 : Int) (inp : List UInt8) (a b c f t : Nat) (n : Int) (w : World) :
  Calls Tryz.prog 17 #[.agg #[.int .u8 1,.int .i64 u,.int .i64 x1,.int .i64 y1,.int .i64 x2,.int .i64 y2,.string ⟨inp.toArray⟩,.int .u64 (a : Nat),.int .u64 (b : Nat),.int .u64 (c : Nat),.int .u8 (f : Nat),.int .u64 (t : Nat),.int .i64 n]] w fun e w' => e = .returned (.agg #[.int .u8 1,.int .i64 u,.int .i64 0,.int .i64 0,.int .i64 0,.int .i64 0,.string ⟨#[]⟩,.int .u64 0,.int .u64 0,.int .u64 0,.int .u8 0,.int .u64 0,.int .i64 0]) ∧ Below w.heap.size w w':=by
 have H1:=Lib.hid ((((Ok.start w).alloc w.heap.size 28 [.int .u8 1,.int .i64 u,.int .i64 x1,.int .i64 y1,.int .i64 x2,.int .i64 y2,.string ⟨inp.toArray⟩,.int .u64 (a : Nat),.int .u64 (b : Nat),.int .u64 (c : Nat),.int .u8 (f : Nat),.int .u64 (t : Nat),.int .i64 n] rfl).var (w.heap.size + 1) 28 [.int .u8 0,.int .i64 0,.int .i64 0,.int .i64 0,.int .i64 0,.int .i64 0,.string ⟨#[]⟩,.int .u64 0,.int .u64 0,.int .u64 0,.int .u8 0,.int .u64 0,.int .i64 0] (by simp)).var (w.heap.size + 1 + 1) 28 [.int .u8 1,.int .i64 u,.int .i64 0,.int .i64 0,.int .i64 0,.int .i64 0,.string ⟨#[]⟩,.int .u64 0,.int .u64 0,.int .u64 0,.int .u8 0,.int .u64 0,.int .i64 0] (by simp))
 go_enter Tryz.func17,Tryz.ntmps17
 go_wp2_with fail
 generalize (((w.alloc (.cells #[.int .u8 1,.int .i64 u,.int .i64 x1,.int .i64 y1,.int .i64 x2,.int .i64 y2,.string ⟨inp.toArray⟩,.int .u64 (a : Nat),.int .u64 (b : Nat),.int .u64 (c : Nat),.int .u8 (f : Nat),.int .u64 (t : Nat),.int .i64 n] 28)).alloc (.cells #[.int .u8 0,.int .i64 0,.int .i64 0,.int .i64 0,.int .i64 0,.int .i64 0,.string ⟨#[]⟩,.int .u64 0,.int .u64 0,.int .u64 0,.int .u8 0,.int .u64 0,.int .i64 0] 28)).alloc (.cells #[.int .u8 1,.int .i64 u,.int .i64 0,.int .i64 0,.int .i64 0,.int .i64 0,.string ⟨#[]⟩,.int .u64 0,.int .u64 0,.int .u64 0,.int .u8 0,.int .u64 0,.int .i64 0] 28)) = W2 at H1 ⊢
 have F3:=H1.out.sees
 simp only [sees,kBlk,kVar,cellsAt,Nat.reduceAdd] at F3
 obtain ⟨⟨⟨z0,fz0⟩,c0_0,c0_1,c0_2,c0_3,c0_4,c0_5,c0_6,c0_7,c0_8,c0_9,c0_10,c0_11,c0_12,-⟩,⟨⟨z1,fz1⟩,c1_0,c1_1,c1_2,c1_3,c1_4,c1_5,c1_6,c1_7,c1_8,c1_9,c1_10,c1_11,c1_12,-⟩,⟨z2,c2_0,c2_1,c2_2,c2_3,c2_4,c2_5,c2_6,c2_7,c2_8,c2_9,c2_10,c2_11,c2_12,-⟩,-⟩:=F3
 refine (target_no 1 (by decide) u x1 y1 x2 y2 inp a b c f t n _).mono ?_
 rintro e w4 ⟨rfl,hb5⟩
 clear z0 fz0 c0_0 c0_1 c0_2 c0_3 c0_4 c0_5 c0_6 c0_7 c0_8 c0_9 c0_10 c0_11 c0_12 z1 fz1 c1_0 c1_1 c1_2 c1_3 c1_4 c1_5 c1_6 c1_7 c1_8 c1_9 c1_10 c1_11 c1_12 z2 c2_0 c2_1 c2_2 c2_3 c2_4 c2_5 c2_6 c2_7 c2_8 c2_9 c2_10 c2_11 c2_12
 have H6:=Lib.hid (H1.out.below hb5)
 clear hb5 H1
 have F7:=H6.out.sees
 simp only [sees,kBlk,kVar,cellsAt,Nat.reduceAdd] at F7
 obtain ⟨⟨⟨z0,fz0⟩,c0_0,c0_1,c0_2,c0_3,c0_4,c0_5,c0_6,c0_7,c0_8,c0_9,c0_10,c0_11,c0_12,-⟩,⟨⟨z1,fz1⟩,c1_0,c1_1,c1_2,c1_3,c1_4,c1_5,c1_6,c1_7,c1_8,c1_9,c1_10,c1_11,c1_12,-⟩,⟨z2,c2_0,c2_1,c2_2,c2_3,c2_4,c2_5,c2_6,c2_7,c2_8,c2_9,c2_10,c2_11,c2_12,-⟩,-⟩:=F7
 go_upto_region 6 with fail
 have H8:=Lib.hid (H6.out.drop [kVar (w.heap.size + 1 + 1) 28 [.int .u8 1,.int .i64 u,.int .i64 0,.int .i64 0,.int .i64 0,.int .i64 0,.string ⟨#[]⟩,.int .u64 0,.int .u64 0,.int .u64 0,.int .u8 0,.int .u64 0,.int .i64 0],kVar (w.heap.size + 1) 28 [.int .u8 0,.int .i64 0,.int .i64 0,.int .i64 0,.int .i64 0,.int .i64 0,.string ⟨#[]⟩,.int .u64 0,.int .u64 0,.int .u64 0,.int .u8 0,.int .u64 0,.int .i64 0],kBlk (w.heap.size) 28 [.int .u8 1,.int .i64 u,.int .i64 x1,.int .i64 y1,.int .i64 x2,.int .i64 y2,.string ⟨inp.toArray⟩,.int .u64 (a : Nat),.int .u64 (b : Nat),.int .u64 (c : Nat),.int .u8 (f : Nat),.int .u64 (t : Nat),.int .i64 n]] (by simp))
 have hfar : ∀ x ∈ [kVar (w.heap.size + 1) 28 [.int .u8 0,.int .i64 0,.int .i64 0,.int .i64 0,.int .i64 0,.int .i64 0,.string ⟨#[]⟩,.int .u64 0,.int .u64 0,.int .u64 0,.int .u8 0,.int .u64 0,.int .i64 0],kBlk (w.heap.size) 28 [.int .u8 1,.int .i64 u,.int .i64 x1,.int .i64 y1,.int .i64 x2,.int .i64 y2,.string ⟨inp.toArray⟩,.int .u64 (a : Nat),.int .u64 (b : Nat),.int .u64 (c : Nat),.int .u8 (f : Nat),.int .u64 (t : Nat),.int .i64 n]],x.far (some (w.heap.size + 1 + 1)):=by
  simp [kBlk,kVar]; omega
 have H9 : Hid (Ok w [kVar (w.heap.size + 1 + 1) 28 [.int .u8 1,.int .i64 u,.int .i64 0,.int .i64 0,.int .i64 0,.int .i64 0,.string ⟨#[]⟩,.int .u64 0,.int .u64 0,.int .u64 0,.int .u8 0,.int .u64 0,.int .i64 0],kVar (w.heap.size + 1) 28 [.int .u8 0,.int .i64 0,.int .i64 0,.int .i64 0,.int .i64 0,.int .i64 0,.string ⟨#[]⟩,.int .u64 0,.int .u64 0,.int .u64 0,.int .u8 0,.int .u64 0,.int .i64 0],kBlk (w.heap.size) 28 [.int .u8 1,.int .i64 u,.int .i64 x1,.int .i64 y1,.int .i64 x2,.int .i64 y2,.string ⟨inp.toArray⟩,.int .u64 (a : Nat),.int .u64 (b : Nat),.int .u64 (c : Nat),.int .u8 (f : Nat),.int .u64 (t : Nat),.int .i64 n]] ((((w4.setCell ⟨w.heap.size + 1 + 1,2,none⟩ (.int .i64 0)).setCell ⟨w.heap.size + 1 + 1,3,none⟩ (.int .i64 0)).setCell ⟨w.heap.size + 1 + 1,4,none⟩ (.int .i64 0)).setCell ⟨w.heap.size + 1 + 1,5,none⟩ (.int .i64 0))):=((((H8.out.set_ (i:=2) (u:=.int .i64 0) (by omega) hfar).set_ (i:=3) (u:=.int .i64 0) (by omega) hfar).set_ (i:=4) (u:=.int .i64 0) (by omega) hfar).set_ (i:=5) (u:=.int .i64 0) (by omega) hfar)
 clear z0 fz0 c0_0 c0_1 c0_2 c0_3 c0_4 c0_5 c0_6 c0_7 c0_8 c0_9 c0_10 c0_11 c0_12 z1 fz1 c1_0 c1_1 c1_2 c1_3 c1_4 c1_5 c1_6 c1_7 c1_8 c1_9 c1_10 c1_11 c1_12 z2 c2_0 c2_1 c2_2 c2_3 c2_4 c2_5 c2_6 c2_7 c2_8 c2_9 c2_10 c2_11 c2_12
 clear H6 H8 hfar
 generalize ((((w4.setCell ⟨w.heap.size + 1 + 1,2,none⟩ (.int .i64 0)).setCell ⟨w.heap.size + 1 + 1,3,none⟩ (.int .i64 0)).setCell ⟨w.heap.size + 1 + 1,4,none⟩ (.int .i64 0)).setCell ⟨w.heap.size + 1 + 1,5,none⟩ (.int .i64 0)) = W10 at H9 ⊢
 have F11:=H9.out.sees
 simp only [sees,kBlk,kVar,cellsAt,Nat.reduceAdd] at F11
 obtain ⟨⟨⟨z0,fz0⟩,c0_0,c0_1,c0_2,c0_3,c0_4,c0_5,c0_6,c0_7,c0_8,c0_9,c0_10,c0_11,c0_12,-⟩,⟨⟨z1,fz1⟩,c1_0,c1_1,c1_2,c1_3,c1_4,c1_5,c1_6,c1_7,c1_8,c1_9,c1_10,c1_11,c1_12,-⟩,⟨z2,c2_0,c2_1,c2_2,c2_3,c2_4,c2_5,c2_6,c2_7,c2_8,c2_9,c2_10,c2_11,c2_12,-⟩,-⟩:=F11
 go_wp2_with fail
 have hK:=H9.out.get (kVar (w.heap.size + 1) 28 [.int .u8 0,.int .i64 0,.int .i64 0,.int .i64 0,.int .i64 0,.int .i64 0,.string ⟨#[]⟩,.int .u64 0,.int .u64 0,.int .u64 0,.int .u8 0,.int .u64 0,.int .i64 0]) (by simp)
 have hB:=H9.out.bel
 have hE:=((((((((((((((show Blk W10 (w.heap.size + 1) 28 _ from hK).set_ 0 (.int .u8 1)).set_ 1 (.int .i64 u)).set_ 2 (.int .i64 0)).set_ 3 (.int .i64 0)).set_ 4 (.int .i64 0)).set_ 5 (.int .i64 0)).set_ 6 (.string ⟨#[]⟩)).set_ 7 (.int .u64 0)).set_ 8 (.int .u64 0)).set_ 9 (.int .u64 0)).set_ 10 (.int .u8 0)).set_ 11 (.int .u64 0)).set_ 12 (.int .i64 0))
 have r0:=hE.cell 0
 have r1:=hE.cell 1
 have r2:=hE.cell 2
 have r3:=hE.cell 3
 have r4:=hE.cell 4
 have r5:=hE.cell 5
 have r6:=hE.cell 6
 have r7:=hE.cell 7
 have r8:=hE.cell 8
 have r9:=hE.cell 9
 have r10:=hE.cell 10
 have r11:=hE.cell 11
 have r12:=hE.cell 12
 simp at r0 r1 r2 r3 r4 r5 r6 r7 r8 r9 r10 r11 r12
 refine bodyPost_ret (v:=.agg #[.int .u8 1,.int .i64 u,.int .i64 0,.int .i64 0,.int .i64 0,.int .i64 0,.string ⟨#[]⟩,.int .u64 0,.int .u64 0,.int .u64 0,.int .u8 0,.int .u64 0,.int .i64 0]) (by simp [results,Tryz.results17,go_sem,r0,r1,r2,r3,r4,r5,r6,r7,r8,r9,r10,r11,r12]) rfl ⟨rfl,(((((((((((((hB.setCell (by simp) _).setCell (by simp) _).setCell (by simp) _).setCell (by simp) _).setCell (by simp) _).setCell (by simp) _).setCell (by simp) _).setCell (by simp) _).setCell (by simp) _).setCell (by simp) _).setCell (by simp) _).setCell (by simp) _).setCell (by simp) _)⟩
set_option maxRecDepth 100000 in
set_option maxHeartbeats 4000000 in
theorem plain_2 (u x1 y1 x2 y2 : Int) (inp : List UInt8) (a b c f t : Nat) (n : Int) (w : World) :
  Calls Tryz.prog 17 #[.agg #[.int .u8 2,.int .i64 u,.int .i64 x1,.int .i64 y1,.int .i64 x2,.int .i64 y2,.string ⟨inp.toArray⟩,.int .u64 (a : Nat),.int .u64 (b : Nat),.int .u64 (c : Nat),.int .u8 (f : Nat),.int .u64 (t : Nat),.int .i64 n]] w fun e w' => e = .returned (.agg #[.int .u8 2,.int .i64 u,.int .i64 0,.int .i64 0,.int .i64 0,.int .i64 0,.string ⟨#[]⟩,.int .u64 0,.int .u64 0,.int .u64 0,.int .u8 0,.int .u64 0,.int .i64 0]) ∧ Below w.heap.size w w':=by
 have H1:=Lib.hid ((((Ok.start w).alloc w.heap.size 28 [.int .u8 2,.int .i64 u,.int .i64 x1,.int .i64 y1,.int .i64 x2,.int .i64 y2,.string ⟨inp.toArray⟩,.int .u64 (a : Nat),.int .u64 (b : Nat),.int .u64 (c : Nat),.int .u8 (f : Nat),.int .u64 (t : Nat),.int .i64 n] rfl).var (w.heap.size + 1) 28 [.int .u8 0,.int .i64 0,.int .i64 0,.int .i64 0,.int .i64 0,.int .i64 0,.string ⟨#[]⟩,.int .u64 0,.int .u64 0,.int .u64 0,.int .u8 0,.int .u64 0,.int .i64 0] (by simp)).var (w.heap.size + 1 + 1) 28 [.int .u8 2,.int .i64 u,.int .i64 0,.int .i64 0,.int .i64 0,.int .i64 0,.string ⟨#[]⟩,.int .u64 0,.int .u64 0,.int .u64 0,.int .u8 0,.int .u64 0,.int .i64 0] (by simp))
 go_enter Tryz.func17,Tryz.ntmps17
 go_wp2_with fail
 generalize (((w.alloc (.cells #[.int .u8 2,.int .i64 u,.int .i64 x1,.int .i64 y1,.int .i64 x2,.int .i64 y2,.string ⟨inp.toArray⟩,.int .u64 (a : Nat),.int .u64 (b : Nat),.int .u64 (c : Nat),.int .u8 (f : Nat),.int .u64 (t : Nat),.int .i64 n] 28)).alloc (.cells #[.int .u8 0,.int .i64 0,.int .i64 0,.int .i64 0,.int .i64 0,.int .i64 0,.string ⟨#[]⟩,.int .u64 0,.int .u64 0,.int .u64 0,.int .u8 0,.int .u64 0,.int .i64 0] 28)).alloc (.cells #[.int .u8 2,.int .i64 u,.int .i64 0,.int .i64 0,.int .i64 0,.int .i64 0,.string ⟨#[]⟩,.int .u64 0,.int .u64 0,.int .u64 0,.int .u8 0,.int .u64 0,.int .i64 0] 28)) = W2 at H1 ⊢
 have F3:=H1.out.sees
 simp only [sees,kBlk,kVar,cellsAt,Nat.reduceAdd] at F3
 obtain ⟨⟨⟨z0,fz0⟩,c0_0,c0_1,c0_2,c0_3,c0_4,c0_5,c0_6,c0_7,c0_8,c0_9,c0_10,c0_11,c0_12,-⟩,⟨⟨z1,fz1⟩,c1_0,c1_1,c1_2,c1_3,c1_4,c1_5,c1_6,c1_7,c1_8,c1_9,c1_10,c1_11,c1_12,-⟩,⟨z2,c2_0,c2_1,c2_2,c2_3,c2_4,c2_5,c2_6,c2_7,c2_8,c2_9,c2_10,c2_11,c2_12,-⟩,-⟩:=F3
 refine (target_no 2 (by decide) u x1 y1 x2 y2 inp a b c f t n _).mono ?_
 rintro e w4 ⟨rfl,hb5⟩
 clear z0 fz0 c0_0 c0_1 c0_2 c0_3 c0_4 c0_5 c0_6 c0_7 c0_8 c0_9 c0_10 c0_11 c0_12 z1 fz1 c1_0 c1_1 c1_2 c1_3 c1_4 c1_5 c1_6 c1_7 c1_8 c1_9 c1_10 c1_11 c1_12 z2 c2_0 c2_1 c2_2 c2_3 c2_4 c2_5 c2_6 c2_7 c2_8 c2_9 c2_10 c2_11 c2_12
 have H6:=Lib.hid (H1.out.below hb5)
 clear hb5 H1
 have F7:=H6.out.sees
 simp only [sees,kBlk,kVar,cellsAt,Nat.reduceAdd] at F7
 obtain ⟨⟨⟨z0,fz0⟩,c0_0,c0_1,c0_2,c0_3,c0_4,c0_5,c0_6,c0_7,c0_8,c0_9,c0_10,c0_11,c0_12,-⟩,⟨⟨z1,fz1⟩,c1_0,c1_1,c1_2,c1_3,c1_4,c1_5,c1_6,c1_7,c1_8,c1_9,c1_10,c1_11,c1_12,-⟩,⟨z2,c2_0,c2_1,c2_2,c2_3,c2_4,c2_5,c2_6,c2_7,c2_8,c2_9,c2_10,c2_11,c2_12,-⟩,-⟩:=F7
 go_upto_region 6 with fail
 have H8:=Lib.hid (H6.out.drop [kVar (w.heap.size + 1 + 1) 28 [.int .u8 2,.int .i64 u,.int .i64 0,.int .i64 0,.int .i64 0,.int .i64 0,.string ⟨#[]⟩,.int .u64 0,.int .u64 0,.int .u64 0,.int .u8 0,.int .u64 0,.int .i64 0],kVar (w.heap.size + 1) 28 [.int .u8 0,.int .i64 0,.int .i64 0,.int .i64 0,.int .i64 0,.int .i64 0,.string ⟨#[]⟩,.int .u64 0,.int .u64 0,.int .u64 0,.int .u8 0,.int .u64 0,.int .i64 0],kBlk (w.heap.size) 28 [.int .u8 2,.int .i64 u,.int .i64 x1,.int .i64 y1,.int .i64 x2,.int .i64 y2,.string ⟨inp.toArray⟩,.int .u64 (a : Nat),.int .u64 (b : Nat),.int .u64 (c : Nat),.int .u8 (f : Nat),.int .u64 (t : Nat),.int .i64 n]] (by simp))
 have hfar : ∀ x ∈ [kVar (w.heap.size + 1) 28 [.int .u8 0,.int .i64 0,.int .i64 0,.int .i64 0,.int .i64 0,.int .i64 0,.string ⟨#[]⟩,.int .u64 0,.int .u64 0,.int .u64 0,.int .u8 0,.int .u64 0,.int .i64 0],kBlk (w.heap.size) 28 [.int .u8 2,.int .i64 u,.int .i64 x1,.int .i64 y1,.int .i64 x2,.int .i64 y2,.string ⟨inp.toArray⟩,.int .u64 (a : Nat),.int .u64 (b : Nat),.int .u64 (c : Nat),.int .u8 (f : Nat),.int .u64 (t : Nat),.int .i64 n]],x.far (some (w.heap.size + 1 + 1)):=by
  simp [kBlk,kVar]; omega
 have H9 : Hid (Ok w [kVar (w.heap.size + 1 + 1) 28 [.int .u8 2,.int .i64 u,.int .i64 0,.int .i64 0,.int .i64 0,.int .i64 0,.string ⟨#[]⟩,.int .u64 0,.int .u64 0,.int .u64 0,.int .u8 0,.int .u64 0,.int .i64 0],kVar (w.heap.size + 1) 28 [.int .u8 0,.int .i64 0,.int .i64 0,.int .i64 0,.int .i64 0,.int .i64 0,.string ⟨#[]⟩,.int .u64 0,.int .u64 0,.int .u64 0,.int .u8 0,.int .u64 0,.int .i64 0],kBlk (w.heap.size) 28 [.int .u8 2,.int .i64 u,.int .i64 x1,.int .i64 y1,.int .i64 x2,.int .i64 y2,.string ⟨inp.toArray⟩,.int .u64 (a : Nat),.int .u64 (b : Nat),.int .u64 (c : Nat),.int .u8 (f : Nat),.int .u64 (t : Nat),.int .i64 n]] ((((w4.setCell ⟨w.heap.size + 1 + 1,2,none⟩ (.int .i64 0)).setCell ⟨w.heap.size + 1 + 1,3,none⟩ (.int .i64 0)).setCell ⟨w.heap.size + 1 + 1,4,none⟩ (.int .i64 0)).setCell ⟨w.heap.size + 1 + 1,5,none⟩ (.int .i64 0))):=((((H8.out.set_ (i:=2) (u:=.int .i64 0) (by omega) hfar).set_ (i:=3) (u:=.int .i64 0) (by omega) hfar).set_ (i:=4) (u:=.int .i64 0) (by omega) hfar).set_ (i:=5) (u:=.int .i64 0) (by omega) hfar)
 clear z0 fz0 c0_0 c0_1 c0_2 c0_3 c0_4 c0_5 c0_6 c0_7 c0_8 c0_9 c0_10 c0_11 c0_12 z1 fz1 c1_0 c1_1 c1_2 c1_3 c1_4 c1_5 c1_6 c1_7 c1_8 c1_9 c1_10 c1_11 c1_12 z2 c2_0 c2_1 c2_2 c2_3 c2_4 c2_5 c2_6 c2_7 c2_8 c2_9 c2_10 c2_11 c2_12
 clear H6 H8 hfar
 generalize ((((w4.setCell ⟨w.heap.size + 1 + 1,2,none⟩ (.int .i64 0)).setCell ⟨w.heap.size + 1 + 1,3,none⟩ (.int .i64 0)).setCell ⟨w.heap.size + 1 + 1,4,none⟩ (.int .i64 0)).setCell ⟨w.heap.size + 1 + 1,5,none⟩ (.int .i64 0)) = W10 at H9 ⊢
 have F11:=H9.out.sees
 simp only [sees,kBlk,kVar,cellsAt,Nat.reduceAdd] at F11
 obtain ⟨⟨⟨z0,fz0⟩,c0_0,c0_1,c0_2,c0_3,c0_4,c0_5,c0_6,c0_7,c0_8,c0_9,c0_10,c0_11,c0_12,-⟩,⟨⟨z1,fz1⟩,c1_0,c1_1,c1_2,c1_3,c1_4,c1_5,c1_6,c1_7,c1_8,c1_9,c1_10,c1_11,c1_12,-⟩,⟨z2,c2_0,c2_1,c2_2,c2_3,c2_4,c2_5,c2_6,c2_7,c2_8,c2_9,c2_10,c2_11,c2_12,-⟩,-⟩:=F11
 go_wp2_with fail
 have hK:=H9.out.get (kVar (w.heap.size + 1) 28 [.int .u8 0,.int .i64 0,.int .i64 0,.int .i64 0,.int .i64 0,.int .i64 0,.string ⟨#[]⟩,.int .u64 0,.int .u64 0,.int .u64 0,.int .u8 0,.int .u64 0,.int .i64 0]) (by simp)
 have hB:=H9.out.bel
 have hE:=((((((((((((((show Blk W10 (w.heap.size + 1) 28 _ from hK).set_ 0 (.int .u8 2)).set_ 1 (.int .i64 u)).set_ 2 (.int .i64 0)).set_ 3 (.int .i64 0)).set_ 4 (.int .i64 0)).set_ 5 (.int .i64 0)).set_ 6 (.string ⟨#[]⟩)).set_ 7 (.int .u64 0)).set_ 8 (.int .u64 0)).set_ 9 (.int .u64 0)).set_ 10 (.int .u8 0)).set_ 11 (.int .u64 0)).set_ 12 (.int .i64 0))
 have r0:=hE.cell 0
 have r1:=hE.cell 1
 have r2:=hE.cell 2
 have r3:=hE.cell 3
 have r4:=hE.cell 4
 have r5:=hE.cell 5
 have r6:=hE.cell 6
 have r7:=hE.cell 7
 have r8:=hE.cell 8
 have r9:=hE.cell 9
 have r10:=hE.cell 10
 have r11:=hE.cell 11
 have r12:=hE.cell 12
 simp at r0 r1 r2 r3 r4 r5 r6 r7 r8 r9 r10 r11 r12
 refine bodyPost_ret (v:=.agg #[.int .u8 2,.int .i64 u,.int .i64 0,.int .i64 0,.int .i64 0,.int .i64 0,.string ⟨#[]⟩,.int .u64 0,.int .u64 0,.int .u64 0,.int .u8 0,.int .u64 0,.int .i64 0]) (by simp [results,Tryz.results17,go_sem,r0,r1,r2,r3,r4,r5,r6,r7,r8,r9,r10,r11,r12]) rfl ⟨rfl,(((((((((((((hB.setCell (by simp) _).setCell (by simp) _).setCell (by simp) _).setCell (by simp) _).setCell (by simp) _).setCell (by simp) _).setCell (by simp) _).setCell (by simp) _).setCell (by simp) _).setCell (by simp) _).setCell (by simp) _).setCell (by simp) _).setCell (by simp) _)⟩
set_option maxRecDepth 100000 in
set_option maxHeartbeats 4000000 in
theorem plain_3 (u x1 y1 x2 y2 : Int) (inp : List UInt8) (a b c f t : Nat) (n : Int) (w : World) :
  Calls Tryz.prog 17 #[.agg #[.int .u8 3,.int .i64 u,.int .i64 x1,.int .i64 y1,.int .i64 x2,.int .i64 y2,.string ⟨inp.toArray⟩,.int .u64 (a : Nat),.int .u64 (b : Nat),.int .u64 (c : Nat),.int .u8 (f : Nat),.int .u64 (t : Nat),.int .i64 n]] w fun e w' => e = .returned (.agg #[.int .u8 3,.int .i64 u,.int .i64 x1,.int .i64 y1,.int .i64 x2,.int .i64 y2,.string ⟨inp.toArray⟩,.int .u64 0,.int .u64 0,.int .u64 0,.int .u8 0,.int .u64 0,.int .i64 0]) ∧ Below w.heap.size w w':=by
 have H1:=Lib.hid ((((Ok.start w).alloc w.heap.size 28 [.int .u8 3,.int .i64 u,.int .i64 x1,.int .i64 y1,.int .i64 x2,.int .i64 y2,.string ⟨inp.toArray⟩,.int .u64 (a : Nat),.int .u64 (b : Nat),.int .u64 (c : Nat),.int .u8 (f : Nat),.int .u64 (t : Nat),.int .i64 n] rfl).var (w.heap.size + 1) 28 [.int .u8 0,.int .i64 0,.int .i64 0,.int .i64 0,.int .i64 0,.int .i64 0,.string ⟨#[]⟩,.int .u64 0,.int .u64 0,.int .u64 0,.int .u8 0,.int .u64 0,.int .i64 0] (by simp)).var (w.heap.size + 1 + 1) 28 [.int .u8 3,.int .i64 u,.int .i64 0,.int .i64 0,.int .i64 0,.int .i64 0,.string ⟨#[]⟩,.int .u64 0,.int .u64 0,.int .u64 0,.int .u8 0,.int .u64 0,.int .i64 0] (by simp))
 go_enter Tryz.func17,Tryz.ntmps17
 go_wp2_with fail
 generalize (((w.alloc (.cells #[.int .u8 3,.int .i64 u,.int .i64 x1,.int .i64 y1,.int .i64 x2,.int .i64 y2,.string ⟨inp.toArray⟩,.int .u64 (a : Nat),.int .u64 (b : Nat),.int .u64 (c : Nat),.int .u8 (f : Nat),.int .u64 (t : Nat),.int .i64 n] 28)).alloc (.cells #[.int .u8 0,.int .i64 0,.int .i64 0,.int .i64 0,.int .i64 0,.int .i64 0,.string ⟨#[]⟩,.int .u64 0,.int .u64 0,.int .u64 0,.int .u8 0,.int .u64 0,.int .i64 0] 28)).alloc (.cells #[.int .u8 3,.int .i64 u,.int .i64 0,.int .i64 0,.int .i64 0,.int .i64 0,.string ⟨#[]⟩,.int .u64 0,.int .u64 0,.int .u64 0,.int .u8 0,.int .u64 0,.int .i64 0] 28)) = W2 at H1 ⊢
 have F3:=H1.out.sees
 simp only [sees,kBlk,kVar,cellsAt,Nat.reduceAdd] at F3
 obtain ⟨⟨⟨z0,fz0⟩,c0_0,c0_1,c0_2,c0_3,c0_4,c0_5,c0_6,c0_7,c0_8,c0_9,c0_10,c0_11,c0_12,-⟩,⟨⟨z1,fz1⟩,c1_0,c1_1,c1_2,c1_3,c1_4,c1_5,c1_6,c1_7,c1_8,c1_9,c1_10,c1_11,c1_12,-⟩,⟨z2,c2_0,c2_1,c2_2,c2_3,c2_4,c2_5,c2_6,c2_7,c2_8,c2_9,c2_10,c2_11,c2_12,-⟩,-⟩:=F3
 refine (target_3 u x1 y1 x2 y2 inp a b c f t n _).mono ?_
 rintro e w4 ⟨rfl,hb5⟩
 clear z0 fz0 c0_0 c0_1 c0_2 c0_3 c0_4 c0_5 c0_6 c0_7 c0_8 c0_9 c0_10 c0_11 c0_12 z1 fz1 c1_0 c1_1 c1_2 c1_3 c1_4 c1_5 c1_6 c1_7 c1_8 c1_9 c1_10 c1_11 c1_12 z2 c2_0 c2_1 c2_2 c2_3 c2_4 c2_5 c2_6 c2_7 c2_8 c2_9 c2_10 c2_11 c2_12
 have H6:=Lib.hid (H1.out.below hb5)
 clear hb5 H1
 have F7:=H6.out.sees
 simp only [sees,kBlk,kVar,cellsAt,Nat.reduceAdd] at F7
 obtain ⟨⟨⟨z0,fz0⟩,c0_0,c0_1,c0_2,c0_3,c0_4,c0_5,c0_6,c0_7,c0_8,c0_9,c0_10,c0_11,c0_12,-⟩,⟨⟨z1,fz1⟩,c1_0,c1_1,c1_2,c1_3,c1_4,c1_5,c1_6,c1_7,c1_8,c1_9,c1_10,c1_11,c1_12,-⟩,⟨z2,c2_0,c2_1,c2_2,c2_3,c2_4,c2_5,c2_6,c2_7,c2_8,c2_9,c2_10,c2_11,c2_12,-⟩,-⟩:=F7
 go_upto_region 6 with fail
 have H8:=Lib.hid (H6.out.drop [kVar (w.heap.size + 1 + 1) 28 [.int .u8 3,.int .i64 u,.int .i64 0,.int .i64 0,.int .i64 0,.int .i64 0,.string ⟨#[]⟩,.int .u64 0,.int .u64 0,.int .u64 0,.int .u8 0,.int .u64 0,.int .i64 0],kVar (w.heap.size + 1) 28 [.int .u8 0,.int .i64 0,.int .i64 0,.int .i64 0,.int .i64 0,.int .i64 0,.string ⟨#[]⟩,.int .u64 0,.int .u64 0,.int .u64 0,.int .u8 0,.int .u64 0,.int .i64 0],kBlk (w.heap.size) 28 [.int .u8 3,.int .i64 u,.int .i64 x1,.int .i64 y1,.int .i64 x2,.int .i64 y2,.string ⟨inp.toArray⟩,.int .u64 (a : Nat),.int .u64 (b : Nat),.int .u64 (c : Nat),.int .u8 (f : Nat),.int .u64 (t : Nat),.int .i64 n]] (by simp))
 have hfar : ∀ x ∈ [kVar (w.heap.size + 1) 28 [.int .u8 0,.int .i64 0,.int .i64 0,.int .i64 0,.int .i64 0,.int .i64 0,.string ⟨#[]⟩,.int .u64 0,.int .u64 0,.int .u64 0,.int .u8 0,.int .u64 0,.int .i64 0],kBlk (w.heap.size) 28 [.int .u8 3,.int .i64 u,.int .i64 x1,.int .i64 y1,.int .i64 x2,.int .i64 y2,.string ⟨inp.toArray⟩,.int .u64 (a : Nat),.int .u64 (b : Nat),.int .u64 (c : Nat),.int .u8 (f : Nat),.int .u64 (t : Nat),.int .i64 n]],x.far (some (w.heap.size + 1 + 1)):=by
  simp [kBlk,kVar]; omega
 have H9 : Hid (Ok w [kVar (w.heap.size + 1 + 1) 28 [.int .u8 3,.int .i64 u,.int .i64 x1,.int .i64 y1,.int .i64 x2,.int .i64 y2,.string ⟨#[]⟩,.int .u64 0,.int .u64 0,.int .u64 0,.int .u8 0,.int .u64 0,.int .i64 0],kVar (w.heap.size + 1) 28 [.int .u8 0,.int .i64 0,.int .i64 0,.int .i64 0,.int .i64 0,.int .i64 0,.string ⟨#[]⟩,.int .u64 0,.int .u64 0,.int .u64 0,.int .u8 0,.int .u64 0,.int .i64 0],kBlk (w.heap.size) 28 [.int .u8 3,.int .i64 u,.int .i64 x1,.int .i64 y1,.int .i64 x2,.int .i64 y2,.string ⟨inp.toArray⟩,.int .u64 (a : Nat),.int .u64 (b : Nat),.int .u64 (c : Nat),.int .u8 (f : Nat),.int .u64 (t : Nat),.int .i64 n]] ((((w4.setCell ⟨w.heap.size + 1 + 1,2,none⟩ (.int .i64 x1)).setCell ⟨w.heap.size + 1 + 1,3,none⟩ (.int .i64 y1)).setCell ⟨w.heap.size + 1 + 1,4,none⟩ (.int .i64 x2)).setCell ⟨w.heap.size + 1 + 1,5,none⟩ (.int .i64 y2))):=((((H8.out.set_ (i:=2) (u:=.int .i64 x1) (by omega) hfar).set_ (i:=3) (u:=.int .i64 y1) (by omega) hfar).set_ (i:=4) (u:=.int .i64 x2) (by omega) hfar).set_ (i:=5) (u:=.int .i64 y2) (by omega) hfar)
 clear z0 fz0 c0_0 c0_1 c0_2 c0_3 c0_4 c0_5 c0_6 c0_7 c0_8 c0_9 c0_10 c0_11 c0_12 z1 fz1 c1_0 c1_1 c1_2 c1_3 c1_4 c1_5 c1_6 c1_7 c1_8 c1_9 c1_10 c1_11 c1_12 z2 c2_0 c2_1 c2_2 c2_3 c2_4 c2_5 c2_6 c2_7 c2_8 c2_9 c2_10 c2_11 c2_12
 clear H6 H8 hfar
 generalize ((((w4.setCell ⟨w.heap.size + 1 + 1,2,none⟩ (.int .i64 x1)).setCell ⟨w.heap.size + 1 + 1,3,none⟩ (.int .i64 y1)).setCell ⟨w.heap.size + 1 + 1,4,none⟩ (.int .i64 x2)).setCell ⟨w.heap.size + 1 + 1,5,none⟩ (.int .i64 y2)) = W10 at H9 ⊢
 have F11:=H9.out.sees
 simp only [sees,kBlk,kVar,cellsAt,Nat.reduceAdd] at F11
 obtain ⟨⟨⟨z0,fz0⟩,c0_0,c0_1,c0_2,c0_3,c0_4,c0_5,c0_6,c0_7,c0_8,c0_9,c0_10,c0_11,c0_12,-⟩,⟨⟨z1,fz1⟩,c1_0,c1_1,c1_2,c1_3,c1_4,c1_5,c1_6,c1_7,c1_8,c1_9,c1_10,c1_11,c1_12,-⟩,⟨z2,c2_0,c2_1,c2_2,c2_3,c2_4,c2_5,c2_6,c2_7,c2_8,c2_9,c2_10,c2_11,c2_12,-⟩,-⟩:=F11
 go_upto_region 15 with fail
 have H12:=Lib.hid (H9.out.drop [kVar (w.heap.size + 1 + 1) 28 [.int .u8 3,.int .i64 u,.int .i64 x1,.int .i64 y1,.int .i64 x2,.int .i64 y2,.string ⟨#[]⟩,.int .u64 0,.int .u64 0,.int .u64 0,.int .u8 0,.int .u64 0,.int .i64 0],kVar (w.heap.size + 1) 28 [.int .u8 0,.int .i64 0,.int .i64 0,.int .i64 0,.int .i64 0,.int .i64 0,.string ⟨#[]⟩,.int .u64 0,.int .u64 0,.int .u64 0,.int .u8 0,.int .u64 0,.int .i64 0],kBlk (w.heap.size) 28 [.int .u8 3,.int .i64 u,.int .i64 x1,.int .i64 y1,.int .i64 x2,.int .i64 y2,.string ⟨inp.toArray⟩,.int .u64 (a : Nat),.int .u64 (b : Nat),.int .u64 (c : Nat),.int .u8 (f : Nat),.int .u64 (t : Nat),.int .i64 n]] (by simp))
 have hfar : ∀ x ∈ [kVar (w.heap.size + 1) 28 [.int .u8 0,.int .i64 0,.int .i64 0,.int .i64 0,.int .i64 0,.int .i64 0,.string ⟨#[]⟩,.int .u64 0,.int .u64 0,.int .u64 0,.int .u8 0,.int .u64 0,.int .i64 0],kBlk (w.heap.size) 28 [.int .u8 3,.int .i64 u,.int .i64 x1,.int .i64 y1,.int .i64 x2,.int .i64 y2,.string ⟨inp.toArray⟩,.int .u64 (a : Nat),.int .u64 (b : Nat),.int .u64 (c : Nat),.int .u8 (f : Nat),.int .u64 (t : Nat),.int .i64 n]],x.far (some (w.heap.size + 1 + 1)):=by
  simp [kBlk,kVar]; omega
 have H13 : Hid (Ok w [kVar (w.heap.size + 1 + 1) 28 [.int .u8 3,.int .i64 u,.int .i64 x1,.int .i64 y1,.int .i64 x2,.int .i64 y2,.string ⟨inp.toArray⟩,.int .u64 0,.int .u64 0,.int .u64 0,.int .u8 0,.int .u64 0,.int .i64 0],kVar (w.heap.size + 1) 28 [.int .u8 0,.int .i64 0,.int .i64 0,.int .i64 0,.int .i64 0,.int .i64 0,.string ⟨#[]⟩,.int .u64 0,.int .u64 0,.int .u64 0,.int .u8 0,.int .u64 0,.int .i64 0],kBlk (w.heap.size) 28 [.int .u8 3,.int .i64 u,.int .i64 x1,.int .i64 y1,.int .i64 x2,.int .i64 y2,.string ⟨inp.toArray⟩,.int .u64 (a : Nat),.int .u64 (b : Nat),.int .u64 (c : Nat),.int .u8 (f : Nat),.int .u64 (t : Nat),.int .i64 n]] (W10.setCell ⟨w.heap.size + 1 + 1,6,none⟩ (.string ⟨inp.toArray⟩))):=(H12.out.set_ (i:=6) (u:=.string ⟨inp.toArray⟩) (by omega) hfar)
 clear z0 fz0 c0_0 c0_1 c0_2 c0_3 c0_4 c0_5 c0_6 c0_7 c0_8 c0_9 c0_10 c0_11 c0_12 z1 fz1 c1_0 c1_1 c1_2 c1_3 c1_4 c1_5 c1_6 c1_7 c1_8 c1_9 c1_10 c1_11 c1_12 z2 c2_0 c2_1 c2_2 c2_3 c2_4 c2_5 c2_6 c2_7 c2_8 c2_9 c2_10 c2_11 c2_12
 clear H9 H12 hfar
 generalize (W10.setCell ⟨w.heap.size + 1 + 1,6,none⟩ (.string ⟨inp.toArray⟩)) = W14 at H13 ⊢
 have F15:=H13.out.sees
 simp only [sees,kBlk,kVar,cellsAt,Nat.reduceAdd] at F15
 obtain ⟨⟨⟨z0,fz0⟩,c0_0,c0_1,c0_2,c0_3,c0_4,c0_5,c0_6,c0_7,c0_8,c0_9,c0_10,c0_11,c0_12,-⟩,⟨⟨z1,fz1⟩,c1_0,c1_1,c1_2,c1_3,c1_4,c1_5,c1_6,c1_7,c1_8,c1_9,c1_10,c1_11,c1_12,-⟩,⟨z2,c2_0,c2_1,c2_2,c2_3,c2_4,c2_5,c2_6,c2_7,c2_8,c2_9,c2_10,c2_11,c2_12,-⟩,-⟩:=F15
 go_wp2_with fail
 have hK:=H13.out.get (kVar (w.heap.size + 1) 28 [.int .u8 0,.int .i64 0,.int .i64 0,.int .i64 0,.int .i64 0,.int .i64 0,.string ⟨#[]⟩,.int .u64 0,.int .u64 0,.int .u64 0,.int .u8 0,.int .u64 0,.int .i64 0]) (by simp)
 have hB:=H13.out.bel
 have hE:=((((((((((((((show Blk W14 (w.heap.size + 1) 28 _ from hK).set_ 0 (.int .u8 3)).set_ 1 (.int .i64 u)).set_ 2 (.int .i64 x1)).set_ 3 (.int .i64 y1)).set_ 4 (.int .i64 x2)).set_ 5 (.int .i64 y2)).set_ 6 (.string ⟨inp.toArray⟩)).set_ 7 (.int .u64 0)).set_ 8 (.int .u64 0)).set_ 9 (.int .u64 0)).set_ 10 (.int .u8 0)).set_ 11 (.int .u64 0)).set_ 12 (.int .i64 0))
 have r0:=hE.cell 0
 have r1:=hE.cell 1
 have r2:=hE.cell 2
 have r3:=hE.cell 3
 have r4:=hE.cell 4
 have r5:=hE.cell 5
 have r6:=hE.cell 6
 have r7:=hE.cell 7
 have r8:=hE.cell 8
 have r9:=hE.cell 9
 have r10:=hE.cell 10
 have r11:=hE.cell 11
 have r12:=hE.cell 12
 simp at r0 r1 r2 r3 r4 r5 r6 r7 r8 r9 r10 r11 r12
 refine bodyPost_ret (v:=.agg #[.int .u8 3,.int .i64 u,.int .i64 x1,.int .i64 y1,.int .i64 x2,.int .i64 y2,.string ⟨inp.toArray⟩,.int .u64 0,.int .u64 0,.int .u64 0,.int .u8 0,.int .u64 0,.int .i64 0]) (by simp [results,Tryz.results17,go_sem,r0,r1,r2,r3,r4,r5,r6,r7,r8,r9,r10,r11,r12]) rfl ⟨rfl,(((((((((((((hB.setCell (by simp) _).setCell (by simp) _).setCell (by simp) _).setCell (by simp) _).setCell (by simp) _).setCell (by simp) _).setCell (by simp) _).setCell (by simp) _).setCell (by simp) _).setCell (by simp) _).setCell (by simp) _).setCell (by simp) _).setCell (by simp) _)⟩
set_option maxRecDepth 100000 in
set_option maxHeartbeats 4000000 in
theorem plain_4 (u x1 y1 x2 y2 : Int) (inp : List UInt8) (a b c f t : Nat) (n : Int) (w : World) :
  Calls Tryz.prog 17 #[.agg #[.int .u8 4,.int .i64 u,.int .i64 x1,.int .i64 y1,.int .i64 x2,.int .i64 y2,.string ⟨inp.toArray⟩,.int .u64 (a : Nat),.int .u64 (b : Nat),.int .u64 (c : Nat),.int .u8 (f : Nat),.int .u64 (t : Nat),.int .i64 n]] w fun e w' => e = .returned (.agg #[.int .u8 4,.int .i64 u,.int .i64 x1,.int .i64 y1,.int .i64 x2,.int .i64 y2,.string ⟨#[]⟩,.int .u64 0,.int .u64 0,.int .u64 0,.int .u8 0,.int .u64 0,.int .i64 0]) ∧ Below w.heap.size w w':=by
 have H1:=Lib.hid ((((Ok.start w).alloc w.heap.size 28 [.int .u8 4,.int .i64 u,.int .i64 x1,.int .i64 y1,.int .i64 x2,.int .i64 y2,.string ⟨inp.toArray⟩,.int .u64 (a : Nat),.int .u64 (b : Nat),.int .u64 (c : Nat),.int .u8 (f : Nat),.int .u64 (t : Nat),.int .i64 n] rfl).var (w.heap.size + 1) 28 [.int .u8 0,.int .i64 0,.int .i64 0,.int .i64 0,.int .i64 0,.int .i64 0,.string ⟨#[]⟩,.int .u64 0,.int .u64 0,.int .u64 0,.int .u8 0,.int .u64 0,.int .i64 0] (by simp)).var (w.heap.size + 1 + 1) 28 [.int .u8 4,.int .i64 u,.int .i64 0,.int .i64 0,.int .i64 0,.int .i64 0,.string ⟨#[]⟩,.int .u64 0,.int .u64 0,.int .u64 0,.int .u8 0,.int .u64 0,.int .i64 0] (by simp))
 go_enter Tryz.func17,Tryz.ntmps17
 go_wp2_with fail
 generalize (((w.alloc (.cells #[.int .u8 4,.int .i64 u,.int .i64 x1,.int .i64 y1,.int .i64 x2,.int .i64 y2,.string ⟨inp.toArray⟩,.int .u64 (a : Nat),.int .u64 (b : Nat),.int .u64 (c : Nat),.int .u8 (f : Nat),.int .u64 (t : Nat),.int .i64 n] 28)).alloc (.cells #[.int .u8 0,.int .i64 0,.int .i64 0,.int .i64 0,.int .i64 0,.int .i64 0,.string ⟨#[]⟩,.int .u64 0,.int .u64 0,.int .u64 0,.int .u8 0,.int .u64 0,.int .i64 0] 28)).alloc (.cells #[.int .u8 4,.int .i64 u,.int .i64 0,.int .i64 0,.int .i64 0,.int .i64 0,.string ⟨#[]⟩,.int .u64 0,.int .u64 0,.int .u64 0,.int .u8 0,.int .u64 0,.int .i64 0] 28)) = W2 at H1 ⊢
 have F3:=H1.out.sees
 simp only [sees,kBlk,kVar,cellsAt,Nat.reduceAdd] at F3
 obtain ⟨⟨⟨z0,fz0⟩,c0_0,c0_1,c0_2,c0_3,c0_4,c0_5,c0_6,c0_7,c0_8,c0_9,c0_10,c0_11,c0_12,-⟩,⟨⟨z1,fz1⟩,c1_0,c1_1,c1_2,c1_3,c1_4,c1_5,c1_6,c1_7,c1_8,c1_9,c1_10,c1_11,c1_12,-⟩,⟨z2,c2_0,c2_1,c2_2,c2_3,c2_4,c2_5,c2_6,c2_7,c2_8,c2_9,c2_10,c2_11,c2_12,-⟩,-⟩:=F3
 refine (target_4 u x1 y1 x2 y2 inp a b c f t n _).mono ?_
 rintro e w4 ⟨rfl,hb5⟩
 clear z0 fz0 c0_0 c0_1 c0_2 c0_3 c0_4 c0_5 c0_6 c0_7 c0_8 c0_9 c0_10 c0_11 c0_12 z1 fz1 c1_0 c1_1 c1_2 c1_3 c1_4 c1_5 c1_6 c1_7 c1_8 c1_9 c1_10 c1_11 c1_12 z2 c2_0 c2_1 c2_2 c2_3 c2_4 c2_5 c2_6 c2_7 c2_8 c2_9 c2_10 c2_11 c2_12
 have H6:=Lib.hid (H1.out.below hb5)
 clear hb5 H1
 have F7:=H6.out.sees
 simp only [sees,kBlk,kVar,cellsAt,Nat.reduceAdd] at F7
 obtain ⟨⟨⟨z0,fz0⟩,c0_0,c0_1,c0_2,c0_3,c0_4,c0_5,c0_6,c0_7,c0_8,c0_9,c0_10,c0_11,c0_12,-⟩,⟨⟨z1,fz1⟩,c1_0,c1_1,c1_2,c1_3,c1_4,c1_5,c1_6,c1_7,c1_8,c1_9,c1_10,c1_11,c1_12,-⟩,⟨z2,c2_0,c2_1,c2_2,c2_3,c2_4,c2_5,c2_6,c2_7,c2_8,c2_9,c2_10,c2_11,c2_12,-⟩,-⟩:=F7
 go_upto_region 6 with fail
 have H8:=Lib.hid (H6.out.drop [kVar (w.heap.size + 1 + 1) 28 [.int .u8 4,.int .i64 u,.int .i64 0,.int .i64 0,.int .i64 0,.int .i64 0,.string ⟨#[]⟩,.int .u64 0,.int .u64 0,.int .u64 0,.int .u8 0,.int .u64 0,.int .i64 0],kVar (w.heap.size + 1) 28 [.int .u8 0,.int .i64 0,.int .i64 0,.int .i64 0,.int .i64 0,.int .i64 0,.string ⟨#[]⟩,.int .u64 0,.int .u64 0,.int .u64 0,.int .u8 0,.int .u64 0,.int .i64 0],kBlk (w.heap.size) 28 [.int .u8 4,.int .i64 u,.int .i64 x1,.int .i64 y1,.int .i64 x2,.int .i64 y2,.string ⟨inp.toArray⟩,.int .u64 (a : Nat),.int .u64 (b : Nat),.int .u64 (c : Nat),.int .u8 (f : Nat),.int .u64 (t : Nat),.int .i64 n]] (by simp))
 have hfar : ∀ x ∈ [kVar (w.heap.size + 1) 28 [.int .u8 0,.int .i64 0,.int .i64 0,.int .i64 0,.int .i64 0,.int .i64 0,.string ⟨#[]⟩,.int .u64 0,.int .u64 0,.int .u64 0,.int .u8 0,.int .u64 0,.int .i64 0],kBlk (w.heap.size) 28 [.int .u8 4,.int .i64 u,.int .i64 x1,.int .i64 y1,.int .i64 x2,.int .i64 y2,.string ⟨inp.toArray⟩,.int .u64 (a : Nat),.int .u64 (b : Nat),.int .u64 (c : Nat),.int .u8 (f : Nat),.int .u64 (t : Nat),.int .i64 n]],x.far (some (w.heap.size + 1 + 1)):=by
  simp [kBlk,kVar]; omega
 have H9 : Hid (Ok w [kVar (w.heap.size + 1 + 1) 28 [.int .u8 4,.int .i64 u,.int .i64 x1,.int .i64 y1,.int .i64 x2,.int .i64 y2,.string ⟨#[]⟩,.int .u64 0,.int .u64 0,.int .u64 0,.int .u8 0,.int .u64 0,.int .i64 0],kVar (w.heap.size + 1) 28 [.int .u8 0,.int .i64 0,.int .i64 0,.int .i64 0,.int .i64 0,.int .i64 0,.string ⟨#[]⟩,.int .u64 0,.int .u64 0,.int .u64 0,.int .u8 0,.int .u64 0,.int .i64 0],kBlk (w.heap.size) 28 [.int .u8 4,.int .i64 u,.int .i64 x1,.int .i64 y1,.int .i64 x2,.int .i64 y2,.string ⟨inp.toArray⟩,.int .u64 (a : Nat),.int .u64 (b : Nat),.int .u64 (c : Nat),.int .u8 (f : Nat),.int .u64 (t : Nat),.int .i64 n]] ((((w4.setCell ⟨w.heap.size + 1 + 1,2,none⟩ (.int .i64 x1)).setCell ⟨w.heap.size + 1 + 1,3,none⟩ (.int .i64 y1)).setCell ⟨w.heap.size + 1 + 1,4,none⟩ (.int .i64 x2)).setCell ⟨w.heap.size + 1 + 1,5,none⟩ (.int .i64 y2))):=((((H8.out.set_ (i:=2) (u:=.int .i64 x1) (by omega) hfar).set_ (i:=3) (u:=.int .i64 y1) (by omega) hfar).set_ (i:=4) (u:=.int .i64 x2) (by omega) hfar).set_ (i:=5) (u:=.int .i64 y2) (by omega) hfar)
 clear z0 fz0 c0_0 c0_1 c0_2 c0_3 c0_4 c0_5 c0_6 c0_7 c0_8 c0_9 c0_10 c0_11 c0_12 z1 fz1 c1_0 c1_1 c1_2 c1_3 c1_4 c1_5 c1_6 c1_7 c1_8 c1_9 c1_10 c1_11 c1_12 z2 c2_0 c2_1 c2_2 c2_3 c2_4 c2_5 c2_6 c2_7 c2_8 c2_9 c2_10 c2_11 c2_12
 clear H6 H8 hfar
 generalize ((((w4.setCell ⟨w.heap.size + 1 + 1,2,none⟩ (.int .i64 x1)).setCell ⟨w.heap.size + 1 + 1,3,none⟩ (.int .i64 y1)).setCell ⟨w.heap.size + 1 + 1,4,none⟩ (.int .i64 x2)).setCell ⟨w.heap.size + 1 + 1,5,none⟩ (.int .i64 y2)) = W10 at H9 ⊢
 have F11:=H9.out.sees
 simp only [sees,kBlk,kVar,cellsAt,Nat.reduceAdd] at F11
 obtain ⟨⟨⟨z0,fz0⟩,c0_0,c0_1,c0_2,c0_3,c0_4,c0_5,c0_6,c0_7,c0_8,c0_9,c0_10,c0_11,c0_12,-⟩,⟨⟨z1,fz1⟩,c1_0,c1_1,c1_2,c1_3,c1_4,c1_5,c1_6,c1_7,c1_8,c1_9,c1_10,c1_11,c1_12,-⟩,⟨z2,c2_0,c2_1,c2_2,c2_3,c2_4,c2_5,c2_6,c2_7,c2_8,c2_9,c2_10,c2_11,c2_12,-⟩,-⟩:=F11
 go_wp2_with fail
 have hK:=H9.out.get (kVar (w.heap.size + 1) 28 [.int .u8 0,.int .i64 0,.int .i64 0,.int .i64 0,.int .i64 0,.int .i64 0,.string ⟨#[]⟩,.int .u64 0,.int .u64 0,.int .u64 0,.int .u8 0,.int .u64 0,.int .i64 0]) (by simp)
 have hB:=H9.out.bel
 have hE:=((((((((((((((show Blk W10 (w.heap.size + 1) 28 _ from hK).set_ 0 (.int .u8 4)).set_ 1 (.int .i64 u)).set_ 2 (.int .i64 x1)).set_ 3 (.int .i64 y1)).set_ 4 (.int .i64 x2)).set_ 5 (.int .i64 y2)).set_ 6 (.string ⟨#[]⟩)).set_ 7 (.int .u64 0)).set_ 8 (.int .u64 0)).set_ 9 (.int .u64 0)).set_ 10 (.int .u8 0)).set_ 11 (.int .u64 0)).set_ 12 (.int .i64 0))
 have r0:=hE.cell 0
 have r1:=hE.cell 1
 have r2:=hE.cell 2
 have r3:=hE.cell 3
 have r4:=hE.cell 4
 have r5:=hE.cell 5
 have r6:=hE.cell 6
 have r7:=hE.cell 7
 have r8:=hE.cell 8
 have r9:=hE.cell 9
 have r10:=hE.cell 10
 have r11:=hE.cell 11
 have r12:=hE.cell 12
 simp at r0 r1 r2 r3 r4 r5 r6 r7 r8 r9 r10 r11 r12
 refine bodyPost_ret (v:=.agg #[.int .u8 4,.int .i64 u,.int .i64 x1,.int .i64 y1,.int .i64 x2,.int .i64 y2,.string ⟨#[]⟩,.int .u64 0,.int .u64 0,.int .u64 0,.int .u8 0,.int .u64 0,.int .i64 0]) (by simp [results,Tryz.results17,go_sem,r0,r1,r2,r3,r4,r5,r6,r7,r8,r9,r10,r11,r12]) rfl ⟨rfl,(((((((((((((hB.setCell (by simp) _).setCell (by simp) _).setCell (by simp) _).setCell (by simp) _).setCell (by simp) _).setCell (by simp) _).setCell (by simp) _).setCell (by simp) _).setCell (by simp) _).setCell (by simp) _).setCell (by simp) _).setCell (by simp) _).setCell (by simp) _)⟩
set_option maxRecDepth 100000 in
set_option maxHeartbeats 4000000 in
theorem plain_5 (u x1 y1 x2 y2 : Int) (inp : List UInt8) (a b c f t : Nat) (n : Int) (w : World) :
  Calls Tryz.prog 17 #[.agg #[.int .u8 5,.int .i64 u,.int .i64 x1,.int .i64 y1,.int .i64 x2,.int .i64 y2,.string ⟨inp.toArray⟩,.int .u64 (a : Nat),.int .u64 (b : Nat),.int .u64 (c : Nat),.int .u8 (f : Nat),.int .u64 (t : Nat),.int .i64 n]] w fun e w' => e = .returned (.agg #[.int .u8 5,.int .i64 u,.int .i64 x1,.int .i64 y1,.int .i64 x2,.int .i64 y2,.string ⟨#[]⟩,.int .u64 0,.int .u64 0,.int .u64 0,.int .u8 0,.int .u64 0,.int .i64 0]) ∧ Below w.heap.size w w':=by
 have H1:=Lib.hid ((((Ok.start w).alloc w.heap.size 28 [.int .u8 5,.int .i64 u,.int .i64 x1,.int .i64 y1,.int .i64 x2,.int .i64 y2,.string ⟨inp.toArray⟩,.int .u64 (a : Nat),.int .u64 (b : Nat),.int .u64 (c : Nat),.int .u8 (f : Nat),.int .u64 (t : Nat),.int .i64 n] rfl).var (w.heap.size + 1) 28 [.int .u8 0,.int .i64 0,.int .i64 0,.int .i64 0,.int .i64 0,.int .i64 0,.string ⟨#[]⟩,.int .u64 0,.int .u64 0,.int .u64 0,.int .u8 0,.int .u64 0,.int .i64 0] (by simp)).var (w.heap.size + 1 + 1) 28 [.int .u8 5,.int .i64 u,.int .i64 0,.int .i64 0,.int .i64 0,.int .i64 0,.string ⟨#[]⟩,.int .u64 0,.int .u64 0,.int .u64 0,.int .u8 0,.int .u64 0,.int .i64 0] (by simp))
 go_enter Tryz.func17,Tryz.ntmps17
 go_wp2_with fail
 generalize (((w.alloc (.cells #[.int .u8 5,.int .i64 u,.int .i64 x1,.int .i64 y1,.int .i64 x2,.int .i64 y2,.string ⟨inp.toArray⟩,.int .u64 (a : Nat),.int .u64 (b : Nat),.int .u64 (c : Nat),.int .u8 (f : Nat),.int .u64 (t : Nat),.int .i64 n] 28)).alloc (.cells #[.int .u8 0,.int .i64 0,.int .i64 0,.int .i64 0,.int .i64 0,.int .i64 0,.string ⟨#[]⟩,.int .u64 0,.int .u64 0,.int .u64 0,.int .u8 0,.int .u64 0,.int .i64 0] 28)).alloc (.cells #[.int .u8 5,.int .i64 u,.int .i64 0,.int .i64 0,.int .i64 0,.int .i64 0,.string ⟨#[]⟩,.int .u64 0,.int .u64 0,.int .u64 0,.int .u8 0,.int .u64 0,.int .i64 0] 28)) = W2 at H1 ⊢
 have F3:=H1.out.sees
 simp only [sees,kBlk,kVar,cellsAt,Nat.reduceAdd] at F3
 obtain ⟨⟨⟨z0,fz0⟩,c0_0,c0_1,c0_2,c0_3,c0_4,c0_5,c0_6,c0_7,c0_8,c0_9,c0_10,c0_11,c0_12,-⟩,⟨⟨z1,fz1⟩,c1_0,c1_1,c1_2,c1_3,c1_4,c1_5,c1_6,c1_7,c1_8,c1_9,c1_10,c1_11,c1_12,-⟩,⟨z2,c2_0,c2_1,c2_2,c2_3,c2_4,c2_5,c2_6,c2_7,c2_8,c2_9,c2_10,c2_11,c2_12,-⟩,-⟩:=F3
 refine (target_5 u x1 y1 x2 y2 inp a b c f t n _).mono ?_
 rintro e w4 ⟨rfl,hb5⟩
 clear z0 fz0 c0_0 c0_1 c0_2 c0_3 c0_4 c0_5 c0_6 c0_7 c0_8 c0_9 c0_10 c0_11 c0_12 z1 fz1 c1_0 c1_1 c1_2 c1_3 c1_4 c1_5 c1_6 c1_7 c1_8 c1_9 c1_10 c1_11 c1_12 z2 c2_0 c2_1 c2_2 c2_3 c2_4 c2_5 c2_6 c2_7 c2_8 c2_9 c2_10 c2_11 c2_12
 have H6:=Lib.hid (H1.out.below hb5)
 clear hb5 H1
 have F7:=H6.out.sees
 simp only [sees,kBlk,kVar,cellsAt,Nat.reduceAdd] at F7
 obtain ⟨⟨⟨z0,fz0⟩,c0_0,c0_1,c0_2,c0_3,c0_4,c0_5,c0_6,c0_7,c0_8,c0_9,c0_10,c0_11,c0_12,-⟩,⟨⟨z1,fz1⟩,c1_0,c1_1,c1_2,c1_3,c1_4,c1_5,c1_6,c1_7,c1_8,c1_9,c1_10,c1_11,c1_12,-⟩,⟨z2,c2_0,c2_1,c2_2,c2_3,c2_4,c2_5,c2_6,c2_7,c2_8,c2_9,c2_10,c2_11,c2_12,-⟩,-⟩:=F7
 go_upto_region 6 with fail
 have H8:=Lib.hid (H6.out.drop [kVar (w.heap.size + 1 + 1) 28 [.int .u8 5,.int .i64 u,.int .i64 0,.int .i64 0,.int .i64 0,.int .i64 0,.string ⟨#[]⟩,.int .u64 0,.int .u64 0,.int .u64 0,.int .u8 0,.int .u64 0,.int .i64 0],kVar (w.heap.size + 1) 28 [.int .u8 0,.int .i64 0,.int .i64 0,.int .i64 0,.int .i64 0,.int .i64 0,.string ⟨#[]⟩,.int .u64 0,.int .u64 0,.int .u64 0,.int .u8 0,.int .u64 0,.int .i64 0],kBlk (w.heap.size) 28 [.int .u8 5,.int .i64 u,.int .i64 x1,.int .i64 y1,.int .i64 x2,.int .i64 y2,.string ⟨inp.toArray⟩,.int .u64 (a : Nat),.int .u64 (b : Nat),.int .u64 (c : Nat),.int .u8 (f : Nat),.int .u64 (t : Nat),.int .i64 n]] (by simp))
 have hfar : ∀ x ∈ [kVar (w.heap.size + 1) 28 [.int .u8 0,.int .i64 0,.int .i64 0,.int .i64 0,.int .i64 0,.int .i64 0,.string ⟨#[]⟩,.int .u64 0,.int .u64 0,.int .u64 0,.int .u8 0,.int .u64 0,.int .i64 0],kBlk (w.heap.size) 28 [.int .u8 5,.int .i64 u,.int .i64 x1,.int .i64 y1,.int .i64 x2,.int .i64 y2,.string ⟨inp.toArray⟩,.int .u64 (a : Nat),.int .u64 (b : Nat),.int .u64 (c : Nat),.int .u8 (f : Nat),.int .u64 (t : Nat),.int .i64 n]],x.far (some (w.heap.size + 1 + 1)):=by
  simp [kBlk,kVar]; omega
 have H9 : Hid (Ok w [kVar (w.heap.size + 1 + 1) 28 [.int .u8 5,.int .i64 u,.int .i64 x1,.int .i64 y1,.int .i64 x2,.int .i64 y2,.string ⟨#[]⟩,.int .u64 0,.int .u64 0,.int .u64 0,.int .u8 0,.int .u64 0,.int .i64 0],kVar (w.heap.size + 1) 28 [.int .u8 0,.int .i64 0,.int .i64 0,.int .i64 0,.int .i64 0,.int .i64 0,.string ⟨#[]⟩,.int .u64 0,.int .u64 0,.int .u64 0,.int .u8 0,.int .u64 0,.int .i64 0],kBlk (w.heap.size) 28 [.int .u8 5,.int .i64 u,.int .i64 x1,.int .i64 y1,.int .i64 x2,.int .i64 y2,.string ⟨inp.toArray⟩,.int .u64 (a : Nat),.int .u64 (b : Nat),.int .u64 (c : Nat),.int .u8 (f : Nat),.int .u64 (t : Nat),.int .i64 n]] ((((w4.setCell ⟨w.heap.size + 1 + 1,2,none⟩ (.int .i64 x1)).setCell ⟨w.heap.size + 1 + 1,3,none⟩ (.int .i64 y1)).setCell ⟨w.heap.size + 1 + 1,4,none⟩ (.int .i64 x2)).setCell ⟨w.heap.size + 1 + 1,5,none⟩ (.int .i64 y2))):=((((H8.out.set_ (i:=2) (u:=.int .i64 x1) (by omega) hfar).set_ (i:=3) (u:=.int .i64 y1) (by omega) hfar).set_ (i:=4) (u:=.int .i64 x2) (by omega) hfar).set_ (i:=5) (u:=.int .i64 y2) (by omega) hfar)
 clear z0 fz0 c0_0 c0_1 c0_2 c0_3 c0_4 c0_5 c0_6 c0_7 c0_8 c0_9 c0_10 c0_11 c0_12 z1 fz1 c1_0 c1_1 c1_2 c1_3 c1_4 c1_5 c1_6 c1_7 c1_8 c1_9 c1_10 c1_11 c1_12 z2 c2_0 c2_1 c2_2 c2_3 c2_4 c2_5 c2_6 c2_7 c2_8 c2_9 c2_10 c2_11 c2_12
 clear H6 H8 hfar
 generalize ((((w4.setCell ⟨w.heap.size + 1 + 1,2,none⟩ (.int .i64 x1)).setCell ⟨w.heap.size + 1 + 1,3,none⟩ (.int .i64 y1)).setCell ⟨w.heap.size + 1 + 1,4,none⟩ (.int .i64 x2)).setCell ⟨w.heap.size + 1 + 1,5,none⟩ (.int .i64 y2)) = W10 at H9 ⊢
 have F11:=H9.out.sees
 simp only [sees,kBlk,kVar,cellsAt,Nat.reduceAdd] at F11
 obtain ⟨⟨⟨z0,fz0⟩,c0_0,c0_1,c0_2,c0_3,c0_4,c0_5,c0_6,c0_7,c0_8,c0_9,c0_10,c0_11,c0_12,-⟩,⟨⟨z1,fz1⟩,c1_0,c1_1,c1_2,c1_3,c1_4,c1_5,c1_6,c1_7,c1_8,c1_9,c1_10,c1_11,c1_12,-⟩,⟨z2,c2_0,c2_1,c2_2,c2_3,c2_4,c2_5,c2_6,c2_7,c2_8,c2_9,c2_10,c2_11,c2_12,-⟩,-⟩:=F11
 go_wp2_with fail
 have hK:=H9.out.get (kVar (w.heap.size + 1) 28 [.int .u8 0,.int .i64 0,.int .i64 0,.int .i64 0,.int .i64 0,.int .i64 0,.string ⟨#[]⟩,.int .u64 0,.int .u64 0,.int .u64 0,.int .u8 0,.int .u64 0,.int .i64 0]) (by simp)
 have hB:=H9.out.bel
 have hE:=((((((((((((((show Blk W10 (w.heap.size + 1) 28 _ from hK).set_ 0 (.int .u8 5)).set_ 1 (.int .i64 u)).set_ 2 (.int .i64 x1)).set_ 3 (.int .i64 y1)).set_ 4 (.int .i64 x2)).set_ 5 (.int .i64 y2)).set_ 6 (.string ⟨#[]⟩)).set_ 7 (.int .u64 0)).set_ 8 (.int .u64 0)).set_ 9 (.int .u64 0)).set_ 10 (.int .u8 0)).set_ 11 (.int .u64 0)).set_ 12 (.int .i64 0))
 have r0:=hE.cell 0
 have r1:=hE.cell 1
 have r2:=hE.cell 2
 have r3:=hE.cell 3
 have r4:=hE.cell 4
 have r5:=hE.cell 5
 have r6:=hE.cell 6
 have r7:=hE.cell 7
 have r8:=hE.cell 8
 have r9:=hE.cell 9
 have r10:=hE.cell 10
 have r11:=hE.cell 11
 have r12:=hE.cell 12
 simp at r0 r1 r2 r3 r4 r5 r6 r7 r8 r9 r10 r11 r12
 refine bodyPost_ret (v:=.agg #[.int .u8 5,.int .i64 u,.int .i64 x1,.int .i64 y1,.int .i64 x2,.int .i64 y2,.string ⟨#[]⟩,.int .u64 0,.int .u64 0,.int .u64 0,.int .u8 0,.int .u64 0,.int .i64 0]) (by simp [results,Tryz.results17,go_sem,r0,r1,r2,r3,r4,r5,r6,r7,r8,r9,r10,r11,r12]) rfl ⟨rfl,(((((((((((((hB.setCell (by simp) _).setCell (by simp) _).setCell (by simp) _).setCell (by simp) _).setCell (by simp) _).setCell (by simp) _).setCell (by simp) _).setCell (by simp) _).setCell (by simp) _).setCell (by simp) _).setCell (by simp) _).setCell (by simp) _).setCell (by simp) _)⟩
end Go.Proofs.YtjbimcdofenmdaaGreatDoor
