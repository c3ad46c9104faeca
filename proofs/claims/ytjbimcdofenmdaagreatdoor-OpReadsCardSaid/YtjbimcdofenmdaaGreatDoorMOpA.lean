/- Contracts of op.Target, Mutates, Plain, words and Check. -/
import Derived.Test.YtjbimcdofenmdaaGreatDoorMGrpR
import Derived.Test.YtjbimcdofenmdaaGreatDoorMOk
import Derived.Deep.Cut
import Derived.Deep.DeepCutAuto
namespace Go.Proofs.YtjbimcdofenmdaaGreatDoor
open Go.RowKit
set_option maxRecDepth 100000 in
set_option maxHeartbeats 4000000 in
theorem target_3 (u x1 y1 x2 y2 : Int) (inp : List UInt8) (a b c f t : Nat) (n : Int) (w : World) :
  Calls Tryz.prog 9 #[.agg #[.int .u8 3,.int .i64 u,.int .i64 x1,.int .i64 y1,.int .i64 x2,.int .i64 y2,.string ⟨inp.toArray⟩,.int .u64 (a : Nat),.int .u64 (b : Nat),.int .u64 (c : Nat),.int .u8 (f : Nat),.int .u64 (t : Nat),.int .i64 n]] w fun e w' => e = .returned (.tuple #[.agg #[.int .i64 x1,.int .i64 y1,.int .i64 x2,.int .i64 y2],.bool true]) ∧ Below w.heap.size w w':=by
 have H1:=Lib.hid (((Ok.start w).alloc w.heap.size 28 [.int .u8 3,.int .i64 u,.int .i64 x1,.int .i64 y1,.int .i64 x2,.int .i64 y2,.string ⟨inp.toArray⟩,.int .u64 (a : Nat),.int .u64 (b : Nat),.int .u64 (c : Nat),.int .u8 (f : Nat),.int .u64 (t : Nat),.int .i64 n] rfl).var (w.heap.size + 1) 23 [.int .i64 0,.int .i64 0,.int .i64 0,.int .i64 0] (by simp))
 go_enter Tryz.func9,Tryz.ntmps9
 go_upto_region 1 with fail
 generalize ((w.alloc (.cells #[.int .u8 3,.int .i64 u,.int .i64 x1,.int .i64 y1,.int .i64 x2,.int .i64 y2,.string ⟨inp.toArray⟩,.int .u64 (a : Nat),.int .u64 (b : Nat),.int .u64 (c : Nat),.int .u8 (f : Nat),.int .u64 (t : Nat),.int .i64 n] 28)).alloc (.cells #[.int .i64 0,.int .i64 0,.int .i64 0,.int .i64 0] 23)) = W2 at H1 ⊢
 have F3:=H1.out.sees
 simp only [sees,kBlk,kVar,cellsAt,Nat.reduceAdd] at F3
 obtain ⟨⟨⟨z0,fz0⟩,c0_0,c0_1,c0_2,c0_3,-⟩,⟨z1,c1_0,c1_1,c1_2,c1_3,c1_4,c1_5,c1_6,c1_7,c1_8,c1_9,c1_10,c1_11,c1_12,-⟩,-⟩:=F3
 go_wp2_with fail
 have hK:=H1.out.get (kVar (w.heap.size + 1) 23 [.int .i64 0,.int .i64 0,.int .i64 0,.int .i64 0]) (by simp)
 have hB:=H1.out.bel
 have hE:=(((((show Blk W2 (w.heap.size + 1) 23 _ from hK).set_ 0 (.int .i64 x1)).set_ 1 (.int .i64 y1)).set_ 2 (.int .i64 x2)).set_ 3 (.int .i64 y2))
 have r0:=hE.cell 0
 have r1:=hE.cell 1
 have r2:=hE.cell 2
 have r3:=hE.cell 3
 simp at r0 r1 r2 r3
 refine bodyPost_ret (v:=.tuple #[.agg #[.int .i64 x1,.int .i64 y1,.int .i64 x2,.int .i64 y2],.bool true]) (by simp [results,Tryz.results9,go_sem,r0,r1,r2,r3]) rfl ⟨rfl,((((hB.setCell (by simp) _).setCell (by simp) _).setCell (by simp) _).setCell (by simp) _)⟩
set_option maxRecDepth 100000 in
set_option maxHeartbeats 4000000 in
theorem target_4 (u x1 y1 x2 y2 : Int) (inp : List UInt8) (a b c f t : Nat) (n : Int) (w : World) :
  Calls Tryz.prog 9 #[.agg #[.int .u8 4,.int .i64 u,.int .i64 x1,.int .i64 y1,.int .i64 x2,.int .i64 y2,.string ⟨inp.toArray⟩,.int .u64 (a : Nat),.int .u64 (b : Nat),.int .u64 (c : Nat),.int .u8 (f : Nat),.int .u64 (t : Nat),.int .i64 n]] w fun e w' => e = .returned (.tuple #[.agg #[.int .i64 x1,.int .i64 y1,.int .i64 x2,.int .i64 y2],.bool true]) ∧ Below w.heap.size w w':=by
 have H1:=Lib.hid (((Ok.start w).alloc w.heap.size 28 [.int .u8 4,.int .i64 u,.int .i64 x1,.int .i64 y1,.int .i64 x2,.int .i64 y2,.string ⟨inp.toArray⟩,.int .u64 (a : Nat),.int .u64 (b : Nat),.int .u64 (c : Nat),.int .u8 (f : Nat),.int .u64 (t : Nat),.int .i64 n] rfl).var (w.heap.size + 1) 23 [.int .i64 0,.int .i64 0,.int .i64 0,.int .i64 0] (by simp))
 go_enter Tryz.func9,Tryz.ntmps9
 go_upto_region 1 with fail
 generalize ((w.alloc (.cells #[.int .u8 4,.int .i64 u,.int .i64 x1,.int .i64 y1,.int .i64 x2,.int .i64 y2,.string ⟨inp.toArray⟩,.int .u64 (a : Nat),.int .u64 (b : Nat),.int .u64 (c : Nat),.int .u8 (f : Nat),.int .u64 (t : Nat),.int .i64 n] 28)).alloc (.cells #[.int .i64 0,.int .i64 0,.int .i64 0,.int .i64 0] 23)) = W2 at H1 ⊢
 have F3:=H1.out.sees
 simp only [sees,kBlk,kVar,cellsAt,Nat.reduceAdd] at F3
 obtain ⟨⟨⟨z0,fz0⟩,c0_0,c0_1,c0_2,c0_3,-⟩,⟨z1,c1_0,c1_1,c1_2,c1_3,c1_4,c1_5,c1_6,c1_7,c1_8,c1_9,c1_10,c1_11,c1_12,-⟩,-⟩:=F3
 go_wp2_with fail
 have hK:=H1.out.get (kVar (w.heap.size + 1) 23 [.int .i64 0,.int .i64 0,.int .i64 0,.int .i64 0]) (by simp)
 have hB:=H1.out.bel
 have hE:=(((((show Blk W2 (w.heap.size + 1) 23 _ from hK).set_ 0 (.int .i64 x1)).set_ 1 (.int .i64 y1)).set_ 2 (.int .i64 x2)).set_ 3 (.int .i64 y2))
 have r0:=hE.cell 0
 have r1:=hE.cell 1
 have r2:=hE.cell 2
 have r3:=hE.cell 3
 simp at r0 r1 r2 r3
 refine bodyPost_ret (v:=.tuple #[.agg #[.int .i64 x1,.int .i64 y1,.int .i64 x2,.int .i64 y2],.bool true]) (by simp [results,Tryz.results9,go_sem,r0,r1,r2,r3]) rfl ⟨rfl,((((hB.setCell (by simp) _).setCell (by simp) _).setCell (by simp) _).setCell (by simp) _)⟩
set_option maxRecDepth 100000 in
set_option maxHeartbeats 4000000 in
theorem target_5 (u x1 y1 x2 y2 : Int) (inp : List UInt8) (a b c f t : Nat) (n : Int) (w : World) :
  Calls Tryz.prog 9 #[.agg #[.int .u8 5,.int .i64 u,.int .i64 x1,.int .i64 y1,.int .i64 x2,.int .i64 y2,.string ⟨inp.toArray⟩,.int .u64 (a : Nat),.int .u64 (b : Nat),.int .u64 (c : Nat),.int .u8 (f : Nat),.int .u64 (t : Nat),.int .i64 n]] w fun e w' => e = .returned (.tuple #[.agg #[.int .i64 x1,.int .i64 y1,.int .i64 x2,.int .i64 y2],.bool true]) ∧ Below w.heap.size w w':=by
 have H1:=Lib.hid (((Ok.start w).alloc w.heap.size 28 [.int .u8 5,.int .i64 u,.int .i64 x1,.int .i64 y1,.int .i64 x2,.int .i64 y2,.string ⟨inp.toArray⟩,.int .u64 (a : Nat),.int .u64 (b : Nat),.int .u64 (c : Nat),.int .u8 (f : Nat),.int .u64 (t : Nat),.int .i64 n] rfl).var (w.heap.size + 1) 23 [.int .i64 0,.int .i64 0,.int .i64 0,.int .i64 0] (by simp))
 go_enter Tryz.func9,Tryz.ntmps9
 go_upto_region 1 with fail
 generalize ((w.alloc (.cells #[.int .u8 5,.int .i64 u,.int .i64 x1,.int .i64 y1,.int .i64 x2,.int .i64 y2,.string ⟨inp.toArray⟩,.int .u64 (a : Nat),.int .u64 (b : Nat),.int .u64 (c : Nat),.int .u8 (f : Nat),.int .u64 (t : Nat),.int .i64 n] 28)).alloc (.cells #[.int .i64 0,.int .i64 0,.int .i64 0,.int .i64 0] 23)) = W2 at H1 ⊢
 have F3:=H1.out.sees
 simp only [sees,kBlk,kVar,cellsAt,Nat.reduceAdd] at F3
 obtain ⟨⟨⟨z0,fz0⟩,c0_0,c0_1,c0_2,c0_3,-⟩,⟨z1,c1_0,c1_1,c1_2,c1_3,c1_4,c1_5,c1_6,c1_7,c1_8,c1_9,c1_10,c1_11,c1_12,-⟩,-⟩:=F3
 go_wp2_with fail
 have hK:=H1.out.get (kVar (w.heap.size + 1) 23 [.int .i64 0,.int .i64 0,.int .i64 0,.int .i64 0]) (by simp)
 have hB:=H1.out.bel
 have hE:=(((((show Blk W2 (w.heap.size + 1) 23 _ from hK).set_ 0 (.int .i64 x1)).set_ 1 (.int .i64 y1)).set_ 2 (.int .i64 x2)).set_ 3 (.int .i64 y2))
 have r0:=hE.cell 0
 have r1:=hE.cell 1
 have r2:=hE.cell 2
 have r3:=hE.cell 3
 simp at r0 r1 r2 r3
 refine bodyPost_ret (v:=.tuple #[.agg #[.int .i64 x1,.int .i64 y1,.int .i64 x2,.int .i64 y2],.bool true]) (by simp [results,Tryz.results9,go_sem,r0,r1,r2,r3]) rfl ⟨rfl,((((hB.setCell (by simp) _).setCell (by simp) _).setCell (by simp) _).setCell (by simp) _)⟩
set_option maxRecDepth 100000 in
set_option maxHeartbeats 4000000 in
theorem target_6 (u x1 y1 x2 y2 : Int) (inp : List UInt8) (a b c f t : Nat) (n : Int) (w : World) :
  Calls Tryz.prog 9 #[.agg #[.int .u8 6,.int .i64 u,.int .i64 x1,.int .i64 y1,.int .i64 x2,.int .i64 y2,.string ⟨inp.toArray⟩,.int .u64 (a : Nat),.int .u64 (b : Nat),.int .u64 (c : Nat),.int .u8 (f : Nat),.int .u64 (t : Nat),.int .i64 n]] w fun e w' => e = .returned (.tuple #[.agg #[.int .i64 x1,.int .i64 y1,.int .i64 x2,.int .i64 y2],.bool true]) ∧ Below w.heap.size w w':=by
 have H1:=Lib.hid (((Ok.start w).alloc w.heap.size 28 [.int .u8 6,.int .i64 u,.int .i64 x1,.int .i64 y1,.int .i64 x2,.int .i64 y2,.string ⟨inp.toArray⟩,.int .u64 (a : Nat),.int .u64 (b : Nat),.int .u64 (c : Nat),.int .u8 (f : Nat),.int .u64 (t : Nat),.int .i64 n] rfl).var (w.heap.size + 1) 23 [.int .i64 0,.int .i64 0,.int .i64 0,.int .i64 0] (by simp))
 go_enter Tryz.func9,Tryz.ntmps9
 go_upto_region 1 with fail
 generalize ((w.alloc (.cells #[.int .u8 6,.int .i64 u,.int .i64 x1,.int .i64 y1,.int .i64 x2,.int .i64 y2,.string ⟨inp.toArray⟩,.int .u64 (a : Nat),.int .u64 (b : Nat),.int .u64 (c : Nat),.int .u8 (f : Nat),.int .u64 (t : Nat),.int .i64 n] 28)).alloc (.cells #[.int .i64 0,.int .i64 0,.int .i64 0,.int .i64 0] 23)) = W2 at H1 ⊢
 have F3:=H1.out.sees
 simp only [sees,kBlk,kVar,cellsAt,Nat.reduceAdd] at F3
 obtain ⟨⟨⟨z0,fz0⟩,c0_0,c0_1,c0_2,c0_3,-⟩,⟨z1,c1_0,c1_1,c1_2,c1_3,c1_4,c1_5,c1_6,c1_7,c1_8,c1_9,c1_10,c1_11,c1_12,-⟩,-⟩:=F3
 go_wp2_with fail
 have hK:=H1.out.get (kVar (w.heap.size + 1) 23 [.int .i64 0,.int .i64 0,.int .i64 0,.int .i64 0]) (by simp)
 have hB:=H1.out.bel
 have hE:=(((((show Blk W2 (w.heap.size + 1) 23 _ from hK).set_ 0 (.int .i64 x1)).set_ 1 (.int .i64 y1)).set_ 2 (.int .i64 x2)).set_ 3 (.int .i64 y2))
 have r0:=hE.cell 0
 have r1:=hE.cell 1
 have r2:=hE.cell 2
 have r3:=hE.cell 3
 simp at r0 r1 r2 r3
 refine bodyPost_ret (v:=.tuple #[.agg #[.int .i64 x1,.int .i64 y1,.int .i64 x2,.int .i64 y2],.bool true]) (by simp [results,Tryz.results9,go_sem,r0,r1,r2,r3]) rfl ⟨rfl,((((hB.setCell (by simp) _).setCell (by simp) _).setCell (by simp) _).setCell (by simp) _)⟩
set_option maxRecDepth 100000 in
set_option maxHeartbeats 4000000 in
theorem target_7 (u x1 y1 x2 y2 : Int) (inp : List UInt8) (a b c f t : Nat) (n : Int) (w : World) :
  Calls Tryz.prog 9 #[.agg #[.int .u8 7,.int .i64 u,.int .i64 x1,.int .i64 y1,.int .i64 x2,.int .i64 y2,.string ⟨inp.toArray⟩,.int .u64 (a : Nat),.int .u64 (b : Nat),.int .u64 (c : Nat),.int .u8 (f : Nat),.int .u64 (t : Nat),.int .i64 n]] w fun e w' => e = .returned (.tuple #[.agg #[.int .i64 x1,.int .i64 y1,.int .i64 x2,.int .i64 y2],.bool true]) ∧ Below w.heap.size w w':=by
 have H1:=Lib.hid (((Ok.start w).alloc w.heap.size 28 [.int .u8 7,.int .i64 u,.int .i64 x1,.int .i64 y1,.int .i64 x2,.int .i64 y2,.string ⟨inp.toArray⟩,.int .u64 (a : Nat),.int .u64 (b : Nat),.int .u64 (c : Nat),.int .u8 (f : Nat),.int .u64 (t : Nat),.int .i64 n] rfl).var (w.heap.size + 1) 23 [.int .i64 0,.int .i64 0,.int .i64 0,.int .i64 0] (by simp))
 go_enter Tryz.func9,Tryz.ntmps9
 go_upto_region 1 with fail
 generalize ((w.alloc (.cells #[.int .u8 7,.int .i64 u,.int .i64 x1,.int .i64 y1,.int .i64 x2,.int .i64 y2,.string ⟨inp.toArray⟩,.int .u64 (a : Nat),.int .u64 (b : Nat),.int .u64 (c : Nat),.int .u8 (f : Nat),.int .u64 (t : Nat),.int .i64 n] 28)).alloc (.cells #[.int .i64 0,.int .i64 0,.int .i64 0,.int .i64 0] 23)) = W2 at H1 ⊢
 have F3:=H1.out.sees
 simp only [sees,kBlk,kVar,cellsAt,Nat.reduceAdd] at F3
 obtain ⟨⟨⟨z0,fz0⟩,c0_0,c0_1,c0_2,c0_3,-⟩,⟨z1,c1_0,c1_1,c1_2,c1_3,c1_4,c1_5,c1_6,c1_7,c1_8,c1_9,c1_10,c1_11,c1_12,-⟩,-⟩:=F3
 go_wp2_with fail
 have hK:=H1.out.get (kVar (w.heap.size + 1) 23 [.int .i64 0,.int .i64 0,.int .i64 0,.int .i64 0]) (by simp)
 have hB:=H1.out.bel
 have hE:=(((((show Blk W2 (w.heap.size + 1) 23 _ from hK).set_ 0 (.int .i64 x1)).set_ 1 (.int .i64 y1)).set_ 2 (.int .i64 x2)).set_ 3 (.int .i64 y2))
 have r0:=hE.cell 0
 have r1:=hE.cell 1
 have r2:=hE.cell 2
 have r3:=hE.cell 3
 simp at r0 r1 r2 r3
 refine bodyPost_ret (v:=.tuple #[.agg #[.int .i64 x1,.int .i64 y1,.int .i64 x2,.int .i64 y2],.bool true]) (by simp [results,Tryz.results9,go_sem,r0,r1,r2,r3]) rfl ⟨rfl,((((hB.setCell (by simp) _).setCell (by simp) _).setCell (by simp) _).setCell (by simp) _)⟩
set_option maxRecDepth 100000 in
set_option maxHeartbeats 4000000 in
theorem target_8 (u x1 y1 x2 y2 : Int) (inp : List UInt8) (a b c f t : Nat) (n : Int) (w : World) :
  Calls Tryz.prog 9 #[.agg #[.int .u8 8,.int .i64 u,.int .i64 x1,.int .i64 y1,.int .i64 x2,.int .i64 y2,.string ⟨inp.toArray⟩,.int .u64 (a : Nat),.int .u64 (b : Nat),.int .u64 (c : Nat),.int .u8 (f : Nat),.int .u64 (t : Nat),.int .i64 n]] w fun e w' => e = .returned (.tuple #[.agg #[.int .i64 x1,.int .i64 y1,.int .i64 x2,.int .i64 y2],.bool true]) ∧ Below w.heap.size w w':=by
 have H1:=Lib.hid (((Ok.start w).alloc w.heap.size 28 [.int .u8 8,.int .i64 u,.int .i64 x1,.int .i64 y1,.int .i64 x2,.int .i64 y2,.string ⟨inp.toArray⟩,.int .u64 (a : Nat),.int .u64 (b : Nat),.int .u64 (c : Nat),.int .u8 (f : Nat),.int .u64 (t : Nat),.int .i64 n] rfl).var (w.heap.size + 1) 23 [.int .i64 0,.int .i64 0,.int .i64 0,.int .i64 0] (by simp))
 go_enter Tryz.func9,Tryz.ntmps9
 go_upto_region 1 with fail
 generalize ((w.alloc (.cells #[.int .u8 8,.int .i64 u,.int .i64 x1,.int .i64 y1,.int .i64 x2,.int .i64 y2,.string ⟨inp.toArray⟩,.int .u64 (a : Nat),.int .u64 (b : Nat),.int .u64 (c : Nat),.int .u8 (f : Nat),.int .u64 (t : Nat),.int .i64 n] 28)).alloc (.cells #[.int .i64 0,.int .i64 0,.int .i64 0,.int .i64 0] 23)) = W2 at H1 ⊢
 have F3:=H1.out.sees
 simp only [sees,kBlk,kVar,cellsAt,Nat.reduceAdd] at F3
 obtain ⟨⟨⟨z0,fz0⟩,c0_0,c0_1,c0_2,c0_3,-⟩,⟨z1,c1_0,c1_1,c1_2,c1_3,c1_4,c1_5,c1_6,c1_7,c1_8,c1_9,c1_10,c1_11,c1_12,-⟩,-⟩:=F3
 go_wp2_with fail
 have hK:=H1.out.get (kVar (w.heap.size + 1) 23 [.int .i64 0,.int .i64 0,.int .i64 0,.int .i64 0]) (by simp)
 have hB:=H1.out.bel
 have hE:=(((((show Blk W2 (w.heap.size + 1) 23 _ from hK).set_ 0 (.int .i64 x1)).set_ 1 (.int .i64 y1)).set_ 2 (.int .i64 x2)).set_ 3 (.int .i64 y2))
 have r0:=hE.cell 0
 have r1:=hE.cell 1
 have r2:=hE.cell 2
 have r3:=hE.cell 3
 simp at r0 r1 r2 r3
 refine bodyPost_ret (v:=.tuple #[.agg #[.int .i64 x1,.int .i64 y1,.int .i64 x2,.int .i64 y2],.bool true]) (by simp [results,Tryz.results9,go_sem,r0,r1,r2,r3]) rfl ⟨rfl,((((hB.setCell (by simp) _).setCell (by simp) _).setCell (by simp) _).setCell (by simp) _)⟩
set_option maxRecDepth 100000 in
set_option maxHeartbeats 4000000 in
theorem target_no (k : Nat) (hk : ¬ (3 ≤ k ∧ k ≤ 8)) (u x1 y1 x2 y2 : Int) (inp : List UInt8) (a b c f t : Nat) (n : Int) (w : World) :
  Calls Tryz.prog 9 #[.agg #[.int .u8 (k : Nat),.int .i64 u,.int .i64 x1,.int .i64 y1,.int .i64 x2,.int .i64 y2,.string ⟨inp.toArray⟩,.int .u64 (a : Nat),.int .u64 (b : Nat),.int .u64 (c : Nat),.int .u8 (f : Nat),.int .u64 (t : Nat),.int .i64 n]] w fun e w' => e = .returned (.tuple #[.agg #[.int .i64 0,.int .i64 0,.int .i64 0,.int .i64 0],.bool false]) ∧ Below w.heap.size w w':=by
 have e3 : ((k : Int) == 3) = false:=by simp; omega
 have e4 : ((k : Int) == 4) = false:=by simp; omega
 have e5 : ((k : Int) == 5) = false:=by simp; omega
 have e6 : ((k : Int) == 6) = false:=by simp; omega
 have e7 : ((k : Int) == 7) = false:=by simp; omega
 have e8 : ((k : Int) == 8) = false:=by simp; omega
 clear hk
 have H1:=Lib.hid (((Ok.start w).alloc w.heap.size 28 [.int .u8 (k : Nat),.int .i64 u,.int .i64 x1,.int .i64 y1,.int .i64 x2,.int .i64 y2,.string ⟨inp.toArray⟩,.int .u64 (a : Nat),.int .u64 (b : Nat),.int .u64 (c : Nat),.int .u8 (f : Nat),.int .u64 (t : Nat),.int .i64 n] rfl).var (w.heap.size + 1) 23 [.int .i64 0,.int .i64 0,.int .i64 0,.int .i64 0] (by simp))
 go_enter Tryz.func9,Tryz.ntmps9
 go_upto_region 1 with fail
 generalize ((w.alloc (.cells #[.int .u8 (k : Nat),.int .i64 u,.int .i64 x1,.int .i64 y1,.int .i64 x2,.int .i64 y2,.string ⟨inp.toArray⟩,.int .u64 (a : Nat),.int .u64 (b : Nat),.int .u64 (c : Nat),.int .u8 (f : Nat),.int .u64 (t : Nat),.int .i64 n] 28)).alloc (.cells #[.int .i64 0,.int .i64 0,.int .i64 0,.int .i64 0] 23)) = W2 at H1 ⊢
 have F3:=H1.out.sees
 simp only [sees,kBlk,kVar,cellsAt,Nat.reduceAdd] at F3
 obtain ⟨⟨⟨z0,fz0⟩,c0_0,c0_1,c0_2,c0_3,-⟩,⟨z1,c1_0,c1_1,c1_2,c1_3,c1_4,c1_5,c1_6,c1_7,c1_8,c1_9,c1_10,c1_11,c1_12,-⟩,-⟩:=F3
 go_wp2_with fail
 have hK:=H1.out.get (kVar (w.heap.size + 1) 23 [.int .i64 0,.int .i64 0,.int .i64 0,.int .i64 0]) (by simp)
 have hB:=H1.out.bel
 have hE:=(((((show Blk W2 (w.heap.size + 1) 23 _ from hK).set_ 0 (.int .i64 0)).set_ 1 (.int .i64 0)).set_ 2 (.int .i64 0)).set_ 3 (.int .i64 0))
 have r0:=hE.cell 0
 have r1:=hE.cell 1
 have r2:=hE.cell 2
 have r3:=hE.cell 3
 simp at r0 r1 r2 r3
 refine bodyPost_ret (v:=.tuple #[.agg #[.int .i64 0,.int .i64 0,.int .i64 0,.int .i64 0],.bool false]) (by simp [results,Tryz.results9,go_sem,r0,r1,r2,r3]) rfl ⟨rfl,((((hB.setCell (by simp) _).setCell (by simp) _).setCell (by simp) _).setCell (by simp) _)⟩
set_option maxRecDepth 100000 in
set_option maxHeartbeats 4000000 in
theorem mutates_3 (u x1 y1 x2 y2 : Int) (inp : List UInt8) (a b c f t : Nat) (n : Int) (w : World) :
  Calls Tryz.prog 15 #[.agg #[.int .u8 3,.int .i64 u,.int .i64 x1,.int .i64 y1,.int .i64 x2,.int .i64 y2,.string ⟨inp.toArray⟩,.int .u64 (a : Nat),.int .u64 (b : Nat),.int .u64 (c : Nat),.int .u8 (f : Nat),.int .u64 (t : Nat),.int .i64 n]] w fun e w' => e = .returned (.bool true) ∧ Below w.heap.size w w':=by
 have H1:=Lib.hid ((Ok.start w).alloc w.heap.size 28 [.int .u8 3,.int .i64 u,.int .i64 x1,.int .i64 y1,.int .i64 x2,.int .i64 y2,.string ⟨inp.toArray⟩,.int .u64 (a : Nat),.int .u64 (b : Nat),.int .u64 (c : Nat),.int .u8 (f : Nat),.int .u64 (t : Nat),.int .i64 n] rfl)
 go_enter Tryz.func15,Tryz.ntmps15
 go_upto_region 1 with fail
 generalize (w.alloc (.cells #[.int .u8 3,.int .i64 u,.int .i64 x1,.int .i64 y1,.int .i64 x2,.int .i64 y2,.string ⟨inp.toArray⟩,.int .u64 (a : Nat),.int .u64 (b : Nat),.int .u64 (c : Nat),.int .u8 (f : Nat),.int .u64 (t : Nat),.int .i64 n] 28)) = W2 at H1 ⊢
 have F3:=H1.out.sees
 simp only [sees,kBlk,cellsAt,Nat.reduceAdd] at F3
 obtain ⟨⟨z0,c0_0,c0_1,c0_2,c0_3,c0_4,c0_5,c0_6,c0_7,c0_8,c0_9,c0_10,c0_11,c0_12,-⟩,-⟩:=F3
 go_wp2_with fail
 go_ret
 exact ⟨rfl,H1.out.bel⟩
set_option maxRecDepth 100000 in
set_option maxHeartbeats 4000000 in
theorem mutates_4 (u x1 y1 x2 y2 : Int) (inp : List UInt8) (a b c f t : Nat) (n : Int) (w : World) :
  Calls Tryz.prog 15 #[.agg #[.int .u8 4,.int .i64 u,.int .i64 x1,.int .i64 y1,.int .i64 x2,.int .i64 y2,.string ⟨inp.toArray⟩,.int .u64 (a : Nat),.int .u64 (b : Nat),.int .u64 (c : Nat),.int .u8 (f : Nat),.int .u64 (t : Nat),.int .i64 n]] w fun e w' => e = .returned (.bool true) ∧ Below w.heap.size w w':=by
 have H1:=Lib.hid ((Ok.start w).alloc w.heap.size 28 [.int .u8 4,.int .i64 u,.int .i64 x1,.int .i64 y1,.int .i64 x2,.int .i64 y2,.string ⟨inp.toArray⟩,.int .u64 (a : Nat),.int .u64 (b : Nat),.int .u64 (c : Nat),.int .u8 (f : Nat),.int .u64 (t : Nat),.int .i64 n] rfl)
 go_enter Tryz.func15,Tryz.ntmps15
 go_upto_region 1 with fail
 generalize (w.alloc (.cells #[.int .u8 4,.int .i64 u,.int .i64 x1,.int .i64 y1,.int .i64 x2,.int .i64 y2,.string ⟨inp.toArray⟩,.int .u64 (a : Nat),.int .u64 (b : Nat),.int .u64 (c : Nat),.int .u8 (f : Nat),.int .u64 (t : Nat),.int .i64 n] 28)) = W2 at H1 ⊢
 have F3:=H1.out.sees
 simp only [sees,kBlk,cellsAt,Nat.reduceAdd] at F3
 obtain ⟨⟨z0,c0_0,c0_1,c0_2,c0_3,c0_4,c0_5,c0_6,c0_7,c0_8,c0_9,c0_10,c0_11,c0_12,-⟩,-⟩:=F3
 go_wp2_with fail
 go_ret
 exact ⟨rfl,H1.out.bel⟩
set_option maxRecDepth 100000 in
set_option maxHeartbeats 4000000 in
theorem mutates_7 (u x1 y1 x2 y2 : Int) (inp : List UInt8) (a b c f t : Nat) (n : Int) (w : World) :
  Calls Tryz.prog 15 #[.agg #[.int .u8 7,.int .i64 u,.int .i64 x1,.int .i64 y1,.int .i64 x2,.int .i64 y2,.string ⟨inp.toArray⟩,.int .u64 (a : Nat),.int .u64 (b : Nat),.int .u64 (c : Nat),.int .u8 (f : Nat),.int .u64 (t : Nat),.int .i64 n]] w fun e w' => e = .returned (.bool true) ∧ Below w.heap.size w w':=by
 have H1:=Lib.hid ((Ok.start w).alloc w.heap.size 28 [.int .u8 7,.int .i64 u,.int .i64 x1,.int .i64 y1,.int .i64 x2,.int .i64 y2,.string ⟨inp.toArray⟩,.int .u64 (a : Nat),.int .u64 (b : Nat),.int .u64 (c : Nat),.int .u8 (f : Nat),.int .u64 (t : Nat),.int .i64 n] rfl)
 go_enter Tryz.func15,Tryz.ntmps15
 go_upto_region 1 with fail
 generalize (w.alloc (.cells #[.int .u8 7,.int .i64 u,.int .i64 x1,.int .i64 y1,.int .i64 x2,.int .i64 y2,.string ⟨inp.toArray⟩,.int .u64 (a : Nat),.int .u64 (b : Nat),.int .u64 (c : Nat),.int .u8 (f : Nat),.int .u64 (t : Nat),.int .i64 n] 28)) = W2 at H1 ⊢
 have F3:=H1.out.sees
 simp only [sees,kBlk,cellsAt,Nat.reduceAdd] at F3
 obtain ⟨⟨z0,c0_0,c0_1,c0_2,c0_3,c0_4,c0_5,c0_6,c0_7,c0_8,c0_9,c0_10,c0_11,c0_12,-⟩,-⟩:=F3
 go_wp2_with fail
 go_ret
 exact ⟨rfl,H1.out.bel⟩
set_option maxRecDepth 100000 in
set_option maxHeartbeats 4000000 in
theorem mutates_8 (u x1 y1 x2 y2 : Int) (inp : List UInt8) (a b c f t : Nat) (n : Int) (w : World) :
  Calls Tryz.prog 15 #[.agg #[.int .u8 8,.int .i64 u,.int .i64 x1,.int .i64 y1,.int .i64 x2,.int .i64 y2,.string ⟨inp.toArray⟩,.int .u64 (a : Nat),.int .u64 (b : Nat),.int .u64 (c : Nat),.int .u8 (f : Nat),.int .u64 (t : Nat),.int .i64 n]] w fun e w' => e = .returned (.bool true) ∧ Below w.heap.size w w':=by
 have H1:=Lib.hid ((Ok.start w).alloc w.heap.size 28 [.int .u8 8,.int .i64 u,.int .i64 x1,.int .i64 y1,.int .i64 x2,.int .i64 y2,.string ⟨inp.toArray⟩,.int .u64 (a : Nat),.int .u64 (b : Nat),.int .u64 (c : Nat),.int .u8 (f : Nat),.int .u64 (t : Nat),.int .i64 n] rfl)
 go_enter Tryz.func15,Tryz.ntmps15
 go_upto_region 1 with fail
 generalize (w.alloc (.cells #[.int .u8 8,.int .i64 u,.int .i64 x1,.int .i64 y1,.int .i64 x2,.int .i64 y2,.string ⟨inp.toArray⟩,.int .u64 (a : Nat),.int .u64 (b : Nat),.int .u64 (c : Nat),.int .u8 (f : Nat),.int .u64 (t : Nat),.int .i64 n] 28)) = W2 at H1 ⊢
 have F3:=H1.out.sees
 simp only [sees,kBlk,cellsAt,Nat.reduceAdd] at F3
 obtain ⟨⟨z0,c0_0,c0_1,c0_2,c0_3,c0_4,c0_5,c0_6,c0_7,c0_8,c0_9,c0_10,c0_11,c0_12,-⟩,-⟩:=F3
 go_wp2_with fail
 go_ret
 exact ⟨rfl,H1.out.bel⟩
set_option maxRecDepth 100000 in
set_option maxHeartbeats 4000000 in
theorem mutates_9 (u x1 y1 x2 y2 : Int) (inp : List UInt8) (a b c f t : Nat) (n : Int) (w : World) :
  Calls Tryz.prog 15 #[.agg #[.int .u8 9,.int .i64 u,.int .i64 x1,.int .i64 y1,.int .i64 x2,.int .i64 y2,.string ⟨inp.toArray⟩,.int .u64 (a : Nat),.int .u64 (b : Nat),.int .u64 (c : Nat),.int .u8 (f : Nat),.int .u64 (t : Nat),.int .i64 n]] w fun e w' => e = .returned (.bool true) ∧ Below w.heap.size w w':=by
 have H1:=Lib.hid ((Ok.start w).alloc w.heap.size 28 [.int .u8 9,.int .i64 u,.int .i64 x1,.int .i64 y1,.int .i64 x2,.int .i64 y2,.string ⟨inp.toArray⟩,.int .u64 (a : Nat),.int .u64 (b : Nat),.int .u64 (c : Nat),.int .u8 (f : Nat),.int .u64 (t : Nat),.int .i64 n] rfl)
 go_enter Tryz.func15,Tryz.ntmps15
 go_upto_region 1 with fail
 generalize (w.alloc (.cells #[.int .u8 9,.int .i64 u,.int .i64 x1,.int .i64 y1,.int .i64 x2,.int .i64 y2,.string ⟨inp.toArray⟩,.int .u64 (a : Nat),.int .u64 (b : Nat),.int .u64 (c : Nat),.int .u8 (f : Nat),.int .u64 (t : Nat),.int .i64 n] 28)) = W2 at H1 ⊢
 have F3:=H1.out.sees
 simp only [sees,kBlk,cellsAt,Nat.reduceAdd] at F3
 obtain ⟨⟨z0,c0_0,c0_1,c0_2,c0_3,c0_4,c0_5,c0_6,c0_7,c0_8,c0_9,c0_10,c0_11,c0_12,-⟩,-⟩:=F3
 go_wp2_with fail
 go_ret
 exact ⟨rfl,H1.out.bel⟩
set_option maxRecDepth 100000 in
set_option maxHeartbeats 4000000 in
theorem mutates_no (k : Nat) (hk : mutV k = false) (u x1 y1 x2 y2 : Int) (inp : List UInt8) (a b c f t : Nat) (n : Int) (w : World) :
  Calls Tryz.prog 15 #[.agg #[.int .u8 (k : Nat),.int .i64 u,.int .i64 x1,.int .i64 y1,.int .i64 x2,.int .i64 y2,.string ⟨inp.toArray⟩,.int .u64 (a : Nat),.int .u64 (b : Nat),.int .u64 (c : Nat),.int .u8 (f : Nat),.int .u64 (t : Nat),.int .i64 n]] w fun e w' => e = .returned (.bool false) ∧ Below w.heap.size w w':=by
 unfold mutV at hk
 simp only [Bool.or_eq_false_iff,beq_eq_false_iff_ne] at hk
 have e3 : ((k : Int) == 3) = false:=by simp; omega
 have e4 : ((k : Int) == 4) = false:=by simp; omega
 have e7 : ((k : Int) == 7) = false:=by simp; omega
 have e8 : ((k : Int) == 8) = false:=by simp; omega
 have e9 : ((k : Int) == 9) = false:=by simp; omega
 clear hk
 have H1:=Lib.hid ((Ok.start w).alloc w.heap.size 28 [.int .u8 (k : Nat),.int .i64 u,.int .i64 x1,.int .i64 y1,.int .i64 x2,.int .i64 y2,.string ⟨inp.toArray⟩,.int .u64 (a : Nat),.int .u64 (b : Nat),.int .u64 (c : Nat),.int .u8 (f : Nat),.int .u64 (t : Nat),.int .i64 n] rfl)
 go_enter Tryz.func15,Tryz.ntmps15
 go_upto_region 1 with fail
 generalize (w.alloc (.cells #[.int .u8 (k : Nat),.int .i64 u,.int .i64 x1,.int .i64 y1,.int .i64 x2,.int .i64 y2,.string ⟨inp.toArray⟩,.int .u64 (a : Nat),.int .u64 (b : Nat),.int .u64 (c : Nat),.int .u8 (f : Nat),.int .u64 (t : Nat),.int .i64 n] 28)) = W2 at H1 ⊢
 have F3:=H1.out.sees
 simp only [sees,kBlk,cellsAt,Nat.reduceAdd] at F3
 obtain ⟨⟨z0,c0_0,c0_1,c0_2,c0_3,c0_4,c0_5,c0_6,c0_7,c0_8,c0_9,c0_10,c0_11,c0_12,-⟩,-⟩:=F3
 go_wp2_with fail
 go_ret
 exact ⟨rfl,H1.out.bel⟩
end Go.Proofs.YtjbimcdofenmdaaGreatDoor
