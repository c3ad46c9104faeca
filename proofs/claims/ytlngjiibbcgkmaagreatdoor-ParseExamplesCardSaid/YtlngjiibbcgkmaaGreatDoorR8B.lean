/- The reference's fields, below and fits, on nodes that a formula may hold. -/
import Derived.Test.YtlngjiibbcgkmaaGreatDoorTreC
import Derived.Test.YtlngjiibbcgkmaaGreatDoorOk
import Derived.Test.YtlngjiibbcgkmaaGreatDoorR8A
import Derived.Test.YtlngjiibbcgkmaaGreatDoorRf4
import Derived.Test.YtlngjiibbcgkmaaGreatDoorRectW2
namespace Go.Proofs.YtlngjiibbcgkmaaGreatDoor
open Go.RowKit
set_option maxRecDepth 100000 in
set_option maxHeartbeats 4000000 in
theorem chk5_num (n : Int) (h : 0 ≤ n) (w : World) :
  Calls Tryz.prog 124 #[.agg #[.int .u8 1,.int .i64 n,.string ⟨#[]⟩]] w fun e w' => e = .returned (.int .i64 0) ∧ Below w.heap.size w w':=by
 have h0 : -9223372036854775807 ≤ n:=by omega
 have H1:=Lib.hid ((Ok.start w).alloc w.heap.size 28 [.int .u8 1,.int .i64 n,.string ⟨#[]⟩] rfl)
 go_enter Tryz.func124,Tryz.ntmps124
 go_wp2_with fail
 generalize (w.alloc (.cells #[.int .u8 1,.int .i64 n,.string ⟨#[]⟩] 28)) = W2 at H1 ⊢
 go_ret
 exact ⟨rfl,H1.out.bel⟩
set_option maxRecDepth 100000 in
set_option maxHeartbeats 4000000 in
theorem lit8_num (n : Int) (h : 0 ≤ n) (w : World) :
  Calls Tryz.prog 167 #[.agg #[.int .u8 1,.int .i64 n,.string ⟨#[]⟩]] w fun e w' => e = .returned (.bool true) ∧ Below w.heap.size w w':=by
 have h0 : -9223372036854775807 ≤ n:=by omega
 have H1:=Lib.hid ((Ok.start w).alloc w.heap.size 28 [.int .u8 1,.int .i64 n,.string ⟨#[]⟩] rfl)
 go_enter Tryz.func167,Tryz.ntmps167
 go_wp2_with fail
 generalize (w.alloc (.cells #[.int .u8 1,.int .i64 n,.string ⟨#[]⟩] 28)) = W2 at H1 ⊢
 refine (chk5_num n h _).mono ?_
 rintro e w3 ⟨rfl,hb4⟩
 have H5:=Lib.hid (H1.out.below hb4)
 clear hb4 H1
 have F6:=H5.out.sees
 simp only [sees,kBlk,cellsAt,Nat.reduceAdd] at F6
 obtain ⟨⟨z0,c0_0,c0_1,c0_2,-⟩,-⟩:=F6
 go_wp2_with fail
 go_ret
 exact ⟨rfl,H5.out.bel⟩
set_option maxRecDepth 100000 in
set_option maxHeartbeats 4000000 in
theorem chk5_no  (w : World) :
  Calls Tryz.prog 124 #[.agg #[.int .u8 2,.int .i64 0,.string ⟨#[]⟩]] w fun e w' => e = .returned (.int .i64 0) ∧ Below w.heap.size w w':=by
 have H1:=Lib.hid ((Ok.start w).alloc w.heap.size 28 [.int .u8 2,.int .i64 0,.string ⟨#[]⟩] rfl)
 go_enter Tryz.func124,Tryz.ntmps124
 go_wp2_with fail
 generalize (w.alloc (.cells #[.int .u8 2,.int .i64 0,.string ⟨#[]⟩] 28)) = W2 at H1 ⊢
 go_ret
 exact ⟨rfl,H1.out.bel⟩
set_option maxRecDepth 100000 in
set_option maxHeartbeats 4000000 in
theorem lit8_no  (w : World) :
  Calls Tryz.prog 167 #[.agg #[.int .u8 2,.int .i64 0,.string ⟨#[]⟩]] w fun e w' => e = .returned (.bool true) ∧ Below w.heap.size w w':=by
 have H1:=Lib.hid ((Ok.start w).alloc w.heap.size 28 [.int .u8 2,.int .i64 0,.string ⟨#[]⟩] rfl)
 go_enter Tryz.func167,Tryz.ntmps167
 go_wp2_with fail
 generalize (w.alloc (.cells #[.int .u8 2,.int .i64 0,.string ⟨#[]⟩] 28)) = W2 at H1 ⊢
 refine (chk5_no  _).mono ?_
 rintro e w3 ⟨rfl,hb4⟩
 have H5:=Lib.hid (H1.out.below hb4)
 clear hb4 H1
 have F6:=H5.out.sees
 simp only [sees,kBlk,cellsAt,Nat.reduceAdd] at F6
 obtain ⟨⟨z0,c0_0,c0_1,c0_2,-⟩,-⟩:=F6
 go_wp2_with fail
 go_ret
 exact ⟨rfl,H5.out.bel⟩
set_option maxRecDepth 100000 in
set_option maxHeartbeats 4000000 in
theorem chk5_yes  (w : World) :
  Calls Tryz.prog 124 #[.agg #[.int .u8 2,.int .i64 1,.string ⟨#[]⟩]] w fun e w' => e = .returned (.int .i64 0) ∧ Below w.heap.size w w':=by
 have H1:=Lib.hid ((Ok.start w).alloc w.heap.size 28 [.int .u8 2,.int .i64 1,.string ⟨#[]⟩] rfl)
 go_enter Tryz.func124,Tryz.ntmps124
 go_wp2_with fail
 generalize (w.alloc (.cells #[.int .u8 2,.int .i64 1,.string ⟨#[]⟩] 28)) = W2 at H1 ⊢
 go_ret
 exact ⟨rfl,H1.out.bel⟩
set_option maxRecDepth 100000 in
set_option maxHeartbeats 4000000 in
theorem lit8_yes  (w : World) :
  Calls Tryz.prog 167 #[.agg #[.int .u8 2,.int .i64 1,.string ⟨#[]⟩]] w fun e w' => e = .returned (.bool true) ∧ Below w.heap.size w w':=by
 have H1:=Lib.hid ((Ok.start w).alloc w.heap.size 28 [.int .u8 2,.int .i64 1,.string ⟨#[]⟩] rfl)
 go_enter Tryz.func167,Tryz.ntmps167
 go_wp2_with fail
 generalize (w.alloc (.cells #[.int .u8 2,.int .i64 1,.string ⟨#[]⟩] 28)) = W2 at H1 ⊢
 refine (chk5_yes  _).mono ?_
 rintro e w3 ⟨rfl,hb4⟩
 have H5:=Lib.hid (H1.out.below hb4)
 clear hb4 H1
 have F6:=H5.out.sees
 simp only [sees,kBlk,cellsAt,Nat.reduceAdd] at F6
 obtain ⟨⟨z0,c0_0,c0_1,c0_2,-⟩,-⟩:=F6
 go_wp2_with fail
 go_ret
 exact ⟨rfl,H5.out.bel⟩
set_option maxRecDepth 100000 in
set_option maxHeartbeats 4000000 in
theorem chk5_txt (t : List UInt8) (h : t.length ≤ 256) (hp : t.all plainB = true) (w : World) :
  Calls Tryz.prog 124 #[.agg #[.int .u8 3,.int .i64 0,.string ⟨t.toArray⟩]] w fun e w' => e = .returned (.int .i64 0) ∧ Below w.heap.size w w':=by
 have H1:=Lib.hid ((Ok.start w).alloc w.heap.size 28 [.int .u8 3,.int .i64 0,.string ⟨t.toArray⟩] rfl)
 go_enter Tryz.func124,Tryz.ntmps124
 go_wp2_with fail
 generalize (w.alloc (.cells #[.int .u8 3,.int .i64 0,.string ⟨t.toArray⟩] 28)) = W2 at H1 ⊢
 refine (ref4_CheckOk t _ h hp).mono ?_
 rintro e w3 ⟨rfl,hw⟩
 obtain rfl : W2 = w3:=hw.symm
 have F3:=H1.out.sees
 simp only [sees,kBlk,cellsAt,Nat.reduceAdd] at F3
 obtain ⟨⟨z0,c0_0,c0_1,c0_2,-⟩,-⟩:=F3
 go_wp2_with fail
 go_ret
 exact ⟨rfl,H1.out.bel⟩
set_option maxRecDepth 100000 in
set_option maxHeartbeats 4000000 in
theorem lit8_txt (t : List UInt8) (h : t.length ≤ 256) (hp : t.all plainB = true) (w : World) :
  Calls Tryz.prog 167 #[.agg #[.int .u8 3,.int .i64 0,.string ⟨t.toArray⟩]] w fun e w' => e = .returned (.bool true) ∧ Below w.heap.size w w':=by
 have H1:=Lib.hid ((Ok.start w).alloc w.heap.size 28 [.int .u8 3,.int .i64 0,.string ⟨t.toArray⟩] rfl)
 go_enter Tryz.func167,Tryz.ntmps167
 go_wp2_with fail
 generalize (w.alloc (.cells #[.int .u8 3,.int .i64 0,.string ⟨t.toArray⟩] 28)) = W2 at H1 ⊢
 refine (chk5_txt t h hp _).mono ?_
 rintro e w3 ⟨rfl,hb4⟩
 have H5:=Lib.hid (H1.out.below hb4)
 clear hb4 H1
 have F6:=H5.out.sees
 simp only [sees,kBlk,cellsAt,Nat.reduceAdd] at F6
 obtain ⟨⟨z0,c0_0,c0_1,c0_2,-⟩,-⟩:=F6
 go_wp2_with fail
 go_ret
 exact ⟨rfl,H5.out.bel⟩
set_option maxRecDepth 100000 in
set_option maxHeartbeats 4000000 in
theorem chk5_err (c : Int) (h1 : 1 ≤ c) (h2 : c ≤ 5) (w : World) :
  Calls Tryz.prog 124 #[.agg #[.int .u8 4,.int .i64 c,.string ⟨#[]⟩]] w fun e w' => e = .returned (.int .i64 0) ∧ Below w.heap.size w w':=by
 have h3 : c ≤ 6:=by omega
 have h4 : (c != 6) = true:=by simp; omega
 have H1:=Lib.hid ((Ok.start w).alloc w.heap.size 28 [.int .u8 4,.int .i64 c,.string ⟨#[]⟩] rfl)
 go_enter Tryz.func124,Tryz.ntmps124
 go_wp2_with fail
 generalize (w.alloc (.cells #[.int .u8 4,.int .i64 c,.string ⟨#[]⟩] 28)) = W2 at H1 ⊢
 go_ret
 exact ⟨rfl,H1.out.bel⟩
set_option maxRecDepth 100000 in
set_option maxHeartbeats 4000000 in
theorem lit8_err (c : Int) (h1 : 1 ≤ c) (h2 : c ≤ 5) (w : World) :
  Calls Tryz.prog 167 #[.agg #[.int .u8 4,.int .i64 c,.string ⟨#[]⟩]] w fun e w' => e = .returned (.bool true) ∧ Below w.heap.size w w':=by
 have h3 : c ≤ 6:=by omega
 have h4 : (c != 6) = true:=by simp; omega
 have H1:=Lib.hid ((Ok.start w).alloc w.heap.size 28 [.int .u8 4,.int .i64 c,.string ⟨#[]⟩] rfl)
 go_enter Tryz.func167,Tryz.ntmps167
 go_wp2_with fail
 generalize (w.alloc (.cells #[.int .u8 4,.int .i64 c,.string ⟨#[]⟩] 28)) = W2 at H1 ⊢
 refine (chk5_err c h1 h2 _).mono ?_
 rintro e w3 ⟨rfl,hb4⟩
 have H5:=Lib.hid (H1.out.below hb4)
 clear hb4 H1
 have F6:=H5.out.sees
 simp only [sees,kBlk,cellsAt,Nat.reduceAdd] at F6
 obtain ⟨⟨z0,c0_0,c0_1,c0_2,-⟩,-⟩:=F6
 go_wp2_with fail
 go_ret
 exact ⟨rfl,H5.out.bel⟩
set_option maxRecDepth 100000 in
set_option maxHeartbeats 4000000 in
theorem one8_yes (c d : Int) (w : World) :
  Calls Tryz.prog 168 #[.agg #[.int .i64 c,.int .i64 d,.int .i64 c,.int .i64 d]] w fun e w' => e = .returned (.bool true) ∧ Below w.heap.size w w':=by
 have H1:=Lib.hid ((Ok.start w).alloc w.heap.size 30 [.int .i64 c,.int .i64 d,.int .i64 c,.int .i64 d] rfl)
 go_enter Tryz.func168,Tryz.ntmps168
 go_wp2_with fail
 generalize (w.alloc (.cells #[.int .i64 c,.int .i64 d,.int .i64 c,.int .i64 d] 30)) = W2 at H1 ⊢
 go_ret
 exact ⟨rfl,H1.out.bel⟩
set_option maxRecDepth 100000 in
set_option maxHeartbeats 4000000 in
theorem one8_no1 (a b c d : Int) (h : a ≠ c) (w : World) :
  Calls Tryz.prog 168 #[.agg #[.int .i64 a,.int .i64 b,.int .i64 c,.int .i64 d]] w fun e w' => e = .returned (.bool false) ∧ Below w.heap.size w w':=by
 have h1 : (a == c) = false:=by simpa using h
 have H1:=Lib.hid ((Ok.start w).alloc w.heap.size 30 [.int .i64 a,.int .i64 b,.int .i64 c,.int .i64 d] rfl)
 go_enter Tryz.func168,Tryz.ntmps168
 go_wp2_with fail
 generalize (w.alloc (.cells #[.int .i64 a,.int .i64 b,.int .i64 c,.int .i64 d] 30)) = W2 at H1 ⊢
 go_ret
 exact ⟨rfl,H1.out.bel⟩
set_option maxRecDepth 100000 in
set_option maxHeartbeats 4000000 in
theorem one8_no2 (b c d : Int) (h : b ≠ d) (w : World) :
  Calls Tryz.prog 168 #[.agg #[.int .i64 c,.int .i64 b,.int .i64 c,.int .i64 d]] w fun e w' => e = .returned (.bool false) ∧ Below w.heap.size w w':=by
 have h1 : (b == d) = false:=by simpa using h
 have H1:=Lib.hid ((Ok.start w).alloc w.heap.size 30 [.int .i64 c,.int .i64 b,.int .i64 c,.int .i64 d] rfl)
 go_enter Tryz.func168,Tryz.ntmps168
 go_wp2_with fail
 generalize (w.alloc (.cells #[.int .i64 c,.int .i64 b,.int .i64 c,.int .i64 d] 30)) = W2 at H1 ⊢
 go_ret
 exact ⟨by first | rfl | simp [h],H1.out.bel⟩
theorem one8_no (a b c d : Int) (h : ¬ (a = c ∧ b = d)) (w : World) :
  Calls Tryz.prog 168 #[.agg #[.int .i64 a,.int .i64 b,.int .i64 c,.int .i64 d]] w fun e w' => e = .returned (.bool false) ∧ Below w.heap.size w w':=by
 by_cases hac : a = c
 ·subst hac
  exact one8_no2 b a d (fun h9 => h ⟨rfl,h9⟩) w
 ·exact one8_no1 a b c d hac w
set_option maxRecDepth 100000 in
set_option maxHeartbeats 4000000 in
theorem fields8_neg  (w : World) :
  Calls Tryz.prog 136 #[.agg #[.int .u8 4,.int .u8 0,.int .i64 0,.string ⟨#[]⟩,.int .i64 0,.int .i64 0,.int .i64 0,.int .i64 0,.int .i64 0,.int .u8 0,.int .i64 0]] w fun e w' => e = .returned (.bool true) ∧ Below w.heap.size w w':=by
 have H1:=Lib.hid (((Ok.start w).alloc w.heap.size 32 [.int .u8 4,.int .u8 0,.int .i64 0,.string ⟨#[]⟩,.int .i64 0,.int .i64 0,.int .i64 0,.int .i64 0,.int .i64 0,.int .u8 0,.int .i64 0] rfl).alloc (w.heap.size + 1) 32 [.int .u8 4,.int .u8 0,.int .i64 0,.string ⟨#[]⟩,.int .i64 0,.int .i64 0,.int .i64 0,.int .i64 0,.int .i64 0,.int .u8 0,.int .i64 0] (by simp))
 go_enter Tryz.func136,Tryz.ntmps136
 go_wp2_with fail
 generalize ((w.alloc (.cells #[.int .u8 4,.int .u8 0,.int .i64 0,.string ⟨#[]⟩,.int .i64 0,.int .i64 0,.int .i64 0,.int .i64 0,.int .i64 0,.int .u8 0,.int .i64 0] 32)).alloc (.cells #[.int .u8 4,.int .u8 0,.int .i64 0,.string ⟨#[]⟩,.int .i64 0,.int .i64 0,.int .i64 0,.int .i64 0,.int .i64 0,.int .u8 0,.int .i64 0] 32)) = W2 at H1 ⊢
 go_ret
 exact ⟨rfl,H1.out.bel⟩
set_option maxRecDepth 100000 in
set_option maxHeartbeats 4000000 in
theorem fields8_pct  (w : World) :
  Calls Tryz.prog 136 #[.agg #[.int .u8 5,.int .u8 0,.int .i64 0,.string ⟨#[]⟩,.int .i64 0,.int .i64 0,.int .i64 0,.int .i64 0,.int .i64 0,.int .u8 0,.int .i64 0]] w fun e w' => e = .returned (.bool true) ∧ Below w.heap.size w w':=by
 have H1:=Lib.hid (((Ok.start w).alloc w.heap.size 32 [.int .u8 5,.int .u8 0,.int .i64 0,.string ⟨#[]⟩,.int .i64 0,.int .i64 0,.int .i64 0,.int .i64 0,.int .i64 0,.int .u8 0,.int .i64 0] rfl).alloc (w.heap.size + 1) 32 [.int .u8 5,.int .u8 0,.int .i64 0,.string ⟨#[]⟩,.int .i64 0,.int .i64 0,.int .i64 0,.int .i64 0,.int .i64 0,.int .u8 0,.int .i64 0] (by simp))
 go_enter Tryz.func136,Tryz.ntmps136
 go_wp2_with fail
 generalize ((w.alloc (.cells #[.int .u8 5,.int .u8 0,.int .i64 0,.string ⟨#[]⟩,.int .i64 0,.int .i64 0,.int .i64 0,.int .i64 0,.int .i64 0,.int .u8 0,.int .i64 0] 32)).alloc (.cells #[.int .u8 5,.int .u8 0,.int .i64 0,.string ⟨#[]⟩,.int .i64 0,.int .i64 0,.int .i64 0,.int .i64 0,.int .i64 0,.int .u8 0,.int .i64 0] 32)) = W2 at H1 ⊢
 go_ret
 exact ⟨rfl,H1.out.bel⟩
set_option maxRecDepth 100000 in
set_option maxHeartbeats 4000000 in
theorem fields8_bin (op : Int) (h1 : 1 ≤ op) (h2 : op ≤ 12) (w : World) :
  Calls Tryz.prog 136 #[.agg #[.int .u8 6,.int .u8 0,.int .i64 0,.string ⟨#[]⟩,.int .i64 0,.int .i64 0,.int .i64 0,.int .i64 0,.int .i64 op,.int .u8 0,.int .i64 0]] w fun e w' => e = .returned (.bool true) ∧ Below w.heap.size w w':=by
 have H1:=Lib.hid (((Ok.start w).alloc w.heap.size 32 [.int .u8 6,.int .u8 0,.int .i64 0,.string ⟨#[]⟩,.int .i64 0,.int .i64 0,.int .i64 0,.int .i64 0,.int .i64 op,.int .u8 0,.int .i64 0] rfl).alloc (w.heap.size + 1) 32 [.int .u8 6,.int .u8 0,.int .i64 0,.string ⟨#[]⟩,.int .i64 0,.int .i64 0,.int .i64 0,.int .i64 0,.int .i64 op,.int .u8 0,.int .i64 0] (by simp))
 go_enter Tryz.func136,Tryz.ntmps136
 go_wp2_with fail
 generalize ((w.alloc (.cells #[.int .u8 6,.int .u8 0,.int .i64 0,.string ⟨#[]⟩,.int .i64 0,.int .i64 0,.int .i64 0,.int .i64 0,.int .i64 op,.int .u8 0,.int .i64 0] 32)).alloc (.cells #[.int .u8 6,.int .u8 0,.int .i64 0,.string ⟨#[]⟩,.int .i64 0,.int .i64 0,.int .i64 0,.int .i64 0,.int .i64 op,.int .u8 0,.int .i64 0] 32)) = W2 at H1 ⊢
 go_ret
 exact ⟨rfl,H1.out.bel⟩
set_option maxRecDepth 100000 in
set_option maxHeartbeats 4000000 in
theorem fields8_num (n : Int) (h : 0 ≤ n) (w : World) :
  Calls Tryz.prog 136 #[.agg #[.int .u8 1,.int .u8 1,.int .i64 n,.string ⟨#[]⟩,.int .i64 0,.int .i64 0,.int .i64 0,.int .i64 0,.int .i64 0,.int .u8 0,.int .i64 0]] w fun e w' => e = .returned (.bool true) ∧ Below w.heap.size w w':=by
 have H1:=Lib.hid (((Ok.start w).alloc w.heap.size 32 [.int .u8 1,.int .u8 1,.int .i64 n,.string ⟨#[]⟩,.int .i64 0,.int .i64 0,.int .i64 0,.int .i64 0,.int .i64 0,.int .u8 0,.int .i64 0] rfl).alloc (w.heap.size + 1) 32 [.int .u8 1,.int .u8 1,.int .i64 n,.string ⟨#[]⟩,.int .i64 0,.int .i64 0,.int .i64 0,.int .i64 0,.int .i64 0,.int .u8 0,.int .i64 0] (by simp))
 go_enter Tryz.func136,Tryz.ntmps136
 go_wp2_with fail
 generalize ((w.alloc (.cells #[.int .u8 1,.int .u8 1,.int .i64 n,.string ⟨#[]⟩,.int .i64 0,.int .i64 0,.int .i64 0,.int .i64 0,.int .i64 0,.int .u8 0,.int .i64 0] 32)).alloc (.cells #[.int .u8 1,.int .u8 1,.int .i64 n,.string ⟨#[]⟩,.int .i64 0,.int .i64 0,.int .i64 0,.int .i64 0,.int .i64 0,.int .u8 0,.int .i64 0] 32)) = W2 at H1 ⊢
 refine (lit8_num n h _).mono ?_
 rintro e w3 ⟨rfl,hb4⟩
 have H5:=Lib.hid (H1.out.below hb4)
 clear hb4 H1
 have F6:=H5.out.sees
 simp only [sees,kBlk,cellsAt,Nat.reduceAdd] at F6
 obtain ⟨⟨z0,c0_0,c0_1,c0_2,c0_3,c0_4,c0_5,c0_6,c0_7,c0_8,c0_9,c0_10,-⟩,⟨z1,c1_0,c1_1,c1_2,c1_3,c1_4,c1_5,c1_6,c1_7,c1_8,c1_9,c1_10,-⟩,-⟩:=F6
 go_wp2_with fail
 go_ret
 exact ⟨rfl,H5.out.bel⟩
set_option maxRecDepth 100000 in
set_option maxHeartbeats 4000000 in
theorem fields8_no  (w : World) :
  Calls Tryz.prog 136 #[.agg #[.int .u8 1,.int .u8 2,.int .i64 0,.string ⟨#[]⟩,.int .i64 0,.int .i64 0,.int .i64 0,.int .i64 0,.int .i64 0,.int .u8 0,.int .i64 0]] w fun e w' => e = .returned (.bool true) ∧ Below w.heap.size w w':=by
 have H1:=Lib.hid (((Ok.start w).alloc w.heap.size 32 [.int .u8 1,.int .u8 2,.int .i64 0,.string ⟨#[]⟩,.int .i64 0,.int .i64 0,.int .i64 0,.int .i64 0,.int .i64 0,.int .u8 0,.int .i64 0] rfl).alloc (w.heap.size + 1) 32 [.int .u8 1,.int .u8 2,.int .i64 0,.string ⟨#[]⟩,.int .i64 0,.int .i64 0,.int .i64 0,.int .i64 0,.int .i64 0,.int .u8 0,.int .i64 0] (by simp))
 go_enter Tryz.func136,Tryz.ntmps136
 go_wp2_with fail
 generalize ((w.alloc (.cells #[.int .u8 1,.int .u8 2,.int .i64 0,.string ⟨#[]⟩,.int .i64 0,.int .i64 0,.int .i64 0,.int .i64 0,.int .i64 0,.int .u8 0,.int .i64 0] 32)).alloc (.cells #[.int .u8 1,.int .u8 2,.int .i64 0,.string ⟨#[]⟩,.int .i64 0,.int .i64 0,.int .i64 0,.int .i64 0,.int .i64 0,.int .u8 0,.int .i64 0] 32)) = W2 at H1 ⊢
 refine (lit8_no  _).mono ?_
 rintro e w3 ⟨rfl,hb4⟩
 have H5:=Lib.hid (H1.out.below hb4)
 clear hb4 H1
 have F6:=H5.out.sees
 simp only [sees,kBlk,cellsAt,Nat.reduceAdd] at F6
 obtain ⟨⟨z0,c0_0,c0_1,c0_2,c0_3,c0_4,c0_5,c0_6,c0_7,c0_8,c0_9,c0_10,-⟩,⟨z1,c1_0,c1_1,c1_2,c1_3,c1_4,c1_5,c1_6,c1_7,c1_8,c1_9,c1_10,-⟩,-⟩:=F6
 go_wp2_with fail
 go_ret
 exact ⟨rfl,H5.out.bel⟩
set_option maxRecDepth 100000 in
set_option maxHeartbeats 4000000 in
theorem fields8_yes  (w : World) :
  Calls Tryz.prog 136 #[.agg #[.int .u8 1,.int .u8 2,.int .i64 1,.string ⟨#[]⟩,.int .i64 0,.int .i64 0,.int .i64 0,.int .i64 0,.int .i64 0,.int .u8 0,.int .i64 0]] w fun e w' => e = .returned (.bool true) ∧ Below w.heap.size w w':=by
 have H1:=Lib.hid (((Ok.start w).alloc w.heap.size 32 [.int .u8 1,.int .u8 2,.int .i64 1,.string ⟨#[]⟩,.int .i64 0,.int .i64 0,.int .i64 0,.int .i64 0,.int .i64 0,.int .u8 0,.int .i64 0] rfl).alloc (w.heap.size + 1) 32 [.int .u8 1,.int .u8 2,.int .i64 1,.string ⟨#[]⟩,.int .i64 0,.int .i64 0,.int .i64 0,.int .i64 0,.int .i64 0,.int .u8 0,.int .i64 0] (by simp))
 go_enter Tryz.func136,Tryz.ntmps136
 go_wp2_with fail
 generalize ((w.alloc (.cells #[.int .u8 1,.int .u8 2,.int .i64 1,.string ⟨#[]⟩,.int .i64 0,.int .i64 0,.int .i64 0,.int .i64 0,.int .i64 0,.int .u8 0,.int .i64 0] 32)).alloc (.cells #[.int .u8 1,.int .u8 2,.int .i64 1,.string ⟨#[]⟩,.int .i64 0,.int .i64 0,.int .i64 0,.int .i64 0,.int .i64 0,.int .u8 0,.int .i64 0] 32)) = W2 at H1 ⊢
 refine (lit8_yes  _).mono ?_
 rintro e w3 ⟨rfl,hb4⟩
 have H5:=Lib.hid (H1.out.below hb4)
 clear hb4 H1
 have F6:=H5.out.sees
 simp only [sees,kBlk,cellsAt,Nat.reduceAdd] at F6
 obtain ⟨⟨z0,c0_0,c0_1,c0_2,c0_3,c0_4,c0_5,c0_6,c0_7,c0_8,c0_9,c0_10,-⟩,⟨z1,c1_0,c1_1,c1_2,c1_3,c1_4,c1_5,c1_6,c1_7,c1_8,c1_9,c1_10,-⟩,-⟩:=F6
 go_wp2_with fail
 go_ret
 exact ⟨rfl,H5.out.bel⟩
set_option maxRecDepth 100000 in
set_option maxHeartbeats 4000000 in
theorem fields8_txt (t : List UInt8) (h : t.length ≤ 256) (hp : t.all plainB = true) (w : World) :
  Calls Tryz.prog 136 #[.agg #[.int .u8 1,.int .u8 3,.int .i64 0,.string ⟨t.toArray⟩,.int .i64 0,.int .i64 0,.int .i64 0,.int .i64 0,.int .i64 0,.int .u8 0,.int .i64 0]] w fun e w' => e = .returned (.bool true) ∧ Below w.heap.size w w':=by
 have H1:=Lib.hid (((Ok.start w).alloc w.heap.size 32 [.int .u8 1,.int .u8 3,.int .i64 0,.string ⟨t.toArray⟩,.int .i64 0,.int .i64 0,.int .i64 0,.int .i64 0,.int .i64 0,.int .u8 0,.int .i64 0] rfl).alloc (w.heap.size + 1) 32 [.int .u8 1,.int .u8 3,.int .i64 0,.string ⟨t.toArray⟩,.int .i64 0,.int .i64 0,.int .i64 0,.int .i64 0,.int .i64 0,.int .u8 0,.int .i64 0] (by simp))
 go_enter Tryz.func136,Tryz.ntmps136
 go_wp2_with fail
 generalize ((w.alloc (.cells #[.int .u8 1,.int .u8 3,.int .i64 0,.string ⟨t.toArray⟩,.int .i64 0,.int .i64 0,.int .i64 0,.int .i64 0,.int .i64 0,.int .u8 0,.int .i64 0] 32)).alloc (.cells #[.int .u8 1,.int .u8 3,.int .i64 0,.string ⟨t.toArray⟩,.int .i64 0,.int .i64 0,.int .i64 0,.int .i64 0,.int .i64 0,.int .u8 0,.int .i64 0] 32)) = W2 at H1 ⊢
 refine (lit8_txt t h hp _).mono ?_
 rintro e w3 ⟨rfl,hb4⟩
 have H5:=Lib.hid (H1.out.below hb4)
 clear hb4 H1
 have F6:=H5.out.sees
 simp only [sees,kBlk,cellsAt,Nat.reduceAdd] at F6
 obtain ⟨⟨z0,c0_0,c0_1,c0_2,c0_3,c0_4,c0_5,c0_6,c0_7,c0_8,c0_9,c0_10,-⟩,⟨z1,c1_0,c1_1,c1_2,c1_3,c1_4,c1_5,c1_6,c1_7,c1_8,c1_9,c1_10,-⟩,-⟩:=F6
 go_wp2_with fail
 go_ret
 exact ⟨rfl,H5.out.bel⟩
set_option maxRecDepth 100000 in
set_option maxHeartbeats 4000000 in
theorem fields8_err (c : Int) (h1 : 1 ≤ c) (h2 : c ≤ 5) (w : World) :
  Calls Tryz.prog 136 #[.agg #[.int .u8 1,.int .u8 4,.int .i64 c,.string ⟨#[]⟩,.int .i64 0,.int .i64 0,.int .i64 0,.int .i64 0,.int .i64 0,.int .u8 0,.int .i64 0]] w fun e w' => e = .returned (.bool true) ∧ Below w.heap.size w w':=by
 have H1:=Lib.hid (((Ok.start w).alloc w.heap.size 32 [.int .u8 1,.int .u8 4,.int .i64 c,.string ⟨#[]⟩,.int .i64 0,.int .i64 0,.int .i64 0,.int .i64 0,.int .i64 0,.int .u8 0,.int .i64 0] rfl).alloc (w.heap.size + 1) 32 [.int .u8 1,.int .u8 4,.int .i64 c,.string ⟨#[]⟩,.int .i64 0,.int .i64 0,.int .i64 0,.int .i64 0,.int .i64 0,.int .u8 0,.int .i64 0] (by simp))
 go_enter Tryz.func136,Tryz.ntmps136
 go_wp2_with fail
 generalize ((w.alloc (.cells #[.int .u8 1,.int .u8 4,.int .i64 c,.string ⟨#[]⟩,.int .i64 0,.int .i64 0,.int .i64 0,.int .i64 0,.int .i64 0,.int .u8 0,.int .i64 0] 32)).alloc (.cells #[.int .u8 1,.int .u8 4,.int .i64 c,.string ⟨#[]⟩,.int .i64 0,.int .i64 0,.int .i64 0,.int .i64 0,.int .i64 0,.int .u8 0,.int .i64 0] 32)) = W2 at H1 ⊢
 refine (lit8_err c h1 h2 _).mono ?_
 rintro e w3 ⟨rfl,hb4⟩
 have H5:=Lib.hid (H1.out.below hb4)
 clear hb4 H1
 have F6:=H5.out.sees
 simp only [sees,kBlk,cellsAt,Nat.reduceAdd] at F6
 obtain ⟨⟨z0,c0_0,c0_1,c0_2,c0_3,c0_4,c0_5,c0_6,c0_7,c0_8,c0_9,c0_10,-⟩,⟨z1,c1_0,c1_1,c1_2,c1_3,c1_4,c1_5,c1_6,c1_7,c1_8,c1_9,c1_10,-⟩,-⟩:=F6
 go_wp2_with fail
 go_ret
 exact ⟨rfl,H5.out.bel⟩
set_option maxRecDepth 100000 in
set_option maxHeartbeats 4000000 in
theorem fields8_ref (c r : Int) (hc : checkB ⟨c,r,c,r⟩ = true) (w : World) :
  Calls Tryz.prog 136 #[.agg #[.int .u8 2,.int .u8 0,.int .i64 0,.string ⟨#[]⟩,.int .i64 c,.int .i64 r,.int .i64 c,.int .i64 r,.int .i64 0,.int .u8 0,.int .i64 0]] w fun e w' => e = .returned (.bool true) ∧ Below w.heap.size w w':=by
 have HCE:=keep (checkE_yes hc)
 clear hc
 have H1:=Lib.hid (((Ok.start w).alloc w.heap.size 32 [.int .u8 2,.int .u8 0,.int .i64 0,.string ⟨#[]⟩,.int .i64 c,.int .i64 r,.int .i64 c,.int .i64 r,.int .i64 0,.int .u8 0,.int .i64 0] rfl).alloc (w.heap.size + 1) 32 [.int .u8 2,.int .u8 0,.int .i64 0,.string ⟨#[]⟩,.int .i64 c,.int .i64 r,.int .i64 c,.int .i64 r,.int .i64 0,.int .u8 0,.int .i64 0] (by simp))
 go_enter Tryz.func136,Tryz.ntmps136
 go_upto_region 9 with fail
 generalize ((w.alloc (.cells #[.int .u8 2,.int .u8 0,.int .i64 0,.string ⟨#[]⟩,.int .i64 c,.int .i64 r,.int .i64 c,.int .i64 r,.int .i64 0,.int .u8 0,.int .i64 0] 32)).alloc (.cells #[.int .u8 2,.int .u8 0,.int .i64 0,.string ⟨#[]⟩,.int .i64 c,.int .i64 r,.int .i64 c,.int .i64 r,.int .i64 0,.int .u8 0,.int .i64 0] 32)) = W2 at H1 ⊢
 refine wp_region_held_drew (S:=fun W => Ok w [kBlk (w.heap.size + 1) 32 [.int .u8 2,.int .u8 0,.int .i64 0,.string ⟨#[]⟩,.int .i64 c,.int .i64 r,.int .i64 c,.int .i64 r,.int .i64 0,.int .u8 0,.int .i64 0],kBlk (w.heap.size) 32 [.int .u8 2,.int .u8 0,.int .i64 0,.string ⟨#[]⟩,.int .i64 c,.int .i64 r,.int .i64 c,.int .i64 r,.int .i64 0,.int .u8 0,.int .i64 0]] W) (by kernel_rfl) H1.out.drew (fun hHeld => ?_)
 refine tg (i:=0) (v:=?a1) rfl ?b1 (by assumption) ?c1
 case b1 => (intro w hSw; have F:=Ok.sees hSw; clear hSw; simp only [sees,kBlk,cellsAt,Nat.reduceAdd] at F; go_simp; try with_reducible rfl)
 try simp only [Act.put,p1,p2,p3,p4,p6]
 refine tg (i:=1) (v:=?a3) rfl ?b3 (by assumption) ?c3
 case b3 => (intro w hSw; have F:=Ok.sees hSw; clear hSw; simp only [sees,kBlk,cellsAt,Nat.reduceAdd] at F; go_simp; try with_reducible rfl)
 try simp only [Act.put,p1,p2,p3,p4,p5,p6]
 refine tg (i:=2) (v:=?a5) rfl ?b5 (by assumption) ?c5
 case b5 => (intro w hSw; have F:=Ok.sees hSw; clear hSw; simp only [sees,kBlk,cellsAt,Nat.reduceAdd] at F; go_simp; try with_reducible rfl)
 try simp only [Act.put,p1,p2,p3,p4,p5,p6]
 refine tg (i:=3) (v:=?a7) rfl ?b7 (by assumption) ?c7
 case b7 => (intro w hSw; have F:=Ok.sees hSw; clear hSw; simp only [sees,kBlk,cellsAt,Nat.reduceAdd] at F; go_simp; try with_reducible rfl)
 try simp only [Act.put,p1,p2,p3,p4,p5,p6]
 refine tg (i:=4) (v:=?a9) rfl ?b9 (by assumption) ?c9
 case b9 => (intro w hSw; have F:=Ok.sees hSw; clear hSw; simp only [sees,kBlk,cellsAt,Nat.reduceAdd] at F; go_simp; try with_reducible rfl)
 try simp only [Act.put,p1,p2,p3,p4,p5,p6]
 refine tg (i:=5) (v:=?a11) rfl ?b11 (by assumption) ?c11
 case b11 => (intro w hSw; have F:=Ok.sees hSw; clear hSw; simp only [sees,kBlk,cellsAt,Nat.reduceAdd] at F; go_simp; try with_reducible rfl)
 try simp only [Act.put,p1,p2,p3,p4,p5,p6]
 refine wpAnyH_ready (rs:=[6]) (by kernel_rfl) (by simp) ?_
 refine AllReadyH.cons rfl (fun K hK => ?_) AllReadyH.nil
 go_simp
 refine (ref_Check c r c r _).mono ?_
 rintro e w4 ⟨rfl,hb5⟩
 rw [HCE.out]
 go_wp2_with fail
 refine hK.out _ _ (hHeld.below hb5) (fun hHeld => ?_)
 clear hK K
 try simp only [Act.put,p1,p2,p3,p4,p5,p6]
 refine tg (i:=7) (v:=?a14) rfl ?b14 (by assumption) ?c14
 case b14 => (intro w hSw; have F:=Ok.sees hSw; clear hSw; simp only [sees,kBlk,cellsAt,Nat.reduceAdd] at F; go_simp; try with_reducible rfl)
 try simp only [Act.put,p1,p2,p3,p4,p5,p6]
 refine tg (i:=8) (v:=?a16) rfl ?b16 (by assumption) ?c16
 case b16 => (intro w hSw; have F:=Ok.sees hSw; clear hSw; simp only [sees,kBlk,cellsAt,Nat.reduceAdd] at F; go_simp; try with_reducible rfl)
 try simp only [Act.put,p1,p2,p3,p4,p5,p6]
 refine tg (i:=9) (v:=?a18) rfl ?b18 (by assumption) ?c18
 case b18 => (intro w hSw; have F:=Ok.sees hSw; clear hSw; simp only [sees,kBlk,cellsAt,Nat.reduceAdd] at F; go_simp; try with_reducible rfl)
 try simp only [Act.put,p1,p2,p3,p4,p5,p6]
 refine tg (i:=10) (v:=?a20) rfl ?b20 (by assumption) ?c20
 case b20 => (intro w hSw; have F:=Ok.sees hSw; clear hSw; simp only [sees,kBlk,cellsAt,Nat.reduceAdd] at F; go_simp; try with_reducible rfl)
 try simp only [Act.put,p1,p2,p3,p4,p5,p6]
 refine tg (i:=11) (v:=?a22) rfl ?b22 (by assumption) ?c22
 case b22 => (intro w hSw; have F:=Ok.sees hSw; clear hSw; simp only [sees,kBlk,cellsAt,Nat.reduceAdd] at F; go_simp; try with_reducible rfl)
 try simp only [Act.put,p1,p2,p3,p4,p5,p6]
 refine tg (i:=13) (v:=?a24) rfl ?b24 (by assumption) ?c24
 case b24 => (intro w hSw; have F:=Ok.sees hSw; clear hSw; simp only [sees,kBlk,cellsAt,Nat.reduceAdd] at F; go_simp; try with_reducible rfl)
 try simp only [Act.put,p1,p2,p3,p4,p5,p6]
 refine tg (i:=14) (v:=?a26) rfl ?b26 (by assumption) ?c26
 case b26 => (intro w hSw; have F:=Ok.sees hSw; clear hSw; simp only [sees,kBlk,cellsAt,Nat.reduceAdd] at F; go_simp; try with_reducible rfl)
 try simp only [Act.put,p1,p2,p3,p4,p5,p6]
 refine tg (i:=15) (v:=?a28) rfl ?b28 (by assumption) ?c28
 case b28 => (intro w hSw; have F:=Ok.sees hSw; clear hSw; simp only [sees,kBlk,cellsAt,Nat.reduceAdd] at F; go_simp; try with_reducible rfl)
 try simp only [Act.put,p1,p2,p3,p4,p5,p6]
 refine wpAnyH_ready (rs:=[12]) (by kernel_rfl) (by simp) ?_
 refine AllReadyH.cons rfl (fun K hK => ?_) AllReadyH.nil
 go_simp
 refine (one8_yes c r _).mono ?_
 rintro e w6 ⟨rfl,hb7⟩
 go_wp2_with fail
 refine hK.out _ _ (hHeld.below hb7) (fun hHeld => ?_)
 clear hK K
 try simp only [Act.put,p1,p2,p3,p4,p5,p6]
 refine tg (i:=16) (v:=?a31) rfl ?b31 (by assumption) ?c31
 case b31 => (intro w hSw; have F:=Ok.sees hSw; clear hSw; simp only [sees,kBlk,cellsAt,Nat.reduceAdd] at F; go_simp; try with_reducible rfl)
 try simp only [Act.put,p1,p2,p3,p4,p5,p6]
 refine tg (i:=17) (v:=?a33) rfl ?b33 (by assumption) ?c33
 case b33 => (intro w hSw; have F:=Ok.sees hSw; clear hSw; simp only [sees,kBlk,cellsAt,Nat.reduceAdd] at F; go_simp; try with_reducible rfl)
 try simp only [Act.put,p1,p2,p3,p4,p5,p6]
 refine tg (i:=18) (v:=?a35) rfl ?b35 (by assumption) ?c35
 case b35 => (intro w hSw; have F:=Ok.sees hSw; clear hSw; simp only [sees,kBlk,cellsAt,Nat.reduceAdd] at F; go_simp; try with_reducible rfl)
 try simp only [Act.put,p1,p2,p3,p4,p5,p6]
 refine wpAnyH_done (by kernel_rfl) ?_ _
 clear H1
 have H8:=Lib.hid hHeld
 clear hHeld
 go_wp2_with fail
 go_ret
 exact ⟨rfl,H8.out.bel⟩
set_option maxRecDepth 100000 in
set_option maxHeartbeats 4000000 in
theorem fields8_rng (a b c d : Int) (hc : checkB ⟨a,b,c,d⟩ = true) (hne : ¬ (a = c ∧ b = d)) (w : World) :
  Calls Tryz.prog 136 #[.agg #[.int .u8 3,.int .u8 0,.int .i64 0,.string ⟨#[]⟩,.int .i64 a,.int .i64 b,.int .i64 c,.int .i64 d,.int .i64 0,.int .u8 0,.int .i64 0]] w fun e w' => e = .returned (.bool true) ∧ Below w.heap.size w w':=by
 have HCE:=keep (checkE_yes hc)
 have HNE:=keep hne
 clear hc hne
 have H1:=Lib.hid (((Ok.start w).alloc w.heap.size 32 [.int .u8 3,.int .u8 0,.int .i64 0,.string ⟨#[]⟩,.int .i64 a,.int .i64 b,.int .i64 c,.int .i64 d,.int .i64 0,.int .u8 0,.int .i64 0] rfl).alloc (w.heap.size + 1) 32 [.int .u8 3,.int .u8 0,.int .i64 0,.string ⟨#[]⟩,.int .i64 a,.int .i64 b,.int .i64 c,.int .i64 d,.int .i64 0,.int .u8 0,.int .i64 0] (by simp))
 go_enter Tryz.func136,Tryz.ntmps136
 go_upto_region 9 with fail
 generalize ((w.alloc (.cells #[.int .u8 3,.int .u8 0,.int .i64 0,.string ⟨#[]⟩,.int .i64 a,.int .i64 b,.int .i64 c,.int .i64 d,.int .i64 0,.int .u8 0,.int .i64 0] 32)).alloc (.cells #[.int .u8 3,.int .u8 0,.int .i64 0,.string ⟨#[]⟩,.int .i64 a,.int .i64 b,.int .i64 c,.int .i64 d,.int .i64 0,.int .u8 0,.int .i64 0] 32)) = W2 at H1 ⊢
 refine wp_region_held_drew (S:=fun W => Ok w [kBlk (w.heap.size + 1) 32 [.int .u8 3,.int .u8 0,.int .i64 0,.string ⟨#[]⟩,.int .i64 a,.int .i64 b,.int .i64 c,.int .i64 d,.int .i64 0,.int .u8 0,.int .i64 0],kBlk (w.heap.size) 32 [.int .u8 3,.int .u8 0,.int .i64 0,.string ⟨#[]⟩,.int .i64 a,.int .i64 b,.int .i64 c,.int .i64 d,.int .i64 0,.int .u8 0,.int .i64 0]] W) (by kernel_rfl) H1.out.drew (fun hHeld => ?_)
 refine tg (i:=0) (v:=?a37) rfl ?b37 (by assumption) ?c37
 case b37 => (intro w hSw; have F:=Ok.sees hSw; clear hSw; simp only [sees,kBlk,cellsAt,Nat.reduceAdd] at F; go_simp; try with_reducible rfl)
 try simp only [Act.put,p1,p2,p3,p4,p6]
 refine tg (i:=1) (v:=?a39) rfl ?b39 (by assumption) ?c39
 case b39 => (intro w hSw; have F:=Ok.sees hSw; clear hSw; simp only [sees,kBlk,cellsAt,Nat.reduceAdd] at F; go_simp; try with_reducible rfl)
 try simp only [Act.put,p1,p2,p3,p4,p5,p6]
 refine tg (i:=2) (v:=?a41) rfl ?b41 (by assumption) ?c41
 case b41 => (intro w hSw; have F:=Ok.sees hSw; clear hSw; simp only [sees,kBlk,cellsAt,Nat.reduceAdd] at F; go_simp; try with_reducible rfl)
 try simp only [Act.put,p1,p2,p3,p4,p5,p6]
 refine tg (i:=3) (v:=?a43) rfl ?b43 (by assumption) ?c43
 case b43 => (intro w hSw; have F:=Ok.sees hSw; clear hSw; simp only [sees,kBlk,cellsAt,Nat.reduceAdd] at F; go_simp; try with_reducible rfl)
 try simp only [Act.put,p1,p2,p3,p4,p5,p6]
 refine tg (i:=4) (v:=?a45) rfl ?b45 (by assumption) ?c45
 case b45 => (intro w hSw; have F:=Ok.sees hSw; clear hSw; simp only [sees,kBlk,cellsAt,Nat.reduceAdd] at F; go_simp; try with_reducible rfl)
 try simp only [Act.put,p1,p2,p3,p4,p5,p6]
 refine tg (i:=5) (v:=?a47) rfl ?b47 (by assumption) ?c47
 case b47 => (intro w hSw; have F:=Ok.sees hSw; clear hSw; simp only [sees,kBlk,cellsAt,Nat.reduceAdd] at F; go_simp; try with_reducible rfl)
 try simp only [Act.put,p1,p2,p3,p4,p5,p6]
 refine wpAnyH_ready (rs:=[6]) (by kernel_rfl) (by simp) ?_
 refine AllReadyH.cons rfl (fun K hK => ?_) AllReadyH.nil
 go_simp
 refine (ref_Check a b c d _).mono ?_
 rintro e w4 ⟨rfl,hb5⟩
 rw [HCE.out]
 go_wp2_with fail
 refine hK.out _ _ (hHeld.below hb5) (fun hHeld => ?_)
 clear hK K
 try simp only [Act.put,p1,p2,p3,p4,p5,p6]
 refine tg (i:=7) (v:=?a50) rfl ?b50 (by assumption) ?c50
 case b50 => (intro w hSw; have F:=Ok.sees hSw; clear hSw; simp only [sees,kBlk,cellsAt,Nat.reduceAdd] at F; go_simp; try with_reducible rfl)
 try simp only [Act.put,p1,p2,p3,p4,p5,p6]
 refine tg (i:=8) (v:=?a52) rfl ?b52 (by assumption) ?c52
 case b52 => (intro w hSw; have F:=Ok.sees hSw; clear hSw; simp only [sees,kBlk,cellsAt,Nat.reduceAdd] at F; go_simp; try with_reducible rfl)
 try simp only [Act.put,p1,p2,p3,p4,p5,p6]
 refine tg (i:=9) (v:=?a54) rfl ?b54 (by assumption) ?c54
 case b54 => (intro w hSw; have F:=Ok.sees hSw; clear hSw; simp only [sees,kBlk,cellsAt,Nat.reduceAdd] at F; go_simp; try with_reducible rfl)
 try simp only [Act.put,p1,p2,p3,p4,p5,p6]
 refine tg (i:=10) (v:=?a56) rfl ?b56 (by assumption) ?c56
 case b56 => (intro w hSw; have F:=Ok.sees hSw; clear hSw; simp only [sees,kBlk,cellsAt,Nat.reduceAdd] at F; go_simp; try with_reducible rfl)
 try simp only [Act.put,p1,p2,p3,p4,p5,p6]
 refine tg (i:=11) (v:=?a58) rfl ?b58 (by assumption) ?c58
 case b58 => (intro w hSw; have F:=Ok.sees hSw; clear hSw; simp only [sees,kBlk,cellsAt,Nat.reduceAdd] at F; go_simp; try with_reducible rfl)
 try simp only [Act.put,p1,p2,p3,p4,p5,p6]
 refine tg (i:=13) (v:=?a60) rfl ?b60 (by assumption) ?c60
 case b60 => (intro w hSw; have F:=Ok.sees hSw; clear hSw; simp only [sees,kBlk,cellsAt,Nat.reduceAdd] at F; go_simp; try with_reducible rfl)
 try simp only [Act.put,p1,p2,p3,p4,p5,p6]
 refine tg (i:=14) (v:=?a62) rfl ?b62 (by assumption) ?c62
 case b62 => (intro w hSw; have F:=Ok.sees hSw; clear hSw; simp only [sees,kBlk,cellsAt,Nat.reduceAdd] at F; go_simp; try with_reducible rfl)
 try simp only [Act.put,p1,p2,p3,p4,p5,p6]
 refine tg (i:=15) (v:=?a64) rfl ?b64 (by assumption) ?c64
 case b64 => (intro w hSw; have F:=Ok.sees hSw; clear hSw; simp only [sees,kBlk,cellsAt,Nat.reduceAdd] at F; go_simp; try with_reducible rfl)
 try simp only [Act.put,p1,p2,p3,p4,p5,p6]
 refine wpAnyH_ready (rs:=[12]) (by kernel_rfl) (by simp) ?_
 refine AllReadyH.cons rfl (fun K hK => ?_) AllReadyH.nil
 go_simp
 refine (one8_no a b c d HNE.out _).mono ?_
 rintro e w6 ⟨rfl,hb7⟩
 go_wp2_with fail
 refine hK.out _ _ (hHeld.below hb7) (fun hHeld => ?_)
 clear hK K
 try simp only [Act.put,p1,p2,p3,p4,p5,p6]
 refine tg (i:=16) (v:=?a67) rfl ?b67 (by assumption) ?c67
 case b67 => (intro w hSw; have F:=Ok.sees hSw; clear hSw; simp only [sees,kBlk,cellsAt,Nat.reduceAdd] at F; go_simp; try with_reducible rfl)
 try simp only [Act.put,p1,p2,p3,p4,p5,p6]
 refine tg (i:=17) (v:=?a69) rfl ?b69 (by assumption) ?c69
 case b69 => (intro w hSw; have F:=Ok.sees hSw; clear hSw; simp only [sees,kBlk,cellsAt,Nat.reduceAdd] at F; go_simp; try with_reducible rfl)
 try simp only [Act.put,p1,p2,p3,p4,p5,p6]
 refine tg (i:=18) (v:=?a71) rfl ?b71 (by assumption) ?c71
 case b71 => (intro w hSw; have F:=Ok.sees hSw; clear hSw; simp only [sees,kBlk,cellsAt,Nat.reduceAdd] at F; go_simp; try with_reducible rfl)
 try simp only [Act.put,p1,p2,p3,p4,p5,p6]
 refine wpAnyH_done (by kernel_rfl) ?_ _
 clear H1
 have H8:=Lib.hid hHeld
 clear hHeld
 go_wp2_with fail
 go_ret
 exact ⟨rfl,H8.out.bel⟩
set_option maxRecDepth 100000 in
set_option maxHeartbeats 4000000 in
theorem fields8_call (fn k : Nat) (w : World) :
  Calls Tryz.prog 136 #[.agg #[.int .u8 7,.int .u8 0,.int .i64 0,.string ⟨#[]⟩,.int .i64 0,.int .i64 0,.int .i64 0,.int .i64 0,.int .i64 0,.int .u8 (fn : Nat),.int .i64 (k : Nat)]] w fun e w' => e = .returned (.bool true) ∧ Below w.heap.size w w':=by
 have hk : (0 : Int) ≤ (k : Int):=by omega
 have H1:=Lib.hid (((Ok.start w).alloc w.heap.size 32 [.int .u8 7,.int .u8 0,.int .i64 0,.string ⟨#[]⟩,.int .i64 0,.int .i64 0,.int .i64 0,.int .i64 0,.int .i64 0,.int .u8 (fn : Nat),.int .i64 (k : Nat)] rfl).var (w.heap.size + 1) 32 [.int .u8 7,.int .u8 0,.int .i64 0,.string ⟨#[]⟩,.int .i64 0,.int .i64 0,.int .i64 0,.int .i64 0,.int .i64 0,.int .u8 0,.int .i64 0] (by simp))
 go_enter Tryz.func136,Tryz.ntmps136
 go_upto_region 17 with fail
 generalize ((w.alloc (.cells #[.int .u8 7,.int .u8 0,.int .i64 0,.string ⟨#[]⟩,.int .i64 0,.int .i64 0,.int .i64 0,.int .i64 0,.int .i64 0,.int .u8 (fn : Nat),.int .i64 (k : Nat)] 32)).alloc (.cells #[.int .u8 7,.int .u8 0,.int .i64 0,.string ⟨#[]⟩,.int .i64 0,.int .i64 0,.int .i64 0,.int .i64 0,.int .i64 0,.int .u8 0,.int .i64 0] 32)) = W2 at H1 ⊢
 have F3:=H1.out.sees
 simp only [sees,kBlk,kVar,cellsAt,Nat.reduceAdd] at F3
 obtain ⟨⟨⟨z0,fz0⟩,c0_0,c0_1,c0_2,c0_3,c0_4,c0_5,c0_6,c0_7,c0_8,c0_9,c0_10,-⟩,⟨z1,c1_0,c1_1,c1_2,c1_3,c1_4,c1_5,c1_6,c1_7,c1_8,c1_9,c1_10,-⟩,-⟩:=F3
 go_region
 clear z0 fz0 c0_0 c0_1 c0_2 c0_3 c0_4 c0_5 c0_6 c0_7 c0_8 c0_9 c0_10 z1 c1_0 c1_1 c1_2 c1_3 c1_4 c1_5 c1_6 c1_7 c1_8 c1_9 c1_10
 have hfar : ∀ x ∈ [kBlk (w.heap.size) 32 [.int .u8 7,.int .u8 0,.int .i64 0,.string ⟨#[]⟩,.int .i64 0,.int .i64 0,.int .i64 0,.int .i64 0,.int .i64 0,.int .u8 (fn : Nat),.int .i64 (k : Nat)]],x.far (some (w.heap.size + 1)):=by
  intro x hx
  simp at hx
  subst hx
  show some w.heap.size ≠ some (w.heap.size + 1)
  simp
 have H5:=Lib.hid (((H1.out.set_ (i:=9) (u:=.int .u8 (fn : Nat)) (by omega) hfar).set_ (i:=10) (u:=.int .i64 (k : Nat)) (by omega) hfar).drew)
 clear hfar H1
 have H6 : Hid (Ok w [kVar (w.heap.size + 1) 32 [.int .u8 7,.int .u8 0,.int .i64 0,.string ⟨#[]⟩,.int .i64 0,.int .i64 0,.int .i64 0,.int .i64 0,.int .i64 0,.int .u8 (fn : Nat),.int .i64 (k : Nat)],kBlk (w.heap.size) 32 [.int .u8 7,.int .u8 0,.int .i64 0,.string ⟨#[]⟩,.int .i64 0,.int .i64 0,.int .i64 0,.int .i64 0,.int .i64 0,.int .u8 (fn : Nat),.int .i64 (k : Nat)]] ((W2.setCell ⟨w.heap.size + 1,9,none⟩ (.int .u8 (fn : Nat))).setCell ⟨w.heap.size + 1,10,none⟩ (.int .i64 (k : Nat))).drew):=H5
 clear H5
 generalize ((W2.setCell ⟨w.heap.size + 1,9,none⟩ (.int .u8 (fn : Nat))).setCell ⟨w.heap.size + 1,10,none⟩ (.int .i64 (k : Nat))).drew = W9 at H6 ⊢
 have F4:=H6.out.sees
 simp only [sees,kBlk,kVar,cellsAt,Nat.reduceAdd] at F4
 obtain ⟨⟨⟨z0,fz0⟩,c0_0,c0_1,c0_2,c0_3,c0_4,c0_5,c0_6,c0_7,c0_8,c0_9,c0_10,-⟩,⟨z1,c1_0,c1_1,c1_2,c1_3,c1_4,c1_5,c1_6,c1_7,c1_8,c1_9,c1_10,-⟩,-⟩:=F4
 go_wp2_with fail
 go_ret
 exact ⟨rfl,H6.out.bel⟩
theorem ref8_fields (n : Nd) (h : goodNd n) (w : World) :
  Calls Tryz.prog 136 #[ndA n] w fun e w' => e = .returned (.bool true) ∧ Below w.heap.size w w':=by
 rcases h with ⟨vk,vn,vt,rfl,hv⟩ | ⟨⟨a,b,c,d⟩,rfl,hc,h1,h2⟩ | ⟨⟨a,b,c,d⟩,rfl,hc,hne⟩ | rfl | rfl | ⟨op,rfl,h1,h2⟩ | ⟨fn,k,rfl,h1,h2,h3,h4⟩
 ·rcases hv with ⟨rfl,h1,rfl⟩ | ⟨rfl,h1 | h1,rfl⟩ | ⟨rfl,rfl,h1,h2⟩ | ⟨rfl,⟨h1,h2⟩,rfl⟩
  ·exact fields8_num vn h1 w
  ·subst h1; exact fields8_no w
  ·subst h1; exact fields8_yes w
  ·exact fields8_txt vt h1 h2 w
  ·exact fields8_err vn h1 h2 w
 ·simp only [] at h1 h2
  subst h1 h2
  exact fields8_ref a b hc w
 ·exact fields8_rng a b c d hc hne w
 ·exact fields8_neg w
 ·exact fields8_pct w
 ·exact fields8_bin op h1 h2 w
 ·exact fields8_call fn k w
def fitB (p : Nd) (i k : Nat) : Bool:=if p.kind ≠ 7 then decide (k ≠ 3) else if 46 ≤ p.fn then decide (k = 3 ∨ k = 2) else (decide (k ≠ 3) || wideS p.fn i)
set_option maxRecDepth 100000 in
set_option maxHeartbeats 4000000 in
theorem ref8_fits (p n : Nd) (i : Nat) (w : World) :
  Calls Tryz.prog 140 #[ndA p,.int .i64 (i : Nat),ndA n] w fun e w' => e = .returned (.bool (fitB p i n.kind)) ∧ Below w.heap.size w w':=by
 obtain ⟨pk,pvk,pvn,pvt,⟨p1,p2,p3,p4⟩,pop,pfn,pn⟩:=p
 obtain ⟨nk,nvk,nvn,nvt,⟨n1,n2,n3,n4⟩,nop,nfn,nn⟩:=n
 unfold ndA ndRow
 simp only []
 obtain ⟨R,hR⟩ : ∃ R,fitB ⟨pk,pvk,pvn,pvt,⟨p1,p2,p3,p4⟩,pop,pfn,pn⟩ i nk = R:=⟨_,rfl⟩
 rw [hR]
 unfold fitB at hR
 simp only [] at hR
 have HR:=keep hR
 clear hR
 by_cases h7 : pk ≠ 7
 ·by_cases h3 : nk = 3
  ·have hR:=HR.out
   rw [if_pos h7,decide_eq_false (by omega)] at hR
   subst hR
   clear HR
   subst h3
   have e7 : ((pk : Int) != 7) = true:=by simp; omega
   have H1:=Lib.hid (((Ok.start w).alloc w.heap.size 32 [.int .u8 pk,.int .u8 pvk,.int .i64 pvn,.string ⟨pvt.toArray⟩,.int .i64 p1,.int .i64 p2,.int .i64 p3,.int .i64 p4,.int .i64 pop,.int .u8 pfn,.int .i64 (pn : Nat)] rfl).alloc (w.heap.size + 1) 32 [.int .u8 3,.int .u8 nvk,.int .i64 nvn,.string ⟨nvt.toArray⟩,.int .i64 n1,.int .i64 n2,.int .i64 n3,.int .i64 n4,.int .i64 nop,.int .u8 nfn,.int .i64 (nn : Nat)] (by simp))
   go_enter Tryz.func140,Tryz.ntmps140
   go_wp2_with fail
   generalize ((w.alloc (.cells #[.int .u8 pk,.int .u8 pvk,.int .i64 pvn,.string ⟨pvt.toArray⟩,.int .i64 p1,.int .i64 p2,.int .i64 p3,.int .i64 p4,.int .i64 pop,.int .u8 pfn,.int .i64 (pn : Nat)] 32)).alloc (.cells #[.int .u8 3,.int .u8 nvk,.int .i64 nvn,.string ⟨nvt.toArray⟩,.int .i64 n1,.int .i64 n2,.int .i64 n3,.int .i64 n4,.int .i64 nop,.int .u8 nfn,.int .i64 (nn : Nat)] 32)) = W2 at H1 ⊢
   go_ret
   exact ⟨by first | rfl | simp,H1.out.bel⟩
  ·have hR:=HR.out
   rw [if_pos h7,decide_eq_true h3] at hR
   subst hR
   clear HR
   have e7 : ((pk : Int) != 7) = true:=by simp; omega
   have e3 : ((nk : Int) != 3) = true:=by simp; omega
   have H1:=Lib.hid (((Ok.start w).alloc w.heap.size 32 [.int .u8 pk,.int .u8 pvk,.int .i64 pvn,.string ⟨pvt.toArray⟩,.int .i64 p1,.int .i64 p2,.int .i64 p3,.int .i64 p4,.int .i64 pop,.int .u8 pfn,.int .i64 (pn : Nat)] rfl).alloc (w.heap.size + 1) 32 [.int .u8 nk,.int .u8 nvk,.int .i64 nvn,.string ⟨nvt.toArray⟩,.int .i64 n1,.int .i64 n2,.int .i64 n3,.int .i64 n4,.int .i64 nop,.int .u8 nfn,.int .i64 (nn : Nat)] (by simp))
   go_enter Tryz.func140,Tryz.ntmps140
   go_wp2_with fail
   generalize ((w.alloc (.cells #[.int .u8 pk,.int .u8 pvk,.int .i64 pvn,.string ⟨pvt.toArray⟩,.int .i64 p1,.int .i64 p2,.int .i64 p3,.int .i64 p4,.int .i64 pop,.int .u8 pfn,.int .i64 (pn : Nat)] 32)).alloc (.cells #[.int .u8 nk,.int .u8 nvk,.int .i64 nvn,.string ⟨nvt.toArray⟩,.int .i64 n1,.int .i64 n2,.int .i64 n3,.int .i64 n4,.int .i64 nop,.int .u8 nfn,.int .i64 (nn : Nat)] 32)) = W2 at H1 ⊢
   go_ret
   exact ⟨by first | rfl | simp,H1.out.bel⟩
 ·by_cases h46 : 46 ≤ pfn
  ·by_cases h3 : nk = 3
   ·have hR:=HR.out
    rw [if_neg h7,if_pos h46,decide_eq_true (.inl h3)] at hR
    subst hR
    clear HR
    obtain rfl : pk = 7:=by omega
    subst h3
    have e46 : (46 : Int) ≤ (pfn : Int):=by omega
    have H1:=Lib.hid (((Ok.start w).alloc w.heap.size 32 [.int .u8 7,.int .u8 pvk,.int .i64 pvn,.string ⟨pvt.toArray⟩,.int .i64 p1,.int .i64 p2,.int .i64 p3,.int .i64 p4,.int .i64 pop,.int .u8 pfn,.int .i64 (pn : Nat)] rfl).alloc (w.heap.size + 1) 32 [.int .u8 3,.int .u8 nvk,.int .i64 nvn,.string ⟨nvt.toArray⟩,.int .i64 n1,.int .i64 n2,.int .i64 n3,.int .i64 n4,.int .i64 nop,.int .u8 nfn,.int .i64 (nn : Nat)] (by simp))
    go_enter Tryz.func140,Tryz.ntmps140
    go_wp2_with fail
    generalize ((w.alloc (.cells #[.int .u8 7,.int .u8 pvk,.int .i64 pvn,.string ⟨pvt.toArray⟩,.int .i64 p1,.int .i64 p2,.int .i64 p3,.int .i64 p4,.int .i64 pop,.int .u8 pfn,.int .i64 (pn : Nat)] 32)).alloc (.cells #[.int .u8 3,.int .u8 nvk,.int .i64 nvn,.string ⟨nvt.toArray⟩,.int .i64 n1,.int .i64 n2,.int .i64 n3,.int .i64 n4,.int .i64 nop,.int .u8 nfn,.int .i64 (nn : Nat)] 32)) = W2 at H1 ⊢
    go_ret
    exact ⟨by first | rfl | simp,H1.out.bel⟩
   ·by_cases h2 : nk = 2
    ·have hR:=HR.out
     rw [if_neg h7,if_pos h46,decide_eq_true (.inr h2)] at hR
     subst hR
     clear HR
     obtain rfl : pk = 7:=by omega
     subst h2
     have e46 : (46 : Int) ≤ (pfn : Int):=by omega
     have H1:=Lib.hid (((Ok.start w).alloc w.heap.size 32 [.int .u8 7,.int .u8 pvk,.int .i64 pvn,.string ⟨pvt.toArray⟩,.int .i64 p1,.int .i64 p2,.int .i64 p3,.int .i64 p4,.int .i64 pop,.int .u8 pfn,.int .i64 (pn : Nat)] rfl).alloc (w.heap.size + 1) 32 [.int .u8 2,.int .u8 nvk,.int .i64 nvn,.string ⟨nvt.toArray⟩,.int .i64 n1,.int .i64 n2,.int .i64 n3,.int .i64 n4,.int .i64 nop,.int .u8 nfn,.int .i64 (nn : Nat)] (by simp))
     go_enter Tryz.func140,Tryz.ntmps140
     go_wp2_with fail
     generalize ((w.alloc (.cells #[.int .u8 7,.int .u8 pvk,.int .i64 pvn,.string ⟨pvt.toArray⟩,.int .i64 p1,.int .i64 p2,.int .i64 p3,.int .i64 p4,.int .i64 pop,.int .u8 pfn,.int .i64 (pn : Nat)] 32)).alloc (.cells #[.int .u8 2,.int .u8 nvk,.int .i64 nvn,.string ⟨nvt.toArray⟩,.int .i64 n1,.int .i64 n2,.int .i64 n3,.int .i64 n4,.int .i64 nop,.int .u8 nfn,.int .i64 (nn : Nat)] 32)) = W2 at H1 ⊢
     go_ret
     exact ⟨by first | rfl | simp,H1.out.bel⟩
    ·have hR:=HR.out
     rw [if_neg h7,if_pos h46,decide_eq_false (by omega)] at hR
     subst hR
     clear HR
     obtain rfl : pk = 7:=by omega
     have e46 : (46 : Int) ≤ (pfn : Int):=by omega
     have e3 : ((nk : Int) == 3) = false:=by simp; omega
     have e2 : ((nk : Int) == 2) = false:=by simp; omega
     have H1:=Lib.hid (((Ok.start w).alloc w.heap.size 32 [.int .u8 7,.int .u8 pvk,.int .i64 pvn,.string ⟨pvt.toArray⟩,.int .i64 p1,.int .i64 p2,.int .i64 p3,.int .i64 p4,.int .i64 pop,.int .u8 pfn,.int .i64 (pn : Nat)] rfl).alloc (w.heap.size + 1) 32 [.int .u8 nk,.int .u8 nvk,.int .i64 nvn,.string ⟨nvt.toArray⟩,.int .i64 n1,.int .i64 n2,.int .i64 n3,.int .i64 n4,.int .i64 nop,.int .u8 nfn,.int .i64 (nn : Nat)] (by simp))
     go_enter Tryz.func140,Tryz.ntmps140
     go_wp2_with fail
     generalize ((w.alloc (.cells #[.int .u8 7,.int .u8 pvk,.int .i64 pvn,.string ⟨pvt.toArray⟩,.int .i64 p1,.int .i64 p2,.int .i64 p3,.int .i64 p4,.int .i64 pop,.int .u8 pfn,.int .i64 (pn : Nat)] 32)).alloc (.cells #[.int .u8 nk,.int .u8 nvk,.int .i64 nvn,.string ⟨nvt.toArray⟩,.int .i64 n1,.int .i64 n2,.int .i64 n3,.int .i64 n4,.int .i64 nop,.int .u8 nfn,.int .i64 (nn : Nat)] 32)) = W2 at H1 ⊢
     go_ret
     exact ⟨by first | rfl | simp,H1.out.bel⟩
  ·by_cases h3 : nk = 3
   ·have hR:=HR.out
    rw [if_neg h7,if_neg h46,decide_eq_false (by omega),Bool.false_or] at hR
    subst hR
    clear HR
    obtain rfl : pk = 7:=by omega
    subst h3
    have e46 : ¬ (46 : Int) ≤ (pfn : Int):=by omega
    have H1:=Lib.hid (((Ok.start w).alloc w.heap.size 32 [.int .u8 7,.int .u8 pvk,.int .i64 pvn,.string ⟨pvt.toArray⟩,.int .i64 p1,.int .i64 p2,.int .i64 p3,.int .i64 p4,.int .i64 pop,.int .u8 pfn,.int .i64 (pn : Nat)] rfl).alloc (w.heap.size + 1) 32 [.int .u8 3,.int .u8 nvk,.int .i64 nvn,.string ⟨nvt.toArray⟩,.int .i64 n1,.int .i64 n2,.int .i64 n3,.int .i64 n4,.int .i64 nop,.int .u8 nfn,.int .i64 (nn : Nat)] (by simp))
    go_enter Tryz.func140,Tryz.ntmps140
    go_wp2_with fail
    generalize ((w.alloc (.cells #[.int .u8 7,.int .u8 pvk,.int .i64 pvn,.string ⟨pvt.toArray⟩,.int .i64 p1,.int .i64 p2,.int .i64 p3,.int .i64 p4,.int .i64 pop,.int .u8 pfn,.int .i64 (pn : Nat)] 32)).alloc (.cells #[.int .u8 3,.int .u8 nvk,.int .i64 nvn,.string ⟨nvt.toArray⟩,.int .i64 n1,.int .i64 n2,.int .i64 n3,.int .i64 n4,.int .i64 nop,.int .u8 nfn,.int .i64 (nn : Nat)] 32)) = W2 at H1 ⊢
    refine (r8_Wide pfn i _).mono ?_
    rintro e w5 ⟨rfl,hw⟩
    obtain rfl : W2 = w5:=hw.symm
    have F3:=H1.out.sees
    simp only [sees,kBlk,cellsAt,Nat.reduceAdd] at F3
    obtain ⟨⟨z0,c0_0,c0_1,c0_2,c0_3,c0_4,c0_5,c0_6,c0_7,c0_8,c0_9,c0_10,-⟩,⟨z1,c1_0,c1_1,c1_2,c1_3,c1_4,c1_5,c1_6,c1_7,c1_8,c1_9,c1_10,-⟩,-⟩:=F3
    go_wp2_with fail
    go_ret
    exact ⟨by first | rfl | simp,H1.out.bel⟩
   ·have hR:=HR.out
    rw [if_neg h7,if_neg h46,decide_eq_true h3,Bool.true_or] at hR
    subst hR
    clear HR
    obtain rfl : pk = 7:=by omega
    have e46 : ¬ (46 : Int) ≤ (pfn : Int):=by omega
    have e3 : ((nk : Int) != 3) = true:=by simp; omega
    have H1:=Lib.hid (((Ok.start w).alloc w.heap.size 32 [.int .u8 7,.int .u8 pvk,.int .i64 pvn,.string ⟨pvt.toArray⟩,.int .i64 p1,.int .i64 p2,.int .i64 p3,.int .i64 p4,.int .i64 pop,.int .u8 pfn,.int .i64 (pn : Nat)] rfl).alloc (w.heap.size + 1) 32 [.int .u8 nk,.int .u8 nvk,.int .i64 nvn,.string ⟨nvt.toArray⟩,.int .i64 n1,.int .i64 n2,.int .i64 n3,.int .i64 n4,.int .i64 nop,.int .u8 nfn,.int .i64 (nn : Nat)] (by simp))
    go_enter Tryz.func140,Tryz.ntmps140
    go_wp2_with fail
    generalize ((w.alloc (.cells #[.int .u8 7,.int .u8 pvk,.int .i64 pvn,.string ⟨pvt.toArray⟩,.int .i64 p1,.int .i64 p2,.int .i64 p3,.int .i64 p4,.int .i64 pop,.int .u8 pfn,.int .i64 (pn : Nat)] 32)).alloc (.cells #[.int .u8 nk,.int .u8 nvk,.int .i64 nvn,.string ⟨nvt.toArray⟩,.int .i64 n1,.int .i64 n2,.int .i64 n3,.int .i64 n4,.int .i64 nop,.int .u8 nfn,.int .i64 (nn : Nat)] 32)) = W2 at H1 ⊢
    go_ret
    exact ⟨by first | rfl | simp,H1.out.bel⟩
end Go.Proofs.YtlngjiibbcgkmaaGreatDoor
