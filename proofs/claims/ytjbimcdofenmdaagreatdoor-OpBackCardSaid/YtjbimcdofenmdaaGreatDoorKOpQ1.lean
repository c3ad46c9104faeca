/- The walk of the law OpBack. -/
import Derived.Test.YtjbimcdofenmdaaGreatDoorKOpN
namespace Go.Proofs.YtjbimcdofenmdaaGreatDoor
open Go.RowKit

set_option maxRecDepth 100000 in
set_option maxHeartbeats 4000000 in
theorem back_core_0 (k : Nat) (u x1 y1 x2 y2 : Int) (inp : List UInt8) (a b c f t : Nat) (n : Int) (k2 : Nat) (u2 X1 Y1 X2 Y2 : Int) (inp2 : List UInt8) (a2 b2 c2 f2 t2 : Nat) (n2 : Int) (k3 : Nat) (u3 X3 Y3 X4 Y4 : Int) (inp3 : List UInt8) (a3 b3 c3 f3 t3 : Nat) (n3 : Int) (S : ByteArray) (hi : inp.length ≤ 600) (hs : S.size ≤ 1000) (hi2 : inp2.length ≤ 600) (X Y : ByteArray) (e2 : Int)
    (HFA0 : ∀ w : World, Env6 w → Calls Tryz.prog 11 #[.agg #[.int .u8 (k : Nat), .int .i64 u, .int .i64 x1, .int .i64 y1, .int .i64 x2, .int .i64 y2, .string ⟨inp.toArray⟩, .int .u64 (a : Nat), .int .u64 (b : Nat), .int .u64 (c : Nat), .int .u8 (f : Nat), .int .u64 (t : Nat), .int .i64 n]] w fun e w' => e = .returned (.tuple #[.string X, .int .i64 4]) ∧ Below w.heap.size w w')
    (HFB0 : ∀ w : World, Env6 w → Calls Tryz.prog 11 #[.agg #[.int .u8 (k2 : Nat), .int .i64 u2, .int .i64 X1, .int .i64 Y1, .int .i64 X2, .int .i64 Y2, .string ⟨inp2.toArray⟩, .int .u64 (a2 : Nat), .int .u64 (b2 : Nat), .int .u64 (c2 : Nat), .int .u8 (f2 : Nat), .int .u64 (t2 : Nat), .int .i64 n2]] w fun e w' => e = .returned (.tuple #[.string Y, .int .i64 e2]) ∧ Below w.heap.size w w')
    (HCA0 : ∀ w : World, Env6 w → Calls Tryz.prog 13 #[.agg #[.int .u8 (k : Nat), .int .i64 u, .int .i64 x1, .int .i64 y1, .int .i64 x2, .int .i64 y2, .string ⟨inp.toArray⟩, .int .u64 (a : Nat), .int .u64 (b : Nat), .int .u64 (c : Nat), .int .u8 (f : Nat), .int .u64 (t : Nat), .int .i64 n]] w fun e w' => e = .returned (.int .i64 4) ∧ Below w.heap.size w w')
    (HT0 : (∀ w : World, Env6 w → Calls Tryz.prog 19 #[.string S] w fun e w' => e = .returned (.tuple #[.agg #[.int .u8 0, .int .i64 0, .int .i64 0, .int .i64 0, .int .i64 0, .int .i64 0, .string ⟨#[]⟩, .int .u64 0, .int .u64 0, .int .u64 0, .int .u8 0, .int .u64 0, .int .i64 0], .int .i64 4]) ∧ Below w.heap.size w w') ∨ ((∀ w : World, Env6 w → Calls Tryz.prog 19 #[.string S] w fun e w' => e = .returned (.tuple #[.agg #[.int .u8 (k3 : Nat), .int .i64 u3, .int .i64 X3, .int .i64 Y3, .int .i64 X4, .int .i64 Y4, .string ⟨inp3.toArray⟩, .int .u64 (a3 : Nat), .int .u64 (b3 : Nat), .int .u64 (c3 : Nat), .int .u8 (f3 : Nat), .int .u64 (t3 : Nat), .int .i64 n3], .int .i64 0]) ∧ Below w.heap.size w w') ∧ (∀ w : World, Env6 w → Calls Tryz.prog 11 #[.agg #[.int .u8 (k3 : Nat), .int .i64 u3, .int .i64 X3, .int .i64 Y3, .int .i64 X4, .int .i64 Y4, .string ⟨inp3.toArray⟩, .int .u64 (a3 : Nat), .int .u64 (b3 : Nat), .int .u64 (c3 : Nat), .int .u8 (f3 : Nat), .int .u64 (t3 : Nat), .int .i64 n3]] w fun e w' => e = .returned (.tuple #[.string S, .int .i64 0]) ∧ Below w.heap.size w w') ∧ (∀ w : World, Env6 w → Calls Tryz.prog 13 #[.agg #[.int .u8 (k3 : Nat), .int .i64 u3, .int .i64 X3, .int .i64 Y3, .int .i64 X4, .int .i64 Y4, .string ⟨inp3.toArray⟩, .int .u64 (a3 : Nat), .int .u64 (b3 : Nat), .int .u64 (c3 : Nat), .int .u8 (f3 : Nat), .int .u64 (t3 : Nat), .int .i64 n3]] w fun e w' => e = .returned (.int .i64 0) ∧ Below w.heap.size w w'))) (w : World) (he : Env6 w) :
    Calls Tryz.prog 6 #[.agg #[.int .u8 (k : Nat), .int .i64 u, .int .i64 x1, .int .i64 y1, .int .i64 x2, .int .i64 y2, .string ⟨inp.toArray⟩, .int .u64 (a : Nat), .int .u64 (b : Nat), .int .u64 (c : Nat), .int .u8 (f : Nat), .int .u64 (t : Nat), .int .i64 n], .agg #[.int .u8 (k2 : Nat), .int .i64 u2, .int .i64 X1, .int .i64 Y1, .int .i64 X2, .int .i64 Y2, .string ⟨inp2.toArray⟩, .int .u64 (a2 : Nat), .int .u64 (b2 : Nat), .int .u64 (c2 : Nat), .int .u8 (f2 : Nat), .int .u64 (t2 : Nat), .int .i64 n2], .string S] w fun e w' => e = .returned (.bool true) ∧ Below w.heap.size w w' := by
  have HE := keep he
  clear he
  have HFA := keep HFA0
  clear HFA0
  have HFB := keep HFB0
  clear HFB0
  have HCA := keep HCA0
  clear HCA0
  have HT := keep HT0
  clear HT0
  have gi : ¬ (inp.length : Int) > 600 := by omega
  have gs : ¬ (S.size : Int) > 1000 := by omega
  clear hi hs
  have gi2 : ¬ (inp2.length : Int) > 600 := by omega
  clear hi2
  have H1 := Lib.hid (((Ok.start w).alloc w.heap.size 28 [.int .u8 (k : Nat), .int .i64 u, .int .i64 x1, .int .i64 y1, .int .i64 x2, .int .i64 y2, .string ⟨inp.toArray⟩, .int .u64 (a : Nat), .int .u64 (b : Nat), .int .u64 (c : Nat), .int .u8 (f : Nat), .int .u64 (t : Nat), .int .i64 n] rfl).alloc (w.heap.size + 1) 28 [.int .u8 (k2 : Nat), .int .i64 u2, .int .i64 X1, .int .i64 Y1, .int .i64 X2, .int .i64 Y2, .string ⟨inp2.toArray⟩, .int .u64 (a2 : Nat), .int .u64 (b2 : Nat), .int .u64 (c2 : Nat), .int .u8 (f2 : Nat), .int .u64 (t2 : Nat), .int .i64 n2] (by simp))
  go_enter Tryz.func6, Tryz.ntmps6
  go_upto_region 1 with fail
  generalize ((w.alloc (.cells #[.int .u8 (k : Nat), .int .i64 u, .int .i64 x1, .int .i64 y1, .int .i64 x2, .int .i64 y2, .string ⟨inp.toArray⟩, .int .u64 (a : Nat), .int .u64 (b : Nat), .int .u64 (c : Nat), .int .u8 (f : Nat), .int .u64 (t : Nat), .int .i64 n] 28)).alloc (.cells #[.int .u8 (k2 : Nat), .int .i64 u2, .int .i64 X1, .int .i64 Y1, .int .i64 X2, .int .i64 Y2, .string ⟨inp2.toArray⟩, .int .u64 (a2 : Nat), .int .u64 (b2 : Nat), .int .u64 (c2 : Nat), .int .u8 (f2 : Nat), .int .u64 (t2 : Nat), .int .i64 n2] 28)) = W2 at H1 ⊢
  have F3 := H1.out.sees
  simp only [sees, kBlk, cellsAt, Nat.reduceAdd] at F3
  obtain ⟨⟨z0, c0_0, c0_1, c0_2, c0_3, c0_4, c0_5, c0_6, c0_7, c0_8, c0_9, c0_10, c0_11, c0_12, -⟩, ⟨z1, c1_0, c1_1, c1_2, c1_3, c1_4, c1_5, c1_6, c1_7, c1_8, c1_9, c1_10, c1_11, c1_12, -⟩, -⟩ := F3
  go_wp2_with fail
  refine (HFA.out _ (HE.out.below H1.out.bel)).mono ?_
  rintro e w4 ⟨rfl, hb5⟩
  clear z0 c0_0 c0_1 c0_2 c0_3 c0_4 c0_5 c0_6 c0_7 c0_8 c0_9 c0_10 c0_11 c0_12 z1 c1_0 c1_1 c1_2 c1_3 c1_4 c1_5 c1_6 c1_7 c1_8 c1_9 c1_10 c1_11 c1_12
  have H6 := Lib.hid (H1.out.below hb5)
  clear hb5 H1
  have F7 := H6.out.sees
  simp only [sees, kBlk, cellsAt, Nat.reduceAdd] at F7
  obtain ⟨⟨z0, c0_0, c0_1, c0_2, c0_3, c0_4, c0_5, c0_6, c0_7, c0_8, c0_9, c0_10, c0_11, c0_12, -⟩, ⟨z1, c1_0, c1_1, c1_2, c1_3, c1_4, c1_5, c1_6, c1_7, c1_8, c1_9, c1_10, c1_11, c1_12, -⟩, -⟩ := F7
  go_wp2_with fail
  refine (HFB.out _ (HE.out.below H6.out.bel)).mono ?_
  rintro e w8 ⟨rfl, hb9⟩
  clear z0 c0_0 c0_1 c0_2 c0_3 c0_4 c0_5 c0_6 c0_7 c0_8 c0_9 c0_10 c0_11 c0_12 z1 c1_0 c1_1 c1_2 c1_3 c1_4 c1_5 c1_6 c1_7 c1_8 c1_9 c1_10 c1_11 c1_12
  have H10 := Lib.hid (H6.out.below hb9)
  clear hb9 H6
  have F11 := H10.out.sees
  simp only [sees, kBlk, cellsAt, Nat.reduceAdd] at F11
  obtain ⟨⟨z0, c0_0, c0_1, c0_2, c0_3, c0_4, c0_5, c0_6, c0_7, c0_8, c0_9, c0_10, c0_11, c0_12, -⟩, ⟨z1, c1_0, c1_1, c1_2, c1_3, c1_4, c1_5, c1_6, c1_7, c1_8, c1_9, c1_10, c1_11, c1_12, -⟩, -⟩ := F11
  go_wp2_with fail
  refine (HCA.out _ (HE.out.below H10.out.bel)).mono ?_
  rintro e w12 ⟨rfl, hb13⟩
  clear z0 c0_0 c0_1 c0_2 c0_3 c0_4 c0_5 c0_6 c0_7 c0_8 c0_9 c0_10 c0_11 c0_12 z1 c1_0 c1_1 c1_2 c1_3 c1_4 c1_5 c1_6 c1_7 c1_8 c1_9 c1_10 c1_11 c1_12
  have H14 := Lib.hid (H10.out.below hb13)
  clear hb13 H10
  have F15 := H14.out.sees
  simp only [sees, kBlk, cellsAt, Nat.reduceAdd] at F15
  obtain ⟨⟨z0, c0_0, c0_1, c0_2, c0_3, c0_4, c0_5, c0_6, c0_7, c0_8, c0_9, c0_10, c0_11, c0_12, -⟩, ⟨z1, c1_0, c1_1, c1_2, c1_3, c1_4, c1_5, c1_6, c1_7, c1_8, c1_9, c1_10, c1_11, c1_12, -⟩, -⟩ := F15
  go_wp2_with fail
  rcases HT.out with HT0 | HT0
  · have HPN := keep HT0
    clear HT0 HT
    refine (HPN.out _ (HE.out.below H14.out.bel)).mono ?_
    rintro e w16 ⟨rfl, hb17⟩
    clear z0 c0_0 c0_1 c0_2 c0_3 c0_4 c0_5 c0_6 c0_7 c0_8 c0_9 c0_10 c0_11 c0_12 z1 c1_0 c1_1 c1_2 c1_3 c1_4 c1_5 c1_6 c1_7 c1_8 c1_9 c1_10 c1_11 c1_12
    have H18 := Lib.hid (H14.out.below hb17)
    clear hb17 H14
    go_upto_region 19 with fail
    have H19 := Lib.hid (H18.out.alloc w16.heap.size 28 [.int .u8 0, .int .i64 0, .int .i64 0, .int .i64 0, .int .i64 0, .int .i64 0, .string ⟨#[]⟩, .int .u64 0, .int .u64 0, .int .u64 0, .int .u8 0, .int .u64 0, .int .i64 0] rfl)
    clear H18
    generalize (w16.alloc (.cells #[.int .u8 0, .int .i64 0, .int .i64 0, .int .i64 0, .int .i64 0, .int .i64 0, .string ⟨#[]⟩, .int .u64 0, .int .u64 0, .int .u64 0, .int .u8 0, .int .u64 0, .int .i64 0] 28)) = W20 at H19 ⊢
    have F21 := H19.out.sees
    simp only [sees, kBlk, cellsAt, Nat.reduceAdd] at F21
    obtain ⟨⟨z0, c0_0, c0_1, c0_2, c0_3, c0_4, c0_5, c0_6, c0_7, c0_8, c0_9, c0_10, c0_11, c0_12, -⟩, ⟨z1, c1_0, c1_1, c1_2, c1_3, c1_4, c1_5, c1_6, c1_7, c1_8, c1_9, c1_10, c1_11, c1_12, -⟩, ⟨z2, c2_0, c2_1, c2_2, c2_3, c2_4, c2_5, c2_6, c2_7, c2_8, c2_9, c2_10, c2_11, c2_12, -⟩, -⟩ := F21
    go_wp2_with fail
    refine (law_known _ (HE.out.below H19.out.bel)).mono ?_
    rintro e w22 ⟨rfl, hb23⟩
    clear z0 c0_0 c0_1 c0_2 c0_3 c0_4 c0_5 c0_6 c0_7 c0_8 c0_9 c0_10 c0_11 c0_12 z1 c1_0 c1_1 c1_2 c1_3 c1_4 c1_5 c1_6 c1_7 c1_8 c1_9 c1_10 c1_11 c1_12 z2 c2_0 c2_1 c2_2 c2_3 c2_4 c2_5 c2_6 c2_7 c2_8 c2_9 c2_10 c2_11 c2_12
    have H24 := Lib.hid (H19.out.below hb23)
    clear hb23 H19
    go_wp2_with fail
    go_ret
    exact ⟨rfl, H24.out.bel⟩
  · have HPS := keep HT0
    clear HT0 HT
    refine (HPS.out.1 _ (HE.out.below H14.out.bel)).mono ?_
    rintro e w16 ⟨rfl, hb17⟩
    clear z0 c0_0 c0_1 c0_2 c0_3 c0_4 c0_5 c0_6 c0_7 c0_8 c0_9 c0_10 c0_11 c0_12 z1 c1_0 c1_1 c1_2 c1_3 c1_4 c1_5 c1_6 c1_7 c1_8 c1_9 c1_10 c1_11 c1_12
    have H18 := Lib.hid (H14.out.below hb17)
    clear hb17 H14
    go_upto_region 19 with fail
    have H19 := Lib.hid (H18.out.alloc w16.heap.size 28 [.int .u8 (k3 : Nat), .int .i64 u3, .int .i64 X3, .int .i64 Y3, .int .i64 X4, .int .i64 Y4, .string ⟨inp3.toArray⟩, .int .u64 (a3 : Nat), .int .u64 (b3 : Nat), .int .u64 (c3 : Nat), .int .u8 (f3 : Nat), .int .u64 (t3 : Nat), .int .i64 n3] rfl)
    clear H18
    generalize (w16.alloc (.cells #[.int .u8 (k3 : Nat), .int .i64 u3, .int .i64 X3, .int .i64 Y3, .int .i64 X4, .int .i64 Y4, .string ⟨inp3.toArray⟩, .int .u64 (a3 : Nat), .int .u64 (b3 : Nat), .int .u64 (c3 : Nat), .int .u8 (f3 : Nat), .int .u64 (t3 : Nat), .int .i64 n3] 28)) = W20 at H19 ⊢
    have F21 := H19.out.sees
    simp only [sees, kBlk, cellsAt, Nat.reduceAdd] at F21
    obtain ⟨⟨z0, c0_0, c0_1, c0_2, c0_3, c0_4, c0_5, c0_6, c0_7, c0_8, c0_9, c0_10, c0_11, c0_12, -⟩, ⟨z1, c1_0, c1_1, c1_2, c1_3, c1_4, c1_5, c1_6, c1_7, c1_8, c1_9, c1_10, c1_11, c1_12, -⟩, ⟨z2, c2_0, c2_1, c2_2, c2_3, c2_4, c2_5, c2_6, c2_7, c2_8, c2_9, c2_10, c2_11, c2_12, -⟩, -⟩ := F21
    go_wp2_with fail
    refine (HPS.out.2.1 _ (HE.out.below H19.out.bel)).mono ?_
    rintro e w22 ⟨rfl, hb23⟩
    clear z0 c0_0 c0_1 c0_2 c0_3 c0_4 c0_5 c0_6 c0_7 c0_8 c0_9 c0_10 c0_11 c0_12 z1 c1_0 c1_1 c1_2 c1_3 c1_4 c1_5 c1_6 c1_7 c1_8 c1_9 c1_10 c1_11 c1_12 z2 c2_0 c2_1 c2_2 c2_3 c2_4 c2_5 c2_6 c2_7 c2_8 c2_9 c2_10 c2_11 c2_12
    have H24 := Lib.hid (H19.out.below hb23)
    clear hb23 H19
    have F25 := H24.out.sees
    simp only [sees, kBlk, cellsAt, Nat.reduceAdd] at F25
    obtain ⟨⟨z0, c0_0, c0_1, c0_2, c0_3, c0_4, c0_5, c0_6, c0_7, c0_8, c0_9, c0_10, c0_11, c0_12, -⟩, ⟨z1, c1_0, c1_1, c1_2, c1_3, c1_4, c1_5, c1_6, c1_7, c1_8, c1_9, c1_10, c1_11, c1_12, -⟩, ⟨z2, c2_0, c2_1, c2_2, c2_3, c2_4, c2_5, c2_6, c2_7, c2_8, c2_9, c2_10, c2_11, c2_12, -⟩, -⟩ := F25
    go_wp2_with fail
    refine (HPS.out.2.2 _ (HE.out.below H24.out.bel)).mono ?_
    rintro e w26 ⟨rfl, hb27⟩
    clear z0 c0_0 c0_1 c0_2 c0_3 c0_4 c0_5 c0_6 c0_7 c0_8 c0_9 c0_10 c0_11 c0_12 z1 c1_0 c1_1 c1_2 c1_3 c1_4 c1_5 c1_6 c1_7 c1_8 c1_9 c1_10 c1_11 c1_12 z2 c2_0 c2_1 c2_2 c2_3 c2_4 c2_5 c2_6 c2_7 c2_8 c2_9 c2_10 c2_11 c2_12
    have H28 := Lib.hid (H24.out.below hb27)
    clear hb27 H24
    have F29 := H28.out.sees
    simp only [sees, kBlk, cellsAt, Nat.reduceAdd] at F29
    obtain ⟨⟨z0, c0_0, c0_1, c0_2, c0_3, c0_4, c0_5, c0_6, c0_7, c0_8, c0_9, c0_10, c0_11, c0_12, -⟩, ⟨z1, c1_0, c1_1, c1_2, c1_3, c1_4, c1_5, c1_6, c1_7, c1_8, c1_9, c1_10, c1_11, c1_12, -⟩, ⟨z2, c2_0, c2_1, c2_2, c2_3, c2_4, c2_5, c2_6, c2_7, c2_8, c2_9, c2_10, c2_11, c2_12, -⟩, -⟩ := F29
    go_wp2_with fail
    refine (law_known _ (HE.out.below H28.out.bel)).mono ?_
    rintro e w30 ⟨rfl, hb31⟩
    clear z0 c0_0 c0_1 c0_2 c0_3 c0_4 c0_5 c0_6 c0_7 c0_8 c0_9 c0_10 c0_11 c0_12 z1 c1_0 c1_1 c1_2 c1_3 c1_4 c1_5 c1_6 c1_7 c1_8 c1_9 c1_10 c1_11 c1_12 z2 c2_0 c2_1 c2_2 c2_3 c2_4 c2_5 c2_6 c2_7 c2_8 c2_9 c2_10 c2_11 c2_12
    have H32 := Lib.hid (H28.out.below hb31)
    clear hb31 H28
    go_wp2_with fail
    go_ret
    exact ⟨rfl, H32.out.bel⟩
end Go.Proofs.YtjbimcdofenmdaaGreatDoor
