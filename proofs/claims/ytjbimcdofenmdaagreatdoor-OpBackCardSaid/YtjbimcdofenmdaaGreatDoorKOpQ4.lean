/- The walk of the law OpBack. -/
import Derived.Test.YtjbimcdofenmdaaGreatDoorKOpN
namespace Go.Proofs.YtjbimcdofenmdaaGreatDoor
open Go.RowKit

/-- a comparison whose answer is known, as one step -/
theorem wpList_cmp {P : Program} {w : World} {ops : Array Oper} {rest : List Oper} {o : Oper} {a : Act} {Q : Exit → Act → World → Prop} {v : Value} (hw : Region.wanted o (yielded ops a.tmps) = true) (x y : Operand) (t : TypeId)
    (ho : o.op = .binOp .eql t x y t) (X Y : Value) (hx : a.eval x = X) (hy : a.eval y = Y) (hg : (eqGuard .eql t x y X Y).run P w = .ok () w) (hr : (binOp .eql t X Y).run P w = .ok v w)
    (h : wpList P ops Q rest (a.put o.dst v) w) : wpList P ops Q (o :: rest) a w := by
  refine wpList_step fun K hK => ?_
  rw [if_pos hw]
  unfold Oper.wp execOp
  simp only [ho, Sem.run_bind, Sem.run_pure, Result.andThen_ok, hx, hy, hg, hr]
  exact hK _ _ h
theorem eq_guard (x y : Operand) (k : Nat) (u x1 y1 x2 y2 : Int) (inp : List UInt8) (a b c f t : Nat) (n : Int) (k2 : Nat) (u2 X1 Y1 X2 Y2 : Int) (inp2 : List UInt8) (a2 b2 c2 f2 t2 : Nat) (n2 : Int) (w : World) : (eqGuard BinOp.eql 28 x y (.agg #[.int .u8 (k : Nat), .int .i64 u, .int .i64 x1, .int .i64 y1, .int .i64 x2, .int .i64 y2, .string ⟨inp.toArray⟩, .int .u64 (a : Nat), .int .u64 (b : Nat), .int .u64 (c : Nat), .int .u8 (f : Nat), .int .u64 (t : Nat), .int .i64 n]) (.agg #[.int .u8 (k2 : Nat), .int .i64 u2, .int .i64 X1, .int .i64 Y1, .int .i64 X2, .int .i64 Y2, .string ⟨inp2.toArray⟩, .int .u64 (a2 : Nat), .int .u64 (b2 : Nat), .int .u64 (c2 : Nat), .int .u8 (f2 : Nat), .int .u64 (t2 : Nat), .int .i64 n2])).run Tryz.prog w = .ok () w := by kernel_rfl
/-- two operations that differ, compared -/
theorem ne_run (k : Nat) (u x1 y1 x2 y2 : Int) (inp : List UInt8) (a b c f t : Nat) (n : Int) (k2 : Nat) (u2 X1 Y1 X2 Y2 : Int) (inp2 : List UInt8) (a2 b2 c2 f2 t2 : Nat) (n2 : Int) (h : ¬ (⟨k, u, ⟨x1, y1, x2, y2⟩, inp, a, b, c, f, t, n⟩ : OpV) = ⟨k2, u2, ⟨X1, Y1, X2, Y2⟩, inp2, a2, b2, c2, f2, t2, n2⟩) (w : World) : (binOp BinOp.eql 28 (.agg #[.int .u8 (k : Nat), .int .i64 u, .int .i64 x1, .int .i64 y1, .int .i64 x2, .int .i64 y2, .string ⟨inp.toArray⟩, .int .u64 (a : Nat), .int .u64 (b : Nat), .int .u64 (c : Nat), .int .u8 (f : Nat), .int .u64 (t : Nat), .int .i64 n]) (.agg #[.int .u8 (k2 : Nat), .int .i64 u2, .int .i64 X1, .int .i64 Y1, .int .i64 X2, .int .i64 Y2, .string ⟨inp2.toArray⟩, .int .u64 (a2 : Nat), .int .u64 (b2 : Nat), .int .u64 (c2 : Nat), .int .u8 (f2 : Nat), .int .u64 (t2 : Nat), .int .i64 n2])).run Tryz.prog w = .ok (.bool false) w := by
  go_simp
  intro e1 e2 e3 e4 e5 e6 e7 e8 e9 e10 e11 e12 e13
  obtain rfl : k = k2 := by omega
  obtain rfl : a = a2 := by omega
  obtain rfl : b = b2 := by omega
  obtain rfl : c = c2 := by omega
  obtain rfl : f = f2 := by omega
  obtain rfl : t = t2 := by omega
  subst e2 e3 e4 e5 e6 e7 e13
  exact h rfl
set_option maxRecDepth 100000 in
set_option maxHeartbeats 4000000 in
theorem back_core_3 (k : Nat) (u x1 y1 x2 y2 : Int) (inp : List UInt8) (a b c f t : Nat) (n : Int) (k2 : Nat) (u2 X1 Y1 X2 Y2 : Int) (inp2 : List UInt8) (a2 b2 c2 f2 t2 : Nat) (n2 : Int) (k3 : Nat) (u3 X3 Y3 X4 Y4 : Int) (inp3 : List UInt8) (a3 b3 c3 f3 t3 : Nat) (n3 : Int) (S : ByteArray) (hi : inp.length ≤ 600) (hs : S.size ≤ 1000) (hi2 : inp2.length ≤ 600) (X Y : ByteArray) (hx : ∀ (i : Nat) (h : i < X.size), ¬ ((X[i]'h).toNat : Int) < 32 ∧ ¬ ((X[i]'h).toNat : Int) > 126) (hxs : X.size ≤ 100000) (hxy : (X.toList == Y.toList) = false) (hne : ¬ (⟨k, u, ⟨x1, y1, x2, y2⟩, inp, a, b, c, f, t, n⟩ : OpV) = ⟨k2, u2, ⟨X1, Y1, X2, Y2⟩, inp2, a2, b2, c2, f2, t2, n2⟩)
    (HFA0 : ∀ w : World, Env6 w → Calls Tryz.prog 11 #[.agg #[.int .u8 (k : Nat), .int .i64 u, .int .i64 x1, .int .i64 y1, .int .i64 x2, .int .i64 y2, .string ⟨inp.toArray⟩, .int .u64 (a : Nat), .int .u64 (b : Nat), .int .u64 (c : Nat), .int .u8 (f : Nat), .int .u64 (t : Nat), .int .i64 n]] w fun e w' => e = .returned (.tuple #[.string X, .int .i64 0]) ∧ Below w.heap.size w w')
    (HFB0 : ∀ w : World, Env6 w → Calls Tryz.prog 11 #[.agg #[.int .u8 (k2 : Nat), .int .i64 u2, .int .i64 X1, .int .i64 Y1, .int .i64 X2, .int .i64 Y2, .string ⟨inp2.toArray⟩, .int .u64 (a2 : Nat), .int .u64 (b2 : Nat), .int .u64 (c2 : Nat), .int .u8 (f2 : Nat), .int .u64 (t2 : Nat), .int .i64 n2]] w fun e w' => e = .returned (.tuple #[.string Y, .int .i64 0]) ∧ Below w.heap.size w w')
    (HCA0 : ∀ w : World, Env6 w → Calls Tryz.prog 13 #[.agg #[.int .u8 (k : Nat), .int .i64 u, .int .i64 x1, .int .i64 y1, .int .i64 x2, .int .i64 y2, .string ⟨inp.toArray⟩, .int .u64 (a : Nat), .int .u64 (b : Nat), .int .u64 (c : Nat), .int .u8 (f : Nat), .int .u64 (t : Nat), .int .i64 n]] w fun e w' => e = .returned (.int .i64 0) ∧ Below w.heap.size w w')
    (HPA0 : ∀ w : World, Env6 w → Calls Tryz.prog 19 #[.string X] w fun e w' => e = .returned (.tuple #[.agg #[.int .u8 (k : Nat), .int .i64 u, .int .i64 x1, .int .i64 y1, .int .i64 x2, .int .i64 y2, .string ⟨inp.toArray⟩, .int .u64 (a : Nat), .int .u64 (b : Nat), .int .u64 (c : Nat), .int .u8 (f : Nat), .int .u64 (t : Nat), .int .i64 n], .int .i64 0]) ∧ Below w.heap.size w w')
    (HT0 : (∀ w : World, Env6 w → Calls Tryz.prog 19 #[.string S] w fun e w' => e = .returned (.tuple #[.agg #[.int .u8 0, .int .i64 0, .int .i64 0, .int .i64 0, .int .i64 0, .int .i64 0, .string ⟨#[]⟩, .int .u64 0, .int .u64 0, .int .u64 0, .int .u8 0, .int .u64 0, .int .i64 0], .int .i64 4]) ∧ Below w.heap.size w w') ∨ ((∀ w : World, Env6 w → Calls Tryz.prog 19 #[.string S] w fun e w' => e = .returned (.tuple #[.agg #[.int .u8 (k3 : Nat), .int .i64 u3, .int .i64 X3, .int .i64 Y3, .int .i64 X4, .int .i64 Y4, .string ⟨inp3.toArray⟩, .int .u64 (a3 : Nat), .int .u64 (b3 : Nat), .int .u64 (c3 : Nat), .int .u8 (f3 : Nat), .int .u64 (t3 : Nat), .int .i64 n3], .int .i64 0]) ∧ Below w.heap.size w w') ∧ (∀ w : World, Env6 w → Calls Tryz.prog 11 #[.agg #[.int .u8 (k3 : Nat), .int .i64 u3, .int .i64 X3, .int .i64 Y3, .int .i64 X4, .int .i64 Y4, .string ⟨inp3.toArray⟩, .int .u64 (a3 : Nat), .int .u64 (b3 : Nat), .int .u64 (c3 : Nat), .int .u8 (f3 : Nat), .int .u64 (t3 : Nat), .int .i64 n3]] w fun e w' => e = .returned (.tuple #[.string S, .int .i64 0]) ∧ Below w.heap.size w w') ∧ (∀ w : World, Env6 w → Calls Tryz.prog 13 #[.agg #[.int .u8 (k3 : Nat), .int .i64 u3, .int .i64 X3, .int .i64 Y3, .int .i64 X4, .int .i64 Y4, .string ⟨inp3.toArray⟩, .int .u64 (a3 : Nat), .int .u64 (b3 : Nat), .int .u64 (c3 : Nat), .int .u8 (f3 : Nat), .int .u64 (t3 : Nat), .int .i64 n3]] w fun e w' => e = .returned (.int .i64 0) ∧ Below w.heap.size w w'))) (w : World) (he : Env6 w) :
    Calls Tryz.prog 6 #[.agg #[.int .u8 (k : Nat), .int .i64 u, .int .i64 x1, .int .i64 y1, .int .i64 x2, .int .i64 y2, .string ⟨inp.toArray⟩, .int .u64 (a : Nat), .int .u64 (b : Nat), .int .u64 (c : Nat), .int .u8 (f : Nat), .int .u64 (t : Nat), .int .i64 n], .agg #[.int .u8 (k2 : Nat), .int .i64 u2, .int .i64 X1, .int .i64 Y1, .int .i64 X2, .int .i64 Y2, .string ⟨inp2.toArray⟩, .int .u64 (a2 : Nat), .int .u64 (b2 : Nat), .int .u64 (c2 : Nat), .int .u8 (f2 : Nat), .int .u64 (t2 : Nat), .int .i64 n2], .string S] w fun e w' => e = .returned (.bool true) ∧ Below w.heap.size w w' := by
  have HE := keep he
  clear he
  have HFA := keep HFA0
  clear HFA0
  have HFB := keep HFB0
  clear HFB0
  have HCA := keep HCA0
  clear HCA0
  have HPA := keep HPA0
  clear HPA0
  have HT := keep HT0
  clear HT0
  have gi : ¬ (inp.length : Int) > 600 := by omega
  have gs : ¬ (S.size : Int) > 1000 := by omega
  clear hi hs
  have gi2 : ¬ (inp2.length : Int) > 600 := by omega
  clear hi2
  have HX := keep hx
  clear hx
  have HNE := keep hne
  have HXY := keep hxy
  clear hne hxy
  have H1 := Lib.hid (((Ok.start w).alloc w.heap.size 28 [.int .u8 (k : Nat), .int .i64 u, .int .i64 x1, .int .i64 y1, .int .i64 x2, .int .i64 y2, .string ⟨inp.toArray⟩, .int .u64 (a : Nat), .int .u64 (b : Nat), .int .u64 (c : Nat), .int .u8 (f : Nat), .int .u64 (t : Nat), .int .i64 n] rfl).alloc (w.heap.size + 1) 28 [.int .u8 (k2 : Nat), .int .i64 u2, .int .i64 X1, .int .i64 Y1, .int .i64 X2, .int .i64 Y2, .string ⟨inp2.toArray⟩, .int .u64 (a2 : Nat), .int .u64 (b2 : Nat), .int .u64 (c2 : Nat), .int .u8 (f2 : Nat), .int .u64 (t2 : Nat), .int .i64 n2] (by simp))
  go_enter Tryz.func6, Tryz.ntmps6
  go_upto_region 1 with fail
  generalize ((w.alloc (.cells #[.int .u8 (k : Nat), .int .i64 u, .int .i64 x1, .int .i64 y1, .int .i64 x2, .int .i64 y2, .string ⟨inp.toArray⟩, .int .u64 (a : Nat), .int .u64 (b : Nat), .int .u64 (c : Nat), .int .u8 (f : Nat), .int .u64 (t : Nat), .int .i64 n] 28)).alloc (.cells #[.int .u8 (k2 : Nat), .int .i64 u2, .int .i64 X1, .int .i64 Y1, .int .i64 X2, .int .i64 Y2, .string ⟨inp2.toArray⟩, .int .u64 (a2 : Nat), .int .u64 (b2 : Nat), .int .u64 (c2 : Nat), .int .u8 (f2 : Nat), .int .u64 (t2 : Nat), .int .i64 n2] 28)) = W2 at H1 ⊢
  have F3 := H1.out.sees
  simp only [sees, kBlk, cellsAt, Nat.reduceAdd] at F3
  obtain ⟨⟨z0, c0_0, c0_1, c0_2, c0_3, c0_4, c0_5, c0_6, c0_7, c0_8, c0_9, c0_10, c0_11, c0_12, -⟩, ⟨z1, c1_0, c1_1, c1_2, c1_3, c1_4, c1_5, c1_6, c1_7, c1_8, c1_9, c1_10, c1_11, c1_12, -⟩, -⟩ := F3
  go_wp2_with fail
  refine (HFA.out _ (HE.out.below H1.out.bel)).mono ?_
  rintro e w4 ⟨rfl, hb5⟩
  clear z0 c0_0 c0_1 c0_2 c0_3 c0_4 c0_5 c0_6 c0_7 c0_8 c0_9 c0_10 c0_11 c0_12 z1 c1_0 c1_1 c1_2 c1_3 c1_4 c1_5 c1_6 c1_7 c1_8 c1_9 c1_10 c1_11 c1_12
  have H6 := Lib.hid (H1.out.below hb5)
  clear hb5 H1
  have F7 := H6.out.sees
  simp only [sees, kBlk, cellsAt, Nat.reduceAdd] at F7
  obtain ⟨⟨z0, c0_0, c0_1, c0_2, c0_3, c0_4, c0_5, c0_6, c0_7, c0_8, c0_9, c0_10, c0_11, c0_12, -⟩, ⟨z1, c1_0, c1_1, c1_2, c1_3, c1_4, c1_5, c1_6, c1_7, c1_8, c1_9, c1_10, c1_11, c1_12, -⟩, -⟩ := F7
  go_wp2_with fail
  refine (HFB.out _ (HE.out.below H6.out.bel)).mono ?_
  rintro e w8 ⟨rfl, hb9⟩
  clear z0 c0_0 c0_1 c0_2 c0_3 c0_4 c0_5 c0_6 c0_7 c0_8 c0_9 c0_10 c0_11 c0_12 z1 c1_0 c1_1 c1_2 c1_3 c1_4 c1_5 c1_6 c1_7 c1_8 c1_9 c1_10 c1_11 c1_12
  have H10 := Lib.hid (H6.out.below hb9)
  clear hb9 H6
  have F11 := H10.out.sees
  simp only [sees, kBlk, cellsAt, Nat.reduceAdd] at F11
  obtain ⟨⟨z0, c0_0, c0_1, c0_2, c0_3, c0_4, c0_5, c0_6, c0_7, c0_8, c0_9, c0_10, c0_11, c0_12, -⟩, ⟨z1, c1_0, c1_1, c1_2, c1_3, c1_4, c1_5, c1_6, c1_7, c1_8, c1_9, c1_10, c1_11, c1_12, -⟩, -⟩ := F11
  go_wp2_with fail
  refine (HCA.out _ (HE.out.below H10.out.bel)).mono ?_
  rintro e w12 ⟨rfl, hb13⟩
  clear z0 c0_0 c0_1 c0_2 c0_3 c0_4 c0_5 c0_6 c0_7 c0_8 c0_9 c0_10 c0_11 c0_12 z1 c1_0 c1_1 c1_2 c1_3 c1_4 c1_5 c1_6 c1_7 c1_8 c1_9 c1_10 c1_11 c1_12
  have H14 := Lib.hid (H10.out.below hb13)
  clear hb13 H10
  have F15 := H14.out.sees
  simp only [sees, kBlk, cellsAt, Nat.reduceAdd] at F15
  obtain ⟨⟨z0, c0_0, c0_1, c0_2, c0_3, c0_4, c0_5, c0_6, c0_7, c0_8, c0_9, c0_10, c0_11, c0_12, -⟩, ⟨z1, c1_0, c1_1, c1_2, c1_3, c1_4, c1_5, c1_6, c1_7, c1_8, c1_9, c1_10, c1_11, c1_12, -⟩, -⟩ := F15
  go_wp2_with fail
  refine (HPA.out _ (HE.out.below H14.out.bel)).mono ?_
  rintro e w16 ⟨rfl, hb17⟩
  clear z0 c0_0 c0_1 c0_2 c0_3 c0_4 c0_5 c0_6 c0_7 c0_8 c0_9 c0_10 c0_11 c0_12 z1 c1_0 c1_1 c1_2 c1_3 c1_4 c1_5 c1_6 c1_7 c1_8 c1_9 c1_10 c1_11 c1_12
  have H18 := Lib.hid (H14.out.below hb17)
  clear hb17 H14
  go_upto_region 9 with fail
  have H19 := Lib.hid (H18.out.alloc w16.heap.size 28 [.int .u8 (k : Nat), .int .i64 u, .int .i64 x1, .int .i64 y1, .int .i64 x2, .int .i64 y2, .string ⟨inp.toArray⟩, .int .u64 (a : Nat), .int .u64 (b : Nat), .int .u64 (c : Nat), .int .u8 (f : Nat), .int .u64 (t : Nat), .int .i64 n] rfl)
  clear H18
  generalize (w16.alloc (.cells #[.int .u8 (k : Nat), .int .i64 u, .int .i64 x1, .int .i64 y1, .int .i64 x2, .int .i64 y2, .string ⟨inp.toArray⟩, .int .u64 (a : Nat), .int .u64 (b : Nat), .int .u64 (c : Nat), .int .u8 (f : Nat), .int .u64 (t : Nat), .int .i64 n] 28)) = W20 at H19 ⊢
  have F21 := H19.out.sees
  simp only [sees, kBlk, cellsAt, Nat.reduceAdd] at F21
  obtain ⟨⟨z0, c0_0, c0_1, c0_2, c0_3, c0_4, c0_5, c0_6, c0_7, c0_8, c0_9, c0_10, c0_11, c0_12, -⟩, ⟨z1, c1_0, c1_1, c1_2, c1_3, c1_4, c1_5, c1_6, c1_7, c1_8, c1_9, c1_10, c1_11, c1_12, -⟩, ⟨z2, c2_0, c2_1, c2_2, c2_3, c2_4, c2_5, c2_6, c2_7, c2_8, c2_9, c2_10, c2_11, c2_12, -⟩, -⟩ := F21
  go_wp2_with fail
  go_loopw [13] (fun iv wr => ∃ i : Nat, i ≤ X.size ∧ iv = .int .i64 (i : Int) ∧ Hid (Ok w [kBlk (w16.heap.size) 28 [.int .u8 (k : Nat), .int .i64 u, .int .i64 x1, .int .i64 y1, .int .i64 x2, .int .i64 y2, .string ⟨inp.toArray⟩, .int .u64 (a : Nat), .int .u64 (b : Nat), .int .u64 (c : Nat), .int .u8 (f : Nat), .int .u64 (t : Nat), .int .i64 n], kBlk (w.heap.size + 1) 28 [.int .u8 (k2 : Nat), .int .i64 u2, .int .i64 X1, .int .i64 Y1, .int .i64 X2, .int .i64 Y2, .string ⟨inp2.toArray⟩, .int .u64 (a2 : Nat), .int .u64 (b2 : Nat), .int .u64 (c2 : Nat), .int .u8 (f2 : Nat), .int .u64 (t2 : Nat), .int .i64 n2], kBlk (w.heap.size) 28 [.int .u8 (k : Nat), .int .i64 u, .int .i64 x1, .int .i64 y1, .int .i64 x2, .int .i64 y2, .string ⟨inp.toArray⟩, .int .u64 (a : Nat), .int .u64 (b : Nat), .int .u64 (c : Nat), .int .u8 (f : Nat), .int .u64 (t : Nat), .int .i64 n]] wr)) (fun iv _ => X.size - (intOf iv).toNat)
  case atStart => exact ⟨0, Nat.zero_le _, rfl, H19⟩
  case round =>
    clear z0 c0_0 c0_1 c0_2 c0_3 c0_4 c0_5 c0_6 c0_7 c0_8 c0_9 c0_10 c0_11 c0_12 z1 c1_0 c1_1 c1_2 c1_3 c1_4 c1_5 c1_6 c1_7 c1_8 c1_9 c1_10 c1_11 c1_12 z2 c2_0 c2_1 c2_2 c2_3 c2_4 c2_5 c2_6 c2_7 c2_8 c2_9 c2_10 c2_11 c2_12
    clear H19
    obtain ⟨i, hi, rfl, H⟩ := hrel
    obtain ⟨wp, rfl⟩ : ∃ wp : World, wp = wr := ⟨_, rfl⟩
    by_cases hlt : (i : Int) < X.size
    · have hks : i < X.size := by omega
      obtain ⟨q1, q2⟩ := HX.out i hks
      go_wp2_with fail
      go_roundw
      case rel => exact ⟨i + 1, by omega, by go_num, H⟩
      case measure => simp [intOf]; omega
    · clear hi
      have F22 := H.out.sees
      simp only [sees, kBlk, cellsAt, Nat.reduceAdd] at F22
      obtain ⟨⟨z0, c0_0, c0_1, c0_2, c0_3, c0_4, c0_5, c0_6, c0_7, c0_8, c0_9, c0_10, c0_11, c0_12, -⟩, ⟨z1, c1_0, c1_1, c1_2, c1_3, c1_4, c1_5, c1_6, c1_7, c1_8, c1_9, c1_10, c1_11, c1_12, -⟩, ⟨z2, c2_0, c2_1, c2_2, c2_3, c2_4, c2_5, c2_6, c2_7, c2_8, c2_9, c2_10, c2_11, c2_12, -⟩, -⟩ := F22
      have hxy := HXY.out
      go_upto_region 16 with fail
      apply wp_region_lit
      iterate 29 go_step
      refine wpList_cmp (by rfl) _ _ _ rfl _ _ rfl rfl (eq_guard _ _ _ _ _ _ _ _ _ _ _ _ _ _ _ _ _ _ _ _ _ _ _ _ _ _ _ _ _) (ne_run _ _ _ _ _ _ _ _ _ _ _ _ _ _ _ _ _ _ _ _ _ _ _ _ _ _ HNE.out _) ?_
      go_wp2_with fail
      rcases HT.out with HT0 | HT0
      · have HPN := keep HT0
        clear HT0 HT
        refine (HPN.out _ (HE.out.below H.out.bel)).mono ?_
        rintro e w23 ⟨rfl, hb24⟩
        clear z0 c0_0 c0_1 c0_2 c0_3 c0_4 c0_5 c0_6 c0_7 c0_8 c0_9 c0_10 c0_11 c0_12 z1 c1_0 c1_1 c1_2 c1_3 c1_4 c1_5 c1_6 c1_7 c1_8 c1_9 c1_10 c1_11 c1_12 z2 c2_0 c2_1 c2_2 c2_3 c2_4 c2_5 c2_6 c2_7 c2_8 c2_9 c2_10 c2_11 c2_12
        have H25 := Lib.hid (H.out.below hb24)
        clear hb24 H
        go_upto_region 19 with fail
        have H26 := Lib.hid (H25.out.alloc w23.heap.size 28 [.int .u8 0, .int .i64 0, .int .i64 0, .int .i64 0, .int .i64 0, .int .i64 0, .string ⟨#[]⟩, .int .u64 0, .int .u64 0, .int .u64 0, .int .u8 0, .int .u64 0, .int .i64 0] rfl)
        clear H25
        generalize (w23.alloc (.cells #[.int .u8 0, .int .i64 0, .int .i64 0, .int .i64 0, .int .i64 0, .int .i64 0, .string ⟨#[]⟩, .int .u64 0, .int .u64 0, .int .u64 0, .int .u8 0, .int .u64 0, .int .i64 0] 28)) = W27 at H26 ⊢
        have F28 := H26.out.sees
        simp only [sees, kBlk, cellsAt, Nat.reduceAdd] at F28
        obtain ⟨⟨z0, c0_0, c0_1, c0_2, c0_3, c0_4, c0_5, c0_6, c0_7, c0_8, c0_9, c0_10, c0_11, c0_12, -⟩, ⟨z1, c1_0, c1_1, c1_2, c1_3, c1_4, c1_5, c1_6, c1_7, c1_8, c1_9, c1_10, c1_11, c1_12, -⟩, ⟨z2, c2_0, c2_1, c2_2, c2_3, c2_4, c2_5, c2_6, c2_7, c2_8, c2_9, c2_10, c2_11, c2_12, -⟩, ⟨z3, c3_0, c3_1, c3_2, c3_3, c3_4, c3_5, c3_6, c3_7, c3_8, c3_9, c3_10, c3_11, c3_12, -⟩, -⟩ := F28
        go_wp2_with fail
        refine (law_known _ (HE.out.below H26.out.bel)).mono ?_
        rintro e w29 ⟨rfl, hb30⟩
        clear z0 c0_0 c0_1 c0_2 c0_3 c0_4 c0_5 c0_6 c0_7 c0_8 c0_9 c0_10 c0_11 c0_12 z1 c1_0 c1_1 c1_2 c1_3 c1_4 c1_5 c1_6 c1_7 c1_8 c1_9 c1_10 c1_11 c1_12 z2 c2_0 c2_1 c2_2 c2_3 c2_4 c2_5 c2_6 c2_7 c2_8 c2_9 c2_10 c2_11 c2_12 z3 c3_0 c3_1 c3_2 c3_3 c3_4 c3_5 c3_6 c3_7 c3_8 c3_9 c3_10 c3_11 c3_12
        have H31 := Lib.hid (H26.out.below hb30)
        clear hb30 H26
        go_wp2_with fail
        go_ret
        exact ⟨rfl, H31.out.bel⟩
      · have HPS := keep HT0
        clear HT0 HT
        refine (HPS.out.1 _ (HE.out.below H.out.bel)).mono ?_
        rintro e w23 ⟨rfl, hb24⟩
        clear z0 c0_0 c0_1 c0_2 c0_3 c0_4 c0_5 c0_6 c0_7 c0_8 c0_9 c0_10 c0_11 c0_12 z1 c1_0 c1_1 c1_2 c1_3 c1_4 c1_5 c1_6 c1_7 c1_8 c1_9 c1_10 c1_11 c1_12 z2 c2_0 c2_1 c2_2 c2_3 c2_4 c2_5 c2_6 c2_7 c2_8 c2_9 c2_10 c2_11 c2_12
        have H25 := Lib.hid (H.out.below hb24)
        clear hb24 H
        go_upto_region 19 with fail
        have H26 := Lib.hid (H25.out.alloc w23.heap.size 28 [.int .u8 (k3 : Nat), .int .i64 u3, .int .i64 X3, .int .i64 Y3, .int .i64 X4, .int .i64 Y4, .string ⟨inp3.toArray⟩, .int .u64 (a3 : Nat), .int .u64 (b3 : Nat), .int .u64 (c3 : Nat), .int .u8 (f3 : Nat), .int .u64 (t3 : Nat), .int .i64 n3] rfl)
        clear H25
        generalize (w23.alloc (.cells #[.int .u8 (k3 : Nat), .int .i64 u3, .int .i64 X3, .int .i64 Y3, .int .i64 X4, .int .i64 Y4, .string ⟨inp3.toArray⟩, .int .u64 (a3 : Nat), .int .u64 (b3 : Nat), .int .u64 (c3 : Nat), .int .u8 (f3 : Nat), .int .u64 (t3 : Nat), .int .i64 n3] 28)) = W27 at H26 ⊢
        have F28 := H26.out.sees
        simp only [sees, kBlk, cellsAt, Nat.reduceAdd] at F28
        obtain ⟨⟨z0, c0_0, c0_1, c0_2, c0_3, c0_4, c0_5, c0_6, c0_7, c0_8, c0_9, c0_10, c0_11, c0_12, -⟩, ⟨z1, c1_0, c1_1, c1_2, c1_3, c1_4, c1_5, c1_6, c1_7, c1_8, c1_9, c1_10, c1_11, c1_12, -⟩, ⟨z2, c2_0, c2_1, c2_2, c2_3, c2_4, c2_5, c2_6, c2_7, c2_8, c2_9, c2_10, c2_11, c2_12, -⟩, ⟨z3, c3_0, c3_1, c3_2, c3_3, c3_4, c3_5, c3_6, c3_7, c3_8, c3_9, c3_10, c3_11, c3_12, -⟩, -⟩ := F28
        go_wp2_with fail
        refine (HPS.out.2.1 _ (HE.out.below H26.out.bel)).mono ?_
        rintro e w29 ⟨rfl, hb30⟩
        clear z0 c0_0 c0_1 c0_2 c0_3 c0_4 c0_5 c0_6 c0_7 c0_8 c0_9 c0_10 c0_11 c0_12 z1 c1_0 c1_1 c1_2 c1_3 c1_4 c1_5 c1_6 c1_7 c1_8 c1_9 c1_10 c1_11 c1_12 z2 c2_0 c2_1 c2_2 c2_3 c2_4 c2_5 c2_6 c2_7 c2_8 c2_9 c2_10 c2_11 c2_12 z3 c3_0 c3_1 c3_2 c3_3 c3_4 c3_5 c3_6 c3_7 c3_8 c3_9 c3_10 c3_11 c3_12
        have H31 := Lib.hid (H26.out.below hb30)
        clear hb30 H26
        have F32 := H31.out.sees
        simp only [sees, kBlk, cellsAt, Nat.reduceAdd] at F32
        obtain ⟨⟨z0, c0_0, c0_1, c0_2, c0_3, c0_4, c0_5, c0_6, c0_7, c0_8, c0_9, c0_10, c0_11, c0_12, -⟩, ⟨z1, c1_0, c1_1, c1_2, c1_3, c1_4, c1_5, c1_6, c1_7, c1_8, c1_9, c1_10, c1_11, c1_12, -⟩, ⟨z2, c2_0, c2_1, c2_2, c2_3, c2_4, c2_5, c2_6, c2_7, c2_8, c2_9, c2_10, c2_11, c2_12, -⟩, ⟨z3, c3_0, c3_1, c3_2, c3_3, c3_4, c3_5, c3_6, c3_7, c3_8, c3_9, c3_10, c3_11, c3_12, -⟩, -⟩ := F32
        go_wp2_with fail
        refine (HPS.out.2.2 _ (HE.out.below H31.out.bel)).mono ?_
        rintro e w33 ⟨rfl, hb34⟩
        clear z0 c0_0 c0_1 c0_2 c0_3 c0_4 c0_5 c0_6 c0_7 c0_8 c0_9 c0_10 c0_11 c0_12 z1 c1_0 c1_1 c1_2 c1_3 c1_4 c1_5 c1_6 c1_7 c1_8 c1_9 c1_10 c1_11 c1_12 z2 c2_0 c2_1 c2_2 c2_3 c2_4 c2_5 c2_6 c2_7 c2_8 c2_9 c2_10 c2_11 c2_12 z3 c3_0 c3_1 c3_2 c3_3 c3_4 c3_5 c3_6 c3_7 c3_8 c3_9 c3_10 c3_11 c3_12
        have H35 := Lib.hid (H31.out.below hb34)
        clear hb34 H31
        have F36 := H35.out.sees
        simp only [sees, kBlk, cellsAt, Nat.reduceAdd] at F36
        obtain ⟨⟨z0, c0_0, c0_1, c0_2, c0_3, c0_4, c0_5, c0_6, c0_7, c0_8, c0_9, c0_10, c0_11, c0_12, -⟩, ⟨z1, c1_0, c1_1, c1_2, c1_3, c1_4, c1_5, c1_6, c1_7, c1_8, c1_9, c1_10, c1_11, c1_12, -⟩, ⟨z2, c2_0, c2_1, c2_2, c2_3, c2_4, c2_5, c2_6, c2_7, c2_8, c2_9, c2_10, c2_11, c2_12, -⟩, ⟨z3, c3_0, c3_1, c3_2, c3_3, c3_4, c3_5, c3_6, c3_7, c3_8, c3_9, c3_10, c3_11, c3_12, -⟩, -⟩ := F36
        go_wp2_with fail
        refine (law_known _ (HE.out.below H35.out.bel)).mono ?_
        rintro e w37 ⟨rfl, hb38⟩
        clear z0 c0_0 c0_1 c0_2 c0_3 c0_4 c0_5 c0_6 c0_7 c0_8 c0_9 c0_10 c0_11 c0_12 z1 c1_0 c1_1 c1_2 c1_3 c1_4 c1_5 c1_6 c1_7 c1_8 c1_9 c1_10 c1_11 c1_12 z2 c2_0 c2_1 c2_2 c2_3 c2_4 c2_5 c2_6 c2_7 c2_8 c2_9 c2_10 c2_11 c2_12 z3 c3_0 c3_1 c3_2 c3_3 c3_4 c3_5 c3_6 c3_7 c3_8 c3_9 c3_10 c3_11 c3_12
        have H39 := Lib.hid (H35.out.below hb38)
        clear hb38 H35
        go_wp2_with fail
        go_ret
        exact ⟨rfl, H39.out.bel⟩
end Go.Proofs.YtjbimcdofenmdaaGreatDoor
