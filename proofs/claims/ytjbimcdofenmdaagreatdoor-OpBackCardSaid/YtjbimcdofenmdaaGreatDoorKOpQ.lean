/- OpBack: the law's walk. -/
import Derived.Test.YtjbimcdofenmdaaGreatDoorKOpQ1
import Derived.Test.YtjbimcdofenmdaaGreatDoorKOpQ2
import Derived.Test.YtjbimcdofenmdaaGreatDoorKOpQ3
import Derived.Test.YtjbimcdofenmdaaGreatDoorKOpQ4
namespace Go.Proofs.YtjbimcdofenmdaaGreatDoor
open Go.RowKit

set_option maxRecDepth 100000 in
set_option maxHeartbeats 4000000 in
theorem back_long1 (k : Nat) (u x1 y1 x2 y2 : Int) (inp : List UInt8) (a b c f t : Nat) (n : Int) (k2 : Nat) (u2 X1 Y1 X2 Y2 : Int) (inp2 : List UInt8) (a2 b2 c2 f2 t2 : Nat) (n2 : Int) (S : ByteArray) (hi : 600 < inp.length)
     (w : World) (he : Env6 w) :
    Calls Tryz.prog 6 #[.agg #[.int .u8 (k : Nat), .int .i64 u, .int .i64 x1, .int .i64 y1, .int .i64 x2, .int .i64 y2, .string ⟨inp.toArray⟩, .int .u64 (a : Nat), .int .u64 (b : Nat), .int .u64 (c : Nat), .int .u8 (f : Nat), .int .u64 (t : Nat), .int .i64 n], .agg #[.int .u8 (k2 : Nat), .int .i64 u2, .int .i64 X1, .int .i64 Y1, .int .i64 X2, .int .i64 Y2, .string ⟨inp2.toArray⟩, .int .u64 (a2 : Nat), .int .u64 (b2 : Nat), .int .u64 (c2 : Nat), .int .u8 (f2 : Nat), .int .u64 (t2 : Nat), .int .i64 n2], .string S] w fun e w' => e = .returned (.bool true) ∧ Below w.heap.size w w' := by
  have HE := keep he
  clear he
  have gi : (inp.length : Int) > 600 := by omega
  clear hi
  have H1 := Lib.hid (((Ok.start w).alloc w.heap.size 28 [.int .u8 (k : Nat), .int .i64 u, .int .i64 x1, .int .i64 y1, .int .i64 x2, .int .i64 y2, .string ⟨inp.toArray⟩, .int .u64 (a : Nat), .int .u64 (b : Nat), .int .u64 (c : Nat), .int .u8 (f : Nat), .int .u64 (t : Nat), .int .i64 n] rfl).alloc (w.heap.size + 1) 28 [.int .u8 (k2 : Nat), .int .i64 u2, .int .i64 X1, .int .i64 Y1, .int .i64 X2, .int .i64 Y2, .string ⟨inp2.toArray⟩, .int .u64 (a2 : Nat), .int .u64 (b2 : Nat), .int .u64 (c2 : Nat), .int .u8 (f2 : Nat), .int .u64 (t2 : Nat), .int .i64 n2] (by simp))
  go_enter Tryz.func6, Tryz.ntmps6
  go_upto_region 1 with fail
  generalize ((w.alloc (.cells #[.int .u8 (k : Nat), .int .i64 u, .int .i64 x1, .int .i64 y1, .int .i64 x2, .int .i64 y2, .string ⟨inp.toArray⟩, .int .u64 (a : Nat), .int .u64 (b : Nat), .int .u64 (c : Nat), .int .u8 (f : Nat), .int .u64 (t : Nat), .int .i64 n] 28)).alloc (.cells #[.int .u8 (k2 : Nat), .int .i64 u2, .int .i64 X1, .int .i64 Y1, .int .i64 X2, .int .i64 Y2, .string ⟨inp2.toArray⟩, .int .u64 (a2 : Nat), .int .u64 (b2 : Nat), .int .u64 (c2 : Nat), .int .u8 (f2 : Nat), .int .u64 (t2 : Nat), .int .i64 n2] 28)) = W2 at H1 ⊢
  have F3 := H1.out.sees
  simp only [sees, kBlk, cellsAt, Nat.reduceAdd] at F3
  obtain ⟨⟨z0, c0_0, c0_1, c0_2, c0_3, c0_4, c0_5, c0_6, c0_7, c0_8, c0_9, c0_10, c0_11, c0_12, -⟩, ⟨z1, c1_0, c1_1, c1_2, c1_3, c1_4, c1_5, c1_6, c1_7, c1_8, c1_9, c1_10, c1_11, c1_12, -⟩, -⟩ := F3
  go_wp2_with fail
  refine (law_known _ (HE.out.below H1.out.bel)).mono ?_
  rintro e w4 ⟨rfl, hb5⟩
  clear z0 c0_0 c0_1 c0_2 c0_3 c0_4 c0_5 c0_6 c0_7 c0_8 c0_9 c0_10 c0_11 c0_12 z1 c1_0 c1_1 c1_2 c1_3 c1_4 c1_5 c1_6 c1_7 c1_8 c1_9 c1_10 c1_11 c1_12
  have H6 := Lib.hid (H1.out.below hb5)
  clear hb5 H1
  go_wp2_with fail
  go_ret
  exact ⟨rfl, H6.out.bel⟩
set_option maxRecDepth 100000 in
set_option maxHeartbeats 4000000 in
theorem back_long2 (k : Nat) (u x1 y1 x2 y2 : Int) (inp : List UInt8) (a b c f t : Nat) (n : Int) (k2 : Nat) (u2 X1 Y1 X2 Y2 : Int) (inp2 : List UInt8) (a2 b2 c2 f2 t2 : Nat) (n2 : Int) (S : ByteArray) (hi : inp.length ≤ 600) (hi2 : 600 < inp2.length)
     (w : World) (he : Env6 w) :
    Calls Tryz.prog 6 #[.agg #[.int .u8 (k : Nat), .int .i64 u, .int .i64 x1, .int .i64 y1, .int .i64 x2, .int .i64 y2, .string ⟨inp.toArray⟩, .int .u64 (a : Nat), .int .u64 (b : Nat), .int .u64 (c : Nat), .int .u8 (f : Nat), .int .u64 (t : Nat), .int .i64 n], .agg #[.int .u8 (k2 : Nat), .int .i64 u2, .int .i64 X1, .int .i64 Y1, .int .i64 X2, .int .i64 Y2, .string ⟨inp2.toArray⟩, .int .u64 (a2 : Nat), .int .u64 (b2 : Nat), .int .u64 (c2 : Nat), .int .u8 (f2 : Nat), .int .u64 (t2 : Nat), .int .i64 n2], .string S] w fun e w' => e = .returned (.bool true) ∧ Below w.heap.size w w' := by
  have HE := keep he
  clear he
  have gi : ¬ (inp.length : Int) > 600 := by omega
  have gi2 : (inp2.length : Int) > 600 := by omega
  clear hi hi2
  have H1 := Lib.hid (((Ok.start w).alloc w.heap.size 28 [.int .u8 (k : Nat), .int .i64 u, .int .i64 x1, .int .i64 y1, .int .i64 x2, .int .i64 y2, .string ⟨inp.toArray⟩, .int .u64 (a : Nat), .int .u64 (b : Nat), .int .u64 (c : Nat), .int .u8 (f : Nat), .int .u64 (t : Nat), .int .i64 n] rfl).alloc (w.heap.size + 1) 28 [.int .u8 (k2 : Nat), .int .i64 u2, .int .i64 X1, .int .i64 Y1, .int .i64 X2, .int .i64 Y2, .string ⟨inp2.toArray⟩, .int .u64 (a2 : Nat), .int .u64 (b2 : Nat), .int .u64 (c2 : Nat), .int .u8 (f2 : Nat), .int .u64 (t2 : Nat), .int .i64 n2] (by simp))
  go_enter Tryz.func6, Tryz.ntmps6
  go_upto_region 1 with fail
  generalize ((w.alloc (.cells #[.int .u8 (k : Nat), .int .i64 u, .int .i64 x1, .int .i64 y1, .int .i64 x2, .int .i64 y2, .string ⟨inp.toArray⟩, .int .u64 (a : Nat), .int .u64 (b : Nat), .int .u64 (c : Nat), .int .u8 (f : Nat), .int .u64 (t : Nat), .int .i64 n] 28)).alloc (.cells #[.int .u8 (k2 : Nat), .int .i64 u2, .int .i64 X1, .int .i64 Y1, .int .i64 X2, .int .i64 Y2, .string ⟨inp2.toArray⟩, .int .u64 (a2 : Nat), .int .u64 (b2 : Nat), .int .u64 (c2 : Nat), .int .u8 (f2 : Nat), .int .u64 (t2 : Nat), .int .i64 n2] 28)) = W2 at H1 ⊢
  have F3 := H1.out.sees
  simp only [sees, kBlk, cellsAt, Nat.reduceAdd] at F3
  obtain ⟨⟨z0, c0_0, c0_1, c0_2, c0_3, c0_4, c0_5, c0_6, c0_7, c0_8, c0_9, c0_10, c0_11, c0_12, -⟩, ⟨z1, c1_0, c1_1, c1_2, c1_3, c1_4, c1_5, c1_6, c1_7, c1_8, c1_9, c1_10, c1_11, c1_12, -⟩, -⟩ := F3
  go_wp2_with fail
  refine (law_known _ (HE.out.below H1.out.bel)).mono ?_
  rintro e w4 ⟨rfl, hb5⟩
  clear z0 c0_0 c0_1 c0_2 c0_3 c0_4 c0_5 c0_6 c0_7 c0_8 c0_9 c0_10 c0_11 c0_12 z1 c1_0 c1_1 c1_2 c1_3 c1_4 c1_5 c1_6 c1_7 c1_8 c1_9 c1_10 c1_11 c1_12
  have H6 := Lib.hid (H1.out.below hb5)
  clear hb5 H1
  go_wp2_with fail
  go_ret
  exact ⟨rfl, H6.out.bel⟩
set_option maxRecDepth 100000 in
set_option maxHeartbeats 4000000 in
theorem back_long3 (k : Nat) (u x1 y1 x2 y2 : Int) (inp : List UInt8) (a b c f t : Nat) (n : Int) (k2 : Nat) (u2 X1 Y1 X2 Y2 : Int) (inp2 : List UInt8) (a2 b2 c2 f2 t2 : Nat) (n2 : Int) (S : ByteArray) (hi : inp.length ≤ 600) (hi2 : inp2.length ≤ 600) (hs : 1000 < S.size)
     (w : World) (he : Env6 w) :
    Calls Tryz.prog 6 #[.agg #[.int .u8 (k : Nat), .int .i64 u, .int .i64 x1, .int .i64 y1, .int .i64 x2, .int .i64 y2, .string ⟨inp.toArray⟩, .int .u64 (a : Nat), .int .u64 (b : Nat), .int .u64 (c : Nat), .int .u8 (f : Nat), .int .u64 (t : Nat), .int .i64 n], .agg #[.int .u8 (k2 : Nat), .int .i64 u2, .int .i64 X1, .int .i64 Y1, .int .i64 X2, .int .i64 Y2, .string ⟨inp2.toArray⟩, .int .u64 (a2 : Nat), .int .u64 (b2 : Nat), .int .u64 (c2 : Nat), .int .u8 (f2 : Nat), .int .u64 (t2 : Nat), .int .i64 n2], .string S] w fun e w' => e = .returned (.bool true) ∧ Below w.heap.size w w' := by
  have HE := keep he
  clear he
  have gi : ¬ (inp.length : Int) > 600 := by omega
  have gi2 : ¬ (inp2.length : Int) > 600 := by omega
  have gs : (S.size : Int) > 1000 := by omega
  clear hi hi2 hs
  have H1 := Lib.hid (((Ok.start w).alloc w.heap.size 28 [.int .u8 (k : Nat), .int .i64 u, .int .i64 x1, .int .i64 y1, .int .i64 x2, .int .i64 y2, .string ⟨inp.toArray⟩, .int .u64 (a : Nat), .int .u64 (b : Nat), .int .u64 (c : Nat), .int .u8 (f : Nat), .int .u64 (t : Nat), .int .i64 n] rfl).alloc (w.heap.size + 1) 28 [.int .u8 (k2 : Nat), .int .i64 u2, .int .i64 X1, .int .i64 Y1, .int .i64 X2, .int .i64 Y2, .string ⟨inp2.toArray⟩, .int .u64 (a2 : Nat), .int .u64 (b2 : Nat), .int .u64 (c2 : Nat), .int .u8 (f2 : Nat), .int .u64 (t2 : Nat), .int .i64 n2] (by simp))
  go_enter Tryz.func6, Tryz.ntmps6
  go_upto_region 1 with fail
  generalize ((w.alloc (.cells #[.int .u8 (k : Nat), .int .i64 u, .int .i64 x1, .int .i64 y1, .int .i64 x2, .int .i64 y2, .string ⟨inp.toArray⟩, .int .u64 (a : Nat), .int .u64 (b : Nat), .int .u64 (c : Nat), .int .u8 (f : Nat), .int .u64 (t : Nat), .int .i64 n] 28)).alloc (.cells #[.int .u8 (k2 : Nat), .int .i64 u2, .int .i64 X1, .int .i64 Y1, .int .i64 X2, .int .i64 Y2, .string ⟨inp2.toArray⟩, .int .u64 (a2 : Nat), .int .u64 (b2 : Nat), .int .u64 (c2 : Nat), .int .u8 (f2 : Nat), .int .u64 (t2 : Nat), .int .i64 n2] 28)) = W2 at H1 ⊢
  have F3 := H1.out.sees
  simp only [sees, kBlk, cellsAt, Nat.reduceAdd] at F3
  obtain ⟨⟨z0, c0_0, c0_1, c0_2, c0_3, c0_4, c0_5, c0_6, c0_7, c0_8, c0_9, c0_10, c0_11, c0_12, -⟩, ⟨z1, c1_0, c1_1, c1_2, c1_3, c1_4, c1_5, c1_6, c1_7, c1_8, c1_9, c1_10, c1_11, c1_12, -⟩, -⟩ := F3
  go_wp2_with fail
  refine (law_known _ (HE.out.below H1.out.bel)).mono ?_
  rintro e w4 ⟨rfl, hb5⟩
  clear z0 c0_0 c0_1 c0_2 c0_3 c0_4 c0_5 c0_6 c0_7 c0_8 c0_9 c0_10 c0_11 c0_12 z1 c1_0 c1_1 c1_2 c1_3 c1_4 c1_5 c1_6 c1_7 c1_8 c1_9 c1_10 c1_11 c1_12
  have H6 := Lib.hid (H1.out.below hb5)
  clear hb5 H1
  go_wp2_with fail
  go_ret
  exact ⟨rfl, H6.out.bel⟩
theorem parse_back (y : OpV) (oy : y.Ok) (gy : goodV y) (w : World) (he : Env6 w) : Calls Tryz.prog 19 #[.string ⟨(lineL y).toArray⟩] w fun e w' => e = .returned (.tuple #[y.V, .int .i64 0]) ∧ Below w.heap.size w w' := by
  refine (op_Parse (lineL y) w (line_len y gy oy) he).mono ?_
  rintro e w1 ⟨x, err, rfl, hp, hb⟩
  obtain ⟨rfl, rfl⟩ := hp.same (y := y) (f := 0) (.inl ⟨rfl, oy, gy, rfl⟩)
  exact ⟨rfl, hb⟩
theorem parse_none (l : List UInt8) (hl : l.length ≤ 100000) (hn : ∀ y : OpV, y.Ok → goodV y → lineL y ≠ l) (w : World) (he : Env6 w) : Calls Tryz.prog 19 #[.string ⟨l.toArray⟩] w fun e w' => e = .returned (.tuple #[OpV.zero.V, .int .i64 4]) ∧ Below w.heap.size w w' := by
  refine (op_Parse l w hl he).mono ?_
  rintro e w1 ⟨x, err, rfl, hp, hb⟩
  obtain ⟨rfl, rfl⟩ := hp.same (y := OpV.zero) (f := 4) (.inr ⟨rfl, rfl, hn⟩)
  exact ⟨rfl, hb⟩
theorem line_byte (x : OpV) (gx : goodV x) (ox : x.Ok) (i : Nat) (h : i < (⟨(lineL x).toArray⟩ : ByteArray).size) : ¬ (((⟨(lineL x).toArray⟩ : ByteArray)[i]'h).toNat : Int) < 32 ∧ ¬ (((⟨(lineL x).toArray⟩ : ByteArray)[i]'h).toNat : Int) > 126 := by
  have h2 : i < (lineL x).length := by simpa [ByteArray.size] using h
  have := plain_line x gx ox ((lineL x)[i]'h2) (List.getElem_mem h2)
  have e : (⟨(lineL x).toArray⟩ : ByteArray)[i]'h = (lineL x)[i]'h2 := rfl
  rw [e]
  unfold plainB at this
  rw [decide_eq_true_eq] at this
  omega
theorem line_size (l : List UInt8) : (⟨l.toArray⟩ : ByteArray).size = l.length := by simp [ByteArray.size]
set_option maxHeartbeats 4000000 in
theorem law_OpBack (x y : OpV) (ox : x.Ok) (oy : y.Ok) (l : List UInt8) (w : World) (he : Env6 w) :
    Calls Tryz.prog 6 #[x.V, y.V, .string ⟨l.toArray⟩] w fun e w' => e = .returned (.bool true) ∧ Below w.heap.size w w' := by
  have hls := line_size l
  by_cases hi : x.input.length ≤ 600
  case neg => exact back_long1 _ _ _ _ _ _ _ _ _ _ _ _ _ _ _ _ _ _ _ _ _ _ _ _ _ _ _ (Nat.lt_of_not_le hi) w he
  by_cases hi2 : y.input.length ≤ 600
  case neg => exact back_long2 _ _ _ _ _ _ _ _ _ _ _ _ _ _ _ _ _ _ _ _ _ _ _ _ _ _ _ hi (Nat.lt_of_not_le hi2) w he
  by_cases hs : l.length ≤ 1000
  case neg => exact back_long3 _ _ _ _ _ _ _ _ _ _ _ _ _ _ _ _ _ _ _ _ _ _ _ _ _ _ _ hi hi2 (by rw [hls]; exact Nat.lt_of_not_le hs) w he
  have hsz : (⟨l.toArray⟩ : ByteArray).size ≤ 1000 := by rw [hls]; exact hs
  have h62 : ∀ z : OpV, z.input.length ≤ 600 → z.input.length ≤ 4611686018427387904 := fun z h => Nat.le_trans h (by decide)
  have hFx := fun w he => op_Format x ox (h62 x hi) w he
  have hFy := fun w he => op_Format y oy (h62 y hi2) w he
  have hCx := fun (w : World) (_ : Env6 w) => op_Check x w (h62 x hi)
  obtain ⟨z, hz⟩ : ∃ z : OpV, (∀ w : World, Env6 w → Calls Tryz.prog 19 #[.string ⟨l.toArray⟩] w fun e w' => e = .returned (.tuple #[OpV.zero.V, .int .i64 4]) ∧ Below w.heap.size w w') ∨ ((∀ w : World, Env6 w → Calls Tryz.prog 19 #[.string ⟨l.toArray⟩] w fun e w' => e = .returned (.tuple #[z.V, .int .i64 0]) ∧ Below w.heap.size w w') ∧ (∀ w : World, Env6 w → Calls Tryz.prog 11 #[z.V] w fun e w' => e = .returned (.tuple #[.string ⟨l.toArray⟩, .int .i64 0]) ∧ Below w.heap.size w w') ∧ (∀ w : World, Env6 w → Calls Tryz.prog 13 #[z.V] w fun e w' => e = .returned (.int .i64 0) ∧ Below w.heap.size w w')) := by
    by_cases h : ∃ z : OpV, z.Ok ∧ goodV z ∧ lineL z = l
    · obtain ⟨z, oz, gz, rfl⟩ := h
      have hzi : z.input.length ≤ 4611686018427387904 := by
        have := gz.2.2.2.2.1
        unfold textB at this
        rw [Bool.and_eq_true, decide_eq_true_eq] at this
        exact Nat.le_trans this.1 (by decide)
      refine ⟨z, .inr ⟨fun w he => parse_back z oz gz w he, fun w he => ?_, fun w he => ?_⟩⟩
      · have h := op_Format z oz hzi w he
        rw [show formatV z = (lineL z, 0) by unfold formatV; rw [if_pos gz]] at h
        exact h
      · have h := op_Check z w hzi
        rw [show checkV z = 0 by unfold checkV; rw [if_pos gz]] at h
        exact h
    · exact ⟨OpV.zero, .inl fun w he => parse_none l (Nat.le_trans hs (by decide)) (fun y oy gy e => h ⟨y, oy, gy, e⟩) w he⟩
  by_cases gx : goodV x
  case neg =>
    rw [show formatV x = ([], 4) by unfold formatV; rw [if_neg gx]] at hFx
    rw [show checkV x = 4 by unfold checkV; rw [if_neg gx]] at hCx
    exact back_core_0 _ _ _ _ _ _ _ _ _ _ _ _ _ _ _ _ _ _ _ _ _ _ _ _ _ _ _ _ _ _ _ _ _ _ _ _ _ _ _ _ hi hsz hi2 _ _ _ hFx hFy hCx hz w he
  rw [show formatV x = (lineL x, 0) by unfold formatV; rw [if_pos gx]] at hFx
  rw [show checkV x = 0 by unfold checkV; rw [if_pos gx]] at hCx
  have hPx := fun w he => parse_back x ox gx w he
  have hB := line_byte x gx ox
  have hN : (⟨(lineL x).toArray⟩ : ByteArray).size ≤ 100000 := by rw [line_size]; exact line_len x gx ox
  by_cases gy : goodV y
  case neg =>
    rw [show formatV y = ([], 4) by unfold formatV; rw [if_neg gy]] at hFy
    exact back_core_1 _ _ _ _ _ _ _ _ _ _ _ _ _ _ _ _ _ _ _ _ _ _ _ _ _ _ _ _ _ _ _ _ _ _ _ _ _ _ _ _ hi hsz hi2 _ _ hB hN hFx hFy hCx hPx hz w he
  rw [show formatV y = (lineL y, 0) by unfold formatV; rw [if_pos gy]] at hFy
  by_cases hxy : x = y
  · subst hxy
    exact back_core_2 _ _ _ _ _ _ _ _ _ _ _ _ _ _ _ _ _ _ _ _ _ _ _ _ _ _ _ hi hsz _ hB hN hFx hCx hPx hz w he
  · have hne : ((⟨(lineL x).toArray⟩ : ByteArray).toList == (⟨(lineL y).toArray⟩ : ByteArray).toList) = false := by
      rw [ByteArray.toList_eq, ByteArray.toList_eq, beq_eq_false_iff_ne]
      exact fun e => hxy (line_inj x y gx gy ox oy e)
    exact back_core_3 _ _ _ _ _ _ _ _ _ _ _ _ _ _ _ _ _ _ _ _ _ _ _ _ _ _ _ _ _ _ _ _ _ _ _ _ _ _ _ _ hi hsz hi2 _ _ hB hN hne hxy hFx hFy hCx hPx hz w he
end Go.Proofs.YtjbimcdofenmdaaGreatDoor
