/- The walk of the law OpExamples. -/
import Derived.Test.YtjbimcdofenmdaaGreatDoorMOpX0
import Derived.Test.YtjbimcdofenmdaaGreatDoorMOpN
namespace Go.Proofs.YtjbimcdofenmdaaGreatDoor
open Go.RowKit

set_option maxRecDepth 100000 in
set_option maxHeartbeats 4000000 in
theorem law_one (c r : Int) (w : World) :
    Calls Tryz.prog 21 #[.int .i64 c, .int .i64 r] w fun e w' => e = .returned (.agg #[.int .i64 c, .int .i64 r, .int .i64 c, .int .i64 r]) ∧ Below w.heap.size w w' := by
  have H1 := Lib.hid ((Ok.start w).var w.heap.size 23 [.int .i64 c, .int .i64 r, .int .i64 c, .int .i64 r] rfl)
  go_enter Tryz.func21, Tryz.ntmps21
  go_wp2_with fail
  generalize (w.alloc (.cells #[.int .i64 c, .int .i64 r, .int .i64 c, .int .i64 r] 23)) = W2 at H1 ⊢
  have hK := H1.out.get (kVar (w.heap.size) 23 [.int .i64 c, .int .i64 r, .int .i64 c, .int .i64 r]) (by simp)
  have hE := (show Blk W2 (w.heap.size) 23 _ from hK)
  have r0 := hE.cell 0
  have r1 := hE.cell 1
  have r2 := hE.cell 2
  have r3 := hE.cell 3
  simp at r0 r1 r2 r3
  exact bodyPost_ret (v := .agg #[.int .i64 c, .int .i64 r, .int .i64 c, .int .i64 r]) (by simp [results, Tryz.results21, go_sem, r0, r1, r2, r3]) rfl ⟨rfl, H1.out.bel⟩
theorem far_target (w : World) : Calls Tryz.prog 9 #[.agg #[.int .u8 5, .int .i64 0, .int .i64 1, .int .i64 9999, .int .i64 1, .int .i64 9999, .string ⟨#[]⟩, .int .u64 0, .int .u64 0, .int .u64 0, .int .u8 0, .int .u64 0, .int .i64 0]] w fun e w' => e = .returned (.tuple #[.agg #[.int .i64 1, .int .i64 9999, .int .i64 1, .int .i64 9999], .bool true]) ∧ Below w.heap.size w w' := by
  have h := op_Target ⟨5, 0, ⟨1, 9999, 1, 9999⟩, [], 0, 0, 0, 0, 0, 0⟩ w
  exact h
theorem rev_target (w : World) : Calls Tryz.prog 9 #[.agg #[.int .u8 9, .int .i64 0, .int .i64 1, .int .i64 1, .int .i64 1, .int .i64 1, .string ⟨#[]⟩, .int .u64 0, .int .u64 0, .int .u64 0, .int .u8 0, .int .u64 0, .int .i64 0]] w fun e w' => e = .returned (.tuple #[.agg #[.int .i64 0, .int .i64 0, .int .i64 0, .int .i64 0], .bool false]) ∧ Below w.heap.size w w' := by
  have h := op_Target ⟨9, 0, ⟨1, 1, 1, 1⟩, [], 0, 0, 0, 0, 0, 0⟩ w
  exact h
theorem far_check (w : World) : Calls Tryz.prog 13 #[.agg #[.int .u8 5, .int .i64 0, .int .i64 1, .int .i64 9999, .int .i64 1, .int .i64 9999, .string ⟨#[]⟩, .int .u64 0, .int .u64 0, .int .u64 0, .int .u8 0, .int .u64 0, .int .i64 0]] w fun e w' => e = .returned (.int .i64 0) ∧ Below w.heap.size w w' := by
  have h := op_Check ⟨5, 0, ⟨1, 9999, 1, 9999⟩, [], 0, 0, 0, 0, 0, 0⟩ w (by decide)
  rw [show checkV ⟨5, 0, ⟨1, 9999, 1, 9999⟩, [], 0, 0, 0, 0, 0, 0⟩ = 0 by decide] at h
  exact h
theorem far_mutates (w : World) : Calls Tryz.prog 15 #[.agg #[.int .u8 5, .int .i64 0, .int .i64 1, .int .i64 9999, .int .i64 1, .int .i64 9999, .string ⟨#[]⟩, .int .u64 0, .int .u64 0, .int .u64 0, .int .u8 0, .int .u64 0, .int .i64 0]] w fun e w' => e = .returned (.bool false) ∧ Below w.heap.size w w' := by
  have h := op_Mutates ⟨5, 0, ⟨1, 9999, 1, 9999⟩, [], 0, 0, 0, 0, 0, 0⟩ w
  exact h
theorem r9_mut (w : World) : Calls Tryz.prog 15 #[.agg #[.int .u8 9, .int .i64 0, .int .i64 0, .int .i64 0, .int .i64 0, .int .i64 0, .string ⟨#[]⟩, .int .u64 0, .int .u64 0, .int .u64 0, .int .u8 0, .int .u64 0, .int .i64 0]] w fun e w' => e = .returned (.bool true) ∧ Below w.heap.size w w' := by
  have h := op_Mutates ⟨9, 0, ⟨0, 0, 0, 0⟩, [], 0, 0, 0, 0, 0, 0⟩ w
  exact h
theorem p12_plain (w : World) : Calls Tryz.prog 17 #[.agg #[.int .u8 12, .int .i64 1, .int .i64 0, .int .i64 0, .int .i64 0, .int .i64 0, .string ⟨#[]⟩, .int .u64 0, .int .u64 0, .int .u64 0, .int .u8 0, .int .u64 0, .int .i64 0]] w fun e w' => e = .returned (.agg #[.int .u8 12, .int .i64 0, .int .i64 0, .int .i64 0, .int .i64 0, .int .i64 0, .string ⟨#[]⟩, .int .u64 0, .int .u64 0, .int .u64 0, .int .u8 0, .int .u64 0, .int .i64 0]) ∧ Below w.heap.size w w' := by
  have h := op_Plain ⟨12, 1, ⟨0, 0, 0, 0⟩, [], 0, 0, 0, 0, 0, 0⟩ w
  rw [show plainV ⟨12, 1, ⟨0, 0, 0, 0⟩, [], 0, 0, 0, 0, 0, 0⟩ = ⟨12, 0, ⟨0, 0, 0, 0⟩, [], 0, 0, 0, 0, 0, 0⟩ by decide] at h
  exact h
theorem p10_plain (w : World) : Calls Tryz.prog 17 #[.agg #[.int .u8 10, .int .i64 1, .int .i64 0, .int .i64 0, .int .i64 0, .int .i64 0, .string ⟨#[]⟩, .int .u64 0, .int .u64 0, .int .u64 0, .int .u8 0, .int .u64 0, .int .i64 2]] w fun e w' => e = .returned (.agg #[.int .u8 10, .int .i64 1, .int .i64 0, .int .i64 0, .int .i64 0, .int .i64 0, .string ⟨#[]⟩, .int .u64 0, .int .u64 0, .int .u64 0, .int .u8 0, .int .u64 0, .int .i64 0]) ∧ Below w.heap.size w w' := by
  have h := op_Plain ⟨10, 1, ⟨0, 0, 0, 0⟩, [], 0, 0, 0, 0, 0, 2⟩ w
  rw [show plainV ⟨10, 1, ⟨0, 0, 0, 0⟩, [], 0, 0, 0, 0, 0, 2⟩ = ⟨10, 1, ⟨0, 0, 0, 0⟩, [], 0, 0, 0, 0, 0, 0⟩ by decide] at h
  exact h
theorem exCells_eq : (#[.int .u8 3, .int .i64 1, .int .i64 2, .int .i64 2, .int .i64 2, .int .i64 2, .string ⟨#[61, 65, 49, 38, 34, 120, 34]⟩, .int .u64 0, .int .u64 0, .int .u64 0, .int .u8 0, .int .u64 0, .int .i64 0, .string ⟨#[115, 101, 116, 32, 49, 32, 66, 50, 32, 34, 61, 65, 49, 38, 34, 34, 120, 34, 34, 34]⟩, .int .u8 3, .int .i64 0, .int .i64 1, .int .i64 1, .int .i64 1, .int .i64 1, .string ⟨#[97, 32, 32, 98, 32]⟩, .int .u64 0, .int .u64 0, .int .u64 0, .int .u8 0, .int .u64 0, .int .i64 0, .string ⟨#[115, 101, 116, 32, 48, 32, 65, 49, 32, 34, 97, 32, 32, 98, 32, 34]⟩, .int .u8 7, .int .i64 0, .int .i64 1, .int .i64 1, .int .i64 2, .int .i64 3, .string ⟨#[]⟩, .int .u64 7, .int .u64 1, .int .u64 0, .int .u8 0, .int .u64 0, .int .i64 0, .string ⟨#[114, 117, 108, 101, 32, 48, 32, 65, 49, 58, 66, 51, 32, 48, 45, 50, 32, 48, 32, 45]⟩, .int .u8 5, .int .i64 (-1), .int .i64 0, .int .i64 1, .int .i64 2, .int .i64 2, .string ⟨#[]⟩, .int .u64 0, .int .u64 0, .int .u64 0, .int .u8 0, .int .u64 0, .int .i64 0, .string ⟨#[114, 101, 97, 100, 32, 45, 49, 32, 48, 44, 49, 44, 50, 44, 50]⟩, .int .u8 8, .int .i64 2, .int .i64 1, .int .i64 1, .int .i64 1, .int .i64 1, .string ⟨#[]⟩, .int .u64 0, .int .u64 0, .int .u64 0, .int .u8 3, .int .u64 0, .int .i64 0, .string ⟨#[103, 114, 97, 110, 116, 32, 50, 32, 65, 49, 32, 51, 32, 45]⟩, .int .u8 9, .int .i64 0, .int .i64 0, .int .i64 0, .int .i64 0, .int .i64 0, .string ⟨#[]⟩, .int .u64 0, .int .u64 0, .int .u64 0, .int .u8 0, .int .u64 0, .int .i64 (-1), .string ⟨#[114, 101, 118, 111, 107, 101, 32, 48, 32, 45, 49]⟩, .int .u8 1, .int .i64 (-9223372036854775808), .int .i64 0, .int .i64 0, .int .i64 0, .int .i64 0, .string ⟨#[]⟩, .int .u64 0, .int .u64 0, .int .u64 0, .int .u8 0, .int .u64 0, .int .i64 0, .string ⟨#[108, 111, 103, 105, 110, 32, 45, 57, 50, 50, 51, 51, 55, 50, 48, 51, 54, 56, 53, 52, 55, 55, 53, 56, 48, 56]⟩, .int .u8 6, .int .i64 3, .int .i64 1024, .int .i64 1024, .int .i64 1024, .int .i64 1024, .string ⟨#[]⟩, .int .u64 0, .int .u64 0, .int .u64 0, .int .u8 0, .int .u64 0, .int .i64 0, .string ⟨#[102, 111, 114, 109, 117, 108, 97, 32, 51, 32, 65, 77, 74, 49, 48, 50, 52]⟩] : Array Value) = (exCells exO).toArray := by kernel_rfl
theorem badCells_eq : (#[.string ⟨#[108, 111, 103, 105, 110, 32, 48, 32]⟩, .string ⟨#[114, 101, 97, 100, 32, 48, 32, 49, 44, 49, 44, 49, 44, 49]⟩, .string ⟨#[115, 101, 116, 32, 48, 32, 65, 49, 32, 120]⟩, .string ⟨#[97, 117, 100, 105, 116, 32, 48, 48]⟩, .string ⟨#[]⟩, .string ⟨#[108, 111, 103, 105, 110]⟩, .string ⟨#[103, 114, 97, 110, 116, 32, 48, 32, 65, 49, 32, 48, 32, 45]⟩, .string ⟨#[103, 114, 97, 110, 116, 32, 48, 32, 65, 49, 32, 51, 50, 32, 45]⟩, .string ⟨#[102, 111, 114, 109, 117, 108, 97, 32, 48, 32, 65, 49, 58, 65, 50]⟩, .string ⟨#[115, 101, 116, 32, 48, 32, 65, 49]⟩, .string ⟨#[114, 117, 108, 101, 32, 48, 32, 65, 49, 32, 45, 32, 45]⟩, .string ⟨#[114, 97, 119, 32, 48]⟩, .string ⟨#[114, 101, 97, 100, 32, 48, 32, 97, 49]⟩, .string ⟨#[114, 101, 118, 111, 107, 101, 32, 48, 32, 43, 49]⟩, .string ⟨#[108, 111, 103, 105, 110, 32, 57, 50, 50, 51, 51, 55, 50, 48, 51, 54, 56, 53, 52, 55, 55, 53, 56, 48, 56]⟩] : Array Value) = (strsV badL).toArray := by kernel_rfl
theorem boCells_eq : (#[.int .u8 11, .int .i64 0, .int .i64 0, .int .i64 0, .int .i64 0, .int .i64 0, .string ⟨#[]⟩, .int .u64 0, .int .u64 0, .int .u64 0, .int .u8 0, .int .u64 0, .int .i64 0, .int .u8 0, .int .i64 0, .int .i64 0, .int .i64 0, .int .i64 0, .int .i64 0, .string ⟨#[]⟩, .int .u64 0, .int .u64 0, .int .u64 0, .int .u8 0, .int .u64 0, .int .i64 0, .int .u8 1, .int .i64 0, .int .i64 0, .int .i64 0, .int .i64 0, .int .i64 0, .string ⟨#[]⟩, .int .u64 0, .int .u64 0, .int .u64 0, .int .u8 0, .int .u64 0, .int .i64 1, .int .u8 3, .int .i64 0, .int .i64 1, .int .i64 1, .int .i64 1, .int .i64 2, .string ⟨#[]⟩, .int .u64 0, .int .u64 0, .int .u64 0, .int .u8 0, .int .u64 0, .int .i64 0, .int .u8 8, .int .i64 0, .int .i64 1, .int .i64 1, .int .i64 1, .int .i64 1, .string ⟨#[]⟩, .int .u64 0, .int .u64 0, .int .u64 0, .int .u8 0, .int .u64 0, .int .i64 0, .int .u8 3, .int .i64 0, .int .i64 0, .int .i64 0, .int .i64 0, .int .i64 0, .string ⟨#[9]⟩, .int .u64 0, .int .u64 0, .int .u64 0, .int .u8 0, .int .u64 0, .int .i64 0] : Array Value) = (boCells badO).toArray := by kernel_rfl
set_option maxRecDepth 100000 in
set_option maxHeartbeats 4000000 in
theorem law_OpExamples (w : World) (he : Env6 w) :
    Calls Tryz.prog 5 #[] w fun e w' => e = .returned (.bool true) ∧ Below w.heap.size w w' := by
  have HE := keep he
  clear he
  have H0 := Lib.hid (Ok.start w)
  go_enter Tryz.func5, Tryz.ntmps5
  go_wp2_with fail
  refine (law_one _ _ _).mono ?_
  rintro e w1 ⟨rfl, hb2⟩
  have H3 := Lib.hid (H0.out.below hb2)
  clear hb2 H0
  go_wp2_with fail
  refine (law_one _ _ _).mono ?_
  rintro e w4 ⟨rfl, hb5⟩
  have H6 := Lib.hid (H3.out.below hb5)
  clear hb5 H3
  go_wp2_with fail
  refine (law_one _ _ _).mono ?_
  rintro e w7 ⟨rfl, hb8⟩
  have H9 := Lib.hid (H6.out.below hb8)
  clear hb8 H6
  go_wp2_with fail
  refine (law_one _ _ _).mono ?_
  rintro e w10 ⟨rfl, hb11⟩
  have H12 := Lib.hid (H9.out.below hb11)
  clear hb11 H9
  go_wp2_with fail
  rw [exCells_eq]
  have H13 := Lib.hid (H12.out.alloc w10.heap.size 42 (exCells exO) rfl)
  clear H12
  generalize (w10.alloc (.cells (exCells exO).toArray 42)) = W14 at H13 ⊢
  go_loopw [2] (fun iv wr => ∃ i : Nat, i ≤ 8 ∧ iv = .int .i64 (i : Int) ∧ Hid (Ok w [kBlk w10.heap.size 42 (exCells exO)] wr)) (fun iv _ => 8 - (intOf iv).toNat)
  case atStart => exact ⟨0, Nat.zero_le _, rfl, H13⟩
  case round =>
    clear H13
    obtain ⟨i, hi, rfl, HR⟩ := hrel
    obtain ⟨wp, rfl⟩ : ∃ wp : World, wp = wr := ⟨_, rfl⟩
    by_cases hlt : (i : Int) < 8
    · obtain ⟨p, hp⟩ : ∃ p, exO[i]? = some p := ⟨_, List.getElem?_eq_getElem (show i < exO.length by show i < 8; omega)⟩
      have hx := exO_ok p (List.mem_of_getElem? hp)
      have hc := blk_from (HR.out.get (kBlk w10.heap.size 42 (exCells exO)) (by simp)) (i * 14) (p.1.cells ++ [Value.string ⟨p.2.toArray⟩]) (fun j hj => exCells_at exO i p hp j (show j < 14 from hj))
      obtain ⟨x, want⟩ := p
      dsimp only at hx hc
      obtain ⟨hok, hgd, hln, hsz, hwl⟩ := hx
      have HF := keep (fun W he => op_Format x hok (Nat.le_trans hsz (by decide)) W he)
      rw [show formatV x = (want, 0) by unfold formatV; rw [if_pos hgd, hln]] at HF
      have HPB := keep (fun W he => op_Parse want W (Nat.le_trans hwl (by decide)) he)
      have HPA := keep (show ParsedAs want x 0 from .inl ⟨rfl, hok, hgd, hln⟩)
      have H := Lib.hid (HR.out.add (kCells w10.heap.size (i * 14) (x.cells ++ [Value.string ⟨want.toArray⟩])) hc)
      have hw9 : IntKind.i64.wrap ((i : Int) + 1) = (i : Int) + 1 := Go.IntWalk.i64_in _ (by omega)
      clear hp hok hgd hln hsz hwl hc HR
      obtain ⟨k, u, ⟨x1, y1, x2, y2⟩, inp, a, b, c, f, t, n⟩ := x
      simp only [OpV.cells, List.cons_append, List.nil_append] at H
      have F15 := H.out.sees
      simp only [sees, kCells, cellsFrom, Nat.add_zero, Nat.reduceAdd] at F15
      obtain ⟨⟨z0, c0_0, c0_1, c0_2, c0_3, c0_4, c0_5, c0_6, c0_7, c0_8, c0_9, c0_10, c0_11, c0_12, c0_13, -⟩, -, -⟩ := F15
      go_wp2_with fail
      refine (HF.out _ (HE.out.below H.out.bel)).mono ?_
      rintro e w16 ⟨rfl, hb17⟩
      clear z0 c0_0 c0_1 c0_2 c0_3 c0_4 c0_5 c0_6 c0_7 c0_8 c0_9 c0_10 c0_11 c0_12 c0_13
      have H18 := Lib.hid (H.out.below hb17)
      clear hb17 H
      have F19 := H18.out.sees
      simp only [sees, kCells, cellsFrom, Nat.add_zero, Nat.reduceAdd] at F19
      obtain ⟨⟨z0, c0_0, c0_1, c0_2, c0_3, c0_4, c0_5, c0_6, c0_7, c0_8, c0_9, c0_10, c0_11, c0_12, c0_13, -⟩, -, -⟩ := F19
      go_wp2_with fail
      refine (HPB.out _ (HE.out.below H18.out.bel)).mono ?_
      rintro e w20 ⟨x0, err, rfl, hpa, hb21⟩
      obtain ⟨rfl, rfl⟩ := hpa.same HPA.out
      clear z0 c0_0 c0_1 c0_2 c0_3 c0_4 c0_5 c0_6 c0_7 c0_8 c0_9 c0_10 c0_11 c0_12 c0_13
      have H22 := Lib.hid (H18.out.below hb21)
      clear hb21 H18
      simp only [OpV.V]
      go_upto_region 7 with fail
      have H23 := Lib.hid (H22.out.alloc w20.heap.size 28 [.int .u8 (k : Nat), .int .i64 u, .int .i64 x1, .int .i64 y1, .int .i64 x2, .int .i64 y2, .string ⟨inp.toArray⟩, .int .u64 (a : Nat), .int .u64 (b : Nat), .int .u64 (c : Nat), .int .u8 (f : Nat), .int .u64 (t : Nat), .int .i64 n] rfl)
      clear H22
      generalize (w20.alloc (.cells #[.int .u8 (k : Nat), .int .i64 u, .int .i64 x1, .int .i64 y1, .int .i64 x2, .int .i64 y2, .string ⟨inp.toArray⟩, .int .u64 (a : Nat), .int .u64 (b : Nat), .int .u64 (c : Nat), .int .u8 (f : Nat), .int .u64 (t : Nat), .int .i64 n] 28)) = W24 at H23 ⊢
      have F25 := H23.out.sees
      simp only [sees, kBlk, kCells, cellsFrom, Nat.add_zero, cellsAt, Nat.reduceAdd] at F25
      obtain ⟨⟨z0, c0_0, c0_1, c0_2, c0_3, c0_4, c0_5, c0_6, c0_7, c0_8, c0_9, c0_10, c0_11, c0_12, -⟩, ⟨z1, c1_0, c1_1, c1_2, c1_3, c1_4, c1_5, c1_6, c1_7, c1_8, c1_9, c1_10, c1_11, c1_12, c1_13, -⟩, -, -⟩ := F25
      refine wp_region_held_drew (S := fun W => Ok w [kBlk (w20.heap.size) 28 [.int .u8 (k : Nat), .int .i64 u, .int .i64 x1, .int .i64 y1, .int .i64 x2, .int .i64 y2, .string ⟨inp.toArray⟩, .int .u64 (a : Nat), .int .u64 (b : Nat), .int .u64 (c : Nat), .int .u8 (f : Nat), .int .u64 (t : Nat), .int .i64 n], kCells w10.heap.size (i * 14) [.int .u8 (k : Nat), .int .i64 u, .int .i64 x1, .int .i64 y1, .int .i64 x2, .int .i64 y2, .string ⟨inp.toArray⟩, .int .u64 (a : Nat), .int .u64 (b : Nat), .int .u64 (c : Nat), .int .u8 (f : Nat), .int .u64 (t : Nat), .int .i64 n, .string ⟨want.toArray⟩], kBlk w10.heap.size 42 (exCells exO)] W) (by kernel_rfl) H23.out.drew (fun hHeld => ?_)
      refine wpAnyH_take (i := 0) (v := ?vx1_0) rfl (by kernel_rfl) (by kernel_rfl) (by kernel_rfl) (fun _ _ _ h => h) (Or.inl ⟨by rfl, ?hyx1_0⟩) (by assumption) ?restx1_0
      case hyx1_0 => (intro w hSw; have F := Ok.sees hSw; clear hSw; simp only [sees, kBlk, kCells, cellsFrom, Nat.add_zero, cellsAt, Nat.reduceAdd] at F; go_simp; try with_reducible rfl)
      try simp only [Act.put, List.setIfInBounds_toArray, List.set_cons_zero, List.set_cons_succ, List.getElem_toArray, List.getElem_cons_zero]
      refine wpAnyH_take (i := 1) (v := ?vx2_1) rfl (by kernel_rfl) (by kernel_rfl) (by kernel_rfl) (fun _ _ _ h => h) (Or.inl ⟨by rfl, ?hyx2_1⟩) (by assumption) ?restx2_1
      case hyx2_1 => (intro w hSw; have F := Ok.sees hSw; clear hSw; simp only [sees, kBlk, kCells, cellsFrom, Nat.add_zero, cellsAt, Nat.reduceAdd] at F; go_simp; try with_reducible rfl)
      try simp only [Act.put, List.setIfInBounds_toArray, List.set_cons_zero, List.set_cons_succ, List.getElem_toArray, List.getElem_cons_succ, List.getElem_cons_zero]
      refine wpAnyH_take (i := 2) (v := ?vx3_2) rfl (by kernel_rfl) (by kernel_rfl) (by kernel_rfl) (fun _ _ _ h => h) (Or.inl ⟨by rfl, ?hyx3_2⟩) (by assumption) ?restx3_2
      case hyx3_2 => (intro w hSw; have F := Ok.sees hSw; clear hSw; simp only [sees, kBlk, kCells, cellsFrom, Nat.add_zero, cellsAt, Nat.reduceAdd] at F; go_simp; try with_reducible rfl)
      try simp only [Act.put, List.setIfInBounds_toArray, List.set_cons_zero, List.set_cons_succ, List.getElem_toArray, List.getElem_cons_succ, List.getElem_cons_zero]
      refine wpAnyH_take (i := 3) (v := ?vx4_3) rfl (by kernel_rfl) (by kernel_rfl) (by kernel_rfl) (fun _ _ _ h => h) (Or.inl ⟨by rfl, ?hyx4_3⟩) (by assumption) ?restx4_3
      case hyx4_3 => (intro w hSw; have F := Ok.sees hSw; clear hSw; simp only [sees, kBlk, kCells, cellsFrom, Nat.add_zero, cellsAt, Nat.reduceAdd] at F; go_simp; try with_reducible rfl)
      try simp only [Act.put, List.setIfInBounds_toArray, List.set_cons_zero, List.set_cons_succ, List.getElem_toArray, List.getElem_cons_succ, List.getElem_cons_zero]
      refine wpAnyH_take (i := 4) (v := ?vx5_4) rfl (by kernel_rfl) (by kernel_rfl) (by kernel_rfl) (fun _ _ _ h => h) (Or.inl ⟨by rfl, ?hyx5_4⟩) (by assumption) ?restx5_4
      case hyx5_4 => (intro w hSw; have F := Ok.sees hSw; clear hSw; simp only [sees, kBlk, kCells, cellsFrom, Nat.add_zero, cellsAt, Nat.reduceAdd] at F; go_simp; try with_reducible rfl)
      try simp only [Act.put, List.setIfInBounds_toArray, List.set_cons_zero, List.set_cons_succ, List.getElem_toArray, List.getElem_cons_succ, List.getElem_cons_zero]
      refine wpAnyH_take (i := 5) (v := ?vx6_5) rfl (by kernel_rfl) (by kernel_rfl) (by kernel_rfl) (fun _ _ _ h => h) (Or.inl ⟨by rfl, ?hyx6_5⟩) (by assumption) ?restx6_5
      case hyx6_5 => (intro w hSw; have F := Ok.sees hSw; clear hSw; simp only [sees, kBlk, kCells, cellsFrom, Nat.add_zero, cellsAt, Nat.reduceAdd] at F; go_simp; try with_reducible rfl)
      try simp only [Act.put, List.setIfInBounds_toArray, List.set_cons_zero, List.set_cons_succ, List.getElem_toArray, List.getElem_cons_succ, List.getElem_cons_zero]
      refine wpAnyH_take (i := 6) (v := ?vx7_6) rfl (by kernel_rfl) (by kernel_rfl) (by kernel_rfl) (fun _ _ _ h => h) (Or.inl ⟨by rfl, ?hyx7_6⟩) (by assumption) ?restx7_6
      case hyx7_6 => (intro w hSw; have F := Ok.sees hSw; clear hSw; simp only [sees, kBlk, kCells, cellsFrom, Nat.add_zero, cellsAt, Nat.reduceAdd] at F; go_simp; try with_reducible rfl)
      try simp only [Act.put, List.setIfInBounds_toArray, List.set_cons_zero, List.set_cons_succ, List.getElem_toArray, List.getElem_cons_succ, List.getElem_cons_zero]
      refine wpAnyH_take (i := 7) (v := ?vx8_7) rfl (by kernel_rfl) (by kernel_rfl) (by kernel_rfl) (fun _ _ _ h => h) (Or.inl ⟨by rfl, ?hyx8_7⟩) (by assumption) ?restx8_7
      case hyx8_7 => (intro w hSw; have F := Ok.sees hSw; clear hSw; simp only [sees, kBlk, kCells, cellsFrom, Nat.add_zero, cellsAt, Nat.reduceAdd] at F; go_simp; try with_reducible rfl)
      try simp only [Act.put, List.setIfInBounds_toArray, List.set_cons_zero, List.set_cons_succ, List.getElem_toArray, List.getElem_cons_succ, List.getElem_cons_zero]
      refine wpAnyH_take (i := 8) (v := ?vx9_8) rfl (by kernel_rfl) (by kernel_rfl) (by kernel_rfl) (fun _ _ _ h => h) (Or.inl ⟨by rfl, ?hyx9_8⟩) (by assumption) ?restx9_8
      case hyx9_8 => (intro w hSw; have F := Ok.sees hSw; clear hSw; simp only [sees, kBlk, kCells, cellsFrom, Nat.add_zero, cellsAt, Nat.reduceAdd] at F; go_simp; try with_reducible rfl)
      try simp only [Act.put, List.setIfInBounds_toArray, List.set_cons_zero, List.set_cons_succ, List.getElem_toArray, List.getElem_cons_succ, List.getElem_cons_zero]
      refine wpAnyH_take (i := 9) (v := ?vx10_9) rfl (by kernel_rfl) (by kernel_rfl) (by kernel_rfl) (fun _ _ _ h => h) (Or.inl ⟨by rfl, ?hyx10_9⟩) (by assumption) ?restx10_9
      case hyx10_9 => (intro w hSw; have F := Ok.sees hSw; clear hSw; simp only [sees, kBlk, kCells, cellsFrom, Nat.add_zero, cellsAt, Nat.reduceAdd] at F; go_simp; try with_reducible rfl)
      try simp only [Act.put, List.setIfInBounds_toArray, List.set_cons_zero, List.set_cons_succ, List.getElem_toArray, List.getElem_cons_succ, List.getElem_cons_zero]
      refine wpAnyH_take (i := 10) (v := ?vx11_10) rfl (by kernel_rfl) (by kernel_rfl) (by kernel_rfl) (fun _ _ _ h => h) (Or.inl ⟨by rfl, ?hyx11_10⟩) (by assumption) ?restx11_10
      case hyx11_10 => (intro w hSw; have F := Ok.sees hSw; clear hSw; simp only [sees, kBlk, kCells, cellsFrom, Nat.add_zero, cellsAt, Nat.reduceAdd] at F; go_simp; try with_reducible rfl)
      try simp only [Act.put, List.setIfInBounds_toArray, List.set_cons_zero, List.set_cons_succ, List.getElem_toArray, List.getElem_cons_succ, List.getElem_cons_zero]
      refine wpAnyH_take (i := 11) (v := ?vx12_11) rfl (by kernel_rfl) (by kernel_rfl) (by kernel_rfl) (fun _ _ _ h => h) (Or.inl ⟨by rfl, ?hyx12_11⟩) (by assumption) ?restx12_11
      case hyx12_11 => (intro w hSw; have F := Ok.sees hSw; clear hSw; simp only [sees, kBlk, kCells, cellsFrom, Nat.add_zero, cellsAt, Nat.reduceAdd] at F; go_simp; try with_reducible rfl)
      try simp only [Act.put, List.setIfInBounds_toArray, List.set_cons_zero, List.set_cons_succ, List.getElem_toArray, List.getElem_cons_succ, List.getElem_cons_zero]
      refine wpAnyH_take (i := 12) (v := ?vx13_12) rfl (by kernel_rfl) (by kernel_rfl) (by kernel_rfl) (fun _ _ _ h => h) (Or.inl ⟨by rfl, ?hyx13_12⟩) (by assumption) ?restx13_12
      case hyx13_12 => (intro w hSw; have F := Ok.sees hSw; clear hSw; simp only [sees, kBlk, kCells, cellsFrom, Nat.add_zero, cellsAt, Nat.reduceAdd] at F; go_simp; try with_reducible rfl)
      try simp only [Act.put, List.setIfInBounds_toArray, List.set_cons_zero, List.set_cons_succ, List.getElem_toArray, List.getElem_cons_succ, List.getElem_cons_zero]
      refine wpAnyH_take (i := 13) (v := ?vx14_13) rfl (by kernel_rfl) (by kernel_rfl) (by kernel_rfl) (fun _ _ _ h => h) (Or.inl ⟨by rfl, ?hyx14_13⟩) (by assumption) ?restx14_13
      case hyx14_13 => (intro w hSw; have F := Ok.sees hSw; clear hSw; simp only [sees, kBlk, kCells, cellsFrom, Nat.add_zero, cellsAt, Nat.reduceAdd] at F; go_simp; try with_reducible rfl)
      try simp only [Act.put, List.setIfInBounds_toArray, List.set_cons_zero, List.set_cons_succ, List.getElem_toArray, List.getElem_cons_succ, List.getElem_cons_zero]
      refine wpAnyH_take (i := 14) (v := ?vx15_14) rfl (by kernel_rfl) (by kernel_rfl) (by kernel_rfl) (fun _ _ _ h => h) (Or.inl ⟨by rfl, ?hyx15_14⟩) (by assumption) ?restx15_14
      case hyx15_14 => (intro w hSw; have F := Ok.sees hSw; clear hSw; simp only [sees, kBlk, kCells, cellsFrom, Nat.add_zero, cellsAt, Nat.reduceAdd] at F; go_simp; try with_reducible rfl)
      try simp only [Act.put, List.setIfInBounds_toArray, List.set_cons_zero, List.set_cons_succ, List.getElem_toArray, List.getElem_cons_succ, List.getElem_cons_zero]
      refine wpAnyH_take (i := 15) (v := ?vx16_15) rfl (by kernel_rfl) (by kernel_rfl) (by kernel_rfl) (fun _ _ _ h => h) (Or.inl ⟨by rfl, ?hyx16_15⟩) (by assumption) ?restx16_15
      case hyx16_15 => (intro w hSw; have F := Ok.sees hSw; clear hSw; simp only [sees, kBlk, kCells, cellsFrom, Nat.add_zero, cellsAt, Nat.reduceAdd] at F; go_simp; try with_reducible rfl)
      try simp only [Act.put, List.setIfInBounds_toArray, List.set_cons_zero, List.set_cons_succ, List.getElem_toArray, List.getElem_cons_succ, List.getElem_cons_zero]
      refine wpAnyH_take (i := 16) (v := ?vx17_16) rfl (by kernel_rfl) (by kernel_rfl) (by kernel_rfl) (fun _ _ _ h => h) (Or.inl ⟨by rfl, ?hyx17_16⟩) (by assumption) ?restx17_16
      case hyx17_16 => (intro w hSw; have F := Ok.sees hSw; clear hSw; simp only [sees, kBlk, kCells, cellsFrom, Nat.add_zero, cellsAt, Nat.reduceAdd] at F; go_simp; try with_reducible rfl)
      try simp only [Act.put, List.setIfInBounds_toArray, List.set_cons_zero, List.set_cons_succ, List.getElem_toArray, List.getElem_cons_succ, List.getElem_cons_zero]
      refine wpAnyH_take (i := 17) (v := ?vx18_17) rfl (by kernel_rfl) (by kernel_rfl) (by kernel_rfl) (fun _ _ _ h => h) (Or.inl ⟨by rfl, ?hyx18_17⟩) (by assumption) ?restx18_17
      case hyx18_17 => (intro w hSw; have F := Ok.sees hSw; clear hSw; simp only [sees, kBlk, kCells, cellsFrom, Nat.add_zero, cellsAt, Nat.reduceAdd] at F; go_simp; try with_reducible rfl)
      try simp only [Act.put, List.setIfInBounds_toArray, List.set_cons_zero, List.set_cons_succ, List.getElem_toArray, List.getElem_cons_succ, List.getElem_cons_zero]
      refine wpAnyH_take (i := 18) (v := ?vx19_18) rfl (by kernel_rfl) (by kernel_rfl) (by kernel_rfl) (fun _ _ _ h => h) (Or.inl ⟨by rfl, ?hyx19_18⟩) (by assumption) ?restx19_18
      case hyx19_18 => (intro w hSw; have F := Ok.sees hSw; clear hSw; simp only [sees, kBlk, kCells, cellsFrom, Nat.add_zero, cellsAt, Nat.reduceAdd] at F; go_simp; try with_reducible rfl)
      try simp only [Act.put, List.setIfInBounds_toArray, List.set_cons_zero, List.set_cons_succ, List.getElem_toArray, List.getElem_cons_succ, List.getElem_cons_zero]
      refine wpAnyH_take (i := 19) (v := ?vx20_19) rfl (by kernel_rfl) (by kernel_rfl) (by kernel_rfl) (fun _ _ _ h => h) (Or.inl ⟨by rfl, ?hyx20_19⟩) (by assumption) ?restx20_19
      case hyx20_19 => (intro w hSw; have F := Ok.sees hSw; clear hSw; simp only [sees, kBlk, kCells, cellsFrom, Nat.add_zero, cellsAt, Nat.reduceAdd] at F; go_simp; try with_reducible rfl)
      try simp only [Act.put, List.setIfInBounds_toArray, List.set_cons_zero, List.set_cons_succ, List.getElem_toArray, List.getElem_cons_succ, List.getElem_cons_zero]
      refine wpAnyH_take (i := 20) (v := ?vx21_20) rfl (by kernel_rfl) (by kernel_rfl) (by kernel_rfl) (fun _ _ _ h => h) (Or.inl ⟨by rfl, ?hyx21_20⟩) (by assumption) ?restx21_20
      case hyx21_20 => (intro w hSw; have F := Ok.sees hSw; clear hSw; simp only [sees, kBlk, kCells, cellsFrom, Nat.add_zero, cellsAt, Nat.reduceAdd] at F; go_simp; try with_reducible rfl)
      try simp only [Act.put, List.setIfInBounds_toArray, List.set_cons_zero, List.set_cons_succ, List.getElem_toArray, List.getElem_cons_succ, List.getElem_cons_zero]
      refine wpAnyH_take (i := 21) (v := ?vx22_21) rfl (by kernel_rfl) (by kernel_rfl) (by kernel_rfl) (fun _ _ _ h => h) (Or.inl ⟨by rfl, ?hyx22_21⟩) (by assumption) ?restx22_21
      case hyx22_21 => (intro w hSw; have F := Ok.sees hSw; clear hSw; simp only [sees, kBlk, kCells, cellsFrom, Nat.add_zero, cellsAt, Nat.reduceAdd] at F; go_simp; try with_reducible rfl)
      try simp only [Act.put, List.setIfInBounds_toArray, List.set_cons_zero, List.set_cons_succ, List.getElem_toArray, List.getElem_cons_succ, List.getElem_cons_zero]
      refine wpAnyH_take (i := 22) (v := ?vx23_22) rfl (by kernel_rfl) (by kernel_rfl) (by kernel_rfl) (fun _ _ _ h => h) (Or.inl ⟨by rfl, ?hyx23_22⟩) (by assumption) ?restx23_22
      case hyx23_22 => (intro w hSw; have F := Ok.sees hSw; clear hSw; simp only [sees, kBlk, kCells, cellsFrom, Nat.add_zero, cellsAt, Nat.reduceAdd] at F; go_simp; try with_reducible rfl)
      try simp only [Act.put, List.setIfInBounds_toArray, List.set_cons_zero, List.set_cons_succ, List.getElem_toArray, List.getElem_cons_succ, List.getElem_cons_zero]
      refine wpAnyH_take (i := 23) (v := ?vx24_23) rfl (by kernel_rfl) (by kernel_rfl) (by kernel_rfl) (fun _ _ _ h => h) (Or.inl ⟨by rfl, ?hyx24_23⟩) (by assumption) ?restx24_23
      case hyx24_23 => (intro w hSw; have F := Ok.sees hSw; clear hSw; simp only [sees, kBlk, kCells, cellsFrom, Nat.add_zero, cellsAt, Nat.reduceAdd] at F; go_simp; try with_reducible rfl)
      try simp only [Act.put, List.setIfInBounds_toArray, List.set_cons_zero, List.set_cons_succ, List.getElem_toArray, List.getElem_cons_succ, List.getElem_cons_zero]
      refine wpAnyH_done (by kernel_rfl) ?_ _
      clear z0 c0_0 c0_1 c0_2 c0_3 c0_4 c0_5 c0_6 c0_7 c0_8 c0_9 c0_10 c0_11 c0_12 z1 c1_0 c1_1 c1_2 c1_3 c1_4 c1_5 c1_6 c1_7 c1_8 c1_9 c1_10 c1_11 c1_12 c1_13
      clear H23
      have H27 := Lib.hid hHeld
      clear hHeld
      have F28 := H27.out.sees
      simp only [sees, kBlk, kCells, cellsFrom, Nat.add_zero, cellsAt, Nat.reduceAdd] at F28
      obtain ⟨⟨z0, c0_0, c0_1, c0_2, c0_3, c0_4, c0_5, c0_6, c0_7, c0_8, c0_9, c0_10, c0_11, c0_12, -⟩, ⟨z1, c1_0, c1_1, c1_2, c1_3, c1_4, c1_5, c1_6, c1_7, c1_8, c1_9, c1_10, c1_11, c1_12, c1_13, -⟩, -, -⟩ := F28
      go_wp2_with fail
      go_roundw
      case rel => exact ⟨i + 1, by omega, by go_num, Lib.hid (H27.out.drop [kBlk w10.heap.size 42 (exCells exO)] (by simp))⟩
      case measure => simp [intOf]; omega
    · clear hi
      go_upto_region 10 with fail
      rw [badCells_eq]
      have H15 := Lib.hid ((HR.out.drop [] (by simp)).alloc wp.heap.size 9 (strsV badL) rfl)
      clear HR
      generalize (wp.alloc (.cells (strsV badL).toArray 9)) = W16 at H15 ⊢
      go_wp2_with fail
      go_loopw [92] (fun iv wr => ∃ i : Nat, i ≤ 15 ∧ iv = .int .i64 (i : Int) ∧ Hid (Ok w [kBlk wp.heap.size 9 (strsV badL)] wr)) (fun iv _ => 15 - (intOf iv).toNat)
      case atStart => exact ⟨0, Nat.zero_le _, rfl, H15⟩
      case round =>
        clear H15 hlt
        obtain ⟨i, hi, rfl, HR⟩ := hrel
        obtain ⟨wq, rfl⟩ : ∃ wq : World, wq = wr := ⟨_, rfl⟩
        by_cases hlt : (i : Int) < 15
        · obtain ⟨l, hl⟩ : ∃ l, badL[i]? = some l := ⟨_, List.getElem?_eq_getElem (show i < badL.length by show i < 15; omega)⟩
          have hbr := bad_read l (List.mem_of_getElem? hl)
          have hbl := badL_len l (List.mem_of_getElem? hl)
          have hc := blk_from (HR.out.get (kBlk wp.heap.size 9 (strsV badL)) (by simp)) i [.string ⟨l.toArray⟩] (fun j hj => by
            obtain rfl : j = 0 := by simp at hj; omega
            unfold strsV
            rw [Nat.add_zero, List.getElem?_map, hl]
            rfl)
          have HPB := keep (fun W he => op_Parse l W (Nat.le_trans hbl (by decide)) he)
          have HPA := keep hbr
          have H := Lib.hid (HR.out.add (kCells wp.heap.size i [.string ⟨l.toArray⟩]) hc)
          have hw9 : IntKind.i64.wrap ((i : Int) + 1) = (i : Int) + 1 := Go.IntWalk.i64_in _ (by omega)
          clear hl hbr hbl hc HR
          have F17 := H.out.sees
          simp only [sees, kCells, cellsFrom, Nat.add_zero] at F17
          obtain ⟨⟨z0, c0_0, -⟩, -, -⟩ := F17
          go_wp2_with fail
          refine (HPB.out _ (HE.out.below H.out.bel)).mono ?_
          rintro e w18 ⟨x0, err, rfl, hpa, hb19⟩
          obtain ⟨rfl, rfl⟩ := hpa.same HPA.out
          clear z0 c0_0
          have H20 := Lib.hid (H.out.below hb19)
          clear hb19 H
          simp only [OpV.V, OpV.zero, R4.zero]
          go_upto_region 13 with fail
          have H21 := Lib.hid (H20.out.alloc w18.heap.size 28 [.int .u8 0, .int .i64 0, .int .i64 0, .int .i64 0, .int .i64 0, .int .i64 0, .string ⟨#[]⟩, .int .u64 0, .int .u64 0, .int .u64 0, .int .u8 0, .int .u64 0, .int .i64 0] rfl)
          clear H20
          generalize (w18.alloc (.cells #[.int .u8 0, .int .i64 0, .int .i64 0, .int .i64 0, .int .i64 0, .int .i64 0, .string ⟨#[]⟩, .int .u64 0, .int .u64 0, .int .u64 0, .int .u8 0, .int .u64 0, .int .i64 0] 28)) = W22 at H21 ⊢
          have F23 := H21.out.sees
          simp only [sees, kBlk, kCells, cellsFrom, Nat.add_zero, cellsAt, Nat.reduceAdd] at F23
          obtain ⟨⟨z0, c0_0, c0_1, c0_2, c0_3, c0_4, c0_5, c0_6, c0_7, c0_8, c0_9, c0_10, c0_11, c0_12, -⟩, ⟨z1, c1_0, -⟩, -, -⟩ := F23
          go_wp2_with fail
          go_roundw
          case rel => exact ⟨i + 1, by omega, by go_num, Lib.hid (H21.out.drop [kBlk wp.heap.size 9 (strsV badL)] (by simp))⟩
          case measure => simp [intOf]; omega
        · clear hi
          go_wp2_with fail
          refine (law_one _ _ _).mono ?_
          rintro e w17 ⟨rfl, hb18⟩
          have H19 := Lib.hid (HR.out.below hb18)
          clear hb18 HR
          go_upto_region 17 with fail
          rw [boCells_eq]
          have H20 := Lib.hid ((H19.out.drop [] (by simp)).alloc w17.heap.size 28 (boCells badO) rfl)
          clear H19
          generalize (w17.alloc (.cells (boCells badO).toArray 28)) = W21 at H20 ⊢
          go_wp2_with fail
          go_loopw [12] (fun iv wr => ∃ i : Nat, i ≤ 6 ∧ iv = .int .i64 (i : Int) ∧ Hid (Ok w [kBlk w17.heap.size 28 (boCells badO)] wr)) (fun iv _ => 6 - (intOf iv).toNat)
          case atStart => exact ⟨0, Nat.zero_le _, rfl, H20⟩
          case round =>
            clear H20 hlt
            obtain ⟨i, hi, rfl, HR⟩ := hrel
            obtain ⟨wo, rfl⟩ : ∃ wo : World, wo = wr := ⟨_, rfl⟩
            by_cases hlt : (i : Int) < 6
            · obtain ⟨x, hp⟩ : ∃ x, badO[i]? = some x := ⟨_, List.getElem?_eq_getElem (show i < badO.length by show i < 6; omega)⟩
              have hx := badO_bad x (List.mem_of_getElem? hp)
              have hc := blk_from (HR.out.get (kBlk w17.heap.size 28 (boCells badO)) (by simp)) (i * 13) x.cells (fun j hj => boCells_at badO i x hp j (show j < 13 from hj))
              have HC := keep (fun W => op_Check x W (Nat.le_trans hx.2 (by decide)))
              rw [hx.1] at HC
              have H := Lib.hid (HR.out.add (kCells w17.heap.size (i * 13) x.cells) hc)
              have hw9 : IntKind.i64.wrap ((i : Int) + 1) = (i : Int) + 1 := Go.IntWalk.i64_in _ (by omega)
              clear hp hx hc HR
              obtain ⟨k, u, ⟨x1, y1, x2, y2⟩, inp, a, b, c, f, t, n⟩ := x
              simp only [OpV.cells] at H
              have F22 := H.out.sees
              simp only [sees, kCells, cellsFrom, Nat.add_zero, Nat.reduceAdd] at F22
              obtain ⟨⟨z0, c0_0, c0_1, c0_2, c0_3, c0_4, c0_5, c0_6, c0_7, c0_8, c0_9, c0_10, c0_11, c0_12, -⟩, -, -⟩ := F22
              go_wp2_with fail
              refine (HC.out _).mono ?_
              rintro e w23 ⟨rfl, hb24⟩
              clear z0 c0_0 c0_1 c0_2 c0_3 c0_4 c0_5 c0_6 c0_7 c0_8 c0_9 c0_10 c0_11 c0_12
              have H25 := Lib.hid (H.out.below hb24)
              clear hb24 H
              go_wp2_with fail
              go_roundw
              case rel => exact ⟨i + 1, by omega, by go_num, Lib.hid (H25.out.drop [kBlk w17.heap.size 28 (boCells badO)] (by simp))⟩
              case measure => simp [intOf]; omega
            · clear hi
              go_wp2_with fail
              refine (law_one _ _ _).mono ?_
              rintro e w22 ⟨rfl, hb23⟩
              have H24 := Lib.hid (HR.out.below hb23)
              clear hb23 HR
              go_upto_region 23 with fail
              have H25 := Lib.hid (H24.out.alloc w22.heap.size 28 [.int .u8 5, .int .i64 0, .int .i64 1, .int .i64 9999, .int .i64 1, .int .i64 9999, .string ⟨#[]⟩, .int .u64 0, .int .u64 0, .int .u64 0, .int .u8 0, .int .u64 0, .int .i64 0] rfl)
              clear H24
              generalize (w22.alloc (.cells #[.int .u8 5, .int .i64 0, .int .i64 1, .int .i64 9999, .int .i64 1, .int .i64 9999, .string ⟨#[]⟩, .int .u64 0, .int .u64 0, .int .u64 0, .int .u8 0, .int .u64 0, .int .i64 0] 28)) = W26 at H25 ⊢
              have F27 := H25.out.sees
              simp only [sees, kBlk, cellsAt, Nat.reduceAdd] at F27
              obtain ⟨⟨z0, c0_0, c0_1, c0_2, c0_3, c0_4, c0_5, c0_6, c0_7, c0_8, c0_9, c0_10, c0_11, c0_12, -⟩, -, -⟩ := F27
              go_wp2_with fail
              refine (far_target _).mono ?_
              rintro e w28 ⟨rfl, hb29⟩
              clear z0 c0_0 c0_1 c0_2 c0_3 c0_4 c0_5 c0_6 c0_7 c0_8 c0_9 c0_10 c0_11 c0_12
              have H30 := Lib.hid (H25.out.below hb29)
              clear hb29 H25
              go_upto_region 24 with fail
              have H31 := Lib.hid (H30.out.alloc w28.heap.size 23 [.int .i64 1, .int .i64 9999, .int .i64 1, .int .i64 9999] rfl)
              clear H30
              generalize (w28.alloc (.cells #[.int .i64 1, .int .i64 9999, .int .i64 1, .int .i64 9999] 23)) = W32 at H31 ⊢
              go_wp2_with fail
              refine (law_one _ _ _).mono ?_
              rintro e w33 ⟨rfl, hb34⟩
              have H35 := Lib.hid (H31.out.below hb34)
              clear hb34 H31
              go_wp2_with fail
              refine (rev_target _).mono ?_
              rintro e w36 ⟨rfl, hb37⟩
              have H38 := Lib.hid (H35.out.below hb37)
              clear hb37 H35
              go_upto_region 25 with fail
              have H39 := Lib.hid (H38.out.alloc w36.heap.size 23 [.int .i64 0, .int .i64 0, .int .i64 0, .int .i64 0] rfl)
              clear H38
              generalize (w36.alloc (.cells #[.int .i64 0, .int .i64 0, .int .i64 0, .int .i64 0] 23)) = W40 at H39 ⊢
              have F41 := H39.out.sees
              simp only [sees, kBlk, cellsAt, Nat.reduceAdd] at F41
              obtain ⟨⟨z0, c0_0, c0_1, c0_2, c0_3, -⟩, ⟨z1, c1_0, c1_1, c1_2, c1_3, -⟩, ⟨z2, c2_0, c2_1, c2_2, c2_3, c2_4, c2_5, c2_6, c2_7, c2_8, c2_9, c2_10, c2_11, c2_12, -⟩, -, -⟩ := F41
              refine wp_region_held_drew (S := fun W => Ok w [kBlk (w36.heap.size) 23 [.int .i64 0, .int .i64 0, .int .i64 0, .int .i64 0], kBlk (w28.heap.size) 23 [.int .i64 1, .int .i64 9999, .int .i64 1, .int .i64 9999], kBlk (w22.heap.size) 28 [.int .u8 5, .int .i64 0, .int .i64 1, .int .i64 9999, .int .i64 1, .int .i64 9999, .string ⟨#[]⟩, .int .u64 0, .int .u64 0, .int .u64 0, .int .u8 0, .int .u64 0, .int .i64 0], kBlk w17.heap.size 28 (boCells badO)] W) (by kernel_rfl) H39.out.drew (fun hHeld => ?_)
              refine wpAnyH_take (i := 0) (v := ?vx25_0) rfl (by kernel_rfl) (by kernel_rfl) (by kernel_rfl) (fun _ _ _ h => h) (Or.inl ⟨by rfl, ?hyx25_0⟩) (by assumption) ?restx25_0
              case hyx25_0 => (intro w hSw; have F := Ok.sees hSw; clear hSw; simp only [sees, kBlk, cellsAt, Nat.reduceAdd] at F; go_simp; try with_reducible rfl)
              try simp only [Act.put, List.setIfInBounds_toArray, List.set_cons_zero, List.set_cons_succ, List.getElem_toArray, List.getElem_cons_zero]
              refine wpAnyH_ready (rs := [1]) (by kernel_rfl) (by simp) ?_
              refine AllReadyH.cons rfl (fun K hK => ?_) AllReadyH.nil
              go_simp
              refine (far_check _).mono ?_
              rintro e w43 ⟨rfl, hb44⟩
              go_wp2_with fail
              refine hK.out _ _ (hHeld.below hb44) (fun hHeld => ?_)
              clear hK K
              try simp only [Act.put, List.setIfInBounds_toArray, List.set_cons_zero, List.set_cons_succ, List.getElem_toArray, List.getElem_cons_succ, List.getElem_cons_zero]
              refine wpAnyH_take (i := 2) (v := ?vx26_2) rfl (by kernel_rfl) (by kernel_rfl) (by kernel_rfl) (fun _ _ _ h => h) (Or.inl ⟨by rfl, ?hyx26_2⟩) (by assumption) ?restx26_2
              case hyx26_2 => (intro w hSw; have F := Ok.sees hSw; clear hSw; simp only [sees, kBlk, cellsAt, Nat.reduceAdd] at F; go_simp; try with_reducible rfl)
              try simp only [Act.put, List.setIfInBounds_toArray, List.set_cons_zero, List.set_cons_succ, List.getElem_toArray, List.getElem_cons_succ, List.getElem_cons_zero]
              refine wpAnyH_take (i := 3) (v := ?vx27_3) rfl (by kernel_rfl) (by kernel_rfl) (by kernel_rfl) (fun _ _ _ h => h) (Or.inl ⟨by rfl, ?hyx27_3⟩) (by assumption) ?restx27_3
              case hyx27_3 => (intro w hSw; have F := Ok.sees hSw; clear hSw; simp only [sees, kBlk, cellsAt, Nat.reduceAdd] at F; go_simp; try with_reducible rfl)
              try simp only [Act.put, List.setIfInBounds_toArray, List.set_cons_zero, List.set_cons_succ, List.getElem_toArray, List.getElem_cons_succ, List.getElem_cons_zero]
              refine wpAnyH_take (i := 4) (v := ?vx28_4) rfl (by kernel_rfl) (by kernel_rfl) (by kernel_rfl) (fun _ _ _ h => h) (Or.inl ⟨by rfl, ?hyx28_4⟩) (by assumption) ?restx28_4
              case hyx28_4 => (intro w hSw; have F := Ok.sees hSw; clear hSw; simp only [sees, kBlk, cellsAt, Nat.reduceAdd] at F; go_simp; try with_reducible rfl)
              try simp only [Act.put, List.setIfInBounds_toArray, List.set_cons_zero, List.set_cons_succ, List.getElem_toArray, List.getElem_cons_succ, List.getElem_cons_zero]
              refine wpAnyH_ready (rs := [5]) (by kernel_rfl) (by simp) ?_
              refine AllReadyH.cons rfl (fun K hK => ?_) AllReadyH.nil
              go_simp
              refine (law_one _ _ _).mono ?_
              rintro e w45 ⟨rfl, hb46⟩
              go_wp2_with fail
              refine hK.out _ _ (hHeld.below hb46) (fun hHeld => ?_)
              clear hK K
              try simp only [Act.put, List.setIfInBounds_toArray, List.set_cons_zero, List.set_cons_succ, List.getElem_toArray, List.getElem_cons_succ, List.getElem_cons_zero]
              refine wpAnyH_take (i := 6) (v := ?vx29_6) rfl (by kernel_rfl) (by kernel_rfl) (by kernel_rfl) (fun _ _ _ h => h) (Or.inl ⟨by rfl, ?hyx29_6⟩) (by assumption) ?restx29_6
              case hyx29_6 => (intro w hSw; have F := Ok.sees hSw; clear hSw; simp only [sees, kBlk, cellsAt, Nat.reduceAdd] at F; go_simp; try with_reducible rfl)
              try simp only [Act.put, List.setIfInBounds_toArray, List.set_cons_zero, List.set_cons_succ, List.getElem_toArray, List.getElem_cons_succ, List.getElem_cons_zero]
              refine wpAnyH_take (i := 7) (v := ?vx30_7) rfl (by kernel_rfl) (by kernel_rfl) (by kernel_rfl) (fun _ _ _ h => h) (Or.inl ⟨by rfl, ?hyx30_7⟩) (by assumption) ?restx30_7
              case hyx30_7 => (intro w hSw; have F := Ok.sees hSw; clear hSw; simp only [sees, kBlk, cellsAt, Nat.reduceAdd] at F; go_simp; try with_reducible rfl)
              try simp only [Act.put, List.setIfInBounds_toArray, List.set_cons_zero, List.set_cons_succ, List.getElem_toArray, List.getElem_cons_succ, List.getElem_cons_zero]
              refine wpAnyH_take (i := 8) (v := ?vx31_8) rfl (by kernel_rfl) (by kernel_rfl) (by kernel_rfl) (fun _ _ _ h => h) (Or.inl ⟨by rfl, ?hyx31_8⟩) (by assumption) ?restx31_8
              case hyx31_8 => (intro w hSw; have F := Ok.sees hSw; clear hSw; simp only [sees, kBlk, cellsAt, Nat.reduceAdd] at F; go_simp; try with_reducible rfl)
              try simp only [Act.put, List.setIfInBounds_toArray, List.set_cons_zero, List.set_cons_succ, List.getElem_toArray, List.getElem_cons_succ, List.getElem_cons_zero]
              refine wpAnyH_take (i := 9) (v := ?vx32_9) rfl (by kernel_rfl) (by kernel_rfl) (by kernel_rfl) (fun _ _ _ h => h) (Or.inl ⟨by rfl, ?hyx32_9⟩) (by assumption) ?restx32_9
              case hyx32_9 => (intro w hSw; have F := Ok.sees hSw; clear hSw; simp only [sees, kBlk, cellsAt, Nat.reduceAdd] at F; go_simp; try with_reducible rfl)
              try simp only [Act.put, List.setIfInBounds_toArray, List.set_cons_zero, List.set_cons_succ, List.getElem_toArray, List.getElem_cons_succ, List.getElem_cons_zero]
              refine wpAnyH_take (i := 10) (v := ?vx33_10) rfl (by kernel_rfl) (by kernel_rfl) (by kernel_rfl) (fun _ _ _ h => h) (Or.inl ⟨by rfl, ?hyx33_10⟩) (by assumption) ?restx33_10
              case hyx33_10 => (intro w hSw; have F := Ok.sees hSw; clear hSw; simp only [sees, kBlk, cellsAt, Nat.reduceAdd] at F; go_simp; try with_reducible rfl)
              try simp only [Act.put, List.setIfInBounds_toArray, List.set_cons_zero, List.set_cons_succ, List.getElem_toArray, List.getElem_cons_succ, List.getElem_cons_zero]
              refine wpAnyH_take (i := 11) (v := ?vx34_11) rfl (by kernel_rfl) (by kernel_rfl) (by kernel_rfl) (fun _ _ _ h => h) (Or.inl ⟨by rfl, ?hyx34_11⟩) (by assumption) ?restx34_11
              case hyx34_11 => (intro w hSw; have F := Ok.sees hSw; clear hSw; simp only [sees, kBlk, cellsAt, Nat.reduceAdd] at F; go_simp; try with_reducible rfl)
              try simp only [Act.put, List.setIfInBounds_toArray, List.set_cons_zero, List.set_cons_succ, List.getElem_toArray, List.getElem_cons_succ, List.getElem_cons_zero]
              refine wpAnyH_take (i := 12) (v := ?vx35_12) rfl (by kernel_rfl) (by kernel_rfl) (by kernel_rfl) (fun _ _ _ h => h) (Or.inl ⟨by rfl, ?hyx35_12⟩) (by assumption) ?restx35_12
              case hyx35_12 => (intro w hSw; have F := Ok.sees hSw; clear hSw; simp only [sees, kBlk, cellsAt, Nat.reduceAdd] at F; go_simp; try with_reducible rfl)
              try simp only [Act.put, List.setIfInBounds_toArray, List.set_cons_zero, List.set_cons_succ, List.getElem_toArray, List.getElem_cons_succ, List.getElem_cons_zero]
              refine wpAnyH_take (i := 13) (v := ?vx36_13) rfl (by kernel_rfl) (by kernel_rfl) (by kernel_rfl) (fun _ _ _ h => h) (Or.inl ⟨by rfl, ?hyx36_13⟩) (by assumption) ?restx36_13
              case hyx36_13 => (intro w hSw; have F := Ok.sees hSw; clear hSw; simp only [sees, kBlk, cellsAt, Nat.reduceAdd] at F; go_simp; try with_reducible rfl)
              try simp only [Act.put, List.setIfInBounds_toArray, List.set_cons_zero, List.set_cons_succ, List.getElem_toArray, List.getElem_cons_succ, List.getElem_cons_zero]
              refine wpAnyH_take (i := 14) (v := ?vx37_14) rfl (by kernel_rfl) (by kernel_rfl) (by kernel_rfl) (fun _ _ _ h => h) (Or.inl ⟨by rfl, ?hyx37_14⟩) (by assumption) ?restx37_14
              case hyx37_14 => (intro w hSw; have F := Ok.sees hSw; clear hSw; simp only [sees, kBlk, cellsAt, Nat.reduceAdd] at F; go_simp; try with_reducible rfl)
              try simp only [Act.put, List.setIfInBounds_toArray, List.set_cons_zero, List.set_cons_succ, List.getElem_toArray, List.getElem_cons_succ, List.getElem_cons_zero]
              refine wpAnyH_take (i := 15) (v := ?vx38_15) rfl (by kernel_rfl) (by kernel_rfl) (by kernel_rfl) (fun _ _ _ h => h) (Or.inl ⟨by rfl, ?hyx38_15⟩) (by assumption) ?restx38_15
              case hyx38_15 => (intro w hSw; have F := Ok.sees hSw; clear hSw; simp only [sees, kBlk, cellsAt, Nat.reduceAdd] at F; go_simp; try with_reducible rfl)
              try simp only [Act.put, List.setIfInBounds_toArray, List.set_cons_zero, List.set_cons_succ, List.getElem_toArray, List.getElem_cons_succ, List.getElem_cons_zero]
              refine wpAnyH_take (i := 16) (v := ?vx39_16) rfl (by kernel_rfl) (by kernel_rfl) (by kernel_rfl) (fun _ _ _ h => h) (Or.inl ⟨by rfl, ?hyx39_16⟩) (by assumption) ?restx39_16
              case hyx39_16 => (intro w hSw; have F := Ok.sees hSw; clear hSw; simp only [sees, kBlk, cellsAt, Nat.reduceAdd] at F; go_simp; try with_reducible rfl)
              try simp only [Act.put, List.setIfInBounds_toArray, List.set_cons_zero, List.set_cons_succ, List.getElem_toArray, List.getElem_cons_succ, List.getElem_cons_zero]
              refine wpAnyH_ready (rs := [17]) (by kernel_rfl) (by simp) ?_
              refine AllReadyH.cons rfl (fun K hK => ?_) AllReadyH.nil
              go_simp
              refine (r9_mut _).mono ?_
              rintro e w47 ⟨rfl, hb48⟩
              go_wp2_with fail
              refine hK.out _ _ (hHeld.below hb48) (fun hHeld => ?_)
              clear hK K
              try simp only [Act.put, List.setIfInBounds_toArray, List.set_cons_zero, List.set_cons_succ, List.getElem_toArray, List.getElem_cons_succ, List.getElem_cons_zero]
              refine wpAnyH_take (i := 18) (v := ?vx40_18) rfl (by kernel_rfl) (by kernel_rfl) (by kernel_rfl) (fun _ _ _ h => h) (Or.inl ⟨by rfl, ?hyx40_18⟩) (by assumption) ?restx40_18
              case hyx40_18 => (intro w hSw; have F := Ok.sees hSw; clear hSw; simp only [sees, kBlk, cellsAt, Nat.reduceAdd] at F; go_simp; try with_reducible rfl)
              try simp only [Act.put, List.setIfInBounds_toArray, List.set_cons_zero, List.set_cons_succ, List.getElem_toArray, List.getElem_cons_succ, List.getElem_cons_zero]
              refine wpAnyH_take (i := 19) (v := ?vx41_19) rfl (by kernel_rfl) (by kernel_rfl) (by kernel_rfl) (fun _ _ _ h => h) (Or.inl ⟨by rfl, ?hyx41_19⟩) (by assumption) ?restx41_19
              case hyx41_19 => (intro w hSw; have F := Ok.sees hSw; clear hSw; simp only [sees, kBlk, cellsAt, Nat.reduceAdd] at F; go_simp; try with_reducible rfl)
              try simp only [Act.put, List.setIfInBounds_toArray, List.set_cons_zero, List.set_cons_succ, List.getElem_toArray, List.getElem_cons_succ, List.getElem_cons_zero]
              refine wpAnyH_take (i := 20) (v := ?vx42_20) rfl (by kernel_rfl) (by kernel_rfl) (by kernel_rfl) (fun _ _ _ h => h) (Or.inl ⟨by rfl, ?hyx42_20⟩) (by assumption) ?restx42_20
              case hyx42_20 => (intro w hSw; have F := Ok.sees hSw; clear hSw; simp only [sees, kBlk, cellsAt, Nat.reduceAdd] at F; go_simp; try with_reducible rfl)
              try simp only [Act.put, List.setIfInBounds_toArray, List.set_cons_zero, List.set_cons_succ, List.getElem_toArray, List.getElem_cons_succ, List.getElem_cons_zero]
              refine wpAnyH_ready (rs := [21]) (by kernel_rfl) (by simp) ?_
              refine AllReadyH.cons rfl (fun K hK => ?_) AllReadyH.nil
              go_simp
              refine (far_mutates _).mono ?_
              rintro e w49 ⟨rfl, hb50⟩
              go_wp2_with fail
              refine hK.out _ _ (hHeld.below hb50) (fun hHeld => ?_)
              clear hK K
              try simp only [Act.put, List.setIfInBounds_toArray, List.set_cons_zero, List.set_cons_succ, List.getElem_toArray, List.getElem_cons_succ, List.getElem_cons_zero]
              refine wpAnyH_take (i := 22) (v := ?vx43_22) rfl (by kernel_rfl) (by kernel_rfl) (by kernel_rfl) (fun _ _ _ h => h) (Or.inl ⟨by rfl, ?hyx43_22⟩) (by assumption) ?restx43_22
              case hyx43_22 => (intro w hSw; have F := Ok.sees hSw; clear hSw; simp only [sees, kBlk, cellsAt, Nat.reduceAdd] at F; go_simp; try with_reducible rfl)
              try simp only [Act.put, List.setIfInBounds_toArray, List.set_cons_zero, List.set_cons_succ, List.getElem_toArray, List.getElem_cons_succ, List.getElem_cons_zero]
              refine wpAnyH_take (i := 23) (v := ?vx44_23) rfl (by kernel_rfl) (by kernel_rfl) (by kernel_rfl) (fun _ _ _ h => h) (Or.inl ⟨by rfl, ?hyx44_23⟩) (by assumption) ?restx44_23
              case hyx44_23 => (intro w hSw; have F := Ok.sees hSw; clear hSw; simp only [sees, kBlk, cellsAt, Nat.reduceAdd] at F; go_simp; try with_reducible rfl)
              try simp only [Act.put, List.setIfInBounds_toArray, List.set_cons_zero, List.set_cons_succ, List.getElem_toArray, List.getElem_cons_succ, List.getElem_cons_zero]
              refine wpAnyH_take (i := 24) (v := ?vx45_24) rfl (by kernel_rfl) (by kernel_rfl) (by kernel_rfl) (fun _ _ _ h => h) (Or.inl ⟨by rfl, ?hyx45_24⟩) (by assumption) ?restx45_24
              case hyx45_24 => (intro w hSw; have F := Ok.sees hSw; clear hSw; simp only [sees, kBlk, cellsAt, Nat.reduceAdd] at F; go_simp; try with_reducible rfl)
              try simp only [Act.put, List.setIfInBounds_toArray, List.set_cons_zero, List.set_cons_succ, List.getElem_toArray, List.getElem_cons_succ, List.getElem_cons_zero]
              refine wpAnyH_take (i := 25) (v := ?vx46_25) rfl (by kernel_rfl) (by kernel_rfl) (by kernel_rfl) (fun _ _ _ h => h) (Or.inl ⟨by rfl, ?hyx46_25⟩) (by assumption) ?restx46_25
              case hyx46_25 => (intro w hSw; have F := Ok.sees hSw; clear hSw; simp only [sees, kBlk, cellsAt, Nat.reduceAdd] at F; go_simp; try with_reducible rfl)
              try simp only [Act.put, List.setIfInBounds_toArray, List.set_cons_zero, List.set_cons_succ, List.getElem_toArray, List.getElem_cons_succ, List.getElem_cons_zero]
              refine wpAnyH_take (i := 27) (v := ?vx47_27) rfl (by kernel_rfl) (by kernel_rfl) (by kernel_rfl) (fun _ _ _ h => h) (Or.inl ⟨by rfl, ?hyx47_27⟩) (by assumption) ?restx47_27
              case hyx47_27 => (intro w hSw; have F := Ok.sees hSw; clear hSw; simp only [sees, kBlk, cellsAt, Nat.reduceAdd] at F; go_simp; try with_reducible rfl)
              try simp only [Act.put, List.setIfInBounds_toArray, List.set_cons_zero, List.set_cons_succ, List.getElem_toArray, List.getElem_cons_succ, List.getElem_cons_zero]
              refine wpAnyH_ready (rs := [26]) (by kernel_rfl) (by simp) ?_
              refine AllReadyH.cons rfl (fun K hK => ?_) AllReadyH.nil
              go_simp
              refine (p12_plain _).mono ?_
              rintro e w51 ⟨rfl, hb52⟩
              go_wp2_with fail
              refine hK.out _ _ (hHeld.below hb52) (fun hHeld => ?_)
              clear hK K
              try simp only [Act.put, List.setIfInBounds_toArray, List.set_cons_zero, List.set_cons_succ, List.getElem_toArray, List.getElem_cons_succ, List.getElem_cons_zero]
              refine wpAnyH_take (i := 28) (v := ?vx48_28) rfl (by kernel_rfl) (by kernel_rfl) (by kernel_rfl) (fun _ _ _ h => h) (Or.inl ⟨by rfl, ?hyx48_28⟩) (by assumption) ?restx48_28
              case hyx48_28 => (intro w hSw; have F := Ok.sees hSw; clear hSw; simp only [sees, kBlk, cellsAt, Nat.reduceAdd] at F; go_simp; try with_reducible rfl)
              try simp only [Act.put, List.setIfInBounds_toArray, List.set_cons_zero, List.set_cons_succ, List.getElem_toArray, List.getElem_cons_succ, List.getElem_cons_zero]
              refine wpAnyH_take (i := 29) (v := ?vx49_29) rfl (by kernel_rfl) (by kernel_rfl) (by kernel_rfl) (fun _ _ _ h => h) (Or.inl ⟨by rfl, ?hyx49_29⟩) (by assumption) ?restx49_29
              case hyx49_29 => (intro w hSw; have F := Ok.sees hSw; clear hSw; simp only [sees, kBlk, cellsAt, Nat.reduceAdd] at F; go_simp; try with_reducible rfl)
              try simp only [Act.put, List.setIfInBounds_toArray, List.set_cons_zero, List.set_cons_succ, List.getElem_toArray, List.getElem_cons_succ, List.getElem_cons_zero]
              refine wpAnyH_take (i := 30) (v := ?vx50_30) rfl (by kernel_rfl) (by kernel_rfl) (by kernel_rfl) (fun _ _ _ h => h) (Or.inl ⟨by rfl, ?hyx50_30⟩) (by assumption) ?restx50_30
              case hyx50_30 => (intro w hSw; have F := Ok.sees hSw; clear hSw; simp only [sees, kBlk, cellsAt, Nat.reduceAdd] at F; go_simp; try with_reducible rfl)
              try simp only [Act.put, List.setIfInBounds_toArray, List.set_cons_zero, List.set_cons_succ, List.getElem_toArray, List.getElem_cons_succ, List.getElem_cons_zero]
              refine wpAnyH_take (i := 31) (v := ?vx51_31) rfl (by kernel_rfl) (by kernel_rfl) (by kernel_rfl) (fun _ _ _ h => h) (Or.inl ⟨by rfl, ?hyx51_31⟩) (by assumption) ?restx51_31
              case hyx51_31 => (intro w hSw; have F := Ok.sees hSw; clear hSw; simp only [sees, kBlk, cellsAt, Nat.reduceAdd] at F; go_simp; try with_reducible rfl)
              try simp only [Act.put, List.setIfInBounds_toArray, List.set_cons_zero, List.set_cons_succ, List.getElem_toArray, List.getElem_cons_succ, List.getElem_cons_zero]
              refine wpAnyH_take (i := 33) (v := ?vx52_33) rfl (by kernel_rfl) (by kernel_rfl) (by kernel_rfl) (fun _ _ _ h => h) (Or.inl ⟨by rfl, ?hyx52_33⟩) (by assumption) ?restx52_33
              case hyx52_33 => (intro w hSw; have F := Ok.sees hSw; clear hSw; simp only [sees, kBlk, cellsAt, Nat.reduceAdd] at F; go_simp; try with_reducible rfl)
              try simp only [Act.put, List.setIfInBounds_toArray, List.set_cons_zero, List.set_cons_succ, List.getElem_toArray, List.getElem_cons_succ, List.getElem_cons_zero]
              refine wpAnyH_ready (rs := [32]) (by kernel_rfl) (by simp) ?_
              refine AllReadyH.cons rfl (fun K hK => ?_) AllReadyH.nil
              go_simp
              refine (p10_plain _).mono ?_
              rintro e w53 ⟨rfl, hb54⟩
              go_wp2_with fail
              refine hK.out _ _ (hHeld.below hb54) (fun hHeld => ?_)
              clear hK K
              try simp only [Act.put, List.setIfInBounds_toArray, List.set_cons_zero, List.set_cons_succ, List.getElem_toArray, List.getElem_cons_succ, List.getElem_cons_zero]
              refine wpAnyH_take (i := 34) (v := ?vx53_34) rfl (by kernel_rfl) (by kernel_rfl) (by kernel_rfl) (fun _ _ _ h => h) (Or.inl ⟨by rfl, ?hyx53_34⟩) (by assumption) ?restx53_34
              case hyx53_34 => (intro w hSw; have F := Ok.sees hSw; clear hSw; simp only [sees, kBlk, cellsAt, Nat.reduceAdd] at F; go_simp; try with_reducible rfl)
              try simp only [Act.put, List.setIfInBounds_toArray, List.set_cons_zero, List.set_cons_succ, List.getElem_toArray, List.getElem_cons_succ, List.getElem_cons_zero]
              refine wpAnyH_take (i := 35) (v := ?vx54_35) rfl (by kernel_rfl) (by kernel_rfl) (by kernel_rfl) (fun _ _ _ h => h) (Or.inl ⟨by rfl, ?hyx54_35⟩) (by assumption) ?restx54_35
              case hyx54_35 => (intro w hSw; have F := Ok.sees hSw; clear hSw; simp only [sees, kBlk, cellsAt, Nat.reduceAdd] at F; go_simp; try with_reducible rfl)
              try simp only [Act.put, List.setIfInBounds_toArray, List.set_cons_zero, List.set_cons_succ, List.getElem_toArray, List.getElem_cons_succ, List.getElem_cons_zero]
              refine wpAnyH_take (i := 36) (v := ?vx55_36) rfl (by kernel_rfl) (by kernel_rfl) (by kernel_rfl) (fun _ _ _ h => h) (Or.inl ⟨by rfl, ?hyx55_36⟩) (by assumption) ?restx55_36
              case hyx55_36 => (intro w hSw; have F := Ok.sees hSw; clear hSw; simp only [sees, kBlk, cellsAt, Nat.reduceAdd] at F; go_simp; try with_reducible rfl)
              try simp only [Act.put, List.setIfInBounds_toArray, List.set_cons_zero, List.getElem_toArray, List.getElem_cons_succ, List.getElem_cons_zero]
              refine wpAnyH_done (by kernel_rfl) ?_ _
              clear z0 c0_0 c0_1 c0_2 c0_3 z1 c1_0 c1_1 c1_2 c1_3 z2 c2_0 c2_1 c2_2 c2_3 c2_4 c2_5 c2_6 c2_7 c2_8 c2_9 c2_10 c2_11 c2_12
              clear H39
              have H55 := Lib.hid hHeld
              clear hHeld
              go_wp2_with fail
              go_ret
              exact ⟨rfl, H55.out.bel⟩
end Go.Proofs.YtjbimcdofenmdaaGreatDoor
