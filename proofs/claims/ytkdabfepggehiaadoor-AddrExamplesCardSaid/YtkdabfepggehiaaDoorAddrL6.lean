/- The walk of the law AddrExamples. -/
import Derived.Test.YtkdabfepggehiaaDoorOk
import Derived.Test.YtkdabfepggehiaaDoorAddrK
namespace Go.Proofs.YtkdabfepggehiaaDoor
open Go.RowKit

theorem addr_Letters_b (c : Int) (l : List UInt8) (z : Int) (w : World) (h0 : -9223372036854775808 ≤ c) (h1 : c ≤ 9223372036854775807) (h : lettersC c = (l, z)) :
    Calls Tryd.prog 22 #[.int .i64 c] w fun e w' => e = .returned (.tuple #[.string ⟨l.toArray⟩, .int .i64 z]) ∧ Below w.heap.size w w' :=
  (addr_Letters c w h0 h1).mono fun _ _ ⟨he, hw⟩ => ⟨by rw [he, h], hw ▸ Below.refl _ _⟩
theorem addr_Column_l (l : List UInt8) (c z : Int) (w : World) (hs : l.length ≤ 4611686018427387904) (h : columnS l = (c, z)) :
    Calls Tryd.prog 45 #[.string ⟨l.toArray⟩] w fun e w' => e = .returned (.tuple #[.int .i64 c, .int .i64 z]) ∧ Below w.heap.size w w' :=
  (addr_Column ⟨l.toArray⟩ w hs).mono fun _ _ ⟨he, hw⟩ => ⟨by rw [he]; show Ending.returned (.tuple #[.int .i64 (columnS l).1, .int .i64 (columnS l).2]) = _; rw [h], hw⟩
theorem addr_Parse_c (l : List UInt8) (c r z : Int) (w : World) (hs : l.length ≤ 4611686018427387904) (h : parseS l = (c, r, z)) :
    Calls Tryd.prog 43 #[.string ⟨l.toArray⟩] w fun e w' => e = .returned (.tuple #[.agg #[.int .i64 c, .int .i64 r], .int .i64 z]) ∧ Below w.heap.size w w' :=
  (addr_Parse ⟨l.toArray⟩ w hs).mono fun _ _ ⟨he, hw⟩ => ⟨by rw [he]; show Ending.returned (.tuple #[.agg #[.int .i64 (parseS l).1, .int .i64 (parseS l).2.1], .int .i64 (parseS l).2.2]) = _; rw [h], hw⟩

set_option maxRecDepth 100000 in
set_option maxHeartbeats 8000000 in
theorem AddrExamples_walk (w : World) (hL : laidMetH Tryd.prog Rows.addrExamplesRow.laid w) (_ : w.ShapedOpen Tryd.prog) :
    Calls Tryd.prog 11 #[] w fun e w' => e = .returned (.bool true) ∧ Below w.heap.size w w' := by
  have HP := Lib.hid (pow_of_laid hL (by kernel_rfl))
  clear hL
  have H1 := Lib.hid (Ok.start w)
  go_enter Tryd.func11, Tryd.ntmps11
  go_wp2_with fail
  have H2 := Lib.hid (H1.out.alloc w.heap.size 54 [.int .i64 1, .string ⟨#[65]⟩, .int .i64 26, .string ⟨#[90]⟩, .int .i64 27, .string ⟨#[65, 65]⟩, .int .i64 702, .string ⟨#[90, 90]⟩, .int .i64 703, .string ⟨#[65, 65, 65]⟩, .int .i64 1024, .string ⟨#[65, 77, 74]⟩] rfl)
  clear H1
  generalize (w.alloc (.cells #[.int .i64 1, .string ⟨#[65]⟩, .int .i64 26, .string ⟨#[90]⟩, .int .i64 27, .string ⟨#[65, 65]⟩, .int .i64 702, .string ⟨#[90, 90]⟩, .int .i64 703, .string ⟨#[65, 65, 65]⟩, .int .i64 1024, .string ⟨#[65, 77, 74]⟩] 54)) = W3 at H2 ⊢
  go_loopw [2] (fun iv wr => ∃ k : Nat, k ≤ 6 ∧ iv = .int .i64 k ∧ Hid (Ok w [kBlk (w.heap.size) 54 [.int .i64 1, .string ⟨#[65]⟩, .int .i64 26, .string ⟨#[90]⟩, .int .i64 27, .string ⟨#[65, 65]⟩, .int .i64 702, .string ⟨#[90, 90]⟩, .int .i64 703, .string ⟨#[65, 65, 65]⟩, .int .i64 1024, .string ⟨#[65, 77, 74]⟩]] wr)) (fun iv _ => 6 - (intOf iv).toNat)
  case atStart => exact ⟨0, by omega, rfl, H2⟩
  case round =>
    obtain ⟨k, hk, rfl, H⟩ := hrel
    rcases (show k = 0 ∨ k = 1 ∨ k = 2 ∨ k = 3 ∨ k = 4 ∨ k = 5 ∨ k = 6 from by omega) with rfl | rfl | rfl | rfl | rfl | rfl | rfl
    · have F4 := H.out.sees
      simp only [sees, kBlk, cellsAt, Nat.reduceAdd] at F4
      obtain ⟨⟨z0, c0_0, c0_1, c0_2, c0_3, c0_4, c0_5, c0_6, c0_7, c0_8, c0_9, c0_10, c0_11, -⟩, -⟩ := F4
      go_wp2_with fail
      refine (addr_Letters_b 1 [65] 0 _ (by decide) (by decide) (by decide +kernel)).mono ?_
      rintro e w5 ⟨rfl, hb6⟩
      clear z0 c0_0 c0_1 c0_2 c0_3 c0_4 c0_5 c0_6 c0_7 c0_8 c0_9 c0_10 c0_11
      have H7 := Lib.hid (H.out.below hb6)
      clear hb6 H
      have F8 := H7.out.sees
      simp only [sees, kBlk, cellsAt, Nat.reduceAdd] at F8
      obtain ⟨⟨z0, c0_0, c0_1, c0_2, c0_3, c0_4, c0_5, c0_6, c0_7, c0_8, c0_9, c0_10, c0_11, -⟩, -⟩ := F8
      go_wp2_with fail
      refine (addr_Column_l [65] 1 0 _ (by decide) (by decide +kernel)).mono ?_
      rintro e w9 ⟨rfl, hb10⟩
      clear z0 c0_0 c0_1 c0_2 c0_3 c0_4 c0_5 c0_6 c0_7 c0_8 c0_9 c0_10 c0_11
      have H11 := Lib.hid (H7.out.below hb10)
      clear hb10 H7
      have F12 := H11.out.sees
      simp only [sees, kBlk, cellsAt, Nat.reduceAdd] at F12
      obtain ⟨⟨z0, c0_0, c0_1, c0_2, c0_3, c0_4, c0_5, c0_6, c0_7, c0_8, c0_9, c0_10, c0_11, -⟩, -⟩ := F12
      go_wp2_with fail
      go_roundw
      case rel => exact ⟨1, by omega, rfl, H11⟩
      case measure => simp [intOf]
    · have F4 := H.out.sees
      simp only [sees, kBlk, cellsAt, Nat.reduceAdd] at F4
      obtain ⟨⟨z0, c0_0, c0_1, c0_2, c0_3, c0_4, c0_5, c0_6, c0_7, c0_8, c0_9, c0_10, c0_11, -⟩, -⟩ := F4
      go_wp2_with fail
      refine (addr_Letters_b 26 [90] 0 _ (by decide) (by decide) (by decide +kernel)).mono ?_
      rintro e w5 ⟨rfl, hb6⟩
      clear z0 c0_0 c0_1 c0_2 c0_3 c0_4 c0_5 c0_6 c0_7 c0_8 c0_9 c0_10 c0_11
      have H7 := Lib.hid (H.out.below hb6)
      clear hb6 H
      have F8 := H7.out.sees
      simp only [sees, kBlk, cellsAt, Nat.reduceAdd] at F8
      obtain ⟨⟨z0, c0_0, c0_1, c0_2, c0_3, c0_4, c0_5, c0_6, c0_7, c0_8, c0_9, c0_10, c0_11, -⟩, -⟩ := F8
      go_wp2_with fail
      refine (addr_Column_l [90] 26 0 _ (by decide) (by decide +kernel)).mono ?_
      rintro e w9 ⟨rfl, hb10⟩
      clear z0 c0_0 c0_1 c0_2 c0_3 c0_4 c0_5 c0_6 c0_7 c0_8 c0_9 c0_10 c0_11
      have H11 := Lib.hid (H7.out.below hb10)
      clear hb10 H7
      have F12 := H11.out.sees
      simp only [sees, kBlk, cellsAt, Nat.reduceAdd] at F12
      obtain ⟨⟨z0, c0_0, c0_1, c0_2, c0_3, c0_4, c0_5, c0_6, c0_7, c0_8, c0_9, c0_10, c0_11, -⟩, -⟩ := F12
      go_wp2_with fail
      go_roundw
      case rel => exact ⟨2, by omega, rfl, H11⟩
      case measure => simp [intOf]
    · have F4 := H.out.sees
      simp only [sees, kBlk, cellsAt, Nat.reduceAdd] at F4
      obtain ⟨⟨z0, c0_0, c0_1, c0_2, c0_3, c0_4, c0_5, c0_6, c0_7, c0_8, c0_9, c0_10, c0_11, -⟩, -⟩ := F4
      go_wp2_with fail
      refine (addr_Letters_b 27 [65, 65] 0 _ (by decide) (by decide) (by decide +kernel)).mono ?_
      rintro e w5 ⟨rfl, hb6⟩
      clear z0 c0_0 c0_1 c0_2 c0_3 c0_4 c0_5 c0_6 c0_7 c0_8 c0_9 c0_10 c0_11
      have H7 := Lib.hid (H.out.below hb6)
      clear hb6 H
      have F8 := H7.out.sees
      simp only [sees, kBlk, cellsAt, Nat.reduceAdd] at F8
      obtain ⟨⟨z0, c0_0, c0_1, c0_2, c0_3, c0_4, c0_5, c0_6, c0_7, c0_8, c0_9, c0_10, c0_11, -⟩, -⟩ := F8
      go_wp2_with fail
      refine (addr_Column_l [65, 65] 27 0 _ (by decide) (by decide +kernel)).mono ?_
      rintro e w9 ⟨rfl, hb10⟩
      clear z0 c0_0 c0_1 c0_2 c0_3 c0_4 c0_5 c0_6 c0_7 c0_8 c0_9 c0_10 c0_11
      have H11 := Lib.hid (H7.out.below hb10)
      clear hb10 H7
      have F12 := H11.out.sees
      simp only [sees, kBlk, cellsAt, Nat.reduceAdd] at F12
      obtain ⟨⟨z0, c0_0, c0_1, c0_2, c0_3, c0_4, c0_5, c0_6, c0_7, c0_8, c0_9, c0_10, c0_11, -⟩, -⟩ := F12
      go_wp2_with fail
      go_roundw
      case rel => exact ⟨3, by omega, rfl, H11⟩
      case measure => simp [intOf]
    · have F4 := H.out.sees
      simp only [sees, kBlk, cellsAt, Nat.reduceAdd] at F4
      obtain ⟨⟨z0, c0_0, c0_1, c0_2, c0_3, c0_4, c0_5, c0_6, c0_7, c0_8, c0_9, c0_10, c0_11, -⟩, -⟩ := F4
      go_wp2_with fail
      refine (addr_Letters_b 702 [90, 90] 0 _ (by decide) (by decide) (by decide +kernel)).mono ?_
      rintro e w5 ⟨rfl, hb6⟩
      clear z0 c0_0 c0_1 c0_2 c0_3 c0_4 c0_5 c0_6 c0_7 c0_8 c0_9 c0_10 c0_11
      have H7 := Lib.hid (H.out.below hb6)
      clear hb6 H
      have F8 := H7.out.sees
      simp only [sees, kBlk, cellsAt, Nat.reduceAdd] at F8
      obtain ⟨⟨z0, c0_0, c0_1, c0_2, c0_3, c0_4, c0_5, c0_6, c0_7, c0_8, c0_9, c0_10, c0_11, -⟩, -⟩ := F8
      go_wp2_with fail
      refine (addr_Column_l [90, 90] 702 0 _ (by decide) (by decide +kernel)).mono ?_
      rintro e w9 ⟨rfl, hb10⟩
      clear z0 c0_0 c0_1 c0_2 c0_3 c0_4 c0_5 c0_6 c0_7 c0_8 c0_9 c0_10 c0_11
      have H11 := Lib.hid (H7.out.below hb10)
      clear hb10 H7
      have F12 := H11.out.sees
      simp only [sees, kBlk, cellsAt, Nat.reduceAdd] at F12
      obtain ⟨⟨z0, c0_0, c0_1, c0_2, c0_3, c0_4, c0_5, c0_6, c0_7, c0_8, c0_9, c0_10, c0_11, -⟩, -⟩ := F12
      go_wp2_with fail
      go_roundw
      case rel => exact ⟨4, by omega, rfl, H11⟩
      case measure => simp [intOf]
    · have F4 := H.out.sees
      simp only [sees, kBlk, cellsAt, Nat.reduceAdd] at F4
      obtain ⟨⟨z0, c0_0, c0_1, c0_2, c0_3, c0_4, c0_5, c0_6, c0_7, c0_8, c0_9, c0_10, c0_11, -⟩, -⟩ := F4
      go_wp2_with fail
      refine (addr_Letters_b 703 [65, 65, 65] 0 _ (by decide) (by decide) (by decide +kernel)).mono ?_
      rintro e w5 ⟨rfl, hb6⟩
      clear z0 c0_0 c0_1 c0_2 c0_3 c0_4 c0_5 c0_6 c0_7 c0_8 c0_9 c0_10 c0_11
      have H7 := Lib.hid (H.out.below hb6)
      clear hb6 H
      have F8 := H7.out.sees
      simp only [sees, kBlk, cellsAt, Nat.reduceAdd] at F8
      obtain ⟨⟨z0, c0_0, c0_1, c0_2, c0_3, c0_4, c0_5, c0_6, c0_7, c0_8, c0_9, c0_10, c0_11, -⟩, -⟩ := F8
      go_wp2_with fail
      refine (addr_Column_l [65, 65, 65] 703 0 _ (by decide) (by decide +kernel)).mono ?_
      rintro e w9 ⟨rfl, hb10⟩
      clear z0 c0_0 c0_1 c0_2 c0_3 c0_4 c0_5 c0_6 c0_7 c0_8 c0_9 c0_10 c0_11
      have H11 := Lib.hid (H7.out.below hb10)
      clear hb10 H7
      have F12 := H11.out.sees
      simp only [sees, kBlk, cellsAt, Nat.reduceAdd] at F12
      obtain ⟨⟨z0, c0_0, c0_1, c0_2, c0_3, c0_4, c0_5, c0_6, c0_7, c0_8, c0_9, c0_10, c0_11, -⟩, -⟩ := F12
      go_wp2_with fail
      go_roundw
      case rel => exact ⟨5, by omega, rfl, H11⟩
      case measure => simp [intOf]
    · have F4 := H.out.sees
      simp only [sees, kBlk, cellsAt, Nat.reduceAdd] at F4
      obtain ⟨⟨z0, c0_0, c0_1, c0_2, c0_3, c0_4, c0_5, c0_6, c0_7, c0_8, c0_9, c0_10, c0_11, -⟩, -⟩ := F4
      go_wp2_with fail
      refine (addr_Letters_b 1024 [65, 77, 74] 0 _ (by decide) (by decide) (by decide +kernel)).mono ?_
      rintro e w5 ⟨rfl, hb6⟩
      clear z0 c0_0 c0_1 c0_2 c0_3 c0_4 c0_5 c0_6 c0_7 c0_8 c0_9 c0_10 c0_11
      have H7 := Lib.hid (H.out.below hb6)
      clear hb6 H
      have F8 := H7.out.sees
      simp only [sees, kBlk, cellsAt, Nat.reduceAdd] at F8
      obtain ⟨⟨z0, c0_0, c0_1, c0_2, c0_3, c0_4, c0_5, c0_6, c0_7, c0_8, c0_9, c0_10, c0_11, -⟩, -⟩ := F8
      go_wp2_with fail
      refine (addr_Column_l [65, 77, 74] 1024 0 _ (by decide) (by decide +kernel)).mono ?_
      rintro e w9 ⟨rfl, hb10⟩
      clear z0 c0_0 c0_1 c0_2 c0_3 c0_4 c0_5 c0_6 c0_7 c0_8 c0_9 c0_10 c0_11
      have H11 := Lib.hid (H7.out.below hb10)
      clear hb10 H7
      have F12 := H11.out.sees
      simp only [sees, kBlk, cellsAt, Nat.reduceAdd] at F12
      obtain ⟨⟨z0, c0_0, c0_1, c0_2, c0_3, c0_4, c0_5, c0_6, c0_7, c0_8, c0_9, c0_10, c0_11, -⟩, -⟩ := F12
      go_wp2_with fail
      go_roundw
      case rel => exact ⟨6, by omega, rfl, H11⟩
      case measure => simp [intOf]
    · have F4 := H.out.sees
      simp only [sees, kBlk, cellsAt, Nat.reduceAdd] at F4
      obtain ⟨⟨z0, c0_0, c0_1, c0_2, c0_3, c0_4, c0_5, c0_6, c0_7, c0_8, c0_9, c0_10, c0_11, -⟩, -⟩ := F4
      go_wp2_with fail
      refine (addr_Letters_b 1025 [] 3 _ (by decide) (by decide) (by decide +kernel)).mono ?_
      rintro e w5 ⟨rfl, hb6⟩
      clear z0 c0_0 c0_1 c0_2 c0_3 c0_4 c0_5 c0_6 c0_7 c0_8 c0_9 c0_10 c0_11
      have H7 := Lib.hid (H.out.below hb6)
      clear hb6 H
      have F8 := H7.out.sees
      simp only [sees, kBlk, cellsAt, Nat.reduceAdd] at F8
      obtain ⟨⟨z0, c0_0, c0_1, c0_2, c0_3, c0_4, c0_5, c0_6, c0_7, c0_8, c0_9, c0_10, c0_11, -⟩, -⟩ := F8
      go_wp2_with fail
      refine (addr_Column_l [65, 77, 75] 0 3 _ (by decide) (by decide +kernel)).mono ?_
      rintro e w9 ⟨rfl, hb10⟩
      clear z0 c0_0 c0_1 c0_2 c0_3 c0_4 c0_5 c0_6 c0_7 c0_8 c0_9 c0_10 c0_11
      have H11 := Lib.hid (H7.out.below hb10)
      clear hb10 H7
      have F12 := H11.out.sees
      simp only [sees, kBlk, cellsAt, Nat.reduceAdd] at F12
      obtain ⟨⟨z0, c0_0, c0_1, c0_2, c0_3, c0_4, c0_5, c0_6, c0_7, c0_8, c0_9, c0_10, c0_11, -⟩, -⟩ := F12
      go_wp2_with fail
      refine (addr_Column_l [] 0 4 _ (by decide) (by decide +kernel)).mono ?_
      rintro e w13 ⟨rfl, hb14⟩
      clear z0 c0_0 c0_1 c0_2 c0_3 c0_4 c0_5 c0_6 c0_7 c0_8 c0_9 c0_10 c0_11
      have H15 := Lib.hid (H11.out.below hb14)
      clear hb14 H11
      have F16 := H15.out.sees
      simp only [sees, kBlk, cellsAt, Nat.reduceAdd] at F16
      obtain ⟨⟨z0, c0_0, c0_1, c0_2, c0_3, c0_4, c0_5, c0_6, c0_7, c0_8, c0_9, c0_10, c0_11, -⟩, -⟩ := F16
      go_wp2_with fail
      refine (addr_Column_l [65, 49] 0 4 _ (by decide) (by decide +kernel)).mono ?_
      rintro e w17 ⟨rfl, hb18⟩
      clear z0 c0_0 c0_1 c0_2 c0_3 c0_4 c0_5 c0_6 c0_7 c0_8 c0_9 c0_10 c0_11
      have H19 := Lib.hid (H15.out.below hb18)
      clear hb18 H15
      have F20 := H19.out.sees
      simp only [sees, kBlk, cellsAt, Nat.reduceAdd] at F20
      obtain ⟨⟨z0, c0_0, c0_1, c0_2, c0_3, c0_4, c0_5, c0_6, c0_7, c0_8, c0_9, c0_10, c0_11, -⟩, -⟩ := F20
      go_wp2_with fail
      refine (addr_Column_l [65, 65, 65, 65, 65, 65, 65, 65, 65, 65, 65, 65, 65, 65, 65, 65, 65, 65, 65, 65] 0 3 _ (by decide) (by decide +kernel)).mono ?_
      rintro e w21 ⟨rfl, hb22⟩
      clear z0 c0_0 c0_1 c0_2 c0_3 c0_4 c0_5 c0_6 c0_7 c0_8 c0_9 c0_10 c0_11
      have H23 := Lib.hid (H19.out.below hb22)
      clear hb22 H19
      have F24 := H23.out.sees
      simp only [sees, kBlk, cellsAt, Nat.reduceAdd] at F24
      obtain ⟨⟨z0, c0_0, c0_1, c0_2, c0_3, c0_4, c0_5, c0_6, c0_7, c0_8, c0_9, c0_10, c0_11, -⟩, -⟩ := F24
      go_wp2_with fail
      refine (addr_Parse_c [98, 49, 50] 2 12 0 _ (by decide) (by decide +kernel)).mono ?_
      rintro e w25 ⟨rfl, hb26⟩
      clear z0 c0_0 c0_1 c0_2 c0_3 c0_4 c0_5 c0_6 c0_7 c0_8 c0_9 c0_10 c0_11
      have H27 := Lib.hid (H23.out.below hb26)
      clear hb26 H23
      have F28 := H27.out.sees
      simp only [sees, kBlk, cellsAt, Nat.reduceAdd] at F28
      obtain ⟨⟨z0, c0_0, c0_1, c0_2, c0_3, c0_4, c0_5, c0_6, c0_7, c0_8, c0_9, c0_10, c0_11, -⟩, -⟩ := F28
      go_wp2_with fail
      clear z0 c0_0 c0_1 c0_2 c0_3 c0_4 c0_5 c0_6 c0_7 c0_8 c0_9 c0_10 c0_11
      have H29 := Lib.hid (H27.out.alloc w25.heap.size 23 [.int .i64 2, .int .i64 12] rfl)
      clear H27
      generalize (w25.alloc (.cells #[.int .i64 2, .int .i64 12] 23)) = W30 at H29 ⊢
      refine (addr_Parse_c [65, 77, 74, 49, 48, 50, 52] 1024 1024 0 _ (by decide) (by decide +kernel)).mono ?_
      rintro e w31 ⟨rfl, hb32⟩
      have H33 := Lib.hid (H29.out.below hb32)
      clear hb32 H29
      have F34 := H33.out.sees
      simp only [sees, kBlk, cellsAt, Nat.reduceAdd] at F34
      obtain ⟨⟨z0, c0_0, c0_1, -⟩, ⟨z1, c1_0, c1_1, c1_2, c1_3, c1_4, c1_5, c1_6, c1_7, c1_8, c1_9, c1_10, c1_11, -⟩, -⟩ := F34
      go_wp2_with fail
      clear z0 c0_0 c0_1 z1 c1_0 c1_1 c1_2 c1_3 c1_4 c1_5 c1_6 c1_7 c1_8 c1_9 c1_10 c1_11
      have H35 := Lib.hid (H33.out.alloc w31.heap.size 23 [.int .i64 1024, .int .i64 1024] rfl)
      clear H33
      generalize (w31.alloc (.cells #[.int .i64 1024, .int .i64 1024] 23)) = W36 at H35 ⊢
      refine (addr_Parse_c [65, 49, 48, 50, 53] 0 0 3 _ (by decide) (by decide +kernel)).mono ?_
      rintro e w37 ⟨rfl, hb38⟩
      have H39 := Lib.hid (H35.out.below hb38)
      clear hb38 H35
      have F40 := H39.out.sees
      simp only [sees, kBlk, cellsAt, Nat.reduceAdd] at F40
      obtain ⟨⟨z0, c0_0, c0_1, -⟩, ⟨z1, c1_0, c1_1, -⟩, ⟨z2, c2_0, c2_1, c2_2, c2_3, c2_4, c2_5, c2_6, c2_7, c2_8, c2_9, c2_10, c2_11, -⟩, -⟩ := F40
      go_wp2_with fail
      clear z0 c0_0 c0_1 z1 c1_0 c1_1 z2 c2_0 c2_1 c2_2 c2_3 c2_4 c2_5 c2_6 c2_7 c2_8 c2_9 c2_10 c2_11
      have H41 := Lib.hid (H39.out.alloc w37.heap.size 9 [.string ⟨#[65, 48]⟩, .string ⟨#[65, 48, 49]⟩, .string ⟨#[49, 65]⟩, .string ⟨#[65]⟩, .string ⟨#[65, 49, 32]⟩, .string ⟨#[]⟩, .string ⟨#[36, 65, 49]⟩, .string ⟨#[65, 49, 65]⟩, .string ⟨#[65, 57, 57, 57, 57, 57, 57, 57, 57, 57, 57, 57, 57, 57, 57, 57, 57, 57, 57, 57, 57, 120]⟩] rfl)
      clear H39
      generalize (w37.alloc (.cells #[.string ⟨#[65, 48]⟩, .string ⟨#[65, 48, 49]⟩, .string ⟨#[49, 65]⟩, .string ⟨#[65]⟩, .string ⟨#[65, 49, 32]⟩, .string ⟨#[]⟩, .string ⟨#[36, 65, 49]⟩, .string ⟨#[65, 49, 65]⟩, .string ⟨#[65, 57, 57, 57, 57, 57, 57, 57, 57, 57, 57, 57, 57, 57, 57, 57, 57, 57, 57, 57, 57, 120]⟩] 9)) = W42 at H41 ⊢
      go_loopw [153] (fun iv wr => ∃ k : Nat, k ≤ 9 ∧ iv = .int .i64 k ∧ Hid (Ok w [kBlk (w37.heap.size) 9 [.string ⟨#[65, 48]⟩, .string ⟨#[65, 48, 49]⟩, .string ⟨#[49, 65]⟩, .string ⟨#[65]⟩, .string ⟨#[65, 49, 32]⟩, .string ⟨#[]⟩, .string ⟨#[36, 65, 49]⟩, .string ⟨#[65, 49, 65]⟩, .string ⟨#[65, 57, 57, 57, 57, 57, 57, 57, 57, 57, 57, 57, 57, 57, 57, 57, 57, 57, 57, 57, 57, 120]⟩], kBlk (w31.heap.size) 23 [.int .i64 1024, .int .i64 1024], kBlk (w25.heap.size) 23 [.int .i64 2, .int .i64 12], kBlk (w.heap.size) 54 [.int .i64 1, .string ⟨#[65]⟩, .int .i64 26, .string ⟨#[90]⟩, .int .i64 27, .string ⟨#[65, 65]⟩, .int .i64 702, .string ⟨#[90, 90]⟩, .int .i64 703, .string ⟨#[65, 65, 65]⟩, .int .i64 1024, .string ⟨#[65, 77, 74]⟩]] wr)) (fun iv _ => 9 - (intOf iv).toNat)
      case atStart => exact ⟨0, by omega, rfl, H41⟩
      case round =>
        obtain ⟨k, hk, rfl, H⟩ := hrel
        rcases (show k = 0 ∨ k = 1 ∨ k = 2 ∨ k = 3 ∨ k = 4 ∨ k = 5 ∨ k = 6 ∨ k = 7 ∨ k = 8 ∨ k = 9 from by omega) with rfl | rfl | rfl | rfl | rfl | rfl | rfl | rfl | rfl | rfl
        · have F43 := H.out.sees
          simp only [sees, kBlk, cellsAt, Nat.reduceAdd] at F43
          obtain ⟨⟨z0, c0_0, c0_1, c0_2, c0_3, c0_4, c0_5, c0_6, c0_7, c0_8, -⟩, ⟨z1, c1_0, c1_1, -⟩, ⟨z2, c2_0, c2_1, -⟩, ⟨z3, c3_0, c3_1, c3_2, c3_3, c3_4, c3_5, c3_6, c3_7, c3_8, c3_9, c3_10, c3_11, -⟩, -⟩ := F43
          go_wp2_with fail
          refine (addr_Parse_c [65, 48] 0 0 4 _ (by decide) (by decide +kernel)).mono ?_
          rintro e w44 ⟨rfl, hb45⟩
          clear z0 c0_0 c0_1 c0_2 c0_3 c0_4 c0_5 c0_6 c0_7 c0_8 z1 c1_0 c1_1 z2 c2_0 c2_1 z3 c3_0 c3_1 c3_2 c3_3 c3_4 c3_5 c3_6 c3_7 c3_8 c3_9 c3_10 c3_11
          have H46 := Lib.hid (H.out.below hb45)
          clear hb45 H
          have F47 := H46.out.sees
          simp only [sees, kBlk, cellsAt, Nat.reduceAdd] at F47
          obtain ⟨⟨z0, c0_0, c0_1, c0_2, c0_3, c0_4, c0_5, c0_6, c0_7, c0_8, -⟩, ⟨z1, c1_0, c1_1, -⟩, ⟨z2, c2_0, c2_1, -⟩, ⟨z3, c3_0, c3_1, c3_2, c3_3, c3_4, c3_5, c3_6, c3_7, c3_8, c3_9, c3_10, c3_11, -⟩, -⟩ := F47
          go_wp2_with fail
          go_roundw
          case rel => exact ⟨1, by omega, rfl, H46.out.alloc_obj _⟩
          case measure => simp [intOf]
        · have F43 := H.out.sees
          simp only [sees, kBlk, cellsAt, Nat.reduceAdd] at F43
          obtain ⟨⟨z0, c0_0, c0_1, c0_2, c0_3, c0_4, c0_5, c0_6, c0_7, c0_8, -⟩, ⟨z1, c1_0, c1_1, -⟩, ⟨z2, c2_0, c2_1, -⟩, ⟨z3, c3_0, c3_1, c3_2, c3_3, c3_4, c3_5, c3_6, c3_7, c3_8, c3_9, c3_10, c3_11, -⟩, -⟩ := F43
          go_wp2_with fail
          refine (addr_Parse_c [65, 48, 49] 0 0 4 _ (by decide) (by decide +kernel)).mono ?_
          rintro e w44 ⟨rfl, hb45⟩
          clear z0 c0_0 c0_1 c0_2 c0_3 c0_4 c0_5 c0_6 c0_7 c0_8 z1 c1_0 c1_1 z2 c2_0 c2_1 z3 c3_0 c3_1 c3_2 c3_3 c3_4 c3_5 c3_6 c3_7 c3_8 c3_9 c3_10 c3_11
          have H46 := Lib.hid (H.out.below hb45)
          clear hb45 H
          have F47 := H46.out.sees
          simp only [sees, kBlk, cellsAt, Nat.reduceAdd] at F47
          obtain ⟨⟨z0, c0_0, c0_1, c0_2, c0_3, c0_4, c0_5, c0_6, c0_7, c0_8, -⟩, ⟨z1, c1_0, c1_1, -⟩, ⟨z2, c2_0, c2_1, -⟩, ⟨z3, c3_0, c3_1, c3_2, c3_3, c3_4, c3_5, c3_6, c3_7, c3_8, c3_9, c3_10, c3_11, -⟩, -⟩ := F47
          go_wp2_with fail
          go_roundw
          case rel => exact ⟨2, by omega, rfl, H46.out.alloc_obj _⟩
          case measure => simp [intOf]
        · have F43 := H.out.sees
          simp only [sees, kBlk, cellsAt, Nat.reduceAdd] at F43
          obtain ⟨⟨z0, c0_0, c0_1, c0_2, c0_3, c0_4, c0_5, c0_6, c0_7, c0_8, -⟩, ⟨z1, c1_0, c1_1, -⟩, ⟨z2, c2_0, c2_1, -⟩, ⟨z3, c3_0, c3_1, c3_2, c3_3, c3_4, c3_5, c3_6, c3_7, c3_8, c3_9, c3_10, c3_11, -⟩, -⟩ := F43
          go_wp2_with fail
          refine (addr_Parse_c [49, 65] 0 0 4 _ (by decide) (by decide +kernel)).mono ?_
          rintro e w44 ⟨rfl, hb45⟩
          clear z0 c0_0 c0_1 c0_2 c0_3 c0_4 c0_5 c0_6 c0_7 c0_8 z1 c1_0 c1_1 z2 c2_0 c2_1 z3 c3_0 c3_1 c3_2 c3_3 c3_4 c3_5 c3_6 c3_7 c3_8 c3_9 c3_10 c3_11
          have H46 := Lib.hid (H.out.below hb45)
          clear hb45 H
          have F47 := H46.out.sees
          simp only [sees, kBlk, cellsAt, Nat.reduceAdd] at F47
          obtain ⟨⟨z0, c0_0, c0_1, c0_2, c0_3, c0_4, c0_5, c0_6, c0_7, c0_8, -⟩, ⟨z1, c1_0, c1_1, -⟩, ⟨z2, c2_0, c2_1, -⟩, ⟨z3, c3_0, c3_1, c3_2, c3_3, c3_4, c3_5, c3_6, c3_7, c3_8, c3_9, c3_10, c3_11, -⟩, -⟩ := F47
          go_wp2_with fail
          go_roundw
          case rel => exact ⟨3, by omega, rfl, H46.out.alloc_obj _⟩
          case measure => simp [intOf]
        · have F43 := H.out.sees
          simp only [sees, kBlk, cellsAt, Nat.reduceAdd] at F43
          obtain ⟨⟨z0, c0_0, c0_1, c0_2, c0_3, c0_4, c0_5, c0_6, c0_7, c0_8, -⟩, ⟨z1, c1_0, c1_1, -⟩, ⟨z2, c2_0, c2_1, -⟩, ⟨z3, c3_0, c3_1, c3_2, c3_3, c3_4, c3_5, c3_6, c3_7, c3_8, c3_9, c3_10, c3_11, -⟩, -⟩ := F43
          go_wp2_with fail
          refine (addr_Parse_c [65] 0 0 4 _ (by decide) (by decide +kernel)).mono ?_
          rintro e w44 ⟨rfl, hb45⟩
          clear z0 c0_0 c0_1 c0_2 c0_3 c0_4 c0_5 c0_6 c0_7 c0_8 z1 c1_0 c1_1 z2 c2_0 c2_1 z3 c3_0 c3_1 c3_2 c3_3 c3_4 c3_5 c3_6 c3_7 c3_8 c3_9 c3_10 c3_11
          have H46 := Lib.hid (H.out.below hb45)
          clear hb45 H
          have F47 := H46.out.sees
          simp only [sees, kBlk, cellsAt, Nat.reduceAdd] at F47
          obtain ⟨⟨z0, c0_0, c0_1, c0_2, c0_3, c0_4, c0_5, c0_6, c0_7, c0_8, -⟩, ⟨z1, c1_0, c1_1, -⟩, ⟨z2, c2_0, c2_1, -⟩, ⟨z3, c3_0, c3_1, c3_2, c3_3, c3_4, c3_5, c3_6, c3_7, c3_8, c3_9, c3_10, c3_11, -⟩, -⟩ := F47
          go_wp2_with fail
          go_roundw
          case rel => exact ⟨4, by omega, rfl, H46.out.alloc_obj _⟩
          case measure => simp [intOf]
        · have F43 := H.out.sees
          simp only [sees, kBlk, cellsAt, Nat.reduceAdd] at F43
          obtain ⟨⟨z0, c0_0, c0_1, c0_2, c0_3, c0_4, c0_5, c0_6, c0_7, c0_8, -⟩, ⟨z1, c1_0, c1_1, -⟩, ⟨z2, c2_0, c2_1, -⟩, ⟨z3, c3_0, c3_1, c3_2, c3_3, c3_4, c3_5, c3_6, c3_7, c3_8, c3_9, c3_10, c3_11, -⟩, -⟩ := F43
          go_wp2_with fail
          refine (addr_Parse_c [65, 49, 32] 0 0 4 _ (by decide) (by decide +kernel)).mono ?_
          rintro e w44 ⟨rfl, hb45⟩
          clear z0 c0_0 c0_1 c0_2 c0_3 c0_4 c0_5 c0_6 c0_7 c0_8 z1 c1_0 c1_1 z2 c2_0 c2_1 z3 c3_0 c3_1 c3_2 c3_3 c3_4 c3_5 c3_6 c3_7 c3_8 c3_9 c3_10 c3_11
          have H46 := Lib.hid (H.out.below hb45)
          clear hb45 H
          have F47 := H46.out.sees
          simp only [sees, kBlk, cellsAt, Nat.reduceAdd] at F47
          obtain ⟨⟨z0, c0_0, c0_1, c0_2, c0_3, c0_4, c0_5, c0_6, c0_7, c0_8, -⟩, ⟨z1, c1_0, c1_1, -⟩, ⟨z2, c2_0, c2_1, -⟩, ⟨z3, c3_0, c3_1, c3_2, c3_3, c3_4, c3_5, c3_6, c3_7, c3_8, c3_9, c3_10, c3_11, -⟩, -⟩ := F47
          go_wp2_with fail
          go_roundw
          case rel => exact ⟨5, by omega, rfl, H46.out.alloc_obj _⟩
          case measure => simp [intOf]
        · have F43 := H.out.sees
          simp only [sees, kBlk, cellsAt, Nat.reduceAdd] at F43
          obtain ⟨⟨z0, c0_0, c0_1, c0_2, c0_3, c0_4, c0_5, c0_6, c0_7, c0_8, -⟩, ⟨z1, c1_0, c1_1, -⟩, ⟨z2, c2_0, c2_1, -⟩, ⟨z3, c3_0, c3_1, c3_2, c3_3, c3_4, c3_5, c3_6, c3_7, c3_8, c3_9, c3_10, c3_11, -⟩, -⟩ := F43
          go_wp2_with fail
          refine (addr_Parse_c [] 0 0 4 _ (by decide) (by decide +kernel)).mono ?_
          rintro e w44 ⟨rfl, hb45⟩
          clear z0 c0_0 c0_1 c0_2 c0_3 c0_4 c0_5 c0_6 c0_7 c0_8 z1 c1_0 c1_1 z2 c2_0 c2_1 z3 c3_0 c3_1 c3_2 c3_3 c3_4 c3_5 c3_6 c3_7 c3_8 c3_9 c3_10 c3_11
          have H46 := Lib.hid (H.out.below hb45)
          clear hb45 H
          have F47 := H46.out.sees
          simp only [sees, kBlk, cellsAt, Nat.reduceAdd] at F47
          obtain ⟨⟨z0, c0_0, c0_1, c0_2, c0_3, c0_4, c0_5, c0_6, c0_7, c0_8, -⟩, ⟨z1, c1_0, c1_1, -⟩, ⟨z2, c2_0, c2_1, -⟩, ⟨z3, c3_0, c3_1, c3_2, c3_3, c3_4, c3_5, c3_6, c3_7, c3_8, c3_9, c3_10, c3_11, -⟩, -⟩ := F47
          go_wp2_with fail
          go_roundw
          case rel => exact ⟨6, by omega, rfl, H46.out.alloc_obj _⟩
          case measure => simp [intOf]
        · have F43 := H.out.sees
          simp only [sees, kBlk, cellsAt, Nat.reduceAdd] at F43
          obtain ⟨⟨z0, c0_0, c0_1, c0_2, c0_3, c0_4, c0_5, c0_6, c0_7, c0_8, -⟩, ⟨z1, c1_0, c1_1, -⟩, ⟨z2, c2_0, c2_1, -⟩, ⟨z3, c3_0, c3_1, c3_2, c3_3, c3_4, c3_5, c3_6, c3_7, c3_8, c3_9, c3_10, c3_11, -⟩, -⟩ := F43
          go_wp2_with fail
          refine (addr_Parse_c [36, 65, 49] 0 0 4 _ (by decide) (by decide +kernel)).mono ?_
          rintro e w44 ⟨rfl, hb45⟩
          clear z0 c0_0 c0_1 c0_2 c0_3 c0_4 c0_5 c0_6 c0_7 c0_8 z1 c1_0 c1_1 z2 c2_0 c2_1 z3 c3_0 c3_1 c3_2 c3_3 c3_4 c3_5 c3_6 c3_7 c3_8 c3_9 c3_10 c3_11
          have H46 := Lib.hid (H.out.below hb45)
          clear hb45 H
          have F47 := H46.out.sees
          simp only [sees, kBlk, cellsAt, Nat.reduceAdd] at F47
          obtain ⟨⟨z0, c0_0, c0_1, c0_2, c0_3, c0_4, c0_5, c0_6, c0_7, c0_8, -⟩, ⟨z1, c1_0, c1_1, -⟩, ⟨z2, c2_0, c2_1, -⟩, ⟨z3, c3_0, c3_1, c3_2, c3_3, c3_4, c3_5, c3_6, c3_7, c3_8, c3_9, c3_10, c3_11, -⟩, -⟩ := F47
          go_wp2_with fail
          go_roundw
          case rel => exact ⟨7, by omega, rfl, H46.out.alloc_obj _⟩
          case measure => simp [intOf]
        · have F43 := H.out.sees
          simp only [sees, kBlk, cellsAt, Nat.reduceAdd] at F43
          obtain ⟨⟨z0, c0_0, c0_1, c0_2, c0_3, c0_4, c0_5, c0_6, c0_7, c0_8, -⟩, ⟨z1, c1_0, c1_1, -⟩, ⟨z2, c2_0, c2_1, -⟩, ⟨z3, c3_0, c3_1, c3_2, c3_3, c3_4, c3_5, c3_6, c3_7, c3_8, c3_9, c3_10, c3_11, -⟩, -⟩ := F43
          go_wp2_with fail
          refine (addr_Parse_c [65, 49, 65] 0 0 4 _ (by decide) (by decide +kernel)).mono ?_
          rintro e w44 ⟨rfl, hb45⟩
          clear z0 c0_0 c0_1 c0_2 c0_3 c0_4 c0_5 c0_6 c0_7 c0_8 z1 c1_0 c1_1 z2 c2_0 c2_1 z3 c3_0 c3_1 c3_2 c3_3 c3_4 c3_5 c3_6 c3_7 c3_8 c3_9 c3_10 c3_11
          have H46 := Lib.hid (H.out.below hb45)
          clear hb45 H
          have F47 := H46.out.sees
          simp only [sees, kBlk, cellsAt, Nat.reduceAdd] at F47
          obtain ⟨⟨z0, c0_0, c0_1, c0_2, c0_3, c0_4, c0_5, c0_6, c0_7, c0_8, -⟩, ⟨z1, c1_0, c1_1, -⟩, ⟨z2, c2_0, c2_1, -⟩, ⟨z3, c3_0, c3_1, c3_2, c3_3, c3_4, c3_5, c3_6, c3_7, c3_8, c3_9, c3_10, c3_11, -⟩, -⟩ := F47
          go_wp2_with fail
          go_roundw
          case rel => exact ⟨8, by omega, rfl, H46.out.alloc_obj _⟩
          case measure => simp [intOf]
        · have F43 := H.out.sees
          simp only [sees, kBlk, cellsAt, Nat.reduceAdd] at F43
          obtain ⟨⟨z0, c0_0, c0_1, c0_2, c0_3, c0_4, c0_5, c0_6, c0_7, c0_8, -⟩, ⟨z1, c1_0, c1_1, -⟩, ⟨z2, c2_0, c2_1, -⟩, ⟨z3, c3_0, c3_1, c3_2, c3_3, c3_4, c3_5, c3_6, c3_7, c3_8, c3_9, c3_10, c3_11, -⟩, -⟩ := F43
          go_wp2_with fail
          refine (addr_Parse_c [65, 57, 57, 57, 57, 57, 57, 57, 57, 57, 57, 57, 57, 57, 57, 57, 57, 57, 57, 57, 57, 120] 0 0 4 _ (by decide) (by decide +kernel)).mono ?_
          rintro e w44 ⟨rfl, hb45⟩
          clear z0 c0_0 c0_1 c0_2 c0_3 c0_4 c0_5 c0_6 c0_7 c0_8 z1 c1_0 c1_1 z2 c2_0 c2_1 z3 c3_0 c3_1 c3_2 c3_3 c3_4 c3_5 c3_6 c3_7 c3_8 c3_9 c3_10 c3_11
          have H46 := Lib.hid (H.out.below hb45)
          clear hb45 H
          have F47 := H46.out.sees
          simp only [sees, kBlk, cellsAt, Nat.reduceAdd] at F47
          obtain ⟨⟨z0, c0_0, c0_1, c0_2, c0_3, c0_4, c0_5, c0_6, c0_7, c0_8, -⟩, ⟨z1, c1_0, c1_1, -⟩, ⟨z2, c2_0, c2_1, -⟩, ⟨z3, c3_0, c3_1, c3_2, c3_3, c3_4, c3_5, c3_6, c3_7, c3_8, c3_9, c3_10, c3_11, -⟩, -⟩ := F47
          go_wp2_with fail
          go_roundw
          case rel => exact ⟨9, by omega, rfl, H46.out.alloc_obj _⟩
          case measure => simp [intOf]
        · have F43 := H.out.sees
          simp only [sees, kBlk, cellsAt, Nat.reduceAdd] at F43
          obtain ⟨⟨z0, c0_0, c0_1, c0_2, c0_3, c0_4, c0_5, c0_6, c0_7, c0_8, -⟩, ⟨z1, c1_0, c1_1, -⟩, ⟨z2, c2_0, c2_1, -⟩, ⟨z3, c3_0, c3_1, c3_2, c3_3, c3_4, c3_5, c3_6, c3_7, c3_8, c3_9, c3_10, c3_11, -⟩, -⟩ := F43
          go_wp2_with fail
          refine (addr_Format _ _ _ (HP.out.below H.out.bel)).mono ?_
          rintro e w44 ⟨rfl, hb45⟩
          rw [show formatS 28 9 = ([65, 66, 57], 0) from by decide +kernel]
          clear z0 c0_0 c0_1 c0_2 c0_3 c0_4 c0_5 c0_6 c0_7 c0_8 z1 c1_0 c1_1 z2 c2_0 c2_1 z3 c3_0 c3_1 c3_2 c3_3 c3_4 c3_5 c3_6 c3_7 c3_8 c3_9 c3_10 c3_11
          have H46 := Lib.hid (H.out.below hb45)
          clear hb45 H
          have F47 := H46.out.sees
          simp only [sees, kBlk, cellsAt, Nat.reduceAdd] at F47
          obtain ⟨⟨z0, c0_0, c0_1, c0_2, c0_3, c0_4, c0_5, c0_6, c0_7, c0_8, -⟩, ⟨z1, c1_0, c1_1, -⟩, ⟨z2, c2_0, c2_1, -⟩, ⟨z3, c3_0, c3_1, c3_2, c3_3, c3_4, c3_5, c3_6, c3_7, c3_8, c3_9, c3_10, c3_11, -⟩, -⟩ := F47
          go_wp2_with fail
          refine (addr_Index _ _ _).mono ?_
          rintro e w48 ⟨rfl, hb49⟩
          rw [show indexS 1 2 = (1024, 0) from by decide +kernel]
          clear z0 c0_0 c0_1 c0_2 c0_3 c0_4 c0_5 c0_6 c0_7 c0_8 z1 c1_0 c1_1 z2 c2_0 c2_1 z3 c3_0 c3_1 c3_2 c3_3 c3_4 c3_5 c3_6 c3_7 c3_8 c3_9 c3_10 c3_11
          have H50 := Lib.hid (H46.out.below hb49)
          clear hb49 H46
          have F51 := H50.out.sees
          simp only [sees, kBlk, cellsAt, Nat.reduceAdd] at F51
          obtain ⟨⟨z0, c0_0, c0_1, c0_2, c0_3, c0_4, c0_5, c0_6, c0_7, c0_8, -⟩, ⟨z1, c1_0, c1_1, -⟩, ⟨z2, c2_0, c2_1, -⟩, ⟨z3, c3_0, c3_1, c3_2, c3_3, c3_4, c3_5, c3_6, c3_7, c3_8, c3_9, c3_10, c3_11, -⟩, -⟩ := F51
          go_wp2_with fail
          refine (addr_At _ _ (by decide) (by decide)).mono ?_
          rintro e w52 ⟨rfl, hb53⟩
          rw [show atS 1023 = (1024, 1, 0) from by decide +kernel]
          clear z0 c0_0 c0_1 c0_2 c0_3 c0_4 c0_5 c0_6 c0_7 c0_8 z1 c1_0 c1_1 z2 c2_0 c2_1 z3 c3_0 c3_1 c3_2 c3_3 c3_4 c3_5 c3_6 c3_7 c3_8 c3_9 c3_10 c3_11
          have H54 := Lib.hid (H50.out.below hb53)
          clear hb53 H50
          have F55 := H54.out.sees
          simp only [sees, kBlk, cellsAt, Nat.reduceAdd] at F55
          obtain ⟨⟨z0, c0_0, c0_1, c0_2, c0_3, c0_4, c0_5, c0_6, c0_7, c0_8, -⟩, ⟨z1, c1_0, c1_1, -⟩, ⟨z2, c2_0, c2_1, -⟩, ⟨z3, c3_0, c3_1, c3_2, c3_3, c3_4, c3_5, c3_6, c3_7, c3_8, c3_9, c3_10, c3_11, -⟩, -⟩ := F55
          go_wp2_with fail
          clear z0 c0_0 c0_1 c0_2 c0_3 c0_4 c0_5 c0_6 c0_7 c0_8 z1 c1_0 c1_1 z2 c2_0 c2_1 z3 c3_0 c3_1 c3_2 c3_3 c3_4 c3_5 c3_6 c3_7 c3_8 c3_9 c3_10 c3_11
          have H56 := Lib.hid (H54.out.alloc w52.heap.size 23 [.int .i64 1024, .int .i64 1] rfl)
          clear H54
          generalize (w52.alloc (.cells #[.int .i64 1024, .int .i64 1] 23)) = W57 at H56 ⊢
          refine (addr_At _ _ (by decide) (by decide)).mono ?_
          rintro e w58 ⟨rfl, hb59⟩
          rw [show atS 1048576 = (0, 0, 3) from by decide +kernel]
          have H60 := Lib.hid (H56.out.below hb59)
          clear hb59 H56
          have F61 := H60.out.sees
          simp only [sees, kBlk, cellsAt, Nat.reduceAdd] at F61
          obtain ⟨⟨z0, c0_0, c0_1, -⟩, ⟨z1, c1_0, c1_1, c1_2, c1_3, c1_4, c1_5, c1_6, c1_7, c1_8, -⟩, ⟨z2, c2_0, c2_1, -⟩, ⟨z3, c3_0, c3_1, -⟩, ⟨z4, c4_0, c4_1, c4_2, c4_3, c4_4, c4_5, c4_6, c4_7, c4_8, c4_9, c4_10, c4_11, -⟩, -⟩ := F61
          go_wp2_with fail
          refine (addr_Less _ _ _ _ _).mono ?_
          rintro e w62 ⟨rfl, hb63⟩
          rw [show lessS 3 1 1 2 = true from by decide +kernel]
          clear z0 c0_0 c0_1 z1 c1_0 c1_1 c1_2 c1_3 c1_4 c1_5 c1_6 c1_7 c1_8 z2 c2_0 c2_1 z3 c3_0 c3_1 z4 c4_0 c4_1 c4_2 c4_3 c4_4 c4_5 c4_6 c4_7 c4_8 c4_9 c4_10 c4_11
          have H64 := Lib.hid (H60.out.below hb63)
          clear hb63 H60
          have F65 := H64.out.sees
          simp only [sees, kBlk, cellsAt, Nat.reduceAdd] at F65
          obtain ⟨⟨z0, c0_0, c0_1, -⟩, ⟨z1, c1_0, c1_1, c1_2, c1_3, c1_4, c1_5, c1_6, c1_7, c1_8, -⟩, ⟨z2, c2_0, c2_1, -⟩, ⟨z3, c3_0, c3_1, -⟩, ⟨z4, c4_0, c4_1, c4_2, c4_3, c4_4, c4_5, c4_6, c4_7, c4_8, c4_9, c4_10, c4_11, -⟩, -⟩ := F65
          go_wp2_with fail
          refine (addr_Less _ _ _ _ _).mono ?_
          rintro e w66 ⟨rfl, hb67⟩
          rw [show lessS 1 2 3 1 = false from by decide +kernel]
          clear z0 c0_0 c0_1 z1 c1_0 c1_1 c1_2 c1_3 c1_4 c1_5 c1_6 c1_7 c1_8 z2 c2_0 c2_1 z3 c3_0 c3_1 z4 c4_0 c4_1 c4_2 c4_3 c4_4 c4_5 c4_6 c4_7 c4_8 c4_9 c4_10 c4_11
          have H68 := Lib.hid (H64.out.below hb67)
          clear hb67 H64
          have F69 := H68.out.sees
          simp only [sees, kBlk, cellsAt, Nat.reduceAdd] at F69
          obtain ⟨⟨z0, c0_0, c0_1, -⟩, ⟨z1, c1_0, c1_1, c1_2, c1_3, c1_4, c1_5, c1_6, c1_7, c1_8, -⟩, ⟨z2, c2_0, c2_1, -⟩, ⟨z3, c3_0, c3_1, -⟩, ⟨z4, c4_0, c4_1, c4_2, c4_3, c4_4, c4_5, c4_6, c4_7, c4_8, c4_9, c4_10, c4_11, -⟩, -⟩ := F69
          go_wp2_with fail
          go_ret
          exact ⟨rfl, H68.out.bel⟩
end Go.Proofs.YtkdabfepggehiaaDoor
