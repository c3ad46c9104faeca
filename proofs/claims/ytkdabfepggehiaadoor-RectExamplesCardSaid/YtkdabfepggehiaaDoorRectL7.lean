/- The walk of the law RectExamples. -/
import Derived.Test.YtkdabfepggehiaaDoorAllP
import Derived.Test.YtkdabfepggehiaaDoorEqG
import Derived.Test.YtkdabfepggehiaaDoorCovL
import Derived.Test.YtkdabfepggehiaaDoorRectB
import Derived.Test.YtkdabfepggehiaaDoorRectK
namespace Go.Proofs.YtkdabfepggehiaaDoor
open Go.RowKit

theorem parse_c (l : List UInt8) (c1 r1 c2 r2 z : Int) (m : Int) (w : World) (hs : l.length < 4294967281) (h : parseR l = (⟨c1, r1, c2, r2⟩, z)) (hm : w.cell? ⟨0, 0, none⟩ = some (.int .i64 m)) :
    Calls Tryd.prog 56 #[.string ⟨l.toArray⟩] w fun e w' => e = .returned (.tuple #[.agg #[.int .i64 c1, .int .i64 r1, .int .i64 c2, .int .i64 r2], .int .i64 z]) ∧ Below w.heap.size w w' :=
  (rect_Parse_l l m w hs hm).mono fun _ _ ⟨he, hw⟩ => ⟨by rw [he, h], hw⟩
theorem format_c (a1 a2 a3 a4 : Int) (l : List UInt8) (z : Int) (w : World) (h : fmtR ⟨a1, a2, a3, a4⟩ = (l, z)) (hp : Pow w) :
    Calls Tryd.prog 58 #[.agg #[.int .i64 a1, .int .i64 a2, .int .i64 a3, .int .i64 a4]] w fun e w' => e = .returned (.tuple #[.string ⟨l.toArray⟩, .int .i64 z]) ∧ Below w.heap.size w w' :=
  (rect_Format a1 a2 a3 a4 w hp).mono fun _ _ ⟨he, hw⟩ => ⟨by rw [he, h], hw⟩
theorem meet_c (a1 a2 a3 a4 b1 b2 b3 b4 m1 m2 m3 m4 : Int) (v : Bool) (w : World) (h : meetS ⟨a1, a2, a3, a4⟩ ⟨b1, b2, b3, b4⟩ = ⟨m1, m2, m3, m4⟩) (h2 : meets ⟨a1, a2, a3, a4⟩ ⟨b1, b2, b3, b4⟩ = v) :
    Calls Tryd.prog 31 #[.agg #[.int .i64 a1, .int .i64 a2, .int .i64 a3, .int .i64 a4], .agg #[.int .i64 b1, .int .i64 b2, .int .i64 b3, .int .i64 b4]] w fun e w' =>
      e = .returned (.tuple #[.agg #[.int .i64 m1, .int .i64 m2, .int .i64 m3, .int .i64 m4], .bool v]) ∧ Below w.heap.size w w' :=
  (rect_Meet a1 a2 a3 a4 b1 b2 b3 b4 w).mono fun _ _ ⟨he, hw⟩ => ⟨by rw [he, h, h2], hw⟩
theorem minus_c (a1 a2 a3 a4 b1 b2 b3 b4 : Int) (L : List R4) (n : Nat) (w : World) (h : minusL ⟨a1, a2, a3, a4⟩ ⟨b1, b2, b3, b4⟩ = L) (hn : L.length = n) (h2 : minusE ⟨a1, a2, a3, a4⟩ ⟨b1, b2, b3, b4⟩ = 0) :
    Calls Tryd.prog 51 #[.agg #[.int .i64 a1, .int .i64 a2, .int .i64 a3, .int .i64 a4], .agg #[.int .i64 b1, .int .i64 b2, .int .i64 b3, .int .i64 b4]] w fun e w' =>
      ∃ ad c, e = .returned (.tuple #[.slice ad n c, .int .i64 0]) ∧ IsRects w' w'.heap.size ad n (fun i => L.getD i R4.zero) ∧ Below w.heap.size w w' :=
  (rect_Minus a1 a2 a3 a4 b1 b2 b3 b4 w).mono fun _ _ ⟨v, he, ho, hw⟩ => by
    rw [h] at ho
    rw [h2] at he
    obtain ⟨ad, c, rfl, hr, _⟩ := own_rects ho
    subst hn
    exact ⟨ad, c, he, hr, hw⟩
theorem area_c (a1 a2 a3 a4 n : Int) (w : World) (h : areaS ⟨a1, a2, a3, a4⟩ = (n, 0)) :
    Calls Tryd.prog 52 #[.agg #[.int .i64 a1, .int .i64 a2, .int .i64 a3, .int .i64 a4]] w fun e w' => e = .returned (.tuple #[.int .i64 n, .int .i64 0]) ∧ Below w.heap.size w w' :=
  (rect_Area a1 a2 a3 a4 w).mono fun _ _ ⟨he, hw⟩ => ⟨by rw [he, h], hw⟩
theorem refs_c (a1 a2 a3 a4 : Int) (n : Nat) (z : Int) (w : World) (h : refsE ⟨a1, a2, a3, a4⟩ = z) (h2 : refsN ⟨a1, a2, a3, a4⟩ = n) :
    Calls Tryd.prog 55 #[.agg #[.int .i64 a1, .int .i64 a2, .int .i64 a3, .int .i64 a4]] w fun e w' =>
      ∃ ad c, e = .returned (.tuple #[.slice ad n c, .int .i64 z]) ∧ IsRefs w' w'.heap.size ad n (refAt (a3 - a1 + 1) a1 a2) ∧ Below w.heap.size w w' :=
  (rect_Refs a1 a2 a3 a4 w).mono fun _ _ ⟨v, he, ho, hw⟩ => by
    rw [h2] at ho
    rw [h] at he
    obtain ⟨ad, c, rfl, hr, _⟩ := own_refs ho
    exact ⟨ad, c, he, hr, hw⟩
theorem covers_c (a1 a2 a3 a4 : Int) (L : List R4) (n c : Nat) (a : Option Addr) (v : Bool) (z : Int) (w : World) (hn : n ≤ 64) (hr : IsRects w w.heap.size a n (fun i => L.getD i R4.zero)) (h : coversS ⟨a1, a2, a3, a4⟩ (fun i => L.getD i R4.zero) n = (v, z)) :
    Calls Tryd.prog 48 #[.agg #[.int .i64 a1, .int .i64 a2, .int .i64 a3, .int .i64 a4], .slice a n c] w fun e w' => e = .returned (.tuple #[.bool v, .int .i64 z]) ∧ Below w.heap.size w w' :=
  (rect_Covers a1 a2 a3 a4 a n c _ w hn hr).mono fun _ _ ⟨he, hw⟩ => ⟨by rw [he, h], hw⟩
theorem inside_c (a1 a2 a3 a4 b1 b2 b3 b4 : Int) (v : Bool) (w : World) (h : insideB ⟨a1, a2, a3, a4⟩ ⟨b1, b2, b3, b4⟩ = v) :
    Calls Tryd.prog 33 #[.agg #[.int .i64 a1, .int .i64 a2, .int .i64 a3, .int .i64 a4], .agg #[.int .i64 b1, .int .i64 b2, .int .i64 b3, .int .i64 b4]] w fun e w' => e = .returned (.bool v) ∧ Below w.heap.size w w' :=
  (rect_Inside a1 a2 a3 a4 b1 b2 b3 b4 w).mono fun _ _ ⟨he, hw⟩ => ⟨by rw [he, h], hw⟩
theorem blk_rects {w : World} {b : Nat} {t : TypeId} (L : List R4) (h : Blk w b t (rcells L).toArray) : IsRects w w.heap.size (some ⟨b, 0, none⟩) L.length (fun i => L.getD i R4.zero) :=
  rects_of_blk _ h fun i j hi hj => by
    rw [List.getElem?_toArray]
    exact rcells_at L R4.zero i j hi hj
def kRefs (B : Nat) (a : Option Addr) (n : Nat) (f : Nat → Int × Int) : Pers := kFact B (fun w => IsRefs w B a n f) fun _ _ hb h => h.below hb (Nat.le_refl _)
theorem blk_refs4 {w : World} {b : Nat} {t : TypeId} (h : Blk w b t #[.int .i64 1, .int .i64 1, .int .i64 2, .int .i64 1, .int .i64 1, .int .i64 2, .int .i64 2, .int .i64 2]) : IsRefs w w.heap.size (some ⟨b, 0, none⟩) 4 (refAt (2 - 1 + 1) 1 1) := by
  intro _
  refine ⟨_, rfl, h.lt, fun i j hi hj => ?_⟩
  rw [show (⟨b, 0, none⟩ : Addr).add (i * 2 + j) = ⟨b, i * 2 + j, none⟩ from by unfold Addr.add; split <;> simp_all]
  rw [h.cell]
  rcases (show i = 0 ∨ i = 1 ∨ i = 2 ∨ i = 3 from by omega) with rfl | rfl | rfl | rfl <;> rcases (show j = 0 ∨ j = 1 from by omega) with rfl | rfl <;> rfl
theorem rects_nil {w : World} {B : Nat} {f : Nat → R4} : IsRects w B none 0 f := fun h => absurd h (by omega)
attribute [local irreducible] parseR fmtR meetS meets minusL minusE areaS refsE refsN coversS insideB refAt
set_option maxRecDepth 100000 in
set_option maxHeartbeats 8000000 in
theorem RectExamples_walk (w : World) (hL : laidMetH Tryd.prog Rows.rectExamplesRow.laid w) (hS : w.ShapedOpen Tryd.prog) :
    Calls Tryd.prog 17 #[] w fun e w' => e = .returned (.bool true) ∧ Below w.heap.size w w' := by
  have HP := Lib.hid (pow_of_laid hL (by kernel_rfl))
  obtain ⟨m, hm⟩ := Tryd.laysM145.s1_3 w hS
  have HM := Lib.hid hm
  clear hL hm hS
  have H1 := Lib.hid (Ok.start w)
  go_enter Tryd.func17, Tryd.ntmps17
  go_wp2_with fail
  refine (parse_c [65, 49] 1 1 1 1 0 m _ (by decide) (by decide +kernel) ((H1.out.bel.cell (World.block_lt_of_cell? _ _ HM.out)).trans HM.out)).mono ?_
  rintro e w2 ⟨rfl, hb3⟩
  have H4 := Lib.hid (H1.out.below hb3)
  clear hb3 H1
  go_wp2_with fail
  have H5 := Lib.hid (H4.out.alloc w2.heap.size 38 [.int .i64 1, .int .i64 1, .int .i64 1, .int .i64 1] rfl)
  clear H4
  generalize (w2.alloc (.cells #[.int .i64 1, .int .i64 1, .int .i64 1, .int .i64 1] 38)) = W6 at H5 ⊢
  refine (parse_c [98, 51, 58, 65, 49] 1 1 2 3 0 m _ (by decide) (by decide +kernel) ((H5.out.bel.cell (World.block_lt_of_cell? _ _ HM.out)).trans HM.out)).mono ?_
  rintro e w7 ⟨rfl, hb8⟩
  have H9 := Lib.hid (H5.out.below hb8)
  clear hb8 H5
  have F10 := H9.out.sees
  simp only [sees, kBlk, cellsAt, Nat.reduceAdd] at F10
  obtain ⟨⟨z0, c0_0, c0_1, c0_2, c0_3, -⟩, -⟩ := F10
  go_wp2_with fail
  clear z0 c0_0 c0_1 c0_2 c0_3
  have H11 := Lib.hid (H9.out.alloc w7.heap.size 38 [.int .i64 1, .int .i64 1, .int .i64 2, .int .i64 3] rfl)
  clear H9
  generalize (w7.alloc (.cells #[.int .i64 1, .int .i64 1, .int .i64 2, .int .i64 3] 38)) = W12 at H11 ⊢
  refine (format_c 1 1 2 3 [65, 49, 58, 66, 51] 0 _ (by decide +kernel) (HP.out.below H11.out.bel)).mono ?_
  rintro e w13 ⟨rfl, hb14⟩
  have H15 := Lib.hid (H11.out.below hb14)
  clear hb14 H11
  have F16 := H15.out.sees
  simp only [sees, kBlk, cellsAt, Nat.reduceAdd] at F16
  obtain ⟨⟨z0, c0_0, c0_1, c0_2, c0_3, -⟩, ⟨z1, c1_0, c1_1, c1_2, c1_3, -⟩, -⟩ := F16
  go_wp2_with fail
  refine (format_c 1 1 1 1 [65, 49] 0 _ (by decide +kernel) (HP.out.below H15.out.bel)).mono ?_
  rintro e w17 ⟨rfl, hb18⟩
  clear z0 c0_0 c0_1 c0_2 c0_3 z1 c1_0 c1_1 c1_2 c1_3
  have H19 := Lib.hid (H15.out.below hb18)
  clear hb18 H15
  have F20 := H19.out.sees
  simp only [sees, kBlk, cellsAt, Nat.reduceAdd] at F20
  obtain ⟨⟨z0, c0_0, c0_1, c0_2, c0_3, -⟩, ⟨z1, c1_0, c1_1, c1_2, c1_3, -⟩, -⟩ := F20
  go_wp2_with fail
  refine wp_region_held_drew (S := fun W => Ok w [kBlk (w7.heap.size) 38 [.int .i64 1, .int .i64 1, .int .i64 2, .int .i64 3], kBlk (w2.heap.size) 38 [.int .i64 1, .int .i64 1, .int .i64 1, .int .i64 1]] W) (by kernel_rfl) H19.out.drew (fun hHeld => ?_)
  refine wpAnyH_take (i := 0) (v := ?vx1_0) rfl (by kernel_rfl) (by kernel_rfl) (by kernel_rfl) (fun _ _ _ h => h) (Or.inl ⟨by rfl, ?hyx1_0⟩) (by assumption) ?restx1_0
  case hyx1_0 => (intro w hSw; have F := Ok.sees hSw; clear hSw; simp only [sees, kBlk, cellsAt, Nat.reduceAdd] at F; go_simp; try with_reducible rfl)
  try simp only [Act.put, List.setIfInBounds_toArray, List.set_cons_zero, List.set_cons_succ, List.getElem_toArray, List.getElem_cons_zero]
  refine wpAnyH_ready (rs := [1]) (by kernel_rfl) (by simp) ?_
  refine AllReadyH.cons rfl (fun K hK => ?_) AllReadyH.nil
  go_simp
  refine (rect_of _ _ _ _ _).mono ?_
  rintro e w22 ⟨rfl, hb23⟩
  go_wp2_with fail
  refine hK.out _ _ (hHeld.below hb23) (fun hHeld => ?_)
  clear hK K
  try simp only [Act.put, List.setIfInBounds_toArray, List.set_cons_zero, List.set_cons_succ, List.getElem_toArray, List.getElem_cons_succ, List.getElem_cons_zero]
  refine wpAnyH_take (i := 2) (v := ?vx2_2) rfl (by kernel_rfl) (by kernel_rfl) (by kernel_rfl) (fun _ _ _ h => h) (Or.inl ⟨by rfl, ?hyx2_2⟩) (by assumption) ?restx2_2
  case hyx2_2 => (intro w hSw; have F := Ok.sees hSw; clear hSw; simp only [sees, kBlk, cellsAt, Nat.reduceAdd] at F; go_simp; try with_reducible rfl)
  try simp only [Act.put, List.setIfInBounds_toArray, List.set_cons_zero, List.set_cons_succ, List.getElem_toArray, List.getElem_cons_succ, List.getElem_cons_zero]
  refine wpAnyH_take (i := 3) (v := ?vx3_3) rfl (by kernel_rfl) (by kernel_rfl) (by kernel_rfl) (fun _ _ _ h => h) (Or.inl ⟨by rfl, ?hyx3_3⟩) (by assumption) ?restx3_3
  case hyx3_3 => (intro w hSw; have F := Ok.sees hSw; clear hSw; simp only [sees, kBlk, cellsAt, Nat.reduceAdd] at F; go_simp; try with_reducible rfl)
  try simp only [Act.put, List.setIfInBounds_toArray, List.set_cons_zero, List.set_cons_succ, List.getElem_toArray, List.getElem_cons_succ, List.getElem_cons_zero]
  refine wpAnyH_take (i := 4) (v := ?vx4_4) rfl (by kernel_rfl) (by kernel_rfl) (by kernel_rfl) (fun _ _ _ h => h) (Or.inl ⟨by rfl, ?hyx4_4⟩) (by assumption) ?restx4_4
  case hyx4_4 => (intro w hSw; have F := Ok.sees hSw; clear hSw; simp only [sees, kBlk, cellsAt, Nat.reduceAdd] at F; go_simp; try with_reducible rfl)
  try simp only [Act.put, List.setIfInBounds_toArray, List.set_cons_zero, List.set_cons_succ, List.getElem_toArray, List.getElem_cons_succ, List.getElem_cons_zero]
  refine wpAnyH_ready (rs := [5]) (by kernel_rfl) (by simp) ?_
  refine AllReadyH.cons rfl (fun K hK => ?_) AllReadyH.nil
  go_simp
  refine (rect_of _ _ _ _ _).mono ?_
  rintro e w24 ⟨rfl, hb25⟩
  go_wp2_with fail
  refine hK.out _ _ (hHeld.below hb25) (fun hHeld => ?_)
  clear hK K
  try simp only [Act.put, List.setIfInBounds_toArray, List.set_cons_zero, List.set_cons_succ, List.getElem_toArray, List.getElem_cons_succ, List.getElem_cons_zero]
  refine wpAnyH_take (i := 6) (v := ?vx5_6) rfl (by kernel_rfl) (by kernel_rfl) (by kernel_rfl) (fun _ _ _ h => h) (Or.inl ⟨by rfl, ?hyx5_6⟩) (by assumption) ?restx5_6
  case hyx5_6 => (intro w hSw; have F := Ok.sees hSw; clear hSw; simp only [sees, kBlk, cellsAt, Nat.reduceAdd] at F; go_simp; try with_reducible rfl)
  try simp only [Act.put, List.setIfInBounds_toArray, List.set_cons_zero, List.set_cons_succ, List.getElem_toArray, List.getElem_cons_succ, List.getElem_cons_zero]
  refine wpAnyH_take (i := 7) (v := ?vx6_7) rfl (by kernel_rfl) (by kernel_rfl) (by kernel_rfl) (fun _ _ _ h => h) (Or.inl ⟨by rfl, ?hyx6_7⟩) (by assumption) ?restx6_7
  case hyx6_7 => (intro w hSw; have F := Ok.sees hSw; clear hSw; simp only [sees, kBlk, cellsAt, Nat.reduceAdd] at F; go_simp; try with_reducible rfl)
  try simp only [Act.put, List.setIfInBounds_toArray, List.set_cons_zero, List.set_cons_succ, List.getElem_toArray, List.getElem_cons_succ, List.getElem_cons_zero]
  refine wpAnyH_take (i := 8) (v := ?vx7_8) rfl (by kernel_rfl) (by kernel_rfl) (by kernel_rfl) (fun _ _ _ h => h) (Or.inl ⟨by rfl, ?hyx7_8⟩) (by assumption) ?restx7_8
  case hyx7_8 => (intro w hSw; have F := Ok.sees hSw; clear hSw; simp only [sees, kBlk, cellsAt, Nat.reduceAdd] at F; go_simp; try with_reducible rfl)
  try simp only [Act.put, List.setIfInBounds_toArray, List.set_cons_zero, List.set_cons_succ, List.getElem_toArray, List.getElem_cons_succ, List.getElem_cons_zero]
  refine wpAnyH_take (i := 9) (v := ?vx8_9) rfl (by kernel_rfl) (by kernel_rfl) (by kernel_rfl) (fun _ _ _ h => h) (Or.inl ⟨by rfl, ?hyx8_9⟩) (by assumption) ?restx8_9
  case hyx8_9 => (intro w hSw; have F := Ok.sees hSw; clear hSw; simp only [sees, kBlk, cellsAt, Nat.reduceAdd] at F; go_simp; try with_reducible rfl)
  try simp only [Act.put, List.setIfInBounds_toArray, List.set_cons_zero, List.set_cons_succ, List.getElem_toArray, List.getElem_cons_succ, List.getElem_cons_zero]
  refine wpAnyH_take (i := 10) (v := ?vx9_10) rfl (by kernel_rfl) (by kernel_rfl) (by kernel_rfl) (fun _ _ _ h => h) (Or.inl ⟨by rfl, ?hyx9_10⟩) (by assumption) ?restx9_10
  case hyx9_10 => (intro w hSw; have F := Ok.sees hSw; clear hSw; simp only [sees, kBlk, cellsAt, Nat.reduceAdd] at F; go_simp; try with_reducible rfl)
  try simp only [Act.put, List.setIfInBounds_toArray, List.set_cons_zero, List.set_cons_succ, List.getElem_toArray, List.getElem_cons_succ, List.getElem_cons_zero]
  refine wpAnyH_take (i := 11) (v := ?vx10_11) rfl (by kernel_rfl) (by kernel_rfl) (by kernel_rfl) (fun _ _ _ h => h) (Or.inl ⟨by rfl, ?hyx10_11⟩) (by assumption) ?restx10_11
  case hyx10_11 => (intro w hSw; have F := Ok.sees hSw; clear hSw; simp only [sees, kBlk, cellsAt, Nat.reduceAdd] at F; go_simp; try with_reducible rfl)
  try simp only [Act.put, List.setIfInBounds_toArray, List.set_cons_zero, List.set_cons_succ, List.getElem_toArray, List.getElem_cons_succ, List.getElem_cons_zero]
  refine wpAnyH_take (i := 12) (v := ?vx11_12) rfl (by kernel_rfl) (by kernel_rfl) (by kernel_rfl) (fun _ _ _ h => h) (Or.inl ⟨by rfl, ?hyx11_12⟩) (by assumption) ?restx11_12
  case hyx11_12 => (intro w hSw; have F := Ok.sees hSw; clear hSw; simp only [sees, kBlk, cellsAt, Nat.reduceAdd] at F; go_simp; try with_reducible rfl)
  try simp only [Act.put, List.setIfInBounds_toArray, List.set_cons_zero, List.set_cons_succ, List.getElem_toArray, List.getElem_cons_succ, List.getElem_cons_zero]
  refine wpAnyH_take (i := 13) (v := ?vx12_13) rfl (by kernel_rfl) (by kernel_rfl) (by kernel_rfl) (fun _ _ _ h => h) (Or.inl ⟨by rfl, ?hyx12_13⟩) (by assumption) ?restx12_13
  case hyx12_13 => (intro w hSw; have F := Ok.sees hSw; clear hSw; simp only [sees, kBlk, cellsAt, Nat.reduceAdd] at F; go_simp; try with_reducible rfl)
  try simp only [Act.put, List.setIfInBounds_toArray, List.set_cons_zero, List.set_cons_succ, List.getElem_toArray, List.getElem_cons_succ, List.getElem_cons_zero]
  refine wpAnyH_take (i := 14) (v := ?vx13_14) rfl (by kernel_rfl) (by kernel_rfl) (by kernel_rfl) (fun _ _ _ h => h) (Or.inl ⟨by rfl, ?hyx13_14⟩) (by assumption) ?restx13_14
  case hyx13_14 => (intro w hSw; have F := Ok.sees hSw; clear hSw; simp only [sees, kBlk, cellsAt, Nat.reduceAdd] at F; go_simp; try with_reducible rfl)
  try simp only [Act.put, List.setIfInBounds_toArray, List.set_cons_zero, List.set_cons_succ, List.getElem_toArray, List.getElem_cons_succ, List.getElem_cons_zero]
  refine wpAnyH_take (i := 15) (v := ?vx14_15) rfl (by kernel_rfl) (by kernel_rfl) (by kernel_rfl) (fun _ _ _ h => h) (Or.inl ⟨by rfl, ?hyx14_15⟩) (by assumption) ?restx14_15
  case hyx14_15 => (intro w hSw; have F := Ok.sees hSw; clear hSw; simp only [sees, kBlk, cellsAt, Nat.reduceAdd] at F; go_simp; try with_reducible rfl)
  try simp only [Act.put, List.setIfInBounds_toArray, List.set_cons_zero, List.set_cons_succ, List.getElem_toArray, List.getElem_cons_succ, List.getElem_cons_zero]
  refine wpAnyH_take (i := 16) (v := ?vx15_16) rfl (by kernel_rfl) (by kernel_rfl) (by kernel_rfl) (fun _ _ _ h => h) (Or.inl ⟨by rfl, ?hyx15_16⟩) (by assumption) ?restx15_16
  case hyx15_16 => (intro w hSw; have F := Ok.sees hSw; clear hSw; simp only [sees, kBlk, cellsAt, Nat.reduceAdd] at F; go_simp; try with_reducible rfl)
  try simp only [Act.put, List.setIfInBounds_toArray, List.set_cons_zero, List.set_cons_succ, List.getElem_toArray, List.getElem_cons_succ, List.getElem_cons_zero]
  refine wpAnyH_take (i := 17) (v := ?vx16_17) rfl (by kernel_rfl) (by kernel_rfl) (by kernel_rfl) (fun _ _ _ h => h) (Or.inl ⟨by rfl, ?hyx16_17⟩) (by assumption) ?restx16_17
  case hyx16_17 => (intro w hSw; have F := Ok.sees hSw; clear hSw; simp only [sees, kBlk, cellsAt, Nat.reduceAdd] at F; go_simp; try with_reducible rfl)
  try simp only [Act.put, List.setIfInBounds_toArray, List.set_cons_zero, List.set_cons_succ, List.getElem_toArray, List.getElem_cons_succ, List.getElem_cons_zero]
  refine wpAnyH_take (i := 18) (v := ?vx17_18) rfl (by kernel_rfl) (by kernel_rfl) (by kernel_rfl) (fun _ _ _ h => h) (Or.inl ⟨by rfl, ?hyx17_18⟩) (by assumption) ?restx17_18
  case hyx17_18 => (intro w hSw; have F := Ok.sees hSw; clear hSw; simp only [sees, kBlk, cellsAt, Nat.reduceAdd] at F; go_simp; try with_reducible rfl)
  try simp only [Act.put, List.setIfInBounds_toArray, List.set_cons_zero, List.set_cons_succ, List.getElem_toArray, List.getElem_cons_succ, List.getElem_cons_zero]
  refine wpAnyH_take (i := 19) (v := ?vx18_19) rfl (by kernel_rfl) (by kernel_rfl) (by kernel_rfl) (fun _ _ _ h => h) (Or.inl ⟨by rfl, ?hyx18_19⟩) (by assumption) ?restx18_19
  case hyx18_19 => (intro w hSw; have F := Ok.sees hSw; clear hSw; simp only [sees, kBlk, cellsAt, Nat.reduceAdd] at F; go_simp; try with_reducible rfl)
  try simp only [Act.put, List.setIfInBounds_toArray, List.set_cons_zero, List.set_cons_succ, List.getElem_toArray, List.getElem_cons_succ, List.getElem_cons_zero]
  refine wpAnyH_take (i := 20) (v := ?vx19_20) rfl (by kernel_rfl) (by kernel_rfl) (by kernel_rfl) (fun _ _ _ h => h) (Or.inl ⟨by rfl, ?hyx19_20⟩) (by assumption) ?restx19_20
  case hyx19_20 => (intro w hSw; have F := Ok.sees hSw; clear hSw; simp only [sees, kBlk, cellsAt, Nat.reduceAdd] at F; go_simp; try with_reducible rfl)
  try simp only [Act.put, List.setIfInBounds_toArray, List.set_cons_zero, List.set_cons_succ, List.getElem_toArray, List.getElem_cons_succ, List.getElem_cons_zero]
  refine wpAnyH_take (i := 21) (v := ?vx20_21) rfl (by kernel_rfl) (by kernel_rfl) (by kernel_rfl) (fun _ _ _ h => h) (Or.inl ⟨by rfl, ?hyx20_21⟩) (by assumption) ?restx20_21
  case hyx20_21 => (intro w hSw; have F := Ok.sees hSw; clear hSw; simp only [sees, kBlk, cellsAt, Nat.reduceAdd] at F; go_simp; try with_reducible rfl)
  try simp only [Act.put, List.setIfInBounds_toArray, List.set_cons_zero, List.set_cons_succ, List.getElem_toArray, List.getElem_cons_succ, List.getElem_cons_zero]
  refine wpAnyH_take (i := 22) (v := ?vx21_22) rfl (by kernel_rfl) (by kernel_rfl) (by kernel_rfl) (fun _ _ _ h => h) (Or.inl ⟨by rfl, ?hyx21_22⟩) (by assumption) ?restx21_22
  case hyx21_22 => (intro w hSw; have F := Ok.sees hSw; clear hSw; simp only [sees, kBlk, cellsAt, Nat.reduceAdd] at F; go_simp; try with_reducible rfl)
  try simp only [Act.put, List.setIfInBounds_toArray, List.set_cons_zero, List.set_cons_succ, List.getElem_toArray, List.getElem_cons_succ, List.getElem_cons_zero]
  refine wpAnyH_take (i := 23) (v := ?vx22_23) rfl (by kernel_rfl) (by kernel_rfl) (by kernel_rfl) (fun _ _ _ h => h) (Or.inl ⟨by rfl, ?hyx22_23⟩) (by assumption) ?restx22_23
  case hyx22_23 => (intro w hSw; have F := Ok.sees hSw; clear hSw; simp only [sees, kBlk, cellsAt, Nat.reduceAdd] at F; go_simp; try with_reducible rfl)
  try simp only [Act.put, List.setIfInBounds_toArray, List.set_cons_zero, List.set_cons_succ, List.getElem_toArray, List.getElem_cons_succ, List.getElem_cons_zero]
  refine wpAnyH_take (i := 24) (v := ?vx23_24) rfl (by kernel_rfl) (by kernel_rfl) (by kernel_rfl) (fun _ _ _ h => h) (Or.inl ⟨by rfl, ?hyx23_24⟩) (by assumption) ?restx23_24
  case hyx23_24 => (intro w hSw; have F := Ok.sees hSw; clear hSw; simp only [sees, kBlk, cellsAt, Nat.reduceAdd] at F; go_simp; try with_reducible rfl)
  try simp only [Act.put, List.setIfInBounds_toArray, List.set_cons_zero, List.set_cons_succ, List.getElem_toArray, List.getElem_cons_succ, List.getElem_cons_zero]
  refine wpAnyH_take (i := 25) (v := ?vx24_25) rfl (by kernel_rfl) (by kernel_rfl) (by kernel_rfl) (fun _ _ _ h => h) (Or.inl ⟨by rfl, ?hyx24_25⟩) (by assumption) ?restx24_25
  case hyx24_25 => (intro w hSw; have F := Ok.sees hSw; clear hSw; simp only [sees, kBlk, cellsAt, Nat.reduceAdd] at F; go_simp; try with_reducible rfl)
  try simp only [Act.put, List.setIfInBounds_toArray, List.set_cons_zero, List.set_cons_succ, List.getElem_toArray, List.getElem_cons_succ, List.getElem_cons_zero]
  refine wpAnyH_take (i := 26) (v := ?vx25_26) rfl (by kernel_rfl) (by kernel_rfl) (by kernel_rfl) (fun _ _ _ h => h) (Or.inl ⟨by rfl, ?hyx25_26⟩) (by assumption) ?restx25_26
  case hyx25_26 => (intro w hSw; have F := Ok.sees hSw; clear hSw; simp only [sees, kBlk, cellsAt, Nat.reduceAdd] at F; go_simp; try with_reducible rfl)
  try simp only [Act.put, List.setIfInBounds_toArray, List.set_cons_zero, List.set_cons_succ, List.getElem_toArray, List.getElem_cons_succ, List.getElem_cons_zero]
  refine wpAnyH_take (i := 27) (v := ?vx26_27) rfl (by kernel_rfl) (by kernel_rfl) (by kernel_rfl) (fun _ _ _ h => h) (Or.inl ⟨by rfl, ?hyx26_27⟩) (by assumption) ?restx26_27
  case hyx26_27 => (intro w hSw; have F := Ok.sees hSw; clear hSw; simp only [sees, kBlk, cellsAt, Nat.reduceAdd] at F; go_simp; try with_reducible rfl)
  try simp only [Act.put, List.setIfInBounds_toArray, List.set_cons_zero, List.set_cons_succ, List.getElem_toArray, List.getElem_cons_succ, List.getElem_cons_zero]
  refine wpAnyH_take (i := 28) (v := ?vx27_28) rfl (by kernel_rfl) (by kernel_rfl) (by kernel_rfl) (fun _ _ _ h => h) (Or.inl ⟨by rfl, ?hyx27_28⟩) (by assumption) ?restx27_28
  case hyx27_28 => (intro w hSw; have F := Ok.sees hSw; clear hSw; simp only [sees, kBlk, cellsAt, Nat.reduceAdd] at F; go_simp; try with_reducible rfl)
  try simp only [Act.put, List.setIfInBounds_toArray, List.set_cons_zero, List.set_cons_succ, List.getElem_toArray, List.getElem_cons_succ, List.getElem_cons_zero]
  refine wpAnyH_take (i := 29) (v := ?vx28_29) rfl (by kernel_rfl) (by kernel_rfl) (by kernel_rfl) (fun _ _ _ h => h) (Or.inl ⟨by rfl, ?hyx28_29⟩) (by assumption) ?restx28_29
  case hyx28_29 => (intro w hSw; have F := Ok.sees hSw; clear hSw; simp only [sees, kBlk, cellsAt, Nat.reduceAdd] at F; go_simp; try with_reducible rfl)
  try simp only [Act.put, List.setIfInBounds_toArray, List.set_cons_zero, List.set_cons_succ, List.getElem_toArray, List.getElem_cons_succ, List.getElem_cons_zero]
  refine wpAnyH_take (i := 30) (v := ?vx29_30) rfl (by kernel_rfl) (by kernel_rfl) (by kernel_rfl) (fun _ _ _ h => h) (Or.inl ⟨by rfl, ?hyx29_30⟩) (by assumption) ?restx29_30
  case hyx29_30 => (intro w hSw; have F := Ok.sees hSw; clear hSw; simp only [sees, kBlk, cellsAt, Nat.reduceAdd] at F; go_simp; try with_reducible rfl)
  try simp only [Act.put, List.setIfInBounds_toArray, List.set_cons_zero, List.set_cons_succ, List.getElem_toArray, List.getElem_cons_succ, List.getElem_cons_zero]
  refine wpAnyH_take (i := 31) (v := ?vx30_31) rfl (by kernel_rfl) (by kernel_rfl) (by kernel_rfl) (fun _ _ _ h => h) (Or.inl ⟨by rfl, ?hyx30_31⟩) (by assumption) ?restx30_31
  case hyx30_31 => (intro w hSw; have F := Ok.sees hSw; clear hSw; simp only [sees, kBlk, cellsAt, Nat.reduceAdd] at F; go_simp; try with_reducible rfl)
  try simp only [Act.put, List.setIfInBounds_toArray, List.set_cons_zero, List.set_cons_succ, List.getElem_toArray, List.getElem_cons_succ, List.getElem_cons_zero]
  refine wpAnyH_done (by kernel_rfl) ?_ _
  clear z0 c0_0 c0_1 c0_2 c0_3 z1 c1_0 c1_1 c1_2 c1_3
  clear H19
  have H26 := Lib.hid hHeld
  clear hHeld
  go_wp2_with fail
  have H27 := Lib.hid (H26.out.drop [] (by simp))
  clear H26
  have H28 := Lib.hid (H27.out.alloc w24.heap.size 9 [.string ⟨#[65, 49, 58]⟩, .string ⟨#[65, 49, 58, 66, 50, 58, 67, 51]⟩, .string ⟨#[65, 49, 58, 57]⟩, .string ⟨#[65, 57, 57, 57, 57, 58, 120]⟩, .string ⟨#[58, 65, 49]⟩, .string ⟨#[]⟩] rfl)
  clear H27
  generalize (w24.alloc (.cells #[.string ⟨#[65, 49, 58]⟩, .string ⟨#[65, 49, 58, 66, 50, 58, 67, 51]⟩, .string ⟨#[65, 49, 58, 57]⟩, .string ⟨#[65, 57, 57, 57, 57, 58, 120]⟩, .string ⟨#[58, 65, 49]⟩, .string ⟨#[]⟩] 9)) = W29 at H28 ⊢
  go_loopw [81] (fun iv wr => ∃ k : Nat, k ≤ 6 ∧ iv = .int .i64 k ∧ Hid (Ok w [kBlk (w24.heap.size) 9 [.string ⟨#[65, 49, 58]⟩, .string ⟨#[65, 49, 58, 66, 50, 58, 67, 51]⟩, .string ⟨#[65, 49, 58, 57]⟩, .string ⟨#[65, 57, 57, 57, 57, 58, 120]⟩, .string ⟨#[58, 65, 49]⟩, .string ⟨#[]⟩]] wr)) (fun iv _ => 6 - (intOf iv).toNat)
  case atStart => exact ⟨0, by omega, rfl, H28⟩
  case round =>
    obtain ⟨k, hk, rfl, H⟩ := hrel
    rcases (show k = 0 ∨ k = 1 ∨ k = 2 ∨ k = 3 ∨ k = 4 ∨ k = 5 ∨ k = 6 from by omega) with rfl | rfl | rfl | rfl | rfl | rfl | rfl
    · have F30 := H.out.sees
      simp only [sees, kBlk, cellsAt, Nat.reduceAdd] at F30
      obtain ⟨⟨z0, c0_0, c0_1, c0_2, c0_3, c0_4, c0_5, -⟩, -⟩ := F30
      go_wp2_with fail
      refine (parse_c [65, 49, 58] 0 0 0 0 4 m _ (by decide) (by decide +kernel) ((H.out.bel.cell (World.block_lt_of_cell? _ _ HM.out)).trans HM.out)).mono ?_
      rintro e w31 ⟨rfl, hb32⟩
      clear z0 c0_0 c0_1 c0_2 c0_3 c0_4 c0_5
      have H33 := Lib.hid (H.out.below hb32)
      clear hb32 H
      go_wp2_with fail
      go_roundw
      case rel => exact ⟨1, by omega, rfl, H33.out.alloc_obj _⟩
      case measure => simp [intOf]
    · have F30 := H.out.sees
      simp only [sees, kBlk, cellsAt, Nat.reduceAdd] at F30
      obtain ⟨⟨z0, c0_0, c0_1, c0_2, c0_3, c0_4, c0_5, -⟩, -⟩ := F30
      go_wp2_with fail
      refine (parse_c [65, 49, 58, 66, 50, 58, 67, 51] 0 0 0 0 4 m _ (by decide) (by decide +kernel) ((H.out.bel.cell (World.block_lt_of_cell? _ _ HM.out)).trans HM.out)).mono ?_
      rintro e w31 ⟨rfl, hb32⟩
      clear z0 c0_0 c0_1 c0_2 c0_3 c0_4 c0_5
      have H33 := Lib.hid (H.out.below hb32)
      clear hb32 H
      go_wp2_with fail
      go_roundw
      case rel => exact ⟨2, by omega, rfl, H33.out.alloc_obj _⟩
      case measure => simp [intOf]
    · have F30 := H.out.sees
      simp only [sees, kBlk, cellsAt, Nat.reduceAdd] at F30
      obtain ⟨⟨z0, c0_0, c0_1, c0_2, c0_3, c0_4, c0_5, -⟩, -⟩ := F30
      go_wp2_with fail
      refine (parse_c [65, 49, 58, 57] 0 0 0 0 4 m _ (by decide) (by decide +kernel) ((H.out.bel.cell (World.block_lt_of_cell? _ _ HM.out)).trans HM.out)).mono ?_
      rintro e w31 ⟨rfl, hb32⟩
      clear z0 c0_0 c0_1 c0_2 c0_3 c0_4 c0_5
      have H33 := Lib.hid (H.out.below hb32)
      clear hb32 H
      go_wp2_with fail
      go_roundw
      case rel => exact ⟨3, by omega, rfl, H33.out.alloc_obj _⟩
      case measure => simp [intOf]
    · have F30 := H.out.sees
      simp only [sees, kBlk, cellsAt, Nat.reduceAdd] at F30
      obtain ⟨⟨z0, c0_0, c0_1, c0_2, c0_3, c0_4, c0_5, -⟩, -⟩ := F30
      go_wp2_with fail
      refine (parse_c [65, 57, 57, 57, 57, 58, 120] 0 0 0 0 4 m _ (by decide) (by decide +kernel) ((H.out.bel.cell (World.block_lt_of_cell? _ _ HM.out)).trans HM.out)).mono ?_
      rintro e w31 ⟨rfl, hb32⟩
      clear z0 c0_0 c0_1 c0_2 c0_3 c0_4 c0_5
      have H33 := Lib.hid (H.out.below hb32)
      clear hb32 H
      go_wp2_with fail
      go_roundw
      case rel => exact ⟨4, by omega, rfl, H33.out.alloc_obj _⟩
      case measure => simp [intOf]
    · have F30 := H.out.sees
      simp only [sees, kBlk, cellsAt, Nat.reduceAdd] at F30
      obtain ⟨⟨z0, c0_0, c0_1, c0_2, c0_3, c0_4, c0_5, -⟩, -⟩ := F30
      go_wp2_with fail
      refine (parse_c [58, 65, 49] 0 0 0 0 4 m _ (by decide) (by decide +kernel) ((H.out.bel.cell (World.block_lt_of_cell? _ _ HM.out)).trans HM.out)).mono ?_
      rintro e w31 ⟨rfl, hb32⟩
      clear z0 c0_0 c0_1 c0_2 c0_3 c0_4 c0_5
      have H33 := Lib.hid (H.out.below hb32)
      clear hb32 H
      go_wp2_with fail
      go_roundw
      case rel => exact ⟨5, by omega, rfl, H33.out.alloc_obj _⟩
      case measure => simp [intOf]
    · have F30 := H.out.sees
      simp only [sees, kBlk, cellsAt, Nat.reduceAdd] at F30
      obtain ⟨⟨z0, c0_0, c0_1, c0_2, c0_3, c0_4, c0_5, -⟩, -⟩ := F30
      go_wp2_with fail
      refine (parse_c [] 0 0 0 0 4 m _ (by decide) (by decide +kernel) ((H.out.bel.cell (World.block_lt_of_cell? _ _ HM.out)).trans HM.out)).mono ?_
      rintro e w31 ⟨rfl, hb32⟩
      clear z0 c0_0 c0_1 c0_2 c0_3 c0_4 c0_5
      have H33 := Lib.hid (H.out.below hb32)
      clear hb32 H
      go_wp2_with fail
      go_roundw
      case rel => exact ⟨6, by omega, rfl, H33.out.alloc_obj _⟩
      case measure => simp [intOf]
    · have F30 := H.out.sees
      simp only [sees, kBlk, cellsAt, Nat.reduceAdd] at F30
      obtain ⟨⟨z0, c0_0, c0_1, c0_2, c0_3, c0_4, c0_5, -⟩, -⟩ := F30
      go_wp2_with fail
      have H31 := Lib.hid (H.out.drop [] (by simp))
      clear z0 c0_0 c0_1 c0_2 c0_3 c0_4 c0_5
      clear H
      refine (parse_c [65, 49, 58, 65, 57, 57, 57, 57] 0 0 0 0 3 m _ (by decide) (by decide +kernel) ((H31.out.bel.cell (World.block_lt_of_cell? _ _ HM.out)).trans HM.out)).mono ?_
      rintro e w32 ⟨rfl, hb33⟩
      have H34 := Lib.hid (H31.out.below hb33)
      clear hb33 H31
      go_wp2_with fail
      have H35 := Lib.hid (H34.out.alloc w32.heap.size 38 [.int .i64 0, .int .i64 0, .int .i64 0, .int .i64 0] rfl)
      clear H34
      generalize (w32.alloc (.cells #[.int .i64 0, .int .i64 0, .int .i64 0, .int .i64 0] 38)) = W36 at H35 ⊢
      have H37 := Lib.hid (H35.out.drop [] (by simp))
      clear H35
      refine (rect_of _ _ _ _ _).mono ?_
      rintro e w38 ⟨rfl, hb39⟩
      have H40 := Lib.hid (H37.out.below hb39)
      clear hb39 H37
      go_wp2_with fail
      refine (rect_of _ _ _ _ _).mono ?_
      rintro e w41 ⟨rfl, hb42⟩
      have H43 := Lib.hid (H40.out.below hb42)
      clear hb42 H40
      go_wp2_with fail
      refine (meet_c 1 1 3 3 2 2 4 4 2 2 3 3 true _ (by decide +kernel) (by decide +kernel)).mono ?_
      rintro e w44 ⟨rfl, hb45⟩
      have H46 := Lib.hid (H43.out.below hb45)
      clear hb45 H43
      go_wp2_with fail
      have H47 := Lib.hid (H46.out.alloc w44.heap.size 38 [.int .i64 2, .int .i64 2, .int .i64 3, .int .i64 3] rfl)
      clear H46
      generalize (w44.alloc (.cells #[.int .i64 2, .int .i64 2, .int .i64 3, .int .i64 3] 38)) = W48 at H47 ⊢
      refine (rect_of _ _ _ _ _).mono ?_
      rintro e w49 ⟨rfl, hb50⟩
      have H51 := Lib.hid (H47.out.below hb50)
      clear hb50 H47
      go_wp2_with fail
      refine (rect_of _ _ _ _ _).mono ?_
      rintro e w52 ⟨rfl, hb53⟩
      have H54 := Lib.hid (H51.out.below hb53)
      clear hb53 H51
      go_wp2_with fail
      refine (meet_c 1 1 1 1 2 1 2 1 0 0 0 0 false _ (by decide +kernel) (by decide +kernel)).mono ?_
      rintro e w55 ⟨rfl, hb56⟩
      have H57 := Lib.hid (H54.out.below hb56)
      clear hb56 H54
      have F58 := H57.out.sees
      simp only [sees, kBlk, cellsAt, Nat.reduceAdd] at F58
      obtain ⟨⟨z0, c0_0, c0_1, c0_2, c0_3, -⟩, -⟩ := F58
      go_wp2_with fail
      clear z0 c0_0 c0_1 c0_2 c0_3
      have H59 := Lib.hid (H57.out.alloc w55.heap.size 38 [.int .i64 0, .int .i64 0, .int .i64 0, .int .i64 0] rfl)
      clear H57
      generalize (w55.alloc (.cells #[.int .i64 0, .int .i64 0, .int .i64 0, .int .i64 0] 38)) = W60 at H59 ⊢
      refine wp_region_held_drew (S := fun W => Ok w [kBlk (w55.heap.size) 38 [.int .i64 0, .int .i64 0, .int .i64 0, .int .i64 0], kBlk (w44.heap.size) 38 [.int .i64 2, .int .i64 2, .int .i64 3, .int .i64 3]] W) (by kernel_rfl) H59.out.drew (fun hHeld => ?_)
      refine wpAnyH_take (i := 0) (v := ?vx31_0) rfl (by kernel_rfl) (by kernel_rfl) (by kernel_rfl) (fun _ _ _ h => h) (Or.inl ⟨by rfl, ?hyx31_0⟩) (by assumption) ?restx31_0
      case hyx31_0 => (intro w hSw; have F := Ok.sees hSw; clear hSw; simp only [sees, kBlk, cellsAt, Nat.reduceAdd] at F; go_simp; try with_reducible rfl)
      try simp only [Act.put, List.setIfInBounds_toArray, List.set_cons_zero, List.set_cons_succ, List.getElem_toArray, List.getElem_cons_zero]
      refine wpAnyH_ready (rs := [1]) (by kernel_rfl) (by simp) ?_
      refine AllReadyH.cons rfl (fun K hK => ?_) AllReadyH.nil
      go_simp
      refine (rect_of _ _ _ _ _).mono ?_
      rintro e w62 ⟨rfl, hb63⟩
      go_wp2_with fail
      refine hK.out _ _ (hHeld.below hb63) (fun hHeld => ?_)
      clear hK K
      try simp only [Act.put, List.setIfInBounds_toArray, List.set_cons_zero, List.set_cons_succ, List.getElem_toArray, List.getElem_cons_succ, List.getElem_cons_zero]
      refine wpAnyH_take (i := 2) (v := ?vx32_2) rfl (by kernel_rfl) (by kernel_rfl) (by kernel_rfl) (fun _ _ _ h => h) (Or.inl ⟨by rfl, ?hyx32_2⟩) (by assumption) ?restx32_2
      case hyx32_2 => (intro w hSw; have F := Ok.sees hSw; clear hSw; simp only [sees, kBlk, cellsAt, Nat.reduceAdd] at F; go_simp; try with_reducible rfl)
      try simp only [Act.put, List.setIfInBounds_toArray, List.set_cons_zero, List.set_cons_succ, List.getElem_toArray, List.getElem_cons_succ, List.getElem_cons_zero]
      refine wpAnyH_take (i := 3) (v := ?vx33_3) rfl (by kernel_rfl) (by kernel_rfl) (by kernel_rfl) (fun _ _ _ h => h) (Or.inl ⟨by rfl, ?hyx33_3⟩) (by assumption) ?restx33_3
      case hyx33_3 => (intro w hSw; have F := Ok.sees hSw; clear hSw; simp only [sees, kBlk, cellsAt, Nat.reduceAdd] at F; go_simp; try with_reducible rfl)
      try simp only [Act.put, List.setIfInBounds_toArray, List.set_cons_zero, List.set_cons_succ, List.getElem_toArray, List.getElem_cons_succ, List.getElem_cons_zero]
      refine wpAnyH_take (i := 4) (v := ?vx34_4) rfl (by kernel_rfl) (by kernel_rfl) (by kernel_rfl) (fun _ _ _ h => h) (Or.inl ⟨by rfl, ?hyx34_4⟩) (by assumption) ?restx34_4
      case hyx34_4 => (intro w hSw; have F := Ok.sees hSw; clear hSw; simp only [sees, kBlk, cellsAt, Nat.reduceAdd] at F; go_simp; try with_reducible rfl)
      try simp only [Act.put, List.setIfInBounds_toArray, List.set_cons_zero, List.set_cons_succ, List.getElem_toArray, List.getElem_cons_succ, List.getElem_cons_zero]
      refine wpAnyH_take (i := 5) (v := ?vx35_5) rfl (by kernel_rfl) (by kernel_rfl) (by kernel_rfl) (fun _ _ _ h => h) (Or.inl ⟨by rfl, ?hyx35_5⟩) (by assumption) ?restx35_5
      case hyx35_5 => (intro w hSw; have F := Ok.sees hSw; clear hSw; simp only [sees, kBlk, cellsAt, Nat.reduceAdd] at F; go_simp; try with_reducible rfl)
      try simp only [Act.put, List.setIfInBounds_toArray, List.set_cons_zero, List.set_cons_succ, List.getElem_toArray, List.getElem_cons_succ, List.getElem_cons_zero]
      refine wpAnyH_take (i := 6) (v := ?vx36_6) rfl (by kernel_rfl) (by kernel_rfl) (by kernel_rfl) (fun _ _ _ h => h) (Or.inl ⟨by rfl, ?hyx36_6⟩) (by assumption) ?restx36_6
      case hyx36_6 => (intro w hSw; have F := Ok.sees hSw; clear hSw; simp only [sees, kBlk, cellsAt, Nat.reduceAdd] at F; go_simp; try with_reducible rfl)
      try simp only [Act.put, List.setIfInBounds_toArray, List.set_cons_zero, List.set_cons_succ, List.getElem_toArray, List.getElem_cons_succ, List.getElem_cons_zero]
      refine wpAnyH_take (i := 7) (v := ?vx37_7) rfl (by kernel_rfl) (by kernel_rfl) (by kernel_rfl) (fun _ _ _ h => h) (Or.inl ⟨by rfl, ?hyx37_7⟩) (by assumption) ?restx37_7
      case hyx37_7 => (intro w hSw; have F := Ok.sees hSw; clear hSw; simp only [sees, kBlk, cellsAt, Nat.reduceAdd] at F; go_simp; try with_reducible rfl)
      try simp only [Act.put, List.setIfInBounds_toArray, List.set_cons_zero, List.set_cons_succ, List.getElem_toArray, List.getElem_cons_succ, List.getElem_cons_zero]
      refine wpAnyH_take (i := 8) (v := ?vx38_8) rfl (by kernel_rfl) (by kernel_rfl) (by kernel_rfl) (fun _ _ _ h => h) (Or.inl ⟨by rfl, ?hyx38_8⟩) (by assumption) ?restx38_8
      case hyx38_8 => (intro w hSw; have F := Ok.sees hSw; clear hSw; simp only [sees, kBlk, cellsAt, Nat.reduceAdd] at F; go_simp; try with_reducible rfl)
      try simp only [Act.put, List.setIfInBounds_toArray, List.set_cons_zero, List.set_cons_succ, List.getElem_toArray, List.getElem_cons_succ, List.getElem_cons_zero]
      refine wpAnyH_take (i := 9) (v := ?vx39_9) rfl (by kernel_rfl) (by kernel_rfl) (by kernel_rfl) (fun _ _ _ h => h) (Or.inl ⟨by rfl, ?hyx39_9⟩) (by assumption) ?restx39_9
      case hyx39_9 => (intro w hSw; have F := Ok.sees hSw; clear hSw; simp only [sees, kBlk, cellsAt, Nat.reduceAdd] at F; go_simp; try with_reducible rfl)
      try simp only [Act.put, List.setIfInBounds_toArray, List.set_cons_zero, List.set_cons_succ, List.getElem_toArray, List.getElem_cons_succ, List.getElem_cons_zero]
      refine wpAnyH_take (i := 10) (v := ?vx40_10) rfl (by kernel_rfl) (by kernel_rfl) (by kernel_rfl) (fun _ _ _ h => h) (Or.inl ⟨by rfl, ?hyx40_10⟩) (by assumption) ?restx40_10
      case hyx40_10 => (intro w hSw; have F := Ok.sees hSw; clear hSw; simp only [sees, kBlk, cellsAt, Nat.reduceAdd] at F; go_simp; try with_reducible rfl)
      try simp only [Act.put, List.setIfInBounds_toArray, List.set_cons_zero, List.set_cons_succ, List.getElem_toArray, List.getElem_cons_succ, List.getElem_cons_zero]
      refine wpAnyH_ready (rs := [11]) (by kernel_rfl) (by simp) ?_
      refine AllReadyH.cons rfl (fun K hK => ?_) AllReadyH.nil
      go_simp
      refine (rect_of _ _ _ _ _).mono ?_
      rintro e w64 ⟨rfl, hb65⟩
      go_wp2_with fail
      refine hK.out _ _ (hHeld.below hb65) (fun hHeld => ?_)
      clear hK K
      try simp only [Act.put, List.setIfInBounds_toArray, List.set_cons_zero, List.set_cons_succ, List.getElem_toArray, List.getElem_cons_succ, List.getElem_cons_zero]
      refine wpAnyH_ready (rs := [12]) (by kernel_rfl) (by simp) ?_
      refine AllReadyH.cons rfl (fun K hK => ?_) AllReadyH.nil
      go_simp
      refine (rect_of _ _ _ _ _).mono ?_
      rintro e w66 ⟨rfl, hb67⟩
      go_wp2_with fail
      refine hK.out _ _ (hHeld.below hb67) (fun hHeld => ?_)
      clear hK K
      try simp only [Act.put, List.setIfInBounds_toArray, List.set_cons_zero, List.set_cons_succ, List.getElem_toArray, List.getElem_cons_succ, List.getElem_cons_zero]
      refine wpAnyH_ready (rs := [13]) (by kernel_rfl) (by simp) ?_
      refine AllReadyH.cons rfl (fun K hK => ?_) AllReadyH.nil
      go_simp
      refine (inside_c 2 2 2 2 1 1 3 3 true _ (by decide +kernel)).mono ?_
      rintro e w68 ⟨rfl, hb69⟩
      go_wp2_with fail
      refine hK.out _ _ (hHeld.below hb69) (fun hHeld => ?_)
      clear hK K
      try simp only [Act.put, List.setIfInBounds_toArray, List.set_cons_zero, List.set_cons_succ, List.getElem_toArray, List.getElem_cons_succ, List.getElem_cons_zero]
      refine wpAnyH_take (i := 14) (v := ?vx41_14) rfl (by kernel_rfl) (by kernel_rfl) (by kernel_rfl) (fun _ _ _ h => h) (Or.inl ⟨by rfl, ?hyx41_14⟩) (by assumption) ?restx41_14
      case hyx41_14 => (intro w hSw; have F := Ok.sees hSw; clear hSw; simp only [sees, kBlk, cellsAt, Nat.reduceAdd] at F; go_simp; try with_reducible rfl)
      try simp only [Act.put, List.setIfInBounds_toArray, List.set_cons_zero, List.set_cons_succ, List.getElem_toArray, List.getElem_cons_succ, List.getElem_cons_zero]
      refine wpAnyH_take (i := 15) (v := ?vx42_15) rfl (by kernel_rfl) (by kernel_rfl) (by kernel_rfl) (fun _ _ _ h => h) (Or.inl ⟨by rfl, ?hyx42_15⟩) (by assumption) ?restx42_15
      case hyx42_15 => (intro w hSw; have F := Ok.sees hSw; clear hSw; simp only [sees, kBlk, cellsAt, Nat.reduceAdd] at F; go_simp; try with_reducible rfl)
      try simp only [Act.put, List.setIfInBounds_toArray, List.set_cons_zero, List.set_cons_succ, List.getElem_toArray, List.getElem_cons_succ, List.getElem_cons_zero]
      refine wpAnyH_take (i := 16) (v := ?vx43_16) rfl (by kernel_rfl) (by kernel_rfl) (by kernel_rfl) (fun _ _ _ h => h) (Or.inl ⟨by rfl, ?hyx43_16⟩) (by assumption) ?restx43_16
      case hyx43_16 => (intro w hSw; have F := Ok.sees hSw; clear hSw; simp only [sees, kBlk, cellsAt, Nat.reduceAdd] at F; go_simp; try with_reducible rfl)
      try simp only [Act.put, List.setIfInBounds_toArray, List.set_cons_zero, List.set_cons_succ, List.getElem_toArray, List.getElem_cons_succ, List.getElem_cons_zero]
      refine wpAnyH_ready (rs := [17]) (by kernel_rfl) (by simp) ?_
      refine AllReadyH.cons rfl (fun K hK => ?_) AllReadyH.nil
      go_simp
      refine (rect_of _ _ _ _ _).mono ?_
      rintro e w70 ⟨rfl, hb71⟩
      go_wp2_with fail
      refine hK.out _ _ (hHeld.below hb71) (fun hHeld => ?_)
      clear hK K
      try simp only [Act.put, List.setIfInBounds_toArray, List.set_cons_zero, List.set_cons_succ, List.getElem_toArray, List.getElem_cons_succ, List.getElem_cons_zero]
      refine wpAnyH_ready (rs := [18]) (by kernel_rfl) (by simp) ?_
      refine AllReadyH.cons rfl (fun K hK => ?_) AllReadyH.nil
      go_simp
      refine (rect_of _ _ _ _ _).mono ?_
      rintro e w72 ⟨rfl, hb73⟩
      go_wp2_with fail
      refine hK.out _ _ (hHeld.below hb73) (fun hHeld => ?_)
      clear hK K
      try simp only [Act.put, List.setIfInBounds_toArray, List.set_cons_zero, List.set_cons_succ, List.getElem_toArray, List.getElem_cons_succ, List.getElem_cons_zero]
      refine wpAnyH_ready (rs := [19]) (by kernel_rfl) (by simp) ?_
      refine AllReadyH.cons rfl (fun K hK => ?_) AllReadyH.nil
      go_simp
      refine (inside_c 1 1 3 3 1 1 3 2 false _ (by decide +kernel)).mono ?_
      rintro e w74 ⟨rfl, hb75⟩
      go_wp2_with fail
      refine hK.out _ _ (hHeld.below hb75) (fun hHeld => ?_)
      clear hK K
      try simp only [Act.put, List.setIfInBounds_toArray, List.set_cons_zero, List.set_cons_succ, List.getElem_toArray, List.getElem_cons_succ, List.getElem_cons_zero]
      refine wpAnyH_take (i := 20) (v := ?vx44_20) rfl (by kernel_rfl) (by kernel_rfl) (by kernel_rfl) (fun _ _ _ h => h) (Or.inl ⟨by rfl, ?hyx44_20⟩) (by assumption) ?restx44_20
      case hyx44_20 => (intro w hSw; have F := Ok.sees hSw; clear hSw; simp only [sees, kBlk, cellsAt, Nat.reduceAdd] at F; go_simp; try with_reducible rfl)
      try simp only [Act.put, List.setIfInBounds_toArray, List.set_cons_zero, List.set_cons_succ, List.getElem_toArray, List.getElem_cons_succ, List.getElem_cons_zero]
      refine wpAnyH_done (by kernel_rfl) ?_ _
      clear H59
      have H76 := Lib.hid hHeld
      clear hHeld
      go_wp2_with fail
      have H77 := Lib.hid (H76.out.drop [] (by simp))
      clear H76
      refine (rect_of _ _ _ _ _).mono ?_
      rintro e w78 ⟨rfl, hb79⟩
      have H80 := Lib.hid (H77.out.below hb79)
      clear hb79 H77
      go_wp2_with fail
      refine (rect_of _ _ _ _ _).mono ?_
      rintro e w81 ⟨rfl, hb82⟩
      have H83 := Lib.hid (H80.out.below hb82)
      clear hb82 H80
      go_wp2_with fail
      refine (minus_c 1 1 3 3 2 2 2 2 [⟨1, 1, 3, 1⟩, ⟨1, 2, 1, 2⟩, ⟨3, 2, 3, 2⟩, ⟨1, 3, 3, 3⟩] 4 _ (by decide +kernel) rfl (by decide +kernel)).mono ?_
      rintro e w84 ⟨adl, cpl, rfl, hr, hb⟩
      have H85 := Lib.hid ((H83.out.below hb).add (kRects w84.heap.size adl 4 (fun i => ([⟨1, 1, 3, 1⟩, ⟨1, 2, 1, 2⟩, ⟨3, 2, 3, 2⟩, ⟨1, 3, 3, 3⟩] : List R4).getD i R4.zero)) ⟨hr, Nat.le_refl _⟩)
      clear hr hb H83
      go_wp2_with fail
      refine (rect_of _ _ _ _ _).mono ?_
      rintro e w86 ⟨rfl, hb87⟩
      have H88 := Lib.hid (H85.out.below hb87)
      clear hb87 H85
      go_wp2_with fail
      refine (rect_of _ _ _ _ _).mono ?_
      rintro e w89 ⟨rfl, hb90⟩
      have H91 := Lib.hid (H88.out.below hb90)
      clear hb90 H88
      go_wp2_with fail
      refine (minus_c 1 1 2 2 1 1 3 9 [] 0 _ (by decide +kernel) rfl (by decide +kernel)).mono ?_
      rintro e w92 ⟨adk, cpk, rfl, hr, hb⟩
      have H93 := Lib.hid ((H91.out.below hb).add (kRects w92.heap.size adk 0 (fun i => ([] : List R4).getD i R4.zero)) ⟨hr, Nat.le_refl _⟩)
      clear hr hb H91
      go_wp2_with fail
      refine (rect_of _ _ _ _ _).mono ?_
      rintro e w94 ⟨rfl, hb95⟩
      have H96 := Lib.hid (H93.out.below hb95)
      clear hb95 H93
      go_wp2_with fail
      refine (rect_of _ _ _ _ _).mono ?_
      rintro e w97 ⟨rfl, hb98⟩
      have H99 := Lib.hid (H96.out.below hb98)
      clear hb98 H96
      go_wp2_with fail
      refine (minus_c 1 1 2 2 2 2 3 3 [⟨1, 1, 2, 1⟩, ⟨1, 2, 1, 2⟩] 2 _ (by decide +kernel) rfl (by decide +kernel)).mono ?_
      rintro e w100 ⟨adn, cpn, rfl, hr, hb⟩
      have H101 := Lib.hid ((H99.out.below hb).add (kRects w100.heap.size adn 2 (fun i => ([⟨1, 1, 2, 1⟩, ⟨1, 2, 1, 2⟩] : List R4).getD i R4.zero)) ⟨hr, Nat.le_refl _⟩)
      clear hr hb H99
      go_wp2_with fail
      refine (rect_of _ _ _ _ _).mono ?_
      rintro e w102 ⟨rfl, hb103⟩
      have H104 := Lib.hid (H101.out.below hb103)
      clear hb103 H101
      go_wp2_with fail
      refine (rect_of _ _ _ _ _).mono ?_
      rintro e w105 ⟨rfl, hb106⟩
      have H107 := Lib.hid (H104.out.below hb106)
      clear hb106 H104
      go_wp2_with fail
      refine (minus_c 1 1 1 2 2 1 2 2 [⟨1, 1, 1, 2⟩] 1 _ (by decide +kernel) rfl (by decide +kernel)).mono ?_
      rintro e w108 ⟨ado, cpo, rfl, hr, hb⟩
      have H109 := Lib.hid ((H107.out.below hb).add (kRects w108.heap.size ado 1 (fun i => ([⟨1, 1, 1, 2⟩] : List R4).getD i R4.zero)) ⟨hr, Nat.le_refl _⟩)
      clear hr hb H107
      go_wp2_with fail
      refine (rect_of _ _ _ _ _).mono ?_
      rintro e w110 ⟨rfl, hb111⟩
      have H112 := Lib.hid (H109.out.below hb111)
      clear hb111 H109
      go_wp2_with fail
      refine (rect_of _ _ _ _ _).mono ?_
      rintro e w113 ⟨rfl, hb114⟩
      have H115 := Lib.hid (H112.out.below hb114)
      clear hb114 H112
      go_wp2_with fail
      refine (rect_of _ _ _ _ _).mono ?_
      rintro e w116 ⟨rfl, hb117⟩
      have H118 := Lib.hid (H115.out.below hb117)
      clear hb117 H115
      go_wp2_with fail
      refine (rect_of _ _ _ _ _).mono ?_
      rintro e w119 ⟨rfl, hb120⟩
      have H121 := Lib.hid (H118.out.below hb120)
      clear hb120 H118
      go_wp2_with fail
      have H122 := Lib.hid (H121.out.alloc w119.heap.size 38 [.int .i64 1, .int .i64 1, .int .i64 3, .int .i64 1, .int .i64 1, .int .i64 2, .int .i64 1, .int .i64 2, .int .i64 3, .int .i64 2, .int .i64 3, .int .i64 2, .int .i64 1, .int .i64 3, .int .i64 3, .int .i64 3] rfl)
      clear H121
      generalize (w119.alloc (.cells #[.int .i64 1, .int .i64 1, .int .i64 3, .int .i64 1, .int .i64 1, .int .i64 2, .int .i64 1, .int .i64 2, .int .i64 3, .int .i64 2, .int .i64 3, .int .i64 2, .int .i64 1, .int .i64 3, .int .i64 3, .int .i64 3] 38)) = W123 at H122 ⊢
      refine (equal_rects _ _ 4 _ _ (fun i => ([⟨1, 1, 3, 1⟩, ⟨1, 2, 1, 2⟩, ⟨3, 2, 3, 2⟩, ⟨1, 3, 3, 3⟩] : List R4).getD i R4.zero) _ (by decide) (((H122.out.get (kRects w84.heap.size adl 4 (fun i => ([⟨1, 1, 3, 1⟩, ⟨1, 2, 1, 2⟩, ⟨3, 2, 3, 2⟩, ⟨1, 3, 3, 3⟩] : List R4).getD i R4.zero)) (by simp)).1).below (Below.refl _ _) (by have h9 := (H122.out.get (kRects w84.heap.size adl 4 (fun i => ([⟨1, 1, 3, 1⟩, ⟨1, 2, 1, 2⟩, ⟨3, 2, 3, 2⟩, ⟨1, 3, 3, 3⟩] : List R4).getD i R4.zero)) (by simp)).2; exact h9)) (blk_rects [⟨1, 1, 3, 1⟩, ⟨1, 2, 1, 2⟩, ⟨3, 2, 3, 2⟩, ⟨1, 3, 3, 3⟩] (H122.out.get (kBlk (w119.heap.size) 38 [.int .i64 1, .int .i64 1, .int .i64 3, .int .i64 1, .int .i64 1, .int .i64 2, .int .i64 1, .int .i64 2, .int .i64 3, .int .i64 2, .int .i64 3, .int .i64 2, .int .i64 1, .int .i64 3, .int .i64 3, .int .i64 3]) (by simp)))).mono ?_
      rintro e w124 ⟨rfl, hb125⟩
      have H126 := Lib.hid (H122.out.below hb125)
      clear hb125 H122
      go_wp2_with fail
      refine (rect_of _ _ _ _ _).mono ?_
      rintro e w127 ⟨rfl, hb128⟩
      have H129 := Lib.hid (H126.out.below hb128)
      clear hb128 H126
      go_wp2_with fail
      refine (rect_of _ _ _ _ _).mono ?_
      rintro e w130 ⟨rfl, hb131⟩
      have H132 := Lib.hid (H129.out.below hb131)
      clear hb131 H129
      go_wp2_with fail
      have H133 := Lib.hid (H132.out.alloc w130.heap.size 38 [.int .i64 1, .int .i64 1, .int .i64 2, .int .i64 1, .int .i64 1, .int .i64 2, .int .i64 1, .int .i64 2] rfl)
      clear H132
      generalize (w130.alloc (.cells #[.int .i64 1, .int .i64 1, .int .i64 2, .int .i64 1, .int .i64 1, .int .i64 2, .int .i64 1, .int .i64 2] 38)) = W134 at H133 ⊢
      refine (equal_rects _ _ 2 _ _ (fun i => ([⟨1, 1, 2, 1⟩, ⟨1, 2, 1, 2⟩] : List R4).getD i R4.zero) _ (by decide) (((H133.out.get (kRects w100.heap.size adn 2 (fun i => ([⟨1, 1, 2, 1⟩, ⟨1, 2, 1, 2⟩] : List R4).getD i R4.zero)) (by simp)).1).below (Below.refl _ _) (by have h9 := (H133.out.get (kRects w100.heap.size adn 2 (fun i => ([⟨1, 1, 2, 1⟩, ⟨1, 2, 1, 2⟩] : List R4).getD i R4.zero)) (by simp)).2; exact h9)) (blk_rects [⟨1, 1, 2, 1⟩, ⟨1, 2, 1, 2⟩] (H133.out.get (kBlk (w130.heap.size) 38 [.int .i64 1, .int .i64 1, .int .i64 2, .int .i64 1, .int .i64 1, .int .i64 2, .int .i64 1, .int .i64 2]) (by simp)))).mono ?_
      rintro e w135 ⟨rfl, hb136⟩
      have H137 := Lib.hid (H133.out.below hb136)
      clear hb136 H133
      go_wp2_with fail
      refine (rect_of _ _ _ _ _).mono ?_
      rintro e w138 ⟨rfl, hb139⟩
      have H140 := Lib.hid (H137.out.below hb139)
      clear hb139 H137
      go_wp2_with fail
      have H141 := Lib.hid (H140.out.alloc w138.heap.size 38 [.int .i64 1, .int .i64 1, .int .i64 1, .int .i64 2] rfl)
      clear H140
      generalize (w138.alloc (.cells #[.int .i64 1, .int .i64 1, .int .i64 1, .int .i64 2] 38)) = W142 at H141 ⊢
      refine (equal_rects _ _ 1 _ _ (fun i => ([⟨1, 1, 1, 2⟩] : List R4).getD i R4.zero) _ (by decide) (((H141.out.get (kRects w108.heap.size ado 1 (fun i => ([⟨1, 1, 1, 2⟩] : List R4).getD i R4.zero)) (by simp)).1).below (Below.refl _ _) (by have h9 := (H141.out.get (kRects w108.heap.size ado 1 (fun i => ([⟨1, 1, 1, 2⟩] : List R4).getD i R4.zero)) (by simp)).2; exact h9)) (blk_rects [⟨1, 1, 1, 2⟩] (H141.out.get (kBlk (w138.heap.size) 38 [.int .i64 1, .int .i64 1, .int .i64 1, .int .i64 2]) (by simp)))).mono ?_
      rintro e w143 ⟨rfl, hb144⟩
      have H145 := Lib.hid (H141.out.below hb144)
      clear hb144 H141
      go_wp2_with fail
      have H146 := Lib.hid (H145.out.drop [] (by simp))
      clear H145
      refine (rect_of _ _ _ _ _).mono ?_
      rintro e w147 ⟨rfl, hb148⟩
      have H149 := Lib.hid (H146.out.below hb148)
      clear hb148 H146
      go_wp2_with fail
      refine (area_c 1 1 2 3 6 _ (by decide +kernel)).mono ?_
      rintro e w150 ⟨rfl, hb151⟩
      have H152 := Lib.hid (H149.out.below hb151)
      clear hb151 H149
      go_wp2_with fail
      refine (rect_of _ _ _ _ _).mono ?_
      rintro e w153 ⟨rfl, hb154⟩
      have H155 := Lib.hid (H152.out.below hb154)
      clear hb154 H152
      go_wp2_with fail
      refine (refs_c 1 1 2 2 4 0 _ (by decide +kernel) (by decide +kernel)).mono ?_
      rintro e w156 ⟨adx, cpx, rfl, hr, hb⟩
      have H157 := Lib.hid ((H155.out.below hb).add (kRefs w156.heap.size adx 4 (refAt (2 - 1 + 1) 1 1)) ⟨hr, Nat.le_refl _⟩)
      clear hr hb H155
      go_wp2_with fail
      refine (rect_of _ _ _ _ _).mono ?_
      rintro e w158 ⟨rfl, hb159⟩
      have H160 := Lib.hid (H157.out.below hb159)
      clear hb159 H157
      go_wp2_with fail
      refine (refs_c 1 1 1 1024 1024 0 _ (by decide +kernel) (by decide +kernel)).mono ?_
      rintro e w161 ⟨ady, cpy, rfl, hr, hb⟩
      have H162 := Lib.hid (H160.out.below hb)
      clear hr hb H160
      go_wp2_with fail
      refine (rect_of _ _ _ _ _).mono ?_
      rintro e w163 ⟨rfl, hb164⟩
      have H165 := Lib.hid (H162.out.below hb164)
      clear hb164 H162
      go_wp2_with fail
      refine (refs_c 1 1 2 1024 0 5 _ (by decide +kernel) (by decide +kernel)).mono ?_
      rintro e w166 ⟨adv, cpv, rfl, hr, hb⟩
      have H167 := Lib.hid (H165.out.below hb)
      clear hr hb H165
      go_wp2_with fail
      have H168 := Lib.hid (H167.out.alloc w166.heap.size 23 [.int .i64 1, .int .i64 1, .int .i64 2, .int .i64 1, .int .i64 1, .int .i64 2, .int .i64 2, .int .i64 2] rfl)
      clear H167
      generalize (w166.alloc (.cells #[.int .i64 1, .int .i64 1, .int .i64 2, .int .i64 1, .int .i64 1, .int .i64 2, .int .i64 2, .int .i64 2] 23)) = W169 at H168 ⊢
      refine (equal_refs _ _ 4 _ _ (refAt (2 - 1 + 1) 1 1) _ (by decide) (((H168.out.get (kRefs w156.heap.size adx 4 (refAt (2 - 1 + 1) 1 1)) (by simp)).1).below (Below.refl _ _) (by have h9 := (H168.out.get (kRefs w156.heap.size adx 4 (refAt (2 - 1 + 1) 1 1)) (by simp)).2; exact h9)) (blk_refs4 (H168.out.get (kBlk (w166.heap.size) 23 [.int .i64 1, .int .i64 1, .int .i64 2, .int .i64 1, .int .i64 1, .int .i64 2, .int .i64 2, .int .i64 2]) (by simp)))).mono ?_
      rintro e w170 ⟨rfl, hb171⟩
      have H172 := Lib.hid (H168.out.below hb171)
      clear hb171 H168
      go_wp2_with fail
      have H173 := Lib.hid (H172.out.drop [] (by simp))
      clear H172
      refine (rect_of _ _ _ _ _).mono ?_
      rintro e w174 ⟨rfl, hb175⟩
      have H176 := Lib.hid (H173.out.below hb175)
      clear hb175 H173
      go_wp2_with fail
      refine (rect_of _ _ _ _ _).mono ?_
      rintro e w177 ⟨rfl, hb178⟩
      have H179 := Lib.hid (H176.out.below hb178)
      clear hb178 H176
      go_wp2_with fail
      refine (rect_of _ _ _ _ _).mono ?_
      rintro e w180 ⟨rfl, hb181⟩
      have H182 := Lib.hid (H179.out.below hb181)
      clear hb181 H179
      go_wp2_with fail
      have H183 := Lib.hid (H182.out.alloc w180.heap.size 38 [.int .i64 1, .int .i64 1, .int .i64 1, .int .i64 2, .int .i64 2, .int .i64 1, .int .i64 2, .int .i64 9] rfl)
      clear H182
      generalize (w180.alloc (.cells #[.int .i64 1, .int .i64 1, .int .i64 1, .int .i64 2, .int .i64 2, .int .i64 1, .int .i64 2, .int .i64 9] 38)) = W184 at H183 ⊢
      refine (covers_c 1 1 2 2 [⟨1, 1, 1, 2⟩, ⟨2, 1, 2, 9⟩] 2 _ _ true 0 _ (by decide) (blk_rects [⟨1, 1, 1, 2⟩, ⟨2, 1, 2, 9⟩] (H183.out.get (kBlk (w180.heap.size) 38 [.int .i64 1, .int .i64 1, .int .i64 1, .int .i64 2, .int .i64 2, .int .i64 1, .int .i64 2, .int .i64 9]) (by simp))) (by decide +kernel)).mono ?_
      rintro e w185 ⟨rfl, hb186⟩
      have H187 := Lib.hid (H183.out.below hb186)
      clear hb186 H183
      go_wp2_with fail
      refine (rect_of _ _ _ _ _).mono ?_
      rintro e w188 ⟨rfl, hb189⟩
      have H190 := Lib.hid (H187.out.below hb189)
      clear hb189 H187
      go_wp2_with fail
      refine (rect_of _ _ _ _ _).mono ?_
      rintro e w191 ⟨rfl, hb192⟩
      have H193 := Lib.hid (H190.out.below hb192)
      clear hb192 H190
      go_wp2_with fail
      refine (rect_of _ _ _ _ _).mono ?_
      rintro e w194 ⟨rfl, hb195⟩
      have H196 := Lib.hid (H193.out.below hb195)
      clear hb195 H193
      go_wp2_with fail
      have H197 := Lib.hid (H196.out.alloc w194.heap.size 38 [.int .i64 1, .int .i64 1, .int .i64 2, .int .i64 1, .int .i64 1, .int .i64 2, .int .i64 1, .int .i64 2] rfl)
      clear H196
      generalize (w194.alloc (.cells #[.int .i64 1, .int .i64 1, .int .i64 2, .int .i64 1, .int .i64 1, .int .i64 2, .int .i64 1, .int .i64 2] 38)) = W198 at H197 ⊢
      refine (covers_c 1 1 2 2 [⟨1, 1, 2, 1⟩, ⟨1, 2, 1, 2⟩] 2 _ _ false 0 _ (by decide) (blk_rects [⟨1, 1, 2, 1⟩, ⟨1, 2, 1, 2⟩] (H197.out.get (kBlk (w194.heap.size) 38 [.int .i64 1, .int .i64 1, .int .i64 2, .int .i64 1, .int .i64 1, .int .i64 2, .int .i64 1, .int .i64 2]) (by simp))) (by decide +kernel)).mono ?_
      rintro e w199 ⟨rfl, hb200⟩
      have H201 := Lib.hid (H197.out.below hb200)
      clear hb200 H197
      go_wp2_with fail
      refine (rect_of _ _ _ _ _).mono ?_
      rintro e w202 ⟨rfl, hb203⟩
      have H204 := Lib.hid (H201.out.below hb203)
      clear hb203 H201
      go_wp2_with fail
      refine (covers_c 1 1 1 1 [] 0 _ _ false 0 _ (by decide) rects_nil (by decide +kernel)).mono ?_
      rintro e w205 ⟨rfl, hb206⟩
      have H207 := Lib.hid (H204.out.below hb206)
      clear hb206 H204
      go_wp2_with fail
      refine (rect_of _ _ _ _ _).mono ?_
      rintro e w208 ⟨rfl, hb209⟩
      have H210 := Lib.hid (H207.out.below hb209)
      clear hb209 H207
      go_wp2_with fail
      refine (rect_of _ _ _ _ _).mono ?_
      rintro e w211 ⟨rfl, hb212⟩
      have H213 := Lib.hid (H210.out.below hb212)
      clear hb212 H210
      go_wp2_with fail
      have H214 := Lib.hid (H213.out.alloc w211.heap.size 38 [.int .i64 2, .int .i64 1, .int .i64 1, .int .i64 1] rfl)
      clear H213
      generalize (w211.alloc (.cells #[.int .i64 2, .int .i64 1, .int .i64 1, .int .i64 1] 38)) = W215 at H214 ⊢
      refine (covers_c 1 1 1 1 [⟨2, 1, 1, 1⟩] 1 _ _ false 3 _ (by decide) (blk_rects [⟨2, 1, 1, 1⟩] (H214.out.get (kBlk (w211.heap.size) 38 [.int .i64 2, .int .i64 1, .int .i64 1, .int .i64 1]) (by simp))) (by decide +kernel)).mono ?_
      rintro e w216 ⟨rfl, hb217⟩
      have H218 := Lib.hid (H214.out.below hb217)
      clear hb217 H214
      go_wp2_with fail
      go_ret
      exact ⟨rfl, H218.out.bel⟩
end Go.Proofs.YtkdabfepggehiaaDoor
