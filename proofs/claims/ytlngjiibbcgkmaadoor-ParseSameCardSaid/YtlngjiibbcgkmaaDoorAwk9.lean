/- The statement's own 'awake' of chapter 09. -/
import Derived.Test.YtlngjiibbcgkmaaDoorForC
namespace Go.Proofs.YtlngjiibbcgkmaaDoor
open Go.RowKit

set_option maxRecDepth 100000 in
set_option maxHeartbeats 8000000 in
theorem law_awake9 (w : World) (hw : Words w) :
    Calls Tryd.prog 9 #[] w fun e w' => e = .returned (.bool true) ∧ Below w.heap.size w w' := by
  have HW := keep hw
  clear hw
  have H0 := Lib.hid (Ok.start w)
  go_enter Tryd.func9, Tryd.ntmps9
  go_wp2_with fail
  refine (parse_Formula _ _ (by decide) (HW.out.below H0.out.bel)).mono ?_
  rintro e w1 ⟨va, rfl, hown, hb⟩
  rw [show formS (({ data := #[49, 43, 50, 42, 51] } : ByteArray).data.toList) = _ from form_a] at hown ⊢
  obtain ⟨aa, ca, rfl⟩ := own_len hown
  have H2 := Lib.hid (OkRow.of_new H0.out hb hown).pers
  have H2a : Hid (Ok w [kRow w.heap.size 46 11 (.slice aa 5 ca) 5 (ndCells [ndNum 10000, ndNum 20000, ndNum 30000, ndBin 3, ndBin 1])] w1) := Lib.hid ((OkRow.of_new (H0.out.drop [] (by simp)) hb (hown)).ok.add (kRow w.heap.size 46 11 (.slice aa 5 ca) 5 (ndCells [ndNum 10000, ndNum 20000, ndNum 30000, ndBin 3, ndBin 1])) (hown.mono H0.out.bel.size))
  clear H2
  clear hb hown H0
  go_wp2_with fail
  refine (parse_Formula _ _ (by decide) (HW.out.below H2a.out.bel)).mono ?_
  rintro e w3 ⟨vb, rfl, hown, hb⟩
  rw [show formS (({ data := #[45, 50, 94, 50] } : ByteArray).data.toList) = _ from form_b] at hown ⊢
  obtain ⟨ab, cb, rfl⟩ := own_len hown
  have H4 := Lib.hid (OkRow.of_new H2a.out hb hown).pers
  have H4a : Hid (Ok w [kRow w.heap.size 46 11 (.slice ab 4 cb) 4 (ndCells [ndNum 20000, ndNum 20000, ndBin 5, ndNeg]), kRow w.heap.size 46 11 (.slice aa 5 ca) 5 (ndCells [ndNum 10000, ndNum 20000, ndNum 30000, ndBin 3, ndBin 1])] w3) := Lib.hid ((OkRow.of_new (H2a.out.drop [kRow w.heap.size 46 11 (.slice aa 5 ca) 5 (ndCells [ndNum 10000, ndNum 20000, ndNum 30000, ndBin 3, ndBin 1])] (by simp)) hb (hown)).ok.add (kRow w.heap.size 46 11 (.slice ab 4 cb) 4 (ndCells [ndNum 20000, ndNum 20000, ndBin 5, ndNeg])) (hown.mono H2a.out.bel.size))
  clear H4
  clear hb hown H2a
  go_wp2_with fail
  refine (parse_Formula _ _ (by decide) (HW.out.below H4a.out.bel)).mono ?_
  rintro e w5 ⟨vc, rfl, hown, hb⟩
  rw [show formS (({ data := #[50, 94, 51, 94, 50] } : ByteArray).data.toList) = _ from form_c] at hown ⊢
  obtain ⟨ac, cc, rfl⟩ := own_len hown
  have H6 := Lib.hid (OkRow.of_new H4a.out hb hown).pers
  have H6a : Hid (Ok w [kRow w.heap.size 46 11 (.slice ac 5 cc) 5 (ndCells [ndNum 20000, ndNum 30000, ndNum 20000, ndBin 5, ndBin 5]), kRow w.heap.size 46 11 (.slice ab 4 cb) 4 (ndCells [ndNum 20000, ndNum 20000, ndBin 5, ndNeg]), kRow w.heap.size 46 11 (.slice aa 5 ca) 5 (ndCells [ndNum 10000, ndNum 20000, ndNum 30000, ndBin 3, ndBin 1])] w5) := Lib.hid ((OkRow.of_new (H4a.out.drop [kRow w.heap.size 46 11 (.slice ab 4 cb) 4 (ndCells [ndNum 20000, ndNum 20000, ndBin 5, ndNeg]), kRow w.heap.size 46 11 (.slice aa 5 ca) 5 (ndCells [ndNum 10000, ndNum 20000, ndNum 30000, ndBin 3, ndBin 1])] (by simp)) hb (hown)).ok.add (kRow w.heap.size 46 11 (.slice ac 5 cc) 5 (ndCells [ndNum 20000, ndNum 30000, ndNum 20000, ndBin 5, ndBin 5])) (hown.mono H4a.out.bel.size))
  clear H6
  clear hb hown H4a
  go_wp2_with fail
  refine (parse_Formula _ _ (by decide) (HW.out.below H6a.out.bel)).mono ?_
  rintro e w7 ⟨vd, rfl, hown, hb⟩
  rw [show formS (({ data := #[83, 85, 77, 40, 65, 49, 58, 66, 50, 43, 49, 41] } : ByteArray).data.toList) = _ from form_d] at hown ⊢
  have H8 := Lib.hid (H6a.out.below hb)
  clear hb hown H6a
  go_wp2_with fail
  refine (parse_Formula _ _ (by decide) (HW.out.below H8.out.bel)).mono ?_
  rintro e w9 ⟨ve, rfl, hown, hb⟩
  rw [show formS (({ data := #[49, 43, 65, 66, 83, 40, 49, 44, 50, 41] } : ByteArray).data.toList) = _ from form_e] at hown ⊢
  have H10 := Lib.hid (H8.out.below hb)
  clear hb hown H8
  go_upto_region 7 with fail
  have H11 := Lib.hid (((H10.out.alloc w9.heap.size 46 [.int .u8 6, .int .u8 0, .int .i64 0, .string ⟨#[]⟩, .int .i64 0, .int .i64 0, .int .i64 0, .int .i64 0, .int .i64 1, .int .u8 0, .int .i64 0] rfl).alloc (w9.heap.size + 1) 46 [.int .u8 6, .int .u8 0, .int .i64 0, .string ⟨#[]⟩, .int .i64 0, .int .i64 0, .int .i64 0, .int .i64 0, .int .i64 3, .int .u8 0, .int .i64 0] (by simp)).alloc (w9.heap.size + 1 + 1) 46 [.int .u8 6, .int .u8 0, .int .i64 0, .string ⟨#[]⟩, .int .i64 0, .int .i64 0, .int .i64 0, .int .i64 0, .int .i64 5, .int .u8 0, .int .i64 0] (by simp))
  clear H10
  generalize (((w9.alloc (.cells #[.int .u8 6, .int .u8 0, .int .i64 0, .string ⟨#[]⟩, .int .i64 0, .int .i64 0, .int .i64 0, .int .i64 0, .int .i64 1, .int .u8 0, .int .i64 0] 46)).alloc (.cells #[.int .u8 6, .int .u8 0, .int .i64 0, .string ⟨#[]⟩, .int .i64 0, .int .i64 0, .int .i64 0, .int .i64 0, .int .i64 3, .int .u8 0, .int .i64 0] 46)).alloc (.cells #[.int .u8 6, .int .u8 0, .int .i64 0, .string ⟨#[]⟩, .int .i64 0, .int .i64 0, .int .i64 0, .int .i64 0, .int .i64 5, .int .u8 0, .int .i64 0] 46)) = W12 at H11 ⊢
  have F13 := H11.out.sees
  simp only [sees, kBlk, cellsAt, Nat.reduceAdd] at F13
  obtain ⟨⟨z0, c0_0, c0_1, c0_2, c0_3, c0_4, c0_5, c0_6, c0_7, c0_8, c0_9, c0_10, -⟩, ⟨z1, c1_0, c1_1, c1_2, c1_3, c1_4, c1_5, c1_6, c1_7, c1_8, c1_9, c1_10, -⟩, ⟨z2, c2_0, c2_1, c2_2, c2_3, c2_4, c2_5, c2_6, c2_7, c2_8, c2_9, c2_10, -⟩, -, -, -, -⟩ := F13
  refine wp_region_held_drew (S := fun W => Ok w [kBlk (w9.heap.size + 1 + 1) 46 [.int .u8 6, .int .u8 0, .int .i64 0, .string ⟨#[]⟩, .int .i64 0, .int .i64 0, .int .i64 0, .int .i64 0, .int .i64 5, .int .u8 0, .int .i64 0], kBlk (w9.heap.size + 1) 46 [.int .u8 6, .int .u8 0, .int .i64 0, .string ⟨#[]⟩, .int .i64 0, .int .i64 0, .int .i64 0, .int .i64 0, .int .i64 3, .int .u8 0, .int .i64 0], kBlk (w9.heap.size) 46 [.int .u8 6, .int .u8 0, .int .i64 0, .string ⟨#[]⟩, .int .i64 0, .int .i64 0, .int .i64 0, .int .i64 0, .int .i64 1, .int .u8 0, .int .i64 0], kRow w.heap.size 46 11 (.slice ac 5 cc) 5 (ndCells [ndNum 20000, ndNum 30000, ndNum 20000, ndBin 5, ndBin 5]), kRow w.heap.size 46 11 (.slice ab 4 cb) 4 (ndCells [ndNum 20000, ndNum 20000, ndBin 5, ndNeg]), kRow w.heap.size 46 11 (.slice aa 5 ca) 5 (ndCells [ndNum 10000, ndNum 20000, ndNum 30000, ndBin 3, ndBin 1])] W) (by kernel_rfl) H11.out.drew (fun hHeld => ?_)
  clear z0 c0_0 c0_1 c0_2 c0_3 c0_4 c0_5 c0_6 c0_7 c0_8 c0_9 c0_10 z1 c1_0 c1_1 c1_2 c1_3 c1_4 c1_5 c1_6 c1_7 c1_8 c1_9 c1_10 z2 c2_0 c2_1 c2_2 c2_3 c2_4 c2_5 c2_6 c2_7 c2_8 c2_9 c2_10
  have H14 := Lib.hid H11.out.drew
  clear H11
  generalize W12.drew = W15 at hHeld H14 ⊢
  refine wpAnyH_take (i := 0) (v := ?vx1_0) rfl (by kernel_rfl) (by kernel_rfl) (by kernel_rfl) (fun _ _ _ h => h) (Or.inl ⟨by rfl, ?hyx1_0⟩) (by assumption) ?restx1_0
  case hyx1_0 => (intro w hSw; have F := Ok.sees hSw; clear hSw; simp only [sees, kBlk, cellsAt, Nat.reduceAdd] at F; go_simp; try with_reducible rfl)
  try simp only [Act.put, List.setIfInBounds_toArray, List.set_cons_zero, List.set_cons_succ, List.getElem_toArray, List.getElem_cons_zero]
  refine wpAnyH_take (i := 1) (v := ?vx2_1) rfl (by kernel_rfl) (by kernel_rfl) (by kernel_rfl) (fun _ _ _ h => h) (Or.inl ⟨by rfl, ?hyx2_1⟩) (by assumption) ?restx2_1
  case hyx2_1 => (intro w hSw; have F := Ok.sees hSw; clear hSw; simp only [sees, kBlk, cellsAt, Nat.reduceAdd] at F; go_simp; try with_reducible rfl)
  try simp only [Act.put, List.setIfInBounds_toArray, List.set_cons_zero, List.set_cons_succ, List.getElem_toArray, List.getElem_cons_succ, List.getElem_cons_zero]
  refine wpAnyH_take (i := 2) (v := ?vx3_2) rfl (by kernel_rfl) (by kernel_rfl) (by kernel_rfl) (fun _ _ _ h => h) (Or.inl ⟨by rfl, ?hyx3_2⟩) (by assumption) ?restx3_2
  case hyx3_2 => (intro w hSw; have F := Ok.sees hSw; clear hSw; simp only [sees, kBlk, cellsAt, Nat.reduceAdd] at F; go_simp; try with_reducible rfl)
  try simp only [Act.put, List.setIfInBounds_toArray, List.set_cons_zero, List.set_cons_succ, List.getElem_toArray, List.getElem_cons_succ, List.getElem_cons_zero]
  refine wpAnyH_take (i := 3) (v := ?vx4_3) rfl (by kernel_rfl) (by kernel_rfl) (by kernel_rfl) (fun _ _ _ h => h) (Or.inl ⟨by rfl, ?hyx4_3⟩) (by assumption) ?restx4_3
  case hyx4_3 => (intro w hSw; have F := Ok.sees hSw; clear hSw; simp only [sees, kBlk, cellsAt, Nat.reduceAdd] at F; go_simp; try with_reducible rfl)
  try simp only [Act.put, List.setIfInBounds_toArray, List.set_cons_zero, List.set_cons_succ, List.getElem_toArray, List.getElem_cons_succ, List.getElem_cons_zero]
  refine wpAnyH_take (i := 7) (v := ?vx5_7) rfl (by kernel_rfl) (by kernel_rfl) (by kernel_rfl) (fun _ _ _ h => h) (Or.inl ⟨by rfl, ?hyx5_7⟩) (by assumption) ?restx5_7
  case hyx5_7 => (intro w hSw; have F := Ok.sees hSw; clear hSw; simp only [sees, kBlk, cellsAt, Nat.reduceAdd] at F; go_simp; try with_reducible rfl)
  try simp only [Act.put, List.setIfInBounds_toArray, List.set_cons_zero, List.set_cons_succ, List.getElem_toArray, List.getElem_cons_succ, List.getElem_cons_zero]
  refine wpAnyH_take (i := 8) (v := ?vx6_8) rfl (by kernel_rfl) (by kernel_rfl) (by kernel_rfl) (fun _ _ _ h => h) (Or.inl ⟨by rfl, ?hyx6_8⟩) (by assumption) ?restx6_8
  case hyx6_8 => (intro w hSw; have F := Ok.sees hSw; clear hSw; simp only [sees, kBlk, cellsAt, Nat.reduceAdd] at F; go_simp; try with_reducible rfl)
  try simp only [Act.put, List.setIfInBounds_toArray, List.set_cons_zero, List.set_cons_succ, List.getElem_toArray, List.getElem_cons_succ, List.getElem_cons_zero]
  refine wpAnyH_ready (rs := [4]) (by kernel_rfl) (by simp) ?_
  refine AllReadyH.cons rfl (fun K hK => ?_) AllReadyH.nil
  go_simp
  refine (law_number 1 _ (by decide) (by decide)).mono ?_
  rintro e w16 ⟨rfl, hb17⟩
  go_wp2_with fail
  have H18 := Lib.hid (H14.out.below hb17)
  clear hb17 H14
  refine hK.out _ _ (H18.out) (fun hHeld => ?_)
  clear hK K
  try simp only [Act.put, List.setIfInBounds_toArray, List.set_cons_zero, List.set_cons_succ, List.getElem_toArray, List.getElem_cons_succ, List.getElem_cons_zero]
  refine wpAnyH_ready (rs := [5]) (by kernel_rfl) (by simp) ?_
  refine AllReadyH.cons rfl (fun K hK => ?_) AllReadyH.nil
  go_simp
  refine (law_number 2 _ (by decide) (by decide)).mono ?_
  rintro e w19 ⟨rfl, hb20⟩
  go_wp2_with fail
  have H21 := Lib.hid (H18.out.below hb20)
  clear hb20 H18
  refine hK.out _ _ (H21.out) (fun hHeld => ?_)
  clear hK K
  try simp only [Act.put, List.setIfInBounds_toArray, List.set_cons_zero, List.set_cons_succ, List.getElem_toArray, List.getElem_cons_succ, List.getElem_cons_zero]
  refine wpAnyH_ready (rs := [6]) (by kernel_rfl) (by simp) ?_
  refine AllReadyH.cons rfl (fun K hK => ?_) AllReadyH.nil
  go_simp
  refine (law_number 3 _ (by decide) (by decide)).mono ?_
  rintro e w22 ⟨rfl, hb23⟩
  go_wp2_with fail
  have H24 := Lib.hid (H21.out.below hb23)
  clear hb23 H21
  refine hK.out _ _ (H24.out) (fun hHeld => ?_)
  clear hK K
  try simp only [Act.put, List.setIfInBounds_toArray, List.set_cons_zero, List.set_cons_succ, List.getElem_toArray, List.getElem_cons_succ, List.getElem_cons_zero]
  refine wpAnyH_ready (rs := [9]) (by kernel_rfl) (by simp) ?_
  refine AllReadyH.cons rfl (fun K hK => ?_) AllReadyH.nil
  go_simp
  have H25 := Lib.hid (H24.out.alloc (w22.heap.size) 46 [.int .u8 1, .int .u8 1, .int .i64 10000, .string ⟨#[]⟩, .int .i64 0, .int .i64 0, .int .i64 0, .int .i64 0, .int .i64 0, .int .u8 0, .int .i64 0, .int .u8 1, .int .u8 1, .int .i64 20000, .string ⟨#[]⟩, .int .i64 0, .int .i64 0, .int .i64 0, .int .i64 0, .int .i64 0, .int .u8 0, .int .i64 0, .int .u8 1, .int .u8 1, .int .i64 30000, .string ⟨#[]⟩, .int .i64 0, .int .i64 0, .int .i64 0, .int .i64 0, .int .i64 0, .int .u8 0, .int .i64 0, .int .u8 6, .int .u8 0, .int .i64 0, .string ⟨#[]⟩, .int .i64 0, .int .i64 0, .int .i64 0, .int .i64 0, .int .i64 3, .int .u8 0, .int .i64 0, .int .u8 6, .int .u8 0, .int .i64 0, .string ⟨#[]⟩, .int .i64 0, .int .i64 0, .int .i64 0, .int .i64 0, .int .i64 1, .int .u8 0, .int .i64 0] rfl)
  clear H24
  refine hK.out _ _ (H25.out.tail) (fun hHeld => ?_)
  clear hK K
  try simp only [Act.put, List.setIfInBounds_toArray, List.set_cons_zero, List.set_cons_succ, List.getElem_toArray, List.getElem_cons_succ, List.getElem_cons_zero]
  generalize (w22.alloc (.cells #[.int .u8 1, .int .u8 1, .int .i64 10000, .string ⟨#[]⟩, .int .i64 0, .int .i64 0, .int .i64 0, .int .i64 0, .int .i64 0, .int .u8 0, .int .i64 0, .int .u8 1, .int .u8 1, .int .i64 20000, .string ⟨#[]⟩, .int .i64 0, .int .i64 0, .int .i64 0, .int .i64 0, .int .i64 0, .int .u8 0, .int .i64 0, .int .u8 1, .int .u8 1, .int .i64 30000, .string ⟨#[]⟩, .int .i64 0, .int .i64 0, .int .i64 0, .int .i64 0, .int .i64 0, .int .u8 0, .int .i64 0, .int .u8 6, .int .u8 0, .int .i64 0, .string ⟨#[]⟩, .int .i64 0, .int .i64 0, .int .i64 0, .int .i64 0, .int .i64 3, .int .u8 0, .int .i64 0, .int .u8 6, .int .u8 0, .int .i64 0, .string ⟨#[]⟩, .int .i64 0, .int .i64 0, .int .i64 0, .int .i64 0, .int .i64 1, .int .u8 0, .int .i64 0] 46)) = W26 at H25 hHeld ⊢
  refine wpAnyH_ready (rs := [10]) (by kernel_rfl) (by simp) ?_
  refine AllReadyH.cons rfl (fun K hK => ?_) AllReadyH.nil
  have h9 := H25.out.all _ (List.mem_cons_self ..)
  have hb9 : Blk W26 (w22.heap.size) 46 (ndCells [ndNum 10000, ndNum 20000, ndNum 30000, ndBin 3, ndBin 1]).toArray := h9
  clear h9
  have hr9 := (rows_get (l := [ndNum 10000, ndNum 20000, ndNum 30000, ndBin 3, ndBin 1]) (H25.out.get (kRow w.heap.size 46 11 (.slice aa 5 ca) 5 (ndCells [ndNum 10000, ndNum 20000, ndNum 30000, ndBin 3, ndBin 1])) (by simp))).2
  go_simp
  refine (equal_tree [ndNum 10000, ndNum 20000, ndNum 30000, ndBin 3, ndBin 1] aa (some ⟨w22.heap.size, 0, none⟩) ca 5 W26 (by decide) hr9 (rows_blk hb9)).mono ?_
  rintro e w27 ⟨rfl, hb28⟩
  go_wp2_with fail
  have H29 := Lib.hid (H25.out.below hb28)
  clear hb28 H25
  clear hb9 hr9
  refine hK.out _ _ (H29.out.tail) (fun hHeld => ?_)
  clear hK K
  try simp only [Act.put, List.setIfInBounds_toArray, List.set_cons_zero, List.set_cons_succ, List.getElem_toArray, List.getElem_cons_succ, List.getElem_cons_zero]
  refine wpAnyH_take (i := 11) (v := ?vx7_11) rfl (by kernel_rfl) (by kernel_rfl) (by kernel_rfl) (fun _ _ _ h => h) (Or.inl ⟨by rfl, ?hyx7_11⟩) (by assumption) ?restx7_11
  case hyx7_11 => (intro w hSw; have F := Ok.sees hSw; clear hSw; simp only [sees, kBlk, cellsAt, Nat.reduceAdd] at F; go_simp; try with_reducible rfl)
  try simp only [Act.put, List.setIfInBounds_toArray, List.set_cons_zero, List.set_cons_succ, List.getElem_toArray, List.getElem_cons_succ, List.getElem_cons_zero]
  refine wpAnyH_take (i := 12) (v := ?vx8_12) rfl (by kernel_rfl) (by kernel_rfl) (by kernel_rfl) (fun _ _ _ h => h) (Or.inl ⟨by rfl, ?hyx8_12⟩) (by assumption) ?restx8_12
  case hyx8_12 => (intro w hSw; have F := Ok.sees hSw; clear hSw; simp only [sees, kBlk, cellsAt, Nat.reduceAdd] at F; go_simp; try with_reducible rfl)
  try simp only [Act.put, List.setIfInBounds_toArray, List.set_cons_zero, List.set_cons_succ, List.getElem_toArray, List.getElem_cons_succ, List.getElem_cons_zero]
  refine wpAnyH_take (i := 13) (v := ?vx9_13) rfl (by kernel_rfl) (by kernel_rfl) (by kernel_rfl) (fun _ _ _ h => h) (Or.inl ⟨by rfl, ?hyx9_13⟩) (by assumption) ?restx9_13
  case hyx9_13 => (intro w hSw; have F := Ok.sees hSw; clear hSw; simp only [sees, kBlk, cellsAt, Nat.reduceAdd] at F; go_simp; try with_reducible rfl)
  try simp only [Act.put, List.setIfInBounds_toArray, List.set_cons_zero, List.set_cons_succ, List.getElem_toArray, List.getElem_cons_succ, List.getElem_cons_zero]
  refine wpAnyH_take (i := 14) (v := ?vx10_14) rfl (by kernel_rfl) (by kernel_rfl) (by kernel_rfl) (fun _ _ _ h => h) (Or.inl ⟨by rfl, ?hyx10_14⟩) (by assumption) ?restx10_14
  case hyx10_14 => (intro w hSw; have F := Ok.sees hSw; clear hSw; simp only [sees, kBlk, cellsAt, Nat.reduceAdd] at F; go_simp; try with_reducible rfl)
  try simp only [Act.put, List.setIfInBounds_toArray, List.set_cons_zero, List.set_cons_succ, List.getElem_toArray, List.getElem_cons_succ, List.getElem_cons_zero]
  refine wpAnyH_take (i := 15) (v := ?vx11_15) rfl (by kernel_rfl) (by kernel_rfl) (by kernel_rfl) (fun _ _ _ h => h) (Or.inl ⟨by rfl, ?hyx11_15⟩) (by assumption) ?restx11_15
  case hyx11_15 => (intro w hSw; have F := Ok.sees hSw; clear hSw; simp only [sees, kBlk, cellsAt, Nat.reduceAdd] at F; go_simp; try with_reducible rfl)
  try simp only [Act.put, List.setIfInBounds_toArray, List.set_cons_zero, List.set_cons_succ, List.getElem_toArray, List.getElem_cons_succ, List.getElem_cons_zero]
  refine wpAnyH_take (i := 16) (v := ?vx12_16) rfl (by kernel_rfl) (by kernel_rfl) (by kernel_rfl) (fun _ _ _ h => h) (Or.inl ⟨by rfl, ?hyx12_16⟩) (by assumption) ?restx12_16
  case hyx12_16 => (intro w hSw; have F := Ok.sees hSw; clear hSw; simp only [sees, kBlk, cellsAt, Nat.reduceAdd] at F; go_simp; try with_reducible rfl)
  try simp only [Act.put, List.setIfInBounds_toArray, List.set_cons_zero, List.set_cons_succ, List.getElem_toArray, List.getElem_cons_succ, List.getElem_cons_zero]
  refine wpAnyH_take (i := 17) (v := ?vx13_17) rfl (by kernel_rfl) (by kernel_rfl) (by kernel_rfl) (fun _ _ _ h => h) (Or.inl ⟨by rfl, ?hyx13_17⟩) (by assumption) ?restx13_17
  case hyx13_17 => (intro w hSw; have F := Ok.sees hSw; clear hSw; simp only [sees, kBlk, cellsAt, Nat.reduceAdd] at F; go_simp; try with_reducible rfl)
  try simp only [Act.put, List.setIfInBounds_toArray, List.set_cons_zero, List.set_cons_succ, List.getElem_toArray, List.getElem_cons_succ, List.getElem_cons_zero]
  refine wpAnyH_take (i := 20) (v := ?vx14_20) rfl (by kernel_rfl) (by kernel_rfl) (by kernel_rfl) (fun _ _ _ h => h) (Or.inl ⟨by rfl, ?hyx14_20⟩) (by assumption) ?restx14_20
  case hyx14_20 => (intro w hSw; have F := Ok.sees hSw; clear hSw; simp only [sees, kBlk, cellsAt, Nat.reduceAdd] at F; go_simp; try with_reducible rfl)
  try simp only [Act.put, List.setIfInBounds_toArray, List.set_cons_zero, List.set_cons_succ, List.getElem_toArray, List.getElem_cons_succ, List.getElem_cons_zero]
  refine wpAnyH_take (i := 21) (v := ?vx15_21) rfl (by kernel_rfl) (by kernel_rfl) (by kernel_rfl) (fun _ _ _ h => h) (Or.inl ⟨by rfl, ?hyx15_21⟩) (by assumption) ?restx15_21
  case hyx15_21 => (intro w hSw; have F := Ok.sees hSw; clear hSw; simp only [sees, kBlk, cellsAt, Nat.reduceAdd] at F; go_simp; try with_reducible rfl)
  try simp only [Act.put, List.setIfInBounds_toArray, List.set_cons_zero, List.set_cons_succ, List.getElem_toArray, List.getElem_cons_succ, List.getElem_cons_zero]
  refine wpAnyH_ready (rs := [18]) (by kernel_rfl) (by simp) ?_
  refine AllReadyH.cons rfl (fun K hK => ?_) AllReadyH.nil
  go_simp
  refine (law_number 2 _ (by decide) (by decide)).mono ?_
  rintro e w30 ⟨rfl, hb31⟩
  go_wp2_with fail
  have H32 := Lib.hid (H29.out.below hb31)
  clear hb31 H29
  refine hK.out _ _ (H32.out.tail) (fun hHeld => ?_)
  clear hK K
  try simp only [Act.put, List.setIfInBounds_toArray, List.set_cons_zero, List.set_cons_succ, List.getElem_toArray, List.getElem_cons_succ, List.getElem_cons_zero]
  refine wpAnyH_ready (rs := [19]) (by kernel_rfl) (by simp) ?_
  refine AllReadyH.cons rfl (fun K hK => ?_) AllReadyH.nil
  go_simp
  refine (law_number 2 _ (by decide) (by decide)).mono ?_
  rintro e w33 ⟨rfl, hb34⟩
  go_wp2_with fail
  have H35 := Lib.hid (H32.out.below hb34)
  clear hb34 H32
  refine hK.out _ _ (H35.out.tail) (fun hHeld => ?_)
  clear hK K
  try simp only [Act.put, List.setIfInBounds_toArray, List.set_cons_zero, List.set_cons_succ, List.getElem_toArray, List.getElem_cons_succ, List.getElem_cons_zero]
  refine wpAnyH_ready (rs := [22]) (by kernel_rfl) (by simp) ?_
  refine AllReadyH.cons rfl (fun K hK => ?_) AllReadyH.nil
  go_simp
  have H36 := Lib.hid (H35.out.alloc (w33.heap.size) 46 [.int .u8 1, .int .u8 1, .int .i64 20000, .string ⟨#[]⟩, .int .i64 0, .int .i64 0, .int .i64 0, .int .i64 0, .int .i64 0, .int .u8 0, .int .i64 0, .int .u8 1, .int .u8 1, .int .i64 20000, .string ⟨#[]⟩, .int .i64 0, .int .i64 0, .int .i64 0, .int .i64 0, .int .i64 0, .int .u8 0, .int .i64 0, .int .u8 6, .int .u8 0, .int .i64 0, .string ⟨#[]⟩, .int .i64 0, .int .i64 0, .int .i64 0, .int .i64 0, .int .i64 5, .int .u8 0, .int .i64 0, .int .u8 4, .int .u8 0, .int .i64 0, .string ⟨#[]⟩, .int .i64 0, .int .i64 0, .int .i64 0, .int .i64 0, .int .i64 0, .int .u8 0, .int .i64 0] rfl)
  clear H35
  refine hK.out _ _ (H36.out.tail.tail) (fun hHeld => ?_)
  clear hK K
  try simp only [Act.put, List.setIfInBounds_toArray, List.set_cons_zero, List.set_cons_succ, List.getElem_toArray, List.getElem_cons_succ, List.getElem_cons_zero]
  generalize (w33.alloc (.cells #[.int .u8 1, .int .u8 1, .int .i64 20000, .string ⟨#[]⟩, .int .i64 0, .int .i64 0, .int .i64 0, .int .i64 0, .int .i64 0, .int .u8 0, .int .i64 0, .int .u8 1, .int .u8 1, .int .i64 20000, .string ⟨#[]⟩, .int .i64 0, .int .i64 0, .int .i64 0, .int .i64 0, .int .i64 0, .int .u8 0, .int .i64 0, .int .u8 6, .int .u8 0, .int .i64 0, .string ⟨#[]⟩, .int .i64 0, .int .i64 0, .int .i64 0, .int .i64 0, .int .i64 5, .int .u8 0, .int .i64 0, .int .u8 4, .int .u8 0, .int .i64 0, .string ⟨#[]⟩, .int .i64 0, .int .i64 0, .int .i64 0, .int .i64 0, .int .i64 0, .int .u8 0, .int .i64 0] 46)) = W37 at H36 hHeld ⊢
  refine wpAnyH_ready (rs := [23]) (by kernel_rfl) (by simp) ?_
  refine AllReadyH.cons rfl (fun K hK => ?_) AllReadyH.nil
  have h9 := H36.out.all _ (List.mem_cons_self ..)
  have hb9 : Blk W37 (w33.heap.size) 46 (ndCells [ndNum 20000, ndNum 20000, ndBin 5, ndNeg]).toArray := h9
  clear h9
  have hr9 := (rows_get (l := [ndNum 20000, ndNum 20000, ndBin 5, ndNeg]) (H36.out.get (kRow w.heap.size 46 11 (.slice ab 4 cb) 4 (ndCells [ndNum 20000, ndNum 20000, ndBin 5, ndNeg])) (by simp))).2
  go_simp
  refine (equal_tree [ndNum 20000, ndNum 20000, ndBin 5, ndNeg] ab (some ⟨w33.heap.size, 0, none⟩) cb 4 W37 (by decide) hr9 (rows_blk hb9)).mono ?_
  rintro e w38 ⟨rfl, hb39⟩
  go_wp2_with fail
  have H40 := Lib.hid (H36.out.below hb39)
  clear hb39 H36
  clear hb9 hr9
  refine hK.out _ _ (H40.out.tail.tail) (fun hHeld => ?_)
  clear hK K
  try simp only [Act.put, List.setIfInBounds_toArray, List.set_cons_zero, List.set_cons_succ, List.getElem_toArray, List.getElem_cons_succ, List.getElem_cons_zero]
  refine wpAnyH_take (i := 24) (v := ?vx16_24) rfl (by kernel_rfl) (by kernel_rfl) (by kernel_rfl) (fun _ _ _ h => h) (Or.inl ⟨by rfl, ?hyx16_24⟩) (by assumption) ?restx16_24
  case hyx16_24 => (intro w hSw; have F := Ok.sees hSw; clear hSw; simp only [sees, kBlk, cellsAt, Nat.reduceAdd] at F; go_simp; try with_reducible rfl)
  try simp only [Act.put, List.setIfInBounds_toArray, List.set_cons_zero, List.set_cons_succ, List.getElem_toArray, List.getElem_cons_succ, List.getElem_cons_zero]
  refine wpAnyH_take (i := 25) (v := ?vx17_25) rfl (by kernel_rfl) (by kernel_rfl) (by kernel_rfl) (fun _ _ _ h => h) (Or.inl ⟨by rfl, ?hyx17_25⟩) (by assumption) ?restx17_25
  case hyx17_25 => (intro w hSw; have F := Ok.sees hSw; clear hSw; simp only [sees, kBlk, cellsAt, Nat.reduceAdd] at F; go_simp; try with_reducible rfl)
  try simp only [Act.put, List.setIfInBounds_toArray, List.set_cons_zero, List.set_cons_succ, List.getElem_toArray, List.getElem_cons_succ, List.getElem_cons_zero]
  refine wpAnyH_take (i := 26) (v := ?vx18_26) rfl (by kernel_rfl) (by kernel_rfl) (by kernel_rfl) (fun _ _ _ h => h) (Or.inl ⟨by rfl, ?hyx18_26⟩) (by assumption) ?restx18_26
  case hyx18_26 => (intro w hSw; have F := Ok.sees hSw; clear hSw; simp only [sees, kBlk, cellsAt, Nat.reduceAdd] at F; go_simp; try with_reducible rfl)
  try simp only [Act.put, List.setIfInBounds_toArray, List.set_cons_zero, List.set_cons_succ, List.getElem_toArray, List.getElem_cons_succ, List.getElem_cons_zero]
  refine wpAnyH_take (i := 27) (v := ?vx19_27) rfl (by kernel_rfl) (by kernel_rfl) (by kernel_rfl) (fun _ _ _ h => h) (Or.inl ⟨by rfl, ?hyx19_27⟩) (by assumption) ?restx19_27
  case hyx19_27 => (intro w hSw; have F := Ok.sees hSw; clear hSw; simp only [sees, kBlk, cellsAt, Nat.reduceAdd] at F; go_simp; try with_reducible rfl)
  try simp only [Act.put, List.setIfInBounds_toArray, List.set_cons_zero, List.set_cons_succ, List.getElem_toArray, List.getElem_cons_succ, List.getElem_cons_zero]
  refine wpAnyH_take (i := 28) (v := ?vx20_28) rfl (by kernel_rfl) (by kernel_rfl) (by kernel_rfl) (fun _ _ _ h => h) (Or.inl ⟨by rfl, ?hyx20_28⟩) (by assumption) ?restx20_28
  case hyx20_28 => (intro w hSw; have F := Ok.sees hSw; clear hSw; simp only [sees, kBlk, cellsAt, Nat.reduceAdd] at F; go_simp; try with_reducible rfl)
  try simp only [Act.put, List.setIfInBounds_toArray, List.set_cons_zero, List.set_cons_succ, List.getElem_toArray, List.getElem_cons_succ, List.getElem_cons_zero]
  refine wpAnyH_take (i := 29) (v := ?vx21_29) rfl (by kernel_rfl) (by kernel_rfl) (by kernel_rfl) (fun _ _ _ h => h) (Or.inl ⟨by rfl, ?hyx21_29⟩) (by assumption) ?restx21_29
  case hyx21_29 => (intro w hSw; have F := Ok.sees hSw; clear hSw; simp only [sees, kBlk, cellsAt, Nat.reduceAdd] at F; go_simp; try with_reducible rfl)
  try simp only [Act.put, List.setIfInBounds_toArray, List.set_cons_zero, List.set_cons_succ, List.getElem_toArray, List.getElem_cons_succ, List.getElem_cons_zero]
  refine wpAnyH_take (i := 30) (v := ?vx22_30) rfl (by kernel_rfl) (by kernel_rfl) (by kernel_rfl) (fun _ _ _ h => h) (Or.inl ⟨by rfl, ?hyx22_30⟩) (by assumption) ?restx22_30
  case hyx22_30 => (intro w hSw; have F := Ok.sees hSw; clear hSw; simp only [sees, kBlk, cellsAt, Nat.reduceAdd] at F; go_simp; try with_reducible rfl)
  try simp only [Act.put, List.setIfInBounds_toArray, List.set_cons_zero, List.set_cons_succ, List.getElem_toArray, List.getElem_cons_succ, List.getElem_cons_zero]
  refine wpAnyH_take (i := 34) (v := ?vx23_34) rfl (by kernel_rfl) (by kernel_rfl) (by kernel_rfl) (fun _ _ _ h => h) (Or.inl ⟨by rfl, ?hyx23_34⟩) (by assumption) ?restx23_34
  case hyx23_34 => (intro w hSw; have F := Ok.sees hSw; clear hSw; simp only [sees, kBlk, cellsAt, Nat.reduceAdd] at F; go_simp; try with_reducible rfl)
  try simp only [Act.put, List.setIfInBounds_toArray, List.set_cons_zero, List.set_cons_succ, List.getElem_toArray, List.getElem_cons_succ, List.getElem_cons_zero]
  refine wpAnyH_take (i := 35) (v := ?vx24_35) rfl (by kernel_rfl) (by kernel_rfl) (by kernel_rfl) (fun _ _ _ h => h) (Or.inl ⟨by rfl, ?hyx24_35⟩) (by assumption) ?restx24_35
  case hyx24_35 => (intro w hSw; have F := Ok.sees hSw; clear hSw; simp only [sees, kBlk, cellsAt, Nat.reduceAdd] at F; go_simp; try with_reducible rfl)
  try simp only [Act.put, List.setIfInBounds_toArray, List.set_cons_zero, List.set_cons_succ, List.getElem_toArray, List.getElem_cons_succ, List.getElem_cons_zero]
  refine wpAnyH_ready (rs := [31]) (by kernel_rfl) (by simp) ?_
  refine AllReadyH.cons rfl (fun K hK => ?_) AllReadyH.nil
  go_simp
  refine (law_number 2 _ (by decide) (by decide)).mono ?_
  rintro e w41 ⟨rfl, hb42⟩
  go_wp2_with fail
  have H43 := Lib.hid (H40.out.below hb42)
  clear hb42 H40
  refine hK.out _ _ (H43.out.tail.tail) (fun hHeld => ?_)
  clear hK K
  try simp only [Act.put, List.setIfInBounds_toArray, List.set_cons_zero, List.set_cons_succ, List.getElem_toArray, List.getElem_cons_succ, List.getElem_cons_zero]
  refine wpAnyH_ready (rs := [32]) (by kernel_rfl) (by simp) ?_
  refine AllReadyH.cons rfl (fun K hK => ?_) AllReadyH.nil
  go_simp
  refine (law_number 3 _ (by decide) (by decide)).mono ?_
  rintro e w44 ⟨rfl, hb45⟩
  go_wp2_with fail
  have H46 := Lib.hid (H43.out.below hb45)
  clear hb45 H43
  refine hK.out _ _ (H46.out.tail.tail) (fun hHeld => ?_)
  clear hK K
  try simp only [Act.put, List.setIfInBounds_toArray, List.set_cons_zero, List.set_cons_succ, List.getElem_toArray, List.getElem_cons_succ, List.getElem_cons_zero]
  refine wpAnyH_ready (rs := [33]) (by kernel_rfl) (by simp) ?_
  refine AllReadyH.cons rfl (fun K hK => ?_) AllReadyH.nil
  go_simp
  refine (law_number 2 _ (by decide) (by decide)).mono ?_
  rintro e w47 ⟨rfl, hb48⟩
  go_wp2_with fail
  have H49 := Lib.hid (H46.out.below hb48)
  clear hb48 H46
  refine hK.out _ _ (H49.out.tail.tail) (fun hHeld => ?_)
  clear hK K
  try simp only [Act.put, List.setIfInBounds_toArray, List.set_cons_zero, List.set_cons_succ, List.getElem_toArray, List.getElem_cons_succ, List.getElem_cons_zero]
  refine wpAnyH_ready (rs := [36]) (by kernel_rfl) (by simp) ?_
  refine AllReadyH.cons rfl (fun K hK => ?_) AllReadyH.nil
  go_simp
  have H50 := Lib.hid (H49.out.alloc (w47.heap.size) 46 [.int .u8 1, .int .u8 1, .int .i64 20000, .string ⟨#[]⟩, .int .i64 0, .int .i64 0, .int .i64 0, .int .i64 0, .int .i64 0, .int .u8 0, .int .i64 0, .int .u8 1, .int .u8 1, .int .i64 30000, .string ⟨#[]⟩, .int .i64 0, .int .i64 0, .int .i64 0, .int .i64 0, .int .i64 0, .int .u8 0, .int .i64 0, .int .u8 1, .int .u8 1, .int .i64 20000, .string ⟨#[]⟩, .int .i64 0, .int .i64 0, .int .i64 0, .int .i64 0, .int .i64 0, .int .u8 0, .int .i64 0, .int .u8 6, .int .u8 0, .int .i64 0, .string ⟨#[]⟩, .int .i64 0, .int .i64 0, .int .i64 0, .int .i64 0, .int .i64 5, .int .u8 0, .int .i64 0, .int .u8 6, .int .u8 0, .int .i64 0, .string ⟨#[]⟩, .int .i64 0, .int .i64 0, .int .i64 0, .int .i64 0, .int .i64 5, .int .u8 0, .int .i64 0] rfl)
  clear H49
  refine hK.out _ _ (H50.out.tail.tail.tail) (fun hHeld => ?_)
  clear hK K
  try simp only [Act.put, List.setIfInBounds_toArray, List.set_cons_zero, List.set_cons_succ, List.getElem_toArray, List.getElem_cons_succ, List.getElem_cons_zero]
  generalize (w47.alloc (.cells #[.int .u8 1, .int .u8 1, .int .i64 20000, .string ⟨#[]⟩, .int .i64 0, .int .i64 0, .int .i64 0, .int .i64 0, .int .i64 0, .int .u8 0, .int .i64 0, .int .u8 1, .int .u8 1, .int .i64 30000, .string ⟨#[]⟩, .int .i64 0, .int .i64 0, .int .i64 0, .int .i64 0, .int .i64 0, .int .u8 0, .int .i64 0, .int .u8 1, .int .u8 1, .int .i64 20000, .string ⟨#[]⟩, .int .i64 0, .int .i64 0, .int .i64 0, .int .i64 0, .int .i64 0, .int .u8 0, .int .i64 0, .int .u8 6, .int .u8 0, .int .i64 0, .string ⟨#[]⟩, .int .i64 0, .int .i64 0, .int .i64 0, .int .i64 0, .int .i64 5, .int .u8 0, .int .i64 0, .int .u8 6, .int .u8 0, .int .i64 0, .string ⟨#[]⟩, .int .i64 0, .int .i64 0, .int .i64 0, .int .i64 0, .int .i64 5, .int .u8 0, .int .i64 0] 46)) = W51 at H50 hHeld ⊢
  refine wpAnyH_ready (rs := [37]) (by kernel_rfl) (by simp) ?_
  refine AllReadyH.cons rfl (fun K hK => ?_) AllReadyH.nil
  have h9 := H50.out.all _ (List.mem_cons_self ..)
  have hb9 : Blk W51 (w47.heap.size) 46 (ndCells [ndNum 20000, ndNum 30000, ndNum 20000, ndBin 5, ndBin 5]).toArray := h9
  clear h9
  have hr9 := (rows_get (l := [ndNum 20000, ndNum 30000, ndNum 20000, ndBin 5, ndBin 5]) (H50.out.get (kRow w.heap.size 46 11 (.slice ac 5 cc) 5 (ndCells [ndNum 20000, ndNum 30000, ndNum 20000, ndBin 5, ndBin 5])) (by simp))).2
  go_simp
  refine (equal_tree [ndNum 20000, ndNum 30000, ndNum 20000, ndBin 5, ndBin 5] ac (some ⟨w47.heap.size, 0, none⟩) cc 5 W51 (by decide) hr9 (rows_blk hb9)).mono ?_
  rintro e w52 ⟨rfl, hb53⟩
  go_wp2_with fail
  have H54 := Lib.hid (H50.out.below hb53)
  clear hb53 H50
  clear hb9 hr9
  refine hK.out _ _ (H54.out.tail.tail.tail) (fun hHeld => ?_)
  clear hK K
  try simp only [Act.put, List.setIfInBounds_toArray, List.set_cons_zero, List.set_cons_succ, List.getElem_toArray, List.getElem_cons_succ, List.getElem_cons_zero]
  refine wpAnyH_take (i := 38) (v := ?vx25_38) rfl (by kernel_rfl) (by kernel_rfl) (by kernel_rfl) (fun _ _ _ h => h) (Or.inl ⟨by rfl, ?hyx25_38⟩) (by assumption) ?restx25_38
  case hyx25_38 => (intro w hSw; have F := Ok.sees hSw; clear hSw; simp only [sees, kBlk, cellsAt, Nat.reduceAdd] at F; go_simp; try with_reducible rfl)
  try simp only [Act.put, List.setIfInBounds_toArray, List.set_cons_zero, List.set_cons_succ, List.getElem_toArray, List.getElem_cons_succ, List.getElem_cons_zero]
  refine wpAnyH_take (i := 39) (v := ?vx26_39) rfl (by kernel_rfl) (by kernel_rfl) (by kernel_rfl) (fun _ _ _ h => h) (Or.inl ⟨by rfl, ?hyx26_39⟩) (by assumption) ?restx26_39
  case hyx26_39 => (intro w hSw; have F := Ok.sees hSw; clear hSw; simp only [sees, kBlk, cellsAt, Nat.reduceAdd] at F; go_simp; try with_reducible rfl)
  try simp only [Act.put, List.setIfInBounds_toArray, List.set_cons_zero, List.set_cons_succ, List.getElem_toArray, List.getElem_cons_succ, List.getElem_cons_zero]
  refine wpAnyH_take (i := 40) (v := ?vx27_40) rfl (by kernel_rfl) (by kernel_rfl) (by kernel_rfl) (fun _ _ _ h => h) (Or.inl ⟨by rfl, ?hyx27_40⟩) (by assumption) ?restx27_40
  case hyx27_40 => (intro w hSw; have F := Ok.sees hSw; clear hSw; simp only [sees, kBlk, cellsAt, Nat.reduceAdd] at F; go_simp; try with_reducible rfl)
  try simp only [Act.put, List.setIfInBounds_toArray, List.set_cons_zero, List.set_cons_succ, List.getElem_toArray, List.getElem_cons_succ, List.getElem_cons_zero]
  refine wpAnyH_take (i := 41) (v := ?vx28_41) rfl (by kernel_rfl) (by kernel_rfl) (by kernel_rfl) (fun _ _ _ h => h) (Or.inl ⟨by rfl, ?hyx28_41⟩) (by assumption) ?restx28_41
  case hyx28_41 => (intro w hSw; have F := Ok.sees hSw; clear hSw; simp only [sees, kBlk, cellsAt, Nat.reduceAdd] at F; go_simp; try with_reducible rfl)
  try simp only [Act.put, List.setIfInBounds_toArray, List.set_cons_zero, List.set_cons_succ, List.getElem_toArray, List.getElem_cons_succ, List.getElem_cons_zero]
  refine wpAnyH_take (i := 42) (v := ?vx29_42) rfl (by kernel_rfl) (by kernel_rfl) (by kernel_rfl) (fun _ _ _ h => h) (Or.inl ⟨by rfl, ?hyx29_42⟩) (by assumption) ?restx29_42
  case hyx29_42 => (intro w hSw; have F := Ok.sees hSw; clear hSw; simp only [sees, kBlk, cellsAt, Nat.reduceAdd] at F; go_simp; try with_reducible rfl)
  try simp only [Act.put, List.setIfInBounds_toArray, List.set_cons_zero, List.set_cons_succ, List.getElem_toArray, List.getElem_cons_succ, List.getElem_cons_zero]
  refine wpAnyH_take (i := 43) (v := ?vx30_43) rfl (by kernel_rfl) (by kernel_rfl) (by kernel_rfl) (fun _ _ _ h => h) (Or.inl ⟨by rfl, ?hyx30_43⟩) (by assumption) ?restx30_43
  case hyx30_43 => (intro w hSw; have F := Ok.sees hSw; clear hSw; simp only [sees, kBlk, cellsAt, Nat.reduceAdd] at F; go_simp; try with_reducible rfl)
  try simp only [Act.put, List.setIfInBounds_toArray, List.set_cons_zero, List.set_cons_succ, List.getElem_toArray, List.getElem_cons_succ, List.getElem_cons_zero]
  refine wpAnyH_take (i := 44) (v := ?vx31_44) rfl (by kernel_rfl) (by kernel_rfl) (by kernel_rfl) (fun _ _ _ h => h) (Or.inl ⟨by rfl, ?hyx31_44⟩) (by assumption) ?restx31_44
  case hyx31_44 => (intro w hSw; have F := Ok.sees hSw; clear hSw; simp only [sees, kBlk, cellsAt, Nat.reduceAdd] at F; go_simp; try with_reducible rfl)
  try simp only [Act.put, List.setIfInBounds_toArray, List.set_cons_zero, List.set_cons_succ, List.getElem_toArray, List.getElem_cons_succ, List.getElem_cons_zero]
  refine wpAnyH_take (i := 45) (v := ?vx32_45) rfl (by kernel_rfl) (by kernel_rfl) (by kernel_rfl) (fun _ _ _ h => h) (Or.inl ⟨by rfl, ?hyx32_45⟩) (by assumption) ?restx32_45
  case hyx32_45 => (intro w hSw; have F := Ok.sees hSw; clear hSw; simp only [sees, kBlk, cellsAt, Nat.reduceAdd] at F; go_simp; try with_reducible rfl)
  try simp only [Act.put, List.setIfInBounds_toArray, List.set_cons_zero, List.set_cons_succ, List.getElem_toArray, List.getElem_cons_succ, List.getElem_cons_zero]
  refine wpAnyH_take (i := 46) (v := ?vx33_46) rfl (by kernel_rfl) (by kernel_rfl) (by kernel_rfl) (fun _ _ _ h => h) (Or.inl ⟨by rfl, ?hyx33_46⟩) (by assumption) ?restx33_46
  case hyx33_46 => (intro w hSw; have F := Ok.sees hSw; clear hSw; simp only [sees, kBlk, cellsAt, Nat.reduceAdd] at F; go_simp; try with_reducible rfl)
  try simp only [Act.put, List.setIfInBounds_toArray, List.set_cons_zero, List.set_cons_succ, List.getElem_toArray, List.getElem_cons_succ, List.getElem_cons_zero]
  refine wpAnyH_take (i := 47) (v := ?vx34_47) rfl (by kernel_rfl) (by kernel_rfl) (by kernel_rfl) (fun _ _ _ h => h) (Or.inl ⟨by rfl, ?hyx34_47⟩) (by assumption) ?restx34_47
  case hyx34_47 => (intro w hSw; have F := Ok.sees hSw; clear hSw; simp only [sees, kBlk, cellsAt, Nat.reduceAdd] at F; go_simp; try with_reducible rfl)
  try simp only [Act.put, List.setIfInBounds_toArray, List.set_cons_zero, List.set_cons_succ, List.getElem_toArray, List.getElem_cons_succ, List.getElem_cons_zero]
  refine wpAnyH_take (i := 48) (v := ?vx35_48) rfl (by kernel_rfl) (by kernel_rfl) (by kernel_rfl) (fun _ _ _ h => h) (Or.inl ⟨by rfl, ?hyx35_48⟩) (by assumption) ?restx35_48
  case hyx35_48 => (intro w hSw; have F := Ok.sees hSw; clear hSw; simp only [sees, kBlk, cellsAt, Nat.reduceAdd] at F; go_simp; try with_reducible rfl)
  try simp only [Act.put, List.setIfInBounds_toArray, List.set_cons_zero, List.set_cons_succ, List.getElem_toArray, List.getElem_cons_succ, List.getElem_cons_zero]
  refine wpAnyH_take (i := 49) (v := ?vx36_49) rfl (by kernel_rfl) (by kernel_rfl) (by kernel_rfl) (fun _ _ _ h => h) (Or.inl ⟨by rfl, ?hyx36_49⟩) (by assumption) ?restx36_49
  case hyx36_49 => (intro w hSw; have F := Ok.sees hSw; clear hSw; simp only [sees, kBlk, cellsAt, Nat.reduceAdd] at F; go_simp; try with_reducible rfl)
  try simp only [Act.put, List.setIfInBounds_toArray, List.set_cons_zero, List.set_cons_succ, List.getElem_toArray, List.getElem_cons_succ, List.getElem_cons_zero]
  refine wpAnyH_take (i := 50) (v := ?vx37_50) rfl (by kernel_rfl) (by kernel_rfl) (by kernel_rfl) (fun _ _ _ h => h) (Or.inl ⟨by rfl, ?hyx37_50⟩) (by assumption) ?restx37_50
  case hyx37_50 => (intro w hSw; have F := Ok.sees hSw; clear hSw; simp only [sees, kBlk, cellsAt, Nat.reduceAdd] at F; go_simp; try with_reducible rfl)
  try simp only [Act.put, List.setIfInBounds_toArray, List.set_cons_zero, List.set_cons_succ, List.getElem_toArray, List.getElem_cons_succ, List.getElem_cons_zero]
  refine wpAnyH_take (i := 51) (v := ?vx38_51) rfl (by kernel_rfl) (by kernel_rfl) (by kernel_rfl) (fun _ _ _ h => h) (Or.inl ⟨by rfl, ?hyx38_51⟩) (by assumption) ?restx38_51
  case hyx38_51 => (intro w hSw; have F := Ok.sees hSw; clear hSw; simp only [sees, kBlk, cellsAt, Nat.reduceAdd] at F; go_simp; try with_reducible rfl)
  try simp only [Act.put, List.setIfInBounds_toArray, List.set_cons_zero, List.set_cons_succ, List.getElem_toArray, List.getElem_cons_succ, List.getElem_cons_zero]
  refine wpAnyH_take (i := 52) (v := ?vx39_52) rfl (by kernel_rfl) (by kernel_rfl) (by kernel_rfl) (fun _ _ _ h => h) (Or.inl ⟨by rfl, ?hyx39_52⟩) (by assumption) ?restx39_52
  case hyx39_52 => (intro w hSw; have F := Ok.sees hSw; clear hSw; simp only [sees, kBlk, cellsAt, Nat.reduceAdd] at F; go_simp; try with_reducible rfl)
  try simp only [Act.put, List.setIfInBounds_toArray, List.set_cons_zero, List.set_cons_succ, List.getElem_toArray, List.getElem_cons_succ, List.getElem_cons_zero]
  refine wpAnyH_take (i := 53) (v := ?vx40_53) rfl (by kernel_rfl) (by kernel_rfl) (by kernel_rfl) (fun _ _ _ h => h) (Or.inl ⟨by rfl, ?hyx40_53⟩) (by assumption) ?restx40_53
  case hyx40_53 => (intro w hSw; have F := Ok.sees hSw; clear hSw; simp only [sees, kBlk, cellsAt, Nat.reduceAdd] at F; go_simp; try with_reducible rfl)
  try simp only [Act.put, List.setIfInBounds_toArray, List.set_cons_zero, List.set_cons_succ, List.getElem_toArray, List.getElem_cons_succ, List.getElem_cons_zero]
  refine wpAnyH_take (i := 54) (v := ?vx41_54) rfl (by kernel_rfl) (by kernel_rfl) (by kernel_rfl) (fun _ _ _ h => h) (Or.inl ⟨by rfl, ?hyx41_54⟩) (by assumption) ?restx41_54
  case hyx41_54 => (intro w hSw; have F := Ok.sees hSw; clear hSw; simp only [sees, kBlk, cellsAt, Nat.reduceAdd] at F; go_simp; try with_reducible rfl)
  try simp only [Act.put, List.setIfInBounds_toArray, List.set_cons_zero, List.set_cons_succ, List.getElem_toArray, List.getElem_cons_succ, List.getElem_cons_zero]
  refine wpAnyH_take (i := 55) (v := ?vx42_55) rfl (by kernel_rfl) (by kernel_rfl) (by kernel_rfl) (fun _ _ _ h => h) (Or.inl ⟨by rfl, ?hyx42_55⟩) (by assumption) ?restx42_55
  case hyx42_55 => (intro w hSw; have F := Ok.sees hSw; clear hSw; simp only [sees, kBlk, cellsAt, Nat.reduceAdd] at F; go_simp; try with_reducible rfl)
  try simp only [Act.put, List.setIfInBounds_toArray, List.set_cons_zero, List.getElem_toArray, List.getElem_cons_succ, List.getElem_cons_zero]
  refine wpAnyH_done (by kernel_rfl) ?_ _
  clear hHeld
  go_wp2_with fail
  go_ret
  exact ⟨rfl, H54.out.bel⟩
end Go.Proofs.YtlngjiibbcgkmaaDoor
