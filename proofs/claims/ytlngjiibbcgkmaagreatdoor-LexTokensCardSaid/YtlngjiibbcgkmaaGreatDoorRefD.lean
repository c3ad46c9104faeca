/- Contracts of the reference's error names, operators, and of its lexer's sign. -/
import Derived.Test.YtlngjiibbcgkmaaGreatDoorRefC
namespace Go.Proofs.YtlngjiibbcgkmaaGreatDoor
open Go.RowKit

/-- how an error is shown; nothing if there is none of this number -/
def errT (c : Int) : List UInt8 := if 1 ≤ c ∧ c ≤ 7 then allNames[c.toNat]?.getD [] else []
theorem ref5_Fail7 (w : World) :
    Calls Tryz.prog 122 #[.int .i64 7] w fun e w' => e = .returned (.agg #[.int .u8 4, .int .i64 7, .string ⟨#[]⟩]) ∧ Below w.heap.size w w' := by
  go_enter Tryz.func122, Tryz.ntmps122
  have H0 := Lib.hid (Ok.start w)
  go_upto_region 1 with fail
  have H1 := Lib.hid (H0.out.var w.heap.size 28 [.int .u8 0, .int .i64 0, .string ⟨#[]⟩] rfl)
  clear H0
  generalize (w.alloc (.cells #[.int .u8 0, .int .i64 0, .string ⟨#[]⟩] 28)) = W2 at H1 ⊢
  have F3 := H1.out.sees
  simp only [sees, kVar, cellsAt, Nat.reduceAdd] at F3
  obtain ⟨⟨⟨z0, fz0⟩, c0_0, c0_1, c0_2, -⟩, -⟩ := F3
  go_wp2_with fail
  have hK := H1.out.get (kVar (w.heap.size) 28 [.int .u8 0, .int .i64 0, .string ⟨#[]⟩]) (by simp)
  have hB := H1.out.bel
  have hE := ((((show Blk W2 (w.heap.size) 28 _ from hK).set_ 0 (.int .u8 4)).set_ 1 (.int .i64 7)).set_ 2 (.string ⟨#[]⟩))
  have r0 := hE.cell 0
  have r1 := hE.cell 1
  have r2 := hE.cell 2
  simp at r0 r1 r2
  exact bodyPost_ret (v := .agg #[.int .u8 4, .int .i64 7, .string ⟨#[]⟩]) (by simp [results, Tryz.results122, go_sem, r0, r1, r2]) rfl ⟨rfl, (((hB.setCell (by simp) _).setCell (by simp) _).setCell (by simp) _)⟩
theorem ref5_Name (c : Int) (w : World) :
    Calls Tryz.prog 123 #[.int .i64 c] w fun e w' => e = .returned (.string ⟨(errT c).toArray⟩) ∧ w' = w := by
  rcases (show c = 1 ∨ c = 2 ∨ c = 3 ∨ c = 4 ∨ c = 5 ∨ c = 6 ∨ c = 7 ∨ ¬ (1 ≤ c ∧ c ≤ 7) by omega) with rfl | rfl | rfl | rfl | rfl | rfl | rfl | h
  iterate 7
    · go_enter Tryz.func123, Tryz.ntmps123
      go_wp2_with fail
      go_ret
      exact ⟨rfl, rfl⟩
  · have HE := keep (show errT c = [] from if_neg h)
    have h1 : (c == 1) = false := by simp; omega
    have h2 : (c == 2) = false := by simp; omega
    have h3 : (c == 3) = false := by simp; omega
    have h4 : (c == 4) = false := by simp; omega
    have h5 : (c == 5) = false := by simp; omega
    have h6 : (c == 6) = false := by simp; omega
    have h7 : (c == 7) = false := by simp; omega
    clear h
    go_enter Tryz.func123, Tryz.ntmps123
    go_wp2_with fail
    go_ret
    exact ⟨by rw [HE.out]; rfl, rfl⟩
set_option maxRecDepth 100000 in
theorem ref5_CheckE (c : Int) (w : World) :
    Calls Tryz.prog 124 #[.agg #[.int .u8 4, .int .i64 c, .string ⟨#[]⟩]] w fun e w' => e = .returned (.int .i64 (if 1 ≤ c ∧ c ≤ 6 then 0 else 2)) ∧ Below w.heap.size w w' := by
  have hb := (Below.refl w.heap.size w).alloc (Nat.le_refl _) (.cells #[.int .u8 4, .int .i64 c, .string ⟨#[]⟩] 28)
  have HB := Lib.hid hb
  clear hb
  by_cases h1 : 1 ≤ c
  · by_cases h6 : c ≤ 6
    · have HE := keep (show (if 1 ≤ c ∧ c ≤ 6 then (0 : Int) else 2) = 0 from if_pos ⟨h1, h6⟩)
      rw [HE.out]
      go_enter Tryz.func124, Tryz.ntmps124
      go_wp2_with fail
      go_ret
      exact ⟨rfl, HB.out⟩
    · have HE := keep (show (if 1 ≤ c ∧ c ≤ 6 then (0 : Int) else 2) = 2 from if_neg (fun h => h6 h.2))
      rw [HE.out]
      go_enter Tryz.func124, Tryz.ntmps124
      go_wp2_with fail
      go_ret
      exact ⟨rfl, HB.out⟩
  · have HE := keep (show (if 1 ≤ c ∧ c ≤ 6 then (0 : Int) else 2) = 2 from if_neg (fun h => h1 h.1))
    rw [HE.out]
    go_enter Tryz.func124, Tryz.ntmps124
    go_wp2_with fail
    go_ret
    exact ⟨rfl, HB.out⟩
set_option maxRecDepth 100000 in
set_option maxHeartbeats 2000000 in
theorem ref5_Show (c : Int) (w : World) :
    Calls Tryz.prog 83 #[.agg #[.int .u8 4, .int .i64 c, .string ⟨#[]⟩]] w fun e w' => e = .returned (.string ⟨(errT c).toArray⟩) ∧ Below w.heap.size w w' := by
  by_cases h7 : c = 7
  · subst h7
    have H1 := Lib.hid ((Ok.start w).alloc w.heap.size 28 [.int .u8 4, .int .i64 7, .string ⟨#[]⟩] rfl)
    go_enter Tryz.func83, Tryz.ntmps83
    go_wp2_with fail
    generalize (w.alloc (.cells #[.int .u8 4, .int .i64 7, .string ⟨#[]⟩] 28)) = W2 at H1 ⊢
    refine wp_region_held_drew (S := fun W => Ok w [kBlk (w.heap.size) 28 [.int .u8 4, .int .i64 7, .string ⟨#[]⟩]] W) (by kernel_rfl) H1.out.drew (fun hHeld => ?_)
    refine wpAnyH_take (i := 0) (v := ?vx1_0) rfl (by kernel_rfl) (by kernel_rfl) (by kernel_rfl) (fun _ _ _ h => h) (Or.inl ⟨by rfl, ?hyx1_0⟩) (by assumption) ?restx1_0
    case hyx1_0 => (intro w hSw; have F := Ok.sees hSw; clear hSw; simp only [sees, kBlk, cellsAt, Nat.reduceAdd] at F; go_simp; try with_reducible rfl)
    try simp only [Act.put, List.setIfInBounds_toArray, List.set_cons_zero, List.set_cons_succ, List.getElem_toArray, List.getElem_cons_zero]
    refine wpAnyH_ready (rs := [1]) (by kernel_rfl) (by simp) ?_
    refine AllReadyH.cons rfl (fun K hK => ?_) AllReadyH.nil
    go_simp
    refine (ref5_Fail7 _).mono ?_
    rintro e w4 ⟨rfl, hb5⟩
    go_wp2_with fail
    refine hK.out _ _ (hHeld.below hb5) (fun hHeld => ?_)
    clear hK K
    try simp only [Act.put, List.setIfInBounds_toArray, List.set_cons_zero, List.set_cons_succ, List.getElem_toArray, List.getElem_cons_succ, List.getElem_cons_zero]
    refine wpAnyH_take (i := 2) (v := ?vx2_2) rfl (by kernel_rfl) (by kernel_rfl) (by kernel_rfl) (fun _ _ _ h => h) (Or.inl ⟨by rfl, ?hyx2_2⟩) (by assumption) ?restx2_2
    case hyx2_2 => (intro w hSw; have F := Ok.sees hSw; clear hSw; simp only [sees, kBlk, cellsAt, Nat.reduceAdd] at F; go_simp; try with_reducible rfl)
    try simp only [Act.put, List.setIfInBounds_toArray, List.set_cons_zero, List.set_cons_succ, List.getElem_toArray, List.getElem_cons_succ, List.getElem_cons_zero]
    refine wpAnyH_done (by kernel_rfl) ?_ _
    clear H1
    have H6 := Lib.hid hHeld
    clear hHeld
    have F7 := H6.out.sees
    simp only [sees, kBlk, cellsAt, Nat.reduceAdd] at F7
    obtain ⟨⟨z0, c0_0, c0_1, c0_2, -⟩, -⟩ := F7
    go_wp2_with fail
    refine (ref5_Name 7 _).mono ?_
    rintro e wz9 ⟨rfl, hw9⟩
    obtain rfl : w4 = wz9 := hw9.symm
    go_wp2_with fail
    go_ret
    exact ⟨rfl, H6.out.bel⟩
  · have h7b : (c == 7) = false := by simpa using h7
    have H7 := keep h7
    clear h7
    by_cases h16 : 1 ≤ c ∧ c ≤ 6
    · have HC := keep (show (if 1 ≤ c ∧ c ≤ 6 then (0 : Int) else 2) = 0 from if_pos h16)
      clear h16
      have H1 := Lib.hid ((Ok.start w).alloc w.heap.size 28 [.int .u8 4, .int .i64 c, .string ⟨#[]⟩] rfl)
      go_enter Tryz.func83, Tryz.ntmps83
      go_wp2_with fail
      generalize (w.alloc (.cells #[.int .u8 4, .int .i64 c, .string ⟨#[]⟩] 28)) = W2 at H1 ⊢
      refine wp_region_held_drew (S := fun W => Ok w [kBlk (w.heap.size) 28 [.int .u8 4, .int .i64 c, .string ⟨#[]⟩]] W) (by kernel_rfl) H1.out.drew (fun hHeld => ?_)
      refine wpAnyH_take (i := 0) (v := ?vx3_0) rfl (by kernel_rfl) (by kernel_rfl) (by kernel_rfl) (fun _ _ _ h => h) (Or.inl ⟨by rfl, ?hyx3_0⟩) (by assumption) ?restx3_0
      case hyx3_0 => (intro w hSw; have F := Ok.sees hSw; clear hSw; simp only [sees, kBlk, cellsAt, Nat.reduceAdd] at F; go_simp; try with_reducible rfl)
      try simp only [Act.put, List.setIfInBounds_toArray, List.set_cons_zero, List.set_cons_succ, List.getElem_toArray, List.getElem_cons_zero]
      refine wpAnyH_ready (rs := [1]) (by kernel_rfl) (by simp) ?_
      refine AllReadyH.cons rfl (fun K hK => ?_) AllReadyH.nil
      go_simp
      refine (ref5_Fail7 _).mono ?_
      rintro e w4 ⟨rfl, hb5⟩
      go_wp2_with fail
      refine hK.out _ _ (hHeld.below hb5) (fun hHeld => ?_)
      clear hK K
      try simp only [Act.put, List.setIfInBounds_toArray, List.set_cons_zero, List.set_cons_succ, List.getElem_toArray, List.getElem_cons_succ, List.getElem_cons_zero]
      refine wpAnyH_take (i := 2) (v := ?vx4_2) rfl (by kernel_rfl) (by kernel_rfl) (by kernel_rfl) (fun _ _ _ h => h) (Or.inl ⟨by rfl, ?hyx4_2⟩) (by assumption) ?restx4_2
      case hyx4_2 => (intro w hSw; have F := Ok.sees hSw; clear hSw; simp only [sees, kBlk, cellsAt, Nat.reduceAdd] at F; go_simp; try with_reducible rfl)
      try simp only [Act.put, List.setIfInBounds_toArray, List.set_cons_zero, List.set_cons_succ, List.getElem_toArray, List.getElem_cons_succ, List.getElem_cons_zero]
      refine wpAnyH_done (by kernel_rfl) ?_ _
      clear H1
      have H6 := Lib.hid hHeld
      clear hHeld
      have F7 := H6.out.sees
      simp only [sees, kBlk, cellsAt, Nat.reduceAdd] at F7
      obtain ⟨⟨z0, c0_0, c0_1, c0_2, -⟩, -⟩ := F7
      go_wp2_with fail
      refine (ref5_CheckE c _).mono ?_
      rintro e w8 ⟨rfl, hb9⟩
      rw [HC.out]
      clear z0 c0_0 c0_1 c0_2
      have H10 := Lib.hid (H6.out.below hb9)
      clear hb9 H6
      have F11 := H10.out.sees
      simp only [sees, kBlk, cellsAt, Nat.reduceAdd] at F11
      obtain ⟨⟨z0, c0_0, c0_1, c0_2, -⟩, -⟩ := F11
      go_wp2_with fail
      refine (ref5_Name c _).mono ?_
      rintro e wz9 ⟨rfl, hw9⟩
      obtain rfl : w8 = wz9 := hw9.symm
      go_wp2_with fail
      go_ret
      exact ⟨rfl, H10.out.bel⟩
    · have HC := keep (show (if 1 ≤ c ∧ c ≤ 6 then (0 : Int) else 2) = 2 from if_neg h16)
      have HE := keep (show errT c = [] from if_neg (by have := H7.out; omega))
      clear h16
      have H1 := Lib.hid ((Ok.start w).alloc w.heap.size 28 [.int .u8 4, .int .i64 c, .string ⟨#[]⟩] rfl)
      go_enter Tryz.func83, Tryz.ntmps83
      go_wp2_with fail
      generalize (w.alloc (.cells #[.int .u8 4, .int .i64 c, .string ⟨#[]⟩] 28)) = W2 at H1 ⊢
      refine wp_region_held_drew (S := fun W => Ok w [kBlk (w.heap.size) 28 [.int .u8 4, .int .i64 c, .string ⟨#[]⟩]] W) (by kernel_rfl) H1.out.drew (fun hHeld => ?_)
      refine wpAnyH_take (i := 0) (v := ?vx5_0) rfl (by kernel_rfl) (by kernel_rfl) (by kernel_rfl) (fun _ _ _ h => h) (Or.inl ⟨by rfl, ?hyx5_0⟩) (by assumption) ?restx5_0
      case hyx5_0 => (intro w hSw; have F := Ok.sees hSw; clear hSw; simp only [sees, kBlk, cellsAt, Nat.reduceAdd] at F; go_simp; try with_reducible rfl)
      try simp only [Act.put, List.setIfInBounds_toArray, List.set_cons_zero, List.set_cons_succ, List.getElem_toArray, List.getElem_cons_zero]
      refine wpAnyH_ready (rs := [1]) (by kernel_rfl) (by simp) ?_
      refine AllReadyH.cons rfl (fun K hK => ?_) AllReadyH.nil
      go_simp
      refine (ref5_Fail7 _).mono ?_
      rintro e w4 ⟨rfl, hb5⟩
      go_wp2_with fail
      refine hK.out _ _ (hHeld.below hb5) (fun hHeld => ?_)
      clear hK K
      try simp only [Act.put, List.setIfInBounds_toArray, List.set_cons_zero, List.set_cons_succ, List.getElem_toArray, List.getElem_cons_succ, List.getElem_cons_zero]
      refine wpAnyH_take (i := 2) (v := ?vx6_2) rfl (by kernel_rfl) (by kernel_rfl) (by kernel_rfl) (fun _ _ _ h => h) (Or.inl ⟨by rfl, ?hyx6_2⟩) (by assumption) ?restx6_2
      case hyx6_2 => (intro w hSw; have F := Ok.sees hSw; clear hSw; simp only [sees, kBlk, cellsAt, Nat.reduceAdd] at F; go_simp; try with_reducible rfl)
      try simp only [Act.put, List.setIfInBounds_toArray, List.set_cons_zero, List.set_cons_succ, List.getElem_toArray, List.getElem_cons_succ, List.getElem_cons_zero]
      refine wpAnyH_done (by kernel_rfl) ?_ _
      clear H1
      have H6 := Lib.hid hHeld
      clear hHeld
      have F7 := H6.out.sees
      simp only [sees, kBlk, cellsAt, Nat.reduceAdd] at F7
      obtain ⟨⟨z0, c0_0, c0_1, c0_2, -⟩, -⟩ := F7
      go_wp2_with fail
      refine (ref5_CheckE c _).mono ?_
      rintro e w8 ⟨rfl, hb9⟩
      rw [HC.out]
      clear z0 c0_0 c0_1 c0_2
      have H10 := Lib.hid (H6.out.below hb9)
      clear hb9 H6
      have F11 := H10.out.sees
      simp only [sees, kBlk, cellsAt, Nat.reduceAdd] at F11
      obtain ⟨⟨z0, c0_0, c0_1, c0_2, -⟩, -⟩ := F11
      go_wp2_with fail
      go_ret
      exact ⟨by rw [HE.out]; rfl, H10.out.bel⟩
set_option maxHeartbeats 2000000 in
theorem ref7_Operator (c : Int) (w : World) :
    Calls Tryz.prog 86 #[.int .i64 c] w fun e w' => e = .returned (.string ⟨(opText c).toArray⟩) ∧ w' = w := by
  rcases (show c = 1 ∨ c = 2 ∨ c = 3 ∨ c = 4 ∨ c = 5 ∨ c = 6 ∨ c = 7 ∨ c = 8 ∨ c = 9 ∨ c = 10 ∨ c = 11 ∨ c = 12 ∨ c = 13 ∨ ¬ (1 ≤ c ∧ c ≤ 13) by omega) with rfl | rfl | rfl | rfl | rfl | rfl | rfl | rfl | rfl | rfl | rfl | rfl | rfl | h
  iterate 13
    · go_enter Tryz.func86, Tryz.ntmps86
      go_wp2_with fail
      go_ret
      exact ⟨rfl, rfl⟩
  · have HE := keep (show opText c = [] by unfold opText; rw [if_neg (by omega), if_neg (by omega), if_neg (by omega), if_neg (by omega), if_neg (by omega), if_neg (by omega), if_neg (by omega), if_neg (by omega), if_neg (by omega), if_neg (by omega), if_neg (by omega), if_neg (by omega), if_neg (by omega)])
    have h1 : (c == 1) = false := by simp; omega
    have h2 : (c == 2) = false := by simp; omega
    have h3 : (c == 3) = false := by simp; omega
    have h4 : (c == 4) = false := by simp; omega
    have h5 : (c == 5) = false := by simp; omega
    have h6 : (c == 6) = false := by simp; omega
    have h7 : (c == 7) = false := by simp; omega
    have h8 : (c == 8) = false := by simp; omega
    have h9 : (c == 9) = false := by simp; omega
    have h10 : (c == 10) = false := by simp; omega
    have h11 : (c == 11) = false := by simp; omega
    have h12 : (c == 12) = false := by simp; omega
    have h13 : (c == 13) = false := by simp; omega
    clear h
    go_enter Tryz.func86, Tryz.ntmps86
    go_wp2_with fail
    go_ret
    exact ⟨by rw [HE.out]; rfl, rfl⟩
theorem err_none {l : List UInt8} (h : ∀ c : Nat, 1 ≤ c → c ≤ 5 → begB l (allNames[c]?.getD []) = false) : errS l = none := by
  have key : ∀ c, 1 ≤ c → c ≤ 5 → (l.take (allNames[c]?.getD []).length).map upB ≠ allNames[c]?.getD [] := fun c h1 h2 => by
    have h9 := h c h1 h2
    unfold begB at h9
    exact of_decide_eq_false h9
  show errF l (errNames.drop (1 - 1)) 1 = none
  rw [err_round l 1 (by decide) (by decide), if_neg (key 1 (by decide) (by decide))]
  show errF l (errNames.drop (2 - 1)) 2 = none
  rw [err_round l 2 (by decide) (by decide), if_neg (key 2 (by decide) (by decide))]
  show errF l (errNames.drop (3 - 1)) 3 = none
  rw [err_round l 3 (by decide) (by decide), if_neg (key 3 (by decide) (by decide))]
  show errF l (errNames.drop (4 - 1)) 4 = none
  rw [err_round l 4 (by decide) (by decide), if_neg (key 4 (by decide) (by decide))]
  show errF l (errNames.drop (5 - 1)) 5 = none
  rw [err_round l 5 (by decide) (by decide), if_neg (key 5 (by decide) (by decide))]
  rfl
theorem err_some {l : List UInt8} (c : Nat) (h1 : 1 ≤ c) (h5 : c ≤ 5) (hp : ∀ d : Nat, 1 ≤ d → d < c → begB l (allNames[d]?.getD []) = false) (h : begB l (allNames[c]?.getD []) = true) : errS l = some (c, (allNames[c]?.getD []).length) := by
  have key : ∀ d, 1 ≤ d → d < c → (l.take (allNames[d]?.getD []).length).map upB ≠ allNames[d]?.getD [] := fun d h1 h2 => by
    have h9 := hp d h1 h2
    unfold begB at h9
    exact of_decide_eq_false h9
  have hc : (l.take (allNames[c]?.getD []).length).map upB = allNames[c]?.getD [] := by unfold begB at h; exact of_decide_eq_true h
  have step : ∀ d, 1 ≤ d → d < c → errF l (errNames.drop (d - 1)) d = errF l (errNames.drop (d + 1 - 1)) (d + 1) := fun d h1 h2 => by
    rw [err_round l d h1 (by omega), if_neg (key d h1 h2)]
    rfl
  have walk : ∀ d, 1 ≤ d → d ≤ c → errF l (errNames.drop (1 - 1)) 1 = errF l (errNames.drop (d - 1)) d := by
    intro d
    induction d with
    | zero => intro h; omega
    | succ d ih =>
      intro h1 h2
      rcases Nat.eq_zero_or_pos d with rfl | hd
      · rfl
      · rw [ih hd (by omega), step d hd (by omega)]
  show errF l (errNames.drop (1 - 1)) 1 = _
  rw [walk c h1 (Nat.le_refl _), err_round l c h1 h5, if_pos hc]
theorem beg_pre {l x : List UInt8} (hx : ∀ b ∈ x, ¬ (65 ≤ b.toNat ∧ b.toNat ≤ 90) ∧ ¬ (97 ≤ b.toNat ∧ b.toNat ≤ 122)) : begB l x = true ↔ pre x l := by
  unfold begB pre
  rw [decide_eq_true_eq]
  constructor
  · intro e
    have key : ∀ b ∈ l.take x.length, upB b = b := by
      intro b hb
      have h1 : upB b ∈ x := by rw [← e]; exact List.mem_map_of_mem hb
      have h2 := (hx _ h1).1
      apply upB_same
      intro h3
      have := upB_low b h3
      omega
    have h4 : (l.take x.length).map upB = l.take x.length := (List.map_congr_left key).trans (List.map_id _)
    rw [h4] at e
    exact e
  · intro e
    have key : ∀ b ∈ l.take x.length, upB b = b := by
      intro b hb
      rw [e] at hb
      exact upB_same b (hx _ hb).2
    rw [(List.map_congr_left key).trans (List.map_id _)]
    exact e
/-- an operator of this length, of this number, begins here -/
def opAt (l : List UInt8) (n : Nat) (o : Int) : Prop := (opText o).length = n ∧ begB l (opText o) = true
theorem op_pre {l : List UInt8} {o : Int} : begB l (opText o) = true ↔ pre (opText o) l := by
  apply beg_pre
  by_cases h : 1 ≤ o ∧ o ≤ 13
  · rcases (show o = 1 ∨ o = 2 ∨ o = 3 ∨ o = 4 ∨ o = 5 ∨ o = 6 ∨ o = 7 ∨ o = 8 ∨ o = 9 ∨ o = 10 ∨ o = 11 ∨ o = 12 ∨ o = 13 by omega) with rfl | rfl | rfl | rfl | rfl | rfl | rfl | rfl | rfl | rfl | rfl | rfl | rfl <;> decide
  · have e : opText o = [] := by unfold opText; rw [if_neg (by omega), if_neg (by omega), if_neg (by omega), if_neg (by omega), if_neg (by omega), if_neg (by omega), if_neg (by omega), if_neg (by omega), if_neg (by omega), if_neg (by omega), if_neg (by omega), if_neg (by omega), if_neg (by omega)]
    rw [e]
    simp
theorem op_hit {l : List UInt8} {n : Nat} {o : Int} (h1 : 1 ≤ o) (h13 : o ≤ 13) (hn : n = 2 ∨ n = 1) (h : opAt l n o) (hp : ∀ x, 1 ≤ x → x < o → ¬ opAt l n x) (h2 : n = 1 → ∀ x, 1 ≤ x → x ≤ 13 → ¬ opAt l 2 x) : opS l = some (8, o, n) := by
  have hp' : ∀ x, 1 ≤ x → x < o → (opText x).length = n → ¬ pre (opText x) l := fun x a b c d => hp x a b ⟨c, op_pre.2 d⟩
  have h2' : n = 1 → ∀ x, 1 ≤ x → x ≤ 13 → (opText x).length = 2 → ¬ pre (opText x) l := fun e x a b c d => h2 e x a b ⟨c, op_pre.2 d⟩
  obtain ⟨hl, hb⟩ := h
  have hb := op_pre.1 hb
  clear hp h2
  rcases (show o = 1 ∨ o = 2 ∨ o = 3 ∨ o = 4 ∨ o = 5 ∨ o = 6 ∨ o = 7 ∨ o = 8 ∨ o = 9 ∨ o = 10 ∨ o = 11 ∨ o = 12 ∨ o = 13 by omega) with rfl | rfl | rfl | rfl | rfl | rfl | rfl | rfl | rfl | rfl | rfl | rfl | rfl
  · obtain rfl : n = 1 := by simpa [opText] using hl.symm
    refine sign_hit l 3 (by decide) (fun k hk => ?_) hb
    rcases (show k = 0 ∨ k = 1 ∨ k = 2 by omega) with rfl | rfl | rfl
    · exact h2' rfl 8 (by decide) (by decide) rfl
    · exact h2' rfl 10 (by decide) (by decide) rfl
    · exact h2' rfl 12 (by decide) (by decide) rfl
  · obtain rfl : n = 1 := by simpa [opText] using hl.symm
    refine sign_hit l 4 (by decide) (fun k hk => ?_) hb
    rcases (show k = 0 ∨ k = 1 ∨ k = 2 ∨ k = 3 by omega) with rfl | rfl | rfl | rfl
    · exact h2' rfl 8 (by decide) (by decide) rfl
    · exact h2' rfl 10 (by decide) (by decide) rfl
    · exact h2' rfl 12 (by decide) (by decide) rfl
    · exact hp' 1 (by decide) (by decide) rfl
  · obtain rfl : n = 1 := by simpa [opText] using hl.symm
    refine sign_hit l 5 (by decide) (fun k hk => ?_) hb
    rcases (show k = 0 ∨ k = 1 ∨ k = 2 ∨ k = 3 ∨ k = 4 by omega) with rfl | rfl | rfl | rfl | rfl
    · exact h2' rfl 8 (by decide) (by decide) rfl
    · exact h2' rfl 10 (by decide) (by decide) rfl
    · exact h2' rfl 12 (by decide) (by decide) rfl
    · exact hp' 1 (by decide) (by decide) rfl
    · exact hp' 2 (by decide) (by decide) rfl
  · obtain rfl : n = 1 := by simpa [opText] using hl.symm
    refine sign_hit l 6 (by decide) (fun k hk => ?_) hb
    rcases (show k = 0 ∨ k = 1 ∨ k = 2 ∨ k = 3 ∨ k = 4 ∨ k = 5 by omega) with rfl | rfl | rfl | rfl | rfl | rfl
    · exact h2' rfl 8 (by decide) (by decide) rfl
    · exact h2' rfl 10 (by decide) (by decide) rfl
    · exact h2' rfl 12 (by decide) (by decide) rfl
    · exact hp' 1 (by decide) (by decide) rfl
    · exact hp' 2 (by decide) (by decide) rfl
    · exact hp' 3 (by decide) (by decide) rfl
  · obtain rfl : n = 1 := by simpa [opText] using hl.symm
    refine sign_hit l 7 (by decide) (fun k hk => ?_) hb
    rcases (show k = 0 ∨ k = 1 ∨ k = 2 ∨ k = 3 ∨ k = 4 ∨ k = 5 ∨ k = 6 by omega) with rfl | rfl | rfl | rfl | rfl | rfl | rfl
    · exact h2' rfl 8 (by decide) (by decide) rfl
    · exact h2' rfl 10 (by decide) (by decide) rfl
    · exact h2' rfl 12 (by decide) (by decide) rfl
    · exact hp' 1 (by decide) (by decide) rfl
    · exact hp' 2 (by decide) (by decide) rfl
    · exact hp' 3 (by decide) (by decide) rfl
    · exact hp' 4 (by decide) (by decide) rfl
  · obtain rfl : n = 1 := by simpa [opText] using hl.symm
    refine sign_hit l 8 (by decide) (fun k hk => ?_) hb
    rcases (show k = 0 ∨ k = 1 ∨ k = 2 ∨ k = 3 ∨ k = 4 ∨ k = 5 ∨ k = 6 ∨ k = 7 by omega) with rfl | rfl | rfl | rfl | rfl | rfl | rfl | rfl
    · exact h2' rfl 8 (by decide) (by decide) rfl
    · exact h2' rfl 10 (by decide) (by decide) rfl
    · exact h2' rfl 12 (by decide) (by decide) rfl
    · exact hp' 1 (by decide) (by decide) rfl
    · exact hp' 2 (by decide) (by decide) rfl
    · exact hp' 3 (by decide) (by decide) rfl
    · exact hp' 4 (by decide) (by decide) rfl
    · exact hp' 5 (by decide) (by decide) rfl
  · obtain rfl : n = 1 := by simpa [opText] using hl.symm
    refine sign_hit l 9 (by decide) (fun k hk => ?_) hb
    rcases (show k = 0 ∨ k = 1 ∨ k = 2 ∨ k = 3 ∨ k = 4 ∨ k = 5 ∨ k = 6 ∨ k = 7 ∨ k = 8 by omega) with rfl | rfl | rfl | rfl | rfl | rfl | rfl | rfl | rfl
    · exact h2' rfl 8 (by decide) (by decide) rfl
    · exact h2' rfl 10 (by decide) (by decide) rfl
    · exact h2' rfl 12 (by decide) (by decide) rfl
    · exact hp' 1 (by decide) (by decide) rfl
    · exact hp' 2 (by decide) (by decide) rfl
    · exact hp' 3 (by decide) (by decide) rfl
    · exact hp' 4 (by decide) (by decide) rfl
    · exact hp' 5 (by decide) (by decide) rfl
    · exact hp' 6 (by decide) (by decide) rfl
  · obtain rfl : n = 2 := by simpa [opText] using hl.symm
    refine sign_hit l 0 (by decide) (fun k hk => ?_) hb
    omega
  · obtain rfl : n = 1 := by simpa [opText] using hl.symm
    refine sign_hit l 10 (by decide) (fun k hk => ?_) hb
    rcases (show k = 0 ∨ k = 1 ∨ k = 2 ∨ k = 3 ∨ k = 4 ∨ k = 5 ∨ k = 6 ∨ k = 7 ∨ k = 8 ∨ k = 9 by omega) with rfl | rfl | rfl | rfl | rfl | rfl | rfl | rfl | rfl | rfl
    · exact h2' rfl 8 (by decide) (by decide) rfl
    · exact h2' rfl 10 (by decide) (by decide) rfl
    · exact h2' rfl 12 (by decide) (by decide) rfl
    · exact hp' 1 (by decide) (by decide) rfl
    · exact hp' 2 (by decide) (by decide) rfl
    · exact hp' 3 (by decide) (by decide) rfl
    · exact hp' 4 (by decide) (by decide) rfl
    · exact hp' 5 (by decide) (by decide) rfl
    · exact hp' 6 (by decide) (by decide) rfl
    · exact hp' 7 (by decide) (by decide) rfl
  · obtain rfl : n = 2 := by simpa [opText] using hl.symm
    refine sign_hit l 1 (by decide) (fun k hk => ?_) hb
    obtain rfl : k = 0 := by omega
    exact hp' 8 (by decide) (by decide) rfl
  · obtain rfl : n = 1 := by simpa [opText] using hl.symm
    refine sign_hit l 11 (by decide) (fun k hk => ?_) hb
    rcases (show k = 0 ∨ k = 1 ∨ k = 2 ∨ k = 3 ∨ k = 4 ∨ k = 5 ∨ k = 6 ∨ k = 7 ∨ k = 8 ∨ k = 9 ∨ k = 10 by omega) with rfl | rfl | rfl | rfl | rfl | rfl | rfl | rfl | rfl | rfl | rfl
    · exact h2' rfl 8 (by decide) (by decide) rfl
    · exact h2' rfl 10 (by decide) (by decide) rfl
    · exact h2' rfl 12 (by decide) (by decide) rfl
    · exact hp' 1 (by decide) (by decide) rfl
    · exact hp' 2 (by decide) (by decide) rfl
    · exact hp' 3 (by decide) (by decide) rfl
    · exact hp' 4 (by decide) (by decide) rfl
    · exact hp' 5 (by decide) (by decide) rfl
    · exact hp' 6 (by decide) (by decide) rfl
    · exact hp' 7 (by decide) (by decide) rfl
    · exact hp' 9 (by decide) (by decide) rfl
  · obtain rfl : n = 2 := by simpa [opText] using hl.symm
    refine sign_hit l 2 (by decide) (fun k hk => ?_) hb
    rcases (show k = 0 ∨ k = 1 by omega) with rfl | rfl
    · exact hp' 8 (by decide) (by decide) rfl
    · exact hp' 10 (by decide) (by decide) rfl
  · obtain rfl : n = 1 := by simpa [opText] using hl.symm
    refine sign_hit l 12 (by decide) (fun k hk => ?_) hb
    rcases (show k = 0 ∨ k = 1 ∨ k = 2 ∨ k = 3 ∨ k = 4 ∨ k = 5 ∨ k = 6 ∨ k = 7 ∨ k = 8 ∨ k = 9 ∨ k = 10 ∨ k = 11 by omega) with rfl | rfl | rfl | rfl | rfl | rfl | rfl | rfl | rfl | rfl | rfl | rfl
    · exact h2' rfl 8 (by decide) (by decide) rfl
    · exact h2' rfl 10 (by decide) (by decide) rfl
    · exact h2' rfl 12 (by decide) (by decide) rfl
    · exact hp' 1 (by decide) (by decide) rfl
    · exact hp' 2 (by decide) (by decide) rfl
    · exact hp' 3 (by decide) (by decide) rfl
    · exact hp' 4 (by decide) (by decide) rfl
    · exact hp' 5 (by decide) (by decide) rfl
    · exact hp' 6 (by decide) (by decide) rfl
    · exact hp' 7 (by decide) (by decide) rfl
    · exact hp' 9 (by decide) (by decide) rfl
    · exact hp' 11 (by decide) (by decide) rfl
theorem op_miss {b : UInt8} {r : List UInt8} (h1 : ∀ x, 1 ≤ x → x ≤ 13 → ¬ opAt (b :: r) 1 x) (h2 : ∀ x, 1 ≤ x → x ≤ 13 → ¬ opAt (b :: r) 2 x) : opS (b :: r) = if b = 40 then some (9, 0, 1) else if b = 41 then some (10, 0, 1) else if b = 44 then some (11, 0, 1) else none := by
  apply sign_rest
  have key : ∀ x : Int, 1 ≤ x → x ≤ 13 → ¬ pre (opText x) (b :: r) := by
    intro x a c d
    rcases (show (opText x).length = 1 ∨ (opText x).length = 2 by
      rcases (show x = 1 ∨ x = 2 ∨ x = 3 ∨ x = 4 ∨ x = 5 ∨ x = 6 ∨ x = 7 ∨ x = 8 ∨ x = 9 ∨ x = 10 ∨ x = 11 ∨ x = 12 ∨ x = 13 by omega) with rfl | rfl | rfl | rfl | rfl | rfl | rfl | rfl | rfl | rfl | rfl | rfl | rfl <;> decide) with e | e
    · exact h1 x a c ⟨e, op_pre.2 d⟩
    · exact h2 x a c ⟨e, op_pre.2 d⟩
  intro k hk
  rcases (show k = 0 ∨ k = 1 ∨ k = 2 ∨ k = 3 ∨ k = 4 ∨ k = 5 ∨ k = 6 ∨ k = 7 ∨ k = 8 ∨ k = 9 ∨ k = 10 ∨ k = 11 ∨ k = 12 by omega) with rfl | rfl | rfl | rfl | rfl | rfl | rfl | rfl | rfl | rfl | rfl | rfl | rfl
  · exact key 8 (by decide) (by decide)
  · exact key 10 (by decide) (by decide)
  · exact key 12 (by decide) (by decide)
  · exact key 1 (by decide) (by decide)
  · exact key 2 (by decide) (by decide)
  · exact key 3 (by decide) (by decide)
  · exact key 4 (by decide) (by decide)
  · exact key 5 (by decide) (by decide)
  · exact key 6 (by decide) (by decide)
  · exact key 7 (by decide) (by decide)
  · exact key 9 (by decide) (by decide)
  · exact key 11 (by decide) (by decide)
  · exact key 13 (by decide) (by decide)
end Go.Proofs.YtlngjiibbcgkmaaGreatDoor
