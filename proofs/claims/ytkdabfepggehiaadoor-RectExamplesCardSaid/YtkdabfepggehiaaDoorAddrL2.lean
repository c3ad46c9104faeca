/- The walk of the law AddrOrder. -/
import Derived.Test.YtkdabfepggehiaaDoorAddrL
namespace Go.Proofs.YtkdabfepggehiaaDoor
open Go.RowKit

theorem less_three (ac ar bc br : Int) : (lessS ac ar bc br = true ∧ lessS bc br ac ar = false ∧ ¬ (ac = bc ∧ ar = br)) ∨ (lessS ac ar bc br = false ∧ lessS bc br ac ar = true ∧ ¬ (ac = bc ∧ ar = br)) ∨ (lessS ac ar bc br = false ∧ lessS bc br ac ar = false ∧ ac = bc ∧ ar = br) := by
  simp only [lessS, decide_eq_true_eq, decide_eq_false_iff_not]; omega
theorem less_trans (ac ar bc br cc cr : Int) (h1 : lessS ac ar bc br = true) (h2 : lessS bc br cc cr = true) : lessS ac ar cc cr = true := by
  simp only [lessS, decide_eq_true_eq] at *; omega

set_option maxRecDepth 100000 in
set_option maxHeartbeats 2000000 in
theorem AddrOrder_walk (ac ar bc br cc cr : Int) (w : World) (_ : (Lit.int .i64 ac).wf = true) (_ : (Lit.int .i64 ar).wf = true) (_ : (Lit.int .i64 bc).wf = true) (_ : (Lit.int .i64 br).wf = true) (_ : (Lit.int .i64 cc).wf = true) (_ : (Lit.int .i64 cr).wf = true)
    (hL : laidMetH Tryd.prog Rows.addrOrderRow.laid w) (_ : w.ShapedOpen Tryd.prog) :
    Calls Tryd.prog 5 #[.agg #[.int .i64 ac, .int .i64 ar], .agg #[.int .i64 bc, .int .i64 br], .agg #[.int .i64 cc, .int .i64 cr]] w fun e w' => e = .returned (.bool true) ∧ Below w.heap.size w w' := by
  have HP := Lib.hid (pow_of_laid hL (by kernel_rfl))
  clear hL
  go_enter Tryd.func5, Tryd.ntmps5
  go_wp2_with fail
  have hb0 : Below w.heap.size w (((w.alloc (.cells #[.int .i64 ac, .int .i64 ar] 23)).alloc (.cells #[.int .i64 bc, .int .i64 br] 23)).alloc (.cells #[.int .i64 cc, .int .i64 cr] 23)) := ((((Below.refl _ _).alloc (Nat.le_refl _) _).alloc (by simp) _).alloc (by simp; omega) _)
  have k0 := ((Blk.new w 23 #[.int .i64 ac, .int .i64 ar]).alloc (.cells #[.int .i64 bc, .int .i64 br] 23)).alloc (.cells #[.int .i64 cc, .int .i64 cr] 23)
  have k1 := (Blk.new (w.alloc (.cells #[.int .i64 ac, .int .i64 ar] 23)) 23 #[.int .i64 bc, .int .i64 br]).alloc (.cells #[.int .i64 cc, .int .i64 cr] 23)
  have k2 := Blk.new ((w.alloc (.cells #[.int .i64 ac, .int .i64 ar] 23)).alloc (.cells #[.int .i64 bc, .int .i64 br] 23)) 23 #[.int .i64 cc, .int .i64 cr]
  rw [World.size_alloc] at k1
  rw [World.size_alloc, World.size_alloc] at k2
  generalize (((w.alloc (.cells #[.int .i64 ac, .int .i64 ar] 23)).alloc (.cells #[.int .i64 bc, .int .i64 br] 23)).alloc (.cells #[.int .i64 cc, .int .i64 cr] 23)) = W0 at hb0 k0 k1 k2 ⊢
  have c0 := k0.cell 0
  have c1 := k0.cell 1
  have c2 := k1.cell 0
  have c3 := k1.cell 1
  have c4 := k2.cell 0
  have c5 := k2.cell 1
  simp at c0 c1 c2 c3 c4 c5
  have hbd := Lib.hid hb0.drew
  clear hb0 k0 k1 k2
  go_region_held3 (fun w' => w'.cell? ⟨w.heap.size, 0, none⟩ = some (.int .i64 ac) ∧ w'.cell? ⟨w.heap.size, 1, none⟩ = some (.int .i64 ar) ∧ w'.cell? ⟨w.heap.size + 1, 0, none⟩ = some (.int .i64 bc) ∧ w'.cell? ⟨w.heap.size + 1, 1, none⟩ = some (.int .i64 br) ∧ w'.cell? ⟨w.heap.size + 2, 0, none⟩ = some (.int .i64 cc) ∧ w'.cell? ⟨w.heap.size + 2, 1, none⟩ = some (.int .i64 cr) ∧ Hid (Below w.heap.size w w'))
    (first
      | go_keep
      | (go_split_ands; exact ⟨cell_step hb (by assumption), cell_step hb (by assumption), cell_step hb (by assumption), cell_step hb (by assumption), cell_step hb (by assumption), cell_step hb (by assumption), Lib.hid (below_step (Hid.out (by assumption)) hb)⟩))
    (first
      | (go_at_call 28; refine (addr_Less _ _ _ _ _).mono ?_; rintro e w' ⟨rfl, hb⟩))
  go_split_ands
  rename_i w9 _ _ _ _ _ _ hB9
  have h3 := less_three ac ar bc br
  have ht := less_trans ac ar bc br cc cr
  generalize lessS ac ar bc br = AB at *
  generalize lessS bc br ac ar = BA at *
  generalize lessS bc br cc cr = BC at *
  generalize lessS ac ar cc cr = AC at *
  have HT := Lib.hid ht
  clear ht
  rcases h3 with ⟨rfl, rfl, hne⟩ | ⟨rfl, rfl, hne⟩ | ⟨rfl, rfl, rfl, rfl⟩
  · cases BC
    · go_wp2_with (go_at_call 30; refine (addr_known _ (HP.out.below hB9.out)).mono ?_; rintro e w' ⟨rfl, hb⟩; have HF := Lib.hid (below_step hB9.out hb); clear hb)
      all_goals (go_ret; exact ⟨rfl, Hid.out (by assumption)⟩)
    · obtain rfl : AC = true := HT.out rfl rfl
      go_wp2_with (go_at_call 30; refine (addr_known _ (HP.out.below hB9.out)).mono ?_; rintro e w' ⟨rfl, hb⟩; have HF := Lib.hid (below_step hB9.out hb); clear hb)
      all_goals (go_ret; exact ⟨rfl, Hid.out (by assumption)⟩)
  · clear HT
    go_wp2_with (go_at_call 30; refine (addr_known _ (HP.out.below hB9.out)).mono ?_; rintro e w' ⟨rfl, hb⟩; have HF := Lib.hid (below_step hB9.out hb); clear hb)
    all_goals (go_ret; exact ⟨rfl, Hid.out (by assumption)⟩)
  · clear HT
    go_wp2_with (go_at_call 30; refine (addr_known _ (HP.out.below hB9.out)).mono ?_; rintro e w' ⟨rfl, hb⟩; have HF := Lib.hid (below_step hB9.out hb); clear hb)
    all_goals (go_ret; exact ⟨rfl, Hid.out (by assumption)⟩)
end Go.Proofs.YtkdabfepggehiaaDoor
