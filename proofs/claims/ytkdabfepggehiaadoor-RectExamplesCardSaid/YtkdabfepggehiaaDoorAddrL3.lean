/- The walk of the law AddrWrites. -/
import Derived.Test.YtkdabfepggehiaaDoorAddrL2
namespace Go.Proofs.YtkdabfepggehiaaDoor
open Go.RowKit

set_option maxRecDepth 100000 in
set_option maxHeartbeats 4000000 in
theorem AddrWrites_walk (c r i : Int) (w : World) (_ : (Lit.int .i64 c).wf = true) (_ : (Lit.int .i64 r).wf = true) (hi : (Lit.int .i64 i).wf = true)
    (hL : laidMetH Tryd.prog Rows.addrWritesRow.laid w) (_ : w.ShapedOpen Tryd.prog) :
    Calls Tryd.prog 3 #[.agg #[.int .i64 c, .int .i64 r], .int .i64 i] w fun e w' => e = .returned (.bool true) ∧ Below w.heap.size w w' := by
  have HP := Lib.hid (pow_of_laid hL (by kernel_rfl))
  have hib := bounds_i64 hi
  have HI := Lib.hid hib
  clear hL hib hi
  go_enter Tryd.func3, Tryd.ntmps3
  go_wp2_with fail
  have hb0 : Below w.heap.size w (w.alloc (.cells #[.int .i64 c, .int .i64 r] 23)) := ((Below.refl _ _).alloc (Nat.le_refl _) _)
  have k0 := (Blk.new w 23 #[.int .i64 c, .int .i64 r])
  have hz0 : w.heap.size < (w.alloc (.cells #[.int .i64 c, .int .i64 r] 23)).heap.size := by simp
  generalize (w.alloc (.cells #[.int .i64 c, .int .i64 r] 23)) = W0 at hb0 k0 hz0 ⊢
  refine (addr_Format _ _ _ (HP.out.below hb0)).mono ?_
  rintro e w1 ⟨rfl, hb1⟩
  have k1 := k0.below hb1 hz0
  have c0 := k1.cell 0
  have c1 := k1.cell 1
  simp at c0 c1
  have HB1 := Lib.hid (below_step hb0 hb1)
  have HK1 := Lib.hid k1
  clear hb1 hb0 k0 hz0 k1
  generalize hF : formatS c r = F
  obtain ⟨F1, F2⟩ := F
  have HF := Lib.hid hF
  clear hF
  go_wp2_with fail
  refine (ref_Format _ _ _).mono ?_
  rintro e w2 ⟨rfl, hb2⟩
  rw [HF.out]
  have d0 := cell_step hb2 c0
  have d1 := cell_step hb2 c1
  have HB2 := Lib.hid (below_step HB1.out hb2)
  have hbd := Lib.hid HB2.out.drew
  clear hb2 c0 c1
  go_wp2_with fail
  go_region_held3 (fun w' => w'.cell? ⟨w.heap.size, 0, none⟩ = some (.int .i64 c) ∧ w'.cell? ⟨w.heap.size, 1, none⟩ = some (.int .i64 r) ∧ Hid (Below w.heap.size w w'))
    (first
      | go_keep
      | (go_split_ands; exact ⟨cell_step hb (by assumption), cell_step hb (by assumption), Lib.hid (below_step (Hid.out (by assumption)) hb)⟩))
    (first
      | (go_at_call 20; refine (addr_Valid _ _ _).mono ?_; rintro e w' ⟨rfl, hb⟩)
      | (go_at_call 21; refine (ref_Valid _ _ _).mono ?_; rintro e w' ⟨rfl, hb⟩))
  go_split_ands
  rename_i w3 c0 c1 hB3
  have HB3 := Lib.hid hB3.out
  clear hB3 d0 d1
  generalize hC : lettersC i = C
  obtain ⟨C1, C2⟩ := C
  have HC := Lib.hid hC
  clear hC
  go_wp2_with fail
  refine (addr_Letters _ _ HI.out.1 HI.out.2).mono ?_
  rintro e w4 ⟨rfl, rfl⟩
  rw [HC.out]
  go_wp2_with fail
  refine (ref_Letters _ _ HI.out.1 HI.out.2).mono ?_
  rintro e w5 ⟨rfl, hb5⟩
  rw [HC.out]
  have d0 := cell_step hb5 c0
  have d1 := cell_step hb5 c1
  have HB5 := Lib.hid (below_step HB3.out hb5)
  clear hb5 c0 c1
  generalize hX : indexS c r = X
  obtain ⟨X1, X2⟩ := X
  have HX := Lib.hid hX
  clear hX
  go_wp2_with fail
  refine (addr_Index _ _ _).mono ?_
  rintro e w6 ⟨rfl, hb6⟩
  rw [HX.out]
  have c0 := cell_step hb6 d0
  have c1 := cell_step hb6 d1
  have HB6 := Lib.hid (below_step HB5.out hb6)
  clear hb6 d0 d1
  go_wp2_with fail
  refine (ref_Index _ _ _).mono ?_
  rintro e w7 ⟨rfl, hb7⟩
  rw [HX.out]
  have HB7 := Lib.hid (below_step HB6.out hb7)
  clear hb7 c0 c1
  generalize hA : atS i = A
  obtain ⟨A1, A2, A3⟩ := A
  have HA := Lib.hid hA
  clear hA
  go_wp2_with fail
  refine (addr_At _ _ HI.out.1 HI.out.2).mono ?_
  rintro e w8 ⟨rfl, hb8⟩
  rw [HA.out]
  have HB8 := Lib.hid (below_step HB7.out hb8)
  clear hb8
  go_wp2_with fail
  refine (ref_At _ _ HI.out.1 HI.out.2).mono ?_
  rintro e w9 ⟨rfl, hb9⟩
  rw [HA.out]
  have k9 := (Blk.new w8 23 #[.int .i64 A1, .int .i64 A2]).below hb9 (by simp)
  have hz9 : w8.heap.size < w9.heap.size := by have := hb9.size; simp at this; omega
  have HB9 := Lib.hid (below_step (HB8.out.alloc HB8.out.size _) hb9)
  have c0 := k9.cell 0
  have c1 := k9.cell 1
  simp at c0 c1
  clear hb9 k9
  go_wp2_with fail
  go_ret
  exact ⟨rfl, HB9.out.alloc HB9.out.size _⟩
end Go.Proofs.YtkdabfepggehiaaDoor
