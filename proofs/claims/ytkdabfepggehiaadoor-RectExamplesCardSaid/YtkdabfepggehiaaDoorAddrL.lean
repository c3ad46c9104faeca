/- The walks of the laws AddrLess, AddrOrder and AddrReads. -/
import Derived.Test.YtkdabfepggehiaaDoorAddrK
import Derived.OpenShut
import Derived.Deep.RegionHeld3
namespace Go.Proofs.YtkdabfepggehiaaDoor
open Go.RowKit

theorem AddrLess_walk (ac ar bc br : Int) (w : World) (_ : (Lit.int .i64 ac).wf = true) (_ : (Lit.int .i64 ar).wf = true) (_ : (Lit.int .i64 bc).wf = true) (_ : (Lit.int .i64 br).wf = true)
    (hL : laidMetH Tryd.prog Rows.addrLessRow.laid w) (_ : w.ShapedOpen Tryd.prog) :
    Calls Tryd.prog 4 #[.agg #[.int .i64 ac, .int .i64 ar], .agg #[.int .i64 bc, .int .i64 br]] w fun e w' => e = .returned (.bool true) ∧ Below w.heap.size w w' := by
  have HP := Lib.hid (pow_of_laid hL (by kernel_rfl))
  clear hL
  go_enter Tryd.func4, Tryd.ntmps4
  have hl : (lessS ac ar bc br == lessS ac ar bc br) = true := by simp
  go_wp2_with fail
  have hb0 : Below w.heap.size w ((w.alloc (.cells #[.int .i64 ac, .int .i64 ar] 23)).alloc (.cells #[.int .i64 bc, .int .i64 br] 23)) := (((Below.refl _ _).alloc (Nat.le_refl _) _).alloc (by simp) _)
  have k0 := ((Blk.new w 23 #[.int .i64 ac, .int .i64 ar]).alloc (.cells #[.int .i64 bc, .int .i64 br] 23))
  have k1 := Blk.new (w.alloc (.cells #[.int .i64 ac, .int .i64 ar] 23)) 23 #[.int .i64 bc, .int .i64 br]
  rw [World.size_alloc] at k1
  generalize ((w.alloc (.cells #[.int .i64 ac, .int .i64 ar] 23)).alloc (.cells #[.int .i64 bc, .int .i64 br] 23)) = W0 at hb0 k0 k1 ⊢
  have c0 := k0.cell 0
  have c1 := k0.cell 1
  have c2 := k1.cell 0
  have c3 := k1.cell 1
  simp at c0 c1 c2 c3
  have hbd := Lib.hid hb0.drew
  clear hb0 k0 k1
  go_region_held3 (fun w' => w'.cell? ⟨w.heap.size, 0, none⟩ = some (.int .i64 ac) ∧ w'.cell? ⟨w.heap.size, 1, none⟩ = some (.int .i64 ar) ∧ w'.cell? ⟨w.heap.size + 1, 0, none⟩ = some (.int .i64 bc) ∧ w'.cell? ⟨w.heap.size + 1, 1, none⟩ = some (.int .i64 br) ∧ Hid (Below w.heap.size w w'))
    (first
      | go_keep
      | (go_split_ands; exact ⟨cell_step hb (by assumption), cell_step hb (by assumption), cell_step hb (by assumption), cell_step hb (by assumption), Lib.hid (below_step (Hid.out (by assumption)) hb)⟩))
    (first
      | (go_at_call 28; refine (addr_Less _ _ _ _ _).mono ?_; rintro e w' ⟨rfl, hb⟩)
      | (go_at_call 29; refine (ref_Less _ _ _ _ _).mono ?_; rintro e w' ⟨rfl, hb⟩)
      | (go_at_call 30; go_split_ands; refine (addr_known _ (HP.out.below (Hid.out (by assumption)))).mono ?_; rintro e w' ⟨rfl, hb⟩))
  go_wp2_with fail
  go_ret
  go_split_ands
  exact ⟨rfl, Hid.out (by assumption)⟩

theorem AddrReads_walk (s : ByteArray) (w : World) (hs : s.size ≤ maxLen) (hL : laidMetH Tryd.prog Rows.addrReadsRow.laid w) (_ : w.ShapedOpen Tryd.prog) :
    Calls Tryd.prog 8 #[.string s] w fun e w' => e = .returned (.bool true) ∧ Below w.heap.size w w' := by
  have HP := Lib.hid (pow_of_laid hL (by kernel_rfl))
  clear hL
  unfold maxLen at hs
  by_cases h2 : 2000 < s.size
  · go_enter Tryd.func8, Tryd.ntmps8
    go_wp2_with fail
    refine (addr_known _ HP.out).mono ?_
    rintro e w1 ⟨rfl, hb⟩
    have HB := Lib.hid hb
    clear hb
    go_wp2_with fail
    go_ret
    exact ⟨rfl, HB.out⟩
  · go_enter Tryd.func8, Tryd.ntmps8
    go_wp2_with fail
    have hs4 : s.size ≤ 4611686018427387904 := by omega
    have HS4 := Lib.hid hs4
    clear hs4
    refine (addr_Parse _ _ HS4.out).mono ?_
    rintro e w1 ⟨rfl, hb1⟩
    generalize hR : parseS s.data.toList = R
    obtain ⟨R1, R2, R3⟩ := R
    have HR := Lib.hid hR
    have HB1 := Lib.hid hb1
    clear hb1 hR
    go_wp2_with fail
    refine (ref_Parse _ _ HS4.out).mono ?_
    rintro e w2 ⟨rfl, hb2⟩
    rw [HR.out]
    have k1 := (Blk.new w1 23 #[.int .i64 R1, .int .i64 R2]).below hb2 (by simp)
    have HB2 := Lib.hid (below_step (HB1.out.alloc HB1.out.size _) hb2)
    have hz1 : w1.heap.size < w2.heap.size := by have := hb2.size; simp at this; omega
    clear hb2
    go_wp2_with fail
    refine (addr_Column _ _ HS4.out).mono ?_
    rintro e w3 ⟨rfl, hb3⟩
    generalize hC : columnS s.data.toList = C
    obtain ⟨C1, C2⟩ := C
    have HC := Lib.hid hC
    have k2 := (Blk.new w2 23 #[.int .i64 R1, .int .i64 R2]).below hb3 (by simp)
    have k1' := (k1.alloc (.cells #[.int .i64 R1, .int .i64 R2] 23)).below hb3 (by simp; omega)
    have HB3 := Lib.hid (below_step (HB2.out.alloc HB2.out.size _) hb3)
    clear hb3 hC k1
    have c0 := k1'.cell 0
    have c1 := k1'.cell 1
    have d0 := k2.cell 0
    have d1 := k2.cell 1
    simp at c0 c1 d0 d1
    clear k1' k2
    go_wp2_with fail
    refine (ref_Column _ _ HS4.out).mono ?_
    rintro e w4 ⟨rfl, rfl⟩
    rw [HC.out]
    go_wp2_with fail
    go_ret
    exact ⟨rfl, HB3.out⟩
end Go.Proofs.YtkdabfepggehiaaDoor
