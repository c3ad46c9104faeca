/- The walk of the law AddrBack. -/
import Derived.Test.YtkdabfepggehiaaDoorAddrC
import Derived.Test.YtkdabfepggehiaaDoorAddrL3
namespace Go.Proofs.YtkdabfepggehiaaDoor
open Go.RowKit

theorem parseS_two (l : List UInt8) : (parseS l).2.2 = 0 ∨ (parseS l).2.2 = 3 ∨ (parseS l).2.2 = 4 := by
  unfold parseS; simp only []; split
  · simp
  · split <;> simp
theorem columnS_two (l : List UInt8) : (columnS l).2 = 0 ∨ (columnS l).2 = 3 ∨ (columnS l).2 = 4 := by
  unfold columnS; split
  · simp
  · split <;> simp

theorem formatS_len (c r : Int) : (formatS c r).1.length ≤ 3000 := by
  cases hv : validN c r
  · rw [formatS_bad c r hv]; simp
  · have := validN_parts hv
    rw [formatS_good c r hv]
    have h1 := lettersN_len c.toNat (by omega)
    have h2 := dec_len r.toNat (by omega)
    simp; omega

set_option maxRecDepth 100000 in
set_option maxHeartbeats 8000000 in
theorem AddrBack_walk (c r : Int) (s : ByteArray) (w : World) (_ : (Lit.int .i64 c).wf = true) (_ : (Lit.int .i64 r).wf = true) (hs : s.size ≤ maxLen)
    (hL : laidMetH Tryd.prog Rows.addrBackRow.laid w) (_ : w.ShapedOpen Tryd.prog) :
    Calls Tryd.prog 9 #[.agg #[.int .i64 c, .int .i64 r], .string s] w fun e w' => e = .returned (.bool true) ∧ Below w.heap.size w w' := by
  have HP := Lib.hid (pow_of_laid hL (by kernel_rfl))
  clear hL
  unfold maxLen at hs
  have hb0 : Below w.heap.size w (w.alloc (.cells #[.int .i64 c, .int .i64 r] 23)) := ((Below.refl _ _).alloc (Nat.le_refl _) _)
  have k0 := (Blk.new w 23 #[.int .i64 c, .int .i64 r])
  have hz0 : w.heap.size < (w.alloc (.cells #[.int .i64 c, .int .i64 r] 23)).heap.size := by simp
  have HB0 := Lib.hid hb0
  have HK0 := Lib.hid k0
  clear hb0 k0
  by_cases h3 : 300 < s.size
  · go_enter Tryd.func9, Tryd.ntmps9
    go_wp2_with fail
    refine (addr_known _ (HP.out.below HB0.out)).mono ?_
    rintro e w1 ⟨rfl, hb⟩
    have HB := Lib.hid (below_step HB0.out hb)
    clear hb
    go_wp2_with fail
    go_ret
    exact ⟨rfl, HB.out⟩
  · have hs4 : s.size ≤ 4611686018427387904 := by omega
    have HS4 := Lib.hid hs4
    clear hs4
    have hP := parse_ok s.data.toList
    generalize hPq : parseS s.data.toList = R at hP
    obtain ⟨R1, R2, R3⟩ := R
    have HPq := Lib.hid hPq
    have hCo := column_ok s.data.toList
    generalize hCq : columnS s.data.toList = C at hCo
    obtain ⟨C1, C2⟩ := C
    have HCq := Lib.hid hCq
    simp only [] at hP hCo
    have HPo := Lib.hid hP
    have HCo := Lib.hid hCo
    clear hPq hCq hP hCo
    go_enter Tryd.func9, Tryd.ntmps9
    go_wp2_with fail
    generalize (w.alloc (.cells #[.int .i64 c, .int .i64 r] 23)) = W0 at HB0 HK0 hz0 ⊢
    refine (addr_Format _ _ _ (HP.out.below HB0.out)).mono ?_
    rintro e w1 ⟨rfl, hb1⟩
    have k1 := HK0.out.below hb1 hz0
    have hz1 : w.heap.size < w1.heap.size := by have := hb1.size; omega
    have c0 := k1.cell 0
    have c1 := k1.cell 1
    simp at c0 c1
    have HB1 := Lib.hid (below_step HB0.out hb1)
    clear hb1 k1 HB0 HK0 hz0
    cases hv : validN c r
    · rw [formatS_bad c r hv]
      have HV := Lib.hid hv
      clear hv
      go_wp2_with fail
      refine (addr_Valid _ _ _).mono ?_
      rintro e wx ⟨rfl, hbx⟩
      rw [HV.out]
      have HBx := Lib.hid (below_step HB1.out hbx)
      clear hbx c0 c1 HV
      go_wp2_with fail
      refine (addr_Parse _ _ HS4.out).mono ?_
      rintro e wp ⟨rfl, hbp⟩
      rw [HPq.out]
      have HBp := Lib.hid (below_step HBx.out hbp)
      clear hbp
      by_cases hp0 : R3 = 0
      · subst hp0
        obtain ⟨hv, hf⟩ := HPo.out rfl
        have HV := Lib.hid hv
        have HF := Lib.hid hf
        clear hv hf
        go_wp2_with fail
        refine (addr_Format _ _ _ (HP.out.below (HBp.out.alloc HBp.out.size _))).mono ?_
        rintro e wf ⟨rfl, hbf⟩
        rw [show formatS R1 R2 = (s.data.toList.map upB, 0) from by rw [← HF.out, formatS_good _ _ HV.out]]
        have kf := (Blk.new wp 23 #[.int .i64 R1, .int .i64 R2]).below hbf (by simp)
        have hzf : wp.heap.size < wf.heap.size := by have := hbf.size; simp at this; omega
        have HBf := Lib.hid (below_step (HBp.out.alloc HBp.out.size _) hbf)
        clear hbf
        go_wp2_with fail
        refine (capitals_any _ _ HS4.out).mono ?_
        rintro e wg ⟨rfl, hbg⟩
        have kg := kf.below hbg hzf
        have c0 := kg.cell 0
        have c1 := kg.cell 1
        simp at c0 c1
        have HBg := Lib.hid (below_step HBf.out hbg)
        clear hbg kf kg
        generalize s.data.toList.map upB = U
        go_wp2_with fail
        refine (addr_Valid _ _ _).mono ?_
        rintro e wy ⟨rfl, hby⟩
        rw [HV.out]
        have HBy := Lib.hid (below_step HBg.out hby)
        clear hby c0 c1
        go_wp2_with fail
        refine (addr_Column _ _ HS4.out).mono ?_
        rintro e wc ⟨rfl, hbc⟩
        rw [HCq.out]
        have HBc := Lib.hid (below_step HBy.out hbc)
        clear hbc
        by_cases hc0 : C2 = 0
        · subst hc0
          obtain ⟨hc1, hc2, hc3⟩ := HCo.out rfl
          have HC3 := Lib.hid hc3
          clear hc3
          go_wp2_with fail
          refine (addr_Letters _ _ (by omega) (by omega)).mono ?_
          rintro e wl ⟨rfl, rfl⟩
          rw [show lettersC C1 = (s.data.toList.map upB, 0) from by unfold lettersC; rw [if_pos ⟨hc1, hc2⟩, HC3.out]]
          go_wp2_with fail
          refine (capitals_any _ _ HS4.out).mono ?_
          rintro e wz ⟨rfl, hbz⟩
          have HBz := Lib.hid (below_step HBc.out hbz)
          clear hbz
          generalize s.data.toList.map upB = U2
          go_wp2_with fail
          refine (addr_known _ (HP.out.below HBz.out)).mono ?_
          rintro e wk ⟨rfl, hbk⟩
          have HBk := Lib.hid (below_step HBz.out hbk)
          clear hbk
          go_wp2_with fail
          go_ret
          exact ⟨rfl, HBk.out⟩

        · have hcb : (C2 == 0) = false := by rw [beq_eq_false_iff_ne]; exact hc0
          have HBz := HBc
          clear hc0
          go_wp2_with fail
          refine (addr_known _ (HP.out.below HBz.out)).mono ?_
          rintro e wk ⟨rfl, hbk⟩
          have HBk := Lib.hid (below_step HBz.out hbk)
          clear hbk
          go_wp2_with fail
          go_ret
          exact ⟨rfl, HBk.out⟩

      · have hpb : (R3 == 0) = false := by rw [beq_eq_false_iff_ne]; exact hp0
        have HBy := Lib.hid (HBp.out.alloc HBp.out.size (.cells #[.int .i64 R1, .int .i64 R2] 23))
        clear hp0
        go_wp2_with fail
        refine (addr_Column _ _ HS4.out).mono ?_
        rintro e wc ⟨rfl, hbc⟩
        rw [HCq.out]
        have HBc := Lib.hid (below_step HBy.out hbc)
        clear hbc
        by_cases hc0 : C2 = 0
        · subst hc0
          obtain ⟨hc1, hc2, hc3⟩ := HCo.out rfl
          have HC3 := Lib.hid hc3
          clear hc3
          go_wp2_with fail
          refine (addr_Letters _ _ (by omega) (by omega)).mono ?_
          rintro e wl ⟨rfl, rfl⟩
          rw [show lettersC C1 = (s.data.toList.map upB, 0) from by unfold lettersC; rw [if_pos ⟨hc1, hc2⟩, HC3.out]]
          go_wp2_with fail
          refine (capitals_any _ _ HS4.out).mono ?_
          rintro e wz ⟨rfl, hbz⟩
          have HBz := Lib.hid (below_step HBc.out hbz)
          clear hbz
          generalize s.data.toList.map upB = U
          go_wp2_with fail
          refine (addr_known _ (HP.out.below HBz.out)).mono ?_
          rintro e wk ⟨rfl, hbk⟩
          have HBk := Lib.hid (below_step HBz.out hbk)
          clear hbk
          go_wp2_with fail
          go_ret
          exact ⟨rfl, HBk.out⟩

        · have hcb : (C2 == 0) = false := by rw [beq_eq_false_iff_ne]; exact hc0
          have HBz := HBc
          clear hc0
          go_wp2_with fail
          refine (addr_known _ (HP.out.below HBz.out)).mono ?_
          rintro e wk ⟨rfl, hbk⟩
          have HBk := Lib.hid (below_step HBz.out hbk)
          clear hbk
          go_wp2_with fail
          go_ret
          exact ⟨rfl, HBk.out⟩

    · have hpf := parse_format c r hv
      have hf2 : (formatS c r).2 = 0 := by rw [formatS_good c r hv]
      have htl := formatS_len c r
      generalize formatS c r = FF at hpf hf2 htl ⊢
      obtain ⟨T, T2⟩ := FF
      simp only [] at hpf hf2 htl
      subst hf2
      have HV := Lib.hid hv
      have HPF := Lib.hid hpf
      have HTL := Lib.hid htl
      clear hv hpf htl
      go_wp2_with fail
      refine (addr_Parse _ _ (by have := HTL.out; show T.toArray.size ≤ _; simp; omega)).mono ?_
      rintro e w2 ⟨rfl, hb2⟩
      rw [show parseS (ByteArray.mk T.toArray).data.toList = (c, r, 0) from HPF.out]
      have d0 := cell_step hb2 c0
      have d1 := cell_step hb2 c1
      have HB2 := Lib.hid (below_step HB1.out hb2)
      have hz2 : w.heap.size < w2.heap.size := by have := hb2.size; omega
      have hne : ∀ o j, (w2.alloc o).cell? ⟨w.heap.size, j, none⟩ = w2.cell? ⟨w.heap.size, j, none⟩ := fun o j => World.cell?_alloc_lt w2 o _ hz2
      clear hb2 c0 c1
      go_wp2_with fail
      refine (addr_Valid _ _ _).mono ?_
      rintro e wx ⟨rfl, hbx⟩
      rw [HV.out]
      have HBx := Lib.hid (below_step (HB2.out.alloc HB2.out.size _) hbx)
      clear hbx d0 d1 HV hne
      go_wp2_with fail
      refine (addr_Parse _ _ HS4.out).mono ?_
      rintro e wp ⟨rfl, hbp⟩
      rw [HPq.out]
      have HBp := Lib.hid (below_step HBx.out hbp)
      clear hbp
      by_cases hp0 : R3 = 0
      · subst hp0
        obtain ⟨hv, hf⟩ := HPo.out rfl
        have HV := Lib.hid hv
        have HF := Lib.hid hf
        clear hv hf
        go_wp2_with fail
        refine (addr_Format _ _ _ (HP.out.below (HBp.out.alloc HBp.out.size _))).mono ?_
        rintro e wf ⟨rfl, hbf⟩
        rw [show formatS R1 R2 = (s.data.toList.map upB, 0) from by rw [← HF.out, formatS_good _ _ HV.out]]
        have kf := (Blk.new wp 23 #[.int .i64 R1, .int .i64 R2]).below hbf (by simp)
        have hzf : wp.heap.size < wf.heap.size := by have := hbf.size; simp at this; omega
        have HBf := Lib.hid (below_step (HBp.out.alloc HBp.out.size _) hbf)
        clear hbf
        go_wp2_with fail
        refine (capitals_any _ _ HS4.out).mono ?_
        rintro e wg ⟨rfl, hbg⟩
        have kg := kf.below hbg hzf
        have c0 := kg.cell 0
        have c1 := kg.cell 1
        simp at c0 c1
        have HBg := Lib.hid (below_step HBf.out hbg)
        clear hbg kf kg
        generalize s.data.toList.map upB = U
        go_wp2_with fail
        refine (addr_Valid _ _ _).mono ?_
        rintro e wy ⟨rfl, hby⟩
        rw [HV.out]
        have HBy := Lib.hid (below_step HBg.out hby)
        clear hby c0 c1
        go_wp2_with fail
        refine (addr_Column _ _ HS4.out).mono ?_
        rintro e wc ⟨rfl, hbc⟩
        rw [HCq.out]
        have HBc := Lib.hid (below_step HBy.out hbc)
        clear hbc
        by_cases hc0 : C2 = 0
        · subst hc0
          obtain ⟨hc1, hc2, hc3⟩ := HCo.out rfl
          have HC3 := Lib.hid hc3
          clear hc3
          go_wp2_with fail
          refine (addr_Letters _ _ (by omega) (by omega)).mono ?_
          rintro e wl ⟨rfl, rfl⟩
          rw [show lettersC C1 = (s.data.toList.map upB, 0) from by unfold lettersC; rw [if_pos ⟨hc1, hc2⟩, HC3.out]]
          go_wp2_with fail
          refine (capitals_any _ _ HS4.out).mono ?_
          rintro e wz ⟨rfl, hbz⟩
          have HBz := Lib.hid (below_step HBc.out hbz)
          clear hbz
          generalize s.data.toList.map upB = U2
          go_wp2_with fail
          refine (addr_known _ (HP.out.below HBz.out)).mono ?_
          rintro e wk ⟨rfl, hbk⟩
          have HBk := Lib.hid (below_step HBz.out hbk)
          clear hbk
          go_wp2_with fail
          go_ret
          exact ⟨rfl, HBk.out⟩

        · have hcb : (C2 == 0) = false := by rw [beq_eq_false_iff_ne]; exact hc0
          have HBz := HBc
          clear hc0
          go_wp2_with fail
          refine (addr_known _ (HP.out.below HBz.out)).mono ?_
          rintro e wk ⟨rfl, hbk⟩
          have HBk := Lib.hid (below_step HBz.out hbk)
          clear hbk
          go_wp2_with fail
          go_ret
          exact ⟨rfl, HBk.out⟩

      · have hpb : (R3 == 0) = false := by rw [beq_eq_false_iff_ne]; exact hp0
        have HBy := Lib.hid (HBp.out.alloc HBp.out.size (.cells #[.int .i64 R1, .int .i64 R2] 23))
        clear hp0
        go_wp2_with fail
        refine (addr_Column _ _ HS4.out).mono ?_
        rintro e wc ⟨rfl, hbc⟩
        rw [HCq.out]
        have HBc := Lib.hid (below_step HBy.out hbc)
        clear hbc
        by_cases hc0 : C2 = 0
        · subst hc0
          obtain ⟨hc1, hc2, hc3⟩ := HCo.out rfl
          have HC3 := Lib.hid hc3
          clear hc3
          go_wp2_with fail
          refine (addr_Letters _ _ (by omega) (by omega)).mono ?_
          rintro e wl ⟨rfl, rfl⟩
          rw [show lettersC C1 = (s.data.toList.map upB, 0) from by unfold lettersC; rw [if_pos ⟨hc1, hc2⟩, HC3.out]]
          go_wp2_with fail
          refine (capitals_any _ _ HS4.out).mono ?_
          rintro e wz ⟨rfl, hbz⟩
          have HBz := Lib.hid (below_step HBc.out hbz)
          clear hbz
          generalize s.data.toList.map upB = U
          go_wp2_with fail
          refine (addr_known _ (HP.out.below HBz.out)).mono ?_
          rintro e wk ⟨rfl, hbk⟩
          have HBk := Lib.hid (below_step HBz.out hbk)
          clear hbk
          go_wp2_with fail
          go_ret
          exact ⟨rfl, HBk.out⟩

        · have hcb : (C2 == 0) = false := by rw [beq_eq_false_iff_ne]; exact hc0
          have HBz := HBc
          clear hc0
          go_wp2_with fail
          refine (addr_known _ (HP.out.below HBz.out)).mono ?_
          rintro e wk ⟨rfl, hbk⟩
          have HBk := Lib.hid (below_step HBz.out hbk)
          clear hbk
          go_wp2_with fail
          go_ret
          exact ⟨rfl, HBk.out⟩

end Go.Proofs.YtkdabfepggehiaaDoor
