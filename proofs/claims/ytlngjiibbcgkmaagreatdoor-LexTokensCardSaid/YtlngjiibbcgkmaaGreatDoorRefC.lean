/- The contract of the reference lexer's word. -/
import Derived.Test.YtlngjiibbcgkmaaGreatDoorRefB
import Derived.Test.YtlngjiibbcgkmaaGreatDoorLexM
import Derived.Test.YtlngjiibbcgkmaaGreatDoorRectH
import Derived.Deep.DeepCutAuto
namespace Go.Proofs.YtlngjiibbcgkmaaGreatDoor
open Go.RowKit

theorem colon_at {s : ByteArray} {z : Nat} (h : z < s.size) : testAt (· == 58) s z = decide (((s[z]'h).toNat : Int) = 58) := by
  rw [test_in h, Bool.eq_iff_iff, beq_iff_eq, decide_eq_true_eq, ← UInt8.toNat_inj]
  show _ = 58 ↔ _
  omega
theorem test_head {s : ByteArray} {z : Nat} {b : UInt8} : testAt (· == b) s z = decide ((s.data.toList.drop z).head? = some b) := by
  unfold testAt
  rw [List.head?_drop]
  cases s.data.toList[z]? with
  | none => simp
  | some c =>
    rw [Option.any_some, Bool.eq_iff_iff]
    simp
theorem second_at {s : ByteArray} {z : Nat} (h : testAt (· == 58) s z = true) : secondS (s.data.toList.drop z) = addrS (restB s (z + 1)) := by
  have hz := test_lt h
  rw [test_in hz] at h
  have e : s[z]'hz = 58 := by simpa using h
  rw [List.drop_eq_getElem_cons (by rw [Array.length_toList]; exact hz)]
  show secondS (s[z]'hz :: _) = _
  rw [second_cons, if_pos e]
  rfl
theorem second_off {s : ByteArray} {z : Nat} (h : testAt (· == 58) s z = false) : secondS (s.data.toList.drop z) = none := by
  rw [test_head, decide_eq_false_iff_not] at h
  exact second_none h
set_option maxRecDepth 100000 in
set_option maxHeartbeats 8000000 in
theorem ref7_word (s : ByteArray) (i : Nat) (w : World) (hs : s.size ≤ 256) (hl : testAt isLet s i = true) :
    Calls Tryz.prog 73 #[.string s, .int .i64 (i : Int)] w fun e w' => RefOut i (wordR (restB s i) i) e ∧ Below w.heap.size w w' := by
  have hi := test_lt hl
  obtain ⟨z, hz⟩ : ∃ z, i + (wrdRun s i).length = z := ⟨_, rfl⟩
  have hzs : z ≤ s.size := by rw [← hz]; exact wrd_le s i (Nat.le_of_lt hi)
  have hiz : i ≤ z := by omega
  obtain ⟨A1, A2, A3, hp⟩ : ∃ c r e0, parseS (wrdRun s i) = (c, r, e0) := ⟨_, _, _, rfl⟩
  obtain ⟨u, hu⟩ : ∃ u, (wrdRun s i).map upB = u := ⟨_, rfl⟩
  have hdz : (restB s i).dropWhile isWrd = s.data.toList.drop z := by
    have h1 := (run_split isWrd (restB s i)).1
    have h2 : (restB s i).dropWhile isWrd = (restB s i).drop (wrdRun s i).length := by
      conv => rhs; rw [h1]
      rw [show (restB s i).takeWhile isWrd = wrdRun s i from rfl, List.drop_left]
    rw [h2]
    unfold restB
    rw [List.drop_drop, hz]
  have HWD := keep (show Wd (restB s i) u (s.data.toList.drop z) (wrdRun s i).length (A1, A2, A3) from
    ⟨by unfold restB; rw [List.head?_drop]; exact hl, hu, hdz, rfl, by rw [← hu, parse_up]; exact hp⟩)
  have HEQ := keep (addr_eq s i z A1 A2 A3 hl hz hp)
  have HZ := keep hz
  have HU := keep (show (s.extract i z).data.toList.map upB = u by rw [wrd_ext s i z hz]; exact hu)
  clear hz hp hu hdz hl
  have H1 := Lib.hid (Ok.start w)
  go_enter Tryz.func73, Tryz.ntmps73
  go_wp2_with fail
  have H2 := Lib.hid (H1.out.var w.heap.size 43 [.int .u8 0, .int .i64 0, .string ⟨#[]⟩, .int .i64 0, .int .i64 0, .int .i64 0, .int .i64 0, .int .i64 0] rfl)
  clear H1
  generalize (w.alloc (.cells #[.int .u8 0, .int .i64 0, .string ⟨#[]⟩, .int .i64 0, .int .i64 0, .int .i64 0, .int .i64 0, .int .i64 0] 43)) = W3 at H2 ⊢
  refine (ref7_wordEnd s i _ (by omega) (by omega)).mono ?_
  rintro e w7 ⟨rfl, hw7⟩
  obtain rfl : W3 = w7 := hw7.symm
  rw [HZ.out]
  go_wp2_with fail
  refine (ref4_Upper (s.extract i z) _ (by rw [ByteArray.size_extract]; omega)).mono ?_
  rintro e w4 ⟨rfl, hb5⟩
  rw [HU.out]
  have H6 := Lib.hid (H2.out.below hb5)
  clear hb5 H2
  go_upto_region 3 with fail
  obtain ⟨b, hb⟩ : ∃ b, testAt (· == 40) s z = b := ⟨_, rfl⟩
  have HB := keep hb
  clear hb
  go_cut [33] (fun s9 wx => s9 = .bool b ∧ wx = w4)
  case first =>
    by_cases h1 : (z : Int) < s.size
    · have hkl : z < s.size := by omega
      have hda := par_at hkl
      by_cases h2 : ((s[z]'hkl).toNat : Int) = 40
      · rw [decide_eq_true h2] at hda
        have hB := HB.out
        rw [hda] at hB
        subst hB
        have h2' : (((s[z]'hkl).toNat : Int) == 40) = true := by rw [h2]; rfl
        clear hda h2
        go_wp2_with fail
        go_meet
        exact ⟨rfl, rfl⟩
      · rw [decide_eq_false h2] at hda
        have hB := HB.out
        rw [hda] at hB
        subst hB
        have h2' : (((s[z]'hkl).toNat : Int) == 40) = false := by simpa using h2
        clear hda h2
        go_wp2_with fail
        go_meet
        exact ⟨rfl, rfl⟩
    · have hB := HB.out
      rw [test_out (by omega)] at hB
      subst hB
      go_wp2_with fail
      go_meet
      exact ⟨rfl, rfl⟩
  case rest =>
    obtain ⟨rfl, hwc⟩ := hcut
    obtain rfl : w4 = wc := hwc.symm
    cases b
    · have HN40 := keep (show (s.data.toList.drop z).head? ≠ some 40 by have h9 := HB.out; rw [test_head] at h9; simpa using h9)
      have HB40 := keep HB.out
      clear HB
      by_cases hT : u = trueB
      · have HRES := keep (HWD.out.yes (i := i) HN40.out hT)
        have hTb : (u == [84, 82, 85, 69]) = true := by rw [hT]; rfl
        clear hT
        have F7 := H6.out.sees
        simp only [sees, kVar, cellsAt, Nat.reduceAdd] at F7
        obtain ⟨⟨⟨z0, fz0⟩, c0_0, c0_1, c0_2, c0_3, c0_4, c0_5, c0_6, c0_7, -⟩, -⟩ := F7
        go_wp2_with fail
        have hK := H6.out.get (kVar (w.heap.size) 43 [.int .u8 0, .int .i64 0, .string ⟨#[]⟩, .int .i64 0, .int .i64 0, .int .i64 0, .int .i64 0, .int .i64 0]) (by simp)
        have hB := H6.out.bel
        have hE := (((((((((show Blk w4 (w.heap.size) 43 _ from hK).set_ 0 (.int .u8 3)).set_ 1 (.int .i64 1)).set_ 2 (.string ⟨#[]⟩)).set_ 3 (.int .i64 0)).set_ 4 (.int .i64 0)).set_ 5 (.int .i64 0)).set_ 6 (.int .i64 0)).set_ 7 (.int .i64 (i : Int)))
        have r0 := hE.cell 0
        have r1 := hE.cell 1
        have r2 := hE.cell 2
        have r3 := hE.cell 3
        have r4 := hE.cell 4
        have r5 := hE.cell 5
        have r6 := hE.cell 6
        have r7 := hE.cell 7
        simp at r0 r1 r2 r3 r4 r5 r6 r7
        refine bodyPost_ret (v := .tuple #[.agg #[.int .u8 3, .int .i64 1, .string ⟨#[]⟩, .int .i64 0, .int .i64 0, .int .i64 0, .int .i64 0, .int .i64 (i : Int)], .int .i64 (z : Int), .bool true]) (by simp [results, Tryz.results73, go_sem, r0, r1, r2, r3, r4, r5, r6, r7]) rfl ⟨refout_some z HRES.out HZ.out.symm, ((((((((hB.setCell (by simp) _).setCell (by simp) _).setCell (by simp) _).setCell (by simp) _).setCell (by simp) _).setCell (by simp) _).setCell (by simp) _).setCell (by simp) _)⟩
      · have HNT := keep hT
        have hTb : (u == [84, 82, 85, 69]) = false := str_ne hT
        clear hT
        by_cases hF : u = falseB
        · have HRES := keep (HWD.out.no (i := i) HN40.out HNT.out hF)
          have hFb : (u == [70, 65, 76, 83, 69]) = true := by rw [hF]; rfl
          clear hF
          have F7 := H6.out.sees
          simp only [sees, kVar, cellsAt, Nat.reduceAdd] at F7
          obtain ⟨⟨⟨z0, fz0⟩, c0_0, c0_1, c0_2, c0_3, c0_4, c0_5, c0_6, c0_7, -⟩, -⟩ := F7
          go_wp2_with fail
          have hK := H6.out.get (kVar (w.heap.size) 43 [.int .u8 0, .int .i64 0, .string ⟨#[]⟩, .int .i64 0, .int .i64 0, .int .i64 0, .int .i64 0, .int .i64 0]) (by simp)
          have hB := H6.out.bel
          have hE := (((((((((show Blk w4 (w.heap.size) 43 _ from hK).set_ 0 (.int .u8 3)).set_ 1 (.int .i64 0)).set_ 2 (.string ⟨#[]⟩)).set_ 3 (.int .i64 0)).set_ 4 (.int .i64 0)).set_ 5 (.int .i64 0)).set_ 6 (.int .i64 0)).set_ 7 (.int .i64 (i : Int)))
          have r0 := hE.cell 0
          have r1 := hE.cell 1
          have r2 := hE.cell 2
          have r3 := hE.cell 3
          have r4 := hE.cell 4
          have r5 := hE.cell 5
          have r6 := hE.cell 6
          have r7 := hE.cell 7
          simp at r0 r1 r2 r3 r4 r5 r6 r7
          refine bodyPost_ret (v := .tuple #[.agg #[.int .u8 3, .int .i64 0, .string ⟨#[]⟩, .int .i64 0, .int .i64 0, .int .i64 0, .int .i64 0, .int .i64 (i : Int)], .int .i64 (z : Int), .bool true]) (by simp [results, Tryz.results73, go_sem, r0, r1, r2, r3, r4, r5, r6, r7]) rfl ⟨refout_some z HRES.out HZ.out.symm, ((((((((hB.setCell (by simp) _).setCell (by simp) _).setCell (by simp) _).setCell (by simp) _).setCell (by simp) _).setCell (by simp) _).setCell (by simp) _).setCell (by simp) _)⟩
        · have HNF := keep hF
          have hFb : (u == [70, 65, 76, 83, 69]) = false := str_ne hF
          clear hF
          go_wp2_with fail
          refine (ref7_address s i _ hs (by omega)).mono ?_
          rintro e w8 ⟨⟨ca, ra, n0, rfl, hadr⟩, hb8⟩
          have H8 := Lib.hid (H6.out.below hb8)
          clear hb8 H6
          by_cases hA : A3 = 0
          · have hsome : addrS (restB s i) = some (A1, A2, (wrdRun s i).length) := by rw [HEQ.out, if_pos ⟨hA, HB40.out⟩]
            rw [hsome]
            obtain ⟨rfl, rfl, hn1⟩ := hadr _ hsome
            have hn0 : n0 = z := by rw [hn1]; exact HZ.out
            clear hadr hn1
            subst hn0
            have HA := keep hA
            clear hsome hA hTb hFb
            simp only [Option.isSome_some]
            go_upto_region 12 with fail
            have H7 := Lib.hid (H8.out.alloc w8.heap.size 104 [.int .i64 ca, .int .i64 ra] rfl)
            clear H8
            generalize (w8.alloc (.cells #[.int .i64 ca, .int .i64 ra] 104)) = W8 at H7 ⊢
            have F9 := H7.out.sees
            simp only [sees, kBlk, kVar, cellsAt, Nat.reduceAdd] at F9
            obtain ⟨⟨z0, c0_0, c0_1, -⟩, ⟨⟨z1, fz1⟩, c1_0, c1_1, c1_2, c1_3, c1_4, c1_5, c1_6, c1_7, -⟩, -⟩ := F9
            go_wp2_with fail
            refine (ref_One ca ra _).mono ?_
            rintro e w10 ⟨rfl, hb11⟩
            clear z0 c0_0 c0_1 z1 fz1 c1_0 c1_1 c1_2 c1_3 c1_4 c1_5 c1_6 c1_7
            have H12 := Lib.hid (H7.out.below hb11)
            clear hb11 H7
            go_upto_region 13 with fail
            have HF12 := Lib.hid (show ∀ x ∈ [kBlk (w8.heap.size) 104 [.int .i64 ca, .int .i64 ra], kVar (w.heap.size) 43 [.int .u8 0, .int .i64 0, .string ⟨#[]⟩, .int .i64 0, .int .i64 0, .int .i64 0, .int .i64 0, .int .i64 0]], x.far (some w10.heap.size) from fun x hx => x.new _ _ (Nat.le_refl _) (H12.out.all x hx))
            have HZ12 := Lib.hid H12.out.bel.size
            have H13 := Lib.hid (H12.out.var w10.heap.size 43 [.int .u8 5, .int .i64 0, .string ⟨#[]⟩, .int .i64 ca, .int .i64 ra, .int .i64 ca, .int .i64 ra, .int .i64 (i : Int)] rfl)
            clear H12
            generalize (w10.alloc (.cells #[.int .u8 5, .int .i64 0, .string ⟨#[]⟩, .int .i64 ca, .int .i64 ra, .int .i64 ca, .int .i64 ra, .int .i64 (i : Int)] 43)) = W14 at H13 ⊢
            go_upto_region 13 with fail
            obtain ⟨b, hb⟩ : ∃ b, testAt (· == 58) s n0 = b := ⟨_, rfl⟩
            have HB := keep hb
            clear hb
            go_cut [71] (fun s9 wx => s9 = .bool b ∧ wx = W14)
            case first =>
              by_cases h1 : (n0 : Int) < s.size
              · have hkl : n0 < s.size := by omega
                have hda := colon_at hkl
                by_cases h2 : ((s[n0]'hkl).toNat : Int) = 58
                · rw [decide_eq_true h2] at hda
                  have hB := HB.out
                  rw [hda] at hB
                  subst hB
                  have h2' : (((s[n0]'hkl).toNat : Int) == 58) = true := by rw [h2]; rfl
                  clear hda h2
                  go_wp2_with fail
                  go_meet
                  exact ⟨rfl, rfl⟩
                · rw [decide_eq_false h2] at hda
                  have hB := HB.out
                  rw [hda] at hB
                  subst hB
                  have h2' : (((s[n0]'hkl).toNat : Int) == 58) = false := by simpa using h2
                  clear hda h2
                  go_wp2_with fail
                  go_meet
                  exact ⟨rfl, rfl⟩
              · have hB := HB.out
                rw [test_out (by omega)] at hB
                subst hB
                go_wp2_with fail
                go_meet
                exact ⟨rfl, rfl⟩
            case rest =>
              obtain ⟨rfl, hwc⟩ := hcut
              obtain rfl : W14 = wc := hwc.symm
              cases b
              · have HRES := keep (HWD.out.one (i := i) HN40.out HNT.out HNF.out HA.out (second_off HB.out))
                have F15 := H13.out.sees
                simp only [sees, kBlk, kVar, cellsAt, Nat.reduceAdd] at F15
                obtain ⟨⟨⟨z0, fz0⟩, c0_0, c0_1, c0_2, c0_3, c0_4, c0_5, c0_6, c0_7, -⟩, ⟨z1, c1_0, c1_1, -⟩, ⟨⟨z2, fz2⟩, c2_0, c2_1, c2_2, c2_3, c2_4, c2_5, c2_6, c2_7, -⟩, -⟩ := F15
                go_wp2_with fail
                have hK := H13.out.get (kVar (w.heap.size) 43 [.int .u8 0, .int .i64 0, .string ⟨#[]⟩, .int .i64 0, .int .i64 0, .int .i64 0, .int .i64 0, .int .i64 0]) (by simp)
                have hB := H13.out.bel
                have hE := (((((((((show Blk W14 (w.heap.size) 43 _ from hK).set_ 0 (.int .u8 5)).set_ 1 (.int .i64 0)).set_ 2 (.string ⟨#[]⟩)).set_ 3 (.int .i64 ca)).set_ 4 (.int .i64 ra)).set_ 5 (.int .i64 ca)).set_ 6 (.int .i64 ra)).set_ 7 (.int .i64 (i : Int)))
                have r0 := hE.cell 0
                have r1 := hE.cell 1
                have r2 := hE.cell 2
                have r3 := hE.cell 3
                have r4 := hE.cell 4
                have r5 := hE.cell 5
                have r6 := hE.cell 6
                have r7 := hE.cell 7
                simp at r0 r1 r2 r3 r4 r5 r6 r7
                refine bodyPost_ret (v := .tuple #[.agg #[.int .u8 5, .int .i64 0, .string ⟨#[]⟩, .int .i64 ca, .int .i64 ra, .int .i64 ca, .int .i64 ra, .int .i64 (i : Int)], .int .i64 (n0 : Int), .bool true]) (by simp [results, Tryz.results73, go_sem, r0, r1, r2, r3, r4, r5, r6, r7]) rfl ⟨refout_some n0 HRES.out HZ.out.symm, ((((((((hB.setCell (by simp) _).setCell (by simp) _).setCell (by simp) _).setCell (by simp) _).setCell (by simp) _).setCell (by simp) _).setCell (by simp) _).setCell (by simp) _)⟩
              · have hzl := test_lt HB.out
                obtain ⟨q, hq⟩ : ∃ q, n0 + 1 = q := ⟨_, rfl⟩
                have hqi : (n0 : Int) + 1 = (q : Int) := by omega
                have HSQ := keep (show secondS (s.data.toList.drop n0) = addrS (restB s q) by rw [← hq]; exact second_at HB.out)
                have HQ := keep hq
                have hqs : q ≤ s.size := by omega
                clear hq HB
                go_wp2_with fail
                refine (ref7_address s q _ hs hqs).mono ?_
                rintro e w9 ⟨⟨cb, rb, m1, rfl, hadr⟩, hb9⟩
                have H9 := Lib.hid (H13.out.below hb9)
                clear hb9 H13
                obtain ⟨X, hX⟩ : ∃ X, addrS (restB s q) = X := ⟨_, rfl⟩
                rw [hX] at hadr ⊢
                have HX := keep hX
                clear hX
                cases X with
                | none =>
                  clear hadr
                  have HRES := keep (HWD.out.one (i := i) HN40.out HNT.out HNF.out HA.out (by rw [HSQ.out]; exact HX.out))
                  simp only [Option.isSome_none]
                  have F15 := H9.out.sees
                  simp only [sees, kBlk, kVar, cellsAt, Nat.reduceAdd] at F15
                  obtain ⟨⟨⟨z0, fz0⟩, c0_0, c0_1, c0_2, c0_3, c0_4, c0_5, c0_6, c0_7, -⟩, ⟨z1, c1_0, c1_1, -⟩, ⟨⟨z2, fz2⟩, c2_0, c2_1, c2_2, c2_3, c2_4, c2_5, c2_6, c2_7, -⟩, -⟩ := F15
                  go_upto_region 15 with fail
                  clear z0 fz0 c0_0 c0_1 c0_2 c0_3 c0_4 c0_5 c0_6 c0_7 z1 c1_0 c1_1 z2 fz2 c2_0 c2_1 c2_2 c2_3 c2_4 c2_5 c2_6 c2_7
                  have H16 := Lib.hid (H9.out.alloc w9.heap.size 104 [.int .i64 cb, .int .i64 rb] rfl)
                  clear H9
                  generalize (w9.alloc (.cells #[.int .i64 cb, .int .i64 rb] 104)) = W17 at H16 ⊢
                  have F18 := H16.out.sees
                  simp only [sees, kBlk, kVar, cellsAt, Nat.reduceAdd] at F18
                  obtain ⟨⟨z0, c0_0, c0_1, -⟩, ⟨⟨z1, fz1⟩, c1_0, c1_1, c1_2, c1_3, c1_4, c1_5, c1_6, c1_7, -⟩, ⟨z2, c2_0, c2_1, -⟩, ⟨⟨z3, fz3⟩, c3_0, c3_1, c3_2, c3_3, c3_4, c3_5, c3_6, c3_7, -⟩, -⟩ := F18
                  go_wp2_with fail
                  have hK := H16.out.get (kVar (w.heap.size) 43 [.int .u8 0, .int .i64 0, .string ⟨#[]⟩, .int .i64 0, .int .i64 0, .int .i64 0, .int .i64 0, .int .i64 0]) (by simp)
                  have hB := H16.out.bel
                  have hE := (((((((((show Blk W17 (w.heap.size) 43 _ from hK).set_ 0 (.int .u8 5)).set_ 1 (.int .i64 0)).set_ 2 (.string ⟨#[]⟩)).set_ 3 (.int .i64 ca)).set_ 4 (.int .i64 ra)).set_ 5 (.int .i64 ca)).set_ 6 (.int .i64 ra)).set_ 7 (.int .i64 (i : Int)))
                  have r0 := hE.cell 0
                  have r1 := hE.cell 1
                  have r2 := hE.cell 2
                  have r3 := hE.cell 3
                  have r4 := hE.cell 4
                  have r5 := hE.cell 5
                  have r6 := hE.cell 6
                  have r7 := hE.cell 7
                  simp at r0 r1 r2 r3 r4 r5 r6 r7
                  refine bodyPost_ret (v := .tuple #[.agg #[.int .u8 5, .int .i64 0, .string ⟨#[]⟩, .int .i64 ca, .int .i64 ra, .int .i64 ca, .int .i64 ra, .int .i64 (i : Int)], .int .i64 (n0 : Int), .bool true]) (by simp [results, Tryz.results73, go_sem, r0, r1, r2, r3, r4, r5, r6, r7]) rfl ⟨refout_some n0 HRES.out HZ.out.symm, ((((((((hB.setCell (by simp) _).setCell (by simp) _).setCell (by simp) _).setCell (by simp) _).setCell (by simp) _).setCell (by simp) _).setCell (by simp) _).setCell (by simp) _)⟩
                | some Y =>
                  obtain ⟨B1, B2, m⟩ := Y
                  obtain ⟨rfl, rfl, hm1⟩ := hadr _ rfl
                  have HM := keep (show m1 = q + m from hm1)
                  clear hadr hm1
                  have HSEC := keep (show secondS (s.data.toList.drop n0) = some (cb, rb, m) by rw [HSQ.out]; exact HX.out)
                  have HRES := keep (HWD.out.two (i := i) HN40.out HNT.out HNF.out HA.out HSEC.out)
                  simp only [Option.isSome_some]
                  have F15 := H9.out.sees
                  simp only [sees, kBlk, kVar, cellsAt, Nat.reduceAdd] at F15
                  obtain ⟨⟨⟨z0, fz0⟩, c0_0, c0_1, c0_2, c0_3, c0_4, c0_5, c0_6, c0_7, -⟩, ⟨z1, c1_0, c1_1, -⟩, ⟨⟨z2, fz2⟩, c2_0, c2_1, c2_2, c2_3, c2_4, c2_5, c2_6, c2_7, -⟩, -⟩ := F15
                  go_upto_region 16 with fail
                  have hz13 := z0
                  have HZ13 := Lib.hid hz13
                  clear z0 fz0 c0_0 c0_1 c0_2 c0_3 c0_4 c0_5 c0_6 c0_7 z1 c1_0 c1_1 z2 fz2 c2_0 c2_1 c2_2 c2_3 c2_4 c2_5 c2_6 c2_7
                  have H16 := Lib.hid (H9.out.alloc w9.heap.size 104 [.int .i64 cb, .int .i64 rb] rfl)
                  clear H9
                  generalize (w9.alloc (.cells #[.int .i64 cb, .int .i64 rb] 104)) = W17 at H16 ⊢
                  have F18 := H16.out.sees
                  simp only [sees, kBlk, kVar, cellsAt, Nat.reduceAdd] at F18
                  obtain ⟨⟨z0, c0_0, c0_1, -⟩, ⟨⟨z1, fz1⟩, c1_0, c1_1, c1_2, c1_3, c1_4, c1_5, c1_6, c1_7, -⟩, ⟨z2, c2_0, c2_1, -⟩, ⟨⟨z3, fz3⟩, c3_0, c3_1, c3_2, c3_3, c3_4, c3_5, c3_6, c3_7, -⟩, -⟩ := F18
                  go_upto_region 17 with fail
                  clear z0 c0_0 c0_1 z1 fz1 c1_0 c1_1 c1_2 c1_3 c1_4 c1_5 c1_6 c1_7 z2 c2_0 c2_1 z3 fz3 c3_0 c3_1 c3_2 c3_3 c3_4 c3_5 c3_6 c3_7
                  have H10 := Lib.hid (H16.out.drop [kVar (w10.heap.size) 43 [.int .u8 5, .int .i64 0, .string ⟨#[]⟩, .int .i64 ca, .int .i64 ra, .int .i64 ca, .int .i64 ra, .int .i64 (i : Int)], kBlk (w9.heap.size) 104 [.int .i64 cb, .int .i64 rb], kBlk (w8.heap.size) 104 [.int .i64 ca, .int .i64 ra], kVar (w.heap.size) 43 [.int .u8 0, .int .i64 0, .string ⟨#[]⟩, .int .i64 0, .int .i64 0, .int .i64 0, .int .i64 0, .int .i64 0]] (by simp))
                  have hfar : ∀ x ∈ [kBlk (w9.heap.size) 104 [.int .i64 cb, .int .i64 rb], kBlk (w8.heap.size) 104 [.int .i64 ca, .int .i64 ra], kVar (w.heap.size) 43 [.int .u8 0, .int .i64 0, .string ⟨#[]⟩, .int .i64 0, .int .i64 0, .int .i64 0, .int .i64 0, .int .i64 0]], x.far (some (w10.heap.size)) := by
                    intro x hx
                    rcases List.mem_cons.1 hx with rfl | hx
                    · have := HZ13.out
                      simp [kBlk]; omega
                    · exact HF12.out x hx
                  have H11 : Hid (Ok w [kVar (w10.heap.size) 43 [.int .u8 5, .int .i64 0, .string ⟨#[]⟩, .int .i64 (min ca cb), .int .i64 (min ra rb), .int .i64 (max ca cb), .int .i64 (max ra rb), .int .i64 (i : Int)], kBlk (w9.heap.size) 104 [.int .i64 cb, .int .i64 rb], kBlk (w8.heap.size) 104 [.int .i64 ca, .int .i64 ra], kVar (w.heap.size) 43 [.int .u8 0, .int .i64 0, .string ⟨#[]⟩, .int .i64 0, .int .i64 0, .int .i64 0, .int .i64 0, .int .i64 0]] ((((W17.setCell ⟨w10.heap.size, 3, none⟩ (.int .i64 (min ca cb))).setCell ⟨w10.heap.size, 4, none⟩ (.int .i64 (min ra rb))).setCell ⟨w10.heap.size, 5, none⟩ (.int .i64 (max ca cb))).setCell ⟨w10.heap.size, 6, none⟩ (.int .i64 (max ra rb)))) := ((((H10.out.set_ (i := 3) (u := .int .i64 (min ca cb)) HZ12.out hfar).set_ (i := 4) (u := .int .i64 (min ra rb)) HZ12.out hfar).set_ (i := 5) (u := .int .i64 (max ca cb)) HZ12.out hfar).set_ (i := 6) (u := .int .i64 (max ra rb)) HZ12.out hfar)
                  clear H10 hfar H16
                  generalize ((((W17.setCell ⟨w10.heap.size, 3, none⟩ (.int .i64 (min ca cb))).setCell ⟨w10.heap.size, 4, none⟩ (.int .i64 (min ra rb))).setCell ⟨w10.heap.size, 5, none⟩ (.int .i64 (max ca cb))).setCell ⟨w10.heap.size, 6, none⟩ (.int .i64 (max ra rb))) = W19 at H11 ⊢
                  by_cases hAB : ca = cb ∧ ra = rb
                  · have HR5 := keep (show wordR (restB s i) i = some (⟨5, 0, [], rectS (ca, ra) (cb, rb), i⟩, (wrdRun s i).length + 1 + m) by have h9 := HRES.out; simp only [] at h9; rw [if_pos hAB] at h9; exact h9)
                    clear HRES
                    obtain ⟨rfl, rfl⟩ := hAB
                    have F20 := H11.out.sees
                    simp only [sees, kBlk, kVar, cellsAt, Nat.reduceAdd] at F20
                    obtain ⟨⟨⟨z0, fz0⟩, c0_0, c0_1, c0_2, c0_3, c0_4, c0_5, c0_6, c0_7, -⟩, ⟨z1, c1_0, c1_1, -⟩, ⟨z2, c2_0, c2_1, -⟩, ⟨⟨z3, fz3⟩, c3_0, c3_1, c3_2, c3_3, c3_4, c3_5, c3_6, c3_7, -⟩, -⟩ := F20
                    go_wp2_with fail
                    have hK := H11.out.get (kVar (w.heap.size) 43 [.int .u8 0, .int .i64 0, .string ⟨#[]⟩, .int .i64 0, .int .i64 0, .int .i64 0, .int .i64 0, .int .i64 0]) (by simp)
                    have hB := H11.out.bel
                    have hE := (((((((((show Blk W19 (w.heap.size) 43 _ from hK).set_ 0 (.int .u8 5)).set_ 1 (.int .i64 0)).set_ 2 (.string ⟨#[]⟩)).set_ 3 (.int .i64 (min ca ca))).set_ 4 (.int .i64 (min ra ra))).set_ 5 (.int .i64 (max ca ca))).set_ 6 (.int .i64 (max ra ra))).set_ 7 (.int .i64 (i : Int)))
                    have r0 := hE.cell 0
                    have r1 := hE.cell 1
                    have r2 := hE.cell 2
                    have r3 := hE.cell 3
                    have r4 := hE.cell 4
                    have r5 := hE.cell 5
                    have r6 := hE.cell 6
                    have r7 := hE.cell 7
                    simp at r0 r1 r2 r3 r4 r5 r6 r7
                    refine bodyPost_ret (v := .tuple #[.agg #[.int .u8 5, .int .i64 0, .string ⟨#[]⟩, .int .i64 (min ca ca), .int .i64 (min ra ra), .int .i64 (max ca ca), .int .i64 (max ra ra), .int .i64 (i : Int)], .int .i64 (m1 : Int), .bool true]) (by simp [results, Tryz.results73, go_sem, r0, r1, r2, r3, r4, r5, r6, r7]) rfl ⟨refout_some m1 HR5.out (by have := HM.out; have := HQ.out; have := HZ.out; omega), ((((((((hB.setCell (by simp) _).setCell (by simp) _).setCell (by simp) _).setCell (by simp) _).setCell (by simp) _).setCell (by simp) _).setCell (by simp) _).setCell (by simp) _)⟩
                  · have HR5 := keep (show wordR (restB s i) i = some (⟨6, 0, [], rectS (ca, ra) (cb, rb), i⟩, (wrdRun s i).length + 1 + m) by have h9 := HRES.out; simp only [] at h9; rw [if_neg hAB] at h9; exact h9)
                    clear HRES
                    by_cases hA1 : ca = cb
                    · have hA2 : ¬ ra = rb := fun h => hAB ⟨hA1, h⟩
                      clear hAB
                      subst hA1
                      have hM : (min ca ca, max ca ca) = (ca, ca) := by simp
                      clear hM
                      have F20 := H11.out.sees
                      simp only [sees, kBlk, kVar, cellsAt, Nat.reduceAdd] at F20
                      obtain ⟨⟨⟨z0, fz0⟩, c0_0, c0_1, c0_2, c0_3, c0_4, c0_5, c0_6, c0_7, -⟩, ⟨z1, c1_0, c1_1, -⟩, ⟨z2, c2_0, c2_1, -⟩, ⟨⟨z3, fz3⟩, c3_0, c3_1, c3_2, c3_3, c3_4, c3_5, c3_6, c3_7, -⟩, -⟩ := F20
                      go_upto_region 19 with fail
                      clear z0 fz0 c0_0 c0_1 c0_2 c0_3 c0_4 c0_5 c0_6 c0_7 z1 c1_0 c1_1 z2 c2_0 c2_1 z3 fz3 c3_0 c3_1 c3_2 c3_3 c3_4 c3_5 c3_6 c3_7
                      have hfar : ∀ x ∈ [kBlk (w9.heap.size) 104 [.int .i64 ca, .int .i64 rb], kBlk (w8.heap.size) 104 [.int .i64 ca, .int .i64 ra], kVar (w.heap.size) 43 [.int .u8 0, .int .i64 0, .string ⟨#[]⟩, .int .i64 0, .int .i64 0, .int .i64 0, .int .i64 0, .int .i64 0]], x.far (some (w10.heap.size)) := by
                        intro x hx
                        rcases List.mem_cons.1 hx with rfl | hx
                        · have := HZ13.out
                          simp [kBlk]; omega
                        · exact HF12.out x hx
                      have H12 : Hid (Ok w [kVar (w10.heap.size) 43 [.int .u8 6, .int .i64 0, .string ⟨#[]⟩, .int .i64 (min ca ca), .int .i64 (min ra rb), .int .i64 (max ca ca), .int .i64 (max ra rb), .int .i64 (i : Int)], kBlk (w9.heap.size) 104 [.int .i64 ca, .int .i64 rb], kBlk (w8.heap.size) 104 [.int .i64 ca, .int .i64 ra], kVar (w.heap.size) 43 [.int .u8 0, .int .i64 0, .string ⟨#[]⟩, .int .i64 0, .int .i64 0, .int .i64 0, .int .i64 0, .int .i64 0]] (W19.setCell ⟨w10.heap.size, 0, none⟩ (.int .u8 6))) := H11.out.set_ (i := 0) (u := .int .u8 6) HZ12.out hfar
                      clear hfar H11
                      generalize (W19.setCell ⟨w10.heap.size, 0, none⟩ (.int .u8 6)) = W21 at H12 ⊢
                      have F22 := H12.out.sees
                      simp only [sees, kBlk, kVar, cellsAt, Nat.reduceAdd] at F22
                      obtain ⟨⟨⟨z0, fz0⟩, c0_0, c0_1, c0_2, c0_3, c0_4, c0_5, c0_6, c0_7, -⟩, ⟨z1, c1_0, c1_1, -⟩, ⟨z2, c2_0, c2_1, -⟩, ⟨⟨z3, fz3⟩, c3_0, c3_1, c3_2, c3_3, c3_4, c3_5, c3_6, c3_7, -⟩, -⟩ := F22
                      go_wp2_with fail
                      have hK := H12.out.get (kVar (w.heap.size) 43 [.int .u8 0, .int .i64 0, .string ⟨#[]⟩, .int .i64 0, .int .i64 0, .int .i64 0, .int .i64 0, .int .i64 0]) (by simp)
                      have hB := H12.out.bel
                      have hE := (((((((((show Blk W21 (w.heap.size) 43 _ from hK).set_ 0 (.int .u8 6)).set_ 1 (.int .i64 0)).set_ 2 (.string ⟨#[]⟩)).set_ 3 (.int .i64 (min ca ca))).set_ 4 (.int .i64 (min ra rb))).set_ 5 (.int .i64 (max ca ca))).set_ 6 (.int .i64 (max ra rb))).set_ 7 (.int .i64 (i : Int)))
                      have r0 := hE.cell 0
                      have r1 := hE.cell 1
                      have r2 := hE.cell 2
                      have r3 := hE.cell 3
                      have r4 := hE.cell 4
                      have r5 := hE.cell 5
                      have r6 := hE.cell 6
                      have r7 := hE.cell 7
                      simp at r0 r1 r2 r3 r4 r5 r6 r7
                      refine bodyPost_ret (v := .tuple #[.agg #[.int .u8 6, .int .i64 0, .string ⟨#[]⟩, .int .i64 (min ca ca), .int .i64 (min ra rb), .int .i64 (max ca ca), .int .i64 (max ra rb), .int .i64 (i : Int)], .int .i64 (m1 : Int), .bool true]) (by simp [results, Tryz.results73, go_sem, r0, r1, r2, r3, r4, r5, r6, r7]) rfl ⟨refout_some m1 HR5.out (by have := HM.out; have := HQ.out; have := HZ.out; omega), ((((((((hB.setCell (by simp) _).setCell (by simp) _).setCell (by simp) _).setCell (by simp) _).setCell (by simp) _).setCell (by simp) _).setCell (by simp) _).setCell (by simp) _)⟩
                    · clear hAB
                      have F20 := H11.out.sees
                      simp only [sees, kBlk, kVar, cellsAt, Nat.reduceAdd] at F20
                      obtain ⟨⟨⟨z0, fz0⟩, c0_0, c0_1, c0_2, c0_3, c0_4, c0_5, c0_6, c0_7, -⟩, ⟨z1, c1_0, c1_1, -⟩, ⟨z2, c2_0, c2_1, -⟩, ⟨⟨z3, fz3⟩, c3_0, c3_1, c3_2, c3_3, c3_4, c3_5, c3_6, c3_7, -⟩, -⟩ := F20
                      go_upto_region 19 with fail
                      clear z0 fz0 c0_0 c0_1 c0_2 c0_3 c0_4 c0_5 c0_6 c0_7 z1 c1_0 c1_1 z2 c2_0 c2_1 z3 fz3 c3_0 c3_1 c3_2 c3_3 c3_4 c3_5 c3_6 c3_7
                      have hfar : ∀ x ∈ [kBlk (w9.heap.size) 104 [.int .i64 cb, .int .i64 rb], kBlk (w8.heap.size) 104 [.int .i64 ca, .int .i64 ra], kVar (w.heap.size) 43 [.int .u8 0, .int .i64 0, .string ⟨#[]⟩, .int .i64 0, .int .i64 0, .int .i64 0, .int .i64 0, .int .i64 0]], x.far (some (w10.heap.size)) := by
                        intro x hx
                        rcases List.mem_cons.1 hx with rfl | hx
                        · have := HZ13.out
                          simp [kBlk]; omega
                        · exact HF12.out x hx
                      have H12 : Hid (Ok w [kVar (w10.heap.size) 43 [.int .u8 6, .int .i64 0, .string ⟨#[]⟩, .int .i64 (min ca cb), .int .i64 (min ra rb), .int .i64 (max ca cb), .int .i64 (max ra rb), .int .i64 (i : Int)], kBlk (w9.heap.size) 104 [.int .i64 cb, .int .i64 rb], kBlk (w8.heap.size) 104 [.int .i64 ca, .int .i64 ra], kVar (w.heap.size) 43 [.int .u8 0, .int .i64 0, .string ⟨#[]⟩, .int .i64 0, .int .i64 0, .int .i64 0, .int .i64 0, .int .i64 0]] (W19.setCell ⟨w10.heap.size, 0, none⟩ (.int .u8 6))) := H11.out.set_ (i := 0) (u := .int .u8 6) HZ12.out hfar
                      clear hfar H11
                      generalize (W19.setCell ⟨w10.heap.size, 0, none⟩ (.int .u8 6)) = W21 at H12 ⊢
                      have F22 := H12.out.sees
                      simp only [sees, kBlk, kVar, cellsAt, Nat.reduceAdd] at F22
                      obtain ⟨⟨⟨z0, fz0⟩, c0_0, c0_1, c0_2, c0_3, c0_4, c0_5, c0_6, c0_7, -⟩, ⟨z1, c1_0, c1_1, -⟩, ⟨z2, c2_0, c2_1, -⟩, ⟨⟨z3, fz3⟩, c3_0, c3_1, c3_2, c3_3, c3_4, c3_5, c3_6, c3_7, -⟩, -⟩ := F22
                      go_wp2_with fail
                      have hK := H12.out.get (kVar (w.heap.size) 43 [.int .u8 0, .int .i64 0, .string ⟨#[]⟩, .int .i64 0, .int .i64 0, .int .i64 0, .int .i64 0, .int .i64 0]) (by simp)
                      have hB := H12.out.bel
                      have hE := (((((((((show Blk W21 (w.heap.size) 43 _ from hK).set_ 0 (.int .u8 6)).set_ 1 (.int .i64 0)).set_ 2 (.string ⟨#[]⟩)).set_ 3 (.int .i64 (min ca cb))).set_ 4 (.int .i64 (min ra rb))).set_ 5 (.int .i64 (max ca cb))).set_ 6 (.int .i64 (max ra rb))).set_ 7 (.int .i64 (i : Int)))
                      have r0 := hE.cell 0
                      have r1 := hE.cell 1
                      have r2 := hE.cell 2
                      have r3 := hE.cell 3
                      have r4 := hE.cell 4
                      have r5 := hE.cell 5
                      have r6 := hE.cell 6
                      have r7 := hE.cell 7
                      simp at r0 r1 r2 r3 r4 r5 r6 r7
                      refine bodyPost_ret (v := .tuple #[.agg #[.int .u8 6, .int .i64 0, .string ⟨#[]⟩, .int .i64 (min ca cb), .int .i64 (min ra rb), .int .i64 (max ca cb), .int .i64 (max ra rb), .int .i64 (i : Int)], .int .i64 (m1 : Int), .bool true]) (by simp [results, Tryz.results73, go_sem, r0, r1, r2, r3, r4, r5, r6, r7]) rfl ⟨refout_some m1 HR5.out (by have := HM.out; have := HQ.out; have := HZ.out; omega), ((((((((hB.setCell (by simp) _).setCell (by simp) _).setCell (by simp) _).setCell (by simp) _).setCell (by simp) _).setCell (by simp) _).setCell (by simp) _).setCell (by simp) _)⟩
          · have hno : addrS (restB s i) = none := by rw [HEQ.out, if_neg (fun h => hA h.1)]
            rw [hno]
            have HRES := keep (HWD.out.bad (i := i) HN40.out HNT.out HNF.out hA)
            clear hadr hno hA
            simp only [Option.isSome_none]
            go_upto_region 10 with fail
            have H7 := Lib.hid (H8.out.alloc w8.heap.size 104 [.int .i64 ca, .int .i64 ra] rfl)
            clear H8
            generalize (w8.alloc (.cells #[.int .i64 ca, .int .i64 ra] 104)) = W8 at H7 ⊢
            have F9 := H7.out.sees
            simp only [sees, kBlk, kVar, cellsAt, Nat.reduceAdd] at F9
            obtain ⟨⟨z0, c0_0, c0_1, -⟩, ⟨⟨z1, fz1⟩, c1_0, c1_1, c1_2, c1_3, c1_4, c1_5, c1_6, c1_7, -⟩, -⟩ := F9
            go_wp2_with fail
            have hK := H7.out.get (kVar (w.heap.size) 43 [.int .u8 0, .int .i64 0, .string ⟨#[]⟩, .int .i64 0, .int .i64 0, .int .i64 0, .int .i64 0, .int .i64 0]) (by simp)
            have hB := H7.out.bel
            have hE := (((((((((show Blk W8 (w.heap.size) 43 _ from hK).set_ 0 (.int .u8 0)).set_ 1 (.int .i64 0)).set_ 2 (.string ⟨#[]⟩)).set_ 3 (.int .i64 0)).set_ 4 (.int .i64 0)).set_ 5 (.int .i64 0)).set_ 6 (.int .i64 0)).set_ 7 (.int .i64 0))
            have r0 := hE.cell 0
            have r1 := hE.cell 1
            have r2 := hE.cell 2
            have r3 := hE.cell 3
            have r4 := hE.cell 4
            have r5 := hE.cell 5
            have r6 := hE.cell 6
            have r7 := hE.cell 7
            simp at r0 r1 r2 r3 r4 r5 r6 r7
            refine bodyPost_ret (v := .tuple #[.agg #[.int .u8 0, .int .i64 0, .string ⟨#[]⟩, .int .i64 0, .int .i64 0, .int .i64 0, .int .i64 0, .int .i64 0], .int .i64 0, .bool false]) (by simp [results, Tryz.results73, go_sem, r0, r1, r2, r3, r4, r5, r6, r7]) rfl ⟨refout_none Tk.zero HRES.out, ((((((((hB.setCell (by simp) _).setCell (by simp) _).setCell (by simp) _).setCell (by simp) _).setCell (by simp) _).setCell (by simp) _).setCell (by simp) _).setCell (by simp) _)⟩
    · have HRES := keep (HWD.out.name (i := i) (by have h9 := HB.out; rw [test_head] at h9; simpa using h9))
      have F7 := H6.out.sees
      simp only [sees, kVar, cellsAt, Nat.reduceAdd] at F7
      obtain ⟨⟨⟨z0, fz0⟩, c0_0, c0_1, c0_2, c0_3, c0_4, c0_5, c0_6, c0_7, -⟩, -⟩ := F7
      go_wp2_with fail
      have hK := H6.out.get (kVar (w.heap.size) 43 [.int .u8 0, .int .i64 0, .string ⟨#[]⟩, .int .i64 0, .int .i64 0, .int .i64 0, .int .i64 0, .int .i64 0]) (by simp)
      have hB := H6.out.bel
      have hE := (((((((((show Blk w4 (w.heap.size) 43 _ from hK).set_ 0 (.int .u8 7)).set_ 1 (.int .i64 0)).set_ 2 (.string ⟨u.toArray⟩)).set_ 3 (.int .i64 0)).set_ 4 (.int .i64 0)).set_ 5 (.int .i64 0)).set_ 6 (.int .i64 0)).set_ 7 (.int .i64 (i : Int)))
      have r0 := hE.cell 0
      have r1 := hE.cell 1
      have r2 := hE.cell 2
      have r3 := hE.cell 3
      have r4 := hE.cell 4
      have r5 := hE.cell 5
      have r6 := hE.cell 6
      have r7 := hE.cell 7
      simp at r0 r1 r2 r3 r4 r5 r6 r7
      refine bodyPost_ret (v := .tuple #[.agg #[.int .u8 7, .int .i64 0, .string ⟨u.toArray⟩, .int .i64 0, .int .i64 0, .int .i64 0, .int .i64 0, .int .i64 (i : Int)], .int .i64 (z : Int), .bool true]) (by simp [results, Tryz.results73, go_sem, r0, r1, r2, r3, r4, r5, r6, r7]) rfl ⟨refout_some z HRES.out HZ.out.symm, ((((((((hB.setCell (by simp) _).setCell (by simp) _).setCell (by simp) _).setCell (by simp) _).setCell (by simp) _).setCell (by simp) _).setCell (by simp) _).setCell (by simp) _)⟩
end Go.Proofs.YtlngjiibbcgkmaaGreatDoor
