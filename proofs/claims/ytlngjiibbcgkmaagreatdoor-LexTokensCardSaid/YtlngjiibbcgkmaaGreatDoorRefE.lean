/- Contracts of the reference lexer's sign and token. -/
import Derived.Test.YtlngjiibbcgkmaaGreatDoorRefD
namespace Go.Proofs.YtlngjiibbcgkmaaGreatDoor
open Go.RowKit

theorem name_data (c : Nat) (h1 : 1 ≤ c) (h5 : c ≤ 5) : errT (c : Int) = allNames[c]?.getD [] := by
  unfold errT
  rw [if_pos (by omega), Int.toNat_natCast]
theorem opText_two (o : Int) : (opText o).length ≤ 2 := by
  by_cases h : 1 ≤ o ∧ o ≤ 13
  · rcases (show o = 1 ∨ o = 2 ∨ o = 3 ∨ o = 4 ∨ o = 5 ∨ o = 6 ∨ o = 7 ∨ o = 8 ∨ o = 9 ∨ o = 10 ∨ o = 11 ∨ o = 12 ∨ o = 13 by omega) with rfl | rfl | rfl | rfl | rfl | rfl | rfl | rfl | rfl | rfl | rfl | rfl | rfl <;> decide
  · have e : opText o = [] := by unfold opText; rw [if_neg (by omega), if_neg (by omega), if_neg (by omega), if_neg (by omega), if_neg (by omega), if_neg (by omega), if_neg (by omega), if_neg (by omega), if_neg (by omega), if_neg (by omega), if_neg (by omega), if_neg (by omega), if_neg (by omega)]
    rw [e]
    decide
theorem orR_none {a b : Option (Tk × Nat)} (h : a = none) : orR a b = b := by rw [h]; rfl
theorem orR_some {a b : Option (Tk × Nat)} {x : Tk × Nat} (h : a = some x) : orR a b = some x := by rw [h]; rfl
set_option maxRecDepth 100000 in
set_option maxHeartbeats 8000000 in
theorem ref7_sign (s : ByteArray) (i : Nat) (w : World) (hs : s.size ≤ 256) (hi : i < s.size) :
    Calls Tryz.prog 74 #[.string s, .int .i64 (i : Int)] w fun e w' => RefOut i (orR (errR (restB s i) i) (signR (restB s i) i)) e ∧ Below w.heap.size w w' := by
  have H1 := Lib.hid (Ok.start w)
  go_enter Tryz.func74, Tryz.ntmps74
  go_wp2_with fail
  have H2 := Lib.hid (H1.out.var w.heap.size 43 [.int .u8 0, .int .i64 0, .string ⟨#[]⟩, .int .i64 0, .int .i64 0, .int .i64 0, .int .i64 0, .int .i64 0] rfl)
  clear H1
  generalize (w.alloc (.cells #[.int .u8 0, .int .i64 0, .string ⟨#[]⟩, .int .i64 0, .int .i64 0, .int .i64 0, .int .i64 0, .int .i64 0] 43)) = W3 at H2 ⊢
  go_loopw [7] (fun cv wr => ∃ c : Nat, 1 ≤ c ∧ c ≤ 6 ∧ cv = .int .i64 (c : Int) ∧ Keep (∀ d : Nat, 1 ≤ d → d < c → begB (restB s i) (allNames[d]?.getD []) = false) ∧ Hid (Ok w [kVar (w.heap.size) 43 [.int .u8 0, .int .i64 0, .string ⟨#[]⟩, .int .i64 0, .int .i64 0, .int .i64 0, .int .i64 0, .int .i64 0]] wr)) (fun cv _ => 6 - (intOf cv).toNat)
  case atStart => exact ⟨1, by omega, by omega, rfl, keep (fun d _ _ => by omega), H2⟩
  case round =>
    clear H2
    obtain ⟨c, hc1, hc6, rfl, HP, HR⟩ := hrel
    obtain ⟨wp, rfl⟩ : ∃ wp : World, wp = wr := ⟨_, rfl⟩
    by_cases hlt : (c : Int) ≤ 5
    · have hc5 : c ≤ 5 := by omega
      have HND := keep (name_data c hc1 hc5)
      obtain ⟨X, hX⟩ : ∃ X : ByteArray, X = ⟨(allNames[c]?.getD []).toArray⟩ := ⟨_, rfl⟩
      have HX := keep (show X.data.toList = allNames[c]?.getD [] by rw [hX])
      have hxs : X.size ≤ 7 := by rw [hX]; exact (name_len c hc1 hc5).2
      have HXE := keep hX
      clear hX
      go_wp2_with fail
      refine (ref5_Show (c : Int) _).mono ?_
      rintro e w4 ⟨rfl, hb5⟩
      rw [HND.out, ← HXE.out]
      have H6 := Lib.hid (HR.out.below hb5)
      clear hb5 HR
      go_wp2_with fail
      refine (ref7_begins s X i _ hs (by omega) (by omega)).mono ?_
      rintro e w7 ⟨rfl, hb8⟩
      have H9 := Lib.hid (H6.out.below hb8)
      clear hb8 H6
      obtain ⟨b, hb⟩ : ∃ b, begB (restB s i) X.data.toList = b := ⟨_, rfl⟩
      rw [hb]
      rw [HX.out] at hb
      have HB := keep hb
      clear hb
      cases b
      · go_wp2_with fail
        go_roundw
        case rel => exact ⟨c + 1, by omega, by omega, by go_num, keep (fun d h1 h2 => by
          rcases Nat.lt_succ_iff_lt_or_eq.1 h2 with h | rfl
          · exact HP.out d h1 h
          · exact HB.out), H9⟩
        case measure => simp [intOf]; omega
      · have HRES := keep (show orR (errR (restB s i) i) (signR (restB s i) i) = some (⟨4, (c : Int), [], R4.zero, i⟩, X.size) from orR_some (by unfold errR; rw [err_some c hc1 hc5 HP.out HB.out, ← HX.out, Array.length_toList]; rfl))
        have F10 := H9.out.sees
        simp only [sees, kVar, cellsAt, Nat.reduceAdd] at F10
        obtain ⟨⟨⟨z0, fz0⟩, c0_0, c0_1, c0_2, c0_3, c0_4, c0_5, c0_6, c0_7, -⟩, -⟩ := F10
        go_wp2_with fail
        have hK := H9.out.get (kVar (w.heap.size) 43 [.int .u8 0, .int .i64 0, .string ⟨#[]⟩, .int .i64 0, .int .i64 0, .int .i64 0, .int .i64 0, .int .i64 0]) (by simp)
        have hB := H9.out.bel
        have hE := (((((((((show Blk w7 (w.heap.size) 43 _ from hK).set_ 0 (.int .u8 4)).set_ 1 (.int .i64 (c : Int))).set_ 2 (.string ⟨#[]⟩)).set_ 3 (.int .i64 0)).set_ 4 (.int .i64 0)).set_ 5 (.int .i64 0)).set_ 6 (.int .i64 0)).set_ 7 (.int .i64 (i : Int)))
        have r0 := hE.cell 0
        have r1 := hE.cell 1
        have r2 := hE.cell 2
        have r3 := hE.cell 3
        have r4 := hE.cell 4
        have r5 := hE.cell 5
        have r6 := hE.cell 6
        have r7 := hE.cell 7
        simp at r0 r1 r2 r3 r4 r5 r6 r7
        refine bodyPost_ret (v := .tuple #[.agg #[.int .u8 4, .int .i64 (c : Int), .string ⟨#[]⟩, .int .i64 0, .int .i64 0, .int .i64 0, .int .i64 0, .int .i64 (i : Int)], .int .i64 ((i : Int) + (X.size : Int)), .bool true]) (by simp [results, Tryz.results74, go_sem, r0, r1, r2, r3, r4, r5, r6, r7]) rfl ⟨by rw [show (i : Int) + (X.size : Int) = ((i + X.size : Nat) : Int) by omega]; exact refout_some (i + X.size) HRES.out rfl, ((((((((hB.setCell (by simp) _).setCell (by simp) _).setCell (by simp) _).setCell (by simp) _).setCell (by simp) _).setCell (by simp) _).setCell (by simp) _).setCell (by simp) _)⟩
    · have HERR := keep (show errR (restB s i) i = none by unfold errR; rw [err_none (fun d h1 h2 => HP.out d h1 (by omega))]; rfl)
      go_wp2_with fail
      clear HP hlt hc1 hc6
      go_loopw [9] (fun nv wr => ∃ n : Nat, n ≤ 2 ∧ nv = .int .i64 (n : Int) ∧ Keep (∀ m : Nat, n < m → m ≤ 2 → ∀ x : Int, 1 ≤ x → x ≤ 13 → ¬ opAt (restB s i) m x) ∧ Hid (Ok w [kVar (w.heap.size) 43 [.int .u8 0, .int .i64 0, .string ⟨#[]⟩, .int .i64 0, .int .i64 0, .int .i64 0, .int .i64 0, .int .i64 0]] wr)) (fun nv _ => (intOf nv).toNat)
      case atStart => exact ⟨2, Nat.le_refl _, rfl, keep (fun m h1 h2 => by omega), HR⟩
      case round =>
        clear HR
        obtain ⟨n, hn2, rfl, HM, HR⟩ := hrel
        obtain ⟨wp, rfl⟩ : ∃ wp : World, wp = wr := ⟨_, rfl⟩
        by_cases hn0 : (n : Int) > 0
        · have hn1 : 0 < n := by omega
          have hn3 : decide (0 < n) = true := decide_eq_true hn1
          have hn4 : decide ((n : Int) > 0) = true := decide_eq_true hn0
          go_wp2_with fail
          obtain ⟨wq, rfl⟩ : ∃ wq : World, wq = wp := ⟨_, rfl⟩
          go_loopw [10] (fun ov wr => ∃ o : Nat, 1 ≤ o ∧ o ≤ 14 ∧ ov = .int .i64 (o : Int) ∧ Keep (∀ x : Int, 1 ≤ x → x < (o : Int) → ¬ opAt (restB s i) n x) ∧ Hid (Ok w [kVar (w.heap.size) 43 [.int .u8 0, .int .i64 0, .string ⟨#[]⟩, .int .i64 0, .int .i64 0, .int .i64 0, .int .i64 0, .int .i64 0]] wr)) (fun ov _ => 14 - (intOf ov).toNat)
          case atStart => exact ⟨1, by omega, by omega, rfl, keep (fun x h1 h2 => by omega), HR⟩
          case round =>
            clear HR
            obtain ⟨o, ho1, ho14, rfl, HO, HR⟩ := hrel
            obtain ⟨wp, rfl⟩ : ∃ wp : World, wp = wr := ⟨_, rfl⟩
            by_cases hlt : (o : Int) ≤ 13
            · obtain ⟨X, hX⟩ : ∃ X : ByteArray, X = ⟨(opText (o : Int)).toArray⟩ := ⟨_, rfl⟩
              have hXd : X.data.toList = opText (o : Int) := by rw [hX]
              have hxs : X.size ≤ 2 := by rw [hX]; exact opText_two _
              have HXL := keep (show (opText (o : Int)).length = X.size by rw [← hXd, Array.length_toList]; rfl)
              have HX := keep hXd
              have HXE := keep hX
              clear hX hXd
              go_wp2_with fail
              refine (ref7_Operator (o : Int) _).mono ?_
              rintro e w9 ⟨rfl, hw9⟩
              obtain rfl : wp = w9 := hw9.symm
              rw [← HXE.out]
              by_cases hln : (X.size : Int) = (n : Int)
              · have hlnb : ((X.size : Int) == (n : Int)) = true := by simpa using hln
                have HLN := keep (show X.size = n by omega)
                clear hln
                go_wp2_with fail
                refine (ref7_begins s X i _ hs (by omega) (by omega)).mono ?_
                rintro e w4 ⟨rfl, hb5⟩
                have H6 := Lib.hid (HR.out.below hb5)
                clear hb5 HR
                obtain ⟨b, hb⟩ : ∃ b, begB (restB s i) X.data.toList = b := ⟨_, rfl⟩
                rw [hb]
                rw [HX.out] at hb
                have HB := keep hb
                clear hb
                cases b
                · go_wp2_with fail
                  go_roundw
                  case rel => exact ⟨o + 1, by omega, by omega, by go_num, keep (fun x h1 h2 => by
                    by_cases h : x < (o : Int)
                    · exact HO.out x h1 h
                    · obtain rfl : x = (o : Int) := by omega
                      rintro ⟨-, h9⟩
                      rw [HB.out] at h9
                      cases h9), H6⟩
                  case measure => simp [intOf]; omega
                · have HRES := keep (show orR (errR (restB s i) i) (signR (restB s i) i) = some (⟨8, (o : Int), [], R4.zero, i⟩, n) from (orR_none HERR.out).trans (by
                    unfold signR
                    rw [op_hit (n := n) (o := (o : Int)) (by omega) (by omega) (by omega) ⟨HXL.out.trans HLN.out, HB.out⟩ HO.out (fun e x h1 h2 => HM.out 2 (by omega) (by omega) x h1 h2)]
                    rfl))
                  have hin : (i : Int) + (n : Int) ≤ 300 := by omega
                  have F7 := H6.out.sees
                  simp only [sees, kVar, cellsAt, Nat.reduceAdd] at F7
                  obtain ⟨⟨⟨z0, fz0⟩, c0_0, c0_1, c0_2, c0_3, c0_4, c0_5, c0_6, c0_7, -⟩, -⟩ := F7
                  go_wp2_with fail
                  have hK := H6.out.get (kVar (w.heap.size) 43 [.int .u8 0, .int .i64 0, .string ⟨#[]⟩, .int .i64 0, .int .i64 0, .int .i64 0, .int .i64 0, .int .i64 0]) (by simp)
                  have hB := H6.out.bel
                  have hE := (((((((((show Blk w4 (w.heap.size) 43 _ from hK).set_ 0 (.int .u8 8)).set_ 1 (.int .i64 (o : Int))).set_ 2 (.string ⟨#[]⟩)).set_ 3 (.int .i64 0)).set_ 4 (.int .i64 0)).set_ 5 (.int .i64 0)).set_ 6 (.int .i64 0)).set_ 7 (.int .i64 (i : Int)))
                  have r0 := hE.cell 0
                  have r1 := hE.cell 1
                  have r2 := hE.cell 2
                  have r3 := hE.cell 3
                  have r4 := hE.cell 4
                  have r5 := hE.cell 5
                  have r6 := hE.cell 6
                  have r7 := hE.cell 7
                  simp at r0 r1 r2 r3 r4 r5 r6 r7
                  refine bodyPost_ret (v := .tuple #[.agg #[.int .u8 8, .int .i64 (o : Int), .string ⟨#[]⟩, .int .i64 0, .int .i64 0, .int .i64 0, .int .i64 0, .int .i64 (i : Int)], .int .i64 ((i : Int) + (n : Int)), .bool true]) (by simp [results, Tryz.results74, go_sem, r0, r1, r2, r3, r4, r5, r6, r7]) rfl ⟨by rw [show (i : Int) + (n : Int) = ((i + n : Nat) : Int) by omega]; exact refout_some (i + n) HRES.out rfl, ((((((((hB.setCell (by simp) _).setCell (by simp) _).setCell (by simp) _).setCell (by simp) _).setCell (by simp) _).setCell (by simp) _).setCell (by simp) _).setCell (by simp) _)⟩
              · have hlnb : ((X.size : Int) == (n : Int)) = false := by simpa using hln
                have HLN := keep (show X.size ≠ n by omega)
                clear hln
                go_wp2_with fail
                go_roundw
                case rel => exact ⟨o + 1, by omega, by omega, by go_num, keep (fun x h1 h2 => by
                  by_cases h : x < (o : Int)
                  · exact HO.out x h1 h
                  · obtain rfl : x = (o : Int) := by omega
                    rintro ⟨h9, -⟩
                    exact HLN.out (HXL.out.symm.trans h9)), HR⟩
                case measure => simp [intOf]; omega
            · go_wp2_with fail
              go_roundw
              case rel => exact ⟨n - 1, by omega, by rw [show ((n - 1 : Nat) : Int) = (n : Int) - 1 by omega], keep (fun m h1 h2 x h3 h4 => by
                by_cases h : n < m
                · exact HM.out m h h2 x h3 h4
                · obtain rfl : m = n := by omega
                  exact HO.out x h3 (by omega)), HR⟩
              case measure => simp [intOf]; omega
        · obtain rfl : n = 0 := by omega
          have hmiss := op_miss (b := s[i]'hi) (r := s.data.toList.drop (i + 1)) (by rw [← rest_at hi]; exact HM.out 1 (by omega) (by omega)) (by rw [← rest_at hi]; exact HM.out 2 (by omega) (by omega))
          rw [← rest_at hi] at hmiss
          have HSG := keep (show orR (errR (restB s i) i) (signR (restB s i) i) = (opS (restB s i)).map fun x => (⟨x.1, x.2.1, [], R4.zero, i⟩, x.2.2) from orR_none HERR.out)
          obtain ⟨b, hb⟩ : ∃ b, s[i]'hi = b := ⟨_, rfl⟩
          rw [hb] at hmiss
          have HMS := keep hmiss
          have hix : ∀ h, ((s[i]'h).toNat : Int) = (b.toNat : Int) := fun _ => by rw [hb]
          clear hmiss HM hb
          by_cases e40 : b = 40
          · subst e40
            have HRES := keep (show orR (errR (restB s i) i) (signR (restB s i) i) = some (⟨9, 0, [], R4.zero, i⟩, 1) by rw [HSG.out, HMS.out]; rfl)
            clear HMS HSG
            have F4 := HR.out.sees
            simp only [sees, kVar, cellsAt, Nat.reduceAdd] at F4
            obtain ⟨⟨⟨z0, fz0⟩, c0_0, c0_1, c0_2, c0_3, c0_4, c0_5, c0_6, c0_7, -⟩, -⟩ := F4
            go_wp2_with fail
            have hK := HR.out.get (kVar (w.heap.size) 43 [.int .u8 0, .int .i64 0, .string ⟨#[]⟩, .int .i64 0, .int .i64 0, .int .i64 0, .int .i64 0, .int .i64 0]) (by simp)
            have hB := HR.out.bel
            have hE := (((((((((show Blk wp (w.heap.size) 43 _ from hK).set_ 0 (.int .u8 9)).set_ 1 (.int .i64 0)).set_ 2 (.string ⟨#[]⟩)).set_ 3 (.int .i64 0)).set_ 4 (.int .i64 0)).set_ 5 (.int .i64 0)).set_ 6 (.int .i64 0)).set_ 7 (.int .i64 (i : Int)))
            have r0 := hE.cell 0
            have r1 := hE.cell 1
            have r2 := hE.cell 2
            have r3 := hE.cell 3
            have r4 := hE.cell 4
            have r5 := hE.cell 5
            have r6 := hE.cell 6
            have r7 := hE.cell 7
            simp at r0 r1 r2 r3 r4 r5 r6 r7
            refine bodyPost_ret (v := .tuple #[.agg #[.int .u8 9, .int .i64 0, .string ⟨#[]⟩, .int .i64 0, .int .i64 0, .int .i64 0, .int .i64 0, .int .i64 (i : Int)], .int .i64 ((i : Int) + 1), .bool true]) (by simp [results, Tryz.results74, go_sem, r0, r1, r2, r3, r4, r5, r6, r7]) rfl ⟨by rw [show (i : Int) + 1 = ((i + 1 : Nat) : Int) by omega]; exact refout_some (i + 1) HRES.out rfl, ((((((((hB.setCell (by simp) _).setCell (by simp) _).setCell (by simp) _).setCell (by simp) _).setCell (by simp) _).setCell (by simp) _).setCell (by simp) _).setCell (by simp) _)⟩
          · have hb40 : ((b.toNat : Int) == 40) = false := by simpa using byte_int (k := 40) e40
            have E40 := keep e40
            clear e40
            by_cases e41 : b = 41
            · subst e41
              have HRES := keep (show orR (errR (restB s i) i) (signR (restB s i) i) = some (⟨10, 0, [], R4.zero, i⟩, 1) by rw [HSG.out, HMS.out]; rfl)
              clear HMS HSG
              have F4 := HR.out.sees
              simp only [sees, kVar, cellsAt, Nat.reduceAdd] at F4
              obtain ⟨⟨⟨z0, fz0⟩, c0_0, c0_1, c0_2, c0_3, c0_4, c0_5, c0_6, c0_7, -⟩, -⟩ := F4
              go_wp2_with fail
              have hK := HR.out.get (kVar (w.heap.size) 43 [.int .u8 0, .int .i64 0, .string ⟨#[]⟩, .int .i64 0, .int .i64 0, .int .i64 0, .int .i64 0, .int .i64 0]) (by simp)
              have hB := HR.out.bel
              have hE := (((((((((show Blk wp (w.heap.size) 43 _ from hK).set_ 0 (.int .u8 10)).set_ 1 (.int .i64 0)).set_ 2 (.string ⟨#[]⟩)).set_ 3 (.int .i64 0)).set_ 4 (.int .i64 0)).set_ 5 (.int .i64 0)).set_ 6 (.int .i64 0)).set_ 7 (.int .i64 (i : Int)))
              have r0 := hE.cell 0
              have r1 := hE.cell 1
              have r2 := hE.cell 2
              have r3 := hE.cell 3
              have r4 := hE.cell 4
              have r5 := hE.cell 5
              have r6 := hE.cell 6
              have r7 := hE.cell 7
              simp at r0 r1 r2 r3 r4 r5 r6 r7
              refine bodyPost_ret (v := .tuple #[.agg #[.int .u8 10, .int .i64 0, .string ⟨#[]⟩, .int .i64 0, .int .i64 0, .int .i64 0, .int .i64 0, .int .i64 (i : Int)], .int .i64 ((i : Int) + 1), .bool true]) (by simp [results, Tryz.results74, go_sem, r0, r1, r2, r3, r4, r5, r6, r7]) rfl ⟨by rw [show (i : Int) + 1 = ((i + 1 : Nat) : Int) by omega]; exact refout_some (i + 1) HRES.out rfl, ((((((((hB.setCell (by simp) _).setCell (by simp) _).setCell (by simp) _).setCell (by simp) _).setCell (by simp) _).setCell (by simp) _).setCell (by simp) _).setCell (by simp) _)⟩
            · have hb41 : ((b.toNat : Int) == 41) = false := by simpa using byte_int (k := 41) e41
              have E41 := keep e41
              clear e41
              by_cases e44 : b = 44
              · subst e44
                have HRES := keep (show orR (errR (restB s i) i) (signR (restB s i) i) = some (⟨11, 0, [], R4.zero, i⟩, 1) by rw [HSG.out, HMS.out]; rfl)
                clear HMS HSG
                have F4 := HR.out.sees
                simp only [sees, kVar, cellsAt, Nat.reduceAdd] at F4
                obtain ⟨⟨⟨z0, fz0⟩, c0_0, c0_1, c0_2, c0_3, c0_4, c0_5, c0_6, c0_7, -⟩, -⟩ := F4
                go_wp2_with fail
                have hK := HR.out.get (kVar (w.heap.size) 43 [.int .u8 0, .int .i64 0, .string ⟨#[]⟩, .int .i64 0, .int .i64 0, .int .i64 0, .int .i64 0, .int .i64 0]) (by simp)
                have hB := HR.out.bel
                have hE := (((((((((show Blk wp (w.heap.size) 43 _ from hK).set_ 0 (.int .u8 11)).set_ 1 (.int .i64 0)).set_ 2 (.string ⟨#[]⟩)).set_ 3 (.int .i64 0)).set_ 4 (.int .i64 0)).set_ 5 (.int .i64 0)).set_ 6 (.int .i64 0)).set_ 7 (.int .i64 (i : Int)))
                have r0 := hE.cell 0
                have r1 := hE.cell 1
                have r2 := hE.cell 2
                have r3 := hE.cell 3
                have r4 := hE.cell 4
                have r5 := hE.cell 5
                have r6 := hE.cell 6
                have r7 := hE.cell 7
                simp at r0 r1 r2 r3 r4 r5 r6 r7
                refine bodyPost_ret (v := .tuple #[.agg #[.int .u8 11, .int .i64 0, .string ⟨#[]⟩, .int .i64 0, .int .i64 0, .int .i64 0, .int .i64 0, .int .i64 (i : Int)], .int .i64 ((i : Int) + 1), .bool true]) (by simp [results, Tryz.results74, go_sem, r0, r1, r2, r3, r4, r5, r6, r7]) rfl ⟨by rw [show (i : Int) + 1 = ((i + 1 : Nat) : Int) by omega]; exact refout_some (i + 1) HRES.out rfl, ((((((((hB.setCell (by simp) _).setCell (by simp) _).setCell (by simp) _).setCell (by simp) _).setCell (by simp) _).setCell (by simp) _).setCell (by simp) _).setCell (by simp) _)⟩
              · have hb44 : ((b.toNat : Int) == 44) = false := by simpa using byte_int (k := 44) e44
                have E44 := keep e44
                clear e44
                have HRES := keep (show orR (errR (restB s i) i) (signR (restB s i) i) = none by rw [HSG.out, HMS.out, if_neg E40.out, if_neg E41.out, if_neg E44.out]; rfl)
                clear HMS HSG
                have F4 := HR.out.sees
                simp only [sees, kVar, cellsAt, Nat.reduceAdd] at F4
                obtain ⟨⟨⟨z0, fz0⟩, c0_0, c0_1, c0_2, c0_3, c0_4, c0_5, c0_6, c0_7, -⟩, -⟩ := F4
                go_wp2_with fail
                have hK := HR.out.get (kVar (w.heap.size) 43 [.int .u8 0, .int .i64 0, .string ⟨#[]⟩, .int .i64 0, .int .i64 0, .int .i64 0, .int .i64 0, .int .i64 0]) (by simp)
                have hB := HR.out.bel
                have hE := (((((((((show Blk wp (w.heap.size) 43 _ from hK).set_ 0 (.int .u8 0)).set_ 1 (.int .i64 0)).set_ 2 (.string ⟨#[]⟩)).set_ 3 (.int .i64 0)).set_ 4 (.int .i64 0)).set_ 5 (.int .i64 0)).set_ 6 (.int .i64 0)).set_ 7 (.int .i64 0))
                have r0 := hE.cell 0
                have r1 := hE.cell 1
                have r2 := hE.cell 2
                have r3 := hE.cell 3
                have r4 := hE.cell 4
                have r5 := hE.cell 5
                have r6 := hE.cell 6
                have r7 := hE.cell 7
                simp at r0 r1 r2 r3 r4 r5 r6 r7
                refine bodyPost_ret (v := .tuple #[.agg #[.int .u8 0, .int .i64 0, .string ⟨#[]⟩, .int .i64 0, .int .i64 0, .int .i64 0, .int .i64 0, .int .i64 0], .int .i64 0, .bool false]) (by simp [results, Tryz.results74, go_sem, r0, r1, r2, r3, r4, r5, r6, r7]) rfl ⟨refout_none Tk.zero HRES.out, ((((((((hB.setCell (by simp) _).setCell (by simp) _).setCell (by simp) _).setCell (by simp) _).setCell (by simp) _).setCell (by simp) _).setCell (by simp) _).setCell (by simp) _)⟩
theorem RefOut.eq {i : Nat} {r r2 : Option (Tk × Nat)} {e : Ending} (h : RefOut i r e) (h2 : r2 = r) : RefOut i r2 e := by rw [h2]; exact h
theorem quo_at {s : ByteArray} {z : Nat} (h : z < s.size) : testAt (· == 34) s z = decide (((s[z]'h).toNat : Int) = 34) := by
  rw [test_in h, Bool.eq_iff_iff, beq_iff_eq, decide_eq_true_eq, ← UInt8.toNat_inj]
  show _ = 34 ↔ _
  omega
theorem rtok_num {s : ByteArray} {i : Nat} (h : testAt isDig s i = true) : tokS i (restB s i) = numR (restB s i) i := by
  have hi := test_lt h
  rw [test_in hi] at h
  rw [rest_at hi, tok_cons, if_pos h]
  rfl
theorem rtok_txt {s : ByteArray} {i : Nat} (hi : i < s.size) (h : s[i]'hi = 34) : tokS i (restB s i) = txtR (restB s i) i := by
  rw [rest_at hi, tok_cons, h, if_neg (by decide), if_pos rfl]
  rfl
theorem rtok_word {s : ByteArray} {i : Nat} (hd : testAt isDig s i = false) (h4 : testAt (· == 34) s i = false) (h : testAt isLet s i = true) : tokS i (restB s i) = wordR (restB s i) i := by
  have hi := test_lt h
  rw [test_in hi] at h hd h4
  rw [rest_at hi, tok_cons, if_neg (by rw [hd]; decide), if_neg (by simpa using h4), if_pos h]
  unfold wordR
  rw [if_pos (show (s[i]'hi :: s.data.toList.drop (i + 1)).head?.any isLet = true from h)]
theorem rtok_sign {s : ByteArray} {i : Nat} (hi : i < s.size) (hd : testAt isDig s i = false) (h4 : testAt (· == 34) s i = false) (h : testAt isLet s i = false) : tokS i (restB s i) = orR (errR (restB s i) i) (signR (restB s i) i) := by
  rw [test_in hi] at h hd h4
  rw [rest_at hi, tok_rules]
  have e0 : numR (s[i]'hi :: s.data.toList.drop (i + 1)) i = none := num_nil (by rw [List.takeWhile_cons, if_neg (by rw [hd]; decide)])
  have e1 : txtR (s[i]'hi :: s.data.toList.drop (i + 1)) i = none := by unfold txtR; rw [if_neg (by simpa using h4)]
  have e2 : wordR (s[i]'hi :: s.data.toList.drop (i + 1)) i = none := word_not h
  rw [orR_none e0, orR_none e1, orR_none e2]
set_option maxRecDepth 100000 in
set_option maxHeartbeats 8000000 in
theorem ref7_token (s : ByteArray) (i : Nat) (w : World) (hs : s.size ≤ 256) (hi : i < s.size) :
    Calls Tryz.prog 42 #[.string s, .int .i64 (i : Int)] w fun e w' => RefOut i (tokS i (restB s i)) e ∧ Below w.heap.size w w' := by
  cases hd : testAt isDig s i
  · have HD := keep hd
    clear hd
    cases h4 : testAt (· == 34) s i
    · have H4 := keep h4
      have hq : (((s[i]'hi).toNat : Int) == 34) = false := by have h9 := h4; rw [quo_at hi] at h9; simpa using h9
      clear h4
      cases hl : testAt isLet s i
      · have HL := keep hl
        clear hl
        have H1 := Lib.hid (Ok.start w)
        go_enter Tryz.func42, Tryz.ntmps42
        go_wp2_with fail
        have H2 := Lib.hid (H1.out.var w.heap.size 43 [.int .u8 0, .int .i64 0, .string ⟨#[]⟩, .int .i64 0, .int .i64 0, .int .i64 0, .int .i64 0, .int .i64 0] rfl)
        clear H1
        generalize (w.alloc (.cells #[.int .u8 0, .int .i64 0, .string ⟨#[]⟩, .int .i64 0, .int .i64 0, .int .i64 0, .int .i64 0, .int .i64 0] 43)) = W3 at H2 ⊢
        refine (ref7_digit s i _).mono ?_
        rintro e w1 ⟨rfl, hw1⟩
        obtain rfl : W3 = w1 := hw1.symm
        rw [HD.out]
        go_wp2_with fail
        refine (ref7_letter s i _).mono ?_
        rintro e w2 ⟨rfl, hw2⟩
        obtain rfl : W3 = w2 := hw2.symm
        rw [HL.out]
        go_wp2_with fail
        refine (ref7_sign s i _ hs hi).mono ?_
        rintro e w5 ⟨⟨⟨tk, tn, tt, ⟨t1, t2, t3, t4⟩, ta⟩, n, rfl, hres⟩, hb5⟩
        have H5 := Lib.hid (H2.out.below hb5)
        clear hb5 H2
        have HRES := keep hres
        clear hres
        simp only [tkA]
        have F4 := H5.out.sees
        simp only [sees, kVar, cellsAt, Nat.reduceAdd] at F4
        obtain ⟨⟨⟨z0, fz0⟩, c0_0, c0_1, c0_2, c0_3, c0_4, c0_5, c0_6, c0_7, -⟩, -⟩ := F4
        go_wp2_with fail
        have hK := H5.out.get (kVar (w.heap.size) 43 [.int .u8 0, .int .i64 0, .string ⟨#[]⟩, .int .i64 0, .int .i64 0, .int .i64 0, .int .i64 0, .int .i64 0]) (by simp)
        have hB := H5.out.bel
        have hE := (((((((((show Blk w5 (w.heap.size) 43 _ from hK).set_ 0 (.int .u8 tk)).set_ 1 (.int .i64 tn)).set_ 2 (.string ⟨tt.toArray⟩)).set_ 3 (.int .i64 t1)).set_ 4 (.int .i64 t2)).set_ 5 (.int .i64 t3)).set_ 6 (.int .i64 t4)).set_ 7 (.int .i64 (ta : Int)))
        have r0 := hE.cell 0
        have r1 := hE.cell 1
        have r2 := hE.cell 2
        have r3 := hE.cell 3
        have r4 := hE.cell 4
        have r5 := hE.cell 5
        have r6 := hE.cell 6
        have r7 := hE.cell 7
        simp at r0 r1 r2 r3 r4 r5 r6 r7
        refine bodyPost_ret (v := .tuple #[.agg #[.int .u8 tk, .int .i64 tn, .string ⟨tt.toArray⟩, .int .i64 t1, .int .i64 t2, .int .i64 t3, .int .i64 t4, .int .i64 (ta : Int)], .int .i64 (n : Int), .bool (orR (errR (restB s i) i) (signR (restB s i) i)).isSome]) (by simp [results, Tryz.results42, go_sem, r0, r1, r2, r3, r4, r5, r6, r7]) rfl ⟨⟨⟨tk, tn, tt, ⟨t1, t2, t3, t4⟩, ta⟩, n, by rw [rtok_sign hi HD.out H4.out HL.out]; rfl, by rw [rtok_sign hi HD.out H4.out HL.out]; exact HRES.out⟩, ((((((((hB.setCell (by simp) _).setCell (by simp) _).setCell (by simp) _).setCell (by simp) _).setCell (by simp) _).setCell (by simp) _).setCell (by simp) _).setCell (by simp) _)⟩
      · have HL := keep hl
        clear hl
        have H1 := Lib.hid (Ok.start w)
        go_enter Tryz.func42, Tryz.ntmps42
        go_wp2_with fail
        have H2 := Lib.hid (H1.out.var w.heap.size 43 [.int .u8 0, .int .i64 0, .string ⟨#[]⟩, .int .i64 0, .int .i64 0, .int .i64 0, .int .i64 0, .int .i64 0] rfl)
        clear H1
        generalize (w.alloc (.cells #[.int .u8 0, .int .i64 0, .string ⟨#[]⟩, .int .i64 0, .int .i64 0, .int .i64 0, .int .i64 0, .int .i64 0] 43)) = W3 at H2 ⊢
        refine (ref7_digit s i _).mono ?_
        rintro e w1 ⟨rfl, hw1⟩
        obtain rfl : W3 = w1 := hw1.symm
        rw [HD.out]
        go_wp2_with fail
        refine (ref7_letter s i _).mono ?_
        rintro e w2 ⟨rfl, hw2⟩
        obtain rfl : W3 = w2 := hw2.symm
        rw [HL.out]
        go_wp2_with fail
        refine (ref7_word s i _ hs HL.out).mono ?_
        rintro e w5 ⟨⟨⟨tk, tn, tt, ⟨t1, t2, t3, t4⟩, ta⟩, n, rfl, hres⟩, hb5⟩
        have H5 := Lib.hid (H2.out.below hb5)
        clear hb5 H2
        have HRES := keep hres
        clear hres
        simp only [tkA]
        have F4 := H5.out.sees
        simp only [sees, kVar, cellsAt, Nat.reduceAdd] at F4
        obtain ⟨⟨⟨z0, fz0⟩, c0_0, c0_1, c0_2, c0_3, c0_4, c0_5, c0_6, c0_7, -⟩, -⟩ := F4
        go_wp2_with fail
        have hK := H5.out.get (kVar (w.heap.size) 43 [.int .u8 0, .int .i64 0, .string ⟨#[]⟩, .int .i64 0, .int .i64 0, .int .i64 0, .int .i64 0, .int .i64 0]) (by simp)
        have hB := H5.out.bel
        have hE := (((((((((show Blk w5 (w.heap.size) 43 _ from hK).set_ 0 (.int .u8 tk)).set_ 1 (.int .i64 tn)).set_ 2 (.string ⟨tt.toArray⟩)).set_ 3 (.int .i64 t1)).set_ 4 (.int .i64 t2)).set_ 5 (.int .i64 t3)).set_ 6 (.int .i64 t4)).set_ 7 (.int .i64 (ta : Int)))
        have r0 := hE.cell 0
        have r1 := hE.cell 1
        have r2 := hE.cell 2
        have r3 := hE.cell 3
        have r4 := hE.cell 4
        have r5 := hE.cell 5
        have r6 := hE.cell 6
        have r7 := hE.cell 7
        simp at r0 r1 r2 r3 r4 r5 r6 r7
        refine bodyPost_ret (v := .tuple #[.agg #[.int .u8 tk, .int .i64 tn, .string ⟨tt.toArray⟩, .int .i64 t1, .int .i64 t2, .int .i64 t3, .int .i64 t4, .int .i64 (ta : Int)], .int .i64 (n : Int), .bool (wordR (restB s i) i).isSome]) (by simp [results, Tryz.results42, go_sem, r0, r1, r2, r3, r4, r5, r6, r7]) rfl ⟨⟨⟨tk, tn, tt, ⟨t1, t2, t3, t4⟩, ta⟩, n, by rw [rtok_word HD.out H4.out HL.out]; rfl, by rw [rtok_word HD.out H4.out HL.out]; exact HRES.out⟩, ((((((((hB.setCell (by simp) _).setCell (by simp) _).setCell (by simp) _).setCell (by simp) _).setCell (by simp) _).setCell (by simp) _).setCell (by simp) _).setCell (by simp) _)⟩
    · have h34 : s[i]'hi = 34 := by rw [test_in hi] at h4; simpa using h4
      have H34 := keep h34
      have hq : (((s[i]'hi).toNat : Int) == 34) = true := by rw [h34]; rfl
      clear h4 h34
      have H1 := Lib.hid (Ok.start w)
      go_enter Tryz.func42, Tryz.ntmps42
      go_wp2_with fail
      have H2 := Lib.hid (H1.out.var w.heap.size 43 [.int .u8 0, .int .i64 0, .string ⟨#[]⟩, .int .i64 0, .int .i64 0, .int .i64 0, .int .i64 0, .int .i64 0] rfl)
      clear H1
      generalize (w.alloc (.cells #[.int .u8 0, .int .i64 0, .string ⟨#[]⟩, .int .i64 0, .int .i64 0, .int .i64 0, .int .i64 0, .int .i64 0] 43)) = W3 at H2 ⊢
      refine (ref7_digit s i _).mono ?_
      rintro e w1 ⟨rfl, hw1⟩
      obtain rfl : W3 = w1 := hw1.symm
      rw [HD.out]
      go_wp2_with fail
      refine (ref7_text s i _ hs hi H34.out).mono ?_
      rintro e w5 ⟨⟨⟨tk, tn, tt, ⟨t1, t2, t3, t4⟩, ta⟩, n, rfl, hres⟩, hb5⟩
      have H5 := Lib.hid (H2.out.below hb5)
      clear hb5 H2
      have HRES := keep hres
      clear hres
      simp only [tkA]
      have F4 := H5.out.sees
      simp only [sees, kVar, cellsAt, Nat.reduceAdd] at F4
      obtain ⟨⟨⟨z0, fz0⟩, c0_0, c0_1, c0_2, c0_3, c0_4, c0_5, c0_6, c0_7, -⟩, -⟩ := F4
      go_wp2_with fail
      have hK := H5.out.get (kVar (w.heap.size) 43 [.int .u8 0, .int .i64 0, .string ⟨#[]⟩, .int .i64 0, .int .i64 0, .int .i64 0, .int .i64 0, .int .i64 0]) (by simp)
      have hB := H5.out.bel
      have hE := (((((((((show Blk w5 (w.heap.size) 43 _ from hK).set_ 0 (.int .u8 tk)).set_ 1 (.int .i64 tn)).set_ 2 (.string ⟨tt.toArray⟩)).set_ 3 (.int .i64 t1)).set_ 4 (.int .i64 t2)).set_ 5 (.int .i64 t3)).set_ 6 (.int .i64 t4)).set_ 7 (.int .i64 (ta : Int)))
      have r0 := hE.cell 0
      have r1 := hE.cell 1
      have r2 := hE.cell 2
      have r3 := hE.cell 3
      have r4 := hE.cell 4
      have r5 := hE.cell 5
      have r6 := hE.cell 6
      have r7 := hE.cell 7
      simp at r0 r1 r2 r3 r4 r5 r6 r7
      refine bodyPost_ret (v := .tuple #[.agg #[.int .u8 tk, .int .i64 tn, .string ⟨tt.toArray⟩, .int .i64 t1, .int .i64 t2, .int .i64 t3, .int .i64 t4, .int .i64 (ta : Int)], .int .i64 (n : Int), .bool (txtR (restB s i) i).isSome]) (by simp [results, Tryz.results42, go_sem, r0, r1, r2, r3, r4, r5, r6, r7]) rfl ⟨⟨⟨tk, tn, tt, ⟨t1, t2, t3, t4⟩, ta⟩, n, by rw [rtok_txt hi H34.out]; rfl, by rw [rtok_txt hi H34.out]; exact HRES.out⟩, ((((((((hB.setCell (by simp) _).setCell (by simp) _).setCell (by simp) _).setCell (by simp) _).setCell (by simp) _).setCell (by simp) _).setCell (by simp) _).setCell (by simp) _)⟩
  · have HD := keep hd
    clear hd
    have H1 := Lib.hid (Ok.start w)
    go_enter Tryz.func42, Tryz.ntmps42
    go_wp2_with fail
    have H2 := Lib.hid (H1.out.var w.heap.size 43 [.int .u8 0, .int .i64 0, .string ⟨#[]⟩, .int .i64 0, .int .i64 0, .int .i64 0, .int .i64 0, .int .i64 0] rfl)
    clear H1
    generalize (w.alloc (.cells #[.int .u8 0, .int .i64 0, .string ⟨#[]⟩, .int .i64 0, .int .i64 0, .int .i64 0, .int .i64 0, .int .i64 0] 43)) = W3 at H2 ⊢
    refine (ref7_digit s i _).mono ?_
    rintro e w1 ⟨rfl, hw1⟩
    obtain rfl : W3 = w1 := hw1.symm
    rw [HD.out]
    go_wp2_with fail
    refine (ref7_number s i _ hs HD.out).mono ?_
    rintro e w5 ⟨⟨⟨tk, tn, tt, ⟨t1, t2, t3, t4⟩, ta⟩, n, rfl, hres⟩, hb5⟩
    have H5 := Lib.hid (H2.out.below hb5)
    clear hb5 H2
    have HRES := keep hres
    clear hres
    simp only [tkA]
    have F4 := H5.out.sees
    simp only [sees, kVar, cellsAt, Nat.reduceAdd] at F4
    obtain ⟨⟨⟨z0, fz0⟩, c0_0, c0_1, c0_2, c0_3, c0_4, c0_5, c0_6, c0_7, -⟩, -⟩ := F4
    go_wp2_with fail
    have hK := H5.out.get (kVar (w.heap.size) 43 [.int .u8 0, .int .i64 0, .string ⟨#[]⟩, .int .i64 0, .int .i64 0, .int .i64 0, .int .i64 0, .int .i64 0]) (by simp)
    have hB := H5.out.bel
    have hE := (((((((((show Blk w5 (w.heap.size) 43 _ from hK).set_ 0 (.int .u8 tk)).set_ 1 (.int .i64 tn)).set_ 2 (.string ⟨tt.toArray⟩)).set_ 3 (.int .i64 t1)).set_ 4 (.int .i64 t2)).set_ 5 (.int .i64 t3)).set_ 6 (.int .i64 t4)).set_ 7 (.int .i64 (ta : Int)))
    have r0 := hE.cell 0
    have r1 := hE.cell 1
    have r2 := hE.cell 2
    have r3 := hE.cell 3
    have r4 := hE.cell 4
    have r5 := hE.cell 5
    have r6 := hE.cell 6
    have r7 := hE.cell 7
    simp at r0 r1 r2 r3 r4 r5 r6 r7
    refine bodyPost_ret (v := .tuple #[.agg #[.int .u8 tk, .int .i64 tn, .string ⟨tt.toArray⟩, .int .i64 t1, .int .i64 t2, .int .i64 t3, .int .i64 t4, .int .i64 (ta : Int)], .int .i64 (n : Int), .bool (numR (restB s i) i).isSome]) (by simp [results, Tryz.results42, go_sem, r0, r1, r2, r3, r4, r5, r6, r7]) rfl ⟨⟨⟨tk, tn, tt, ⟨t1, t2, t3, t4⟩, ta⟩, n, by rw [rtok_num HD.out]; rfl, by rw [rtok_num HD.out]; exact HRES.out⟩, ((((((((hB.setCell (by simp) _).setCell (by simp) _).setCell (by simp) _).setCell (by simp) _).setCell (by simp) _).setCell (by simp) _).setCell (by simp) _).setCell (by simp) _)⟩
end Go.Proofs.YtlngjiibbcgkmaaGreatDoor
