/- ParseSame: the walk. -/
import Derived.Test.YtlngjiibbcgkmaaDoorTrees
import Derived.Test.YtlngjiibbcgkmaaDoorSameP
namespace Go.Proofs.YtlngjiibbcgkmaaDoor
open Go.RowKit

theorem str_one (W : World) (x : Int) :
    (convert 40 9 (.slice (some ⟨W.heap.size, 0, none⟩) 1 1)).run Tryd.prog (W.alloc (.cells #[.int .u8 x] 5)) = .ok (.string ⟨#[UInt8.ofNat x.toNat]⟩) (W.alloc (.cells #[.int .u8 x] 5)) := by
  rw [run_convert_bytes_string _ _ _ 5 _ _ _ Tryd.underlying40 Tryd.underlying5 Tryd.underlying9]
  rw [run_bytesToString _ _ 1 1 [x]]
  · rfl
  · simp [go_sem]
theorem app_list (a b : ByteArray) : (a ++ b).data.toList = a.data.toList ++ b.data.toList := by simp
theorem byte_of {b : UInt8} {n : Nat} (h : b.toNat = n) : b = UInt8.ofNat ((n : Int)).toNat := by rw [← h]; simp
theorem byte_eq {b c : UInt8} {n : Nat} (h : b.toNat = n) (hc : c.toNat = n) : b = c := UInt8.toNat_inj.1 (h.trans hc.symm)
theorem byte_ne {b : UInt8} {n : Nat} (h : b.toNat = n) (hn : ¬ n = 34) : ¬ b = 34 := by rintro rfl; exact hn (by rw [← h]; rfl)
theorem low_cap {b : UInt8} {n : Nat} (h : b.toNat = n) (h1 : (65 : Int) ≤ (n : Int)) (h2 : (n : Int) ≤ 90) : lowB b = UInt8.ofNat n + 32 := by
  unfold lowB capB
  rw [if_pos (by simp only [decide_eq_true_eq]; omega), ← h, UInt8.ofNat_toNat]
theorem low_no {b : UInt8} {n : Nat} (h : b.toNat = n) (h1 : ¬ ((65 : Int) ≤ (n : Int) ∧ (n : Int) ≤ 90)) : lowB b = b := by
  unfold lowB capB
  rw [if_neg (by simp only [decide_eq_true_eq]; omega)]
set_option maxRecDepth 100000 in
set_option maxHeartbeats 8000000 in
theorem ParseSame_walk (s : ByteArray) (bn : Int) (w : World) (_hs : s.size ≤ maxLen) (hbn : (Lit.int .u64 bn).wf = true) (hL : laidMetH Tryd.prog Rows.parseSameRow.laid w) (hS : w.ShapedOpen Tryd.prog) :
    Calls Tryd.prog 5 #[.string s, .int .u64 bn] w fun e w' => e = .returned (.bool true) ∧ Below w.heap.size w w' := by
  have HW := keep (words_of hL (by kernel_rfl) hS)
  clear hL hS
  go_enter Tryd.func5, Tryd.ntmps5
  go_wp2_with fail
  have hS := cut_size s 120
  rw [show (((120 : Nat) : Int)) = 120 from rfl] at hS
  generalize s.extract 0 (min (s.size : Int) 120).toNat = S at hS ⊢
  have hls : S.data.toList.length = S.size := Array.length_toList
  have HLS := keep hls
  refine (parse_Formula S w (by omega) HW.out).mono ?_
  rintro e w1 ⟨fv, rfl, hown, hb⟩
  generalize hF : formS S.data.toList = F at hown ⊢
  obtain ⟨ns, at_, er⟩ := F
  have HF := keep hF
  simp only [] at hown ⊢
  have H1 := Lib.hid (OkRow.of_new (Ok.start w) hb hown).pers
  obtain ⟨fa, fc, rfl⟩ := own_len hown
  clear hF hb hown hls
  go_wp2_with fail
  refine (lex_Tokens S w1 (by omega) (HW.out.below H1.out.bel)).mono ?_
  rintro e w2 ⟨tv, rfl, hown, hb⟩
  rcases tokens_cases S.data.toList with ⟨ea, ee, htk, he, _, _⟩ | ⟨ts, htk⟩
  · obtain ⟨rfl, rfl, rfl⟩ : ns = [] ∧ at_ = ea ∧ er = ee := by have := HF.out.symm.trans (form_lex htk he); simpa using this
    rw [htk] at hown ⊢
    simp only [] at hown ⊢
    have heb : (er != 0) = true := by simpa using he
    have H2 := Lib.hid (H1.out.below hb)
    clear hb hown htk he
    go_wp2_with fail
    refine (law_awake9 w2 (HW.out.below H2.out.bel)).mono ?_
    rintro e w3 ⟨rfl, hb⟩
    have HB := Lib.hid (below_step H2.out.bel hb)
    clear hb
    go_wp2_with fail
    go_ret
    exact ⟨rfl, HB.out⟩
  · rw [htk] at hown ⊢
    simp only [] at hown ⊢
    have HTK := keep htk
    have hsz : ts.length ≤ 120 := by
      obtain ⟨_, _, _, hlex⟩ := tokens_ok htk
      have := hlex.len
      rw [HLS.out] at this
      omega
    have H2 := Lib.hid (OkRow.of_new H1.out hb hown).pers
    obtain ⟨ta, tc, rfl⟩ := own_len hown
    obtain ⟨tl, htl⟩ : ∃ tl, ts.length = tl := ⟨_, rfl⟩
    have HTL := keep htl
    rw [htl] at hsz H2 ⊢
    clear hb hown htk htl H1
    go_wp2_with fail
    obtain ⟨bl, hbl⟩ : ∃ bl : Nat → Bool, bl = fun k => decide (bits BinOp.and IntKind.u64 (bn / 2 ^ (k % 64)) 1 = 1) := ⟨_, rfl⟩
    have HBL := keep hbl
    clear hbl
    go_loopw [11, 12, 13, 14] (fun wv tv kv iv wr => ∃ (i k : Nat) (tx : Bool) (B : ByteArray), i ≤ S.size ∧ wv = .string B ∧ tv = .bool tx ∧ kv = .int .i64 (k : Int) ∧ iv = .int .i64 (i : Int) ∧ k ≤ tl ∧ B.size ≤ 2 * i ∧ Keep (B.data.toList ++ wideF ts bl (S.data.toList.drop i) i tx k = wideF ts bl S.data.toList 0 false 0) ∧
      Hid (Ok w [kRow w.heap.size 37 8 (.slice ta tl tc) tl (tkCells ts), kRow w.heap.size 46 11 (.slice fa ns.length fc) ns.length (ndCells ns)] wr)) (fun _ _ _ iv _ => S.size - (intOf iv).toNat)
    case atStart => exact ⟨0, 0, false, ⟨#[]⟩, Nat.zero_le _, rfl, rfl, rfl, rfl, Nat.zero_le _, Nat.le_refl _, keep rfl, H2⟩
    case round =>
      obtain ⟨i, k, tx, B, hi, rfl, rfl, rfl, rfl, hk, hB, HI, HR⟩ := hrel
      obtain ⟨wp, rfl⟩ : ∃ wp : World, wp = wr := ⟨_, rfl⟩
      by_cases hlt : (i : Int) < S.size
      · have hiS : i < S.size := by omega
        obtain ⟨cb, hcb⟩ : ∃ cb, S[i]'hiS = cb := ⟨_, rfl⟩
        have HST := keep (show B.data.toList ++ ((if hitB ts i k && (bl k && (k == 0 || !nameAt ts (k - 1))) then [32] else []) ++ ((if (if cb = 34 then !tx else tx) then cb else lowB cb) ::
            wideF ts bl (S.data.toList.drop (i + 1)) (i + 1) (if cb = 34 then !tx else tx) (if hitB ts i k then k + 1 else k))) = wideF ts bl S.data.toList 0 false 0 by
          have h9 := HI.out
          rw [List.drop_eq_getElem_cons (by rw [HLS.out]; exact hiS), show S.data.toList[i]'(by rw [HLS.out]; exact hiS) = cb from hcb] at h9
          exact h9)
        obtain ⟨cc, hcc⟩ : ∃ cc : Nat, cb.toNat = cc := ⟨_, rfl⟩
        have HCC := keep hcc
        have hix : ∀ h, ((S[i]'h).toNat : Int) = (cc : Int) := fun _ => by rw [← hcc, ← hcb]
        have hcc256 : cc < 256 := by rw [← hcc]; exact cb.toNat_lt
        have hcv := str_one wp
        clear HI hcb hcc
        cases tx
        · by_cases hkl : (k : Int) < tl
          · have hkt : k < ts.length := by rw [HTL.out]; omega
            obtain ⟨t, ht⟩ : ∃ t, ts[k]? = some t := ⟨_, List.getElem?_eq_getElem hkt⟩
            have hrow := (rows_tok (l := ts) (by have h9 := HR.out.get (kRow w.heap.size 37 8 (.slice ta tl tc) tl (tkCells ts)) (by simp); rw [← HTL.out] at h9; exact h9)).2
            obtain ⟨b, o, rfl, hb, hc0, hc7⟩ := tok_cell hrow ht
            obtain ⟨p, hp⟩ : ∃ p, t.at_ = p := ⟨_, rfl⟩
            rw [hp] at hc7
            by_cases hpi : p = i
            · rw [hpi] at hc7 hp
              have hhit : hitB ts i k = true := by simp [hitB, ht, hp]
              clear hpi
              have hk1 : IntKind.i64.wrap ((k : Int) + 1) = (k : Int) + 1 := Go.IntWalk.i64_in _ (by omega)
              by_cases hbit : bits BinOp.and IntKind.u64 (bn / 2 ^ (k % 64)) 1 = 1
              · have hblk : bl k = true := by rw [HBL.out]; simpa using hbit
                by_cases hk0 : k = 0
                · subst hk0
                  have hgap : (bl 0 && ((0 : Nat) == 0 || !nameAt ts (0 - 1))) = true := by rw [hblk]; rfl
                  rw [Nat.zero_mul, Nat.add_zero] at hc0 hc7
                  have hbit0 : bits BinOp.and IntKind.u64 bn 1 = 1 := by simpa using hbit
                  clear ht hp hrow hkt hblk
                  go_upto_region 15 with fail
                  clear hb hc0 hc7 hbit hbit0
                  have HSEG := keep (show (B ++ ⟨#[32]⟩).data.toList ++ ((if (if cb = 34 then !false else false) then cb else lowB cb) :: wideF ts bl (S.data.toList.drop (i + 1)) (i + 1) (if cb = 34 then !false else false) 1) = wideF ts bl S.data.toList 0 false 0 by
                    have h9 := HST.out
                    rw [hhit, hgap] at h9
                    simp only [Bool.and_true, if_true] at h9
                    rw [app_list, List.append_assoc]
                    exact h9)
                  clear HST
                  by_cases hq : cc = 34
                  · subst hq
                    go_wp2_with fail
                    go_roundw
                    case rel =>
                      refine ⟨i + 1, 1, true, B ++ ⟨#[32]⟩ ++ ⟨#[34]⟩, by omega, rfl, rfl, by go_num, by go_num, by omega, by rw [ByteArray.size_append]; show _ + 1 ≤ _; rw [ByteArray.size_append]; show _ + 1 + 1 ≤ _; omega, ?_, Lib.hid (HR.out.alloc_obj _)⟩
                      have h9 := HSEG.out
                      have hcb34 : cb = 34 := byte_eq HCC.out (by decide)
                      rw [hcb34] at h9
                      simp only [if_true, Bool.not_false] at h9
                      exact keep (by rw [app_list, ← h9]; simp)
                    case measure => simp [intOf]; omega
                  · by_cases hcap : (65 : Int) ≤ (cc : Int) ∧ (cc : Int) ≤ 90
                    · have hqb : ((cc : Int) == 34) = false := by simp; omega
                      have hw1 : IntKind.u8.wrap ((cc : Int) + 97) = (cc : Int) + 97 := Go.IntWalk.u8_in _ (by omega)
                      have hw2 : IntKind.u8.wrap ((cc : Int) + 97 - 65) = (cc : Int) + 32 := by rw [show (cc : Int) + 97 - 65 = (cc : Int) + 32 by omega]; exact Go.IntWalk.u8_in _ (by omega)
                      go_wp2_with fail
                      go_roundw
                      case rel =>
                        refine ⟨i + 1, 1, false, B ++ ⟨#[32]⟩ ++ ⟨#[UInt8.ofNat cc + 32]⟩, by omega, rfl, rfl, by go_num, by go_num, by omega, by rw [ByteArray.size_append]; show _ + 1 ≤ _; rw [ByteArray.size_append]; show _ + 1 + 1 ≤ _; omega, ?_, Lib.hid (HR.out.alloc_obj _)⟩
                        have h9 := HSEG.out
                        have hlow := low_cap HCC.out hcap.1 hcap.2
                        rw [if_neg (byte_ne HCC.out hq), hlow] at h9
                        simp only [Bool.false_eq_true, if_false] at h9
                        exact keep (by rw [app_list, ← h9]; simp)
                      case measure => simp [intOf]; omega
                    · rcases (show (cc : Int) < 65 ∨ (65 ≤ (cc : Int) ∧ 90 < (cc : Int)) by omega) with hc1 | ⟨hc1, hc2⟩
                      · have hqb : ((cc : Int) == 34) = false := by simp; omega
                        go_wp2_with fail
                        go_roundw
                        case rel =>
                          refine ⟨i + 1, 1, false, B ++ ⟨#[32]⟩ ++ ⟨#[UInt8.ofNat ((cc : Int)).toNat]⟩, by omega, rfl, rfl, by go_num, by go_num, by omega, by rw [ByteArray.size_append]; show _ + 1 ≤ _; rw [ByteArray.size_append]; show _ + 1 + 1 ≤ _; omega, ?_, Lib.hid (HR.out.alloc_obj _)⟩
                          have h9 := HSEG.out
                          have hlow := low_no HCC.out hcap
                          have hcc9 := byte_of HCC.out
                          rw [if_neg (byte_ne HCC.out hq), hlow] at h9
                          simp only [Bool.false_eq_true, if_false] at h9
                          rw [hcc9] at h9
                          exact keep (by rw [app_list, ← h9]; simp)
                        case measure => simp [intOf]; omega
                      · have hqb : ((cc : Int) == 34) = false := by simp; omega
                        go_wp2_with fail
                        go_roundw
                        case rel =>
                          refine ⟨i + 1, 1, false, B ++ ⟨#[32]⟩ ++ ⟨#[UInt8.ofNat ((cc : Int)).toNat]⟩, by omega, rfl, rfl, by go_num, by go_num, by omega, by rw [ByteArray.size_append]; show _ + 1 ≤ _; rw [ByteArray.size_append]; show _ + 1 + 1 ≤ _; omega, ?_, Lib.hid (HR.out.alloc_obj _)⟩
                          have h9 := HSEG.out
                          have hlow := low_no HCC.out hcap
                          have hcc9 := byte_of HCC.out
                          rw [if_neg (byte_ne HCC.out hq), hlow] at h9
                          simp only [Bool.false_eq_true, if_false] at h9
                          rw [hcc9] at h9
                          exact keep (by rw [app_list, ← h9]; simp)
                        case measure => simp [intOf]; omega
                · have hk0b : ((k : Int) == 0) = false := by simp; omega
                  obtain ⟨u, hu⟩ : ∃ u, ts[k - 1]? = some u := ⟨_, List.getElem?_eq_getElem (by omega)⟩
                  obtain ⟨b9, o9, he9, _, hd0, _⟩ := tok_cell hrow hu
                  simp only [Option.some.injEq, Addr.mk.injEq, and_true] at he9
                  obtain ⟨rfl, rfl⟩ := he9
                  have hi1 : IntKind.i64.wrap ((k : Int) - 1) = (k : Int) - 1 := Go.IntWalk.i64_in _ (by omega)
                  have hi2 : ((k : Int) - 1).toNat = k - 1 := by omega
                  have hi3 : (k : Int) - 1 < (tl : Int) := by omega
                  have hi4 : (0 : Int) ≤ (k : Int) - 1 := by omega
                  by_cases h7 : u.kind = 7
                  · have hgap : (bl k && (k == 0 || !nameAt ts (k - 1))) = false := by simp [nameAt, hu, h7, hk0]
                    rw [h7] at hd0
                    clear ht hp hrow hkt hblk hu h7
                    go_upto_region 15 with fail
                    clear hb hc0 hc7 hd0 hbit
                    have HSEG := keep (show (B).data.toList ++ ((if (if cb = 34 then !false else false) then cb else lowB cb) :: wideF ts bl (S.data.toList.drop (i + 1)) (i + 1) (if cb = 34 then !false else false) (k + 1)) = wideF ts bl S.data.toList 0 false 0 by
                      have h9 := HST.out
                      rw [hhit, hgap] at h9
                      simp only [Bool.and_false, Bool.false_eq_true, if_false, List.nil_append, if_true] at h9
                      exact h9)
                    clear HST
                    by_cases hq : cc = 34
                    · subst hq
                      go_wp2_with fail
                      go_roundw
                      case rel =>
                        refine ⟨i + 1, (k + 1), true, B ++ ⟨#[34]⟩, by omega, rfl, rfl, by go_num, by go_num, by omega, by rw [ByteArray.size_append]; show _ + 1 ≤ _; omega, ?_, Lib.hid (HR.out.alloc_obj _)⟩
                        have h9 := HSEG.out
                        have hcb34 : cb = 34 := byte_eq HCC.out (by decide)
                        rw [hcb34] at h9
                        simp only [if_true, Bool.not_false] at h9
                        exact keep (by rw [app_list, ← h9]; simp)
                      case measure => simp [intOf]; omega
                    · by_cases hcap : (65 : Int) ≤ (cc : Int) ∧ (cc : Int) ≤ 90
                      · have hqb : ((cc : Int) == 34) = false := by simp; omega
                        have hw1 : IntKind.u8.wrap ((cc : Int) + 97) = (cc : Int) + 97 := Go.IntWalk.u8_in _ (by omega)
                        have hw2 : IntKind.u8.wrap ((cc : Int) + 97 - 65) = (cc : Int) + 32 := by rw [show (cc : Int) + 97 - 65 = (cc : Int) + 32 by omega]; exact Go.IntWalk.u8_in _ (by omega)
                        go_wp2_with fail
                        go_roundw
                        case rel =>
                          refine ⟨i + 1, (k + 1), false, B ++ ⟨#[UInt8.ofNat cc + 32]⟩, by omega, rfl, rfl, by go_num, by go_num, by omega, by rw [ByteArray.size_append]; show _ + 1 ≤ _; omega, ?_, Lib.hid (HR.out.alloc_obj _)⟩
                          have h9 := HSEG.out
                          have hlow := low_cap HCC.out hcap.1 hcap.2
                          rw [if_neg (byte_ne HCC.out hq), hlow] at h9
                          simp only [Bool.false_eq_true, if_false] at h9
                          exact keep (by rw [app_list, ← h9]; simp)
                        case measure => simp [intOf]; omega
                      · rcases (show (cc : Int) < 65 ∨ (65 ≤ (cc : Int) ∧ 90 < (cc : Int)) by omega) with hc1 | ⟨hc1, hc2⟩
                        · have hqb : ((cc : Int) == 34) = false := by simp; omega
                          go_wp2_with fail
                          go_roundw
                          case rel =>
                            refine ⟨i + 1, (k + 1), false, B ++ ⟨#[UInt8.ofNat ((cc : Int)).toNat]⟩, by omega, rfl, rfl, by go_num, by go_num, by omega, by rw [ByteArray.size_append]; show _ + 1 ≤ _; omega, ?_, Lib.hid (HR.out.alloc_obj _)⟩
                            have h9 := HSEG.out
                            have hlow := low_no HCC.out hcap
                            have hcc9 := byte_of HCC.out
                            rw [if_neg (byte_ne HCC.out hq), hlow] at h9
                            simp only [Bool.false_eq_true, if_false] at h9
                            rw [hcc9] at h9
                            exact keep (by rw [app_list, ← h9]; simp)
                          case measure => simp [intOf]; omega
                        · have hqb : ((cc : Int) == 34) = false := by simp; omega
                          go_wp2_with fail
                          go_roundw
                          case rel =>
                            refine ⟨i + 1, (k + 1), false, B ++ ⟨#[UInt8.ofNat ((cc : Int)).toNat]⟩, by omega, rfl, rfl, by go_num, by go_num, by omega, by rw [ByteArray.size_append]; show _ + 1 ≤ _; omega, ?_, Lib.hid (HR.out.alloc_obj _)⟩
                            have h9 := HSEG.out
                            have hlow := low_no HCC.out hcap
                            have hcc9 := byte_of HCC.out
                            rw [if_neg (byte_ne HCC.out hq), hlow] at h9
                            simp only [Bool.false_eq_true, if_false] at h9
                            rw [hcc9] at h9
                            exact keep (by rw [app_list, ← h9]; simp)
                          case measure => simp [intOf]; omega
                  · have hgap : (bl k && (k == 0 || !nameAt ts (k - 1))) = true := by rw [hblk]; simp [nameAt, hu, h7]
                    have h7b : ((u.kind : Int) != 7) = true := by simp; omega
                    generalize u.kind = uk at hd0 h7b h7
                    clear ht hp hrow hkt hblk hu h7
                    go_upto_region 15 with fail
                    clear hb hc0 hc7 hd0 hbit
                    have HSEG := keep (show (B ++ ⟨#[32]⟩).data.toList ++ ((if (if cb = 34 then !false else false) then cb else lowB cb) :: wideF ts bl (S.data.toList.drop (i + 1)) (i + 1) (if cb = 34 then !false else false) (k + 1)) = wideF ts bl S.data.toList 0 false 0 by
                      have h9 := HST.out
                      rw [hhit, hgap] at h9
                      simp only [Bool.and_true, if_true] at h9
                      rw [app_list, List.append_assoc]
                      exact h9)
                    clear HST
                    by_cases hq : cc = 34
                    · subst hq
                      go_wp2_with fail
                      go_roundw
                      case rel =>
                        refine ⟨i + 1, (k + 1), true, B ++ ⟨#[32]⟩ ++ ⟨#[34]⟩, by omega, rfl, rfl, by go_num, by go_num, by omega, by rw [ByteArray.size_append]; show _ + 1 ≤ _; rw [ByteArray.size_append]; show _ + 1 + 1 ≤ _; omega, ?_, Lib.hid (HR.out.alloc_obj _)⟩
                        have h9 := HSEG.out
                        have hcb34 : cb = 34 := byte_eq HCC.out (by decide)
                        rw [hcb34] at h9
                        simp only [if_true, Bool.not_false] at h9
                        exact keep (by rw [app_list, ← h9]; simp)
                      case measure => simp [intOf]; omega
                    · by_cases hcap : (65 : Int) ≤ (cc : Int) ∧ (cc : Int) ≤ 90
                      · have hqb : ((cc : Int) == 34) = false := by simp; omega
                        have hw1 : IntKind.u8.wrap ((cc : Int) + 97) = (cc : Int) + 97 := Go.IntWalk.u8_in _ (by omega)
                        have hw2 : IntKind.u8.wrap ((cc : Int) + 97 - 65) = (cc : Int) + 32 := by rw [show (cc : Int) + 97 - 65 = (cc : Int) + 32 by omega]; exact Go.IntWalk.u8_in _ (by omega)
                        go_wp2_with fail
                        go_roundw
                        case rel =>
                          refine ⟨i + 1, (k + 1), false, B ++ ⟨#[32]⟩ ++ ⟨#[UInt8.ofNat cc + 32]⟩, by omega, rfl, rfl, by go_num, by go_num, by omega, by rw [ByteArray.size_append]; show _ + 1 ≤ _; rw [ByteArray.size_append]; show _ + 1 + 1 ≤ _; omega, ?_, Lib.hid (HR.out.alloc_obj _)⟩
                          have h9 := HSEG.out
                          have hlow := low_cap HCC.out hcap.1 hcap.2
                          rw [if_neg (byte_ne HCC.out hq), hlow] at h9
                          simp only [Bool.false_eq_true, if_false] at h9
                          exact keep (by rw [app_list, ← h9]; simp)
                        case measure => simp [intOf]; omega
                      · rcases (show (cc : Int) < 65 ∨ (65 ≤ (cc : Int) ∧ 90 < (cc : Int)) by omega) with hc1 | ⟨hc1, hc2⟩
                        · have hqb : ((cc : Int) == 34) = false := by simp; omega
                          go_wp2_with fail
                          go_roundw
                          case rel =>
                            refine ⟨i + 1, (k + 1), false, B ++ ⟨#[32]⟩ ++ ⟨#[UInt8.ofNat ((cc : Int)).toNat]⟩, by omega, rfl, rfl, by go_num, by go_num, by omega, by rw [ByteArray.size_append]; show _ + 1 ≤ _; rw [ByteArray.size_append]; show _ + 1 + 1 ≤ _; omega, ?_, Lib.hid (HR.out.alloc_obj _)⟩
                            have h9 := HSEG.out
                            have hlow := low_no HCC.out hcap
                            have hcc9 := byte_of HCC.out
                            rw [if_neg (byte_ne HCC.out hq), hlow] at h9
                            simp only [Bool.false_eq_true, if_false] at h9
                            rw [hcc9] at h9
                            exact keep (by rw [app_list, ← h9]; simp)
                          case measure => simp [intOf]; omega
                        · have hqb : ((cc : Int) == 34) = false := by simp; omega
                          go_wp2_with fail
                          go_roundw
                          case rel =>
                            refine ⟨i + 1, (k + 1), false, B ++ ⟨#[32]⟩ ++ ⟨#[UInt8.ofNat ((cc : Int)).toNat]⟩, by omega, rfl, rfl, by go_num, by go_num, by omega, by rw [ByteArray.size_append]; show _ + 1 ≤ _; rw [ByteArray.size_append]; show _ + 1 + 1 ≤ _; omega, ?_, Lib.hid (HR.out.alloc_obj _)⟩
                            have h9 := HSEG.out
                            have hlow := low_no HCC.out hcap
                            have hcc9 := byte_of HCC.out
                            rw [if_neg (byte_ne HCC.out hq), hlow] at h9
                            simp only [Bool.false_eq_true, if_false] at h9
                            rw [hcc9] at h9
                            exact keep (by rw [app_list, ← h9]; simp)
                          case measure => simp [intOf]; omega
              · have hblk : bl k = false := by rw [HBL.out]; simpa using hbit
                have hgap : (bl k && (k == 0 || !nameAt ts (k - 1))) = false := by rw [hblk]; rfl
                have hbitb : (bits BinOp.and IntKind.u64 (bn / 2 ^ (k % 64)) 1 == 1) = false := by simpa using hbit
                clear ht hp hrow hkt hblk hbit
                go_upto_region 15 with fail
                clear hb hc0 hc7 hbitb
                have HSEG := keep (show (B).data.toList ++ ((if (if cb = 34 then !false else false) then cb else lowB cb) :: wideF ts bl (S.data.toList.drop (i + 1)) (i + 1) (if cb = 34 then !false else false) (k + 1)) = wideF ts bl S.data.toList 0 false 0 by
                  have h9 := HST.out
                  rw [hhit, hgap] at h9
                  simp only [Bool.and_false, Bool.false_eq_true, if_false, List.nil_append, if_true] at h9
                  exact h9)
                clear HST
                by_cases hq : cc = 34
                · subst hq
                  go_wp2_with fail
                  go_roundw
                  case rel =>
                    refine ⟨i + 1, (k + 1), true, B ++ ⟨#[34]⟩, by omega, rfl, rfl, by go_num, by go_num, by omega, by rw [ByteArray.size_append]; show _ + 1 ≤ _; omega, ?_, Lib.hid (HR.out.alloc_obj _)⟩
                    have h9 := HSEG.out
                    have hcb34 : cb = 34 := byte_eq HCC.out (by decide)
                    rw [hcb34] at h9
                    simp only [if_true, Bool.not_false] at h9
                    exact keep (by rw [app_list, ← h9]; simp)
                  case measure => simp [intOf]; omega
                · by_cases hcap : (65 : Int) ≤ (cc : Int) ∧ (cc : Int) ≤ 90
                  · have hqb : ((cc : Int) == 34) = false := by simp; omega
                    have hw1 : IntKind.u8.wrap ((cc : Int) + 97) = (cc : Int) + 97 := Go.IntWalk.u8_in _ (by omega)
                    have hw2 : IntKind.u8.wrap ((cc : Int) + 97 - 65) = (cc : Int) + 32 := by rw [show (cc : Int) + 97 - 65 = (cc : Int) + 32 by omega]; exact Go.IntWalk.u8_in _ (by omega)
                    go_wp2_with fail
                    go_roundw
                    case rel =>
                      refine ⟨i + 1, (k + 1), false, B ++ ⟨#[UInt8.ofNat cc + 32]⟩, by omega, rfl, rfl, by go_num, by go_num, by omega, by rw [ByteArray.size_append]; show _ + 1 ≤ _; omega, ?_, Lib.hid (HR.out.alloc_obj _)⟩
                      have h9 := HSEG.out
                      have hlow := low_cap HCC.out hcap.1 hcap.2
                      rw [if_neg (byte_ne HCC.out hq), hlow] at h9
                      simp only [Bool.false_eq_true, if_false] at h9
                      exact keep (by rw [app_list, ← h9]; simp)
                    case measure => simp [intOf]; omega
                  · rcases (show (cc : Int) < 65 ∨ (65 ≤ (cc : Int) ∧ 90 < (cc : Int)) by omega) with hc1 | ⟨hc1, hc2⟩
                    · have hqb : ((cc : Int) == 34) = false := by simp; omega
                      go_wp2_with fail
                      go_roundw
                      case rel =>
                        refine ⟨i + 1, (k + 1), false, B ++ ⟨#[UInt8.ofNat ((cc : Int)).toNat]⟩, by omega, rfl, rfl, by go_num, by go_num, by omega, by rw [ByteArray.size_append]; show _ + 1 ≤ _; omega, ?_, Lib.hid (HR.out.alloc_obj _)⟩
                        have h9 := HSEG.out
                        have hlow := low_no HCC.out hcap
                        have hcc9 := byte_of HCC.out
                        rw [if_neg (byte_ne HCC.out hq), hlow] at h9
                        simp only [Bool.false_eq_true, if_false] at h9
                        rw [hcc9] at h9
                        exact keep (by rw [app_list, ← h9]; simp)
                      case measure => simp [intOf]; omega
                    · have hqb : ((cc : Int) == 34) = false := by simp; omega
                      go_wp2_with fail
                      go_roundw
                      case rel =>
                        refine ⟨i + 1, (k + 1), false, B ++ ⟨#[UInt8.ofNat ((cc : Int)).toNat]⟩, by omega, rfl, rfl, by go_num, by go_num, by omega, by rw [ByteArray.size_append]; show _ + 1 ≤ _; omega, ?_, Lib.hid (HR.out.alloc_obj _)⟩
                        have h9 := HSEG.out
                        have hlow := low_no HCC.out hcap
                        have hcc9 := byte_of HCC.out
                        rw [if_neg (byte_ne HCC.out hq), hlow] at h9
                        simp only [Bool.false_eq_true, if_false] at h9
                        rw [hcc9] at h9
                        exact keep (by rw [app_list, ← h9]; simp)
                      case measure => simp [intOf]; omega
            · have hhit : hitB ts i k = false := by simp [hitB, ht, hp, hpi]
              have hpib : ((p : Int) == (i : Int)) = false := by simp; omega
              clear ht hp hrow hkt
              go_upto_region 15 with fail
              clear hb hc0 hc7
              have HSEG := keep (show (B).data.toList ++ ((if (if cb = 34 then !false else false) then cb else lowB cb) :: wideF ts bl (S.data.toList.drop (i + 1)) (i + 1) (if cb = 34 then !false else false) k) = wideF ts bl S.data.toList 0 false 0 by
                have h9 := HST.out
                rw [hhit] at h9
                simp only [Bool.false_and, Bool.false_eq_true, if_false, List.nil_append] at h9
                exact h9)
              clear HST
              by_cases hq : cc = 34
              · subst hq
                go_wp2_with fail
                go_roundw
                case rel =>
                  refine ⟨i + 1, k, true, B ++ ⟨#[34]⟩, by omega, rfl, rfl, by go_num, by go_num, by omega, by rw [ByteArray.size_append]; show _ + 1 ≤ _; omega, ?_, Lib.hid (HR.out.alloc_obj _)⟩
                  have h9 := HSEG.out
                  have hcb34 : cb = 34 := byte_eq HCC.out (by decide)
                  rw [hcb34] at h9
                  simp only [if_true, Bool.not_false] at h9
                  exact keep (by rw [app_list, ← h9]; simp)
                case measure => simp [intOf]; omega
              · by_cases hcap : (65 : Int) ≤ (cc : Int) ∧ (cc : Int) ≤ 90
                · have hqb : ((cc : Int) == 34) = false := by simp; omega
                  have hw1 : IntKind.u8.wrap ((cc : Int) + 97) = (cc : Int) + 97 := Go.IntWalk.u8_in _ (by omega)
                  have hw2 : IntKind.u8.wrap ((cc : Int) + 97 - 65) = (cc : Int) + 32 := by rw [show (cc : Int) + 97 - 65 = (cc : Int) + 32 by omega]; exact Go.IntWalk.u8_in _ (by omega)
                  go_wp2_with fail
                  go_roundw
                  case rel =>
                    refine ⟨i + 1, k, false, B ++ ⟨#[UInt8.ofNat cc + 32]⟩, by omega, rfl, rfl, by go_num, by go_num, by omega, by rw [ByteArray.size_append]; show _ + 1 ≤ _; omega, ?_, Lib.hid (HR.out.alloc_obj _)⟩
                    have h9 := HSEG.out
                    have hlow := low_cap HCC.out hcap.1 hcap.2
                    rw [if_neg (byte_ne HCC.out hq), hlow] at h9
                    simp only [Bool.false_eq_true, if_false] at h9
                    exact keep (by rw [app_list, ← h9]; simp)
                  case measure => simp [intOf]; omega
                · rcases (show (cc : Int) < 65 ∨ (65 ≤ (cc : Int) ∧ 90 < (cc : Int)) by omega) with hc1 | ⟨hc1, hc2⟩
                  · have hqb : ((cc : Int) == 34) = false := by simp; omega
                    go_wp2_with fail
                    go_roundw
                    case rel =>
                      refine ⟨i + 1, k, false, B ++ ⟨#[UInt8.ofNat ((cc : Int)).toNat]⟩, by omega, rfl, rfl, by go_num, by go_num, by omega, by rw [ByteArray.size_append]; show _ + 1 ≤ _; omega, ?_, Lib.hid (HR.out.alloc_obj _)⟩
                      have h9 := HSEG.out
                      have hlow := low_no HCC.out hcap
                      have hcc9 := byte_of HCC.out
                      rw [if_neg (byte_ne HCC.out hq), hlow] at h9
                      simp only [Bool.false_eq_true, if_false] at h9
                      rw [hcc9] at h9
                      exact keep (by rw [app_list, ← h9]; simp)
                    case measure => simp [intOf]; omega
                  · have hqb : ((cc : Int) == 34) = false := by simp; omega
                    go_wp2_with fail
                    go_roundw
                    case rel =>
                      refine ⟨i + 1, k, false, B ++ ⟨#[UInt8.ofNat ((cc : Int)).toNat]⟩, by omega, rfl, rfl, by go_num, by go_num, by omega, by rw [ByteArray.size_append]; show _ + 1 ≤ _; omega, ?_, Lib.hid (HR.out.alloc_obj _)⟩
                      have h9 := HSEG.out
                      have hlow := low_no HCC.out hcap
                      have hcc9 := byte_of HCC.out
                      rw [if_neg (byte_ne HCC.out hq), hlow] at h9
                      simp only [Bool.false_eq_true, if_false] at h9
                      rw [hcc9] at h9
                      exact keep (by rw [app_list, ← h9]; simp)
                    case measure => simp [intOf]; omega
          · have hhit : hitB ts i k = false := by
              unfold hitB
              rw [List.getElem?_eq_none (by rw [HTL.out]; omega)]
            go_upto_region 15 with fail
            have HSEG := keep (show (B).data.toList ++ ((if (if cb = 34 then !false else false) then cb else lowB cb) :: wideF ts bl (S.data.toList.drop (i + 1)) (i + 1) (if cb = 34 then !false else false) k) = wideF ts bl S.data.toList 0 false 0 by
              have h9 := HST.out
              rw [hhit] at h9
              simp only [Bool.false_and, Bool.false_eq_true, if_false, List.nil_append] at h9
              exact h9)
            clear HST
            by_cases hq : cc = 34
            · subst hq
              go_wp2_with fail
              go_roundw
              case rel =>
                refine ⟨i + 1, k, true, B ++ ⟨#[34]⟩, by omega, rfl, rfl, by go_num, by go_num, by omega, by rw [ByteArray.size_append]; show _ + 1 ≤ _; omega, ?_, Lib.hid (HR.out.alloc_obj _)⟩
                have h9 := HSEG.out
                have hcb34 : cb = 34 := byte_eq HCC.out (by decide)
                rw [hcb34] at h9
                simp only [if_true, Bool.not_false] at h9
                exact keep (by rw [app_list, ← h9]; simp)
              case measure => simp [intOf]; omega
            · by_cases hcap : (65 : Int) ≤ (cc : Int) ∧ (cc : Int) ≤ 90
              · have hqb : ((cc : Int) == 34) = false := by simp; omega
                have hw1 : IntKind.u8.wrap ((cc : Int) + 97) = (cc : Int) + 97 := Go.IntWalk.u8_in _ (by omega)
                have hw2 : IntKind.u8.wrap ((cc : Int) + 97 - 65) = (cc : Int) + 32 := by rw [show (cc : Int) + 97 - 65 = (cc : Int) + 32 by omega]; exact Go.IntWalk.u8_in _ (by omega)
                go_wp2_with fail
                go_roundw
                case rel =>
                  refine ⟨i + 1, k, false, B ++ ⟨#[UInt8.ofNat cc + 32]⟩, by omega, rfl, rfl, by go_num, by go_num, by omega, by rw [ByteArray.size_append]; show _ + 1 ≤ _; omega, ?_, Lib.hid (HR.out.alloc_obj _)⟩
                  have h9 := HSEG.out
                  have hlow := low_cap HCC.out hcap.1 hcap.2
                  rw [if_neg (byte_ne HCC.out hq), hlow] at h9
                  simp only [Bool.false_eq_true, if_false] at h9
                  exact keep (by rw [app_list, ← h9]; simp)
                case measure => simp [intOf]; omega
              · rcases (show (cc : Int) < 65 ∨ (65 ≤ (cc : Int) ∧ 90 < (cc : Int)) by omega) with hc1 | ⟨hc1, hc2⟩
                · have hqb : ((cc : Int) == 34) = false := by simp; omega
                  go_wp2_with fail
                  go_roundw
                  case rel =>
                    refine ⟨i + 1, k, false, B ++ ⟨#[UInt8.ofNat ((cc : Int)).toNat]⟩, by omega, rfl, rfl, by go_num, by go_num, by omega, by rw [ByteArray.size_append]; show _ + 1 ≤ _; omega, ?_, Lib.hid (HR.out.alloc_obj _)⟩
                    have h9 := HSEG.out
                    have hlow := low_no HCC.out hcap
                    have hcc9 := byte_of HCC.out
                    rw [if_neg (byte_ne HCC.out hq), hlow] at h9
                    simp only [Bool.false_eq_true, if_false] at h9
                    rw [hcc9] at h9
                    exact keep (by rw [app_list, ← h9]; simp)
                  case measure => simp [intOf]; omega
                · have hqb : ((cc : Int) == 34) = false := by simp; omega
                  go_wp2_with fail
                  go_roundw
                  case rel =>
                    refine ⟨i + 1, k, false, B ++ ⟨#[UInt8.ofNat ((cc : Int)).toNat]⟩, by omega, rfl, rfl, by go_num, by go_num, by omega, by rw [ByteArray.size_append]; show _ + 1 ≤ _; omega, ?_, Lib.hid (HR.out.alloc_obj _)⟩
                    have h9 := HSEG.out
                    have hlow := low_no HCC.out hcap
                    have hcc9 := byte_of HCC.out
                    rw [if_neg (byte_ne HCC.out hq), hlow] at h9
                    simp only [Bool.false_eq_true, if_false] at h9
                    rw [hcc9] at h9
                    exact keep (by rw [app_list, ← h9]; simp)
                  case measure => simp [intOf]; omega
        · by_cases hkl : (k : Int) < tl
          · have hkt : k < ts.length := by rw [HTL.out]; omega
            obtain ⟨t, ht⟩ : ∃ t, ts[k]? = some t := ⟨_, List.getElem?_eq_getElem hkt⟩
            have hrow := (rows_tok (l := ts) (by have h9 := HR.out.get (kRow w.heap.size 37 8 (.slice ta tl tc) tl (tkCells ts)) (by simp); rw [← HTL.out] at h9; exact h9)).2
            obtain ⟨b, o, rfl, hb, hc0, hc7⟩ := tok_cell hrow ht
            obtain ⟨p, hp⟩ : ∃ p, t.at_ = p := ⟨_, rfl⟩
            rw [hp] at hc7
            by_cases hpi : p = i
            · rw [hpi] at hc7 hp
              have hhit : hitB ts i k = true := by simp [hitB, ht, hp]
              clear hpi
              have hk1 : IntKind.i64.wrap ((k : Int) + 1) = (k : Int) + 1 := Go.IntWalk.i64_in _ (by omega)
              by_cases hbit : bits BinOp.and IntKind.u64 (bn / 2 ^ (k % 64)) 1 = 1
              · have hblk : bl k = true := by rw [HBL.out]; simpa using hbit
                by_cases hk0 : k = 0
                · subst hk0
                  have hgap : (bl 0 && ((0 : Nat) == 0 || !nameAt ts (0 - 1))) = true := by rw [hblk]; rfl
                  rw [Nat.zero_mul, Nat.add_zero] at hc0 hc7
                  have hbit0 : bits BinOp.and IntKind.u64 bn 1 = 1 := by simpa using hbit
                  clear ht hp hrow hkt hblk
                  go_upto_region 15 with fail
                  clear hb hc0 hc7 hbit hbit0
                  have HSEG := keep (show (B ++ ⟨#[32]⟩).data.toList ++ ((if (if cb = 34 then !true else true) then cb else lowB cb) :: wideF ts bl (S.data.toList.drop (i + 1)) (i + 1) (if cb = 34 then !true else true) 1) = wideF ts bl S.data.toList 0 false 0 by
                    have h9 := HST.out
                    rw [hhit, hgap] at h9
                    simp only [Bool.and_true, if_true] at h9
                    rw [app_list, List.append_assoc]
                    exact h9)
                  clear HST
                  by_cases hq : cc = 34
                  · subst hq
                    go_wp2_with fail
                    go_roundw
                    case rel =>
                      refine ⟨i + 1, 1, false, B ++ ⟨#[32]⟩ ++ ⟨#[34]⟩, by omega, rfl, rfl, by go_num, by go_num, by omega, by rw [ByteArray.size_append]; show _ + 1 ≤ _; rw [ByteArray.size_append]; show _ + 1 + 1 ≤ _; omega, ?_, Lib.hid (HR.out.alloc_obj _)⟩
                      have h9 := HSEG.out
                      have hcb34 : cb = 34 := byte_eq HCC.out (by decide)
                      have hl34 : lowB 34 = 34 := by decide
                      rw [hcb34] at h9
                      simp only [if_true, Bool.not_true, Bool.false_eq_true, if_false, hl34] at h9
                      exact keep (by rw [app_list, ← h9]; simp)
                    case measure => simp [intOf]; omega
                  · have hqb : ((cc : Int) == 34) = false := by simp; omega
                    go_wp2_with fail
                    go_roundw
                    case rel =>
                      refine ⟨i + 1, 1, true, B ++ ⟨#[32]⟩ ++ ⟨#[UInt8.ofNat ((cc : Int)).toNat]⟩, by omega, rfl, rfl, by go_num, by go_num, by omega, by rw [ByteArray.size_append]; show _ + 1 ≤ _; rw [ByteArray.size_append]; show _ + 1 + 1 ≤ _; omega, ?_, Lib.hid (HR.out.alloc_obj _)⟩
                      have h9 := HSEG.out
                      have hcc9 := byte_of HCC.out
                      rw [if_neg (byte_ne HCC.out hq)] at h9
                      simp only [if_true] at h9
                      rw [hcc9] at h9
                      exact keep (by rw [app_list, ← h9]; simp)
                    case measure => simp [intOf]; omega
                · have hk0b : ((k : Int) == 0) = false := by simp; omega
                  obtain ⟨u, hu⟩ : ∃ u, ts[k - 1]? = some u := ⟨_, List.getElem?_eq_getElem (by omega)⟩
                  obtain ⟨b9, o9, he9, _, hd0, _⟩ := tok_cell hrow hu
                  simp only [Option.some.injEq, Addr.mk.injEq, and_true] at he9
                  obtain ⟨rfl, rfl⟩ := he9
                  have hi1 : IntKind.i64.wrap ((k : Int) - 1) = (k : Int) - 1 := Go.IntWalk.i64_in _ (by omega)
                  have hi2 : ((k : Int) - 1).toNat = k - 1 := by omega
                  have hi3 : (k : Int) - 1 < (tl : Int) := by omega
                  have hi4 : (0 : Int) ≤ (k : Int) - 1 := by omega
                  by_cases h7 : u.kind = 7
                  · have hgap : (bl k && (k == 0 || !nameAt ts (k - 1))) = false := by simp [nameAt, hu, h7, hk0]
                    rw [h7] at hd0
                    clear ht hp hrow hkt hblk hu h7
                    go_upto_region 15 with fail
                    clear hb hc0 hc7 hd0 hbit
                    have HSEG := keep (show (B).data.toList ++ ((if (if cb = 34 then !true else true) then cb else lowB cb) :: wideF ts bl (S.data.toList.drop (i + 1)) (i + 1) (if cb = 34 then !true else true) (k + 1)) = wideF ts bl S.data.toList 0 false 0 by
                      have h9 := HST.out
                      rw [hhit, hgap] at h9
                      simp only [Bool.and_false, Bool.false_eq_true, if_false, List.nil_append, if_true] at h9
                      exact h9)
                    clear HST
                    by_cases hq : cc = 34
                    · subst hq
                      go_wp2_with fail
                      go_roundw
                      case rel =>
                        refine ⟨i + 1, (k + 1), false, B ++ ⟨#[34]⟩, by omega, rfl, rfl, by go_num, by go_num, by omega, by rw [ByteArray.size_append]; show _ + 1 ≤ _; omega, ?_, Lib.hid (HR.out.alloc_obj _)⟩
                        have h9 := HSEG.out
                        have hcb34 : cb = 34 := byte_eq HCC.out (by decide)
                        have hl34 : lowB 34 = 34 := by decide
                        rw [hcb34] at h9
                        simp only [if_true, Bool.not_true, Bool.false_eq_true, if_false, hl34] at h9
                        exact keep (by rw [app_list, ← h9]; simp)
                      case measure => simp [intOf]; omega
                    · have hqb : ((cc : Int) == 34) = false := by simp; omega
                      go_wp2_with fail
                      go_roundw
                      case rel =>
                        refine ⟨i + 1, (k + 1), true, B ++ ⟨#[UInt8.ofNat ((cc : Int)).toNat]⟩, by omega, rfl, rfl, by go_num, by go_num, by omega, by rw [ByteArray.size_append]; show _ + 1 ≤ _; omega, ?_, Lib.hid (HR.out.alloc_obj _)⟩
                        have h9 := HSEG.out
                        have hcc9 := byte_of HCC.out
                        rw [if_neg (byte_ne HCC.out hq)] at h9
                        simp only [if_true] at h9
                        rw [hcc9] at h9
                        exact keep (by rw [app_list, ← h9]; simp)
                      case measure => simp [intOf]; omega
                  · have hgap : (bl k && (k == 0 || !nameAt ts (k - 1))) = true := by rw [hblk]; simp [nameAt, hu, h7]
                    have h7b : ((u.kind : Int) != 7) = true := by simp; omega
                    generalize u.kind = uk at hd0 h7b h7
                    clear ht hp hrow hkt hblk hu h7
                    go_upto_region 15 with fail
                    clear hb hc0 hc7 hd0 hbit
                    have HSEG := keep (show (B ++ ⟨#[32]⟩).data.toList ++ ((if (if cb = 34 then !true else true) then cb else lowB cb) :: wideF ts bl (S.data.toList.drop (i + 1)) (i + 1) (if cb = 34 then !true else true) (k + 1)) = wideF ts bl S.data.toList 0 false 0 by
                      have h9 := HST.out
                      rw [hhit, hgap] at h9
                      simp only [Bool.and_true, if_true] at h9
                      rw [app_list, List.append_assoc]
                      exact h9)
                    clear HST
                    by_cases hq : cc = 34
                    · subst hq
                      go_wp2_with fail
                      go_roundw
                      case rel =>
                        refine ⟨i + 1, (k + 1), false, B ++ ⟨#[32]⟩ ++ ⟨#[34]⟩, by omega, rfl, rfl, by go_num, by go_num, by omega, by rw [ByteArray.size_append]; show _ + 1 ≤ _; rw [ByteArray.size_append]; show _ + 1 + 1 ≤ _; omega, ?_, Lib.hid (HR.out.alloc_obj _)⟩
                        have h9 := HSEG.out
                        have hcb34 : cb = 34 := byte_eq HCC.out (by decide)
                        have hl34 : lowB 34 = 34 := by decide
                        rw [hcb34] at h9
                        simp only [if_true, Bool.not_true, Bool.false_eq_true, if_false, hl34] at h9
                        exact keep (by rw [app_list, ← h9]; simp)
                      case measure => simp [intOf]; omega
                    · have hqb : ((cc : Int) == 34) = false := by simp; omega
                      go_wp2_with fail
                      go_roundw
                      case rel =>
                        refine ⟨i + 1, (k + 1), true, B ++ ⟨#[32]⟩ ++ ⟨#[UInt8.ofNat ((cc : Int)).toNat]⟩, by omega, rfl, rfl, by go_num, by go_num, by omega, by rw [ByteArray.size_append]; show _ + 1 ≤ _; rw [ByteArray.size_append]; show _ + 1 + 1 ≤ _; omega, ?_, Lib.hid (HR.out.alloc_obj _)⟩
                        have h9 := HSEG.out
                        have hcc9 := byte_of HCC.out
                        rw [if_neg (byte_ne HCC.out hq)] at h9
                        simp only [if_true] at h9
                        rw [hcc9] at h9
                        exact keep (by rw [app_list, ← h9]; simp)
                      case measure => simp [intOf]; omega
              · have hblk : bl k = false := by rw [HBL.out]; simpa using hbit
                have hgap : (bl k && (k == 0 || !nameAt ts (k - 1))) = false := by rw [hblk]; rfl
                have hbitb : (bits BinOp.and IntKind.u64 (bn / 2 ^ (k % 64)) 1 == 1) = false := by simpa using hbit
                clear ht hp hrow hkt hblk hbit
                go_upto_region 15 with fail
                clear hb hc0 hc7 hbitb
                have HSEG := keep (show (B).data.toList ++ ((if (if cb = 34 then !true else true) then cb else lowB cb) :: wideF ts bl (S.data.toList.drop (i + 1)) (i + 1) (if cb = 34 then !true else true) (k + 1)) = wideF ts bl S.data.toList 0 false 0 by
                  have h9 := HST.out
                  rw [hhit, hgap] at h9
                  simp only [Bool.and_false, Bool.false_eq_true, if_false, List.nil_append, if_true] at h9
                  exact h9)
                clear HST
                by_cases hq : cc = 34
                · subst hq
                  go_wp2_with fail
                  go_roundw
                  case rel =>
                    refine ⟨i + 1, (k + 1), false, B ++ ⟨#[34]⟩, by omega, rfl, rfl, by go_num, by go_num, by omega, by rw [ByteArray.size_append]; show _ + 1 ≤ _; omega, ?_, Lib.hid (HR.out.alloc_obj _)⟩
                    have h9 := HSEG.out
                    have hcb34 : cb = 34 := byte_eq HCC.out (by decide)
                    have hl34 : lowB 34 = 34 := by decide
                    rw [hcb34] at h9
                    simp only [if_true, Bool.not_true, Bool.false_eq_true, if_false, hl34] at h9
                    exact keep (by rw [app_list, ← h9]; simp)
                  case measure => simp [intOf]; omega
                · have hqb : ((cc : Int) == 34) = false := by simp; omega
                  go_wp2_with fail
                  go_roundw
                  case rel =>
                    refine ⟨i + 1, (k + 1), true, B ++ ⟨#[UInt8.ofNat ((cc : Int)).toNat]⟩, by omega, rfl, rfl, by go_num, by go_num, by omega, by rw [ByteArray.size_append]; show _ + 1 ≤ _; omega, ?_, Lib.hid (HR.out.alloc_obj _)⟩
                    have h9 := HSEG.out
                    have hcc9 := byte_of HCC.out
                    rw [if_neg (byte_ne HCC.out hq)] at h9
                    simp only [if_true] at h9
                    rw [hcc9] at h9
                    exact keep (by rw [app_list, ← h9]; simp)
                  case measure => simp [intOf]; omega
            · have hhit : hitB ts i k = false := by simp [hitB, ht, hp, hpi]
              have hpib : ((p : Int) == (i : Int)) = false := by simp; omega
              clear ht hp hrow hkt
              go_upto_region 15 with fail
              clear hb hc0 hc7
              have HSEG := keep (show (B).data.toList ++ ((if (if cb = 34 then !true else true) then cb else lowB cb) :: wideF ts bl (S.data.toList.drop (i + 1)) (i + 1) (if cb = 34 then !true else true) k) = wideF ts bl S.data.toList 0 false 0 by
                have h9 := HST.out
                rw [hhit] at h9
                simp only [Bool.false_and, Bool.false_eq_true, if_false, List.nil_append] at h9
                exact h9)
              clear HST
              by_cases hq : cc = 34
              · subst hq
                go_wp2_with fail
                go_roundw
                case rel =>
                  refine ⟨i + 1, k, false, B ++ ⟨#[34]⟩, by omega, rfl, rfl, by go_num, by go_num, by omega, by rw [ByteArray.size_append]; show _ + 1 ≤ _; omega, ?_, Lib.hid (HR.out.alloc_obj _)⟩
                  have h9 := HSEG.out
                  have hcb34 : cb = 34 := byte_eq HCC.out (by decide)
                  have hl34 : lowB 34 = 34 := by decide
                  rw [hcb34] at h9
                  simp only [if_true, Bool.not_true, Bool.false_eq_true, if_false, hl34] at h9
                  exact keep (by rw [app_list, ← h9]; simp)
                case measure => simp [intOf]; omega
              · have hqb : ((cc : Int) == 34) = false := by simp; omega
                go_wp2_with fail
                go_roundw
                case rel =>
                  refine ⟨i + 1, k, true, B ++ ⟨#[UInt8.ofNat ((cc : Int)).toNat]⟩, by omega, rfl, rfl, by go_num, by go_num, by omega, by rw [ByteArray.size_append]; show _ + 1 ≤ _; omega, ?_, Lib.hid (HR.out.alloc_obj _)⟩
                  have h9 := HSEG.out
                  have hcc9 := byte_of HCC.out
                  rw [if_neg (byte_ne HCC.out hq)] at h9
                  simp only [if_true] at h9
                  rw [hcc9] at h9
                  exact keep (by rw [app_list, ← h9]; simp)
                case measure => simp [intOf]; omega
          · have hhit : hitB ts i k = false := by
              unfold hitB
              rw [List.getElem?_eq_none (by rw [HTL.out]; omega)]
            go_upto_region 15 with fail
            have HSEG := keep (show (B).data.toList ++ ((if (if cb = 34 then !true else true) then cb else lowB cb) :: wideF ts bl (S.data.toList.drop (i + 1)) (i + 1) (if cb = 34 then !true else true) k) = wideF ts bl S.data.toList 0 false 0 by
              have h9 := HST.out
              rw [hhit] at h9
              simp only [Bool.false_and, Bool.false_eq_true, if_false, List.nil_append] at h9
              exact h9)
            clear HST
            by_cases hq : cc = 34
            · subst hq
              go_wp2_with fail
              go_roundw
              case rel =>
                refine ⟨i + 1, k, false, B ++ ⟨#[34]⟩, by omega, rfl, rfl, by go_num, by go_num, by omega, by rw [ByteArray.size_append]; show _ + 1 ≤ _; omega, ?_, Lib.hid (HR.out.alloc_obj _)⟩
                have h9 := HSEG.out
                have hcb34 : cb = 34 := byte_eq HCC.out (by decide)
                have hl34 : lowB 34 = 34 := by decide
                rw [hcb34] at h9
                simp only [if_true, Bool.not_true, Bool.false_eq_true, if_false, hl34] at h9
                exact keep (by rw [app_list, ← h9]; simp)
              case measure => simp [intOf]; omega
            · have hqb : ((cc : Int) == 34) = false := by simp; omega
              go_wp2_with fail
              go_roundw
              case rel =>
                refine ⟨i + 1, k, true, B ++ ⟨#[UInt8.ofNat ((cc : Int)).toNat]⟩, by omega, rfl, rfl, by go_num, by go_num, by omega, by rw [ByteArray.size_append]; show _ + 1 ≤ _; omega, ?_, Lib.hid (HR.out.alloc_obj _)⟩
                have h9 := HSEG.out
                have hcc9 := byte_of HCC.out
                rw [if_neg (byte_ne HCC.out hq)] at h9
                simp only [if_true] at h9
                rw [hcc9] at h9
                exact keep (by rw [app_list, ← h9]; simp)
              case measure => simp [intOf]; omega
      · obtain rfl : i = S.size := by omega
        have hBW : B.data.toList = wideF ts bl S.data.toList 0 false 0 := by
          have h9 := HI.out
          rw [List.drop_of_length_le (by rw [HLS.out]; exact Nat.le_refl _)] at h9
          simpa [wideF] using h9
        have HBW := keep hBW
        clear hBW HI
        have hfb : (formS (wideF ts bl S.data.toList 0 false 0)).1 = ns ∧ (formS (wideF ts bl S.data.toList 0 false 0)).2.2 = er := by
          obtain ⟨us, hus, hub⟩ := wide_tokens bl HTK.out (by rw [HLS.out]; exact hS)
          have h9 := form_bare HTK.out hus hub
          rw [HF.out] at h9
          exact h9
        have HFB := keep hfb
        clear hfb
        go_wp2_with fail
        refine (parse_Formula B wp (by omega) (HW.out.below HR.out.bel)).mono ?_
        rintro e w3 ⟨uv, rfl, hown, hb⟩
        rw [HBW.out] at hown ⊢
        have hfb := HFB.out
        generalize formS (wideF ts bl S.data.toList 0 false 0) = G at hfb hown ⊢
        obtain ⟨ns2, at2, er2⟩ := G
        simp only [] at hfb hown ⊢
        obtain ⟨rfl, rfl⟩ := hfb
        have H3 := Lib.hid (OkRow.of_new HR.out hb hown).pers
        obtain ⟨ua, uc, rfl⟩ := own_len hown
        clear hown hb HFB HBW HR
        go_wp2_with fail
        have hdat : (({ data := #[40] } : ByteArray) ++ S ++ { data := #[41] }).data.toList = 40 :: (S.data.toList ++ [41]) := by simp
        have hpsz : (({ data := #[40] } : ByteArray) ++ S ++ { data := #[41] }).size ≤ 122 := by
          rw [ByteArray.size_append, ByteArray.size_append]
          have h1 : (({ data := #[40] } : ByteArray)).size = 1 := rfl
          have h2 : (({ data := #[41] } : ByteArray)).size = 1 := rfl
          omega
        have HDT := keep hdat
        generalize (({ data := #[40] } : ByteArray) ++ S ++ { data := #[41] }) = PS at HDT hpsz ⊢
        clear hdat
        refine (parse_Formula PS w3 (by omega) (HW.out.below H3.out.bel)).mono ?_
        rintro e w4 ⟨vv, rfl, hown, hb⟩
        rw [HDT.out] at hown ⊢
        rcases form_cases S.data.toList with ⟨ea, ee, h1, he, _, _⟩ | ⟨ts9, ms, n, h1, htk9, hp, hc⟩
        · obtain ⟨rfl, rfl, rfl⟩ : ns2 = [] ∧ at_ = ea ∧ er2 = ee := by have := HF.out.symm.trans h1; simpa using this
          have heb : (er2 != 0) = true := by simpa using he
          have H4 := Lib.hid (H3.out.below hb)
          generalize formS (40 :: (S.data.toList ++ [41])) = G at hown ⊢
          obtain ⟨g1, g2, g3⟩ := G
          simp only [] at hown ⊢
          clear hb hown h1 he
          go_wp2_with fail
          have hr1 := (rows_get (l := []) (H4.out.get (kRow w.heap.size 46 11 (.slice fa ([] : List Nd).length fc) ([] : List Nd).length (ndCells [])) (by simp))).2
          have hr2 := (rows_get (l := []) (H4.out.get (kRow w.heap.size 46 11 (.slice ua ([] : List Nd).length uc) ([] : List Nd).length (ndCells [])) (by simp))).2
          refine (equal_tree [] fa ua fc uc w4 (by simp) hr1 hr2).mono ?_
          rintro e w5 ⟨rfl, hb⟩
          have H5 := Lib.hid (H4.out.below hb)
          clear hb hr1 hr2 H4
          go_wp2_with fail
          refine (law_awake9 w5 (HW.out.below H5.out.bel)).mono ?_
          rintro e w6 ⟨rfl, hb⟩
          have HB := Lib.hid (below_step H5.out.bel hb)
          clear hb
          go_wp2_with fail
          go_ret
          exact ⟨rfl, HB.out⟩
        · obtain ⟨rfl, rfl, rfl⟩ : ns2 = ms ∧ at_ = 0 ∧ er2 = 0 := by have := HF.out.symm.trans h1; simpa using this
          rw [paren_form htk9 hp hc (by rw [HLS.out]; exact hS)] at hown ⊢
          have hnl : ns2.length ≤ 256 := by
            obtain ⟨_, h256, _, hlex⟩ := tokens_ok htk9
            have := form_count hp
            have := List.countP_le_length (p := realB) (l := ts9)
            have := hlex.len
            omega
          simp only [] at hown ⊢
          have H4 := Lib.hid (OkRow.of_new H3.out hb hown).pers
          obtain ⟨va, vc, rfl⟩ := own_len hown
          clear hb hown h1 htk9 hp hc H3
          go_wp2_with fail
          have hr1 := (rows_get (l := ns2) (H4.out.get (kRow w.heap.size 46 11 (.slice fa ns2.length fc) ns2.length (ndCells ns2)) (by simp))).2
          have hr2 := (rows_get (l := ns2) (H4.out.get (kRow w.heap.size 46 11 (.slice ua ns2.length uc) ns2.length (ndCells ns2)) (by simp))).2
          refine (equal_tree ns2 fa ua fc uc w4 (by omega) hr1 hr2).mono ?_
          rintro e w5 ⟨rfl, hb⟩
          have H5 := Lib.hid (H4.out.below hb)
          clear hb hr1 hr2 H4
          go_wp2_with fail
          have hr1 := (rows_get (l := ns2) (H5.out.get (kRow w.heap.size 46 11 (.slice fa ns2.length fc) ns2.length (ndCells ns2)) (by simp))).2
          have hr2 := (rows_get (l := ns2) (H5.out.get (kRow w.heap.size 46 11 (.slice va ns2.length vc) ns2.length (ndCells ns2)) (by simp))).2
          refine (equal_tree ns2 fa va fc vc w5 (by omega) hr1 hr2).mono ?_
          rintro e w6 ⟨rfl, hb⟩
          have H6 := Lib.hid (H5.out.below hb)
          clear hb hr1 hr2 H5
          go_wp2_with fail
          refine (law_awake9 w6 (HW.out.below H6.out.bel)).mono ?_
          rintro e w7 ⟨rfl, hb⟩
          have HB := Lib.hid (below_step H6.out.bel hb)
          clear hb
          go_wp2_with fail
          go_ret
          exact ⟨rfl, HB.out⟩
end Go.Proofs.YtlngjiibbcgkmaaDoor
