/- The contract of the reference's Tokens. -/
import Derived.Test.YtlngjiibbcgkmaaGreatDoorRefE
import Derived.Test.YtlngjiibbcgkmaaGreatDoorLexN
namespace Go.Proofs.YtlngjiibbcgkmaaGreatDoor
open Go.RowKit

set_option maxRecDepth 100000 in
set_option maxHeartbeats 8000000 in
theorem ref7_Tokens (s : ByteArray) (w : World) (hs : s.size ≤ 4611686018427387904) :
    Calls Tryz.prog 18 #[.string s] w (TokOut s.data.toList w) := by
  have HSL := keep (show s.data.toList.length = s.size by rw [Array.length_toList]; rfl)
  by_cases hlong : (s.size : Int) > 256
  · have HL := keep (tokens_long (L := s.data.toList) (by rw [HSL.out]; omega))
    go_enter Tryz.func18, Tryz.ntmps18
    go_wp2_with fail
    exact bodyPost_ret (v := .tuple #[.slice none 0 0, .int .i64 0, .int .i64 5]) (by simp [results, Tryz.results18, go_sem]) rfl (tokout_nil HL.out (Below.refl _ _))
  · have h256 : s.size ≤ 256 := by omega
    obtain ⟨i0, hi, hz0, hz1, hz2⟩ := info_parts info_tok
    go_enter Tryz.func18, Tryz.ntmps18
    go_wp2_with fail
    clear hlong hs
    go_loopw [5] (fun iv wr => ∃ k : Nat, k ≤ s.size ∧ iv = .int .i64 (k : Int) ∧ Keep (∀ b ∈ s.data.toList.take k, plainB b = true) ∧ wr = w) (fun iv _ => s.size - (intOf iv).toNat)
    case atStart => exact ⟨0, Nat.zero_le _, rfl, keep (by simp), rfl⟩
    case round =>
      obtain ⟨k, hk, rfl, HP, hwr⟩ := hrel
      obtain rfl : w = wr := hwr.symm
      by_cases hlt : (k : Int) < s.size
      · have hks : k < s.size := by omega
        rcases (show (((s[k]'hks).toNat : Int) < 32) ∨ (32 ≤ ((s[k]'hks).toNat : Int) ∧ 126 < ((s[k]'hks).toNat : Int)) ∨ (32 ≤ ((s[k]'hks).toNat : Int) ∧ ((s[k]'hks).toNat : Int) ≤ 126) by omega) with h1 | ⟨h1, h2⟩ | ⟨h1, h2⟩
        · have HB := keep (tokens_byte (k := k) (by rw [HSL.out]; exact h256) (by rw [HSL.out]; exact hks) HP.out (show plainB (s[k]'hks) = false by unfold plainB; simp; omega))
          go_wp2_with fail
          exact bodyPost_ret (v := .tuple #[.slice none 0 0, .int .i64 (k : Int), .int .i64 4]) (by simp [results, Tryz.results18, go_sem]) rfl (tokout_nil HB.out (Below.refl _ _))
        · have HB := keep (tokens_byte (k := k) (by rw [HSL.out]; exact h256) (by rw [HSL.out]; exact hks) HP.out (show plainB (s[k]'hks) = false by unfold plainB; simp; omega))
          go_wp2_with fail
          exact bodyPost_ret (v := .tuple #[.slice none 0 0, .int .i64 (k : Int), .int .i64 4]) (by simp [results, Tryz.results18, go_sem]) rfl (tokout_nil HB.out (Below.refl _ _))
        · have HB := keep (show ∀ b ∈ s.data.toList.take (k + 1), plainB b = true by
            intro b hb
            rw [List.take_succ_eq_append_getElem (by rw [HSL.out]; exact hks)] at hb
            rcases List.mem_append.1 hb with hb | hb
            · exact HP.out b hb
            · simp at hb
              subst hb
              show plainB (s[k]'hks) = true
              unfold plainB
              simp; omega)
          go_wp2_with fail
          go_roundw
          case rel => exact ⟨k + 1, by omega, by go_num, HB, by first | trivial | rfl⟩
          case measure => simp [intOf]; omega
      · obtain rfl : k = s.size := by omega
        have hpl : ∀ b ∈ s.data.toList, plainB b = true := fun b hb => HP.out b (by rw [← HSL.out, List.take_length]; exact hb)
        have HTP := keep (tokens_plain (L := s.data.toList) (by rw [HSL.out]; exact h256) hpl)
        clear HP hpl hk
        go_wp2_with fail
        go_loopg [6, 7] s.size (fun gf lv iv wr => ∃ (k : Nat) (l : List Tk), k ≤ s.size ∧ gf = s.size - k ∧ iv = .int .i64 (k : Int) ∧ l.length ≤ k ∧ Keep (Tks s.data.toList k l) ∧ Hid (OkRow w [] 43 8 lv l.length (tkCells l) wr))
        case atStart => exact ⟨0, [], Nat.zero_le _, by omega, rfl, Nat.zero_le _, keep (Tks.start _), Lib.hid (OkRow.start (Ok.start w) _ _)⟩
        case round =>
          obtain ⟨k, l, hk, hgk, rfl, hlk, HT, HR⟩ := hrel
          obtain ⟨wp, rfl⟩ : ∃ wp : World, wp = wr := ⟨_, rfl⟩
          subst hgk
          obtain ⟨lv, rfl⟩ : ∃ lv : Value, lv = u6 := ⟨_, rfl⟩
          by_cases hlt : (k : Int) < s.size
          · have hks : k < s.size := by omega
            have hkl : k < s.data.toList.length := by rw [HSL.out]; exact hks
            have HKL := keep hkl
            clear hkl
            by_cases h32 : ((s[k]'hks).toNat : Int) = 32
            · have hb32 : (((s[k]'hks).toNat : Int) == 32) = true := by rw [h32]; rfl
              have HB := keep (show s.data.toList[k]'HKL.out = 32 by show s[k]'hks = 32; rw [← UInt8.toNat_inj]; show _ = 32; omega)
              clear h32
              go_wp2_with fail
              go_roundg (s.size - (k + 1))
              case rel => exact ⟨k + 1, l, by omega, rfl, by go_num, by omega, keep (Tks.blank HT.out HKL.out HB.out), HR⟩
              case measure => omega
            · have hb32 : (((s[k]'hks).toNat : Int) == 32) = false := by simpa using h32
              have HB := keep (show s.data.toList[k]'HKL.out ≠ 32 by show s[k]'hks ≠ 32; intro e; rw [e] at h32; exact h32 rfl)
              clear h32
              go_wp2_with fail
              clear hb32
              refine (ref7_token s k _ h256 hks).mono ?_
              rintro e w5 ⟨⟨⟨tk, tn, tt, ⟨t1, t2, t3, t4⟩, ta⟩, n, rfl, hres⟩, hb5⟩
              have HR5 := Lib.hid (HR.out.below hb5)
              clear hb5 HR
              simp only [tkA]
              obtain ⟨x, hx⟩ : ∃ x, tokS k (restB s k) = x := ⟨_, rfl⟩
              rw [hx] at hres ⊢
              cases x with
              | none =>
                clear hres
                have hbad := HTP.out
                rw [Tks.bad HT.out HKL.out HB.out hx] at hbad
                have HBAD := keep (show tokensS s.data.toList = ([], (k : Int), 4) from hbad)
                clear hbad hx
                simp only [Option.isSome_none]
                go_wp2_with fail
                exact bodyPost_ret (v := .tuple #[.slice none 0 0, .int .i64 (k : Int), .int .i64 4]) (by simp [results, Tryz.results18, go_sem]) rfl (tokout_nil HBAD.out (HR5.out.ok.bel.alloc HR5.out.ok.bel.size _))
              | some q =>
                obtain ⟨t, m⟩ := q
                obtain ⟨rfl, rfl⟩ := hres _ rfl
                clear hres
                have htk : tokS k (s.data.toList.drop k) = some (⟨tk, tn, tt, ⟨t1, t2, t3, t4⟩, ta⟩, m) := hx
                have hle := tok_le htk
                have HTK := keep (Tks.tok HT.out HKL.out HB.out htk)
                obtain ⟨hn1, hn2⟩ := hle
                rw [List.length_drop, HSL.out] at hn2
                have hn4 : k + m ≤ s.size := by omega
                have HTR := keep (tkCells_snoc l ⟨tk, tn, tt, ⟨t1, t2, t3, t4⟩, ta⟩)
                clear htk hn2 hx
                simp only [Option.isSome_some]
                go_wp2_with (at_builtin; refine wpList_append_lies _ rfl _ _ _ rfl w.heap.size 43 i0 _ 8 72 Tryz.underlying38 hi hz0 hz1 hz2 rfl (by omega) _ _ _ rfl ((HR5.out.own.alloc _).alloc _) ⟨w5.heap.size + 1, 0, none⟩ 1 1 (tkRow ⟨tk, tn, tt, ⟨t1, t2, t3, t4⟩, ta⟩) rfl rfl (World.news_of_block (cs := (tkRow ⟨tk, tn, tt, ⟨t1, t2, t3, t4⟩, ta⟩).toArray) (t := 43) (fr := (0, 0)) (by rw [show w5.heap.size + 1 = (w5.alloc (.cells (tkRow ⟨tk, tn, tt, ⟨t1, t2, t3, t4⟩, ta⟩).toArray 43)).heap.size by simp]; exact heap_alloc_new _ _)) (by intro u hu; simp [tkRow] at hu; rcases hu with rfl | rfl | rfl | rfl | rfl | rfl | rfl | rfl <;> rfl) (by omega) (by unfold maxLen; omega) (by omega) (by have := HR5.out.ok.bel.size; simp; omega) _ rfl ?_; intro g cap w3 hown3 hgrow3 hat3 hlt3)
                go_roundg (s.size - (k + m))
                case rel => exact ⟨k + m, l ++ [⟨tk, tn, tt, ⟨t1, t2, t3, t4⟩, ta⟩], hn4, rfl, by go_num, by simp; omega, HTK, by rw [HTR.out, List.length_append]; exact Lib.hid (((HR5.out.alloc_obj _).alloc_obj _).appended hown3 hgrow3 hat3)⟩
                case measure => omega
          · obtain rfl : k = s.size := by omega
            have hok := HTP.out
            have hT := HT.out
            rw [← HSL.out] at hT
            rw [Tks.done hT] at hok
            have HOK := keep (show tokensS s.data.toList = (l, 0, 0) from hok)
            clear hok hT
            go_wp2_with fail
            exact bodyPost_ret (v := .tuple #[lv, .int .i64 0, .int .i64 0]) (by simp [results, Tryz.results18, go_sem]) rfl ⟨lv, by rw [HOK.out], by rw [HOK.out]; exact HR.out.own, HR.out.ok.bel⟩
end Go.Proofs.YtlngjiibbcgkmaaGreatDoor
