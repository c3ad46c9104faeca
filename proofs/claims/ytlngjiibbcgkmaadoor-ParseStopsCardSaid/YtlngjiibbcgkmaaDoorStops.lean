/- ParseStops: the walk. -/
import Derived.Test.YtlngjiibbcgkmaaDoorTrees
namespace Go.Proofs.YtlngjiibbcgkmaaDoor
open Go.RowKit

set_option maxRecDepth 100000 in
set_option maxHeartbeats 4000000 in
theorem ParseStops_walk (s : ByteArray) (w : World) (_hs : s.size ≤ maxLen) (hL : laidMetH Tryd.prog Rows.parseStopsRow.laid w) (hS : w.ShapedOpen Tryd.prog) :
    Calls Tryd.prog 6 #[.string s] w fun e w' => e = .returned (.bool true) ∧ Below w.heap.size w w' := by
  have HW := keep (words_of hL (by kernel_rfl) hS)
  clear hL hS
  go_enter Tryd.func6, Tryd.ntmps6
  go_wp2_with fail
  have hS := cut_size s 250
  rw [show (((250 : Nat) : Int)) = 250 from rfl] at hS
  generalize s.extract 0 (min (s.size : Int) 250).toNat = S at hS ⊢
  refine (parse_Formula S w (by omega) HW.out).mono ?_
  rintro e w1 ⟨fv, rfl, hown, hb⟩
  have HC := keep (form_cases S.data.toList)
  have hls : S.data.toList.length = S.size := Array.length_toList
  have HLS := keep hls
  generalize hF : formS S.data.toList = F at HC hown ⊢
  obtain ⟨ns, at_, er⟩ := F
  simp only [] at hown HC ⊢
  have H1 := Lib.hid ((Ok.start w).below hb)
  clear hF hb hown hls
  rcases HC.out with ⟨a, e, h1, he, _, _⟩ | ⟨ts, ms, n, h1, htk, hp, hc⟩
  · obtain ⟨rfl, rfl, rfl⟩ : ns = [] ∧ at_ = a ∧ er = e := by simpa using h1
    have heb : (er != 0) = true := by simpa using he
    clear HC h1 he
    go_wp2_with fail
    refine (law_awake9 w1 (HW.out.below H1.out.bel)).mono ?_
    rintro e w2 ⟨rfl, hb⟩
    have HB := Lib.hid (below_step H1.out.bel hb)
    clear hb
    go_wp2_with fail
    go_ret
    exact ⟨rfl, HB.out⟩
  · obtain ⟨rfl, rfl, rfl⟩ : ns = ms ∧ at_ = 0 ∧ er = 0 := by simpa using h1
    have HTK := keep htk
    have HPK := keep hp
    have HCK := keep hc
    have hsz : ts.length ≤ 256 := by
      obtain ⟨_, h256, _, hlex⟩ := tokens_ok htk
      exact Nat.le_trans hlex.len h256
    have HGA := keep (show ∀ (i : Nat) (t : Tk), ts[i]? = some t → t.at_ < S.size from fun i t ht => by
      obtain ⟨_, _, _, hlex⟩ := tokens_ok htk
      have := (gaps_at hlex i t ht).1
      rwa [HLS.out] at this)
    clear h1 htk hp hc HC
    go_wp2_with fail
    refine (lex_Tokens S w1 (by omega) (HW.out.below H1.out.bel)).mono ?_
    rintro e w2 ⟨tv, rfl, hown, hb⟩
    rw [HTK.out] at hown ⊢
    simp only [] at hown ⊢
    have H2 := Lib.hid (OkRow.of_new H1.out hb hown).pers
    obtain ⟨ta, tc, rfl⟩ := own_len hown
    clear hb hown
    obtain ⟨tl, htl⟩ : ∃ tl, ts.length = tl := ⟨_, rfl⟩
    have HTL := keep htl
    rw [htl] at hsz H2 ⊢
    clear htl
    go_wp2_with fail
    go_loopw [9] (fun iv wr => ∃ i : Nat, i ≤ tl ∧ iv = .int .i64 (i : Int) ∧ Hid (Ok w [kRow w.heap.size 37 8 (.slice ta tl tc) tl (tkCells ts)] wr)) (fun iv _ => tl - (intOf iv).toNat)
    case atStart => exact ⟨0, Nat.zero_le _, rfl, H2⟩
    case round =>
      obtain ⟨i, hi, rfl, HR⟩ := hrel
      obtain ⟨wp, rfl⟩ : ∃ wp : World, wp = wr := ⟨_, rfl⟩
      by_cases hlt : (i : Int) < tl
      · have hil : i < ts.length := by rw [HTL.out]; omega
        obtain ⟨t, ht⟩ : ∃ t, ts[i]? = some t := ⟨_, List.getElem?_eq_getElem hil⟩
        have hrow := (rows_tok (l := ts) (by have h9 := HR.out.get (kRow w.heap.size 37 8 (.slice ta tl tc) tl (tkCells ts)) (by simp); rw [← HTL.out] at h9; exact h9)).2
        obtain ⟨b, o, rfl, hb, hc0, hc7⟩ := tok_cell hrow ht
        obtain ⟨p, hp⟩ : ∃ p, t.at_ = p := ⟨_, rfl⟩
        have hpS : p < S.size := by rw [← hp]; exact HGA.out i t ht
        rw [hp] at hc7
        have HP := keep hp
        by_cases hprev : i = 0 ∨ ∃ u, ts[i - 1]? = some u ∧ u.kind ≠ 7
        · have HST := keep (stops_plain HTK.out HPK.out HCK.out ht hprev)
          rw [hp] at HST
          have hdat : (S.extract 0 p).data.toList = S.data.toList.take p := by rw [Lib.extract_data]; simp
          have hlen : (S.data.toList.take p).length = p := by rw [List.length_take, HLS.out]; omega
          have hsz2 : (S.extract 0 p).size = p := by simp only [ByteArray.size_extract]; omega
          rw [hlen] at HST
          have HDT := keep hdat
          have HS2 := keep hsz2
          clear hdat hlen hsz2
          have hat1 : ¬ (p : Int) < 0 := by omega
          have hat2 : ¬ (p : Int) > (S.size : Int) := by omega
          rcases hprev with hi0 | ⟨u, hu, hk7⟩
          · subst hi0
            have hi0i : ¬ ((0 : Nat) : Int) > 0 := by omega
            have hbw : b < wp.heap.size := hb
            rw [Nat.zero_mul, Nat.add_zero] at hc0 hc7
            clear hp ht hil hrow
            go_wp2_with fail
            refine (parse_Formula (S.extract 0 p) wp (by rw [HS2.out]; omega) (HW.out.below HR.out.bel)).mono ?_
            rintro e w4 ⟨gv, rfl, hown, hb4⟩
            rw [HDT.out]
            have HR4 := Lib.hid (HR.out.below hb4)
            clear hown hb4 HR hb hc0 hc7 hbw
            rcases HST.out with ⟨ms2, h9⟩ | h9
            · rw [h9]
              clear h9
              simp only []
              go_wp2_with fail
              go_roundw
              case rel => first | exact ⟨i + 1, by omega, by go_num, HR4⟩ | exact ⟨1, by omega, by go_num, HR4⟩
              case measure => simp [intOf]; omega
            · rw [h9]
              clear h9
              simp only []
              have hps : ((p : Int) != ((S.extract 0 p).size : Int)) = false := by rw [HS2.out]; simp
              go_wp2_with fail
              go_roundw
              case rel => first | exact ⟨i + 1, by omega, by go_num, HR4⟩ | exact ⟨1, by omega, by go_num, HR4⟩
              case measure => simp [intOf]; omega
          · by_cases hi0 : (i : Int) > 0
            · obtain ⟨b9, o9, he9, _, hd0, _⟩ := tok_cell hrow hu
              simp only [Option.some.injEq, Addr.mk.injEq, and_true] at he9
              obtain ⟨rfl, rfl⟩ := he9
              have hk7b : ((u.kind : Int) == 7) = false := by simp; omega
              generalize u.kind = uk at hd0 hk7b hk7
              have hi1 : IntKind.i64.wrap ((i : Int) - 1) = (i : Int) - 1 := Go.IntWalk.i64_in _ (by omega)
              have hi2 : ((i : Int) - 1).toNat = i - 1 := by omega
              have hi3 : (i : Int) - 1 < (tl : Int) := by omega
              have hi4 : (0 : Int) ≤ (i : Int) - 1 := by omega
              clear hp ht hil hrow hu hk7
              go_wp2_with fail
              refine (parse_Formula (S.extract 0 p) wp (by rw [HS2.out]; omega) (HW.out.below HR.out.bel)).mono ?_
              rintro e w4 ⟨gv, rfl, hown, hb4⟩
              rw [HDT.out]
              have HR4 := Lib.hid (HR.out.below hb4)
              clear hown hb4 HR hb hc0 hc7 hd0
              rcases HST.out with ⟨ms2, h9⟩ | h9
              · rw [h9]
                clear h9
                simp only []
                go_wp2_with fail
                go_roundw
                case rel => first | exact ⟨i + 1, by omega, by go_num, HR4⟩ | exact ⟨1, by omega, by go_num, HR4⟩
                case measure => simp [intOf]; omega
              · rw [h9]
                clear h9
                simp only []
                have hps : ((p : Int) != ((S.extract 0 p).size : Int)) = false := by rw [HS2.out]; simp
                go_wp2_with fail
                go_roundw
                case rel => first | exact ⟨i + 1, by omega, by go_num, HR4⟩ | exact ⟨1, by omega, by go_num, HR4⟩
                case measure => simp [intOf]; omega
            · clear hp ht hil hrow hu hk7
              go_wp2_with fail
              refine (parse_Formula (S.extract 0 p) wp (by rw [HS2.out]; omega) (HW.out.below HR.out.bel)).mono ?_
              rintro e w4 ⟨gv, rfl, hown, hb4⟩
              rw [HDT.out]
              have HR4 := Lib.hid (HR.out.below hb4)
              clear hown hb4 HR hb hc0 hc7
              rcases HST.out with ⟨ms2, h9⟩ | h9
              · rw [h9]
                clear h9
                simp only []
                go_wp2_with fail
                go_roundw
                case rel => first | exact ⟨i + 1, by omega, by go_num, HR4⟩ | exact ⟨1, by omega, by go_num, HR4⟩
                case measure => simp [intOf]; omega
              · rw [h9]
                clear h9
                simp only []
                have hps : ((p : Int) != ((S.extract 0 p).size : Int)) = false := by rw [HS2.out]; simp
                go_wp2_with fail
                go_roundw
                case rel => first | exact ⟨i + 1, by omega, by go_num, HR4⟩ | exact ⟨1, by omega, by go_num, HR4⟩
                case measure => simp [intOf]; omega
        · have hi0 : (i : Int) > 0 := by
            rcases Nat.eq_zero_or_pos i with h | h
            · exact absurd (.inl h) hprev
            · omega
          obtain ⟨u, hu⟩ : ∃ u, ts[i - 1]? = some u := ⟨_, List.getElem?_eq_getElem (by omega)⟩
          have hk7 : u.kind = 7 := Classical.byContradiction fun h => hprev (.inr ⟨u, hu, h⟩)
          obtain ⟨b9, o9, he9, _, hd0, _⟩ := tok_cell hrow hu
          simp only [Option.some.injEq, Addr.mk.injEq, and_true] at he9
          obtain ⟨rfl, rfl⟩ := he9
          rw [hk7] at hd0
          have hi1 : IntKind.i64.wrap ((i : Int) - 1) = (i : Int) - 1 := Go.IntWalk.i64_in _ (by omega)
          have hi2 : ((i : Int) - 1).toNat = i - 1 := by omega
          have hi3 : (i : Int) - 1 < (tl : Int) := by omega
          have hi4 : (0 : Int) ≤ (i : Int) - 1 := by omega
          clear hp ht hil hrow hu hk7 hprev
          go_wp2_with fail
          go_roundw
          case rel => exact ⟨i + 1, by omega, by go_num, HR⟩
          case measure => simp [intOf]; omega
      · obtain rfl : i = tl := by omega
        go_wp2_with fail
        refine (law_awake9 wp (HW.out.below HR.out.bel)).mono ?_
        rintro e w4 ⟨rfl, hb⟩
        have HB := Lib.hid (below_step HR.out.bel hb)
        clear hb
        go_wp2_with fail
        go_ret
        exact ⟨rfl, HB.out⟩
end Go.Proofs.YtlngjiibbcgkmaaDoor
