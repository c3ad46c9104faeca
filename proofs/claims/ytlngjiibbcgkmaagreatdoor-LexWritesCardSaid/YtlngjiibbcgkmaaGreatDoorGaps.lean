/- LexGaps: the walk. -/
import Derived.Test.YtlngjiibbcgkmaaGreatDoorAwk7
namespace Go.Proofs.YtlngjiibbcgkmaaGreatDoor
open Go.RowKit

theorem cut_len (s : ByteArray) (n : Nat) : (s.extract 0 (min (s.size : Int) (n : Int)).toNat).size ≤ n := by
  rw [ByteArray.size_extract]
  omega
theorem env7_of {W : World} {l : List (String × DataW Unit)} (h : laidMetH Tryz.prog l W) (hS : W.ShapedOpen Tryz.prog)
    (hl : l.filter (fun x => x.1 == "louvre/val.words") = [("louvre/val.words", Rows.laid_louvre_val_words)])
    (hp : l.filter (fun x => x.1 == "internal/strconv.uint64pow10") = [("internal/strconv.uint64pow10", Rows.laid_internal_strconv_uint64pow10)]) : WEnv W :=
  ⟨words_of h hl hS, pow_of_laid h hp, Tryz.laysM143.s1_3 W hS⟩
theorem TksAt.take {w : World} {a : Option Addr} {c : Nat} {ts : List (Tk × Int)} (h : TksAt w a c ts) (i : Nat) : TksAt w a c (ts.take i) := by
  refine ⟨Nat.le_trans (by rw [List.length_take]; omega) h.le, h.cap, fun hl => ?_⟩
  have hl2 : ts ≠ [] := by rintro rfl; exact hl (by simp)
  obtain ⟨b, o, e, h1, h2⟩ := h.at_ hl2
  refine ⟨b, o, e, h1, fun j t hj => h2 j t ?_⟩
  rw [List.getElem?_take] at hj
  split at hj
  · exact hj
  · cases hj
theorem pair_take (l : List Tk) (i : Nat) : pairL (l.take i) = (pairL l).take i := List.map_take
theorem pair_len (l : List Tk) : (pairL l).length = l.length := List.length_map _
/-- the cells of a token that are read: its kind, its place -/
theorem TksAt.cell {w : World} {a : Option Addr} {c : Nat} {ts : List Tk} (h : TksAt w a c (pairL ts)) {i : Nat} {t : Tk} (ht : ts[i]? = some t) :
    ∃ b o, a = some ⟨b, o, none⟩ ∧ b < w.heap.size ∧ w.cell? ⟨b, o + i * 8, none⟩ = some (.int .u8 t.kind) ∧ w.cell? ⟨b, o + i * 8 + 7, none⟩ = some (.int .i64 t.at_) := by
  have h1 : (pairL ts)[i]? = some (t, (t.at_ : Int)) := by unfold pairL; rw [List.getElem?_map, ht]; rfl
  obtain ⟨b, o, e, h2, h3⟩ := h.at_ (by intro e; rw [e] at h1; simp at h1)
  have h4 := h3 i _ h1
  exact ⟨b, o, e, h2, by simpa using h4 0 _ rfl, by simpa [Nat.add_assoc] using h4 7 _ rfl⟩

set_option maxRecDepth 100000 in
set_option maxHeartbeats 8000000 in
theorem LexGaps_walk (s : ByteArray) (w : World) (_hs : s.size ≤ maxLen) (hL : laidMetH Tryz.prog Rows.lexGapsRow.laid w) (hS : w.ShapedOpen Tryz.prog) :
    Calls Tryz.prog 10 #[.string s] w fun e w' => e = .returned (.bool true) ∧ Below w.heap.size w w' := by
  have HE := keep (env7_of hL hS (by kernel_rfl) (by kernel_rfl))
  clear hL hS
  go_enter Tryz.func10, Tryz.ntmps10
  go_wp2_with fail
  have hS := cut_len s 250
  rw [show (((250 : Nat) : Int)) = 250 from rfl] at hS
  generalize s.extract 0 (min (s.size : Int) 250).toNat = S at hS ⊢
  refine (lex_Tokens S w (by omega) HE.out.1).mono ?_
  rintro e w1 ⟨v, rfl, hown, hb⟩
  have hls : S.data.toList.length = S.size := Array.length_toList
  have HLS := keep hls
  obtain ⟨a1, c1, rfl, hat⟩ := tks_own hown
  generalize hT : tokensS S.data.toList = T at hat ⊢
  obtain ⟨ts, at_, er⟩ := T
  have hat : TksAt w1 a1 c1 (pairL ts) := hat
  simp only [] at ⊢
  have HT := keep hT
  have HA := keep hat
  have HW1 := Lib.hid hb
  clear hT hat hb hown hls
  by_cases her : er = 0
  · subst her
    have hlen : ts.length ≤ 256 := by
      obtain ⟨-, h1, -, h3⟩ := toks_parts HT.out
      exact Nat.le_trans h3.count h1
    obtain ⟨tl, htl⟩ : ∃ tl, ts.length = tl := ⟨_, rfl⟩
    have HTL := keep htl
    rw [htl] at hlen ⊢
    clear htl
    go_wp2_with fail
    go_loopw [6, 7] (fun la iv wr => ∃ (i : Nat) (L : Int), i ≤ tl ∧ la = .int .i64 L ∧ iv = .int .i64 (i : Int) ∧ Keep (∀ t, ts[i]? = some t → L < t.at_) ∧ Hid (Below w.heap.size w wr) ∧ Hid (Below w1.heap.size w1 wr)) (fun _ iv _ => tl - (intOf iv).toNat)
    case atStart => exact ⟨0, -1, Nat.zero_le _, rfl, rfl, keep (fun t _ => by omega), HW1, Below.refl _ _⟩
    case round =>
      obtain ⟨i, L, hi, rfl, rfl, HQ, HW, HV⟩ := hrel
      obtain ⟨wp, rfl⟩ : ∃ wp : World, wp = wr := ⟨_, rfl⟩
      by_cases hlt : (i : Int) < tl
      · have hil : i < ts.length := by rw [HTL.out]; omega
        obtain ⟨t, ht⟩ : ∃ t, ts[i]? = some t := ⟨_, List.getElem?_eq_getElem hil⟩
        have HT9 := keep ht
        have HLT := keep (HQ.out t ht)
        obtain ⟨hp1, hp2, hp3⟩ := gaps_law HT.out i t ht
        obtain ⟨b, o, rfl, hb0, hc0, hc7⟩ := HA.out.cell ht
        have c7 := (HV.out.cell hb0).trans hc7
        have hbw : b < wp.heap.size := Nat.lt_of_lt_of_le hb0 HV.out.size
        obtain ⟨p, hp⟩ : ∃ p, t.at_ = p := ⟨_, rfl⟩
        have HP := keep hp
        rw [hp] at hp1 hp2 hp3 c7
        have HG := keep hp3
        have HNX := keep (show ∀ u, ts[i + 1]? = some u → (p : Int) < u.at_ from fun u hu => by have h8 := gaps_next HT.out i t u ht hu; rw [hp] at h8; omega)
        rw [HLS.out] at hp1
        have hlp : L < p := by have := HLT.out; rw [hp] at this; exact this
        obtain ⟨cc, hcc⟩ : ∃ cc : Nat, (S[p]'hp1).toNat = cc := ⟨_, rfl⟩
        have hix : ∀ h, ((S[p]'h).toNat : Int) = (cc : Int) := fun _ => by rw [← hcc]
        have hc32 : ((cc : Int) == 32) = false := by
          rw [beq_eq_false_iff_ne]
          intro e
          apply hp2
          rw [List.getElem?_eq_getElem (by rw [HLS.out]; exact hp1)]
          congr 1
          show S[p]'hp1 = 32
          rw [← UInt8.toNat_inj, hcc]
          show cc = 32
          omega
        have hn1 : ¬ (p : Int) ≤ L := by omega
        have hn2 : ¬ (p : Int) ≥ (S.size : Int) := by omega
        have hdat : (S.extract 0 p).data.toList = S.data.toList.take p := by rw [Lib.extract_data]; simp
        have hsz2 : (S.extract 0 p).size = p := by simp only [ByteArray.size_extract]; omega
        have HDT := keep hdat
        have HS2 := keep hsz2
        have HCAP := keep HA.out.le
        have hic : (i : Int) ≤ (c1 : Int) := by have := HCAP.out; rw [pair_len, HTL.out] at this; omega
        have hi1 : IntKind.i64.wrap ((i : Int) - 1) = (i : Int) - 1 := Go.IntWalk.i64_in _ (by omega)
        clear hdat hsz2 hcc hp2 hp3 hp ht hc0 hc7 hil
        by_cases hi0 : (i : Int) > 0
        · obtain ⟨u, hu⟩ : ∃ u, ts[i - 1]? = some u := ⟨_, List.getElem?_eq_getElem (by rw [HTL.out]; omega)⟩
          have hnm := named_take hu
          rw [show i - 1 + 1 = i by omega] at hnm
          obtain ⟨b9, o9, he9, _, hd0, _⟩ := HA.out.cell hu
          simp only [Option.some.injEq, Addr.mk.injEq, and_true] at he9
          obtain ⟨rfl, rfl⟩ := he9
          have d0 := (HV.out.cell hb0).trans hd0
          have hi2 : ((i : Int) - 1).toNat = i - 1 := by omega
          have hi3 : (i : Int) - 1 < (tl : Int) := by omega
          have hi4 : (0 : Int) ≤ (i : Int) - 1 := by omega
          obtain ⟨uk, huk⟩ : ∃ uk, u.kind = uk := ⟨_, rfl⟩
          rw [huk] at hnm d0
          clear hu hd0 huk
          by_cases hk7 : uk = 7
          · subst hk7
            clear hnm
            go_wp2_with fail
            refine (lex_Tokens (S.extract 0 p) wp (by rw [HS2.out]; omega) (HE.out.1.below HW.out)).mono ?_
            rintro e w4 ⟨v4, rfl, -, hb4⟩
            have HW4 := Lib.hid (HW.out.trans (hb4.mono HW.out.size))
            have HV4 := Lib.hid (HV.out.trans (hb4.mono HV.out.size))
            generalize tokensS (S.extract 0 p).data.toList = T4
            obtain ⟨t4, p4, e4⟩ := T4
            have d0' := cell_step hb4 d0
            have hbw4 : b < w4.heap.size := Nat.lt_of_lt_of_le hbw hb4.size
            clear hb4 HW HV c7 d0 hbw
            simp only []
            go_wp2_with fail
            go_roundw
            case rel => exact ⟨i + 1, p, by omega, by first | rfl | go_num, by go_num, HNX, HW4, HV4⟩
            case measure => simp [intOf]; omega
          · have hk7b : ((uk : Int) == 7) = false := by simp; omega
            have hnm2 : named (ts.take i) = false := by rw [hnm]; simpa using hk7
            have HN := keep (HG.out hnm2)
            clear hnm hnm2 hk7
            go_wp2_with fail
            refine (lex_Tokens (S.extract 0 p) wp (by rw [HS2.out]; omega) (HE.out.1.below HW.out)).mono ?_
            rintro e w4 ⟨v4, rfl, hown, hb4⟩
            rw [HDT.out, HN.out] at hown ⊢
            obtain ⟨a4, c4, rfl, hat⟩ := tks_own hown
            have HA4 := keep (show TksAt w4 a4 c4 (pairL (ts.take i)) from hat)
            have HA5 := keep (show TksAt w4 (some ⟨b, o, none⟩) c1 (pairL (ts.take i)) from by rw [pair_take]; exact ((HA.out.below HV.out).take i).below hb4)
            have HW4 := Lib.hid (HW.out.trans (hb4.mono HW.out.size))
            have HV4 := Lib.hid (HV.out.trans (hb4.mono HV.out.size))
            have d0' := cell_step hb4 d0
            have hbw4 : b < w4.heap.size := Nat.lt_of_lt_of_le hbw hb4.size
            have hli : (ts.take i).length = i := by rw [List.length_take, HTL.out]; omega
            have hq := equal_tokens (pairL (ts.take i)) a4 (some ⟨b, o, none⟩) c4 c1 w4 HA4.out HA5.out (by rw [pair_len, hli]; omega)
            rw [pair_len, hli] at hq
            have HEQ := keep hq
            clear hq
            rw [hli]
            clear hb4 HW HV c7 d0 hbw hown hat hli
            simp only []
            go_wp2_with fail
            refine HEQ.out.mono ?_
            rintro e w5 ⟨rfl, hb5⟩
            have HW5 := Lib.hid (HW4.out.trans (hb5.mono HW4.out.size))
            have HV5 := Lib.hid (HV4.out.trans (hb5.mono HV4.out.size))
            clear hb5 HW4 HV4
            go_wp2_with fail
            go_roundw
            case rel => exact ⟨i + 1, p, by omega, by first | rfl | go_num, by go_num, HNX, HW5, HV5⟩
            case measure => simp [intOf]; omega
        · have hnm2 : named (ts.take i) = false := by rw [show i = 0 by omega]; rfl
          have HN := keep (HG.out hnm2)
          clear hnm2
          go_wp2_with fail
          refine (lex_Tokens (S.extract 0 p) wp (by rw [HS2.out]; omega) (HE.out.1.below HW.out)).mono ?_
          rintro e w4 ⟨v4, rfl, hown, hb4⟩
          rw [HDT.out, HN.out] at hown ⊢
          obtain ⟨a4, c4, rfl, hat⟩ := tks_own hown
          have HA4 := keep (show TksAt w4 a4 c4 (pairL (ts.take i)) from hat)
          have HA5 := keep (show TksAt w4 (some ⟨b, o, none⟩) c1 (pairL (ts.take i)) from by rw [pair_take]; exact ((HA.out.below HV.out).take i).below hb4)
          have HW4 := Lib.hid (HW.out.trans (hb4.mono HW.out.size))
          have HV4 := Lib.hid (HV.out.trans (hb4.mono HV.out.size))
          have hli : (ts.take i).length = i := by rw [List.length_take, HTL.out]; omega
          have hq := equal_tokens (pairL (ts.take i)) a4 (some ⟨b, o, none⟩) c4 c1 w4 HA4.out HA5.out (by rw [pair_len, hli]; omega)
          rw [pair_len, hli] at hq
          have HEQ := keep hq
          clear hq
          rw [hli]
          clear hb4 HW HV c7 hbw hown hat hli
          simp only []
          go_wp2_with fail
          refine HEQ.out.mono ?_
          rintro e w5 ⟨rfl, hb5⟩
          have HW5 := Lib.hid (HW4.out.trans (hb5.mono HW4.out.size))
          have HV5 := Lib.hid (HV4.out.trans (hb5.mono HV4.out.size))
          clear hb5 HW4 HV4
          go_wp2_with fail
          go_roundw
          case rel => exact ⟨i + 1, p, by omega, by first | rfl | go_num, by go_num, HNX, HW5, HV5⟩
          case measure => simp [intOf]; omega
      · obtain rfl : i = tl := by omega
        go_wp2_with fail
        refine (law_awake7 wp (HE.out.below HW.out)).mono ?_
        rintro e w4 ⟨rfl, hb⟩
        have HW4 := Lib.hid (HW.out.trans (hb.mono HW.out.size))
        clear hb
        go_wp2_with fail
        go_ret
        exact ⟨rfl, HW4.out⟩
  · obtain ⟨rfl, hf1, hf2⟩ := tokens_fault HT.out her
    rw [HLS.out] at hf2
    have heb : (er != 0) = true := by simpa using her
    go_wp2_with fail
    refine (law_awake7 w1 (HE.out.below HW1.out)).mono ?_
    rintro e w2 ⟨rfl, hb⟩
    have HW2 := Lib.hid (HW1.out.trans (hb.mono HW1.out.size))
    clear hb
    go_wp2_with fail
    go_ret
    exact ⟨rfl, HW2.out⟩
end Go.Proofs.YtlngjiibbcgkmaaGreatDoor
