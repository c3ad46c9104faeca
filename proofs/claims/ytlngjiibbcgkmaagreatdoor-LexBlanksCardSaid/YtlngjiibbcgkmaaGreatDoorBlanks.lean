/- LexBlanks: the walk. -/
import Derived.Test.YtlngjiibbcgkmaaGreatDoorGaps
import Derived.OpenShut
namespace Go.Proofs.YtlngjiibbcgkmaaGreatDoor
open Go.RowKit

theorem ext_front (s : ByteArray) (n : Nat) : (s.extract 0 n).data.toList = s.data.toList.take n := by rw [Lib.extract_data]; simp
theorem ext_back (s : ByteArray) (n : Nat) : (s.extract n s.size).data.toList = s.data.toList.drop n := by
  have h : s.data.toList.length = s.size := Array.length_toList
  rw [Lib.extract_data, List.take_of_length_le (by rw [List.length_drop, h]; omega)]

theorem cat_data (s : ByteArray) (n : Nat) : (s.extract 0 n ++ ⟨#[32]⟩ ++ s.extract n s.size).data.toList = s.data.toList.take n ++ 32 :: s.data.toList.drop n := by
  rw [ByteArray.data_append, ByteArray.data_append, Array.toList_append, Array.toList_append, ext_front, ext_back]
  simp
theorem cat_size (s : ByteArray) (n : Nat) (h : s.size ≤ 250) : (s.extract 0 n ++ ⟨#[32]⟩ ++ s.extract n s.size).size ≤ 1000 := by
  rw [ByteArray.size_append, ByteArray.size_append, ByteArray.size_extract, ByteArray.size_extract, show (⟨#[32]⟩ : ByteArray).size = 1 from rfl]
  omega
theorem cat_all (s : ByteArray) : (s ++ ⟨#[32]⟩).data.toList = s.data.toList.take s.size ++ 32 :: s.data.toList.drop s.size := by
  have h : s.data.toList.length = s.size := Array.length_toList
  rw [ByteArray.data_append, Array.toList_append, List.take_of_length_le (by omega), List.drop_eq_nil_of_le (by omega)]
theorem cat_all_size (s : ByteArray) (h : s.size ≤ 250) : (s ++ ⟨#[32]⟩).size ≤ 1000 := by
  rw [ByteArray.size_append, show (⟨#[32]⟩ : ByteArray).size = 1 from rfl]
  omega
set_option maxRecDepth 100000 in
set_option maxHeartbeats 8000000 in
theorem LexBlanks_walk (s : ByteArray) (which : Int) (w : World) (_hs : s.size ≤ maxLen) (hwf : (Lit.int .i64 which).wf = true) (hL : laidMetH Tryz.prog Rows.lexBlanksRow.laid w) (hS : w.ShapedOpen Tryz.prog) :
    Calls Tryz.prog 9 #[.string s, .int .i64 which] w fun e w' => e = .returned (.bool true) ∧ Below w.heap.size w w' := by
  have HE := keep (env7_of hL hS (by kernel_rfl) (by kernel_rfl))
  obtain ⟨hwf1, hwf2⟩ := bounds_i64 hwf
  clear hL hS hwf
  go_enter Tryz.func9, Tryz.ntmps9
  go_wp2_with fail
  have hS := cut_len s 250
  rw [show (((250 : Nat) : Int)) = 250 from rfl] at hS
  generalize s.extract 0 (min (s.size : Int) 250).toNat = S at hS ⊢
  refine (lex_Tokens S w (by omega) HE.out.1).mono ?_
  rintro e w1 ⟨v, rfl, hown, hb⟩
  have hls : S.data.toList.length = S.size := Array.length_toList
  have HLS := keep hls
  obtain ⟨a1, c1, rfl, hat⟩ := tks_own hown
  generalize hT : tokensS S.data.toList = T at hat ⊢
  obtain ⟨ts, at_, er⟩ := T
  have hat : TksAt w1 a1 c1 (pairL ts) := hat
  simp only [] at ⊢
  have HT := keep hT
  have HA := keep hat
  have HW1 := Lib.hid hb
  clear hT hat hb hown hls
  by_cases her : er = 0
  · subst her
    have hlen : ts.length ≤ 256 := by
      obtain ⟨-, h1, -, h3⟩ := toks_parts HT.out
      exact Nat.le_trans h3.count h1
    obtain ⟨tl, htl⟩ : ∃ tl, ts.length = tl := ⟨_, rfl⟩
    have HTL := keep htl
    rw [htl] at hlen ⊢
    obtain ⟨r, hr⟩ : ∃ r : Int, which.tmod ((tl : Int) + 1) = r := ⟨_, rfl⟩
    have hr1 : -(tl : Int) ≤ r ∧ r ≤ tl := by
      have h1 := Int.tmod_lt_of_pos which (show (0 : Int) < (tl : Int) + 1 by omega)
      have h2 := Int.lt_tmod_of_pos which (show (0 : Int) < (tl : Int) + 1 by omega)
      omega
    obtain ⟨k, hk, hk2⟩ : ∃ k : Nat, (r + tl + 1).tmod ((tl : Int) + 1) = (k : Int) ∧ k ≤ tl := by
      have h1 : (r + tl + 1).tmod ((tl : Int) + 1) = (r + tl + 1) % ((tl : Int) + 1) := Int.tmod_eq_emod_of_nonneg (by omega)
      have h2 := Int.emod_nonneg (r + tl + 1) (show (tl : Int) + 1 ≠ 0 by omega)
      have h3 := Int.emod_lt_of_pos (r + tl + 1) (show (0 : Int) < (tl : Int) + 1 by omega)
      refine ⟨((r + tl + 1) % ((tl : Int) + 1)).toNat, by omega, by omega⟩
    obtain ⟨hr2, hr3⟩ := hr1
    clear htl
    -- the place
    obtain ⟨p, hp, hpS⟩ : ∃ p : Nat, ((∃ t, ts[k]? = some t ∧ p = t.at_) ∨ (k = ts.length ∧ p = S.data.toList.length)) ∧ p ≤ S.size := by
      by_cases h : k < ts.length
      · obtain ⟨t, ht⟩ : ∃ t, ts[k]? = some t := ⟨_, List.getElem?_eq_getElem h⟩
        have h1 := (gaps_law HT.out k t ht).1
        rw [HLS.out] at h1
        exact ⟨t.at_, .inl ⟨t, ht, rfl⟩, by omega⟩
      · exact ⟨S.data.toList.length, .inr ⟨by have := HTL.out; omega, rfl⟩, by rw [HLS.out]; omega⟩
    have HP := keep hp
    have hn1 : ¬ (p : Int) < 0 := by omega
    have hn2 : ¬ (p : Int) > (S.size : Int) := by omega
    have HBL := keep (show named (ts.take k) = false → ∃ m, tokensS (S.data.toList.take p ++ 32 :: S.data.toList.drop p) = (m, 0, 0) ∧ sameL ts m = true from fun hn => (blanks_law HT.out (by rw [HLS.out]; exact hS) k p HP.out hn).2)
    clear hp
    -- what the walk sees of the tokens
    by_cases hlt : (k : Int) < tl
    · have hil : k < ts.length := by rw [HTL.out]; omega
      obtain ⟨t, ht⟩ : ∃ t, ts[k]? = some t := ⟨_, List.getElem?_eq_getElem hil⟩
      have hpt : p = t.at_ := by
        rcases HP.out with ⟨u, hu, e⟩ | ⟨h, -⟩
        · rw [ht] at hu; cases hu; exact e
        · omega
      obtain ⟨b, o, rfl, hb0, -, hc7⟩ := HA.out.cell ht
      rw [← hpt] at hc7
      clear hil ht hpt
      have hk1 : IntKind.i64.wrap ((k : Int) - 1) = (k : Int) - 1 := Go.IntWalk.i64_in _ (by omega)
      by_cases hk0 : (k : Int) > 0
      · obtain ⟨u, hu⟩ : ∃ u, ts[k - 1]? = some u := ⟨_, List.getElem?_eq_getElem (by rw [HTL.out]; omega)⟩
        have hnm := named_take hu
        rw [show k - 1 + 1 = k by omega] at hnm
        obtain ⟨b9, o9, he9, _, hd0, _⟩ := HA.out.cell hu
        simp only [Option.some.injEq, Addr.mk.injEq, and_true] at he9
        obtain ⟨rfl, rfl⟩ := he9
        have hi2 : ((k : Int) - 1).toNat = k - 1 := by omega
        have hi3 : (k : Int) - 1 < (tl : Int) := by omega
        have hi4 : (0 : Int) ≤ (k : Int) - 1 := by omega
        obtain ⟨uk, huk⟩ : ∃ uk, u.kind = uk := ⟨_, rfl⟩
        rw [huk] at hnm hd0
        clear hu huk
        by_cases hk7 : uk = 7
        · subst hk7
          clear hnm
          go_wp2_with fail
          refine (law_awake7 w1 (HE.out.below HW1.out)).mono ?_
          rintro e w2 ⟨rfl, hb⟩
          have HW2 := Lib.hid (HW1.out.trans (hb.mono HW1.out.size))
          clear hb
          go_wp2_with fail
          go_ret
          exact ⟨rfl, HW2.out⟩
        · have hk7b : ((uk : Int) == 7) = false := by simp; omega
          have HN := keep (HBL.out (by rw [hnm]; simpa using hk7))
          clear hnm hk7
          have HX0 := Lib.hid (show Ok w [] w1 from ⟨HW1.out, fun _ h => absurd h (by simp)⟩)
          obtain ⟨us, hus, hsm⟩ := HN.out
          have HUS := keep hus
          have HSM := keep hsm
          clear hus hsm
          have hpc : (p : Int) ≤ (S.size : Int) := by omega
          go_wp2_with fail
          refine wp_region_held_drew (S := fun W => Ok w [] W) (by kernel_rfl) HX0.out.drew (fun hHeld => ?_)
          refine wpAnyH_take (i := 0) (v := ?vx1_0) rfl (by kernel_rfl) (by kernel_rfl) (by kernel_rfl) (fun _ _ _ h => h) (Or.inl ⟨by rfl, ?hyx1_0⟩) (by assumption) ?restx1_0
          case hyx1_0 => (intro w hSw; have F := Ok.sees hSw; clear hSw; simp only [sees] at F; go_simp; (try rw [if_neg (by omega)]); try with_reducible rfl)
          try simp only [Act.put, List.setIfInBounds_toArray, List.set_cons_zero, List.set_cons_succ, List.getElem_toArray, List.getElem_cons_zero]
          refine wpAnyH_take (i := 1) (v := ?vx2_1) rfl (by kernel_rfl) (by kernel_rfl) (by kernel_rfl) (fun _ _ _ h => h) (Or.inl ⟨by rfl, ?hyx2_1⟩) (by assumption) ?restx2_1
          case hyx2_1 => (intro w hSw; have F := Ok.sees hSw; clear hSw; simp only [sees] at F; go_simp; (try rw [if_neg (by omega)]); try with_reducible rfl)
          try simp only [Act.put, List.setIfInBounds_toArray, List.set_cons_zero, List.set_cons_succ, List.getElem_toArray, List.getElem_cons_succ, List.getElem_cons_zero]
          refine wpAnyH_take (i := 2) (v := ?vx3_2) rfl (by kernel_rfl) (by kernel_rfl) (by kernel_rfl) (fun _ _ _ h => h) (Or.inl ⟨by rfl, ?hyx3_2⟩) (by assumption) ?restx3_2
          case hyx3_2 => (intro w hSw; have F := Ok.sees hSw; clear hSw; simp only [sees] at F; go_simp; (try rw [if_neg (by omega)]); try with_reducible rfl)
          try simp only [Act.put, List.setIfInBounds_toArray, List.set_cons_zero, List.set_cons_succ, List.getElem_toArray, List.getElem_cons_succ, List.getElem_cons_zero]
          refine wpAnyH_take (i := 3) (v := ?vx4_3) rfl (by kernel_rfl) (by kernel_rfl) (by kernel_rfl) (fun _ _ _ h => h) (Or.inl ⟨by rfl, ?hyx4_3⟩) (by assumption) ?restx4_3
          case hyx4_3 => (intro w hSw; have F := Ok.sees hSw; clear hSw; simp only [sees] at F; go_simp; (try rw [if_neg (by omega)]); try with_reducible rfl)
          try simp only [Act.put, List.setIfInBounds_toArray, List.set_cons_zero, List.set_cons_succ, List.getElem_toArray, List.getElem_cons_succ, List.getElem_cons_zero]
          refine wpAnyH_take (i := 4) (v := ?vx5_4) rfl (by kernel_rfl) (by kernel_rfl) (by kernel_rfl) (fun _ _ _ h => h) (Or.inl ⟨by rfl, ?hyx5_4⟩) (by assumption) ?restx5_4
          case hyx5_4 => (intro w hSw; have F := Ok.sees hSw; clear hSw; simp only [sees] at F; go_simp; (try rw [if_neg (by omega)]); try with_reducible rfl)
          try simp only [Act.put, List.setIfInBounds_toArray, List.set_cons_zero, List.set_cons_succ, List.getElem_toArray, List.getElem_cons_succ, List.getElem_cons_zero]
          refine wpAnyH_take (i := 5) (v := ?vx6_5) rfl (by kernel_rfl) (by kernel_rfl) (by kernel_rfl) (fun _ _ _ h => h) (Or.inl ⟨by rfl, ?hyx6_5⟩) (by assumption) ?restx6_5
          case hyx6_5 => (intro w hSw; have F := Ok.sees hSw; clear hSw; simp only [sees] at F; go_simp; (try rw [if_neg (by omega)]); try with_reducible rfl)
          try simp only [Act.put, List.setIfInBounds_toArray, List.set_cons_zero, List.set_cons_succ, List.getElem_toArray, List.getElem_cons_succ, List.getElem_cons_zero]
          refine wpAnyH_take (i := 6) (v := ?vx7_6) rfl (by kernel_rfl) (by kernel_rfl) (by kernel_rfl) (fun _ _ _ h => h) (Or.inl ⟨by rfl, ?hyx7_6⟩) (by assumption) ?restx7_6
          case hyx7_6 => (intro w hSw; have F := Ok.sees hSw; clear hSw; simp only [sees] at F; go_simp; (try rw [if_neg (by omega)]); try with_reducible rfl)
          try simp only [Act.put, List.setIfInBounds_toArray, List.set_cons_zero, List.set_cons_succ, List.getElem_toArray, List.getElem_cons_succ, List.getElem_cons_zero]
          refine wpAnyH_take (i := 7) (v := ?vx8_7) rfl (by kernel_rfl) (by kernel_rfl) (by kernel_rfl) (fun _ _ _ h => h) (Or.inl ⟨by rfl, ?hyx8_7⟩) (by assumption) ?restx8_7
          case hyx8_7 => (intro w hSw; have F := Ok.sees hSw; clear hSw; simp only [sees] at F; go_simp; (try rw [if_neg (by omega)]); try with_reducible rfl)
          try simp only [Act.put, List.setIfInBounds_toArray, List.set_cons_zero, List.set_cons_succ, List.getElem_toArray, List.getElem_cons_succ, List.getElem_cons_zero]
          refine wpAnyH_ready (rs := [8]) (by kernel_rfl) (by simp) ?_
          refine AllReadyH.cons rfl (fun K hK => ?_) AllReadyH.nil
          go_simp
          have hcat := cat_data S p
          have hcsz : (S.extract 0 p ++ (⟨#[32]⟩ : ByteArray) ++ S.extract p S.size).size ≤ 1000 := cat_size S p hS
          refine (lex_Tokens (S.extract 0 p ++ (⟨#[32]⟩ : ByteArray) ++ S.extract p S.size) _ (by omega) (HE.out.1.below HX0.out.bel.drew)).mono ?_
          rintro e w2 ⟨v2, rfl, hown, hb⟩
          rw [hcat, HUS.out] at hown ⊢
          obtain ⟨a2, c2, rfl, hat⟩ := tks_own hown
          have HB2 := keep (show TksAt w2 a2 c2 (pairL us) from hat)
          have HA2 := keep ((HA.out.below (Below.refl _ _).drew).below hb)
          simp only []
          have HBB := Lib.hid hb
          clear hown hat hb hcat hcsz
          go_wp2_with fail
          refine hK.out _ _ (hHeld.below HBB.out) (fun hHeld => ?_)
          clear hK K
          try simp only [Act.put, List.setIfInBounds_toArray, List.set_cons_zero, List.set_cons_succ, List.getElem_toArray, List.getElem_cons_succ, List.getElem_cons_zero]
          clear HBB
          refine wpAnyH_take (i := 9) (v := ?vx9_9) rfl (by kernel_rfl) (by kernel_rfl) (by kernel_rfl) (fun _ _ _ h => h) (Or.inl ⟨by rfl, ?hyx9_9⟩) (by assumption) ?restx9_9
          case hyx9_9 => (intro w hSw; have F := Ok.sees hSw; clear hSw; simp only [sees] at F; go_simp; (try rw [if_neg (by omega)]); try with_reducible rfl)
          try simp only [Act.put, List.setIfInBounds_toArray, List.set_cons_zero, List.set_cons_succ, List.getElem_toArray, List.getElem_cons_succ, List.getElem_cons_zero]
          refine wpAnyH_take (i := 10) (v := ?vx10_10) rfl (by kernel_rfl) (by kernel_rfl) (by kernel_rfl) (fun _ _ _ h => h) (Or.inl ⟨by rfl, ?hyx10_10⟩) (by assumption) ?restx10_10
          case hyx10_10 => (intro w hSw; have F := Ok.sees hSw; clear hSw; simp only [sees] at F; go_simp; (try rw [if_neg (by omega)]); try with_reducible rfl)
          try simp only [Act.put, List.setIfInBounds_toArray, List.set_cons_zero, List.set_cons_succ, List.getElem_toArray, List.getElem_cons_succ, List.getElem_cons_zero]
          refine wpAnyH_take (i := 11) (v := ?vx11_11) rfl (by kernel_rfl) (by kernel_rfl) (by kernel_rfl) (fun _ _ _ h => h) (Or.inl ⟨by rfl, ?hyx11_11⟩) (by assumption) ?restx11_11
          case hyx11_11 => (intro w hSw; have F := Ok.sees hSw; clear hSw; simp only [sees] at F; go_simp; (try rw [if_neg (by omega)]); try with_reducible rfl)
          try simp only [Act.put, List.setIfInBounds_toArray, List.set_cons_zero, List.set_cons_succ, List.getElem_toArray, List.getElem_cons_succ, List.getElem_cons_zero]
          refine wpAnyH_take (i := 12) (v := ?vx12_12) rfl (by kernel_rfl) (by kernel_rfl) (by kernel_rfl) (fun _ _ _ h => h) (Or.inl ⟨by rfl, ?hyx12_12⟩) (by assumption) ?restx12_12
          case hyx12_12 => (intro w hSw; have F := Ok.sees hSw; clear hSw; simp only [sees] at F; go_simp; (try rw [if_neg (by omega)]); try with_reducible rfl)
          try simp only [Act.put, List.setIfInBounds_toArray, List.set_cons_zero, List.set_cons_succ, List.getElem_toArray, List.getElem_cons_succ, List.getElem_cons_zero]
          refine wpAnyH_take (i := 13) (v := ?vx13_13) rfl (by kernel_rfl) (by kernel_rfl) (by kernel_rfl) (fun _ _ _ h => h) (Or.inl ⟨by rfl, ?hyx13_13⟩) (by assumption) ?restx13_13
          case hyx13_13 => (intro w hSw; have F := Ok.sees hSw; clear hSw; simp only [sees] at F; go_simp; (try rw [if_neg (by omega)]); try with_reducible rfl)
          try simp only [Act.put, List.setIfInBounds_toArray, List.set_cons_zero, List.set_cons_succ, List.getElem_toArray, List.getElem_cons_succ, List.getElem_cons_zero]
          refine wpAnyH_take (i := 14) (v := ?vx14_14) rfl (by kernel_rfl) (by kernel_rfl) (by kernel_rfl) (fun _ _ _ h => h) (Or.inl ⟨by rfl, ?hyx14_14⟩) (by assumption) ?restx14_14
          case hyx14_14 => (intro w hSw; have F := Ok.sees hSw; clear hSw; simp only [sees] at F; go_simp; (try rw [if_neg (by omega)]); try with_reducible rfl)
          try simp only [Act.put, List.setIfInBounds_toArray, List.set_cons_zero, List.set_cons_succ, List.getElem_toArray, List.getElem_cons_succ, List.getElem_cons_zero]
          refine wpAnyH_take (i := 15) (v := ?vx15_15) rfl (by kernel_rfl) (by kernel_rfl) (by kernel_rfl) (fun _ _ _ h => h) (Or.inl ⟨by rfl, ?hyx15_15⟩) (by assumption) ?restx15_15
          case hyx15_15 => (intro w hSw; have F := Ok.sees hSw; clear hSw; simp only [sees] at F; go_simp; (try rw [if_neg (by omega)]); try with_reducible rfl)
          try simp only [Act.put, List.setIfInBounds_toArray, List.set_cons_zero, List.set_cons_succ, List.getElem_toArray, List.getElem_cons_succ, List.getElem_cons_zero]
          refine wpAnyH_done (by kernel_rfl) ?_ _
          have HW2 := Lib.hid hHeld.bel
          clear hHeld HX0 HW1
          have hlu : us.length = tl := by rw [← sameL_len HSM.out, HTL.out]
          rw [hlu]
          have hq := law_same (pairL ts) (pairL us) _ a2 _ c2 w2 HA2.out HB2.out (by rw [pair_fst, pair_fst]; exact HSM.out) (by rw [pair_len]; have := HTL.out; omega)
          rw [pair_len, pair_len, HTL.out, hlu] at hq
          have HEQ := keep hq
          clear hq hlu
          go_wp2_with fail
          refine HEQ.out.mono ?_
          rintro e w3 ⟨rfl, hb⟩
          have HW3 := Lib.hid (HW2.out.trans (hb.mono HW2.out.size))
          clear hb HW2 HEQ
          go_wp2_with fail
          refine (law_awake7 w3 (HE.out.below HW3.out)).mono ?_
          rintro e w4 ⟨rfl, hb⟩
          have HW4 := Lib.hid (HW3.out.trans (hb.mono HW3.out.size))
          clear hb
          go_wp2_with fail
          go_ret
          exact ⟨rfl, HW4.out⟩
      · have HN := keep (HBL.out (by rw [show k = 0 by omega]; rfl))
        have HX0 := Lib.hid (show Ok w [] w1 from ⟨HW1.out, fun _ h => absurd h (by simp)⟩)
        obtain ⟨us, hus, hsm⟩ := HN.out
        have HUS := keep hus
        have HSM := keep hsm
        clear hus hsm
        have hpc : (p : Int) ≤ (S.size : Int) := by omega
        go_wp2_with fail
        refine wp_region_held_drew (S := fun W => Ok w [] W) (by kernel_rfl) HX0.out.drew (fun hHeld => ?_)
        refine wpAnyH_take (i := 0) (v := ?vx16_0) rfl (by kernel_rfl) (by kernel_rfl) (by kernel_rfl) (fun _ _ _ h => h) (Or.inl ⟨by rfl, ?hyx16_0⟩) (by assumption) ?restx16_0
        case hyx16_0 => (intro w hSw; have F := Ok.sees hSw; clear hSw; simp only [sees] at F; go_simp; (try rw [if_neg (by omega)]); try with_reducible rfl)
        try simp only [Act.put, List.setIfInBounds_toArray, List.set_cons_zero, List.set_cons_succ, List.getElem_toArray, List.getElem_cons_zero]
        refine wpAnyH_take (i := 1) (v := ?vx17_1) rfl (by kernel_rfl) (by kernel_rfl) (by kernel_rfl) (fun _ _ _ h => h) (Or.inl ⟨by rfl, ?hyx17_1⟩) (by assumption) ?restx17_1
        case hyx17_1 => (intro w hSw; have F := Ok.sees hSw; clear hSw; simp only [sees] at F; go_simp; (try rw [if_neg (by omega)]); try with_reducible rfl)
        try simp only [Act.put, List.setIfInBounds_toArray, List.set_cons_zero, List.set_cons_succ, List.getElem_toArray, List.getElem_cons_succ, List.getElem_cons_zero]
        refine wpAnyH_take (i := 2) (v := ?vx18_2) rfl (by kernel_rfl) (by kernel_rfl) (by kernel_rfl) (fun _ _ _ h => h) (Or.inl ⟨by rfl, ?hyx18_2⟩) (by assumption) ?restx18_2
        case hyx18_2 => (intro w hSw; have F := Ok.sees hSw; clear hSw; simp only [sees] at F; go_simp; (try rw [if_neg (by omega)]); try with_reducible rfl)
        try simp only [Act.put, List.setIfInBounds_toArray, List.set_cons_zero, List.set_cons_succ, List.getElem_toArray, List.getElem_cons_succ, List.getElem_cons_zero]
        refine wpAnyH_take (i := 3) (v := ?vx19_3) rfl (by kernel_rfl) (by kernel_rfl) (by kernel_rfl) (fun _ _ _ h => h) (Or.inl ⟨by rfl, ?hyx19_3⟩) (by assumption) ?restx19_3
        case hyx19_3 => (intro w hSw; have F := Ok.sees hSw; clear hSw; simp only [sees] at F; go_simp; (try rw [if_neg (by omega)]); try with_reducible rfl)
        try simp only [Act.put, List.setIfInBounds_toArray, List.set_cons_zero, List.set_cons_succ, List.getElem_toArray, List.getElem_cons_succ, List.getElem_cons_zero]
        refine wpAnyH_take (i := 4) (v := ?vx20_4) rfl (by kernel_rfl) (by kernel_rfl) (by kernel_rfl) (fun _ _ _ h => h) (Or.inl ⟨by rfl, ?hyx20_4⟩) (by assumption) ?restx20_4
        case hyx20_4 => (intro w hSw; have F := Ok.sees hSw; clear hSw; simp only [sees] at F; go_simp; (try rw [if_neg (by omega)]); try with_reducible rfl)
        try simp only [Act.put, List.setIfInBounds_toArray, List.set_cons_zero, List.set_cons_succ, List.getElem_toArray, List.getElem_cons_succ, List.getElem_cons_zero]
        refine wpAnyH_take (i := 5) (v := ?vx21_5) rfl (by kernel_rfl) (by kernel_rfl) (by kernel_rfl) (fun _ _ _ h => h) (Or.inl ⟨by rfl, ?hyx21_5⟩) (by assumption) ?restx21_5
        case hyx21_5 => (intro w hSw; have F := Ok.sees hSw; clear hSw; simp only [sees] at F; go_simp; (try rw [if_neg (by omega)]); try with_reducible rfl)
        try simp only [Act.put, List.setIfInBounds_toArray, List.set_cons_zero, List.set_cons_succ, List.getElem_toArray, List.getElem_cons_succ, List.getElem_cons_zero]
        refine wpAnyH_take (i := 6) (v := ?vx22_6) rfl (by kernel_rfl) (by kernel_rfl) (by kernel_rfl) (fun _ _ _ h => h) (Or.inl ⟨by rfl, ?hyx22_6⟩) (by assumption) ?restx22_6
        case hyx22_6 => (intro w hSw; have F := Ok.sees hSw; clear hSw; simp only [sees] at F; go_simp; (try rw [if_neg (by omega)]); try with_reducible rfl)
        try simp only [Act.put, List.setIfInBounds_toArray, List.set_cons_zero, List.set_cons_succ, List.getElem_toArray, List.getElem_cons_succ, List.getElem_cons_zero]
        refine wpAnyH_take (i := 7) (v := ?vx23_7) rfl (by kernel_rfl) (by kernel_rfl) (by kernel_rfl) (fun _ _ _ h => h) (Or.inl ⟨by rfl, ?hyx23_7⟩) (by assumption) ?restx23_7
        case hyx23_7 => (intro w hSw; have F := Ok.sees hSw; clear hSw; simp only [sees] at F; go_simp; (try rw [if_neg (by omega)]); try with_reducible rfl)
        try simp only [Act.put, List.setIfInBounds_toArray, List.set_cons_zero, List.set_cons_succ, List.getElem_toArray, List.getElem_cons_succ, List.getElem_cons_zero]
        refine wpAnyH_ready (rs := [8]) (by kernel_rfl) (by simp) ?_
        refine AllReadyH.cons rfl (fun K hK => ?_) AllReadyH.nil
        go_simp
        have hcat := cat_data S p
        have hcsz : (S.extract 0 p ++ (⟨#[32]⟩ : ByteArray) ++ S.extract p S.size).size ≤ 1000 := cat_size S p hS
        refine (lex_Tokens (S.extract 0 p ++ (⟨#[32]⟩ : ByteArray) ++ S.extract p S.size) _ (by omega) (HE.out.1.below HX0.out.bel.drew)).mono ?_
        rintro e w2 ⟨v2, rfl, hown, hb⟩
        rw [hcat, HUS.out] at hown ⊢
        obtain ⟨a2, c2, rfl, hat⟩ := tks_own hown
        have HB2 := keep (show TksAt w2 a2 c2 (pairL us) from hat)
        have HA2 := keep ((HA.out.below (Below.refl _ _).drew).below hb)
        simp only []
        have HBB := Lib.hid hb
        clear hown hat hb hcat hcsz
        go_wp2_with fail
        refine hK.out _ _ (hHeld.below HBB.out) (fun hHeld => ?_)
        clear hK K
        try simp only [Act.put, List.setIfInBounds_toArray, List.set_cons_zero, List.set_cons_succ, List.getElem_toArray, List.getElem_cons_succ, List.getElem_cons_zero]
        clear HBB
        refine wpAnyH_take (i := 9) (v := ?vx24_9) rfl (by kernel_rfl) (by kernel_rfl) (by kernel_rfl) (fun _ _ _ h => h) (Or.inl ⟨by rfl, ?hyx24_9⟩) (by assumption) ?restx24_9
        case hyx24_9 => (intro w hSw; have F := Ok.sees hSw; clear hSw; simp only [sees] at F; go_simp; (try rw [if_neg (by omega)]); try with_reducible rfl)
        try simp only [Act.put, List.setIfInBounds_toArray, List.set_cons_zero, List.set_cons_succ, List.getElem_toArray, List.getElem_cons_succ, List.getElem_cons_zero]
        refine wpAnyH_take (i := 10) (v := ?vx25_10) rfl (by kernel_rfl) (by kernel_rfl) (by kernel_rfl) (fun _ _ _ h => h) (Or.inl ⟨by rfl, ?hyx25_10⟩) (by assumption) ?restx25_10
        case hyx25_10 => (intro w hSw; have F := Ok.sees hSw; clear hSw; simp only [sees] at F; go_simp; (try rw [if_neg (by omega)]); try with_reducible rfl)
        try simp only [Act.put, List.setIfInBounds_toArray, List.set_cons_zero, List.set_cons_succ, List.getElem_toArray, List.getElem_cons_succ, List.getElem_cons_zero]
        refine wpAnyH_take (i := 11) (v := ?vx26_11) rfl (by kernel_rfl) (by kernel_rfl) (by kernel_rfl) (fun _ _ _ h => h) (Or.inl ⟨by rfl, ?hyx26_11⟩) (by assumption) ?restx26_11
        case hyx26_11 => (intro w hSw; have F := Ok.sees hSw; clear hSw; simp only [sees] at F; go_simp; (try rw [if_neg (by omega)]); try with_reducible rfl)
        try simp only [Act.put, List.setIfInBounds_toArray, List.set_cons_zero, List.set_cons_succ, List.getElem_toArray, List.getElem_cons_succ, List.getElem_cons_zero]
        refine wpAnyH_take (i := 12) (v := ?vx27_12) rfl (by kernel_rfl) (by kernel_rfl) (by kernel_rfl) (fun _ _ _ h => h) (Or.inl ⟨by rfl, ?hyx27_12⟩) (by assumption) ?restx27_12
        case hyx27_12 => (intro w hSw; have F := Ok.sees hSw; clear hSw; simp only [sees] at F; go_simp; (try rw [if_neg (by omega)]); try with_reducible rfl)
        try simp only [Act.put, List.setIfInBounds_toArray, List.set_cons_zero, List.set_cons_succ, List.getElem_toArray, List.getElem_cons_succ, List.getElem_cons_zero]
        refine wpAnyH_take (i := 13) (v := ?vx28_13) rfl (by kernel_rfl) (by kernel_rfl) (by kernel_rfl) (fun _ _ _ h => h) (Or.inl ⟨by rfl, ?hyx28_13⟩) (by assumption) ?restx28_13
        case hyx28_13 => (intro w hSw; have F := Ok.sees hSw; clear hSw; simp only [sees] at F; go_simp; (try rw [if_neg (by omega)]); try with_reducible rfl)
        try simp only [Act.put, List.setIfInBounds_toArray, List.set_cons_zero, List.set_cons_succ, List.getElem_toArray, List.getElem_cons_succ, List.getElem_cons_zero]
        refine wpAnyH_take (i := 14) (v := ?vx29_14) rfl (by kernel_rfl) (by kernel_rfl) (by kernel_rfl) (fun _ _ _ h => h) (Or.inl ⟨by rfl, ?hyx29_14⟩) (by assumption) ?restx29_14
        case hyx29_14 => (intro w hSw; have F := Ok.sees hSw; clear hSw; simp only [sees] at F; go_simp; (try rw [if_neg (by omega)]); try with_reducible rfl)
        try simp only [Act.put, List.setIfInBounds_toArray, List.set_cons_zero, List.set_cons_succ, List.getElem_toArray, List.getElem_cons_succ, List.getElem_cons_zero]
        refine wpAnyH_take (i := 15) (v := ?vx30_15) rfl (by kernel_rfl) (by kernel_rfl) (by kernel_rfl) (fun _ _ _ h => h) (Or.inl ⟨by rfl, ?hyx30_15⟩) (by assumption) ?restx30_15
        case hyx30_15 => (intro w hSw; have F := Ok.sees hSw; clear hSw; simp only [sees] at F; go_simp; (try rw [if_neg (by omega)]); try with_reducible rfl)
        try simp only [Act.put, List.setIfInBounds_toArray, List.set_cons_zero, List.set_cons_succ, List.getElem_toArray, List.getElem_cons_succ, List.getElem_cons_zero]
        refine wpAnyH_done (by kernel_rfl) ?_ _
        have HW2 := Lib.hid hHeld.bel
        clear hHeld HX0 HW1
        have hlu : us.length = tl := by rw [← sameL_len HSM.out, HTL.out]
        rw [hlu]
        have hq := law_same (pairL ts) (pairL us) _ a2 _ c2 w2 HA2.out HB2.out (by rw [pair_fst, pair_fst]; exact HSM.out) (by rw [pair_len]; have := HTL.out; omega)
        rw [pair_len, pair_len, HTL.out, hlu] at hq
        have HEQ := keep hq
        clear hq hlu
        go_wp2_with fail
        refine HEQ.out.mono ?_
        rintro e w3 ⟨rfl, hb⟩
        have HW3 := Lib.hid (HW2.out.trans (hb.mono HW2.out.size))
        clear hb HW2 HEQ
        go_wp2_with fail
        refine (law_awake7 w3 (HE.out.below HW3.out)).mono ?_
        rintro e w4 ⟨rfl, hb⟩
        have HW4 := Lib.hid (HW3.out.trans (hb.mono HW3.out.size))
        clear hb
        go_wp2_with fail
        go_ret
        exact ⟨rfl, HW4.out⟩
    · have hkt : k = tl := by omega
      have hpt : p = S.size := by
        rcases HP.out with ⟨u, hu, e⟩ | ⟨-, h⟩
        · have := (List.getElem?_eq_some_iff.1 hu).1
          have := HTL.out
          omega
        · rw [h, HLS.out]
      subst hpt
      subst hkt
      have hk1 : IntKind.i64.wrap ((k : Int) - 1) = (k : Int) - 1 := Go.IntWalk.i64_in _ (by omega)
      by_cases hk0 : (k : Int) > 0
      · obtain ⟨u, hu⟩ : ∃ u, ts[k - 1]? = some u := ⟨_, List.getElem?_eq_getElem (by rw [HTL.out]; omega)⟩
        have hnm := named_take hu
        rw [show k - 1 + 1 = k by omega] at hnm
        obtain ⟨b, o, rfl, hb0, hd0, _⟩ := HA.out.cell hu
        have hi2 : ((k : Int) - 1).toNat = k - 1 := by omega
        have hi3 : (k : Int) - 1 < (k : Int) := by omega
        have hi4 : (0 : Int) ≤ (k : Int) - 1 := by omega
        obtain ⟨uk, huk⟩ : ∃ uk, u.kind = uk := ⟨_, rfl⟩
        rw [huk] at hnm hd0
        clear hu huk
        by_cases hk7 : uk = 7
        · subst hk7
          clear hnm
          go_wp2_with fail
          refine (law_awake7 w1 (HE.out.below HW1.out)).mono ?_
          rintro e w2 ⟨rfl, hb⟩
          have HW2 := Lib.hid (HW1.out.trans (hb.mono HW1.out.size))
          clear hb
          go_wp2_with fail
          go_ret
          exact ⟨rfl, HW2.out⟩
        · have hk7b : ((uk : Int) == 7) = false := by simp; omega
          have HN := keep (HBL.out (by rw [hnm]; simpa using hk7))
          clear hnm hk7
          have HX0 := Lib.hid (show Ok w [] w1 from ⟨HW1.out, fun _ h => absurd h (by simp)⟩)
          obtain ⟨us, hus, hsm⟩ := HN.out
          have HUS := keep hus
          have HSM := keep hsm
          clear hus hsm
          have hpc : (S.size : Int) ≤ (S.size : Int) := by omega
          go_wp2_with fail
          refine wp_region_held_drew (S := fun W => Ok w [] W) (by kernel_rfl) HX0.out.drew (fun hHeld => ?_)
          refine wpAnyH_take (i := 0) (v := ?vx31_0) rfl (by kernel_rfl) (by kernel_rfl) (by kernel_rfl) (fun _ _ _ h => h) (Or.inl ⟨by rfl, ?hyx31_0⟩) (by assumption) ?restx31_0
          case hyx31_0 => (intro w hSw; have F := Ok.sees hSw; clear hSw; simp only [sees] at F; go_simp; (try rw [if_neg (by omega)]); try with_reducible rfl)
          try simp only [Act.put, List.setIfInBounds_toArray, List.set_cons_zero, List.set_cons_succ, List.getElem_toArray, List.getElem_cons_zero]
          refine wpAnyH_take (i := 1) (v := ?vx32_1) rfl (by kernel_rfl) (by kernel_rfl) (by kernel_rfl) (fun _ _ _ h => h) (Or.inl ⟨by rfl, ?hyx32_1⟩) (by assumption) ?restx32_1
          case hyx32_1 => (intro w hSw; have F := Ok.sees hSw; clear hSw; simp only [sees] at F; go_simp; (try rw [if_neg (by omega)]); try with_reducible rfl)
          try simp only [Act.put, List.setIfInBounds_toArray, List.set_cons_zero, List.set_cons_succ, List.getElem_toArray, List.getElem_cons_succ, List.getElem_cons_zero]
          refine wpAnyH_take (i := 2) (v := ?vx33_2) rfl (by kernel_rfl) (by kernel_rfl) (by kernel_rfl) (fun _ _ _ h => h) (Or.inl ⟨by rfl, ?hyx33_2⟩) (by assumption) ?restx33_2
          case hyx33_2 => (intro w hSw; have F := Ok.sees hSw; clear hSw; simp only [sees] at F; go_simp; (try rw [if_neg (by omega)]); try with_reducible rfl)
          try simp only [Act.put, List.setIfInBounds_toArray, List.set_cons_zero, List.set_cons_succ, List.getElem_toArray, List.getElem_cons_succ, List.getElem_cons_zero]
          refine wpAnyH_take (i := 3) (v := ?vx34_3) rfl (by kernel_rfl) (by kernel_rfl) (by kernel_rfl) (fun _ _ _ h => h) (Or.inl ⟨by rfl, ?hyx34_3⟩) (by assumption) ?restx34_3
          case hyx34_3 => (intro w hSw; have F := Ok.sees hSw; clear hSw; simp only [sees] at F; go_simp; (try rw [if_neg (by omega)]); try with_reducible rfl)
          try simp only [Act.put, List.setIfInBounds_toArray, List.set_cons_zero, List.set_cons_succ, List.getElem_toArray, List.getElem_cons_succ, List.getElem_cons_zero]
          refine wpAnyH_take (i := 4) (v := ?vx35_4) rfl (by kernel_rfl) (by kernel_rfl) (by kernel_rfl) (fun _ _ _ h => h) (Or.inl ⟨by rfl, ?hyx35_4⟩) (by assumption) ?restx35_4
          case hyx35_4 => (intro w hSw; have F := Ok.sees hSw; clear hSw; simp only [sees] at F; go_simp; (try rw [if_neg (by omega)]); try with_reducible rfl)
          try simp only [Act.put, List.setIfInBounds_toArray, List.set_cons_zero, List.set_cons_succ, List.getElem_toArray, List.getElem_cons_succ, List.getElem_cons_zero]
          refine wpAnyH_take (i := 5) (v := ?vx36_5) rfl (by kernel_rfl) (by kernel_rfl) (by kernel_rfl) (fun _ _ _ h => h) (Or.inl ⟨by rfl, ?hyx36_5⟩) (by assumption) ?restx36_5
          case hyx36_5 => (intro w hSw; have F := Ok.sees hSw; clear hSw; simp only [sees] at F; go_simp; (try rw [if_neg (by omega)]); try with_reducible rfl)
          try simp only [Act.put, List.setIfInBounds_toArray, List.set_cons_zero, List.set_cons_succ, List.getElem_toArray, List.getElem_cons_succ, List.getElem_cons_zero]
          refine wpAnyH_take (i := 6) (v := ?vx37_6) rfl (by kernel_rfl) (by kernel_rfl) (by kernel_rfl) (fun _ _ _ h => h) (Or.inl ⟨by rfl, ?hyx37_6⟩) (by assumption) ?restx37_6
          case hyx37_6 => (intro w hSw; have F := Ok.sees hSw; clear hSw; simp only [sees] at F; go_simp; (try rw [if_neg (by omega)]); try with_reducible rfl)
          try simp only [Act.put, List.setIfInBounds_toArray, List.set_cons_zero, List.set_cons_succ, List.getElem_toArray, List.getElem_cons_succ, List.getElem_cons_zero]
          refine wpAnyH_take (i := 7) (v := ?vx38_7) rfl (by kernel_rfl) (by kernel_rfl) (by kernel_rfl) (fun _ _ _ h => h) (Or.inl ⟨by rfl, ?hyx38_7⟩) (by assumption) ?restx38_7
          case hyx38_7 => (intro w hSw; have F := Ok.sees hSw; clear hSw; simp only [sees] at F; go_simp; (try rw [if_neg (by omega)]); try with_reducible rfl)
          try simp only [Act.put, List.setIfInBounds_toArray, List.set_cons_zero, List.set_cons_succ, List.getElem_toArray, List.getElem_cons_succ, List.getElem_cons_zero]
          refine wpAnyH_ready (rs := [8]) (by kernel_rfl) (by simp) ?_
          refine AllReadyH.cons rfl (fun K hK => ?_) AllReadyH.nil
          go_simp
          have hcat := cat_all S
          have hcsz : (S ++ (⟨#[32]⟩ : ByteArray)).size ≤ 1000 := cat_all_size S hS
          refine (lex_Tokens (S ++ (⟨#[32]⟩ : ByteArray)) _ (by omega) (HE.out.1.below HX0.out.bel.drew)).mono ?_
          rintro e w2 ⟨v2, rfl, hown, hb⟩
          rw [hcat, HUS.out] at hown ⊢
          obtain ⟨a2, c2, rfl, hat⟩ := tks_own hown
          have HB2 := keep (show TksAt w2 a2 c2 (pairL us) from hat)
          have HA2 := keep ((HA.out.below (Below.refl _ _).drew).below hb)
          simp only []
          have HBB := Lib.hid hb
          clear hown hat hb hcat hcsz
          go_wp2_with fail
          refine hK.out _ _ (hHeld.below HBB.out) (fun hHeld => ?_)
          clear hK K
          try simp only [Act.put, List.setIfInBounds_toArray, List.set_cons_zero, List.set_cons_succ, List.getElem_toArray, List.getElem_cons_succ, List.getElem_cons_zero]
          clear HBB
          refine wpAnyH_take (i := 9) (v := ?vx39_9) rfl (by kernel_rfl) (by kernel_rfl) (by kernel_rfl) (fun _ _ _ h => h) (Or.inl ⟨by rfl, ?hyx39_9⟩) (by assumption) ?restx39_9
          case hyx39_9 => (intro w hSw; have F := Ok.sees hSw; clear hSw; simp only [sees] at F; go_simp; (try rw [if_neg (by omega)]); try with_reducible rfl)
          try simp only [Act.put, List.setIfInBounds_toArray, List.set_cons_zero, List.set_cons_succ, List.getElem_toArray, List.getElem_cons_succ, List.getElem_cons_zero]
          refine wpAnyH_take (i := 10) (v := ?vx40_10) rfl (by kernel_rfl) (by kernel_rfl) (by kernel_rfl) (fun _ _ _ h => h) (Or.inl ⟨by rfl, ?hyx40_10⟩) (by assumption) ?restx40_10
          case hyx40_10 => (intro w hSw; have F := Ok.sees hSw; clear hSw; simp only [sees] at F; go_simp; (try rw [if_neg (by omega)]); try with_reducible rfl)
          try simp only [Act.put, List.setIfInBounds_toArray, List.set_cons_zero, List.set_cons_succ, List.getElem_toArray, List.getElem_cons_succ, List.getElem_cons_zero]
          refine wpAnyH_take (i := 11) (v := ?vx41_11) rfl (by kernel_rfl) (by kernel_rfl) (by kernel_rfl) (fun _ _ _ h => h) (Or.inl ⟨by rfl, ?hyx41_11⟩) (by assumption) ?restx41_11
          case hyx41_11 => (intro w hSw; have F := Ok.sees hSw; clear hSw; simp only [sees] at F; go_simp; (try rw [if_neg (by omega)]); try with_reducible rfl)
          try simp only [Act.put, List.setIfInBounds_toArray, List.set_cons_zero, List.set_cons_succ, List.getElem_toArray, List.getElem_cons_succ, List.getElem_cons_zero]
          refine wpAnyH_take (i := 12) (v := ?vx42_12) rfl (by kernel_rfl) (by kernel_rfl) (by kernel_rfl) (fun _ _ _ h => h) (Or.inl ⟨by rfl, ?hyx42_12⟩) (by assumption) ?restx42_12
          case hyx42_12 => (intro w hSw; have F := Ok.sees hSw; clear hSw; simp only [sees] at F; go_simp; (try rw [if_neg (by omega)]); try with_reducible rfl)
          try simp only [Act.put, List.setIfInBounds_toArray, List.set_cons_zero, List.set_cons_succ, List.getElem_toArray, List.getElem_cons_succ, List.getElem_cons_zero]
          refine wpAnyH_take (i := 13) (v := ?vx43_13) rfl (by kernel_rfl) (by kernel_rfl) (by kernel_rfl) (fun _ _ _ h => h) (Or.inl ⟨by rfl, ?hyx43_13⟩) (by assumption) ?restx43_13
          case hyx43_13 => (intro w hSw; have F := Ok.sees hSw; clear hSw; simp only [sees] at F; go_simp; (try rw [if_neg (by omega)]); try with_reducible rfl)
          try simp only [Act.put, List.setIfInBounds_toArray, List.set_cons_zero, List.set_cons_succ, List.getElem_toArray, List.getElem_cons_succ, List.getElem_cons_zero]
          refine wpAnyH_take (i := 14) (v := ?vx44_14) rfl (by kernel_rfl) (by kernel_rfl) (by kernel_rfl) (fun _ _ _ h => h) (Or.inl ⟨by rfl, ?hyx44_14⟩) (by assumption) ?restx44_14
          case hyx44_14 => (intro w hSw; have F := Ok.sees hSw; clear hSw; simp only [sees] at F; go_simp; (try rw [if_neg (by omega)]); try with_reducible rfl)
          try simp only [Act.put, List.setIfInBounds_toArray, List.set_cons_zero, List.set_cons_succ, List.getElem_toArray, List.getElem_cons_succ, List.getElem_cons_zero]
          refine wpAnyH_take (i := 15) (v := ?vx45_15) rfl (by kernel_rfl) (by kernel_rfl) (by kernel_rfl) (fun _ _ _ h => h) (Or.inl ⟨by rfl, ?hyx45_15⟩) (by assumption) ?restx45_15
          case hyx45_15 => (intro w hSw; have F := Ok.sees hSw; clear hSw; simp only [sees] at F; go_simp; (try rw [if_neg (by omega)]); try with_reducible rfl)
          try simp only [Act.put, List.setIfInBounds_toArray, List.set_cons_zero, List.set_cons_succ, List.getElem_toArray, List.getElem_cons_succ, List.getElem_cons_zero]
          refine wpAnyH_done (by kernel_rfl) ?_ _
          have HW2 := Lib.hid hHeld.bel
          clear hHeld HX0 HW1
          have hlu : us.length = k := by rw [← sameL_len HSM.out, HTL.out]
          rw [hlu]
          have hq := law_same (pairL ts) (pairL us) _ a2 _ c2 w2 HA2.out HB2.out (by rw [pair_fst, pair_fst]; exact HSM.out) (by rw [pair_len]; have := HTL.out; omega)
          rw [pair_len, pair_len, HTL.out, hlu] at hq
          have HEQ := keep hq
          clear hq hlu
          go_wp2_with fail
          refine HEQ.out.mono ?_
          rintro e w3 ⟨rfl, hb⟩
          have HW3 := Lib.hid (HW2.out.trans (hb.mono HW2.out.size))
          clear hb HW2 HEQ
          go_wp2_with fail
          refine (law_awake7 w3 (HE.out.below HW3.out)).mono ?_
          rintro e w4 ⟨rfl, hb⟩
          have HW4 := Lib.hid (HW3.out.trans (hb.mono HW3.out.size))
          clear hb
          go_wp2_with fail
          go_ret
          exact ⟨rfl, HW4.out⟩
      · have HN := keep (HBL.out (by rw [show k = 0 by omega]; rfl))
        have HX0 := Lib.hid (show Ok w [] w1 from ⟨HW1.out, fun _ h => absurd h (by simp)⟩)
        obtain ⟨us, hus, hsm⟩ := HN.out
        have HUS := keep hus
        have HSM := keep hsm
        clear hus hsm
        have hpc : (S.size : Int) ≤ (S.size : Int) := by omega
        go_wp2_with fail
        refine wp_region_held_drew (S := fun W => Ok w [] W) (by kernel_rfl) HX0.out.drew (fun hHeld => ?_)
        refine wpAnyH_take (i := 0) (v := ?vx46_0) rfl (by kernel_rfl) (by kernel_rfl) (by kernel_rfl) (fun _ _ _ h => h) (Or.inl ⟨by rfl, ?hyx46_0⟩) (by assumption) ?restx46_0
        case hyx46_0 => (intro w hSw; have F := Ok.sees hSw; clear hSw; simp only [sees] at F; go_simp; (try rw [if_neg (by omega)]); try with_reducible rfl)
        try simp only [Act.put, List.setIfInBounds_toArray, List.set_cons_zero, List.set_cons_succ, List.getElem_toArray, List.getElem_cons_zero]
        refine wpAnyH_take (i := 1) (v := ?vx47_1) rfl (by kernel_rfl) (by kernel_rfl) (by kernel_rfl) (fun _ _ _ h => h) (Or.inl ⟨by rfl, ?hyx47_1⟩) (by assumption) ?restx47_1
        case hyx47_1 => (intro w hSw; have F := Ok.sees hSw; clear hSw; simp only [sees] at F; go_simp; (try rw [if_neg (by omega)]); try with_reducible rfl)
        try simp only [Act.put, List.setIfInBounds_toArray, List.set_cons_zero, List.set_cons_succ, List.getElem_toArray, List.getElem_cons_succ, List.getElem_cons_zero]
        refine wpAnyH_take (i := 2) (v := ?vx48_2) rfl (by kernel_rfl) (by kernel_rfl) (by kernel_rfl) (fun _ _ _ h => h) (Or.inl ⟨by rfl, ?hyx48_2⟩) (by assumption) ?restx48_2
        case hyx48_2 => (intro w hSw; have F := Ok.sees hSw; clear hSw; simp only [sees] at F; go_simp; (try rw [if_neg (by omega)]); try with_reducible rfl)
        try simp only [Act.put, List.setIfInBounds_toArray, List.set_cons_zero, List.set_cons_succ, List.getElem_toArray, List.getElem_cons_succ, List.getElem_cons_zero]
        refine wpAnyH_take (i := 3) (v := ?vx49_3) rfl (by kernel_rfl) (by kernel_rfl) (by kernel_rfl) (fun _ _ _ h => h) (Or.inl ⟨by rfl, ?hyx49_3⟩) (by assumption) ?restx49_3
        case hyx49_3 => (intro w hSw; have F := Ok.sees hSw; clear hSw; simp only [sees] at F; go_simp; (try rw [if_neg (by omega)]); try with_reducible rfl)
        try simp only [Act.put, List.setIfInBounds_toArray, List.set_cons_zero, List.set_cons_succ, List.getElem_toArray, List.getElem_cons_succ, List.getElem_cons_zero]
        refine wpAnyH_take (i := 4) (v := ?vx50_4) rfl (by kernel_rfl) (by kernel_rfl) (by kernel_rfl) (fun _ _ _ h => h) (Or.inl ⟨by rfl, ?hyx50_4⟩) (by assumption) ?restx50_4
        case hyx50_4 => (intro w hSw; have F := Ok.sees hSw; clear hSw; simp only [sees] at F; go_simp; (try rw [if_neg (by omega)]); try with_reducible rfl)
        try simp only [Act.put, List.setIfInBounds_toArray, List.set_cons_zero, List.set_cons_succ, List.getElem_toArray, List.getElem_cons_succ, List.getElem_cons_zero]
        refine wpAnyH_take (i := 5) (v := ?vx51_5) rfl (by kernel_rfl) (by kernel_rfl) (by kernel_rfl) (fun _ _ _ h => h) (Or.inl ⟨by rfl, ?hyx51_5⟩) (by assumption) ?restx51_5
        case hyx51_5 => (intro w hSw; have F := Ok.sees hSw; clear hSw; simp only [sees] at F; go_simp; (try rw [if_neg (by omega)]); try with_reducible rfl)
        try simp only [Act.put, List.setIfInBounds_toArray, List.set_cons_zero, List.set_cons_succ, List.getElem_toArray, List.getElem_cons_succ, List.getElem_cons_zero]
        refine wpAnyH_take (i := 6) (v := ?vx52_6) rfl (by kernel_rfl) (by kernel_rfl) (by kernel_rfl) (fun _ _ _ h => h) (Or.inl ⟨by rfl, ?hyx52_6⟩) (by assumption) ?restx52_6
        case hyx52_6 => (intro w hSw; have F := Ok.sees hSw; clear hSw; simp only [sees] at F; go_simp; (try rw [if_neg (by omega)]); try with_reducible rfl)
        try simp only [Act.put, List.setIfInBounds_toArray, List.set_cons_zero, List.set_cons_succ, List.getElem_toArray, List.getElem_cons_succ, List.getElem_cons_zero]
        refine wpAnyH_take (i := 7) (v := ?vx53_7) rfl (by kernel_rfl) (by kernel_rfl) (by kernel_rfl) (fun _ _ _ h => h) (Or.inl ⟨by rfl, ?hyx53_7⟩) (by assumption) ?restx53_7
        case hyx53_7 => (intro w hSw; have F := Ok.sees hSw; clear hSw; simp only [sees] at F; go_simp; (try rw [if_neg (by omega)]); try with_reducible rfl)
        try simp only [Act.put, List.setIfInBounds_toArray, List.set_cons_zero, List.set_cons_succ, List.getElem_toArray, List.getElem_cons_succ, List.getElem_cons_zero]
        refine wpAnyH_ready (rs := [8]) (by kernel_rfl) (by simp) ?_
        refine AllReadyH.cons rfl (fun K hK => ?_) AllReadyH.nil
        go_simp
        have hcat := cat_all S
        have hcsz : (S ++ (⟨#[32]⟩ : ByteArray)).size ≤ 1000 := cat_all_size S hS
        refine (lex_Tokens (S ++ (⟨#[32]⟩ : ByteArray)) _ (by omega) (HE.out.1.below HX0.out.bel.drew)).mono ?_
        rintro e w2 ⟨v2, rfl, hown, hb⟩
        rw [hcat, HUS.out] at hown ⊢
        obtain ⟨a2, c2, rfl, hat⟩ := tks_own hown
        have HB2 := keep (show TksAt w2 a2 c2 (pairL us) from hat)
        have HA2 := keep ((HA.out.below (Below.refl _ _).drew).below hb)
        simp only []
        have HBB := Lib.hid hb
        clear hown hat hb hcat hcsz
        go_wp2_with fail
        refine hK.out _ _ (hHeld.below HBB.out) (fun hHeld => ?_)
        clear hK K
        try simp only [Act.put, List.setIfInBounds_toArray, List.set_cons_zero, List.set_cons_succ, List.getElem_toArray, List.getElem_cons_succ, List.getElem_cons_zero]
        clear HBB
        refine wpAnyH_take (i := 9) (v := ?vx54_9) rfl (by kernel_rfl) (by kernel_rfl) (by kernel_rfl) (fun _ _ _ h => h) (Or.inl ⟨by rfl, ?hyx54_9⟩) (by assumption) ?restx54_9
        case hyx54_9 => (intro w hSw; have F := Ok.sees hSw; clear hSw; simp only [sees] at F; go_simp; (try rw [if_neg (by omega)]); try with_reducible rfl)
        try simp only [Act.put, List.setIfInBounds_toArray, List.set_cons_zero, List.set_cons_succ, List.getElem_toArray, List.getElem_cons_succ, List.getElem_cons_zero]
        refine wpAnyH_take (i := 10) (v := ?vx55_10) rfl (by kernel_rfl) (by kernel_rfl) (by kernel_rfl) (fun _ _ _ h => h) (Or.inl ⟨by rfl, ?hyx55_10⟩) (by assumption) ?restx55_10
        case hyx55_10 => (intro w hSw; have F := Ok.sees hSw; clear hSw; simp only [sees] at F; go_simp; (try rw [if_neg (by omega)]); try with_reducible rfl)
        try simp only [Act.put, List.setIfInBounds_toArray, List.set_cons_zero, List.set_cons_succ, List.getElem_toArray, List.getElem_cons_succ, List.getElem_cons_zero]
        refine wpAnyH_take (i := 11) (v := ?vx56_11) rfl (by kernel_rfl) (by kernel_rfl) (by kernel_rfl) (fun _ _ _ h => h) (Or.inl ⟨by rfl, ?hyx56_11⟩) (by assumption) ?restx56_11
        case hyx56_11 => (intro w hSw; have F := Ok.sees hSw; clear hSw; simp only [sees] at F; go_simp; (try rw [if_neg (by omega)]); try with_reducible rfl)
        try simp only [Act.put, List.setIfInBounds_toArray, List.set_cons_zero, List.set_cons_succ, List.getElem_toArray, List.getElem_cons_succ, List.getElem_cons_zero]
        refine wpAnyH_take (i := 12) (v := ?vx57_12) rfl (by kernel_rfl) (by kernel_rfl) (by kernel_rfl) (fun _ _ _ h => h) (Or.inl ⟨by rfl, ?hyx57_12⟩) (by assumption) ?restx57_12
        case hyx57_12 => (intro w hSw; have F := Ok.sees hSw; clear hSw; simp only [sees] at F; go_simp; (try rw [if_neg (by omega)]); try with_reducible rfl)
        try simp only [Act.put, List.setIfInBounds_toArray, List.set_cons_zero, List.set_cons_succ, List.getElem_toArray, List.getElem_cons_succ, List.getElem_cons_zero]
        refine wpAnyH_take (i := 13) (v := ?vx58_13) rfl (by kernel_rfl) (by kernel_rfl) (by kernel_rfl) (fun _ _ _ h => h) (Or.inl ⟨by rfl, ?hyx58_13⟩) (by assumption) ?restx58_13
        case hyx58_13 => (intro w hSw; have F := Ok.sees hSw; clear hSw; simp only [sees] at F; go_simp; (try rw [if_neg (by omega)]); try with_reducible rfl)
        try simp only [Act.put, List.setIfInBounds_toArray, List.set_cons_zero, List.set_cons_succ, List.getElem_toArray, List.getElem_cons_succ, List.getElem_cons_zero]
        refine wpAnyH_take (i := 14) (v := ?vx59_14) rfl (by kernel_rfl) (by kernel_rfl) (by kernel_rfl) (fun _ _ _ h => h) (Or.inl ⟨by rfl, ?hyx59_14⟩) (by assumption) ?restx59_14
        case hyx59_14 => (intro w hSw; have F := Ok.sees hSw; clear hSw; simp only [sees] at F; go_simp; (try rw [if_neg (by omega)]); try with_reducible rfl)
        try simp only [Act.put, List.setIfInBounds_toArray, List.set_cons_zero, List.set_cons_succ, List.getElem_toArray, List.getElem_cons_succ, List.getElem_cons_zero]
        refine wpAnyH_take (i := 15) (v := ?vx60_15) rfl (by kernel_rfl) (by kernel_rfl) (by kernel_rfl) (fun _ _ _ h => h) (Or.inl ⟨by rfl, ?hyx60_15⟩) (by assumption) ?restx60_15
        case hyx60_15 => (intro w hSw; have F := Ok.sees hSw; clear hSw; simp only [sees] at F; go_simp; (try rw [if_neg (by omega)]); try with_reducible rfl)
        try simp only [Act.put, List.setIfInBounds_toArray, List.set_cons_zero, List.set_cons_succ, List.getElem_toArray, List.getElem_cons_succ, List.getElem_cons_zero]
        refine wpAnyH_done (by kernel_rfl) ?_ _
        have HW2 := Lib.hid hHeld.bel
        clear hHeld HX0 HW1
        have hlu : us.length = k := by rw [← sameL_len HSM.out, HTL.out]
        rw [hlu]
        have hq := law_same (pairL ts) (pairL us) _ a2 _ c2 w2 HA2.out HB2.out (by rw [pair_fst, pair_fst]; exact HSM.out) (by rw [pair_len]; have := HTL.out; omega)
        rw [pair_len, pair_len, HTL.out, hlu] at hq
        have HEQ := keep hq
        clear hq hlu
        go_wp2_with fail
        refine HEQ.out.mono ?_
        rintro e w3 ⟨rfl, hb⟩
        have HW3 := Lib.hid (HW2.out.trans (hb.mono HW2.out.size))
        clear hb HW2 HEQ
        go_wp2_with fail
        refine (law_awake7 w3 (HE.out.below HW3.out)).mono ?_
        rintro e w4 ⟨rfl, hb⟩
        have HW4 := Lib.hid (HW3.out.trans (hb.mono HW3.out.size))
        clear hb
        go_wp2_with fail
        go_ret
        exact ⟨rfl, HW4.out⟩
  · obtain ⟨rfl, hf1, hf2⟩ := tokens_fault HT.out her
    have heb : (er != 0) = true := by simpa using her
    go_wp2_with fail
    refine (law_awake7 w1 (HE.out.below HW1.out)).mono ?_
    rintro e w2 ⟨rfl, hb⟩
    have HW2 := Lib.hid (HW1.out.trans (hb.mono HW1.out.size))
    clear hb
    go_wp2_with fail
    go_ret
    exact ⟨rfl, HW2.out⟩
end Go.Proofs.YtlngjiibbcgkmaaGreatDoor
