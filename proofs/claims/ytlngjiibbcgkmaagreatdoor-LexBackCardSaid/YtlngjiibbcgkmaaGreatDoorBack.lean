/- LexBack: the walk. -/
import Derived.Test.YtlngjiibbcgkmaaGreatDoorGaps
import Derived.Test.YtlngjiibbcgkmaaGreatDoorAwk7
namespace Go.Proofs.YtlngjiibbcgkmaaGreatDoor
open Go.RowKit

set_option maxRecDepth 100000 in
set_option maxHeartbeats 8000000 in
theorem LexBack_walk (s : ByteArray) (w : World) (_hs : s.size ≤ maxLen) (hL : laidMetH Tryz.prog Rows.lexBackRow.laid w) (hS : w.ShapedOpen Tryz.prog) :
    Calls Tryz.prog 8 #[.string s] w fun e w' => e = .returned (.bool true) ∧ Below w.heap.size w w' := by
  have HE := keep (env7_of hL hS (by kernel_rfl) (by kernel_rfl))
  clear hL hS
  go_enter Tryz.func8, Tryz.ntmps8
  go_wp2_with fail
  have hS := cut_len s 300
  rw [show (((300 : Nat) : Int)) = 300 from rfl] at hS
  generalize s.extract 0 (min (s.size : Int) 300).toNat = S at hS ⊢
  refine (lex_Tokens S w (by omega) HE.out.1).mono ?_
  rintro e w1 ⟨v, rfl, hown, hb⟩
  obtain ⟨a1, c1, rfl, hat⟩ := tks_own hown
  generalize hT : tokensS S.data.toList = T at hat ⊢
  obtain ⟨ts, at_, er⟩ := T
  have hat : TksAt w1 a1 c1 (pairL ts) := hat
  simp only [] at ⊢
  have HT := keep hT
  have HA := keep hat
  have HW1 := Lib.hid hb
  clear hT hat hb hown
  by_cases her : er = 0
  · subst her
    have HOK := keep (tokens_fit HT.out)
    have HBP := keep (back_plain HOK.out.1)
    have hlen : ts.length ≤ 256 := by
      obtain ⟨-, h1, -, h3⟩ := toks_parts HT.out
      exact Nat.le_trans h3.count h1
    rw [show ts.length = (pairL ts).length from (pair_len ts).symm]
    go_wp2_with fail
    refine (lex_Write (pairL ts) a1 c1 w1 HA.out (pair_fits HOK.out.2) (HE.out.below HW1.out) (by rw [pair_len]; omega)).mono ?_
    rintro e w2 ⟨rfl, hb⟩
    rw [pair_fst]
    have HA2 := keep (HA.out.below hb)
    have HW2 := Lib.hid (HW1.out.trans (hb.mono HW1.out.size))
    clear hb HA HW1
    rcases HBP.out with h9 | h9 | ⟨x, us, h9, htk, hsm, hwr, hx⟩
    · rw [h9]
      clear h9
      simp only []
      go_wp2_with fail
      refine (law_awake7 w2 (HE.out.below HW2.out)).mono ?_
      rintro e w3 ⟨rfl, hb⟩
      have HW3 := Lib.hid (HW2.out.trans (hb.mono HW2.out.size))
      clear hb
      go_wp2_with fail
      go_ret
      exact ⟨rfl, HW3.out⟩
    · rw [h9]
      clear h9
      simp only []
      go_wp2_with fail
      refine (law_awake7 w2 (HE.out.below HW2.out)).mono ?_
      rintro e w3 ⟨rfl, hb⟩
      have HW3 := Lib.hid (HW2.out.trans (hb.mono HW2.out.size))
      clear hb
      go_wp2_with fail
      go_ret
      exact ⟨rfl, HW3.out⟩
    · rw [h9]
      have HTK := keep htk
      have HSM := keep hsm
      have HWR := keep hwr
      obtain ⟨X, hX⟩ : ∃ X : ByteArray, X = ⟨x.toArray⟩ := ⟨_, rfl⟩
      have hXd : X.data.toList = x := by rw [hX]
      have hXs : X.size ≤ 256 := by rw [hX]; show x.toArray.size ≤ 256; rw [List.size_toArray]; exact hx
      have HX := keep hX
      simp only []
      rw [← hX]
      clear h9 htk hsm hwr hx hX
      go_wp2_with fail
      refine (lex_Tokens X w2 (by omega) (HE.out.1.below HW2.out)).mono ?_
      rintro e w3 ⟨v, rfl, hown, hb⟩
      rw [hXd, HTK.out] at hown ⊢
      simp only [] at hown ⊢
      obtain ⟨a2, c2, rfl, hat⟩ := tks_own hown
      have hat : TksAt w3 a2 c2 (pairL us) := hat
      have HA3 := keep (HA2.out.below hb)
      have HB3 := keep hat
      have HW3 := Lib.hid (HW2.out.trans (hb.mono HW2.out.size))
      have hlen2 : us.length = ts.length := (sameL_len HSM.out).symm
      have HF := keep (tokens_fit HTK.out)
      rw [show us.length = (pairL us).length from (pair_len us).symm]
      clear hown hat hb HA2 HW2
      go_wp2_with fail
      refine (lex_Write (pairL us) a2 c2 w3 HB3.out (pair_fits HF.out.2) (HE.out.below HW3.out) (by rw [pair_len]; omega)).mono ?_
      rintro e w4 ⟨rfl, hb⟩
      rw [pair_fst, HWR.out]
      simp only []
      rw [← HX.out]
      have HA4 := keep (HA3.out.below hb)
      have HB4 := keep (HB3.out.below hb)
      have HW4 := Lib.hid (HW3.out.trans (hb.mono HW3.out.size))
      clear hb HA3 HB3 HW3
      go_wp2_with fail
      refine (law_same (pairL ts) (pairL us) a1 a2 c1 c2 w4 HA4.out HB4.out (by rw [pair_fst, pair_fst]; exact HSM.out) (by rw [pair_len]; omega)).mono ?_
      rintro e w5 ⟨rfl, hb⟩
      have HW5 := Lib.hid (HW4.out.trans (hb.mono HW4.out.size))
      clear hb HA4 HB4 HW4
      have hX256 : (X.size : Int) ≤ 256 := by omega
      go_wp2_with fail
      refine (law_awake7 w5 (HE.out.below HW5.out)).mono ?_
      rintro e w6 ⟨rfl, hb⟩
      have HW6 := Lib.hid (HW5.out.trans (hb.mono HW5.out.size))
      clear hb
      go_wp2_with fail
      go_ret
      exact ⟨rfl, HW6.out⟩
  · obtain ⟨rfl, -, -⟩ := tokens_fault HT.out her
    have heb : (er != 0) = true := by simpa using her
    simp only [List.length_nil]
    go_wp2_with fail
    refine (law_awake7 w1 (HE.out.below HW1.out)).mono ?_
    rintro e w2 ⟨rfl, hb⟩
    have HW2 := Lib.hid (HW1.out.trans (hb.mono HW1.out.size))
    clear hb
    go_wp2_with fail
    go_ret
    exact ⟨rfl, HW2.out⟩
end Go.Proofs.YtlngjiibbcgkmaaGreatDoor
