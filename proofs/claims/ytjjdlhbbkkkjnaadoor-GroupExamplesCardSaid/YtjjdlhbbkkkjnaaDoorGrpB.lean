/- The walk of the law GroupBack; condition: a text of at most 1,048,576 bytes. -/
import Derived.Test.YtjjdlhbbkkkjnaaDoorGrpS
import Derived.Test.YtjjdlhbbkkkjnaaDoorGrpSetsL
namespace Go.Proofs.YtjjdlhbbkkkjnaaDoor
open Go.RowKit

theorem ofR_congr (f g : Nat → Int) (n : Nat) (h : ∀ i, i < n → f i = g i) : ofR f n = ofR g n := by
  induction n with
  | zero => rfl
  | succ n ih =>
    rw [ofR, ofR, ih fun i hi => h i (by omega), h n (by omega)]
theorem ofR_bits (s k : Nat) (hk : k ≤ 64) : ∃ t, ofR (fun i => (bitsN s k).getD i 0) (bitsN s k).length = some t ∧ ∀ i, t.testBit i = (s.testBit i && decide (i < k)) := by
  induction k with
  | zero => exact ⟨0, rfl, fun i => by simp⟩
  | succ k ih =>
    obtain ⟨t, h1, h2⟩ := ih (by omega)
    cases hb : s.testBit k with
    | false =>
      rw [bits_snoc0 s k hb]
      refine ⟨t, h1, fun i => ?_⟩
      rw [h2 i]
      by_cases c : i = k
      · subst c; simp [hb]
      · congr 1
        rw [decide_eq_decide]
        omega
    | true =>
      rw [bits_snoc1 s k hb]
      refine ⟨t ||| 2 ^ k, ?_, fun i => ?_⟩
      · rw [List.length_append]
        show ofR _ ((bitsN s k).length + 1) = _
        rw [ofR, ofR_congr _ (fun i => (bitsN s k).getD i 0) _ (fun i hi => by simp [List.getD_eq_getElem?_getD, List.getElem?_append_left hi]), h1]
        have e : (bitsN s k ++ [(k : Int)]).getD (bitsN s k).length 0 = k := by simp [List.getD_eq_getElem?_getD]
        simp only [e]
        rw [if_pos (by omega), Int.toNat_natCast]
      · rw [Nat.testBit_or, h2 i, Nat.testBit_two_pow]
        by_cases c : i = k
        · subst c; simp [hb]
        · have : ¬ (k = i) := fun e => c e.symm
          simp only [this, decide_false, Bool.or_false]
          congr 1
          rw [decide_eq_decide]
          omega
theorem ofR_all (s : Nat) (hs : s < 18446744073709551616) : ofR (fun i => (bitsL s).getD i 0) (bitsL s).length = some s := by
  obtain ⟨t, h1, h2⟩ := ofR_bits s 64 (Nat.le_refl _)
  have : t = s := by
    apply Nat.eq_of_testBit_eq
    intro i
    rw [h2 i]
    by_cases c : i < 64
    · simp [c]
    · rw [over_bit s i hs (by omega)]; rfl
  subst this
  unfold bitsL
  exact h1
theorem fmtL_len (s : Nat) : (fmtL s).length ≤ 400 := by
  unfold fmtL
  split
  · decide
  · split
    · decide
    · have := textW_len s 64; omega
theorem byt_beq (a b : List UInt8) : ((byt a).toList == (byt b).toList) = (a == b) := by
  rw [ByteArray.toList_eq, ByteArray.toList_eq, byt_data, byt_data]
attribute [local irreducible] parseG parseR fmtL byt bitsL bitsN ofR ofE
set_option maxRecDepth 100000 in
set_option maxHeartbeats 4000000 in
theorem GroupBack_walk (a0 a1 : Int) (s2 : ByteArray) (w : World) (w0 : (Lit.int .u64 a0).wf = true) (w1 : (Lit.int .u64 a1).wf = true) (_ : s2.size ≤ maxLen)
    (hL : laidMetH Tryd.prog Rows.groupBackUptoRow.laid w) (hS : w.ShapedOpen Tryd.prog) (hu : s2.size ≤ 1048576) :
    Calls Tryd.prog 6 #[.int .u64 a0, .int .u64 a1, .string s2] w fun e w' => e = .returned (.bool true) ∧ Below w.heap.size w w' := by
  have HE := keep (env_of hL hS (by kernel_rfl) (by kernel_rfl) (by kernel_rfl))
  clear hL hS
  have hb0 := bounds_u64 w0
  have hb1 := bounds_u64 w1
  obtain ⟨n, rfl⟩ := Int.eq_ofNat_of_zero_le hb0.1
  obtain ⟨m, rfl⟩ := Int.eq_ofNat_of_zero_le hb1.1
  have hn : n < 18446744073709551616 := by omega
  have hm : m < 18446744073709551616 := by omega
  clear w0 hb0 w1 hb1
  go_enter Tryd.func6, Tryd.ntmps6
  go_wp2_with fail
  refine (group_Members n _ hn HE.out.1).mono ?_
  rintro e w1 ⟨v, rfl, hown, hb1⟩
  obtain ⟨ad, cp, rfl, hr, hln⟩ := own_intsL hown
  have HR := keep hr
  have HLN := keep hln
  have HB1 := Lib.hid hb1
  have HO := keep (ofR_all n hn)
  clear hown hr hb1 hln
  have hle := bitsL_len n
  go_wp2_with fail
  refine (of_any ad (bitsL n).length cp (fun i => (bitsL n).getD i 0) _ _ (by unfold maxLen; omega) HR.out).mono ?_
  rintro e w2 ⟨rfl, rfl⟩
  have he : ofE (fun i => (bitsL n).getD i 0) (bitsL n).length = 0 := by unfold ofE; rw [HO.out]; rfl
  rw [HO.out, he, show ((some n).getD 0 : Nat) = n from rfl]
  clear he
  go_wp2_with fail
  refine (group_format n _ hn (HE.out.below HB1.out).1).mono ?_
  rintro e w2 ⟨rfl, hb2⟩
  have HB2 := Lib.hid (below_step HB1.out hb2)
  clear hb2
  go_wp2_with fail
  refine (group_parse (byt (fmtL n)) _ (by rw [byt_size]; have := fmtL_len n; omega) (HE.out.below HB2.out)).mono ?_
  rintro e w3 ⟨rfl, hb3⟩
  have HB3 := Lib.hid (below_step HB2.out hb3)
  clear hb3
  rw [byt_data, parseG_back n hn]
  go_wp2_with fail
  refine (group_format n _ hn (HE.out.below HB3.out).1).mono ?_
  rintro e w4 ⟨rfl, hb4⟩
  have HB4 := Lib.hid (below_step HB3.out hb4)
  clear hb4
  go_wp2_with fail
  refine (group_format m _ hm (HE.out.below HB4.out).1).mono ?_
  rintro e w5 ⟨rfl, hb5⟩
  have HB5 := Lib.hid (below_step HB4.out hb5)
  clear hb5
  have hq : ((byt (fmtL n)).toList == (byt (fmtL m)).toList) = ((n : Int) == (m : Int)) := by
    rw [byt_beq, Bool.eq_iff_iff, beq_iff_eq, beq_iff_eq]
    exact ⟨fun h => congrArg Nat.cast (fmtL_inj n m hn hm h), fun h => by rw [show n = m from by omega]⟩
  generalize byt (fmtL n) = F1 at hq ⊢
  generalize byt (fmtL m) = F2 at hq ⊢
  obtain ⟨q, hq1⟩ : ∃ q, ((n : Int) == (m : Int)) = q := ⟨_, rfl⟩
  rw [hq1] at hq
  cases q
  all_goals
    go_wp2_with fail
    refine (group_parse s2 _ (by omega) (HE.out.below HB5.out)).mono ?_
    rintro e w6 ⟨rfl, hb6⟩
    have HB6 := Lib.hid (below_step HB5.out hb6)
    clear hb6
    rcases parseG_cases s2.data.toList with hz | ⟨t, ht, htf, hz⟩
    · rw [hz]
      clear hz
      go_wp2_with fail
      go_ret
      exact ⟨rfl, HB6.out⟩
    · rw [hz]
      clear hz
      have HT := keep htf
      clear htf
      go_wp2_with fail
      refine (group_format t _ ht (HE.out.below HB6.out).1).mono ?_
      rintro e w7 ⟨rfl, hb7⟩
      have HB7 := Lib.hid (below_step HB6.out hb7)
      clear hb7
      have gq : ((byt (fmtL t)).toList == s2.toList) = true := by rw [ByteArray.toList_eq, ByteArray.toList_eq, byt_data, HT.out]; simp
      generalize byt (fmtL t) = FB at gq ⊢
      go_wp2_with fail
      go_ret
      exact ⟨rfl, HB7.out⟩
end Go.Proofs.YtjjdlhbbkkkjnaaDoor
