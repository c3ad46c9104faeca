/- The contract of the reference's Format. -/
import Derived.Test.YtjjdlhbbkkkjnaaDoorGrpD
import Derived.Test.YtjjdlhbbkkkjnaaDoorGrpJ
namespace Go.Proofs.YtjjdlhbbkkkjnaaDoor
open Go.RowKit

def byt (l : List UInt8) : ByteArray := ⟨l.toArray⟩
theorem byt_eq (l : List UInt8) : (⟨l.toArray⟩ : ByteArray) = byt l := rfl
theorem byt_44 : (⟨#[44]⟩ : ByteArray) = byt [44] := rfl
theorem byt_45 : (⟨#[45]⟩ : ByteArray) = byt [45] := rfl
theorem byt_size (l : List UInt8) : (byt l).size = l.length := rfl
theorem byt_app (a b : List UInt8) : byt a ++ byt b = byt (a ++ b) := by
  unfold byt; apply ByteArray.ext; simp
theorem byt_empty (T : List UInt8) : (byt T).toList.isEmpty = T.isEmpty := by
  rw [ByteArray.toList_eq]; rfl
theorem byt_add0 (T x : List UInt8) (h : (byt T).toList.isEmpty = true) : byt T ++ byt x = byt (addW T x) := by
  rw [byt_empty] at h
  have : T = [] := by simpa using h
  subst this
  rw [byt_app]; rfl
theorem byt_add1 (T x : List UInt8) (h : (byt T).toList.isEmpty = false) : byt T ++ ⟨#[44]⟩ ++ byt x = byt (addW T x) := by
  rw [byt_empty] at h
  have : T ≠ [] := by intro e; subst e; cases h
  rw [show (⟨#[44]⟩ : ByteArray) = byt [44] from rfl, byt_app, byt_app, addW, if_neg this]; simp
attribute [local irreducible] wordsF textW fmtL byt lastS dig2
set_option maxRecDepth 100000 in
set_option maxHeartbeats 4000000 in
theorem ref_format (s : Nat) (w : World) (hs : s < 18446744073709551616) : Calls Tryd.prog 22 #[.int .u64 s] w fun e w' => e = .returned (.string (byt (fmtL s))) ∧ w = w' := by
  have HS := keep hs
  by_cases h0 : s = 0
  · subst h0
    have e : byt (fmtL 0) = ⟨#[45]⟩ := by unfold fmtL byt; rfl
    rw [e]
    go_enter Tryd.func22, Tryd.ntmps22
    go_wp2_with fail
    refine (ref_all _ _).mono ?_
    rintro e w' ⟨rfl, rfl⟩
    rw [show allR 64 = 18446744073709551615 from by decide, show allE 64 = 0 from by decide]
    go_wp2_with fail
    go_ret
    exact ⟨rfl, rfl⟩
  by_cases h1 : s = 18446744073709551615
  · subst h1
    have e : byt (fmtL 18446744073709551615) = ⟨#[42]⟩ := by unfold fmtL byt; rfl
    rw [e]
    go_enter Tryd.func22, Tryd.ntmps22
    go_wp2_with fail
    refine (ref_all _ _).mono ?_
    rintro e w' ⟨rfl, rfl⟩
    rw [show allR 64 = 18446744073709551615 from by decide, show allE 64 = 0 from by decide]
    go_wp2_with fail
    go_ret
    exact ⟨rfl, rfl⟩
  have e : fmtL s = textW s 64 := by unfold fmtL; rw [if_neg h0, if_neg h1]
  rw [e]
  have q0 : ((s : Int) == 0) = false := by simp; omega
  have q1 : ((s : Int) == 18446744073709551615) = false := by simp; omega
  go_enter Tryd.func22, Tryd.ntmps22
  go_wp2_with fail
  refine (ref_all _ _).mono ?_
  rintro e w' ⟨rfl, rfl⟩
  rw [show allR 64 = 18446744073709551615 from by decide, show allE 64 = 0 from by decide]
  go_wp2_with fail
  go_loop [5, 6] (fun sv uv => ∃ (j : Nat) (B : ByteArray), j ≤ 64 ∧ uv = .int .i64 j ∧ sv = .string B ∧ Keep (byt (textW s j) = B ∧ (wordsF s j).1 ≤ j)) (fun _ uv => 64 - (intOf uv).toNat)
  case atStart => exact ⟨0, _, by omega, rfl, rfl, keep ⟨by unfold textW wordsF byt; rfl, by unfold wordsF; exact Nat.le_refl _⟩⟩
  case round =>
    obtain ⟨j, B, hj, rfl, rfl, HB⟩ := hrel
    by_cases hlt : (j : Int) < 64
    · go_wp2_with fail
      refine (ref_has s j _ (by omega) (by omega)).mono ?_
      rintro e w' ⟨rfl, rfl⟩
      have hh : hasB s j = s.testBit j := by simp [hasB]; intro; omega
      rw [Int.toNat_natCast, hh]
      clear hh
      cases hb : s.testBit j
      · have H1 := keep (wordsF_off s j hb)
        clear hb
        go_wp2_with fail
        go_round
        case rel => exact ⟨j + 1, B, by omega, by go_num, rfl, keep ⟨by rw [← HB.out.1]; unfold textW; rw [H1.out], by rw [H1.out]; have := HB.out.2; omega⟩⟩
        case measure => simp [intOf]; omega
      · have H1 := keep hb
        clear hb
        go_wp2_with fail
        go_loop [7] (fun lv => ∃ v : Nat, j ≤ v ∧ v < 64 ∧ lv = .int .i64 v ∧ Keep (∀ i, j < i → i ≤ v → s.testBit i = true)) (fun lv => 64 - (intOf lv).toNat)
        case atStart => exact ⟨j, Nat.le_refl _, by omega, rfl, keep (fun i h1 h2 => by omega)⟩
        case round =>
          obtain ⟨v, hjv, hv, rfl, HV⟩ := hrel
          go_wp2_with fail
          refine (ref_has s (v + 1) _ (by omega) (by omega)).mono ?_
          rintro e w' ⟨rfl, rfl⟩
          have hh : hasB s ((v : Int) + 1) = s.testBit (v + 1) := by
            by_cases c : v + 1 < 64
            · simp [hasB]; intro; omega
            · rw [over_bit s (v + 1) HS.out (by omega)]; simp [hasB]; intro; omega
          rw [Int.toNat_natCast, hh]
          clear hh
          cases hb : s.testBit (v + 1)
          · have H2 := keep hb
            clear hb
            have HV2 := keep (lastS_of s j v HS.out ⟨hjv, HV.out, H2.out⟩)
            have hlen : B.size ≤ 384 := by rw [← HB.out.1]; have := textW_len s j; rw [byt_size]; omega
            by_cases hl : (v : Int) - j < 2
            · by_cases hT : B.toList.isEmpty = true
              · go_wp2_with fail
                refine (ref_digits j (by omega) _).mono ?_
                rintro e w' ⟨rfl, rfl⟩
                generalize hD : (⟨(dig2 j).toArray⟩ : ByteArray) = D
                have hDl : D.size ≤ 2 := by rw [← hD]; exact dig2_len j
                have HD := keep hD
                clear hD
                go_wp2_with fail
                have H3 := text_one s j H1.out HB.out.2 (by rw [HV2.out]; omega)
                exact ⟨⟨j + 1, _, by omega, by go_num, rfl, keep ⟨by rw [H3.1, ← HB.out.1, ← HD.out, byt_eq (dig2 j)]; exact (byt_add0 _ _ (by rw [HB.out.1]; exact hT)).symm, H3.2⟩⟩, by simp [intOf]; omega⟩
              · have hT : B.toList.isEmpty = false := by simpa using hT
                go_wp2_with fail
                refine (ref_digits j (by omega) _).mono ?_
                rintro e w' ⟨rfl, rfl⟩
                generalize hD : (⟨(dig2 j).toArray⟩ : ByteArray) = D
                have hDl : D.size ≤ 2 := by rw [← hD]; exact dig2_len j
                have HD := keep hD
                clear hD
                go_wp2_with fail
                have H3 := text_one s j H1.out HB.out.2 (by rw [HV2.out]; omega)
                exact ⟨⟨j + 1, _, by omega, by go_num, rfl, keep ⟨by rw [H3.1, ← HB.out.1, ← HD.out, byt_eq (dig2 j)]; exact (byt_add1 _ _ (by rw [HB.out.1]; exact hT)).symm, H3.2⟩⟩, by simp [intOf]; omega⟩
            · by_cases hT : B.toList.isEmpty = true
              · go_wp2_with fail
                refine (ref_digits j (by omega) _).mono ?_
                rintro e w' ⟨rfl, rfl⟩
                generalize hD : (⟨(dig2 j).toArray⟩ : ByteArray) = D
                have hDl : D.size ≤ 2 := by rw [← hD]; exact dig2_len j
                have HD := keep hD
                clear hD
                go_wp2_with fail
                refine (ref_digits v (by omega) _).mono ?_
                rintro e w' ⟨rfl, rfl⟩
                generalize hE : (⟨(dig2 v).toArray⟩ : ByteArray) = E
                have hEl : E.size ≤ 2 := by rw [← hE]; exact dig2_len v
                have HE := keep hE
                clear hE
                go_wp2_with fail
                have H3 := text_run s j H1.out HB.out.2 (by rw [HV2.out]; omega)
                rw [HV2.out] at H3
                refine ⟨⟨v + 1, _, by omega, by go_num, rfl, keep ⟨?_, H3.2⟩⟩, by simp [intOf]; omega⟩
                rw [H3.1, ← HB.out.1, ← HD.out, ← HE.out, ← byt_add0 _ _ (by rw [HB.out.1]; exact hT)]
                rw [byt_eq (dig2 j), byt_eq (dig2 v), byt_45]
                simp only [byt_app]
                simp
              · have hT : B.toList.isEmpty = false := by simpa using hT
                go_wp2_with fail
                refine (ref_digits j (by omega) _).mono ?_
                rintro e w' ⟨rfl, rfl⟩
                generalize hD : (⟨(dig2 j).toArray⟩ : ByteArray) = D
                have hDl : D.size ≤ 2 := by rw [← hD]; exact dig2_len j
                have HD := keep hD
                clear hD
                go_wp2_with fail
                refine (ref_digits v (by omega) _).mono ?_
                rintro e w' ⟨rfl, rfl⟩
                generalize hE : (⟨(dig2 v).toArray⟩ : ByteArray) = E
                have hEl : E.size ≤ 2 := by rw [← hE]; exact dig2_len v
                have HE := keep hE
                clear hE
                go_wp2_with fail
                have H3 := text_run s j H1.out HB.out.2 (by rw [HV2.out]; omega)
                rw [HV2.out] at H3
                refine ⟨⟨v + 1, _, by omega, by go_num, rfl, keep ⟨?_, H3.2⟩⟩, by simp [intOf]; omega⟩
                rw [H3.1, ← HB.out.1, ← HD.out, ← HE.out, ← byt_add1 _ _ (by rw [HB.out.1]; exact hT)]
                rw [byt_eq (dig2 j), byt_eq (dig2 v), byt_45]
                simp only [ByteArray.append_assoc, byt_app]
                simp
          · have hv2 : v + 1 < 64 := by
              rcases Nat.lt_or_ge (v + 1) 64 with c | c
              · exact c
              · rw [over_bit s _ HS.out c] at hb; cases hb
            have H2 := keep hb
            clear hb
            go_wp2_with fail
            go_round
            case rel =>
              refine ⟨v + 1, by omega, hv2, by go_num, keep (fun i h1 h2 => ?_)⟩
              rcases Nat.lt_or_ge v i with c | c
              · obtain rfl : i = v + 1 := by omega
                exact H2.out
              · exact HV.out i h1 c
            case measure => simp [intOf]; omega
    · have hje : j = 64 := by omega
      subst hje
      go_wp2_with fail
      go_ret
      exact ⟨by rw [HB.out.1]; rfl, rfl⟩
end Go.Proofs.YtjjdlhbbkkkjnaaDoor
