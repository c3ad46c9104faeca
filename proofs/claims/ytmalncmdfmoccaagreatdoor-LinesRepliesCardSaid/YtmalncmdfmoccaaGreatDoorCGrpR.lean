/- Contracts of Format, package rect's and the reference's. The contract of the reference's Format. -/
import Derived.Test.YtmalncmdfmoccaaGreatDoorCMem
import Derived.Test.YtmalncmdfmoccaaGreatDoorCLexO
import Derived.Test.YtmalncmdfmoccaaGreatDoorCGrpF
namespace Go.Proofs.YtmalncmdfmoccaaGreatDoor
open Go.RowKit
def fmtL (r : R4) : List UInt8:=(formatS r.c1 r.r1).1 ++ (if r.c1 = r.c2 ∧ r.r1 = r.r2 then [] else 58 :: (formatS r.c2 r.r2).1)
def fmtR (r : R4) : List UInt8 × Int:=if checkB r = true then (fmtL r,0) else ([],3)
theorem fmtR_no {r : R4} (h : checkB r = false) : fmtR r = ([],3):=by unfold fmtR; rw [if_neg (by simp [h])]
theorem fmtR_yes {r : R4} (h : checkB r = true) : fmtR r = (fmtL r,0):=by unfold fmtR; rw [if_pos h]
theorem check_valid {a1 a2 a3 a4 : Int} (h : checkB ⟨a1,a2,a3,a4⟩ = true) : validN a1 a2 = true ∧ validN a3 a4 = true:=by
  unfold checkB at h; simp only [Bool.and_eq_true] at h; exact ⟨h.1.1.1,h.1.1.2⟩
theorem format_inj {c r c' r' : Int} (h : validN c r = true) (h' : validN c' r' = true) (e : (formatS c r).1 = (formatS c' r').1) : c = c' ∧ r = r':=by
  have h1:=parse_format c r h
  rw [e,parse_format c' r' h'] at h1
  simp only [Prod.mk.injEq] at h1
  exact ⟨h1.1.symm,h1.2.1.symm⟩
theorem format_len (c r : Int) : (formatS c r).1.length ≤ 3000:=by
  cases hv : validN c r
  · rw [formatS_bad c r hv]; simp
  · have:=validN_parts hv
    rw [formatS_good c r hv]
    have h1:=lettersN_len c.toNat (by omega)
    have h2:=dec_len r.toNat (by omega)
    simp; omega
set_option maxRecDepth 100000 in
set_option maxHeartbeats 4000000 in
theorem rect_Format (a1 a2 a3 a4 : Int) (w : World) (hp : Pow w) :
    Calls Tryz.prog 102 #[.agg #[.int .i64 a1,.int .i64 a2,.int .i64 a3,.int .i64 a4]] w fun e w' => e = .returned (.tuple #[.string ⟨(fmtR ⟨a1,a2,a3,a4⟩).1.toArray⟩,.int .i64 (fmtR ⟨a1,a2,a3,a4⟩).2]) ∧ Below w.heap.size w w':=by
  have hb0 : Below w.heap.size w (w.alloc (.cells #[.int .i64 a1,.int .i64 a2,.int .i64 a3,.int .i64 a4] 49)):=(Below.refl _ _).alloc (Nat.le_refl _) _
  have k0:=Blk.new w 49 #[.int .i64 a1,.int .i64 a2,.int .i64 a3,.int .i64 a4]
  have hz0 : w.heap.size < (w.alloc (.cells #[.int .i64 a1,.int .i64 a2,.int .i64 a3,.int .i64 a4] 49)).heap.size:=by simp
  have HP:=Lib.hid hp
  have HB0:=Lib.hid hb0
  have HK:=Lib.hid k0
  clear hb0 k0 hp
  go_enter Tryz.func102,Tryz.ntmps102
  go_wp2_with fail
  generalize (w.alloc (.cells #[.int .i64 a1,.int .i64 a2,.int .i64 a3,.int .i64 a4] 49)) = W0 at HB0 HK hz0 ⊢
  refine (rect_Check _ _ _ _ _).mono ?_
  rintro e w1 ⟨rfl,hb1⟩
  have k1:=HK.out.below hb1 hz0
  have c0:=k1.cell 0
  have c1:=k1.cell 1
  have c2:=k1.cell 2
  have c3:=k1.cell 3
  simp only [List.getElem?_toArray,List.getElem?_cons_zero,List.getElem?_cons_succ] at c0 c1 c2 c3
  have HB1:=Lib.hid (below_step HB0.out hb1)
  clear hb1 k1 HB0 HK hz0
  have hv1 : checkE ⟨a1,a2,a3,a4⟩ = if checkB ⟨a1,a2,a3,a4⟩ = true then 0 else 3:=rfl
  cases ha : checkB ⟨a1,a2,a3,a4⟩
  · rw [ha] at hv1
    rw [hv1]
    have HA:=Lib.hid (fmtR_no ha)
    clear ha hv1
    go_wp2_with fail
    go_ret2
    exact ⟨by rw [HA.out]; rfl,HB1.out⟩
  · rw [ha] at hv1
    rw [hv1]
    obtain ⟨hva,hvb⟩:=check_valid ha
    have HVA:=Lib.hid hva
    have HVB:=Lib.hid hvb
    have HA:=Lib.hid (fmtR_yes ha)
    clear ha hv1 hva hvb
    go_wp2_with fail
    refine (rect_corners _ _ _ _ _).mono ?_
    rintro e w2 ⟨rfl,hb2⟩
    have HB2:=Lib.hid (below_step HB1.out hb2)
    clear hb2 c0 c1 c2 c3 HB1
    have hb3 : Below w.heap.size w ((w2.alloc (.cells #[.int .i64 a1,.int .i64 a2] 45)).alloc (.cells #[.int .i64 a3,.int .i64 a4] 45)):=(HB2.out.alloc HB2.out.size _).alloc (by have:=HB2.out.size; simp; omega) _
    have K1 : Blk ((w2.alloc (.cells #[.int .i64 a1,.int .i64 a2] 45)).alloc (.cells #[.int .i64 a3,.int .i64 a4] 45)) w2.heap.size 45 #[.int .i64 a1,.int .i64 a2]:=(Blk.new w2 45 #[.int .i64 a1,.int .i64 a2]).alloc _
    have K2 : Blk ((w2.alloc (.cells #[.int .i64 a1,.int .i64 a2] 45)).alloc (.cells #[.int .i64 a3,.int .i64 a4] 45)) (w2.heap.size + 1) 45 #[.int .i64 a3,.int .i64 a4]:=by
      have:=Blk.new (w2.alloc (.cells #[.int .i64 a1,.int .i64 a2] 45)) 45 #[.int .i64 a3,.int .i64 a4]
      simpa using this
    have hz : w2.heap.size + 1 < ((w2.alloc (.cells #[.int .i64 a1,.int .i64 a2] 45)).alloc (.cells #[.int .i64 a3,.int .i64 a4] 45)).heap.size:=by simp
    have HB3:=Lib.hid hb3
    have HK1:=Lib.hid K1
    have HK2:=Lib.hid K2
    clear hb3 K1 K2
    go_wp2_with fail
    generalize ((w2.alloc (.cells #[.int .i64 a1,.int .i64 a2] 45)).alloc (.cells #[.int .i64 a3,.int .i64 a4] 45)) = W4 at HB3 HK1 HK2 hz ⊢
    refine (addr_Format _ _ _ (HP.out.below HB3.out)).mono ?_
    rintro e w5 ⟨rfl,hb⟩
    have k1:=HK1.out.below hb (by omega)
    have k2:=HK2.out.below hb (by omega)
    have c0:=k1.cell 0
    have c1:=k1.cell 1
    simp only [List.getElem?_toArray,List.getElem?_cons_zero,List.getElem?_cons_succ] at c0 c1
    have d0:=k2.cell 0
    have d1:=k2.cell 1
    simp only [List.getElem?_toArray,List.getElem?_cons_zero,List.getElem?_cons_succ] at d0 d1
    have hz5 : w2.heap.size + 1 < w5.heap.size:=by have:=hb.size; omega
    have HB5:=Lib.hid (below_step HB3.out hb)
    clear hb k1 k2 HB3 HK1 HK2 hz
    have hl1:=format_len a1 a2
    generalize hS : (formatS a1 a2).1 = S at hl1 ⊢
    have HS:=Lib.hid hS
    clear hS
    rcases (show (¬ a1 = a3) ∨ (a1 = a3 ∧ ¬ a2 = a4) ∨ (a1 = a3 ∧ a2 = a4) from by omega) with hne | ⟨he,hne⟩ | ⟨he,he2⟩
    · have HF : Hid (fmtL ⟨a1,a2,a3,a4⟩ = S ++ 58 :: (formatS a3 a4).1):=by show _ = _; unfold fmtL; simp only []; rw [if_neg (fun h => hne h.1),HS.out]
      go_wp2_with fail
      refine (addr_Format _ _ _ (HP.out.below HB5.out)).mono ?_
      rintro e w6 ⟨rfl,hb⟩
      have HB6:=Lib.hid (below_step HB5.out hb)
      clear hb
      have hl2:=format_len a3 a4
      generalize hT : (formatS a3 a4).1 = U at hl2 HF ⊢
      have HT:=Lib.hid hT
      clear hT
      go_wp2_with fail
      go_ret2
      exact ⟨by rw [HA.out,HF.out]; simp [bytes_append],HB6.out⟩
    · subst he
      have HF : Hid (fmtL ⟨a1,a2,a1,a4⟩ = S ++ 58 :: (formatS a1 a4).1):=by show _ = _; unfold fmtL; simp only []; rw [if_neg (fun h => hne h.2),HS.out]
      go_wp2_with fail
      refine (addr_Format _ _ _ (HP.out.below HB5.out)).mono ?_
      rintro e w6 ⟨rfl,hb⟩
      have HB6:=Lib.hid (below_step HB5.out hb)
      clear hb
      have hl2:=format_len a1 a4
      generalize hT : (formatS a1 a4).1 = U at hl2 HF ⊢
      have HT:=Lib.hid hT
      clear hT
      go_wp2_with fail
      go_ret2
      exact ⟨by rw [HA.out,HF.out]; simp [bytes_append],HB6.out⟩
    · subst he
      subst he2
      have HF : Hid (fmtL ⟨a1,a2,a1,a2⟩ = S):=by show _ = _; unfold fmtL; simp only []; rw [if_pos (by simp),HS.out,List.append_nil]
      go_wp2_with fail
      go_ret2
      exact ⟨by rw [HA.out,HF.out]; rfl,HB5.out⟩
end Go.Proofs.YtmalncmdfmoccaaGreatDoor
namespace Go.Proofs.YtmalncmdfmoccaaGreatDoor
open Go.RowKit
theorem byt_eq (l : List UInt8) : (⟨l.toArray⟩ : ByteArray) = byt l:=rfl
theorem byt_45 : (⟨#[45]⟩ : ByteArray) = byt [45]:=rfl
theorem byt_size (l : List UInt8) : (byt l).size = l.length:=rfl
theorem byt_app (a b : List UInt8) : byt a ++ byt b = byt (a ++ b):=by
  unfold byt; apply ByteArray.ext; simp
theorem byt_empty (T : List UInt8) : (byt T).toList.isEmpty = T.isEmpty:=by
  rw [ByteArray.toList_eq]; rfl
theorem byt_add0 (T x : List UInt8) (h : (byt T).toList.isEmpty = true) : byt T ++ byt x = byt (addW T x):=by
  rw [byt_empty] at h
  have : T = []:=by simpa using h
  subst this
  rw [byt_app]; rfl
theorem byt_add1 (T x : List UInt8) (h : (byt T).toList.isEmpty = false) : byt T ++ ⟨#[44]⟩ ++ byt x = byt (addW T x):=by
  rw [byt_empty] at h
  have : T ≠ []:=by intro e; subst e; cases h
  rw [show (⟨#[44]⟩ : ByteArray) = byt [44] from rfl,byt_app,byt_app,addW,if_neg this]; simp
attribute [local irreducible] wordsF textW gfmtL byt lastS dig2
set_option maxRecDepth 100000 in
set_option maxHeartbeats 4000000 in
theorem ref18_Format (s : Nat) (w : World) (hs : s < 18446744073709551616) : Calls Tryz.prog 68 #[.int .u64 s] w fun e w' => e = .returned (.string (byt (gfmtL s))) ∧ w = w':=by
  have HS:=keep hs
  by_cases h0 : s = 0
  · subst h0
    have e : byt (gfmtL 0) = ⟨#[45]⟩:=by unfold gfmtL byt; rfl
    rw [e]
    go_enter Tryz.func68,Tryz.ntmps68
    go_wp2_with fail
    refine (ref_all _ _).mono ?_
    rintro e w' ⟨rfl,rfl⟩
    rw [show allR 64 = 18446744073709551615 from by decide,show allE 64 = 0 from by decide]
    go_wp2_with fail
    go_ret
    exact ⟨rfl,rfl⟩
  by_cases h1 : s = 18446744073709551615
  · subst h1
    have e : byt (gfmtL 18446744073709551615) = ⟨#[42]⟩:=by unfold gfmtL byt; rfl
    rw [e]
    go_enter Tryz.func68,Tryz.ntmps68
    go_wp2_with fail
    refine (ref_all _ _).mono ?_
    rintro e w' ⟨rfl,rfl⟩
    rw [show allR 64 = 18446744073709551615 from by decide,show allE 64 = 0 from by decide]
    go_wp2_with fail
    go_ret
    exact ⟨rfl,rfl⟩
  have e : gfmtL s = textW s 64:=by unfold gfmtL; rw [if_neg h0,if_neg h1]
  rw [e]
  have q0 : ((s : Int) == 0) = false:=by simp; omega
  have q1 : ((s : Int) == 18446744073709551615) = false:=by simp; omega
  go_enter Tryz.func68,Tryz.ntmps68
  go_wp2_with fail
  refine (ref_all _ _).mono ?_
  rintro e w' ⟨rfl,rfl⟩
  rw [show allR 64 = 18446744073709551615 from by decide,show allE 64 = 0 from by decide]
  go_wp2_with fail
  go_loop [5,6] (fun sv uv => ∃ (j : Nat) (B : ByteArray),j ≤ 64 ∧ uv = .int .i64 j ∧ sv = .string B ∧ Keep (byt (textW s j) = B ∧ (wordsF s j).1 ≤ j)) (fun _ uv => 64 - (intOf uv).toNat)
  case atStart => exact ⟨0,_,by omega,rfl,rfl,keep ⟨by unfold textW wordsF byt; rfl,by unfold wordsF; exact Nat.le_refl _⟩⟩
  case round =>
    obtain ⟨j,B,hj,rfl,rfl,HB⟩:=hrel
    by_cases hlt : (j : Int) < 64
    · go_wp2_with fail
      refine (ref_has s j _ (by omega) (by omega)).mono ?_
      rintro e w' ⟨rfl,rfl⟩
      have hh : hasB s j = s.testBit j:=by simp [hasB]; intro; omega
      rw [Int.toNat_natCast,hh]
      clear hh
      cases hb : s.testBit j
      · have H1:=keep (wordsF_off s j hb)
        clear hb
        go_wp2_with fail
        go_round
        case rel => exact ⟨j + 1,B,by omega,by go_num,rfl,keep ⟨by rw [← HB.out.1]; unfold textW; rw [H1.out],by rw [H1.out]; have:=HB.out.2; omega⟩⟩
        case measure => simp [intOf]; omega
      · have H1:=keep hb
        clear hb
        go_wp2_with fail
        go_loop [7] (fun lv => ∃ v : Nat,j ≤ v ∧ v < 64 ∧ lv = .int .i64 v ∧ Keep (∀ i,j < i → i ≤ v → s.testBit i = true)) (fun lv => 64 - (intOf lv).toNat)
        case atStart => exact ⟨j,Nat.le_refl _,by omega,rfl,keep (fun i h1 h2 => by omega)⟩
        case round =>
          obtain ⟨v,hjv,hv,rfl,HV⟩:=hrel
          go_wp2_with fail
          refine (ref_has s (v + 1) _ (by omega) (by omega)).mono ?_
          rintro e w' ⟨rfl,rfl⟩
          have hh : hasB s ((v : Int) + 1) = s.testBit (v + 1):=by
            by_cases c : v + 1 < 64
            · simp [hasB]; intro; omega
            · rw [over_bit s (v + 1) HS.out (by omega)]; simp [hasB]; intro; omega
          rw [Int.toNat_natCast,hh]
          clear hh
          cases hb : s.testBit (v + 1)
          · have H2:=keep hb
            clear hb
            have HV2:=keep (lastS_of s j v HS.out ⟨hjv,HV.out,H2.out⟩)
            have hlen : B.size ≤ 384:=by rw [← HB.out.1]; have:=textW_len s j; rw [byt_size]; omega
            by_cases hl : (v : Int) - j < 2
            · by_cases hT : B.toList.isEmpty = true
              · go_wp2_with fail
                refine (ref_digits j (by omega) _).mono ?_
                rintro e w' ⟨rfl,rfl⟩
                generalize hD : (⟨(dig2 j).toArray⟩ : ByteArray) = D
                have hDl : D.size ≤ 2:=by rw [← hD]; exact dig2_len j
                have HD:=keep hD
                clear hD
                go_wp2_with fail
                have H3:=text_one s j H1.out HB.out.2 (by rw [HV2.out]; omega)
                exact ⟨⟨j + 1,_,by omega,by go_num,rfl,keep ⟨by rw [H3.1,← HB.out.1,← HD.out,byt_eq (dig2 j)]; exact (byt_add0 _ _ (by rw [HB.out.1]; exact hT)).symm,H3.2⟩⟩,by simp [intOf]; omega⟩
              · have hT : B.toList.isEmpty = false:=by simpa using hT
                go_wp2_with fail
                refine (ref_digits j (by omega) _).mono ?_
                rintro e w' ⟨rfl,rfl⟩
                generalize hD : (⟨(dig2 j).toArray⟩ : ByteArray) = D
                have hDl : D.size ≤ 2:=by rw [← hD]; exact dig2_len j
                have HD:=keep hD
                clear hD
                go_wp2_with fail
                have H3:=text_one s j H1.out HB.out.2 (by rw [HV2.out]; omega)
                exact ⟨⟨j + 1,_,by omega,by go_num,rfl,keep ⟨by rw [H3.1,← HB.out.1,← HD.out,byt_eq (dig2 j)]; exact (byt_add1 _ _ (by rw [HB.out.1]; exact hT)).symm,H3.2⟩⟩,by simp [intOf]; omega⟩
            · by_cases hT : B.toList.isEmpty = true
              · go_wp2_with fail
                refine (ref_digits j (by omega) _).mono ?_
                rintro e w' ⟨rfl,rfl⟩
                generalize hD : (⟨(dig2 j).toArray⟩ : ByteArray) = D
                have hDl : D.size ≤ 2:=by rw [← hD]; exact dig2_len j
                have HD:=keep hD
                clear hD
                go_wp2_with fail
                refine (ref_digits v (by omega) _).mono ?_
                rintro e w' ⟨rfl,rfl⟩
                generalize hE : (⟨(dig2 v).toArray⟩ : ByteArray) = E
                have hEl : E.size ≤ 2:=by rw [← hE]; exact dig2_len v
                have HE:=keep hE
                clear hE
                go_wp2_with fail
                have H3:=text_run s j H1.out HB.out.2 (by rw [HV2.out]; omega)
                rw [HV2.out] at H3
                refine ⟨⟨v + 1,_,by omega,by go_num,rfl,keep ⟨?_,H3.2⟩⟩,by simp [intOf]; omega⟩
                rw [H3.1,← HB.out.1,← HD.out,← HE.out,← byt_add0 _ _ (by rw [HB.out.1]; exact hT)]
                rw [byt_eq (dig2 j),byt_eq (dig2 v),byt_45]
                simp only [byt_app]
                simp
              · have hT : B.toList.isEmpty = false:=by simpa using hT
                go_wp2_with fail
                refine (ref_digits j (by omega) _).mono ?_
                rintro e w' ⟨rfl,rfl⟩
                generalize hD : (⟨(dig2 j).toArray⟩ : ByteArray) = D
                have hDl : D.size ≤ 2:=by rw [← hD]; exact dig2_len j
                have HD:=keep hD
                clear hD
                go_wp2_with fail
                refine (ref_digits v (by omega) _).mono ?_
                rintro e w' ⟨rfl,rfl⟩
                generalize hE : (⟨(dig2 v).toArray⟩ : ByteArray) = E
                have hEl : E.size ≤ 2:=by rw [← hE]; exact dig2_len v
                have HE:=keep hE
                clear hE
                go_wp2_with fail
                have H3:=text_run s j H1.out HB.out.2 (by rw [HV2.out]; omega)
                rw [HV2.out] at H3
                refine ⟨⟨v + 1,_,by omega,by go_num,rfl,keep ⟨?_,H3.2⟩⟩,by simp [intOf]; omega⟩
                rw [H3.1,← HB.out.1,← HD.out,← HE.out,← byt_add1 _ _ (by rw [HB.out.1]; exact hT)]
                rw [byt_eq (dig2 j),byt_eq (dig2 v),byt_45]
                simp only [ByteArray.append_assoc,byt_app]
                simp
          · have hv2 : v + 1 < 64:=by
              rcases Nat.lt_or_ge (v + 1) 64 with c | c
              · exact c
              · rw [over_bit s _ HS.out c] at hb; cases hb
            have H2:=keep hb
            clear hb
            go_wp2_with fail
            go_round
            case rel =>
              refine ⟨v + 1,by omega,hv2,by go_num,keep (fun i h1 h2 => ?_)⟩
              rcases Nat.lt_or_ge v i with c | c
              · obtain rfl : i = v + 1:=by omega
                exact H2.out
              · exact HV.out i h1 c
            case measure => simp [intOf]; omega
    · have hje : j = 64:=by omega
      subst hje
      go_wp2_with fail
      go_ret
      exact ⟨by rw [HB.out.1]; rfl,rfl⟩
end Go.Proofs.YtmalncmdfmoccaaGreatDoor
