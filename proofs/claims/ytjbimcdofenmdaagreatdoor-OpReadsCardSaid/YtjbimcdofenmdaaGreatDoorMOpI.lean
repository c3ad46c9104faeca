/- The contract of op.read. -/
import Derived.Test.YtjbimcdofenmdaaGreatDoorMOpE
import Derived.Test.YtjbimcdofenmdaaGreatDoorMOpG
import Derived.Test.YtjbimcdofenmdaaGreatDoorMOpH
namespace Go.Proofs.YtjbimcdofenmdaaGreatDoor
open Go.RowKit
theorem index_wordsI (k : Nat) (h : k ≤ 10) (w : World) : (Instr.index 48 (.agg wordsA.toArray) (.int .i64 (k : Nat))).run Tryz.prog w = .ok (.string ⟨(wordK k).toArray⟩) w:=by
 rcases (show k = 0 ∨ k = 1 ∨ k = 2 ∨ k = 3 ∨ k = 4 ∨ k = 5 ∨ k = 6 ∨ k = 7 ∨ k = 8 ∨ k = 9 ∨ k = 10 by omega) with rfl | rfl | rfl | rfl | rfl | rfl | rfl | rfl | rfl | rfl | rfl <;> kernel_rfl
def kindU (w : List UInt8) (i : Nat) : Nat:=(List.range i).foldl (fun o k => if k ≠ 0 ∧ wordK k = w then k else o) 0
theorem kindU_succ (w : List UInt8) (i : Nat) : kindU w (i + 1) = if i ≠ 0 ∧ wordK i = w then i else kindU w i:=by
 unfold kindU; rw [List.range_succ,List.foldl_append]; rfl
theorem kindU_le (w : List UInt8) (i : Nat) : kindU w i ≤ i:=by
 induction i with
 | zero => exact Nat.le_refl _
 | succ i ih => rw [kindU_succ]; split <;> omega
theorem bytes_same (a b : List UInt8) : ((⟨a.toArray⟩ : ByteArray) == ⟨b.toArray⟩) = decide (a = b):=by
 show (a.toArray == b.toArray) = decide (a = b)
 rw [Bool.eq_iff_iff,beq_iff_eq,decide_eq_true_eq]
 constructor
 ·intro h; simpa using congrArg Array.toList h
 ·rintro rfl; rfl
def ReadOut (o : Option OpV) (w0 : World) (e : Ending) (w' : World) : Prop:=match o with
 | some x => e = .returned x.V ∧ Below w0.heap.size w0 w'
 | none => FaultAt w0 e w'
set_option maxRecDepth 100000 in
set_option maxHeartbeats 16000000 in
theorem op_read (l : List UInt8) (w : World) (hs : l.length ≤ 100000) (he : Env6 w) :
  Calls Tryz.prog 39 #[.string ⟨l.toArray⟩] w (ReadOut (readV l) w):=by
 have HE:=keep he
 clear he
 have HV : Hid (Ln w [kVar w.heap.size 28 [.int .u8 0,.int .i64 0,.int .i64 0,.int .i64 0,.int .i64 0,.int .i64 0,.string ⟨#[]⟩,.int .u64 0,.int .u64 0,.int .u64 0,.int .u8 0,.int .u64 0,.int .i64 0]] (w.heap.size + 1) l ((w.alloc (.cells #[.int .u8 0,.int .i64 0,.int .i64 0,.int .i64 0,.int .i64 0,.int .i64 0,.string ⟨#[]⟩,.int .u64 0,.int .u64 0,.int .u64 0,.int .u8 0,.int .u64 0,.int .i64 0] 28)).alloc (.cells #[.string ⟨l.toArray⟩] 87))):=Lib.hid ⟨by omega,by intro x hx; rw [List.mem_singleton] at hx; subst hx; show some w.heap.size ≠ some (w.heap.size + 1); simp,hs,((Ok.start w).var w.heap.size 28 [.int .u8 0,.int .i64 0,.int .i64 0,.int .i64 0,.int .i64 0,.int .i64 0,.string ⟨#[]⟩,.int .u64 0,.int .u64 0,.int .u64 0,.int .u8 0,.int .u64 0,.int .i64 0] rfl).var (w.heap.size + 1) 87 [.string ⟨l.toArray⟩] (by simp)⟩
 clear hs
 obtain ⟨o,ho⟩ : ∃ o,readV l = o:=⟨_,rfl⟩
 rw [ho]
 have HO:=keep ho
 clear ho
 obtain ⟨R,hR⟩ : ∃ R,ReadOut o w = R:=⟨_,rfl⟩
 rw [hR]
 go_enter Tryz.func39,Tryz.ntmps39
 go_wp2_with fail
 generalize ((w.alloc (.cells #[.int .u8 0,.int .i64 0,.int .i64 0,.int .i64 0,.int .i64 0,.int .i64 0,.string ⟨#[]⟩,.int .u64 0,.int .u64 0,.int .u64 0,.int .u8 0,.int .u64 0,.int .i64 0] 28)).alloc (.cells #[.string ⟨l.toArray⟩] 87)) = W1 at HV ⊢
 obtain ⟨rb,hrbe⟩ : ∃ rb,w.heap.size = rb:=⟨_,rfl⟩
 obtain ⟨lb,hlbe⟩ : ∃ lb,rb + 1 = lb:=⟨_,rfl⟩
 have hrb : w.heap.size ≤ rb:=by omega
 rw [hrbe,hlbe] at HV ⊢
 clear hrbe hlbe
 refine (l_word w _ lb l _ HV.out HE.out).mono ?_
 rintro e w21 ⟨rfl,h1⟩
 have H22:=Lib.hid h1
 clear h1 HV
 obtain ⟨kw,hkw⟩ : ∃ kw,fstW l = kw:=⟨_,rfl⟩
 rw [hkw]
 have HKW:=keep hkw
 clear hkw
 go_wp2_with fail
 refine (op_words _).mono ?_
 rintro e w23 ⟨rfl,hb⟩
 have H24:=Lib.hid (H22.out.below hb)
 clear hb H22
 go_wp2_with fail
 go_loopw [18] (fun iv wr => ∃ i : Nat,i ≤ 11 ∧ iv = .int .i64 (i : Int) ∧ Hid (Ln w [kVar rb 28 [.int .u8 (kindU kw i : Nat),.int .i64 0,.int .i64 0,.int .i64 0,.int .i64 0,.int .i64 0,.string ⟨#[]⟩,.int .u64 0,.int .u64 0,.int .u64 0,.int .u8 0,.int .u64 0,.int .i64 0]] lb (sndW l) wr)) (fun iv _ => 11 - (intOf iv).toNat)
 case atStart => exact ⟨0,Nat.zero_le _,rfl,H24⟩
 case round =>
  clear H24
  obtain ⟨i,hi,rfl,H⟩:=hrel
  obtain ⟨wp,rfl⟩ : ∃ wp : World,wp = wr:=⟨_,rfl⟩
  by_cases hlt : (i : Int) < 11
  ·have hix:=index_wordsI i (by omega)
   have hle:=kindU_le kw i
   have F25:=H.out.2.2.2.sees
   simp only [sees,kVar,cellsAt,Nat.reduceAdd] at F25
   obtain ⟨⟨⟨z25,fz25⟩,y25,-⟩,⟨⟨q25,fq25⟩,c25_0,c25_1,c25_2,c25_3,c25_4,c25_5,c25_6,c25_7,c25_8,c25_9,c25_10,c25_11,c25_12,-⟩,-⟩:=F25
   have hsame:=bytes_same (wordK i) kw
   have hw8 : IntKind.u8.wrap (i : Int) = (i : Int):=Go.IntWalk.u8_in _ (by omega)
   by_cases hq : wordK i = kw
   ·rw [decide_eq_true hq] at hsame
    by_cases hi0 : (i : Int) > 0
    ·have hku : kindU kw (i + 1) = i:=by rw [kindU_succ,if_pos ⟨by omega,hq⟩]
     have HP:=Lib.hid (show Ln w [kVar rb 28 [.int .u8 (kindU kw (i + 1) : Nat),.int .i64 0,.int .i64 0,.int .i64 0,.int .i64 0,.int .i64 0,.string ⟨#[]⟩,.int .u64 0,.int .u64 0,.int .u64 0,.int .u8 0,.int .u64 0,.int .i64 0]] lb (sndW l) (wp.setCell ⟨rb,0,none⟩ (.int .u8 (i : Int))) by rw [hku]; exact H.out.put 0 (.int .u8 (i : Nat)) hrb (fun _ h => absurd h (by simp)))
     clear hku
     go_wp2_with fail
     go_roundw
     case rel => exact ⟨i + 1,by omega,by go_num,HP⟩
     case measure => simp [intOf]; omega
    ·skip
     have HP:=Lib.hid (show Ln w [kVar rb 28 [.int .u8 (kindU kw (i + 1) : Nat),.int .i64 0,.int .i64 0,.int .i64 0,.int .i64 0,.int .i64 0,.string ⟨#[]⟩,.int .u64 0,.int .u64 0,.int .u64 0,.int .u8 0,.int .u64 0,.int .i64 0]] lb (sndW l) wp by rw [kindU_succ,if_neg (fun h => h.1 (by omega))]; exact H.out)
     go_wp2_with fail
     go_roundw
     case rel => exact ⟨i + 1,by omega,by go_num,HP⟩
     case measure => simp [intOf]; omega
   ·rw [decide_eq_false hq] at hsame
    have HP:=Lib.hid (show Ln w [kVar rb 28 [.int .u8 (kindU kw (i + 1) : Nat),.int .i64 0,.int .i64 0,.int .i64 0,.int .i64 0,.int .i64 0,.string ⟨#[]⟩,.int .u64 0,.int .u64 0,.int .u64 0,.int .u8 0,.int .u64 0,.int .i64 0]] lb (sndW l) wp by rw [kindU_succ,if_neg (fun h => hq h.2)]; exact H.out)
    go_wp2_with fail
    go_roundw
    case rel => exact ⟨i + 1,by omega,by go_num,HP⟩
    case measure => simp [intOf]; omega
  ·obtain rfl : i = 11:=by omega
   have HKK:=keep (show kindU kw 11 = kindP (fstW l) by rw [HKW.out]; rfl)
   have hk11:=kindU_le kw 11
   obtain ⟨k,hk⟩ : ∃ k,kindU kw 11 = k:=⟨_,rfl⟩
   have hkle : k ≤ 10:=by
    rw [← hk,kindU_succ]
    have:=kindU_le kw 10
    split <;> omega
   rw [hk] at HKK H
   clear hk hk11 hlt hi
   have HK:=keep HKK.out.symm
   clear HKK
   have F26:=H.out.2.2.2.sees
   simp only [sees,kVar,cellsAt,Nat.reduceAdd] at F26
   obtain ⟨⟨⟨z26,fz26⟩,y26,-⟩,⟨⟨q26,fq26⟩,c26_0,c26_1,c26_2,c26_3,c26_4,c26_5,c26_6,c26_7,c26_8,c26_9,c26_10,c26_11,c26_12,-⟩,-⟩:=F26
   by_cases hk0 : 0 < k
   case neg =>
    have hk00 : k = 0:=by omega
    have hkd : decide (0 < k) = false:=decide_eq_false hk0
    go_wp2_with fail
    have ho : o = none:=by
     rw [← HO.out]; unfold readV; rw [HK.out,if_pos hk00]
    subst ho
    refine (op_must_no w _ H.out.bel).mono ?_
    rintro e w99 ⟨rfl,hb⟩
    have HB:=Lib.hid hb
    clear hb
    clear z26 fz26 y26 q26 fq26 c26_0 c26_1 c26_2 c26_3 c26_4 c26_5 c26_6 c26_7 c26_8 c26_9 c26_10 c26_11 c26_12
    go_wp2_with fail
    subst hR
    exact ⟨rfl,rfl,HB.out⟩
   have hkd : decide (0 < k) = true:=decide_eq_true hk0
   go_wp2_with fail
   refine (op_must_yes _).mono ?_
   rintro e w27 ⟨rfl,hw⟩
   obtain rfl : wp = w27:=hw.symm
   clear hkd
   have hk1 : ¬ k = 0:=by omega
   cases hu : numP (fstW (sndW l))
   ·have HU:=keep hu
    clear hu
    go_wp2_with fail
    have ho : o = none:=by
     rw [← HO.out]; unfold readV; rw [HK.out,if_neg hk1,HU.out]; rfl
    subst ho
    refine (l_number_no w _ lb (sndW (l)) _ H.out HE.out HU.out).mono ?_
    rintro e w99 ⟨rfl,hb⟩
    have HB:=Lib.hid hb
    clear hb
    clear z26 fz26 y26 q26 fq26 c26_0 c26_1 c26_2 c26_3 c26_4 c26_5 c26_6 c26_7 c26_8 c26_9 c26_10 c26_11 c26_12
    go_wp2_with fail
    subst hR
    exact ⟨rfl,rfl,HB.out⟩
   ·rename_i v0
    have HU:=keep hu
    clear hu
    go_wp2_with fail
    refine (l_number_yes w _ lb (sndW (l)) _ H.out HE.out v0 HU.out).mono ?_
    rintro e w28 ⟨rfl,h1⟩
    clear z26 fz26 y26 q26 fq26 c26_0 c26_1 c26_2 c26_3 c26_4 c26_5 c26_6 c26_7 c26_8 c26_9 c26_10 c26_11 c26_12
    have H29:=Lib.hid h1
    clear h1 H
    have F30:=H29.out.2.2.2.sees
    simp only [sees,kVar,cellsAt,Nat.reduceAdd] at F30
    obtain ⟨⟨⟨z30,fz30⟩,y30,-⟩,⟨⟨q30,fq30⟩,c30_0,c30_1,c30_2,c30_3,c30_4,c30_5,c30_6,c30_7,c30_8,c30_9,c30_10,c30_11,c30_12,-⟩,-⟩:=F30
    go_upto_region 11 with fail
    have H31 : Hid (Ln w [kVar rb 28 [.int .u8 (k : Nat),.int .i64 v0,.int .i64 0,.int .i64 0,.int .i64 0,.int .i64 0,.string ⟨#[]⟩,.int .u64 0,.int .u64 0,.int .u64 0,.int .u8 0,.int .u64 0,.int .i64 0]] lb (sndW (sndW (l))) (w28.setCell ⟨rb,1,none⟩ (.int .i64 v0))):=Lib.hid (H29.out.put 1 (.int .i64 v0) hrb (fun _ h => absurd h (by simp)))
    clear z30 fz30 y30 q30 fq30 c30_0 c30_1 c30_2 c30_3 c30_4 c30_5 c30_6 c30_7 c30_8 c30_9 c30_10 c30_11 c30_12
    clear H29
    generalize (w28.setCell ⟨rb,1,none⟩ (.int .i64 v0)) = W32 at H31 ⊢
    have F33:=H31.out.2.2.2.sees
    simp only [sees,kVar,cellsAt,Nat.reduceAdd] at F33
    obtain ⟨⟨⟨z33,fz33⟩,y33,-⟩,⟨⟨q33,fq33⟩,c33_0,c33_1,c33_2,c33_3,c33_4,c33_5,c33_6,c33_7,c33_8,c33_9,c33_10,c33_11,c33_12,-⟩,-⟩:=F33
    go_wp2_with fail
    cases hus : usesR k
    ·skip
     refine (target_not k hus v0 0 0 0 0 [] 0 0 0 0 0 0 _).mono ?_
     rintro e w34 ⟨rfl,hb⟩
     clear z33 fz33 y33 q33 fq33 c33_0 c33_1 c33_2 c33_3 c33_4 c33_5 c33_6 c33_7 c33_8 c33_9 c33_10 c33_11 c33_12
     have H35:=Lib.hid (H31.out.below hb)
     clear hb H31
     go_upto_region 14 with fail
     have H36:=Lib.hid (H35.out.below ((Below.refl _ _).alloc (Nat.le_refl _) (.cells #[.int .i64 0,.int .i64 0,.int .i64 0,.int .i64 0] 23)))
     clear H35
     generalize (w34.alloc (.cells #[.int .i64 0,.int .i64 0,.int .i64 0,.int .i64 0] 23)) = W37 at H36 ⊢
     have F38:=H36.out.2.2.2.sees
     simp only [sees,kVar,cellsAt,Nat.reduceAdd] at F38
     obtain ⟨⟨⟨z38,fz38⟩,y38,-⟩,⟨⟨q38,fq38⟩,c38_0,c38_1,c38_2,c38_3,c38_4,c38_5,c38_6,c38_7,c38_8,c38_9,c38_10,c38_11,c38_12,-⟩,-⟩:=F38
     go_upto_region 15 with fail
     by_cases h9 : k = 9
     ·skip
      have h3 : ¬ k = 3:=by unfold usesR at hus; simp at hus; omega
      have e3 : ((k : Int) == 3) = false:=by simp; omega
      have h7 : ¬ k = 7:=by unfold usesR at hus; simp at hus; omega
      have e7 : ((k : Int) == 7) = false:=by simp; omega
      have h8 : ¬ k = 8:=by unfold usesR at hus; simp at hus; omega
      have e8 : ((k : Int) == 8) = false:=by simp; omega
      have e9 : ((k : Int) == 9) = true:=by simp; omega
      have HK9:=keep h9
      clear h9
      cases hn : numP (fstW (sndW (sndW (l))))
      ·have HN:=keep hn
       clear hn
       go_wp2_with fail
       have ho : o = none:=by
        rw [← HO.out]; unfold readV; rw [HK.out,if_neg hk1,HU.out]; simp only [Option.bind_some,hus,Bool.false_eq_true,if_false]
        unfold tailP
        simp only [if_neg h3,if_neg h7,if_neg h8,if_pos HK9.out,HN.out,Option.bind_none]
       subst ho
       refine (l_number_no w _ lb (sndW (sndW (l))) _ H36.out HE.out HN.out).mono ?_
       rintro e w99 ⟨rfl,hb⟩
       have HB:=Lib.hid hb
       clear hb
       clear z38 fz38 y38 q38 fq38 c38_0 c38_1 c38_2 c38_3 c38_4 c38_5 c38_6 c38_7 c38_8 c38_9 c38_10 c38_11 c38_12
       go_wp2_with fail
       subst hR
       exact ⟨rfl,rfl,HB.out⟩
      ·rename_i vn
       have HN:=keep hn
       clear hn
       go_wp2_with fail
       refine (l_number_yes w _ lb (sndW (sndW (l))) _ H36.out HE.out vn HN.out).mono ?_
       rintro e w39 ⟨rfl,h1⟩
       clear z38 fz38 y38 q38 fq38 c38_0 c38_1 c38_2 c38_3 c38_4 c38_5 c38_6 c38_7 c38_8 c38_9 c38_10 c38_11 c38_12
       have H40:=Lib.hid h1
       clear h1 H36
       have F41:=H40.out.2.2.2.sees
       simp only [sees,kVar,cellsAt,Nat.reduceAdd] at F41
       obtain ⟨⟨⟨z41,fz41⟩,y41,-⟩,⟨⟨q41,fq41⟩,c41_0,c41_1,c41_2,c41_3,c41_4,c41_5,c41_6,c41_7,c41_8,c41_9,c41_10,c41_11,c41_12,-⟩,-⟩:=F41
       go_upto_region 28 with fail
       have H42 : Hid (Ln w [kVar rb 28 [.int .u8 (k : Nat),.int .i64 v0,.int .i64 0,.int .i64 0,.int .i64 0,.int .i64 0,.string ⟨#[]⟩,.int .u64 0,.int .u64 0,.int .u64 0,.int .u8 0,.int .u64 0,.int .i64 vn]] lb (sndW (sndW (sndW (l)))) (w39.setCell ⟨rb,12,none⟩ (.int .i64 vn))):=Lib.hid (H40.out.put 12 (.int .i64 vn) hrb (fun _ h => absurd h (by simp)))
       clear z41 fz41 y41 q41 fq41 c41_0 c41_1 c41_2 c41_3 c41_4 c41_5 c41_6 c41_7 c41_8 c41_9 c41_10 c41_11 c41_12
       clear H40
       generalize (w39.setCell ⟨rb,12,none⟩ (.int .i64 vn)) = W43 at H42 ⊢
       have ho : o = some ⟨k,v0,R4.zero,[],0,0,0,0,0,vn⟩:=by
        rw [← HO.out]; unfold readV; rw [HK.out,if_neg hk1,HU.out]; simp only [Option.bind_some,hus,Bool.false_eq_true,if_false]
        unfold tailP
        simp only [if_neg h3,if_neg h7,if_neg h8,if_pos HK9.out,HN.out,Option.bind_some]
       subst ho
       go_upto_region 28 with fail
       have F44:=H42.out.2.2.2.sees
       simp only [sees,kVar,cellsAt,Nat.reduceAdd] at F44
       obtain ⟨⟨⟨z44,fz44⟩,y44,-⟩,⟨⟨q44,fq44⟩,c44_0,c44_1,c44_2,c44_3,c44_4,c44_5,c44_6,c44_7,c44_8,c44_9,c44_10,c44_11,c44_12,-⟩,-⟩:=F44
       have HT : Hid (Ln w [kVar rb 28 [.int .u8 (k : Nat),.int .i64 v0,.int .i64 0,.int .i64 0,.int .i64 0,.int .i64 0,.string ⟨#[]⟩,.int .u64 0,.int .u64 0,.int .u64 0,.int .u8 0,.int .u64 0,.int .i64 vn]] lb (sndW (sndW (sndW (l)))) ((((((((((((((W43.setCell ⟨rb,0,none⟩ (.int .u8 (k : Nat))).setCell ⟨rb,1,none⟩ (.int .i64 v0)).setCell ⟨rb,2,none⟩ (.int .i64 0)).setCell ⟨rb,3,none⟩ (.int .i64 0)).setCell ⟨rb,4,none⟩ (.int .i64 0)).setCell ⟨rb,5,none⟩ (.int .i64 0)).setCell ⟨rb,6,none⟩ (.string ⟨#[]⟩)).setCell ⟨rb,7,none⟩ (.int .u64 0)).setCell ⟨rb,8,none⟩ (.int .u64 0)).setCell ⟨rb,9,none⟩ (.int .u64 0)).setCell ⟨rb,10,none⟩ (.int .u8 0)).setCell ⟨rb,11,none⟩ (.int .u64 0)).setCell ⟨rb,12,none⟩ (.int .i64 vn)))):=Lib.hid (((((((((((((H42.out.put 0 (.int .u8 (k : Nat)) hrb (fun _ h => absurd h (by simp))).put 1 (.int .i64 v0) hrb (fun _ h => absurd h (by simp))).put 2 (.int .i64 0) hrb (fun _ h => absurd h (by simp))).put 3 (.int .i64 0) hrb (fun _ h => absurd h (by simp))).put 4 (.int .i64 0) hrb (fun _ h => absurd h (by simp))).put 5 (.int .i64 0) hrb (fun _ h => absurd h (by simp))).put 6 (.string ⟨#[]⟩) hrb (fun _ h => absurd h (by simp))).put 7 (.int .u64 0) hrb (fun _ h => absurd h (by simp))).put 8 (.int .u64 0) hrb (fun _ h => absurd h (by simp))).put 9 (.int .u64 0) hrb (fun _ h => absurd h (by simp))).put 10 (.int .u8 0) hrb (fun _ h => absurd h (by simp))).put 11 (.int .u64 0) hrb (fun _ h => absurd h (by simp))).put 12 (.int .i64 vn) hrb (fun _ h => absurd h (by simp)))
       go_wp2_with fail
       have F:=HT.out.2.2.2.sees
       simp only [sees,kVar,cellsAt,Nat.reduceAdd] at F
       obtain ⟨-,⟨-,g0,g1,g2,g3,g4,g5,g6,g7,g8,g9,g10,g11,g12,-⟩,-⟩:=F
       refine bodyPost_ret (v:=.agg #[.int .u8 (k : Nat),.int .i64 v0,.int .i64 0,.int .i64 0,.int .i64 0,.int .i64 0,.string ⟨#[]⟩,.int .u64 0,.int .u64 0,.int .u64 0,.int .u8 0,.int .u64 0,.int .i64 vn]) (by simp [results,Tryz.results39,go_sem,g0,g1,g2,g3,g4,g5,g6,g7,g8,g9,g10,g11,g12]) rfl ?_
       subst hR
       exact ⟨rfl,HT.out.bel⟩
     ·skip
      have h3 : ¬ k = 3:=by unfold usesR at hus; simp at hus; omega
      have e3 : ((k : Int) == 3) = false:=by simp; omega
      have h7 : ¬ k = 7:=by unfold usesR at hus; simp at hus; omega
      have e7 : ((k : Int) == 7) = false:=by simp; omega
      have h8 : ¬ k = 8:=by unfold usesR at hus; simp at hus; omega
      have e8 : ((k : Int) == 8) = false:=by simp; omega
      have e9 : ((k : Int) == 9) = false:=by simp; omega
      have ho : o = some ⟨k,v0,R4.zero,[],0,0,0,0,0,0⟩:=by
       rw [← HO.out]; unfold readV; rw [HK.out,if_neg hk1,HU.out]; simp only [Option.bind_some,hus,Bool.false_eq_true,if_false]
       unfold tailP
       simp only [if_neg h3,if_neg h7,if_neg h8,if_neg h9]
      subst ho
      go_upto_region 28 with fail
      have F45:=H36.out.2.2.2.sees
      simp only [sees,kVar,cellsAt,Nat.reduceAdd] at F45
      obtain ⟨⟨⟨z45,fz45⟩,y45,-⟩,⟨⟨q45,fq45⟩,c45_0,c45_1,c45_2,c45_3,c45_4,c45_5,c45_6,c45_7,c45_8,c45_9,c45_10,c45_11,c45_12,-⟩,-⟩:=F45
      have HT : Hid (Ln w [kVar rb 28 [.int .u8 (k : Nat),.int .i64 v0,.int .i64 0,.int .i64 0,.int .i64 0,.int .i64 0,.string ⟨#[]⟩,.int .u64 0,.int .u64 0,.int .u64 0,.int .u8 0,.int .u64 0,.int .i64 0]] lb (sndW (sndW (l))) ((((((((((((((W37.setCell ⟨rb,0,none⟩ (.int .u8 (k : Nat))).setCell ⟨rb,1,none⟩ (.int .i64 v0)).setCell ⟨rb,2,none⟩ (.int .i64 0)).setCell ⟨rb,3,none⟩ (.int .i64 0)).setCell ⟨rb,4,none⟩ (.int .i64 0)).setCell ⟨rb,5,none⟩ (.int .i64 0)).setCell ⟨rb,6,none⟩ (.string ⟨#[]⟩)).setCell ⟨rb,7,none⟩ (.int .u64 0)).setCell ⟨rb,8,none⟩ (.int .u64 0)).setCell ⟨rb,9,none⟩ (.int .u64 0)).setCell ⟨rb,10,none⟩ (.int .u8 0)).setCell ⟨rb,11,none⟩ (.int .u64 0)).setCell ⟨rb,12,none⟩ (.int .i64 0)))):=Lib.hid (((((((((((((H36.out.put 0 (.int .u8 (k : Nat)) hrb (fun _ h => absurd h (by simp))).put 1 (.int .i64 v0) hrb (fun _ h => absurd h (by simp))).put 2 (.int .i64 0) hrb (fun _ h => absurd h (by simp))).put 3 (.int .i64 0) hrb (fun _ h => absurd h (by simp))).put 4 (.int .i64 0) hrb (fun _ h => absurd h (by simp))).put 5 (.int .i64 0) hrb (fun _ h => absurd h (by simp))).put 6 (.string ⟨#[]⟩) hrb (fun _ h => absurd h (by simp))).put 7 (.int .u64 0) hrb (fun _ h => absurd h (by simp))).put 8 (.int .u64 0) hrb (fun _ h => absurd h (by simp))).put 9 (.int .u64 0) hrb (fun _ h => absurd h (by simp))).put 10 (.int .u8 0) hrb (fun _ h => absurd h (by simp))).put 11 (.int .u64 0) hrb (fun _ h => absurd h (by simp))).put 12 (.int .i64 0) hrb (fun _ h => absurd h (by simp)))
      go_wp2_with fail
      have F:=HT.out.2.2.2.sees
      simp only [sees,kVar,cellsAt,Nat.reduceAdd] at F
      obtain ⟨-,⟨-,g0,g1,g2,g3,g4,g5,g6,g7,g8,g9,g10,g11,g12,-⟩,-⟩:=F
      refine bodyPost_ret (v:=.agg #[.int .u8 (k : Nat),.int .i64 v0,.int .i64 0,.int .i64 0,.int .i64 0,.int .i64 0,.string ⟨#[]⟩,.int .u64 0,.int .u64 0,.int .u64 0,.int .u8 0,.int .u64 0,.int .i64 0]) (by simp [results,Tryz.results39,go_sem,g0,g1,g2,g3,g4,g5,g6,g7,g8,g9,g10,g11,g12]) rfl ?_
      subst hR
      exact ⟨rfl,HT.out.bel⟩
    ·skip
     refine (target_yes k hus v0 0 0 0 0 [] 0 0 0 0 0 0 _).mono ?_
     rintro e w46 ⟨rfl,hb⟩
     clear z33 fz33 y33 q33 fq33 c33_0 c33_1 c33_2 c33_3 c33_4 c33_5 c33_6 c33_7 c33_8 c33_9 c33_10 c33_11 c33_12
     have H47:=Lib.hid (H31.out.below hb)
     clear hb H31
     go_upto_region 13 with fail
     have H48:=Lib.hid (H47.out.below ((Below.refl _ _).alloc (Nat.le_refl _) (.cells #[.int .i64 0,.int .i64 0,.int .i64 0,.int .i64 0] 23)))
     clear H47
     generalize (w46.alloc (.cells #[.int .i64 0,.int .i64 0,.int .i64 0,.int .i64 0] 23)) = W49 at H48 ⊢
     obtain ⟨ro,hro⟩ : ∃ ro,rangeP (fstW (sndW (sndW (l)))) = ro:=⟨_,rfl⟩
     have HRO:=keep hro
     clear hro
     go_wp2_with fail
     refine (l_ranged w _ lb (sndW (sndW (l))) _ H48.out HE.out).mono ?_
     rw [HRO.out]
     rcases ro with _ | ⟨r1,r2,r3,r4⟩
     ·rintro e w99 ⟨rfl,hb⟩
      have ho : o = none:=by
       rw [← HO.out]; unfold readV; rw [HK.out,if_neg hk1,HU.out]; simp only [Option.bind_some,hus,if_true,HRO.out,Option.bind_none]
      subst ho
      have HB:=Lib.hid hb
      clear hb
      go_wp2_with fail
      subst hR
      exact ⟨rfl,rfl,HB.out⟩
     ·rintro e w50 ⟨rfl,h1⟩
      have H51:=Lib.hid h1
      clear h1 H48
      have F52:=H51.out.2.2.2.sees
      simp only [sees,kVar,cellsAt,Nat.reduceAdd] at F52
      obtain ⟨⟨⟨z52,fz52⟩,y52,-⟩,⟨⟨q52,fq52⟩,c52_0,c52_1,c52_2,c52_3,c52_4,c52_5,c52_6,c52_7,c52_8,c52_9,c52_10,c52_11,c52_12,-⟩,-⟩:=F52
      go_upto_region 14 with fail
      have H53 : Hid (Ln w [kVar rb 28 [.int .u8 (k : Nat),.int .i64 v0,.int .i64 r1,.int .i64 r2,.int .i64 r3,.int .i64 r4,.string ⟨#[]⟩,.int .u64 0,.int .u64 0,.int .u64 0,.int .u8 0,.int .u64 0,.int .i64 0]] lb (sndW (sndW (sndW (l)))) ((((w50.setCell ⟨rb,2,none⟩ (.int .i64 r1)).setCell ⟨rb,3,none⟩ (.int .i64 r2)).setCell ⟨rb,4,none⟩ (.int .i64 r3)).setCell ⟨rb,5,none⟩ (.int .i64 r4))):=Lib.hid ((((H51.out.put 2 (.int .i64 r1) hrb (fun _ h => absurd h (by simp))).put 3 (.int .i64 r2) hrb (fun _ h => absurd h (by simp))).put 4 (.int .i64 r3) hrb (fun _ h => absurd h (by simp))).put 5 (.int .i64 r4) hrb (fun _ h => absurd h (by simp)))
      clear z52 fz52 y52 q52 fq52 c52_0 c52_1 c52_2 c52_3 c52_4 c52_5 c52_6 c52_7 c52_8 c52_9 c52_10 c52_11 c52_12
      clear H51
      generalize ((((w50.setCell ⟨rb,2,none⟩ (.int .i64 r1)).setCell ⟨rb,3,none⟩ (.int .i64 r2)).setCell ⟨rb,4,none⟩ (.int .i64 r3)).setCell ⟨rb,5,none⟩ (.int .i64 r4)) = W54 at H53 ⊢
      have F55:=H53.out.2.2.2.sees
      simp only [sees,kVar,cellsAt,Nat.reduceAdd] at F55
      obtain ⟨⟨⟨z55,fz55⟩,y55,-⟩,⟨⟨q55,fq55⟩,c55_0,c55_1,c55_2,c55_3,c55_4,c55_5,c55_6,c55_7,c55_8,c55_9,c55_10,c55_11,c55_12,-⟩,-⟩:=F55
      go_upto_region 15 with fail
      by_cases h3 : k = 3
      ·skip
       have e3 : ((k : Int) == 3) = true:=by simp; omega
       have HK3:=keep h3
       clear h3
       obtain ⟨Q,hQ⟩ : ∃ Q,unqV (sndW (sndW (sndW (l)))) = Q:=⟨_,rfl⟩
       have HQ:=keep hQ
       clear hQ
       obtain ⟨qt,qe⟩:=Q
       have hll:=H53.out.2.2.1
       go_wp2_with fail
       refine (glyph_UnquoteV ⟨(sndW (sndW (sndW (l)))).toArray⟩ _ (Nat.le_trans hll (by decide))).mono ?_
       rintro e w56 ⟨rfl,hb⟩
       clear z55 fz55 y55 q55 fq55 c55_0 c55_1 c55_2 c55_3 c55_4 c55_5 c55_6 c55_7 c55_8 c55_9 c55_10 c55_11 c55_12
       have H57:=Lib.hid (H53.out.below hb)
       clear hb H53
       rw [show (⟨(sndW (sndW (sndW (l)))).toArray⟩ : ByteArray).data.toList = sndW (sndW (sndW (l))) from rfl,HQ.out]
       dsimp only
       by_cases hq : qe = 0
       ·subst hq
        go_wp2_with fail
        refine (op_must_yes _).mono ?_
        rintro e w58 ⟨rfl,hw⟩
        obtain rfl : w56 = w58:=hw.symm
        have F59:=H57.out.2.2.2.sees
        simp only [sees,kVar,cellsAt,Nat.reduceAdd] at F59
        obtain ⟨⟨⟨z59,fz59⟩,y59,-⟩,⟨⟨q59,fq59⟩,c59_0,c59_1,c59_2,c59_3,c59_4,c59_5,c59_6,c59_7,c59_8,c59_9,c59_10,c59_11,c59_12,-⟩,-⟩:=F59
        go_upto_region 28 with fail
        have H60 : Hid (Ln w [kVar rb 28 [.int .u8 (k : Nat),.int .i64 v0,.int .i64 r1,.int .i64 r2,.int .i64 r3,.int .i64 r4,.string ⟨qt.toArray⟩,.int .u64 0,.int .u64 0,.int .u64 0,.int .u8 0,.int .u64 0,.int .i64 0]] lb (sndW (sndW (sndW (l)))) (w56.setCell ⟨rb,6,none⟩ (.string ⟨qt.toArray⟩))):=Lib.hid (H57.out.put 6 (.string ⟨qt.toArray⟩) hrb (fun _ h => absurd h (by simp)))
        clear z59 fz59 y59 q59 fq59 c59_0 c59_1 c59_2 c59_3 c59_4 c59_5 c59_6 c59_7 c59_8 c59_9 c59_10 c59_11 c59_12
        clear H57
        generalize (w56.setCell ⟨rb,6,none⟩ (.string ⟨qt.toArray⟩)) = W61 at H60 ⊢
        have ho : o = some ⟨k,v0,⟨r1,r2,r3,r4⟩,qt,0,0,0,0,0,0⟩:=by
         rw [← HO.out]; unfold readV; rw [HK.out,if_neg hk1,HU.out]; simp only [Option.bind_some,hus,if_true,HRO.out,Option.bind_some]
         unfold tailP
         simp only [if_pos HK3.out,HQ.out,if_true]
        subst ho
        go_upto_region 28 with fail
        have F62:=H60.out.2.2.2.sees
        simp only [sees,kVar,cellsAt,Nat.reduceAdd] at F62
        obtain ⟨⟨⟨z62,fz62⟩,y62,-⟩,⟨⟨q62,fq62⟩,c62_0,c62_1,c62_2,c62_3,c62_4,c62_5,c62_6,c62_7,c62_8,c62_9,c62_10,c62_11,c62_12,-⟩,-⟩:=F62
        have HT : Hid (Ln w [kVar rb 28 [.int .u8 (k : Nat),.int .i64 v0,.int .i64 r1,.int .i64 r2,.int .i64 r3,.int .i64 r4,.string ⟨qt.toArray⟩,.int .u64 0,.int .u64 0,.int .u64 0,.int .u8 0,.int .u64 0,.int .i64 0]] lb (sndW (sndW (sndW (l)))) ((((((((((((((W61.setCell ⟨rb,0,none⟩ (.int .u8 (k : Nat))).setCell ⟨rb,1,none⟩ (.int .i64 v0)).setCell ⟨rb,2,none⟩ (.int .i64 r1)).setCell ⟨rb,3,none⟩ (.int .i64 r2)).setCell ⟨rb,4,none⟩ (.int .i64 r3)).setCell ⟨rb,5,none⟩ (.int .i64 r4)).setCell ⟨rb,6,none⟩ (.string ⟨qt.toArray⟩)).setCell ⟨rb,7,none⟩ (.int .u64 0)).setCell ⟨rb,8,none⟩ (.int .u64 0)).setCell ⟨rb,9,none⟩ (.int .u64 0)).setCell ⟨rb,10,none⟩ (.int .u8 0)).setCell ⟨rb,11,none⟩ (.int .u64 0)).setCell ⟨rb,12,none⟩ (.int .i64 0)))):=Lib.hid (((((((((((((H60.out.put 0 (.int .u8 (k : Nat)) hrb (fun _ h => absurd h (by simp))).put 1 (.int .i64 v0) hrb (fun _ h => absurd h (by simp))).put 2 (.int .i64 r1) hrb (fun _ h => absurd h (by simp))).put 3 (.int .i64 r2) hrb (fun _ h => absurd h (by simp))).put 4 (.int .i64 r3) hrb (fun _ h => absurd h (by simp))).put 5 (.int .i64 r4) hrb (fun _ h => absurd h (by simp))).put 6 (.string ⟨qt.toArray⟩) hrb (fun _ h => absurd h (by simp))).put 7 (.int .u64 0) hrb (fun _ h => absurd h (by simp))).put 8 (.int .u64 0) hrb (fun _ h => absurd h (by simp))).put 9 (.int .u64 0) hrb (fun _ h => absurd h (by simp))).put 10 (.int .u8 0) hrb (fun _ h => absurd h (by simp))).put 11 (.int .u64 0) hrb (fun _ h => absurd h (by simp))).put 12 (.int .i64 0) hrb (fun _ h => absurd h (by simp)))
        go_wp2_with fail
        have F:=HT.out.2.2.2.sees
        simp only [sees,kVar,cellsAt,Nat.reduceAdd] at F
        obtain ⟨-,⟨-,g0,g1,g2,g3,g4,g5,g6,g7,g8,g9,g10,g11,g12,-⟩,-⟩:=F
        refine bodyPost_ret (v:=.agg #[.int .u8 (k : Nat),.int .i64 v0,.int .i64 r1,.int .i64 r2,.int .i64 r3,.int .i64 r4,.string ⟨qt.toArray⟩,.int .u64 0,.int .u64 0,.int .u64 0,.int .u8 0,.int .u64 0,.int .i64 0]) (by simp [results,Tryz.results39,go_sem,g0,g1,g2,g3,g4,g5,g6,g7,g8,g9,g10,g11,g12]) rfl ?_
        subst hR
        exact ⟨rfl,HT.out.bel⟩
       ·have hqb : (qe == 0) = false:=by simpa using hq
        go_wp2_with fail
        have ho : o = none:=by
         rw [← HO.out]; unfold readV; rw [HK.out,if_neg hk1,HU.out]; simp only [Option.bind_some,hus,if_true,HRO.out,Option.bind_some]
         unfold tailP
         simp only [if_pos HK3.out,HQ.out,if_neg hq]
        subst ho
        refine (op_must_no w _ H57.out.bel).mono ?_
        rintro e w99 ⟨rfl,hb⟩
        have HB:=Lib.hid hb
        clear hb
        go_wp2_with fail
        subst hR
        exact ⟨rfl,rfl,HB.out⟩
      by_cases h7 : k = 7
      ·skip
       have e3 : ((k : Int) == 3) = false:=by simp; omega
       have e7 : ((k : Int) == 7) = true:=by simp; omega
       have HK7:=keep h7
       clear h7
       cases hs0 : setP (fstW (sndW (sndW (sndW (l)))))
       ·have HS0:=keep hs0
        clear hs0
        go_wp2_with fail
        have ho : o = none:=by
         rw [← HO.out]; unfold readV; rw [HK.out,if_neg hk1,HU.out]; simp only [Option.bind_some,hus,if_true,HRO.out,Option.bind_some]
         unfold tailP
         simp only [if_neg h3,if_pos HK7.out,HS0.out,Option.bind_none]
        subst ho
        refine (l_set_no w _ lb (sndW (sndW (sndW (l)))) _ H53.out HE.out HS0.out).mono ?_
        rintro e w99 ⟨rfl,hb⟩
        have HB:=Lib.hid hb
        clear hb
        clear z55 fz55 y55 q55 fq55 c55_0 c55_1 c55_2 c55_3 c55_4 c55_5 c55_6 c55_7 c55_8 c55_9 c55_10 c55_11 c55_12
        go_wp2_with fail
        subst hR
        exact ⟨rfl,rfl,HB.out⟩
       ·rename_i sa
        have HS0:=keep hs0
        clear hs0
        go_wp2_with fail
        refine (l_set_yes w _ lb (sndW (sndW (sndW (l)))) _ H53.out HE.out sa HS0.out).mono ?_
        rintro e w63 ⟨rfl,h1⟩
        clear z55 fz55 y55 q55 fq55 c55_0 c55_1 c55_2 c55_3 c55_4 c55_5 c55_6 c55_7 c55_8 c55_9 c55_10 c55_11 c55_12
        have H64:=Lib.hid h1
        clear h1 H53
        cases hs1 : setP (fstW (sndW (sndW (sndW (sndW (l))))))
        ·have HS1:=keep hs1
         clear hs1
         go_wp2_with fail
         have ho : o = none:=by
          rw [← HO.out]; unfold readV; rw [HK.out,if_neg hk1,HU.out]; simp only [Option.bind_some,hus,if_true,HRO.out,Option.bind_some]
          unfold tailP
          simp only [if_neg h3,if_pos HK7.out,HS0.out,HS1.out,Option.bind_some,Option.bind_none]
         subst ho
         refine (l_set_no w _ lb (sndW (sndW (sndW (sndW (l))))) _ H64.out HE.out HS1.out).mono ?_
         rintro e w99 ⟨rfl,hb⟩
         have HB:=Lib.hid hb
         clear hb
         go_wp2_with fail
         subst hR
         exact ⟨rfl,rfl,HB.out⟩
        ·rename_i sb
         have HS1:=keep hs1
         clear hs1
         go_wp2_with fail
         refine (l_set_yes w _ lb (sndW (sndW (sndW (sndW (l))))) _ H64.out HE.out sb HS1.out).mono ?_
         rintro e w65 ⟨rfl,h1⟩
         have H66:=Lib.hid h1
         clear h1 H64
         cases hs2 : setP (fstW (sndW (sndW (sndW (sndW (sndW (l)))))))
         ·have HS2:=keep hs2
          clear hs2
          go_wp2_with fail
          have ho : o = none:=by
           rw [← HO.out]; unfold readV; rw [HK.out,if_neg hk1,HU.out]; simp only [Option.bind_some,hus,if_true,HRO.out,Option.bind_some]
           unfold tailP
           simp only [if_neg h3,if_pos HK7.out,HS0.out,HS1.out,HS2.out,Option.bind_some,Option.bind_none]
          subst ho
          refine (l_set_no w _ lb (sndW (sndW (sndW (sndW (sndW (l)))))) _ H66.out HE.out HS2.out).mono ?_
          rintro e w99 ⟨rfl,hb⟩
          have HB:=Lib.hid hb
          clear hb
          go_wp2_with fail
          subst hR
          exact ⟨rfl,rfl,HB.out⟩
         ·rename_i sc
          have HS2:=keep hs2
          clear hs2
          go_wp2_with fail
          refine (l_set_yes w _ lb (sndW (sndW (sndW (sndW (sndW (l)))))) _ H66.out HE.out sc HS2.out).mono ?_
          rintro e w67 ⟨rfl,h1⟩
          have H68:=Lib.hid h1
          clear h1 H66
          have F69:=H68.out.2.2.2.sees
          simp only [sees,kVar,cellsAt,Nat.reduceAdd] at F69
          obtain ⟨⟨⟨z69,fz69⟩,y69,-⟩,⟨⟨q69,fq69⟩,c69_0,c69_1,c69_2,c69_3,c69_4,c69_5,c69_6,c69_7,c69_8,c69_9,c69_10,c69_11,c69_12,-⟩,-⟩:=F69
          go_upto_region 28 with fail
          have H70 : Hid (Ln w [kVar rb 28 [.int .u8 (k : Nat),.int .i64 v0,.int .i64 r1,.int .i64 r2,.int .i64 r3,.int .i64 r4,.string ⟨#[]⟩,.int .u64 (sa : Nat),.int .u64 (sb : Nat),.int .u64 (sc : Nat),.int .u8 0,.int .u64 0,.int .i64 0]] lb (sndW (sndW (sndW (sndW (sndW (sndW (l))))))) (((w67.setCell ⟨rb,7,none⟩ (.int .u64 (sa : Nat))).setCell ⟨rb,8,none⟩ (.int .u64 (sb : Nat))).setCell ⟨rb,9,none⟩ (.int .u64 (sc : Nat)))):=Lib.hid (((H68.out.put 7 (.int .u64 (sa : Nat)) hrb (fun _ h => absurd h (by simp))).put 8 (.int .u64 (sb : Nat)) hrb (fun _ h => absurd h (by simp))).put 9 (.int .u64 (sc : Nat)) hrb (fun _ h => absurd h (by simp)))
          clear z69 fz69 y69 q69 fq69 c69_0 c69_1 c69_2 c69_3 c69_4 c69_5 c69_6 c69_7 c69_8 c69_9 c69_10 c69_11 c69_12
          clear H68
          generalize (((w67.setCell ⟨rb,7,none⟩ (.int .u64 (sa : Nat))).setCell ⟨rb,8,none⟩ (.int .u64 (sb : Nat))).setCell ⟨rb,9,none⟩ (.int .u64 (sc : Nat))) = W71 at H70 ⊢
          have ho : o = some ⟨k,v0,⟨r1,r2,r3,r4⟩,[],sa,sb,sc,0,0,0⟩:=by
           rw [← HO.out]; unfold readV; rw [HK.out,if_neg hk1,HU.out]; simp only [Option.bind_some,hus,if_true,HRO.out,Option.bind_some]
           unfold tailP
           simp only [if_neg h3,if_pos HK7.out,HS0.out,HS1.out,HS2.out,Option.bind_some]
          subst ho
          go_upto_region 28 with fail
          have F72:=H70.out.2.2.2.sees
          simp only [sees,kVar,cellsAt,Nat.reduceAdd] at F72
          obtain ⟨⟨⟨z72,fz72⟩,y72,-⟩,⟨⟨q72,fq72⟩,c72_0,c72_1,c72_2,c72_3,c72_4,c72_5,c72_6,c72_7,c72_8,c72_9,c72_10,c72_11,c72_12,-⟩,-⟩:=F72
          have HT : Hid (Ln w [kVar rb 28 [.int .u8 (k : Nat),.int .i64 v0,.int .i64 r1,.int .i64 r2,.int .i64 r3,.int .i64 r4,.string ⟨#[]⟩,.int .u64 (sa : Nat),.int .u64 (sb : Nat),.int .u64 (sc : Nat),.int .u8 0,.int .u64 0,.int .i64 0]] lb (sndW (sndW (sndW (sndW (sndW (sndW (l))))))) ((((((((((((((W71.setCell ⟨rb,0,none⟩ (.int .u8 (k : Nat))).setCell ⟨rb,1,none⟩ (.int .i64 v0)).setCell ⟨rb,2,none⟩ (.int .i64 r1)).setCell ⟨rb,3,none⟩ (.int .i64 r2)).setCell ⟨rb,4,none⟩ (.int .i64 r3)).setCell ⟨rb,5,none⟩ (.int .i64 r4)).setCell ⟨rb,6,none⟩ (.string ⟨#[]⟩)).setCell ⟨rb,7,none⟩ (.int .u64 (sa : Nat))).setCell ⟨rb,8,none⟩ (.int .u64 (sb : Nat))).setCell ⟨rb,9,none⟩ (.int .u64 (sc : Nat))).setCell ⟨rb,10,none⟩ (.int .u8 0)).setCell ⟨rb,11,none⟩ (.int .u64 0)).setCell ⟨rb,12,none⟩ (.int .i64 0)))):=Lib.hid (((((((((((((H70.out.put 0 (.int .u8 (k : Nat)) hrb (fun _ h => absurd h (by simp))).put 1 (.int .i64 v0) hrb (fun _ h => absurd h (by simp))).put 2 (.int .i64 r1) hrb (fun _ h => absurd h (by simp))).put 3 (.int .i64 r2) hrb (fun _ h => absurd h (by simp))).put 4 (.int .i64 r3) hrb (fun _ h => absurd h (by simp))).put 5 (.int .i64 r4) hrb (fun _ h => absurd h (by simp))).put 6 (.string ⟨#[]⟩) hrb (fun _ h => absurd h (by simp))).put 7 (.int .u64 (sa : Nat)) hrb (fun _ h => absurd h (by simp))).put 8 (.int .u64 (sb : Nat)) hrb (fun _ h => absurd h (by simp))).put 9 (.int .u64 (sc : Nat)) hrb (fun _ h => absurd h (by simp))).put 10 (.int .u8 0) hrb (fun _ h => absurd h (by simp))).put 11 (.int .u64 0) hrb (fun _ h => absurd h (by simp))).put 12 (.int .i64 0) hrb (fun _ h => absurd h (by simp)))
          go_wp2_with fail
          have F:=HT.out.2.2.2.sees
          simp only [sees,kVar,cellsAt,Nat.reduceAdd] at F
          obtain ⟨-,⟨-,g0,g1,g2,g3,g4,g5,g6,g7,g8,g9,g10,g11,g12,-⟩,-⟩:=F
          refine bodyPost_ret (v:=.agg #[.int .u8 (k : Nat),.int .i64 v0,.int .i64 r1,.int .i64 r2,.int .i64 r3,.int .i64 r4,.string ⟨#[]⟩,.int .u64 (sa : Nat),.int .u64 (sb : Nat),.int .u64 (sc : Nat),.int .u8 0,.int .u64 0,.int .i64 0]) (by simp [results,Tryz.results39,go_sem,g0,g1,g2,g3,g4,g5,g6,g7,g8,g9,g10,g11,g12]) rfl ?_
          subst hR
          exact ⟨rfl,HT.out.bel⟩
      by_cases h8 : k = 8
      ·skip
       have e3 : ((k : Int) == 3) = false:=by simp; omega
       have e7 : ((k : Int) == 7) = false:=by simp; omega
       have e8 : ((k : Int) == 8) = true:=by simp; omega
       have HK8:=keep h8
       clear h8
       cases hn : numP (fstW (sndW (sndW (sndW (l)))))
       ·have HN:=keep hn
        clear hn
        go_wp2_with fail
        have ho : o = none:=by
         rw [← HO.out]; unfold readV; rw [HK.out,if_neg hk1,HU.out]; simp only [Option.bind_some,hus,if_true,HRO.out,Option.bind_some]
         unfold tailP
         simp only [if_neg h3,if_neg h7,if_pos HK8.out,HN.out,Option.bind_none]
        subst ho
        refine (l_number_no w _ lb (sndW (sndW (sndW (l)))) _ H53.out HE.out HN.out).mono ?_
        rintro e w99 ⟨rfl,hb⟩
        have HB:=Lib.hid hb
        clear hb
        clear z55 fz55 y55 q55 fq55 c55_0 c55_1 c55_2 c55_3 c55_4 c55_5 c55_6 c55_7 c55_8 c55_9 c55_10 c55_11 c55_12
        go_wp2_with fail
        subst hR
        exact ⟨rfl,rfl,HB.out⟩
       ·rename_i vn
        have HN:=keep hn
        clear hn
        go_wp2_with fail
        refine (l_number_yes w _ lb (sndW (sndW (sndW (l)))) _ H53.out HE.out vn HN.out).mono ?_
        rintro e w73 ⟨rfl,h1⟩
        clear z55 fz55 y55 q55 fq55 c55_0 c55_1 c55_2 c55_3 c55_4 c55_5 c55_6 c55_7 c55_8 c55_9 c55_10 c55_11 c55_12
        have H74:=Lib.hid h1
        clear h1 H53
        by_cases g0 : 0 ≤ vn
        case neg =>
         have hdd : decide (0 ≤ vn) = false:=decide_eq_false g0
         go_wp2_with fail
         have ho : o = none:=by
          rw [← HO.out]; unfold readV; rw [HK.out,if_neg hk1,HU.out]; simp only [Option.bind_some,hus,if_true,HRO.out,Option.bind_some]
          unfold tailP
          simp only [if_neg h3,if_neg h7,if_pos HK8.out,HN.out,Option.bind_some]
          rw [if_neg (by omega)]
         subst ho
         refine (op_must_no w _ H74.out.bel).mono ?_
         rintro e w99 ⟨rfl,hb⟩
         have HB:=Lib.hid hb
         clear hb
         go_wp2_with fail
         subst hR
         exact ⟨rfl,rfl,HB.out⟩
        by_cases g1 : vn ≤ 255
        case neg =>
         have hdd : decide (vn ≤ 255) = false:=decide_eq_false g1
         go_wp2_with fail
         have ho : o = none:=by
          rw [← HO.out]; unfold readV; rw [HK.out,if_neg hk1,HU.out]; simp only [Option.bind_some,hus,if_true,HRO.out,Option.bind_some]
          unfold tailP
          simp only [if_neg h3,if_neg h7,if_pos HK8.out,HN.out,Option.bind_some]
          rw [if_neg (by omega)]
         subst ho
         refine (op_must_no w _ H74.out.bel).mono ?_
         rintro e w99 ⟨rfl,hb⟩
         have HB:=Lib.hid hb
         clear hb
         go_wp2_with fail
         subst hR
         exact ⟨rfl,rfl,HB.out⟩
        obtain ⟨fn,hfn⟩ : ∃ fn : Nat,(fn : Int) = vn:=⟨vn.toNat,by omega⟩
        subst hfn
        have hw8 : IntKind.u8.wrap (fn : Int) = (fn : Int):=Go.IntWalk.u8_in _ (by omega)
        go_wp2_with fail
        refine (op_must_yes _).mono ?_
        rintro e w75 ⟨rfl,hw⟩
        obtain rfl : w73 = w75:=hw.symm
        have F76:=H74.out.2.2.2.sees
        simp only [sees,kVar,cellsAt,Nat.reduceAdd] at F76
        obtain ⟨⟨⟨z76,fz76⟩,y76,-⟩,⟨⟨q76,fq76⟩,c76_0,c76_1,c76_2,c76_3,c76_4,c76_5,c76_6,c76_7,c76_8,c76_9,c76_10,c76_11,c76_12,-⟩,-⟩:=F76
        go_upto_region 25 with fail
        have H77 : Hid (Ln w [kVar rb 28 [.int .u8 (k : Nat),.int .i64 v0,.int .i64 r1,.int .i64 r2,.int .i64 r3,.int .i64 r4,.string ⟨#[]⟩,.int .u64 0,.int .u64 0,.int .u64 0,.int .u8 (fn : Nat),.int .u64 0,.int .i64 0]] lb (sndW (sndW (sndW (sndW (l))))) (w73.setCell ⟨rb,10,none⟩ (.int .u8 (fn : Nat)))):=Lib.hid (H74.out.put 10 (.int .u8 (fn : Nat)) hrb (fun _ h => absurd h (by simp)))
        clear z76 fz76 y76 q76 fq76 c76_0 c76_1 c76_2 c76_3 c76_4 c76_5 c76_6 c76_7 c76_8 c76_9 c76_10 c76_11 c76_12
        clear H74
        generalize (w73.setCell ⟨rb,10,none⟩ (.int .u8 (fn : Nat))) = W78 at H77 ⊢
        cases hst : setP (fstW (sndW (sndW (sndW (sndW (l))))))
        ·have HS:=keep hst
         clear hst
         go_wp2_with fail
         have ho : o = none:=by
          rw [← HO.out]; unfold readV; rw [HK.out,if_neg hk1,HU.out]; simp only [Option.bind_some,hus,if_true,HRO.out,Option.bind_some]
          unfold tailP
          simp only [if_neg h3,if_neg h7,if_pos HK8.out,HN.out,Option.bind_some]
          rw [if_pos (by omega)]
          simp only [HS.out,Option.bind_none]
         subst ho
         refine (l_set_no w _ lb (sndW (sndW (sndW (sndW (l))))) _ H77.out HE.out HS.out).mono ?_
         rintro e w99 ⟨rfl,hb⟩
         have HB:=Lib.hid hb
         clear hb
         go_wp2_with fail
         subst hR
         exact ⟨rfl,rfl,HB.out⟩
        ·rename_i st
         have HS:=keep hst
         clear hst
         go_wp2_with fail
         refine (l_set_yes w _ lb (sndW (sndW (sndW (sndW (l))))) _ H77.out HE.out st HS.out).mono ?_
         rintro e w79 ⟨rfl,h1⟩
         have H80:=Lib.hid h1
         clear h1 H77
         have F81:=H80.out.2.2.2.sees
         simp only [sees,kVar,cellsAt,Nat.reduceAdd] at F81
         obtain ⟨⟨⟨z81,fz81⟩,y81,-⟩,⟨⟨q81,fq81⟩,c81_0,c81_1,c81_2,c81_3,c81_4,c81_5,c81_6,c81_7,c81_8,c81_9,c81_10,c81_11,c81_12,-⟩,-⟩:=F81
         go_upto_region 28 with fail
         have H82 : Hid (Ln w [kVar rb 28 [.int .u8 (k : Nat),.int .i64 v0,.int .i64 r1,.int .i64 r2,.int .i64 r3,.int .i64 r4,.string ⟨#[]⟩,.int .u64 0,.int .u64 0,.int .u64 0,.int .u8 (fn : Nat),.int .u64 (st : Nat),.int .i64 0]] lb (sndW (sndW (sndW (sndW (sndW (l)))))) (w79.setCell ⟨rb,11,none⟩ (.int .u64 (st : Nat)))):=Lib.hid (H80.out.put 11 (.int .u64 (st : Nat)) hrb (fun _ h => absurd h (by simp)))
         clear z81 fz81 y81 q81 fq81 c81_0 c81_1 c81_2 c81_3 c81_4 c81_5 c81_6 c81_7 c81_8 c81_9 c81_10 c81_11 c81_12
         clear H80
         generalize (w79.setCell ⟨rb,11,none⟩ (.int .u64 (st : Nat))) = W83 at H82 ⊢
         have ho : o = some ⟨k,v0,⟨r1,r2,r3,r4⟩,[],0,0,0,fn,st,0⟩:=by
          rw [← HO.out]; unfold readV; rw [HK.out,if_neg hk1,HU.out]; simp only [Option.bind_some,hus,if_true,HRO.out,Option.bind_some]
          unfold tailP
          simp only [if_neg h3,if_neg h7,if_pos HK8.out,HN.out,Option.bind_some]
          rw [if_pos (by omega)]
          simp only [HS.out,Option.bind_some,Int.toNat_natCast]
         subst ho
         go_upto_region 28 with fail
         have F84:=H82.out.2.2.2.sees
         simp only [sees,kVar,cellsAt,Nat.reduceAdd] at F84
         obtain ⟨⟨⟨z84,fz84⟩,y84,-⟩,⟨⟨q84,fq84⟩,c84_0,c84_1,c84_2,c84_3,c84_4,c84_5,c84_6,c84_7,c84_8,c84_9,c84_10,c84_11,c84_12,-⟩,-⟩:=F84
         have HT : Hid (Ln w [kVar rb 28 [.int .u8 (k : Nat),.int .i64 v0,.int .i64 r1,.int .i64 r2,.int .i64 r3,.int .i64 r4,.string ⟨#[]⟩,.int .u64 0,.int .u64 0,.int .u64 0,.int .u8 (fn : Nat),.int .u64 (st : Nat),.int .i64 0]] lb (sndW (sndW (sndW (sndW (sndW (l)))))) ((((((((((((((W83.setCell ⟨rb,0,none⟩ (.int .u8 (k : Nat))).setCell ⟨rb,1,none⟩ (.int .i64 v0)).setCell ⟨rb,2,none⟩ (.int .i64 r1)).setCell ⟨rb,3,none⟩ (.int .i64 r2)).setCell ⟨rb,4,none⟩ (.int .i64 r3)).setCell ⟨rb,5,none⟩ (.int .i64 r4)).setCell ⟨rb,6,none⟩ (.string ⟨#[]⟩)).setCell ⟨rb,7,none⟩ (.int .u64 0)).setCell ⟨rb,8,none⟩ (.int .u64 0)).setCell ⟨rb,9,none⟩ (.int .u64 0)).setCell ⟨rb,10,none⟩ (.int .u8 (fn : Nat))).setCell ⟨rb,11,none⟩ (.int .u64 (st : Nat))).setCell ⟨rb,12,none⟩ (.int .i64 0)))):=Lib.hid (((((((((((((H82.out.put 0 (.int .u8 (k : Nat)) hrb (fun _ h => absurd h (by simp))).put 1 (.int .i64 v0) hrb (fun _ h => absurd h (by simp))).put 2 (.int .i64 r1) hrb (fun _ h => absurd h (by simp))).put 3 (.int .i64 r2) hrb (fun _ h => absurd h (by simp))).put 4 (.int .i64 r3) hrb (fun _ h => absurd h (by simp))).put 5 (.int .i64 r4) hrb (fun _ h => absurd h (by simp))).put 6 (.string ⟨#[]⟩) hrb (fun _ h => absurd h (by simp))).put 7 (.int .u64 0) hrb (fun _ h => absurd h (by simp))).put 8 (.int .u64 0) hrb (fun _ h => absurd h (by simp))).put 9 (.int .u64 0) hrb (fun _ h => absurd h (by simp))).put 10 (.int .u8 (fn : Nat)) hrb (fun _ h => absurd h (by simp))).put 11 (.int .u64 (st : Nat)) hrb (fun _ h => absurd h (by simp))).put 12 (.int .i64 0) hrb (fun _ h => absurd h (by simp)))
         go_wp2_with fail
         have F:=HT.out.2.2.2.sees
         simp only [sees,kVar,cellsAt,Nat.reduceAdd] at F
         obtain ⟨-,⟨-,g0,g1,g2,g3,g4,g5,g6,g7,g8,g9,g10,g11,g12,-⟩,-⟩:=F
         refine bodyPost_ret (v:=.agg #[.int .u8 (k : Nat),.int .i64 v0,.int .i64 r1,.int .i64 r2,.int .i64 r3,.int .i64 r4,.string ⟨#[]⟩,.int .u64 0,.int .u64 0,.int .u64 0,.int .u8 (fn : Nat),.int .u64 (st : Nat),.int .i64 0]) (by simp [results,Tryz.results39,go_sem,g0,g1,g2,g3,g4,g5,g6,g7,g8,g9,g10,g11,g12]) rfl ?_
         subst hR
         exact ⟨rfl,HT.out.bel⟩
      ·skip
       have e3 : ((k : Int) == 3) = false:=by simp; omega
       have e7 : ((k : Int) == 7) = false:=by simp; omega
       have e8 : ((k : Int) == 8) = false:=by simp; omega
       have h9 : ¬ k = 9:=by unfold usesR at hus; simp at hus; omega
       have e9 : ((k : Int) == 9) = false:=by simp; omega
       have ho : o = some ⟨k,v0,⟨r1,r2,r3,r4⟩,[],0,0,0,0,0,0⟩:=by
        rw [← HO.out]; unfold readV; rw [HK.out,if_neg hk1,HU.out]; simp only [Option.bind_some,hus,if_true,HRO.out,Option.bind_some]
        unfold tailP
        simp only [if_neg h3,if_neg h7,if_neg h8,if_neg h9]
       subst ho
       go_upto_region 28 with fail
       have F85:=H53.out.2.2.2.sees
       simp only [sees,kVar,cellsAt,Nat.reduceAdd] at F85
       obtain ⟨⟨⟨z85,fz85⟩,y85,-⟩,⟨⟨q85,fq85⟩,c85_0,c85_1,c85_2,c85_3,c85_4,c85_5,c85_6,c85_7,c85_8,c85_9,c85_10,c85_11,c85_12,-⟩,-⟩:=F85
       have HT : Hid (Ln w [kVar rb 28 [.int .u8 (k : Nat),.int .i64 v0,.int .i64 r1,.int .i64 r2,.int .i64 r3,.int .i64 r4,.string ⟨#[]⟩,.int .u64 0,.int .u64 0,.int .u64 0,.int .u8 0,.int .u64 0,.int .i64 0]] lb (sndW (sndW (sndW (l)))) ((((((((((((((W54.setCell ⟨rb,0,none⟩ (.int .u8 (k : Nat))).setCell ⟨rb,1,none⟩ (.int .i64 v0)).setCell ⟨rb,2,none⟩ (.int .i64 r1)).setCell ⟨rb,3,none⟩ (.int .i64 r2)).setCell ⟨rb,4,none⟩ (.int .i64 r3)).setCell ⟨rb,5,none⟩ (.int .i64 r4)).setCell ⟨rb,6,none⟩ (.string ⟨#[]⟩)).setCell ⟨rb,7,none⟩ (.int .u64 0)).setCell ⟨rb,8,none⟩ (.int .u64 0)).setCell ⟨rb,9,none⟩ (.int .u64 0)).setCell ⟨rb,10,none⟩ (.int .u8 0)).setCell ⟨rb,11,none⟩ (.int .u64 0)).setCell ⟨rb,12,none⟩ (.int .i64 0)))):=Lib.hid (((((((((((((H53.out.put 0 (.int .u8 (k : Nat)) hrb (fun _ h => absurd h (by simp))).put 1 (.int .i64 v0) hrb (fun _ h => absurd h (by simp))).put 2 (.int .i64 r1) hrb (fun _ h => absurd h (by simp))).put 3 (.int .i64 r2) hrb (fun _ h => absurd h (by simp))).put 4 (.int .i64 r3) hrb (fun _ h => absurd h (by simp))).put 5 (.int .i64 r4) hrb (fun _ h => absurd h (by simp))).put 6 (.string ⟨#[]⟩) hrb (fun _ h => absurd h (by simp))).put 7 (.int .u64 0) hrb (fun _ h => absurd h (by simp))).put 8 (.int .u64 0) hrb (fun _ h => absurd h (by simp))).put 9 (.int .u64 0) hrb (fun _ h => absurd h (by simp))).put 10 (.int .u8 0) hrb (fun _ h => absurd h (by simp))).put 11 (.int .u64 0) hrb (fun _ h => absurd h (by simp))).put 12 (.int .i64 0) hrb (fun _ h => absurd h (by simp)))
       go_wp2_with fail
       have F:=HT.out.2.2.2.sees
       simp only [sees,kVar,cellsAt,Nat.reduceAdd] at F
       obtain ⟨-,⟨-,g0,g1,g2,g3,g4,g5,g6,g7,g8,g9,g10,g11,g12,-⟩,-⟩:=F
       refine bodyPost_ret (v:=.agg #[.int .u8 (k : Nat),.int .i64 v0,.int .i64 r1,.int .i64 r2,.int .i64 r3,.int .i64 r4,.string ⟨#[]⟩,.int .u64 0,.int .u64 0,.int .u64 0,.int .u8 0,.int .u64 0,.int .i64 0]) (by simp [results,Tryz.results39,go_sem,g0,g1,g2,g3,g4,g5,g6,g7,g8,g9,g10,g11,g12]) rfl ?_
       subst hR
       exact ⟨rfl,HT.out.bel⟩
end Go.Proofs.YtjbimcdofenmdaaGreatDoor
