/- The contract of the reference lexer's word. Contracts of the reference's error names, operators, and of its lexer's sign. Contracts of the reference lexer's sign and token. The contract of the reference's Tokens. -/
import Derived.Test.YtlngjiibbcgkmaaGreatDoorRefA
import Derived.Test.YtlngjiibbcgkmaaGreatDoorOk
import Derived.Test.YtlngjiibbcgkmaaGreatDoorLexM
import Derived.Test.YtlngjiibbcgkmaaGreatDoorRectW2
import Derived.Deep.DeepCutAuto
import Derived.Test.YtlngjiibbcgkmaaGreatDoorLexN
namespace Go.Proofs.YtlngjiibbcgkmaaGreatDoor
section
open Go.RowKit
theorem colon_at {s : ByteArray} {z : Nat} (h : z < s.size) : testAt (· == 58) s z = decide (((s[z]'h).toNat : Int) = 58):=by
 rw [test_in h,Bool.eq_iff_iff,beq_iff_eq,decide_eq_true_eq,← UInt8.toNat_inj]
 show _ = 58 ↔ _
 omega
theorem test_head {s : ByteArray} {z : Nat} {b : UInt8} : testAt (· == b) s z = decide ((s.data.toList.drop z).head? = some b):=by
 unfold testAt
 rw [List.head?_drop]
 cases s.data.toList[z]? with
 | none => simp
 | some c =>
  rw [Option.any_some,Bool.eq_iff_iff]
  simp
theorem second_at {s : ByteArray} {z : Nat} (h : testAt (· == 58) s z = true) : secondS (s.data.toList.drop z) = addrS (restB s (z + 1)):=by
 have hz:=test_lt h
 rw [test_in hz] at h
 have e : s[z]'hz = 58:=by simpa using h
 rw [List.drop_eq_getElem_cons (by rw [Array.length_toList]; exact hz)]
 show secondS (s[z]'hz :: _) = _
 rw [second_cons,if_pos e]
 rfl
theorem second_off {s : ByteArray} {z : Nat} (h : testAt (· == 58) s z = false) : secondS (s.data.toList.drop z) = none:=by
 rw [test_head,decide_eq_false_iff_not] at h
 exact second_none h
set_option maxRecDepth 100000 in
set_option maxHeartbeats 8000000 in
theorem ref7_word (s : ByteArray) (i : Nat) (w : World) (hs : s.size ≤ 256) (hl : testAt isLet s i = true) :
  Calls Tryz.prog 73 #[.string s,.int .i64 (i : Int)] w fun e w' => RefOut i (wordR (restB s i) i) e ∧ Below w.heap.size w w':=by
 have hi:=test_lt hl
 obtain ⟨z,hz⟩ : ∃ z,i + (wrdRun s i).length = z:=⟨_,rfl⟩
 have hzs : z ≤ s.size:=by rw [← hz]; exact wrd_le s i (Nat.le_of_lt hi)
 have hiz : i ≤ z:=by omega
 obtain ⟨A1,A2,A3,hp⟩ : ∃ c r e0,parseS (wrdRun s i) = (c,r,e0):=⟨_,_,_,rfl⟩
 obtain ⟨u,hu⟩ : ∃ u,(wrdRun s i).map upB = u:=⟨_,rfl⟩
 have hdz : (restB s i).dropWhile isWrd = s.data.toList.drop z:=by
  have h1:=(run_split isWrd (restB s i)).1
  have h2 : (restB s i).dropWhile isWrd = (restB s i).drop (wrdRun s i).length:=by
   conv => rhs; rw [h1]
   rw [show (restB s i).takeWhile isWrd = wrdRun s i from rfl,List.drop_left]
  rw [h2]
  unfold restB
  rw [List.drop_drop,hz]
 have HWD:=keep (show Wd (restB s i) u (s.data.toList.drop z) (wrdRun s i).length (A1,A2,A3) from
  ⟨by unfold restB; rw [List.head?_drop]; exact hl,hu,hdz,rfl,by rw [← hu,parse_up]; exact hp⟩)
 have HEQ:=keep (addr_eq s i z A1 A2 A3 hl hz hp)
 have HZ:=keep hz
 have HU:=keep (show (s.extract i z).data.toList.map upB = u by rw [wrd_ext s i z hz]; exact hu)
 clear hz hp hu hdz hl
 have H1:=Lib.hid (Ok.start w)
 go_enter Tryz.func73,Tryz.ntmps73
 go_wp2_with fail
 have H2:=Lib.hid (H1.out.var w.heap.size 43 [.int .u8 0,.int .i64 0,.string ⟨#[]⟩,.int .i64 0,.int .i64 0,.int .i64 0,.int .i64 0,.int .i64 0] rfl)
 clear H1
 generalize (w.alloc (.cells #[.int .u8 0,.int .i64 0,.string ⟨#[]⟩,.int .i64 0,.int .i64 0,.int .i64 0,.int .i64 0,.int .i64 0] 43)) = W3 at H2 ⊢
 refine (ref7_wordEnd s i _ (by omega) (by omega)).mono ?_
 rintro e w7 ⟨rfl,hw7⟩
 obtain rfl : W3 = w7:=hw7.symm
 rw [HZ.out]
 go_wp2_with fail
 refine (ref4_Upper (s.extract i z) _ (by rw [ByteArray.size_extract]; omega)).mono ?_
 rintro e w4 ⟨rfl,hb5⟩
 rw [HU.out]
 have H6:=Lib.hid (H2.out.below hb5)
 clear hb5 H2
 go_upto_region 3 with fail
 obtain ⟨b,hb⟩ : ∃ b,testAt (· == 40) s z = b:=⟨_,rfl⟩
 have HB:=keep hb
 clear hb
 go_cut [33] (fun s9 wx => s9 = .bool b ∧ wx = w4)
 case first =>
  by_cases h1 : (z : Int) < s.size
  ·have hkl : z < s.size:=by omega
   have hda:=par_at hkl
   by_cases h2 : ((s[z]'hkl).toNat : Int) = 40
   ·rw [decide_eq_true h2] at hda
    have hB:=HB.out
    rw [hda] at hB
    subst hB
    have h2' : (((s[z]'hkl).toNat : Int) == 40) = true:=by rw [h2]; rfl
    clear hda h2
    go_wp2_with fail
    go_meet
    exact ⟨rfl,rfl⟩
   ·rw [decide_eq_false h2] at hda
    have hB:=HB.out
    rw [hda] at hB
    subst hB
    have h2' : (((s[z]'hkl).toNat : Int) == 40) = false:=by simpa using h2
    clear hda h2
    go_wp2_with fail
    go_meet
    exact ⟨rfl,rfl⟩
  ·have hB:=HB.out
   rw [test_out (by omega)] at hB
   subst hB
   go_wp2_with fail
   go_meet
   exact ⟨rfl,rfl⟩
 case rest =>
  obtain ⟨rfl,hwc⟩:=hcut
  obtain rfl : w4 = wc:=hwc.symm
  cases b
  ·have HN40:=keep (show (s.data.toList.drop z).head? ≠ some 40 by have h9:=HB.out; rw [test_head] at h9; simpa using h9)
   have HB40:=keep HB.out
   clear HB
   by_cases hT : u = trueB
   ·have HRES:=keep (HWD.out.yes (i:=i) HN40.out hT)
    have hTb : (u == [84,82,85,69]) = true:=by rw [hT]; rfl
    clear hT
    have F7:=H6.out.sees
    simp only [sees,kVar,cellsAt,Nat.reduceAdd] at F7
    obtain ⟨⟨⟨z0,fz0⟩,c0_0,c0_1,c0_2,c0_3,c0_4,c0_5,c0_6,c0_7,-⟩,-⟩:=F7
    go_wp2_with fail
    have hK:=H6.out.get (kVar (w.heap.size) 43 [.int .u8 0,.int .i64 0,.string ⟨#[]⟩,.int .i64 0,.int .i64 0,.int .i64 0,.int .i64 0,.int .i64 0]) (by simp)
    have hB:=H6.out.bel
    have hE:=(((((((((show Blk w4 (w.heap.size) 43 _ from hK).set_ 0 (.int .u8 3)).set_ 1 (.int .i64 1)).set_ 2 (.string ⟨#[]⟩)).set_ 3 (.int .i64 0)).set_ 4 (.int .i64 0)).set_ 5 (.int .i64 0)).set_ 6 (.int .i64 0)).set_ 7 (.int .i64 (i : Int)))
    have r0:=hE.cell 0
    have r1:=hE.cell 1
    have r2:=hE.cell 2
    have r3:=hE.cell 3
    have r4:=hE.cell 4
    have r5:=hE.cell 5
    have r6:=hE.cell 6
    have r7:=hE.cell 7
    simp at r0 r1 r2 r3 r4 r5 r6 r7
    refine bodyPost_ret (v:=.tuple #[.agg #[.int .u8 3,.int .i64 1,.string ⟨#[]⟩,.int .i64 0,.int .i64 0,.int .i64 0,.int .i64 0,.int .i64 (i : Int)],.int .i64 (z : Int),.bool true]) (by simp [results,Tryz.results73,go_sem,r0,r1,r2,r3,r4,r5,r6,r7]) rfl ⟨refout_some z HRES.out HZ.out.symm,((((((((hB.setCell (by simp) _).setCell (by simp) _).setCell (by simp) _).setCell (by simp) _).setCell (by simp) _).setCell (by simp) _).setCell (by simp) _).setCell (by simp) _)⟩
   ·have HNT:=keep hT
    have hTb : (u == [84,82,85,69]) = false:=str_ne hT
    clear hT
    by_cases hF : u = falseB
    ·have HRES:=keep (HWD.out.no (i:=i) HN40.out HNT.out hF)
     have hFb : (u == [70,65,76,83,69]) = true:=by rw [hF]; rfl
     clear hF
     have F7:=H6.out.sees
     simp only [sees,kVar,cellsAt,Nat.reduceAdd] at F7
     obtain ⟨⟨⟨z0,fz0⟩,c0_0,c0_1,c0_2,c0_3,c0_4,c0_5,c0_6,c0_7,-⟩,-⟩:=F7
     go_wp2_with fail
     have hK:=H6.out.get (kVar (w.heap.size) 43 [.int .u8 0,.int .i64 0,.string ⟨#[]⟩,.int .i64 0,.int .i64 0,.int .i64 0,.int .i64 0,.int .i64 0]) (by simp)
     have hB:=H6.out.bel
     have hE:=(((((((((show Blk w4 (w.heap.size) 43 _ from hK).set_ 0 (.int .u8 3)).set_ 1 (.int .i64 0)).set_ 2 (.string ⟨#[]⟩)).set_ 3 (.int .i64 0)).set_ 4 (.int .i64 0)).set_ 5 (.int .i64 0)).set_ 6 (.int .i64 0)).set_ 7 (.int .i64 (i : Int)))
     have r0:=hE.cell 0
     have r1:=hE.cell 1
     have r2:=hE.cell 2
     have r3:=hE.cell 3
     have r4:=hE.cell 4
     have r5:=hE.cell 5
     have r6:=hE.cell 6
     have r7:=hE.cell 7
     simp at r0 r1 r2 r3 r4 r5 r6 r7
     refine bodyPost_ret (v:=.tuple #[.agg #[.int .u8 3,.int .i64 0,.string ⟨#[]⟩,.int .i64 0,.int .i64 0,.int .i64 0,.int .i64 0,.int .i64 (i : Int)],.int .i64 (z : Int),.bool true]) (by simp [results,Tryz.results73,go_sem,r0,r1,r2,r3,r4,r5,r6,r7]) rfl ⟨refout_some z HRES.out HZ.out.symm,((((((((hB.setCell (by simp) _).setCell (by simp) _).setCell (by simp) _).setCell (by simp) _).setCell (by simp) _).setCell (by simp) _).setCell (by simp) _).setCell (by simp) _)⟩
    ·have HNF:=keep hF
     have hFb : (u == [70,65,76,83,69]) = false:=str_ne hF
     clear hF
     go_wp2_with fail
     refine (ref7_address s i _ hs (by omega)).mono ?_
     rintro e w8 ⟨⟨ca,ra,n0,rfl,hadr⟩,hb8⟩
     have H8:=Lib.hid (H6.out.below hb8)
     clear hb8 H6
     by_cases hA : A3 = 0
     ·have hsome : addrS (restB s i) = some (A1,A2,(wrdRun s i).length):=by rw [HEQ.out,if_pos ⟨hA,HB40.out⟩]
      rw [hsome]
      obtain ⟨rfl,rfl,hn1⟩:=hadr _ hsome
      have hn0 : n0 = z:=by rw [hn1]; exact HZ.out
      clear hadr hn1
      subst hn0
      have HA:=keep hA
      clear hsome hA hTb hFb
      simp only [Option.isSome_some]
      go_upto_region 12 with fail
      have H7:=Lib.hid (H8.out.alloc w8.heap.size 104 [.int .i64 ca,.int .i64 ra] rfl)
      clear H8
      generalize (w8.alloc (.cells #[.int .i64 ca,.int .i64 ra] 104)) = W8 at H7 ⊢
      have F9:=H7.out.sees
      simp only [sees,kBlk,kVar,cellsAt,Nat.reduceAdd] at F9
      obtain ⟨⟨z0,c0_0,c0_1,-⟩,⟨⟨z1,fz1⟩,c1_0,c1_1,c1_2,c1_3,c1_4,c1_5,c1_6,c1_7,-⟩,-⟩:=F9
      go_wp2_with fail
      refine (ref_One ca ra _).mono ?_
      rintro e w10 ⟨rfl,hb11⟩
      clear z0 c0_0 c0_1 z1 fz1 c1_0 c1_1 c1_2 c1_3 c1_4 c1_5 c1_6 c1_7
      have H12:=Lib.hid (H7.out.below hb11)
      clear hb11 H7
      go_upto_region 13 with fail
      have HF12:=Lib.hid (show ∀ x ∈ [kBlk (w8.heap.size) 104 [.int .i64 ca,.int .i64 ra],kVar (w.heap.size) 43 [.int .u8 0,.int .i64 0,.string ⟨#[]⟩,.int .i64 0,.int .i64 0,.int .i64 0,.int .i64 0,.int .i64 0]],x.far (some w10.heap.size) from fun x hx => x.new _ _ (Nat.le_refl _) (H12.out.all x hx))
      have HZ12:=Lib.hid H12.out.bel.size
      have H13:=Lib.hid (H12.out.var w10.heap.size 43 [.int .u8 5,.int .i64 0,.string ⟨#[]⟩,.int .i64 ca,.int .i64 ra,.int .i64 ca,.int .i64 ra,.int .i64 (i : Int)] rfl)
      clear H12
      generalize (w10.alloc (.cells #[.int .u8 5,.int .i64 0,.string ⟨#[]⟩,.int .i64 ca,.int .i64 ra,.int .i64 ca,.int .i64 ra,.int .i64 (i : Int)] 43)) = W14 at H13 ⊢
      go_upto_region 13 with fail
      obtain ⟨b,hb⟩ : ∃ b,testAt (· == 58) s n0 = b:=⟨_,rfl⟩
      have HB:=keep hb
      clear hb
      go_cut [71] (fun s9 wx => s9 = .bool b ∧ wx = W14)
      case first =>
       by_cases h1 : (n0 : Int) < s.size
       ·have hkl : n0 < s.size:=by omega
        have hda:=colon_at hkl
        by_cases h2 : ((s[n0]'hkl).toNat : Int) = 58
        ·rw [decide_eq_true h2] at hda
         have hB:=HB.out
         rw [hda] at hB
         subst hB
         have h2' : (((s[n0]'hkl).toNat : Int) == 58) = true:=by rw [h2]; rfl
         clear hda h2
         go_wp2_with fail
         go_meet
         exact ⟨rfl,rfl⟩
        ·rw [decide_eq_false h2] at hda
         have hB:=HB.out
         rw [hda] at hB
         subst hB
         have h2' : (((s[n0]'hkl).toNat : Int) == 58) = false:=by simpa using h2
         clear hda h2
         go_wp2_with fail
         go_meet
         exact ⟨rfl,rfl⟩
       ·have hB:=HB.out
        rw [test_out (by omega)] at hB
        subst hB
        go_wp2_with fail
        go_meet
        exact ⟨rfl,rfl⟩
      case rest =>
       obtain ⟨rfl,hwc⟩:=hcut
       obtain rfl : W14 = wc:=hwc.symm
       cases b
       ·have HRES:=keep (HWD.out.one (i:=i) HN40.out HNT.out HNF.out HA.out (second_off HB.out))
        have F15:=H13.out.sees
        simp only [sees,kBlk,kVar,cellsAt,Nat.reduceAdd] at F15
        obtain ⟨⟨⟨z0,fz0⟩,c0_0,c0_1,c0_2,c0_3,c0_4,c0_5,c0_6,c0_7,-⟩,⟨z1,c1_0,c1_1,-⟩,⟨⟨z2,fz2⟩,c2_0,c2_1,c2_2,c2_3,c2_4,c2_5,c2_6,c2_7,-⟩,-⟩:=F15
        go_wp2_with fail
        have hK:=H13.out.get (kVar (w.heap.size) 43 [.int .u8 0,.int .i64 0,.string ⟨#[]⟩,.int .i64 0,.int .i64 0,.int .i64 0,.int .i64 0,.int .i64 0]) (by simp)
        have hB:=H13.out.bel
        have hE:=(((((((((show Blk W14 (w.heap.size) 43 _ from hK).set_ 0 (.int .u8 5)).set_ 1 (.int .i64 0)).set_ 2 (.string ⟨#[]⟩)).set_ 3 (.int .i64 ca)).set_ 4 (.int .i64 ra)).set_ 5 (.int .i64 ca)).set_ 6 (.int .i64 ra)).set_ 7 (.int .i64 (i : Int)))
        have r0:=hE.cell 0
        have r1:=hE.cell 1
        have r2:=hE.cell 2
        have r3:=hE.cell 3
        have r4:=hE.cell 4
        have r5:=hE.cell 5
        have r6:=hE.cell 6
        have r7:=hE.cell 7
        simp at r0 r1 r2 r3 r4 r5 r6 r7
        refine bodyPost_ret (v:=.tuple #[.agg #[.int .u8 5,.int .i64 0,.string ⟨#[]⟩,.int .i64 ca,.int .i64 ra,.int .i64 ca,.int .i64 ra,.int .i64 (i : Int)],.int .i64 (n0 : Int),.bool true]) (by simp [results,Tryz.results73,go_sem,r0,r1,r2,r3,r4,r5,r6,r7]) rfl ⟨refout_some n0 HRES.out HZ.out.symm,((((((((hB.setCell (by simp) _).setCell (by simp) _).setCell (by simp) _).setCell (by simp) _).setCell (by simp) _).setCell (by simp) _).setCell (by simp) _).setCell (by simp) _)⟩
       ·have hzl:=test_lt HB.out
        obtain ⟨q,hq⟩ : ∃ q,n0 + 1 = q:=⟨_,rfl⟩
        have hqi : (n0 : Int) + 1 = (q : Int):=by omega
        have HSQ:=keep (show secondS (s.data.toList.drop n0) = addrS (restB s q) by rw [← hq]; exact second_at HB.out)
        have HQ:=keep hq
        have hqs : q ≤ s.size:=by omega
        clear hq HB
        go_wp2_with fail
        refine (ref7_address s q _ hs hqs).mono ?_
        rintro e w9 ⟨⟨cb,rb,m1,rfl,hadr⟩,hb9⟩
        have H9:=Lib.hid (H13.out.below hb9)
        clear hb9 H13
        obtain ⟨X,hX⟩ : ∃ X,addrS (restB s q) = X:=⟨_,rfl⟩
        rw [hX] at hadr ⊢
        have HX:=keep hX
        clear hX
        cases X with
        | none =>
         clear hadr
         have HRES:=keep (HWD.out.one (i:=i) HN40.out HNT.out HNF.out HA.out (by rw [HSQ.out]; exact HX.out))
         simp only [Option.isSome_none]
         have F15:=H9.out.sees
         simp only [sees,kBlk,kVar,cellsAt,Nat.reduceAdd] at F15
         obtain ⟨⟨⟨z0,fz0⟩,c0_0,c0_1,c0_2,c0_3,c0_4,c0_5,c0_6,c0_7,-⟩,⟨z1,c1_0,c1_1,-⟩,⟨⟨z2,fz2⟩,c2_0,c2_1,c2_2,c2_3,c2_4,c2_5,c2_6,c2_7,-⟩,-⟩:=F15
         go_upto_region 15 with fail
         clear z0 fz0 c0_0 c0_1 c0_2 c0_3 c0_4 c0_5 c0_6 c0_7 z1 c1_0 c1_1 z2 fz2 c2_0 c2_1 c2_2 c2_3 c2_4 c2_5 c2_6 c2_7
         have H16:=Lib.hid (H9.out.alloc w9.heap.size 104 [.int .i64 cb,.int .i64 rb] rfl)
         clear H9
         generalize (w9.alloc (.cells #[.int .i64 cb,.int .i64 rb] 104)) = W17 at H16 ⊢
         have F18:=H16.out.sees
         simp only [sees,kBlk,kVar,cellsAt,Nat.reduceAdd] at F18
         obtain ⟨⟨z0,c0_0,c0_1,-⟩,⟨⟨z1,fz1⟩,c1_0,c1_1,c1_2,c1_3,c1_4,c1_5,c1_6,c1_7,-⟩,⟨z2,c2_0,c2_1,-⟩,⟨⟨z3,fz3⟩,c3_0,c3_1,c3_2,c3_3,c3_4,c3_5,c3_6,c3_7,-⟩,-⟩:=F18
         go_wp2_with fail
         have hK:=H16.out.get (kVar (w.heap.size) 43 [.int .u8 0,.int .i64 0,.string ⟨#[]⟩,.int .i64 0,.int .i64 0,.int .i64 0,.int .i64 0,.int .i64 0]) (by simp)
         have hB:=H16.out.bel
         have hE:=(((((((((show Blk W17 (w.heap.size) 43 _ from hK).set_ 0 (.int .u8 5)).set_ 1 (.int .i64 0)).set_ 2 (.string ⟨#[]⟩)).set_ 3 (.int .i64 ca)).set_ 4 (.int .i64 ra)).set_ 5 (.int .i64 ca)).set_ 6 (.int .i64 ra)).set_ 7 (.int .i64 (i : Int)))
         have r0:=hE.cell 0
         have r1:=hE.cell 1
         have r2:=hE.cell 2
         have r3:=hE.cell 3
         have r4:=hE.cell 4
         have r5:=hE.cell 5
         have r6:=hE.cell 6
         have r7:=hE.cell 7
         simp at r0 r1 r2 r3 r4 r5 r6 r7
         refine bodyPost_ret (v:=.tuple #[.agg #[.int .u8 5,.int .i64 0,.string ⟨#[]⟩,.int .i64 ca,.int .i64 ra,.int .i64 ca,.int .i64 ra,.int .i64 (i : Int)],.int .i64 (n0 : Int),.bool true]) (by simp [results,Tryz.results73,go_sem,r0,r1,r2,r3,r4,r5,r6,r7]) rfl ⟨refout_some n0 HRES.out HZ.out.symm,((((((((hB.setCell (by simp) _).setCell (by simp) _).setCell (by simp) _).setCell (by simp) _).setCell (by simp) _).setCell (by simp) _).setCell (by simp) _).setCell (by simp) _)⟩
        | some Y =>
         obtain ⟨B1,B2,m⟩:=Y
         obtain ⟨rfl,rfl,hm1⟩:=hadr _ rfl
         have HM:=keep (show m1 = q + m from hm1)
         clear hadr hm1
         have HSEC:=keep (show secondS (s.data.toList.drop n0) = some (cb,rb,m) by rw [HSQ.out]; exact HX.out)
         have HRES:=keep (HWD.out.two (i:=i) HN40.out HNT.out HNF.out HA.out HSEC.out)
         simp only [Option.isSome_some]
         have F15:=H9.out.sees
         simp only [sees,kBlk,kVar,cellsAt,Nat.reduceAdd] at F15
         obtain ⟨⟨⟨z0,fz0⟩,c0_0,c0_1,c0_2,c0_3,c0_4,c0_5,c0_6,c0_7,-⟩,⟨z1,c1_0,c1_1,-⟩,⟨⟨z2,fz2⟩,c2_0,c2_1,c2_2,c2_3,c2_4,c2_5,c2_6,c2_7,-⟩,-⟩:=F15
         go_upto_region 16 with fail
         have hz13:=z0
         have HZ13:=Lib.hid hz13
         clear z0 fz0 c0_0 c0_1 c0_2 c0_3 c0_4 c0_5 c0_6 c0_7 z1 c1_0 c1_1 z2 fz2 c2_0 c2_1 c2_2 c2_3 c2_4 c2_5 c2_6 c2_7
         have H16:=Lib.hid (H9.out.alloc w9.heap.size 104 [.int .i64 cb,.int .i64 rb] rfl)
         clear H9
         generalize (w9.alloc (.cells #[.int .i64 cb,.int .i64 rb] 104)) = W17 at H16 ⊢
         have F18:=H16.out.sees
         simp only [sees,kBlk,kVar,cellsAt,Nat.reduceAdd] at F18
         obtain ⟨⟨z0,c0_0,c0_1,-⟩,⟨⟨z1,fz1⟩,c1_0,c1_1,c1_2,c1_3,c1_4,c1_5,c1_6,c1_7,-⟩,⟨z2,c2_0,c2_1,-⟩,⟨⟨z3,fz3⟩,c3_0,c3_1,c3_2,c3_3,c3_4,c3_5,c3_6,c3_7,-⟩,-⟩:=F18
         go_upto_region 17 with fail
         clear z0 c0_0 c0_1 z1 fz1 c1_0 c1_1 c1_2 c1_3 c1_4 c1_5 c1_6 c1_7 z2 c2_0 c2_1 z3 fz3 c3_0 c3_1 c3_2 c3_3 c3_4 c3_5 c3_6 c3_7
         have H10:=Lib.hid (H16.out.drop [kVar (w10.heap.size) 43 [.int .u8 5,.int .i64 0,.string ⟨#[]⟩,.int .i64 ca,.int .i64 ra,.int .i64 ca,.int .i64 ra,.int .i64 (i : Int)],kBlk (w9.heap.size) 104 [.int .i64 cb,.int .i64 rb],kBlk (w8.heap.size) 104 [.int .i64 ca,.int .i64 ra],kVar (w.heap.size) 43 [.int .u8 0,.int .i64 0,.string ⟨#[]⟩,.int .i64 0,.int .i64 0,.int .i64 0,.int .i64 0,.int .i64 0]] (by simp))
         have hfar : ∀ x ∈ [kBlk (w9.heap.size) 104 [.int .i64 cb,.int .i64 rb],kBlk (w8.heap.size) 104 [.int .i64 ca,.int .i64 ra],kVar (w.heap.size) 43 [.int .u8 0,.int .i64 0,.string ⟨#[]⟩,.int .i64 0,.int .i64 0,.int .i64 0,.int .i64 0,.int .i64 0]],x.far (some (w10.heap.size)):=by
          intro x hx
          rcases List.mem_cons.1 hx with rfl | hx
          ·have:=HZ13.out
           simp [kBlk]; omega
          ·exact HF12.out x hx
         have H11 : Hid (Ok w [kVar (w10.heap.size) 43 [.int .u8 5,.int .i64 0,.string ⟨#[]⟩,.int .i64 (min ca cb),.int .i64 (min ra rb),.int .i64 (max ca cb),.int .i64 (max ra rb),.int .i64 (i : Int)],kBlk (w9.heap.size) 104 [.int .i64 cb,.int .i64 rb],kBlk (w8.heap.size) 104 [.int .i64 ca,.int .i64 ra],kVar (w.heap.size) 43 [.int .u8 0,.int .i64 0,.string ⟨#[]⟩,.int .i64 0,.int .i64 0,.int .i64 0,.int .i64 0,.int .i64 0]] ((((W17.setCell ⟨w10.heap.size,3,none⟩ (.int .i64 (min ca cb))).setCell ⟨w10.heap.size,4,none⟩ (.int .i64 (min ra rb))).setCell ⟨w10.heap.size,5,none⟩ (.int .i64 (max ca cb))).setCell ⟨w10.heap.size,6,none⟩ (.int .i64 (max ra rb)))):=((((H10.out.set_ (i:=3) (u:=.int .i64 (min ca cb)) HZ12.out hfar).set_ (i:=4) (u:=.int .i64 (min ra rb)) HZ12.out hfar).set_ (i:=5) (u:=.int .i64 (max ca cb)) HZ12.out hfar).set_ (i:=6) (u:=.int .i64 (max ra rb)) HZ12.out hfar)
         clear H10 hfar H16
         generalize ((((W17.setCell ⟨w10.heap.size,3,none⟩ (.int .i64 (min ca cb))).setCell ⟨w10.heap.size,4,none⟩ (.int .i64 (min ra rb))).setCell ⟨w10.heap.size,5,none⟩ (.int .i64 (max ca cb))).setCell ⟨w10.heap.size,6,none⟩ (.int .i64 (max ra rb))) = W19 at H11 ⊢
         by_cases hAB : ca = cb ∧ ra = rb
         ·have HR5:=keep (show wordR (restB s i) i = some (⟨5,0,[],rectS (ca,ra) (cb,rb),i⟩,(wrdRun s i).length + 1 + m) by have h9:=HRES.out; simp only [] at h9; rw [if_pos hAB] at h9; exact h9)
          clear HRES
          obtain ⟨rfl,rfl⟩:=hAB
          have F20:=H11.out.sees
          simp only [sees,kBlk,kVar,cellsAt,Nat.reduceAdd] at F20
          obtain ⟨⟨⟨z0,fz0⟩,c0_0,c0_1,c0_2,c0_3,c0_4,c0_5,c0_6,c0_7,-⟩,⟨z1,c1_0,c1_1,-⟩,⟨z2,c2_0,c2_1,-⟩,⟨⟨z3,fz3⟩,c3_0,c3_1,c3_2,c3_3,c3_4,c3_5,c3_6,c3_7,-⟩,-⟩:=F20
          go_wp2_with fail
          have hK:=H11.out.get (kVar (w.heap.size) 43 [.int .u8 0,.int .i64 0,.string ⟨#[]⟩,.int .i64 0,.int .i64 0,.int .i64 0,.int .i64 0,.int .i64 0]) (by simp)
          have hB:=H11.out.bel
          have hE:=(((((((((show Blk W19 (w.heap.size) 43 _ from hK).set_ 0 (.int .u8 5)).set_ 1 (.int .i64 0)).set_ 2 (.string ⟨#[]⟩)).set_ 3 (.int .i64 (min ca ca))).set_ 4 (.int .i64 (min ra ra))).set_ 5 (.int .i64 (max ca ca))).set_ 6 (.int .i64 (max ra ra))).set_ 7 (.int .i64 (i : Int)))
          have r0:=hE.cell 0
          have r1:=hE.cell 1
          have r2:=hE.cell 2
          have r3:=hE.cell 3
          have r4:=hE.cell 4
          have r5:=hE.cell 5
          have r6:=hE.cell 6
          have r7:=hE.cell 7
          simp at r0 r1 r2 r3 r4 r5 r6 r7
          refine bodyPost_ret (v:=.tuple #[.agg #[.int .u8 5,.int .i64 0,.string ⟨#[]⟩,.int .i64 (min ca ca),.int .i64 (min ra ra),.int .i64 (max ca ca),.int .i64 (max ra ra),.int .i64 (i : Int)],.int .i64 (m1 : Int),.bool true]) (by simp [results,Tryz.results73,go_sem,r0,r1,r2,r3,r4,r5,r6,r7]) rfl ⟨refout_some m1 HR5.out (by have:=HM.out; have:=HQ.out; have:=HZ.out; omega),((((((((hB.setCell (by simp) _).setCell (by simp) _).setCell (by simp) _).setCell (by simp) _).setCell (by simp) _).setCell (by simp) _).setCell (by simp) _).setCell (by simp) _)⟩
         ·have HR5:=keep (show wordR (restB s i) i = some (⟨6,0,[],rectS (ca,ra) (cb,rb),i⟩,(wrdRun s i).length + 1 + m) by have h9:=HRES.out; simp only [] at h9; rw [if_neg hAB] at h9; exact h9)
          clear HRES
          by_cases hA1 : ca = cb
          ·have hA2 : ¬ ra = rb:=fun h => hAB ⟨hA1,h⟩
           clear hAB
           subst hA1
           have hM : (min ca ca,max ca ca) = (ca,ca):=by simp
           clear hM
           have F20:=H11.out.sees
           simp only [sees,kBlk,kVar,cellsAt,Nat.reduceAdd] at F20
           obtain ⟨⟨⟨z0,fz0⟩,c0_0,c0_1,c0_2,c0_3,c0_4,c0_5,c0_6,c0_7,-⟩,⟨z1,c1_0,c1_1,-⟩,⟨z2,c2_0,c2_1,-⟩,⟨⟨z3,fz3⟩,c3_0,c3_1,c3_2,c3_3,c3_4,c3_5,c3_6,c3_7,-⟩,-⟩:=F20
           go_upto_region 19 with fail
           clear z0 fz0 c0_0 c0_1 c0_2 c0_3 c0_4 c0_5 c0_6 c0_7 z1 c1_0 c1_1 z2 c2_0 c2_1 z3 fz3 c3_0 c3_1 c3_2 c3_3 c3_4 c3_5 c3_6 c3_7
           have hfar : ∀ x ∈ [kBlk (w9.heap.size) 104 [.int .i64 ca,.int .i64 rb],kBlk (w8.heap.size) 104 [.int .i64 ca,.int .i64 ra],kVar (w.heap.size) 43 [.int .u8 0,.int .i64 0,.string ⟨#[]⟩,.int .i64 0,.int .i64 0,.int .i64 0,.int .i64 0,.int .i64 0]],x.far (some (w10.heap.size)):=by
            intro x hx
            rcases List.mem_cons.1 hx with rfl | hx
            ·have:=HZ13.out
             simp [kBlk]; omega
            ·exact HF12.out x hx
           have H12 : Hid (Ok w [kVar (w10.heap.size) 43 [.int .u8 6,.int .i64 0,.string ⟨#[]⟩,.int .i64 (min ca ca),.int .i64 (min ra rb),.int .i64 (max ca ca),.int .i64 (max ra rb),.int .i64 (i : Int)],kBlk (w9.heap.size) 104 [.int .i64 ca,.int .i64 rb],kBlk (w8.heap.size) 104 [.int .i64 ca,.int .i64 ra],kVar (w.heap.size) 43 [.int .u8 0,.int .i64 0,.string ⟨#[]⟩,.int .i64 0,.int .i64 0,.int .i64 0,.int .i64 0,.int .i64 0]] (W19.setCell ⟨w10.heap.size,0,none⟩ (.int .u8 6))):=H11.out.set_ (i:=0) (u:=.int .u8 6) HZ12.out hfar
           clear hfar H11
           generalize (W19.setCell ⟨w10.heap.size,0,none⟩ (.int .u8 6)) = W21 at H12 ⊢
           have F22:=H12.out.sees
           simp only [sees,kBlk,kVar,cellsAt,Nat.reduceAdd] at F22
           obtain ⟨⟨⟨z0,fz0⟩,c0_0,c0_1,c0_2,c0_3,c0_4,c0_5,c0_6,c0_7,-⟩,⟨z1,c1_0,c1_1,-⟩,⟨z2,c2_0,c2_1,-⟩,⟨⟨z3,fz3⟩,c3_0,c3_1,c3_2,c3_3,c3_4,c3_5,c3_6,c3_7,-⟩,-⟩:=F22
           go_wp2_with fail
           have hK:=H12.out.get (kVar (w.heap.size) 43 [.int .u8 0,.int .i64 0,.string ⟨#[]⟩,.int .i64 0,.int .i64 0,.int .i64 0,.int .i64 0,.int .i64 0]) (by simp)
           have hB:=H12.out.bel
           have hE:=(((((((((show Blk W21 (w.heap.size) 43 _ from hK).set_ 0 (.int .u8 6)).set_ 1 (.int .i64 0)).set_ 2 (.string ⟨#[]⟩)).set_ 3 (.int .i64 (min ca ca))).set_ 4 (.int .i64 (min ra rb))).set_ 5 (.int .i64 (max ca ca))).set_ 6 (.int .i64 (max ra rb))).set_ 7 (.int .i64 (i : Int)))
           have r0:=hE.cell 0
           have r1:=hE.cell 1
           have r2:=hE.cell 2
           have r3:=hE.cell 3
           have r4:=hE.cell 4
           have r5:=hE.cell 5
           have r6:=hE.cell 6
           have r7:=hE.cell 7
           simp at r0 r1 r2 r3 r4 r5 r6 r7
           refine bodyPost_ret (v:=.tuple #[.agg #[.int .u8 6,.int .i64 0,.string ⟨#[]⟩,.int .i64 (min ca ca),.int .i64 (min ra rb),.int .i64 (max ca ca),.int .i64 (max ra rb),.int .i64 (i : Int)],.int .i64 (m1 : Int),.bool true]) (by simp [results,Tryz.results73,go_sem,r0,r1,r2,r3,r4,r5,r6,r7]) rfl ⟨refout_some m1 HR5.out (by have:=HM.out; have:=HQ.out; have:=HZ.out; omega),((((((((hB.setCell (by simp) _).setCell (by simp) _).setCell (by simp) _).setCell (by simp) _).setCell (by simp) _).setCell (by simp) _).setCell (by simp) _).setCell (by simp) _)⟩
          ·clear hAB
           have F20:=H11.out.sees
           simp only [sees,kBlk,kVar,cellsAt,Nat.reduceAdd] at F20
           obtain ⟨⟨⟨z0,fz0⟩,c0_0,c0_1,c0_2,c0_3,c0_4,c0_5,c0_6,c0_7,-⟩,⟨z1,c1_0,c1_1,-⟩,⟨z2,c2_0,c2_1,-⟩,⟨⟨z3,fz3⟩,c3_0,c3_1,c3_2,c3_3,c3_4,c3_5,c3_6,c3_7,-⟩,-⟩:=F20
           go_upto_region 19 with fail
           clear z0 fz0 c0_0 c0_1 c0_2 c0_3 c0_4 c0_5 c0_6 c0_7 z1 c1_0 c1_1 z2 c2_0 c2_1 z3 fz3 c3_0 c3_1 c3_2 c3_3 c3_4 c3_5 c3_6 c3_7
           have hfar : ∀ x ∈ [kBlk (w9.heap.size) 104 [.int .i64 cb,.int .i64 rb],kBlk (w8.heap.size) 104 [.int .i64 ca,.int .i64 ra],kVar (w.heap.size) 43 [.int .u8 0,.int .i64 0,.string ⟨#[]⟩,.int .i64 0,.int .i64 0,.int .i64 0,.int .i64 0,.int .i64 0]],x.far (some (w10.heap.size)):=by
            intro x hx
            rcases List.mem_cons.1 hx with rfl | hx
            ·have:=HZ13.out
             simp [kBlk]; omega
            ·exact HF12.out x hx
           have H12 : Hid (Ok w [kVar (w10.heap.size) 43 [.int .u8 6,.int .i64 0,.string ⟨#[]⟩,.int .i64 (min ca cb),.int .i64 (min ra rb),.int .i64 (max ca cb),.int .i64 (max ra rb),.int .i64 (i : Int)],kBlk (w9.heap.size) 104 [.int .i64 cb,.int .i64 rb],kBlk (w8.heap.size) 104 [.int .i64 ca,.int .i64 ra],kVar (w.heap.size) 43 [.int .u8 0,.int .i64 0,.string ⟨#[]⟩,.int .i64 0,.int .i64 0,.int .i64 0,.int .i64 0,.int .i64 0]] (W19.setCell ⟨w10.heap.size,0,none⟩ (.int .u8 6))):=H11.out.set_ (i:=0) (u:=.int .u8 6) HZ12.out hfar
           clear hfar H11
           generalize (W19.setCell ⟨w10.heap.size,0,none⟩ (.int .u8 6)) = W21 at H12 ⊢
           have F22:=H12.out.sees
           simp only [sees,kBlk,kVar,cellsAt,Nat.reduceAdd] at F22
           obtain ⟨⟨⟨z0,fz0⟩,c0_0,c0_1,c0_2,c0_3,c0_4,c0_5,c0_6,c0_7,-⟩,⟨z1,c1_0,c1_1,-⟩,⟨z2,c2_0,c2_1,-⟩,⟨⟨z3,fz3⟩,c3_0,c3_1,c3_2,c3_3,c3_4,c3_5,c3_6,c3_7,-⟩,-⟩:=F22
           go_wp2_with fail
           have hK:=H12.out.get (kVar (w.heap.size) 43 [.int .u8 0,.int .i64 0,.string ⟨#[]⟩,.int .i64 0,.int .i64 0,.int .i64 0,.int .i64 0,.int .i64 0]) (by simp)
           have hB:=H12.out.bel
           have hE:=(((((((((show Blk W21 (w.heap.size) 43 _ from hK).set_ 0 (.int .u8 6)).set_ 1 (.int .i64 0)).set_ 2 (.string ⟨#[]⟩)).set_ 3 (.int .i64 (min ca cb))).set_ 4 (.int .i64 (min ra rb))).set_ 5 (.int .i64 (max ca cb))).set_ 6 (.int .i64 (max ra rb))).set_ 7 (.int .i64 (i : Int)))
           have r0:=hE.cell 0
           have r1:=hE.cell 1
           have r2:=hE.cell 2
           have r3:=hE.cell 3
           have r4:=hE.cell 4
           have r5:=hE.cell 5
           have r6:=hE.cell 6
           have r7:=hE.cell 7
           simp at r0 r1 r2 r3 r4 r5 r6 r7
           refine bodyPost_ret (v:=.tuple #[.agg #[.int .u8 6,.int .i64 0,.string ⟨#[]⟩,.int .i64 (min ca cb),.int .i64 (min ra rb),.int .i64 (max ca cb),.int .i64 (max ra rb),.int .i64 (i : Int)],.int .i64 (m1 : Int),.bool true]) (by simp [results,Tryz.results73,go_sem,r0,r1,r2,r3,r4,r5,r6,r7]) rfl ⟨refout_some m1 HR5.out (by have:=HM.out; have:=HQ.out; have:=HZ.out; omega),((((((((hB.setCell (by simp) _).setCell (by simp) _).setCell (by simp) _).setCell (by simp) _).setCell (by simp) _).setCell (by simp) _).setCell (by simp) _).setCell (by simp) _)⟩
     ·have hno : addrS (restB s i) = none:=by rw [HEQ.out,if_neg (fun h => hA h.1)]
      rw [hno]
      have HRES:=keep (HWD.out.bad (i:=i) HN40.out HNT.out HNF.out hA)
      clear hadr hno hA
      simp only [Option.isSome_none]
      go_upto_region 10 with fail
      have H7:=Lib.hid (H8.out.alloc w8.heap.size 104 [.int .i64 ca,.int .i64 ra] rfl)
      clear H8
      generalize (w8.alloc (.cells #[.int .i64 ca,.int .i64 ra] 104)) = W8 at H7 ⊢
      have F9:=H7.out.sees
      simp only [sees,kBlk,kVar,cellsAt,Nat.reduceAdd] at F9
      obtain ⟨⟨z0,c0_0,c0_1,-⟩,⟨⟨z1,fz1⟩,c1_0,c1_1,c1_2,c1_3,c1_4,c1_5,c1_6,c1_7,-⟩,-⟩:=F9
      go_wp2_with fail
      have hK:=H7.out.get (kVar (w.heap.size) 43 [.int .u8 0,.int .i64 0,.string ⟨#[]⟩,.int .i64 0,.int .i64 0,.int .i64 0,.int .i64 0,.int .i64 0]) (by simp)
      have hB:=H7.out.bel
      have hE:=(((((((((show Blk W8 (w.heap.size) 43 _ from hK).set_ 0 (.int .u8 0)).set_ 1 (.int .i64 0)).set_ 2 (.string ⟨#[]⟩)).set_ 3 (.int .i64 0)).set_ 4 (.int .i64 0)).set_ 5 (.int .i64 0)).set_ 6 (.int .i64 0)).set_ 7 (.int .i64 0))
      have r0:=hE.cell 0
      have r1:=hE.cell 1
      have r2:=hE.cell 2
      have r3:=hE.cell 3
      have r4:=hE.cell 4
      have r5:=hE.cell 5
      have r6:=hE.cell 6
      have r7:=hE.cell 7
      simp at r0 r1 r2 r3 r4 r5 r6 r7
      refine bodyPost_ret (v:=.tuple #[.agg #[.int .u8 0,.int .i64 0,.string ⟨#[]⟩,.int .i64 0,.int .i64 0,.int .i64 0,.int .i64 0,.int .i64 0],.int .i64 0,.bool false]) (by simp [results,Tryz.results73,go_sem,r0,r1,r2,r3,r4,r5,r6,r7]) rfl ⟨refout_none Tk.zero HRES.out,((((((((hB.setCell (by simp) _).setCell (by simp) _).setCell (by simp) _).setCell (by simp) _).setCell (by simp) _).setCell (by simp) _).setCell (by simp) _).setCell (by simp) _)⟩
  ·have HRES:=keep (HWD.out.name (i:=i) (by have h9:=HB.out; rw [test_head] at h9; simpa using h9))
   have F7:=H6.out.sees
   simp only [sees,kVar,cellsAt,Nat.reduceAdd] at F7
   obtain ⟨⟨⟨z0,fz0⟩,c0_0,c0_1,c0_2,c0_3,c0_4,c0_5,c0_6,c0_7,-⟩,-⟩:=F7
   go_wp2_with fail
   have hK:=H6.out.get (kVar (w.heap.size) 43 [.int .u8 0,.int .i64 0,.string ⟨#[]⟩,.int .i64 0,.int .i64 0,.int .i64 0,.int .i64 0,.int .i64 0]) (by simp)
   have hB:=H6.out.bel
   have hE:=(((((((((show Blk w4 (w.heap.size) 43 _ from hK).set_ 0 (.int .u8 7)).set_ 1 (.int .i64 0)).set_ 2 (.string ⟨u.toArray⟩)).set_ 3 (.int .i64 0)).set_ 4 (.int .i64 0)).set_ 5 (.int .i64 0)).set_ 6 (.int .i64 0)).set_ 7 (.int .i64 (i : Int)))
   have r0:=hE.cell 0
   have r1:=hE.cell 1
   have r2:=hE.cell 2
   have r3:=hE.cell 3
   have r4:=hE.cell 4
   have r5:=hE.cell 5
   have r6:=hE.cell 6
   have r7:=hE.cell 7
   simp at r0 r1 r2 r3 r4 r5 r6 r7
   refine bodyPost_ret (v:=.tuple #[.agg #[.int .u8 7,.int .i64 0,.string ⟨u.toArray⟩,.int .i64 0,.int .i64 0,.int .i64 0,.int .i64 0,.int .i64 (i : Int)],.int .i64 (z : Int),.bool true]) (by simp [results,Tryz.results73,go_sem,r0,r1,r2,r3,r4,r5,r6,r7]) rfl ⟨refout_some z HRES.out HZ.out.symm,((((((((hB.setCell (by simp) _).setCell (by simp) _).setCell (by simp) _).setCell (by simp) _).setCell (by simp) _).setCell (by simp) _).setCell (by simp) _).setCell (by simp) _)⟩
end
section
open Go.RowKit
def errT (c : Int) : List UInt8:=if 1 ≤ c ∧ c ≤ 7 then allNames[c.toNat]?.getD [] else []
theorem ref5_Fail7 (w : World) :
  Calls Tryz.prog 122 #[.int .i64 7] w fun e w' => e = .returned (.agg #[.int .u8 4,.int .i64 7,.string ⟨#[]⟩]) ∧ Below w.heap.size w w':=by
 go_enter Tryz.func122,Tryz.ntmps122
 have H0:=Lib.hid (Ok.start w)
 go_upto_region 1 with fail
 have H1:=Lib.hid (H0.out.var w.heap.size 28 [.int .u8 0,.int .i64 0,.string ⟨#[]⟩] rfl)
 clear H0
 generalize (w.alloc (.cells #[.int .u8 0,.int .i64 0,.string ⟨#[]⟩] 28)) = W2 at H1 ⊢
 have F3:=H1.out.sees
 simp only [sees,kVar,cellsAt,Nat.reduceAdd] at F3
 obtain ⟨⟨⟨z0,fz0⟩,c0_0,c0_1,c0_2,-⟩,-⟩:=F3
 go_wp2_with fail
 have hK:=H1.out.get (kVar (w.heap.size) 28 [.int .u8 0,.int .i64 0,.string ⟨#[]⟩]) (by simp)
 have hB:=H1.out.bel
 have hE:=((((show Blk W2 (w.heap.size) 28 _ from hK).set_ 0 (.int .u8 4)).set_ 1 (.int .i64 7)).set_ 2 (.string ⟨#[]⟩))
 have r0:=hE.cell 0
 have r1:=hE.cell 1
 have r2:=hE.cell 2
 simp at r0 r1 r2
 exact bodyPost_ret (v:=.agg #[.int .u8 4,.int .i64 7,.string ⟨#[]⟩]) (by simp [results,Tryz.results122,go_sem,r0,r1,r2]) rfl ⟨rfl,(((hB.setCell (by simp) _).setCell (by simp) _).setCell (by simp) _)⟩
theorem ref5_Name (c : Int) (w : World) :
  Calls Tryz.prog 123 #[.int .i64 c] w fun e w' => e = .returned (.string ⟨(errT c).toArray⟩) ∧ w' = w:=by
 rcases (show c = 1 ∨ c = 2 ∨ c = 3 ∨ c = 4 ∨ c = 5 ∨ c = 6 ∨ c = 7 ∨ ¬ (1 ≤ c ∧ c ≤ 7) by omega) with rfl | rfl | rfl | rfl | rfl | rfl | rfl | h
 iterate 7
  ·go_enter Tryz.func123,Tryz.ntmps123
   go_wp2_with fail
   go_ret
   exact ⟨rfl,rfl⟩
 ·have HE:=keep (show errT c = [] from if_neg h)
  have h1 : (c == 1) = false:=by simp; omega
  have h2 : (c == 2) = false:=by simp; omega
  have h3 : (c == 3) = false:=by simp; omega
  have h4 : (c == 4) = false:=by simp; omega
  have h5 : (c == 5) = false:=by simp; omega
  have h6 : (c == 6) = false:=by simp; omega
  have h7 : (c == 7) = false:=by simp; omega
  clear h
  go_enter Tryz.func123,Tryz.ntmps123
  go_wp2_with fail
  go_ret
  exact ⟨by rw [HE.out]; rfl,rfl⟩
set_option maxRecDepth 100000 in
theorem ref5_CheckE (c : Int) (w : World) :
  Calls Tryz.prog 124 #[.agg #[.int .u8 4,.int .i64 c,.string ⟨#[]⟩]] w fun e w' => e = .returned (.int .i64 (if 1 ≤ c ∧ c ≤ 6 then 0 else 2)) ∧ Below w.heap.size w w':=by
 have hb:=(Below.refl w.heap.size w).alloc (Nat.le_refl _) (.cells #[.int .u8 4,.int .i64 c,.string ⟨#[]⟩] 28)
 have HB:=Lib.hid hb
 clear hb
 by_cases h1 : 1 ≤ c
 ·by_cases h6 : c ≤ 6
  ·have HE:=keep (show (if 1 ≤ c ∧ c ≤ 6 then (0 : Int) else 2) = 0 from if_pos ⟨h1,h6⟩)
   rw [HE.out]
   go_enter Tryz.func124,Tryz.ntmps124
   go_wp2_with fail
   go_ret
   exact ⟨rfl,HB.out⟩
  ·have HE:=keep (show (if 1 ≤ c ∧ c ≤ 6 then (0 : Int) else 2) = 2 from if_neg (fun h => h6 h.2))
   rw [HE.out]
   go_enter Tryz.func124,Tryz.ntmps124
   go_wp2_with fail
   go_ret
   exact ⟨rfl,HB.out⟩
 ·have HE:=keep (show (if 1 ≤ c ∧ c ≤ 6 then (0 : Int) else 2) = 2 from if_neg (fun h => h1 h.1))
  rw [HE.out]
  go_enter Tryz.func124,Tryz.ntmps124
  go_wp2_with fail
  go_ret
  exact ⟨rfl,HB.out⟩
set_option maxRecDepth 100000 in
set_option maxHeartbeats 2000000 in
theorem ref5_Show (c : Int) (w : World) :
  Calls Tryz.prog 83 #[.agg #[.int .u8 4,.int .i64 c,.string ⟨#[]⟩]] w fun e w' => e = .returned (.string ⟨(errT c).toArray⟩) ∧ Below w.heap.size w w':=by
 by_cases h7 : c = 7
 ·subst h7
  have H1:=Lib.hid ((Ok.start w).alloc w.heap.size 28 [.int .u8 4,.int .i64 7,.string ⟨#[]⟩] rfl)
  go_enter Tryz.func83,Tryz.ntmps83
  go_wp2_with fail
  generalize (w.alloc (.cells #[.int .u8 4,.int .i64 7,.string ⟨#[]⟩] 28)) = W2 at H1 ⊢
  refine wp_region_held_drew (S:=fun W => Ok w [kBlk (w.heap.size) 28 [.int .u8 4,.int .i64 7,.string ⟨#[]⟩]] W) (by kernel_rfl) H1.out.drew (fun hHeld => ?_)
  refine tg (i:=0) (v:=?a1) rfl ?b1 (by assumption) ?c1
  case b1 => (intro w hSw; have F:=Ok.sees hSw; clear hSw; simp only [sees,kBlk,cellsAt,Nat.reduceAdd] at F; go_simp; try with_reducible rfl)
  try simp only [Act.put,p1,p2,p3,p4,p6]
  refine wpAnyH_ready (rs:=[1]) (by kernel_rfl) (by simp) ?_
  refine AllReadyH.cons rfl (fun K hK => ?_) AllReadyH.nil
  go_simp
  refine (ref5_Fail7 _).mono ?_
  rintro e w4 ⟨rfl,hb5⟩
  go_wp2_with fail
  refine hK.out _ _ (hHeld.below hb5) (fun hHeld => ?_)
  clear hK K
  try simp only [Act.put,p1,p2,p3,p4,p5,p6]
  refine tg (i:=2) (v:=?a4) rfl ?b4 (by assumption) ?c4
  case b4 => (intro w hSw; have F:=Ok.sees hSw; clear hSw; simp only [sees,kBlk,cellsAt,Nat.reduceAdd] at F; go_simp; try with_reducible rfl)
  try simp only [Act.put,p1,p2,p3,p4,p5,p6]
  refine wpAnyH_done (by kernel_rfl) ?_ _
  clear H1
  have H6:=Lib.hid hHeld
  clear hHeld
  have F7:=H6.out.sees
  simp only [sees,kBlk,cellsAt,Nat.reduceAdd] at F7
  obtain ⟨⟨z0,c0_0,c0_1,c0_2,-⟩,-⟩:=F7
  go_wp2_with fail
  refine (ref5_Name 7 _).mono ?_
  rintro e wz9 ⟨rfl,hw9⟩
  obtain rfl : w4 = wz9:=hw9.symm
  go_wp2_with fail
  go_ret
  exact ⟨rfl,H6.out.bel⟩
 ·have h7b : (c == 7) = false:=by simpa using h7
  have H7:=keep h7
  clear h7
  by_cases h16 : 1 ≤ c ∧ c ≤ 6
  ·have HC:=keep (show (if 1 ≤ c ∧ c ≤ 6 then (0 : Int) else 2) = 0 from if_pos h16)
   clear h16
   have H1:=Lib.hid ((Ok.start w).alloc w.heap.size 28 [.int .u8 4,.int .i64 c,.string ⟨#[]⟩] rfl)
   go_enter Tryz.func83,Tryz.ntmps83
   go_wp2_with fail
   generalize (w.alloc (.cells #[.int .u8 4,.int .i64 c,.string ⟨#[]⟩] 28)) = W2 at H1 ⊢
   refine wp_region_held_drew (S:=fun W => Ok w [kBlk (w.heap.size) 28 [.int .u8 4,.int .i64 c,.string ⟨#[]⟩]] W) (by kernel_rfl) H1.out.drew (fun hHeld => ?_)
   refine tg (i:=0) (v:=?a6) rfl ?b6 (by assumption) ?c6
   case b6 => (intro w hSw; have F:=Ok.sees hSw; clear hSw; simp only [sees,kBlk,cellsAt,Nat.reduceAdd] at F; go_simp; try with_reducible rfl)
   try simp only [Act.put,p1,p2,p3,p4,p6]
   refine wpAnyH_ready (rs:=[1]) (by kernel_rfl) (by simp) ?_
   refine AllReadyH.cons rfl (fun K hK => ?_) AllReadyH.nil
   go_simp
   refine (ref5_Fail7 _).mono ?_
   rintro e w4 ⟨rfl,hb5⟩
   go_wp2_with fail
   refine hK.out _ _ (hHeld.below hb5) (fun hHeld => ?_)
   clear hK K
   try simp only [Act.put,p1,p2,p3,p4,p5,p6]
   refine tg (i:=2) (v:=?a9) rfl ?b9 (by assumption) ?c9
   case b9 => (intro w hSw; have F:=Ok.sees hSw; clear hSw; simp only [sees,kBlk,cellsAt,Nat.reduceAdd] at F; go_simp; try with_reducible rfl)
   try simp only [Act.put,p1,p2,p3,p4,p5,p6]
   refine wpAnyH_done (by kernel_rfl) ?_ _
   clear H1
   have H6:=Lib.hid hHeld
   clear hHeld
   have F7:=H6.out.sees
   simp only [sees,kBlk,cellsAt,Nat.reduceAdd] at F7
   obtain ⟨⟨z0,c0_0,c0_1,c0_2,-⟩,-⟩:=F7
   go_wp2_with fail
   refine (ref5_CheckE c _).mono ?_
   rintro e w8 ⟨rfl,hb9⟩
   rw [HC.out]
   clear z0 c0_0 c0_1 c0_2
   have H10:=Lib.hid (H6.out.below hb9)
   clear hb9 H6
   have F11:=H10.out.sees
   simp only [sees,kBlk,cellsAt,Nat.reduceAdd] at F11
   obtain ⟨⟨z0,c0_0,c0_1,c0_2,-⟩,-⟩:=F11
   go_wp2_with fail
   refine (ref5_Name c _).mono ?_
   rintro e wz9 ⟨rfl,hw9⟩
   obtain rfl : w8 = wz9:=hw9.symm
   go_wp2_with fail
   go_ret
   exact ⟨rfl,H10.out.bel⟩
  ·have HC:=keep (show (if 1 ≤ c ∧ c ≤ 6 then (0 : Int) else 2) = 2 from if_neg h16)
   have HE:=keep (show errT c = [] from if_neg (by have:=H7.out; omega))
   clear h16
   have H1:=Lib.hid ((Ok.start w).alloc w.heap.size 28 [.int .u8 4,.int .i64 c,.string ⟨#[]⟩] rfl)
   go_enter Tryz.func83,Tryz.ntmps83
   go_wp2_with fail
   generalize (w.alloc (.cells #[.int .u8 4,.int .i64 c,.string ⟨#[]⟩] 28)) = W2 at H1 ⊢
   refine wp_region_held_drew (S:=fun W => Ok w [kBlk (w.heap.size) 28 [.int .u8 4,.int .i64 c,.string ⟨#[]⟩]] W) (by kernel_rfl) H1.out.drew (fun hHeld => ?_)
   refine tg (i:=0) (v:=?a11) rfl ?b11 (by assumption) ?c11
   case b11 => (intro w hSw; have F:=Ok.sees hSw; clear hSw; simp only [sees,kBlk,cellsAt,Nat.reduceAdd] at F; go_simp; try with_reducible rfl)
   try simp only [Act.put,p1,p2,p3,p4,p6]
   refine wpAnyH_ready (rs:=[1]) (by kernel_rfl) (by simp) ?_
   refine AllReadyH.cons rfl (fun K hK => ?_) AllReadyH.nil
   go_simp
   refine (ref5_Fail7 _).mono ?_
   rintro e w4 ⟨rfl,hb5⟩
   go_wp2_with fail
   refine hK.out _ _ (hHeld.below hb5) (fun hHeld => ?_)
   clear hK K
   try simp only [Act.put,p1,p2,p3,p4,p5,p6]
   refine tg (i:=2) (v:=?a14) rfl ?b14 (by assumption) ?c14
   case b14 => (intro w hSw; have F:=Ok.sees hSw; clear hSw; simp only [sees,kBlk,cellsAt,Nat.reduceAdd] at F; go_simp; try with_reducible rfl)
   try simp only [Act.put,p1,p2,p3,p4,p5,p6]
   refine wpAnyH_done (by kernel_rfl) ?_ _
   clear H1
   have H6:=Lib.hid hHeld
   clear hHeld
   have F7:=H6.out.sees
   simp only [sees,kBlk,cellsAt,Nat.reduceAdd] at F7
   obtain ⟨⟨z0,c0_0,c0_1,c0_2,-⟩,-⟩:=F7
   go_wp2_with fail
   refine (ref5_CheckE c _).mono ?_
   rintro e w8 ⟨rfl,hb9⟩
   rw [HC.out]
   clear z0 c0_0 c0_1 c0_2
   have H10:=Lib.hid (H6.out.below hb9)
   clear hb9 H6
   have F11:=H10.out.sees
   simp only [sees,kBlk,cellsAt,Nat.reduceAdd] at F11
   obtain ⟨⟨z0,c0_0,c0_1,c0_2,-⟩,-⟩:=F11
   go_wp2_with fail
   go_ret
   exact ⟨by rw [HE.out]; rfl,H10.out.bel⟩
set_option maxHeartbeats 2000000 in
theorem ref7_Operator (c : Int) (w : World) :
  Calls Tryz.prog 86 #[.int .i64 c] w fun e w' => e = .returned (.string ⟨(opText c).toArray⟩) ∧ w' = w:=by
 rcases (show c = 1 ∨ c = 2 ∨ c = 3 ∨ c = 4 ∨ c = 5 ∨ c = 6 ∨ c = 7 ∨ c = 8 ∨ c = 9 ∨ c = 10 ∨ c = 11 ∨ c = 12 ∨ c = 13 ∨ ¬ (1 ≤ c ∧ c ≤ 13) by omega) with rfl | rfl | rfl | rfl | rfl | rfl | rfl | rfl | rfl | rfl | rfl | rfl | rfl | h
 iterate 13
  ·go_enter Tryz.func86,Tryz.ntmps86
   go_wp2_with fail
   go_ret
   exact ⟨rfl,rfl⟩
 ·have HE:=keep (show opText c = [] by unfold opText; rw [if_neg (by omega),if_neg (by omega),if_neg (by omega),if_neg (by omega),if_neg (by omega),if_neg (by omega),if_neg (by omega),if_neg (by omega),if_neg (by omega),if_neg (by omega),if_neg (by omega),if_neg (by omega),if_neg (by omega)])
  have h1 : (c == 1) = false:=by simp; omega
  have h2 : (c == 2) = false:=by simp; omega
  have h3 : (c == 3) = false:=by simp; omega
  have h4 : (c == 4) = false:=by simp; omega
  have h5 : (c == 5) = false:=by simp; omega
  have h6 : (c == 6) = false:=by simp; omega
  have h7 : (c == 7) = false:=by simp; omega
  have h8 : (c == 8) = false:=by simp; omega
  have h9 : (c == 9) = false:=by simp; omega
  have h10 : (c == 10) = false:=by simp; omega
  have h11 : (c == 11) = false:=by simp; omega
  have h12 : (c == 12) = false:=by simp; omega
  have h13 : (c == 13) = false:=by simp; omega
  clear h
  go_enter Tryz.func86,Tryz.ntmps86
  go_wp2_with fail
  go_ret
  exact ⟨by rw [HE.out]; rfl,rfl⟩
theorem err_none {l : List UInt8} (h : ∀ c : Nat,1 ≤ c → c ≤ 5 → begB l (allNames[c]?.getD []) = false) : errS l = none:=by
 have key : ∀ c,1 ≤ c → c ≤ 5 → (l.take (allNames[c]?.getD []).length).map upB ≠ allNames[c]?.getD []:=fun c h1 h2 => by
  have h9:=h c h1 h2
  unfold begB at h9
  exact of_decide_eq_false h9
 show errF l (errNames.drop (1 - 1)) 1 = none
 rw [err_round l 1 (by decide) (by decide),if_neg (key 1 (by decide) (by decide))]
 show errF l (errNames.drop (2 - 1)) 2 = none
 rw [err_round l 2 (by decide) (by decide),if_neg (key 2 (by decide) (by decide))]
 show errF l (errNames.drop (3 - 1)) 3 = none
 rw [err_round l 3 (by decide) (by decide),if_neg (key 3 (by decide) (by decide))]
 show errF l (errNames.drop (4 - 1)) 4 = none
 rw [err_round l 4 (by decide) (by decide),if_neg (key 4 (by decide) (by decide))]
 show errF l (errNames.drop (5 - 1)) 5 = none
 rw [err_round l 5 (by decide) (by decide),if_neg (key 5 (by decide) (by decide))]
 rfl
theorem err_some {l : List UInt8} (c : Nat) (h1 : 1 ≤ c) (h5 : c ≤ 5) (hp : ∀ d : Nat,1 ≤ d → d < c → begB l (allNames[d]?.getD []) = false) (h : begB l (allNames[c]?.getD []) = true) : errS l = some (c,(allNames[c]?.getD []).length):=by
 have key : ∀ d,1 ≤ d → d < c → (l.take (allNames[d]?.getD []).length).map upB ≠ allNames[d]?.getD []:=fun d h1 h2 => by
  have h9:=hp d h1 h2
  unfold begB at h9
  exact of_decide_eq_false h9
 have hc : (l.take (allNames[c]?.getD []).length).map upB = allNames[c]?.getD []:=by unfold begB at h; exact of_decide_eq_true h
 have step : ∀ d,1 ≤ d → d < c → errF l (errNames.drop (d - 1)) d = errF l (errNames.drop (d + 1 - 1)) (d + 1):=fun d h1 h2 => by
  rw [err_round l d h1 (by omega),if_neg (key d h1 h2)]
  rfl
 have walk : ∀ d,1 ≤ d → d ≤ c → errF l (errNames.drop (1 - 1)) 1 = errF l (errNames.drop (d - 1)) d:=by
  intro d
  induction d with
  | zero => intro h; omega
  | succ d ih =>
   intro h1 h2
   rcases Nat.eq_zero_or_pos d with rfl | hd
   ·rfl
   ·rw [ih hd (by omega),step d hd (by omega)]
 show errF l (errNames.drop (1 - 1)) 1 = _
 rw [walk c h1 (Nat.le_refl _),err_round l c h1 h5,if_pos hc]
theorem beg_pre {l x : List UInt8} (hx : ∀ b ∈ x,¬ (65 ≤ b.toNat ∧ b.toNat ≤ 90) ∧ ¬ (97 ≤ b.toNat ∧ b.toNat ≤ 122)) : begB l x = true ↔ pre x l:=by
 unfold begB pre
 rw [decide_eq_true_eq]
 constructor
 ·intro e
  have key : ∀ b ∈ l.take x.length,upB b = b:=by
   intro b hb
   have h1 : upB b ∈ x:=by rw [← e]; exact List.mem_map_of_mem hb
   have h2:=(hx _ h1).1
   apply upB_same
   intro h3
   have:=upB_low b h3
   omega
  have h4 : (l.take x.length).map upB = l.take x.length:=(List.map_congr_left key).trans (List.map_id _)
  rw [h4] at e
  exact e
 ·intro e
  have key : ∀ b ∈ l.take x.length,upB b = b:=by
   intro b hb
   rw [e] at hb
   exact upB_same b (hx _ hb).2
  rw [(List.map_congr_left key).trans (List.map_id _)]
  exact e
def opAt (l : List UInt8) (n : Nat) (o : Int) : Prop:=(opText o).length = n ∧ begB l (opText o) = true
theorem op_pre {l : List UInt8} {o : Int} : begB l (opText o) = true ↔ pre (opText o) l:=by
 apply beg_pre
 by_cases h : 1 ≤ o ∧ o ≤ 13
 ·rcases (show o = 1 ∨ o = 2 ∨ o = 3 ∨ o = 4 ∨ o = 5 ∨ o = 6 ∨ o = 7 ∨ o = 8 ∨ o = 9 ∨ o = 10 ∨ o = 11 ∨ o = 12 ∨ o = 13 by omega) with rfl | rfl | rfl | rfl | rfl | rfl | rfl | rfl | rfl | rfl | rfl | rfl | rfl <;> decide
 ·have e : opText o = []:=by unfold opText; rw [if_neg (by omega),if_neg (by omega),if_neg (by omega),if_neg (by omega),if_neg (by omega),if_neg (by omega),if_neg (by omega),if_neg (by omega),if_neg (by omega),if_neg (by omega),if_neg (by omega),if_neg (by omega),if_neg (by omega)]
  rw [e]
  simp
theorem op_hit {l : List UInt8} {n : Nat} {o : Int} (h1 : 1 ≤ o) (h13 : o ≤ 13) (hn : n = 2 ∨ n = 1) (h : opAt l n o) (hp : ∀ x,1 ≤ x → x < o → ¬ opAt l n x) (h2 : n = 1 → ∀ x,1 ≤ x → x ≤ 13 → ¬ opAt l 2 x) : opS l = some (8,o,n):=by
 have hp' : ∀ x,1 ≤ x → x < o → (opText x).length = n → ¬ pre (opText x) l:=fun x a b c d => hp x a b ⟨c,op_pre.2 d⟩
 have h2' : n = 1 → ∀ x,1 ≤ x → x ≤ 13 → (opText x).length = 2 → ¬ pre (opText x) l:=fun e x a b c d => h2 e x a b ⟨c,op_pre.2 d⟩
 obtain ⟨hl,hb⟩:=h
 have hb:=op_pre.1 hb
 clear hp h2
 rcases (show o = 1 ∨ o = 2 ∨ o = 3 ∨ o = 4 ∨ o = 5 ∨ o = 6 ∨ o = 7 ∨ o = 8 ∨ o = 9 ∨ o = 10 ∨ o = 11 ∨ o = 12 ∨ o = 13 by omega) with rfl | rfl | rfl | rfl | rfl | rfl | rfl | rfl | rfl | rfl | rfl | rfl | rfl
 ·obtain rfl : n = 1:=by simpa [opText] using hl.symm
  refine sign_hit l 3 (by decide) (fun k hk => ?_) hb
  rcases (show k = 0 ∨ k = 1 ∨ k = 2 by omega) with rfl | rfl | rfl
  ·exact h2' rfl 8 (by decide) (by decide) rfl
  ·exact h2' rfl 10 (by decide) (by decide) rfl
  ·exact h2' rfl 12 (by decide) (by decide) rfl
 ·obtain rfl : n = 1:=by simpa [opText] using hl.symm
  refine sign_hit l 4 (by decide) (fun k hk => ?_) hb
  rcases (show k = 0 ∨ k = 1 ∨ k = 2 ∨ k = 3 by omega) with rfl | rfl | rfl | rfl
  ·exact h2' rfl 8 (by decide) (by decide) rfl
  ·exact h2' rfl 10 (by decide) (by decide) rfl
  ·exact h2' rfl 12 (by decide) (by decide) rfl
  ·exact hp' 1 (by decide) (by decide) rfl
 ·obtain rfl : n = 1:=by simpa [opText] using hl.symm
  refine sign_hit l 5 (by decide) (fun k hk => ?_) hb
  rcases (show k = 0 ∨ k = 1 ∨ k = 2 ∨ k = 3 ∨ k = 4 by omega) with rfl | rfl | rfl | rfl | rfl
  ·exact h2' rfl 8 (by decide) (by decide) rfl
  ·exact h2' rfl 10 (by decide) (by decide) rfl
  ·exact h2' rfl 12 (by decide) (by decide) rfl
  ·exact hp' 1 (by decide) (by decide) rfl
  ·exact hp' 2 (by decide) (by decide) rfl
 ·obtain rfl : n = 1:=by simpa [opText] using hl.symm
  refine sign_hit l 6 (by decide) (fun k hk => ?_) hb
  rcases (show k = 0 ∨ k = 1 ∨ k = 2 ∨ k = 3 ∨ k = 4 ∨ k = 5 by omega) with rfl | rfl | rfl | rfl | rfl | rfl
  ·exact h2' rfl 8 (by decide) (by decide) rfl
  ·exact h2' rfl 10 (by decide) (by decide) rfl
  ·exact h2' rfl 12 (by decide) (by decide) rfl
  ·exact hp' 1 (by decide) (by decide) rfl
  ·exact hp' 2 (by decide) (by decide) rfl
  ·exact hp' 3 (by decide) (by decide) rfl
 ·obtain rfl : n = 1:=by simpa [opText] using hl.symm
  refine sign_hit l 7 (by decide) (fun k hk => ?_) hb
  rcases (show k = 0 ∨ k = 1 ∨ k = 2 ∨ k = 3 ∨ k = 4 ∨ k = 5 ∨ k = 6 by omega) with rfl | rfl | rfl | rfl | rfl | rfl | rfl
  ·exact h2' rfl 8 (by decide) (by decide) rfl
  ·exact h2' rfl 10 (by decide) (by decide) rfl
  ·exact h2' rfl 12 (by decide) (by decide) rfl
  ·exact hp' 1 (by decide) (by decide) rfl
  ·exact hp' 2 (by decide) (by decide) rfl
  ·exact hp' 3 (by decide) (by decide) rfl
  ·exact hp' 4 (by decide) (by decide) rfl
 ·obtain rfl : n = 1:=by simpa [opText] using hl.symm
  refine sign_hit l 8 (by decide) (fun k hk => ?_) hb
  rcases (show k = 0 ∨ k = 1 ∨ k = 2 ∨ k = 3 ∨ k = 4 ∨ k = 5 ∨ k = 6 ∨ k = 7 by omega) with rfl | rfl | rfl | rfl | rfl | rfl | rfl | rfl
  ·exact h2' rfl 8 (by decide) (by decide) rfl
  ·exact h2' rfl 10 (by decide) (by decide) rfl
  ·exact h2' rfl 12 (by decide) (by decide) rfl
  ·exact hp' 1 (by decide) (by decide) rfl
  ·exact hp' 2 (by decide) (by decide) rfl
  ·exact hp' 3 (by decide) (by decide) rfl
  ·exact hp' 4 (by decide) (by decide) rfl
  ·exact hp' 5 (by decide) (by decide) rfl
 ·obtain rfl : n = 1:=by simpa [opText] using hl.symm
  refine sign_hit l 9 (by decide) (fun k hk => ?_) hb
  rcases (show k = 0 ∨ k = 1 ∨ k = 2 ∨ k = 3 ∨ k = 4 ∨ k = 5 ∨ k = 6 ∨ k = 7 ∨ k = 8 by omega) with rfl | rfl | rfl | rfl | rfl | rfl | rfl | rfl | rfl
  ·exact h2' rfl 8 (by decide) (by decide) rfl
  ·exact h2' rfl 10 (by decide) (by decide) rfl
  ·exact h2' rfl 12 (by decide) (by decide) rfl
  ·exact hp' 1 (by decide) (by decide) rfl
  ·exact hp' 2 (by decide) (by decide) rfl
  ·exact hp' 3 (by decide) (by decide) rfl
  ·exact hp' 4 (by decide) (by decide) rfl
  ·exact hp' 5 (by decide) (by decide) rfl
  ·exact hp' 6 (by decide) (by decide) rfl
 ·obtain rfl : n = 2:=by simpa [opText] using hl.symm
  refine sign_hit l 0 (by decide) (fun k hk => ?_) hb
  omega
 ·obtain rfl : n = 1:=by simpa [opText] using hl.symm
  refine sign_hit l 10 (by decide) (fun k hk => ?_) hb
  rcases (show k = 0 ∨ k = 1 ∨ k = 2 ∨ k = 3 ∨ k = 4 ∨ k = 5 ∨ k = 6 ∨ k = 7 ∨ k = 8 ∨ k = 9 by omega) with rfl | rfl | rfl | rfl | rfl | rfl | rfl | rfl | rfl | rfl
  ·exact h2' rfl 8 (by decide) (by decide) rfl
  ·exact h2' rfl 10 (by decide) (by decide) rfl
  ·exact h2' rfl 12 (by decide) (by decide) rfl
  ·exact hp' 1 (by decide) (by decide) rfl
  ·exact hp' 2 (by decide) (by decide) rfl
  ·exact hp' 3 (by decide) (by decide) rfl
  ·exact hp' 4 (by decide) (by decide) rfl
  ·exact hp' 5 (by decide) (by decide) rfl
  ·exact hp' 6 (by decide) (by decide) rfl
  ·exact hp' 7 (by decide) (by decide) rfl
 ·obtain rfl : n = 2:=by simpa [opText] using hl.symm
  refine sign_hit l 1 (by decide) (fun k hk => ?_) hb
  obtain rfl : k = 0:=by omega
  exact hp' 8 (by decide) (by decide) rfl
 ·obtain rfl : n = 1:=by simpa [opText] using hl.symm
  refine sign_hit l 11 (by decide) (fun k hk => ?_) hb
  rcases (show k = 0 ∨ k = 1 ∨ k = 2 ∨ k = 3 ∨ k = 4 ∨ k = 5 ∨ k = 6 ∨ k = 7 ∨ k = 8 ∨ k = 9 ∨ k = 10 by omega) with rfl | rfl | rfl | rfl | rfl | rfl | rfl | rfl | rfl | rfl | rfl
  ·exact h2' rfl 8 (by decide) (by decide) rfl
  ·exact h2' rfl 10 (by decide) (by decide) rfl
  ·exact h2' rfl 12 (by decide) (by decide) rfl
  ·exact hp' 1 (by decide) (by decide) rfl
  ·exact hp' 2 (by decide) (by decide) rfl
  ·exact hp' 3 (by decide) (by decide) rfl
  ·exact hp' 4 (by decide) (by decide) rfl
  ·exact hp' 5 (by decide) (by decide) rfl
  ·exact hp' 6 (by decide) (by decide) rfl
  ·exact hp' 7 (by decide) (by decide) rfl
  ·exact hp' 9 (by decide) (by decide) rfl
 ·obtain rfl : n = 2:=by simpa [opText] using hl.symm
  refine sign_hit l 2 (by decide) (fun k hk => ?_) hb
  rcases (show k = 0 ∨ k = 1 by omega) with rfl | rfl
  ·exact hp' 8 (by decide) (by decide) rfl
  ·exact hp' 10 (by decide) (by decide) rfl
 ·obtain rfl : n = 1:=by simpa [opText] using hl.symm
  refine sign_hit l 12 (by decide) (fun k hk => ?_) hb
  rcases (show k = 0 ∨ k = 1 ∨ k = 2 ∨ k = 3 ∨ k = 4 ∨ k = 5 ∨ k = 6 ∨ k = 7 ∨ k = 8 ∨ k = 9 ∨ k = 10 ∨ k = 11 by omega) with rfl | rfl | rfl | rfl | rfl | rfl | rfl | rfl | rfl | rfl | rfl | rfl
  ·exact h2' rfl 8 (by decide) (by decide) rfl
  ·exact h2' rfl 10 (by decide) (by decide) rfl
  ·exact h2' rfl 12 (by decide) (by decide) rfl
  ·exact hp' 1 (by decide) (by decide) rfl
  ·exact hp' 2 (by decide) (by decide) rfl
  ·exact hp' 3 (by decide) (by decide) rfl
  ·exact hp' 4 (by decide) (by decide) rfl
  ·exact hp' 5 (by decide) (by decide) rfl
  ·exact hp' 6 (by decide) (by decide) rfl
  ·exact hp' 7 (by decide) (by decide) rfl
  ·exact hp' 9 (by decide) (by decide) rfl
  ·exact hp' 11 (by decide) (by decide) rfl
theorem op_miss {b : UInt8} {r : List UInt8} (h1 : ∀ x,1 ≤ x → x ≤ 13 → ¬ opAt (b :: r) 1 x) (h2 : ∀ x,1 ≤ x → x ≤ 13 → ¬ opAt (b :: r) 2 x) : opS (b :: r) = if b = 40 then some (9,0,1) else if b = 41 then some (10,0,1) else if b = 44 then some (11,0,1) else none:=by
 apply sign_rest
 have key : ∀ x : Int,1 ≤ x → x ≤ 13 → ¬ pre (opText x) (b :: r):=by
  intro x a c d
  rcases (show (opText x).length = 1 ∨ (opText x).length = 2 by
   rcases (show x = 1 ∨ x = 2 ∨ x = 3 ∨ x = 4 ∨ x = 5 ∨ x = 6 ∨ x = 7 ∨ x = 8 ∨ x = 9 ∨ x = 10 ∨ x = 11 ∨ x = 12 ∨ x = 13 by omega) with rfl | rfl | rfl | rfl | rfl | rfl | rfl | rfl | rfl | rfl | rfl | rfl | rfl <;> decide) with e | e
  ·exact h1 x a c ⟨e,op_pre.2 d⟩
  ·exact h2 x a c ⟨e,op_pre.2 d⟩
 intro k hk
 rcases (show k = 0 ∨ k = 1 ∨ k = 2 ∨ k = 3 ∨ k = 4 ∨ k = 5 ∨ k = 6 ∨ k = 7 ∨ k = 8 ∨ k = 9 ∨ k = 10 ∨ k = 11 ∨ k = 12 by omega) with rfl | rfl | rfl | rfl | rfl | rfl | rfl | rfl | rfl | rfl | rfl | rfl | rfl
 ·exact key 8 (by decide) (by decide)
 ·exact key 10 (by decide) (by decide)
 ·exact key 12 (by decide) (by decide)
 ·exact key 1 (by decide) (by decide)
 ·exact key 2 (by decide) (by decide)
 ·exact key 3 (by decide) (by decide)
 ·exact key 4 (by decide) (by decide)
 ·exact key 5 (by decide) (by decide)
 ·exact key 6 (by decide) (by decide)
 ·exact key 7 (by decide) (by decide)
 ·exact key 9 (by decide) (by decide)
 ·exact key 11 (by decide) (by decide)
 ·exact key 13 (by decide) (by decide)
end
section
open Go.RowKit
theorem name_data (c : Nat) (h1 : 1 ≤ c) (h5 : c ≤ 5) : errT (c : Int) = allNames[c]?.getD []:=by
 unfold errT
 rw [if_pos (by omega),Int.toNat_natCast]
theorem opText_two (o : Int) : (opText o).length ≤ 2:=by
 by_cases h : 1 ≤ o ∧ o ≤ 13
 ·rcases (show o = 1 ∨ o = 2 ∨ o = 3 ∨ o = 4 ∨ o = 5 ∨ o = 6 ∨ o = 7 ∨ o = 8 ∨ o = 9 ∨ o = 10 ∨ o = 11 ∨ o = 12 ∨ o = 13 by omega) with rfl | rfl | rfl | rfl | rfl | rfl | rfl | rfl | rfl | rfl | rfl | rfl | rfl <;> decide
 ·have e : opText o = []:=by unfold opText; rw [if_neg (by omega),if_neg (by omega),if_neg (by omega),if_neg (by omega),if_neg (by omega),if_neg (by omega),if_neg (by omega),if_neg (by omega),if_neg (by omega),if_neg (by omega),if_neg (by omega),if_neg (by omega),if_neg (by omega)]
  rw [e]
  decide
theorem orR_none {a b : Option (Tk × Nat)} (h : a = none) : orR a b = b:=by rw [h]; rfl
theorem orR_some {a b : Option (Tk × Nat)} {x : Tk × Nat} (h : a = some x) : orR a b = some x:=by rw [h]; rfl
set_option maxRecDepth 100000 in
set_option maxHeartbeats 8000000 in
theorem ref7_sign (s : ByteArray) (i : Nat) (w : World) (hs : s.size ≤ 256) (hi : i < s.size) :
  Calls Tryz.prog 74 #[.string s,.int .i64 (i : Int)] w fun e w' => RefOut i (orR (errR (restB s i) i) (signR (restB s i) i)) e ∧ Below w.heap.size w w':=by
 have H1:=Lib.hid (Ok.start w)
 go_enter Tryz.func74,Tryz.ntmps74
 go_wp2_with fail
 have H2:=Lib.hid (H1.out.var w.heap.size 43 [.int .u8 0,.int .i64 0,.string ⟨#[]⟩,.int .i64 0,.int .i64 0,.int .i64 0,.int .i64 0,.int .i64 0] rfl)
 clear H1
 generalize (w.alloc (.cells #[.int .u8 0,.int .i64 0,.string ⟨#[]⟩,.int .i64 0,.int .i64 0,.int .i64 0,.int .i64 0,.int .i64 0] 43)) = W3 at H2 ⊢
 go_loopw [7] (fun cv wr => ∃ c : Nat,1 ≤ c ∧ c ≤ 6 ∧ cv = .int .i64 (c : Int) ∧ Keep (∀ d : Nat,1 ≤ d → d < c → begB (restB s i) (allNames[d]?.getD []) = false) ∧ Hid (Ok w [kVar (w.heap.size) 43 [.int .u8 0,.int .i64 0,.string ⟨#[]⟩,.int .i64 0,.int .i64 0,.int .i64 0,.int .i64 0,.int .i64 0]] wr)) (fun cv _ => 6 - (intOf cv).toNat)
 case atStart => exact ⟨1,by omega,by omega,rfl,keep (fun d _ _ => by omega),H2⟩
 case round =>
  clear H2
  obtain ⟨c,hc1,hc6,rfl,HP,HR⟩:=hrel
  obtain ⟨wp,rfl⟩ : ∃ wp : World,wp = wr:=⟨_,rfl⟩
  by_cases hlt : (c : Int) ≤ 5
  ·have hc5 : c ≤ 5:=by omega
   have HND:=keep (name_data c hc1 hc5)
   obtain ⟨X,hX⟩ : ∃ X : ByteArray,X = ⟨(allNames[c]?.getD []).toArray⟩:=⟨_,rfl⟩
   have HX:=keep (show X.data.toList = allNames[c]?.getD [] by rw [hX])
   have hxs : X.size ≤ 7:=by rw [hX]; exact (name_len c hc1 hc5).2
   have HXE:=keep hX
   clear hX
   go_wp2_with fail
   refine (ref5_Show (c : Int) _).mono ?_
   rintro e w4 ⟨rfl,hb5⟩
   rw [HND.out,← HXE.out]
   have H6:=Lib.hid (HR.out.below hb5)
   clear hb5 HR
   go_wp2_with fail
   refine (ref7_begins s X i _ hs (by omega) (by omega)).mono ?_
   rintro e w7 ⟨rfl,hb8⟩
   have H9:=Lib.hid (H6.out.below hb8)
   clear hb8 H6
   obtain ⟨b,hb⟩ : ∃ b,begB (restB s i) X.data.toList = b:=⟨_,rfl⟩
   rw [hb]
   rw [HX.out] at hb
   have HB:=keep hb
   clear hb
   cases b
   ·go_wp2_with fail
    go_roundw
    case rel => exact ⟨c + 1,by omega,by omega,by go_num,keep (fun d h1 h2 => by
     rcases Nat.lt_succ_iff_lt_or_eq.1 h2 with h | rfl
     ·exact HP.out d h1 h
     ·exact HB.out),H9⟩
    case measure => simp [intOf]; omega
   ·have HRES:=keep (show orR (errR (restB s i) i) (signR (restB s i) i) = some (⟨4,(c : Int),[],R4.zero,i⟩,X.size) from orR_some (by unfold errR; rw [err_some c hc1 hc5 HP.out HB.out,← HX.out,Array.length_toList]; rfl))
    have F10:=H9.out.sees
    simp only [sees,kVar,cellsAt,Nat.reduceAdd] at F10
    obtain ⟨⟨⟨z0,fz0⟩,c0_0,c0_1,c0_2,c0_3,c0_4,c0_5,c0_6,c0_7,-⟩,-⟩:=F10
    go_wp2_with fail
    have hK:=H9.out.get (kVar (w.heap.size) 43 [.int .u8 0,.int .i64 0,.string ⟨#[]⟩,.int .i64 0,.int .i64 0,.int .i64 0,.int .i64 0,.int .i64 0]) (by simp)
    have hB:=H9.out.bel
    have hE:=(((((((((show Blk w7 (w.heap.size) 43 _ from hK).set_ 0 (.int .u8 4)).set_ 1 (.int .i64 (c : Int))).set_ 2 (.string ⟨#[]⟩)).set_ 3 (.int .i64 0)).set_ 4 (.int .i64 0)).set_ 5 (.int .i64 0)).set_ 6 (.int .i64 0)).set_ 7 (.int .i64 (i : Int)))
    have r0:=hE.cell 0
    have r1:=hE.cell 1
    have r2:=hE.cell 2
    have r3:=hE.cell 3
    have r4:=hE.cell 4
    have r5:=hE.cell 5
    have r6:=hE.cell 6
    have r7:=hE.cell 7
    simp at r0 r1 r2 r3 r4 r5 r6 r7
    refine bodyPost_ret (v:=.tuple #[.agg #[.int .u8 4,.int .i64 (c : Int),.string ⟨#[]⟩,.int .i64 0,.int .i64 0,.int .i64 0,.int .i64 0,.int .i64 (i : Int)],.int .i64 ((i : Int) + (X.size : Int)),.bool true]) (by simp [results,Tryz.results74,go_sem,r0,r1,r2,r3,r4,r5,r6,r7]) rfl ⟨by rw [show (i : Int) + (X.size : Int) = ((i + X.size : Nat) : Int) by omega]; exact refout_some (i + X.size) HRES.out rfl,((((((((hB.setCell (by simp) _).setCell (by simp) _).setCell (by simp) _).setCell (by simp) _).setCell (by simp) _).setCell (by simp) _).setCell (by simp) _).setCell (by simp) _)⟩
  ·have HERR:=keep (show errR (restB s i) i = none by unfold errR; rw [err_none (fun d h1 h2 => HP.out d h1 (by omega))]; rfl)
   go_wp2_with fail
   clear HP hlt hc1 hc6
   go_loopw [9] (fun nv wr => ∃ n : Nat,n ≤ 2 ∧ nv = .int .i64 (n : Int) ∧ Keep (∀ m : Nat,n < m → m ≤ 2 → ∀ x : Int,1 ≤ x → x ≤ 13 → ¬ opAt (restB s i) m x) ∧ Hid (Ok w [kVar (w.heap.size) 43 [.int .u8 0,.int .i64 0,.string ⟨#[]⟩,.int .i64 0,.int .i64 0,.int .i64 0,.int .i64 0,.int .i64 0]] wr)) (fun nv _ => (intOf nv).toNat)
   case atStart => exact ⟨2,Nat.le_refl _,rfl,keep (fun m h1 h2 => by omega),HR⟩
   case round =>
    clear HR
    obtain ⟨n,hn2,rfl,HM,HR⟩:=hrel
    obtain ⟨wp,rfl⟩ : ∃ wp : World,wp = wr:=⟨_,rfl⟩
    by_cases hn0 : (n : Int) > 0
    ·have hn1 : 0 < n:=by omega
     have hn3 : decide (0 < n) = true:=decide_eq_true hn1
     have hn4 : decide ((n : Int) > 0) = true:=decide_eq_true hn0
     go_wp2_with fail
     obtain ⟨wq,rfl⟩ : ∃ wq : World,wq = wp:=⟨_,rfl⟩
     go_loopw [10] (fun ov wr => ∃ o : Nat,1 ≤ o ∧ o ≤ 14 ∧ ov = .int .i64 (o : Int) ∧ Keep (∀ x : Int,1 ≤ x → x < (o : Int) → ¬ opAt (restB s i) n x) ∧ Hid (Ok w [kVar (w.heap.size) 43 [.int .u8 0,.int .i64 0,.string ⟨#[]⟩,.int .i64 0,.int .i64 0,.int .i64 0,.int .i64 0,.int .i64 0]] wr)) (fun ov _ => 14 - (intOf ov).toNat)
     case atStart => exact ⟨1,by omega,by omega,rfl,keep (fun x h1 h2 => by omega),HR⟩
     case round =>
      clear HR
      obtain ⟨o,ho1,ho14,rfl,HO,HR⟩:=hrel
      obtain ⟨wp,rfl⟩ : ∃ wp : World,wp = wr:=⟨_,rfl⟩
      by_cases hlt : (o : Int) ≤ 13
      ·obtain ⟨X,hX⟩ : ∃ X : ByteArray,X = ⟨(opText (o : Int)).toArray⟩:=⟨_,rfl⟩
       have hXd : X.data.toList = opText (o : Int):=by rw [hX]
       have hxs : X.size ≤ 2:=by rw [hX]; exact opText_two _
       have HXL:=keep (show (opText (o : Int)).length = X.size by rw [← hXd,Array.length_toList]; rfl)
       have HX:=keep hXd
       have HXE:=keep hX
       clear hX hXd
       go_wp2_with fail
       refine (ref7_Operator (o : Int) _).mono ?_
       rintro e w9 ⟨rfl,hw9⟩
       obtain rfl : wp = w9:=hw9.symm
       rw [← HXE.out]
       by_cases hln : (X.size : Int) = (n : Int)
       ·have hlnb : ((X.size : Int) == (n : Int)) = true:=by simpa using hln
        have HLN:=keep (show X.size = n by omega)
        clear hln
        go_wp2_with fail
        refine (ref7_begins s X i _ hs (by omega) (by omega)).mono ?_
        rintro e w4 ⟨rfl,hb5⟩
        have H6:=Lib.hid (HR.out.below hb5)
        clear hb5 HR
        obtain ⟨b,hb⟩ : ∃ b,begB (restB s i) X.data.toList = b:=⟨_,rfl⟩
        rw [hb]
        rw [HX.out] at hb
        have HB:=keep hb
        clear hb
        cases b
        ·go_wp2_with fail
         go_roundw
         case rel => exact ⟨o + 1,by omega,by omega,by go_num,keep (fun x h1 h2 => by
          by_cases h : x < (o : Int)
          ·exact HO.out x h1 h
          ·obtain rfl : x = (o : Int):=by omega
           rintro ⟨-,h9⟩
           rw [HB.out] at h9
           cases h9),H6⟩
         case measure => simp [intOf]; omega
        ·have HRES:=keep (show orR (errR (restB s i) i) (signR (restB s i) i) = some (⟨8,(o : Int),[],R4.zero,i⟩,n) from (orR_none HERR.out).trans (by
          unfold signR
          rw [op_hit (n:=n) (o:=(o : Int)) (by omega) (by omega) (by omega) ⟨HXL.out.trans HLN.out,HB.out⟩ HO.out (fun e x h1 h2 => HM.out 2 (by omega) (by omega) x h1 h2)]
          rfl))
         have hin : (i : Int) + (n : Int) ≤ 300:=by omega
         have F7:=H6.out.sees
         simp only [sees,kVar,cellsAt,Nat.reduceAdd] at F7
         obtain ⟨⟨⟨z0,fz0⟩,c0_0,c0_1,c0_2,c0_3,c0_4,c0_5,c0_6,c0_7,-⟩,-⟩:=F7
         go_wp2_with fail
         have hK:=H6.out.get (kVar (w.heap.size) 43 [.int .u8 0,.int .i64 0,.string ⟨#[]⟩,.int .i64 0,.int .i64 0,.int .i64 0,.int .i64 0,.int .i64 0]) (by simp)
         have hB:=H6.out.bel
         have hE:=(((((((((show Blk w4 (w.heap.size) 43 _ from hK).set_ 0 (.int .u8 8)).set_ 1 (.int .i64 (o : Int))).set_ 2 (.string ⟨#[]⟩)).set_ 3 (.int .i64 0)).set_ 4 (.int .i64 0)).set_ 5 (.int .i64 0)).set_ 6 (.int .i64 0)).set_ 7 (.int .i64 (i : Int)))
         have r0:=hE.cell 0
         have r1:=hE.cell 1
         have r2:=hE.cell 2
         have r3:=hE.cell 3
         have r4:=hE.cell 4
         have r5:=hE.cell 5
         have r6:=hE.cell 6
         have r7:=hE.cell 7
         simp at r0 r1 r2 r3 r4 r5 r6 r7
         refine bodyPost_ret (v:=.tuple #[.agg #[.int .u8 8,.int .i64 (o : Int),.string ⟨#[]⟩,.int .i64 0,.int .i64 0,.int .i64 0,.int .i64 0,.int .i64 (i : Int)],.int .i64 ((i : Int) + (n : Int)),.bool true]) (by simp [results,Tryz.results74,go_sem,r0,r1,r2,r3,r4,r5,r6,r7]) rfl ⟨by rw [show (i : Int) + (n : Int) = ((i + n : Nat) : Int) by omega]; exact refout_some (i + n) HRES.out rfl,((((((((hB.setCell (by simp) _).setCell (by simp) _).setCell (by simp) _).setCell (by simp) _).setCell (by simp) _).setCell (by simp) _).setCell (by simp) _).setCell (by simp) _)⟩
       ·have hlnb : ((X.size : Int) == (n : Int)) = false:=by simpa using hln
        have HLN:=keep (show X.size ≠ n by omega)
        clear hln
        go_wp2_with fail
        go_roundw
        case rel => exact ⟨o + 1,by omega,by omega,by go_num,keep (fun x h1 h2 => by
         by_cases h : x < (o : Int)
         ·exact HO.out x h1 h
         ·obtain rfl : x = (o : Int):=by omega
          rintro ⟨h9,-⟩
          exact HLN.out (HXL.out.symm.trans h9)),HR⟩
        case measure => simp [intOf]; omega
      ·go_wp2_with fail
       go_roundw
       case rel => exact ⟨n - 1,by omega,by rw [show ((n - 1 : Nat) : Int) = (n : Int) - 1 by omega],keep (fun m h1 h2 x h3 h4 => by
        by_cases h : n < m
        ·exact HM.out m h h2 x h3 h4
        ·obtain rfl : m = n:=by omega
         exact HO.out x h3 (by omega)),HR⟩
       case measure => simp [intOf]; omega
    ·obtain rfl : n = 0:=by omega
     have hmiss:=op_miss (b:=s[i]'hi) (r:=s.data.toList.drop (i + 1)) (by rw [← rest_at hi]; exact HM.out 1 (by omega) (by omega)) (by rw [← rest_at hi]; exact HM.out 2 (by omega) (by omega))
     rw [← rest_at hi] at hmiss
     have HSG:=keep (show orR (errR (restB s i) i) (signR (restB s i) i) = (opS (restB s i)).map fun x => (⟨x.1,x.2.1,[],R4.zero,i⟩,x.2.2) from orR_none HERR.out)
     obtain ⟨b,hb⟩ : ∃ b,s[i]'hi = b:=⟨_,rfl⟩
     rw [hb] at hmiss
     have HMS:=keep hmiss
     have hix : ∀ h,((s[i]'h).toNat : Int) = (b.toNat : Int):=fun _ => by rw [hb]
     clear hmiss HM hb
     by_cases e40 : b = 40
     ·subst e40
      have HRES:=keep (show orR (errR (restB s i) i) (signR (restB s i) i) = some (⟨9,0,[],R4.zero,i⟩,1) by rw [HSG.out,HMS.out]; rfl)
      clear HMS HSG
      have F4:=HR.out.sees
      simp only [sees,kVar,cellsAt,Nat.reduceAdd] at F4
      obtain ⟨⟨⟨z0,fz0⟩,c0_0,c0_1,c0_2,c0_3,c0_4,c0_5,c0_6,c0_7,-⟩,-⟩:=F4
      go_wp2_with fail
      have hK:=HR.out.get (kVar (w.heap.size) 43 [.int .u8 0,.int .i64 0,.string ⟨#[]⟩,.int .i64 0,.int .i64 0,.int .i64 0,.int .i64 0,.int .i64 0]) (by simp)
      have hB:=HR.out.bel
      have hE:=(((((((((show Blk wp (w.heap.size) 43 _ from hK).set_ 0 (.int .u8 9)).set_ 1 (.int .i64 0)).set_ 2 (.string ⟨#[]⟩)).set_ 3 (.int .i64 0)).set_ 4 (.int .i64 0)).set_ 5 (.int .i64 0)).set_ 6 (.int .i64 0)).set_ 7 (.int .i64 (i : Int)))
      have r0:=hE.cell 0
      have r1:=hE.cell 1
      have r2:=hE.cell 2
      have r3:=hE.cell 3
      have r4:=hE.cell 4
      have r5:=hE.cell 5
      have r6:=hE.cell 6
      have r7:=hE.cell 7
      simp at r0 r1 r2 r3 r4 r5 r6 r7
      refine bodyPost_ret (v:=.tuple #[.agg #[.int .u8 9,.int .i64 0,.string ⟨#[]⟩,.int .i64 0,.int .i64 0,.int .i64 0,.int .i64 0,.int .i64 (i : Int)],.int .i64 ((i : Int) + 1),.bool true]) (by simp [results,Tryz.results74,go_sem,r0,r1,r2,r3,r4,r5,r6,r7]) rfl ⟨by rw [show (i : Int) + 1 = ((i + 1 : Nat) : Int) by omega]; exact refout_some (i + 1) HRES.out rfl,((((((((hB.setCell (by simp) _).setCell (by simp) _).setCell (by simp) _).setCell (by simp) _).setCell (by simp) _).setCell (by simp) _).setCell (by simp) _).setCell (by simp) _)⟩
     ·have hb40 : ((b.toNat : Int) == 40) = false:=by simpa using byte_int (k:=40) e40
      have E40:=keep e40
      clear e40
      by_cases e41 : b = 41
      ·subst e41
       have HRES:=keep (show orR (errR (restB s i) i) (signR (restB s i) i) = some (⟨10,0,[],R4.zero,i⟩,1) by rw [HSG.out,HMS.out]; rfl)
       clear HMS HSG
       have F4:=HR.out.sees
       simp only [sees,kVar,cellsAt,Nat.reduceAdd] at F4
       obtain ⟨⟨⟨z0,fz0⟩,c0_0,c0_1,c0_2,c0_3,c0_4,c0_5,c0_6,c0_7,-⟩,-⟩:=F4
       go_wp2_with fail
       have hK:=HR.out.get (kVar (w.heap.size) 43 [.int .u8 0,.int .i64 0,.string ⟨#[]⟩,.int .i64 0,.int .i64 0,.int .i64 0,.int .i64 0,.int .i64 0]) (by simp)
       have hB:=HR.out.bel
       have hE:=(((((((((show Blk wp (w.heap.size) 43 _ from hK).set_ 0 (.int .u8 10)).set_ 1 (.int .i64 0)).set_ 2 (.string ⟨#[]⟩)).set_ 3 (.int .i64 0)).set_ 4 (.int .i64 0)).set_ 5 (.int .i64 0)).set_ 6 (.int .i64 0)).set_ 7 (.int .i64 (i : Int)))
       have r0:=hE.cell 0
       have r1:=hE.cell 1
       have r2:=hE.cell 2
       have r3:=hE.cell 3
       have r4:=hE.cell 4
       have r5:=hE.cell 5
       have r6:=hE.cell 6
       have r7:=hE.cell 7
       simp at r0 r1 r2 r3 r4 r5 r6 r7
       refine bodyPost_ret (v:=.tuple #[.agg #[.int .u8 10,.int .i64 0,.string ⟨#[]⟩,.int .i64 0,.int .i64 0,.int .i64 0,.int .i64 0,.int .i64 (i : Int)],.int .i64 ((i : Int) + 1),.bool true]) (by simp [results,Tryz.results74,go_sem,r0,r1,r2,r3,r4,r5,r6,r7]) rfl ⟨by rw [show (i : Int) + 1 = ((i + 1 : Nat) : Int) by omega]; exact refout_some (i + 1) HRES.out rfl,((((((((hB.setCell (by simp) _).setCell (by simp) _).setCell (by simp) _).setCell (by simp) _).setCell (by simp) _).setCell (by simp) _).setCell (by simp) _).setCell (by simp) _)⟩
      ·have hb41 : ((b.toNat : Int) == 41) = false:=by simpa using byte_int (k:=41) e41
       have E41:=keep e41
       clear e41
       by_cases e44 : b = 44
       ·subst e44
        have HRES:=keep (show orR (errR (restB s i) i) (signR (restB s i) i) = some (⟨11,0,[],R4.zero,i⟩,1) by rw [HSG.out,HMS.out]; rfl)
        clear HMS HSG
        have F4:=HR.out.sees
        simp only [sees,kVar,cellsAt,Nat.reduceAdd] at F4
        obtain ⟨⟨⟨z0,fz0⟩,c0_0,c0_1,c0_2,c0_3,c0_4,c0_5,c0_6,c0_7,-⟩,-⟩:=F4
        go_wp2_with fail
        have hK:=HR.out.get (kVar (w.heap.size) 43 [.int .u8 0,.int .i64 0,.string ⟨#[]⟩,.int .i64 0,.int .i64 0,.int .i64 0,.int .i64 0,.int .i64 0]) (by simp)
        have hB:=HR.out.bel
        have hE:=(((((((((show Blk wp (w.heap.size) 43 _ from hK).set_ 0 (.int .u8 11)).set_ 1 (.int .i64 0)).set_ 2 (.string ⟨#[]⟩)).set_ 3 (.int .i64 0)).set_ 4 (.int .i64 0)).set_ 5 (.int .i64 0)).set_ 6 (.int .i64 0)).set_ 7 (.int .i64 (i : Int)))
        have r0:=hE.cell 0
        have r1:=hE.cell 1
        have r2:=hE.cell 2
        have r3:=hE.cell 3
        have r4:=hE.cell 4
        have r5:=hE.cell 5
        have r6:=hE.cell 6
        have r7:=hE.cell 7
        simp at r0 r1 r2 r3 r4 r5 r6 r7
        refine bodyPost_ret (v:=.tuple #[.agg #[.int .u8 11,.int .i64 0,.string ⟨#[]⟩,.int .i64 0,.int .i64 0,.int .i64 0,.int .i64 0,.int .i64 (i : Int)],.int .i64 ((i : Int) + 1),.bool true]) (by simp [results,Tryz.results74,go_sem,r0,r1,r2,r3,r4,r5,r6,r7]) rfl ⟨by rw [show (i : Int) + 1 = ((i + 1 : Nat) : Int) by omega]; exact refout_some (i + 1) HRES.out rfl,((((((((hB.setCell (by simp) _).setCell (by simp) _).setCell (by simp) _).setCell (by simp) _).setCell (by simp) _).setCell (by simp) _).setCell (by simp) _).setCell (by simp) _)⟩
       ·have hb44 : ((b.toNat : Int) == 44) = false:=by simpa using byte_int (k:=44) e44
        have E44:=keep e44
        clear e44
        have HRES:=keep (show orR (errR (restB s i) i) (signR (restB s i) i) = none by rw [HSG.out,HMS.out,if_neg E40.out,if_neg E41.out,if_neg E44.out]; rfl)
        clear HMS HSG
        have F4:=HR.out.sees
        simp only [sees,kVar,cellsAt,Nat.reduceAdd] at F4
        obtain ⟨⟨⟨z0,fz0⟩,c0_0,c0_1,c0_2,c0_3,c0_4,c0_5,c0_6,c0_7,-⟩,-⟩:=F4
        go_wp2_with fail
        have hK:=HR.out.get (kVar (w.heap.size) 43 [.int .u8 0,.int .i64 0,.string ⟨#[]⟩,.int .i64 0,.int .i64 0,.int .i64 0,.int .i64 0,.int .i64 0]) (by simp)
        have hB:=HR.out.bel
        have hE:=(((((((((show Blk wp (w.heap.size) 43 _ from hK).set_ 0 (.int .u8 0)).set_ 1 (.int .i64 0)).set_ 2 (.string ⟨#[]⟩)).set_ 3 (.int .i64 0)).set_ 4 (.int .i64 0)).set_ 5 (.int .i64 0)).set_ 6 (.int .i64 0)).set_ 7 (.int .i64 0))
        have r0:=hE.cell 0
        have r1:=hE.cell 1
        have r2:=hE.cell 2
        have r3:=hE.cell 3
        have r4:=hE.cell 4
        have r5:=hE.cell 5
        have r6:=hE.cell 6
        have r7:=hE.cell 7
        simp at r0 r1 r2 r3 r4 r5 r6 r7
        refine bodyPost_ret (v:=.tuple #[.agg #[.int .u8 0,.int .i64 0,.string ⟨#[]⟩,.int .i64 0,.int .i64 0,.int .i64 0,.int .i64 0,.int .i64 0],.int .i64 0,.bool false]) (by simp [results,Tryz.results74,go_sem,r0,r1,r2,r3,r4,r5,r6,r7]) rfl ⟨refout_none Tk.zero HRES.out,((((((((hB.setCell (by simp) _).setCell (by simp) _).setCell (by simp) _).setCell (by simp) _).setCell (by simp) _).setCell (by simp) _).setCell (by simp) _).setCell (by simp) _)⟩
theorem quo_at {s : ByteArray} {z : Nat} (h : z < s.size) : testAt (· == 34) s z = decide (((s[z]'h).toNat : Int) = 34):=by
 rw [test_in h,Bool.eq_iff_iff,beq_iff_eq,decide_eq_true_eq,← UInt8.toNat_inj]
 show _ = 34 ↔ _
 omega
theorem rtok_num {s : ByteArray} {i : Nat} (h : testAt isDig s i = true) : tokS i (restB s i) = numR (restB s i) i:=by
 have hi:=test_lt h
 rw [test_in hi] at h
 rw [rest_at hi,tok_cons,if_pos h]
 rfl
theorem rtok_txt {s : ByteArray} {i : Nat} (hi : i < s.size) (h : s[i]'hi = 34) : tokS i (restB s i) = txtR (restB s i) i:=by
 rw [rest_at hi,tok_cons,h,if_neg (by decide),if_pos rfl]
 rfl
theorem rtok_word {s : ByteArray} {i : Nat} (hd : testAt isDig s i = false) (h4 : testAt (· == 34) s i = false) (h : testAt isLet s i = true) : tokS i (restB s i) = wordR (restB s i) i:=by
 have hi:=test_lt h
 rw [test_in hi] at h hd h4
 rw [rest_at hi,tok_cons,if_neg (by rw [hd]; decide),if_neg (by simpa using h4),if_pos h]
 unfold wordR
 rw [if_pos (show (s[i]'hi :: s.data.toList.drop (i + 1)).head?.any isLet = true from h)]
theorem rtok_sign {s : ByteArray} {i : Nat} (hi : i < s.size) (hd : testAt isDig s i = false) (h4 : testAt (· == 34) s i = false) (h : testAt isLet s i = false) : tokS i (restB s i) = orR (errR (restB s i) i) (signR (restB s i) i):=by
 rw [test_in hi] at h hd h4
 rw [rest_at hi,tok_rules]
 have e0 : numR (s[i]'hi :: s.data.toList.drop (i + 1)) i = none:=num_nil (by rw [List.takeWhile_cons,if_neg (by rw [hd]; decide)])
 have e1 : txtR (s[i]'hi :: s.data.toList.drop (i + 1)) i = none:=by unfold txtR; rw [if_neg (by simpa using h4)]
 have e2 : wordR (s[i]'hi :: s.data.toList.drop (i + 1)) i = none:=word_not h
 rw [orR_none e0,orR_none e1,orR_none e2]
set_option maxRecDepth 100000 in
set_option maxHeartbeats 8000000 in
theorem ref7_token (s : ByteArray) (i : Nat) (w : World) (hs : s.size ≤ 256) (hi : i < s.size) :
  Calls Tryz.prog 42 #[.string s,.int .i64 (i : Int)] w fun e w' => RefOut i (tokS i (restB s i)) e ∧ Below w.heap.size w w':=by
 cases hd : testAt isDig s i
 ·have HD:=keep hd
  clear hd
  cases h4 : testAt (· == 34) s i
  ·have H4:=keep h4
   have hq : (((s[i]'hi).toNat : Int) == 34) = false:=by have h9:=h4; rw [quo_at hi] at h9; simpa using h9
   clear h4
   cases hl : testAt isLet s i
   ·have HL:=keep hl
    clear hl
    have H1:=Lib.hid (Ok.start w)
    go_enter Tryz.func42,Tryz.ntmps42
    go_wp2_with fail
    have H2:=Lib.hid (H1.out.var w.heap.size 43 [.int .u8 0,.int .i64 0,.string ⟨#[]⟩,.int .i64 0,.int .i64 0,.int .i64 0,.int .i64 0,.int .i64 0] rfl)
    clear H1
    generalize (w.alloc (.cells #[.int .u8 0,.int .i64 0,.string ⟨#[]⟩,.int .i64 0,.int .i64 0,.int .i64 0,.int .i64 0,.int .i64 0] 43)) = W3 at H2 ⊢
    refine (ref7_digit s i _).mono ?_
    rintro e w1 ⟨rfl,hw1⟩
    obtain rfl : W3 = w1:=hw1.symm
    rw [HD.out]
    go_wp2_with fail
    refine (ref7_letter s i _).mono ?_
    rintro e w2 ⟨rfl,hw2⟩
    obtain rfl : W3 = w2:=hw2.symm
    rw [HL.out]
    go_wp2_with fail
    refine (ref7_sign s i _ hs hi).mono ?_
    rintro e w5 ⟨⟨⟨tk,tn,tt,⟨t1,t2,t3,t4⟩,ta⟩,n,rfl,hres⟩,hb5⟩
    have H5:=Lib.hid (H2.out.below hb5)
    clear hb5 H2
    have HRES:=keep hres
    clear hres
    simp only [tkA]
    have F4:=H5.out.sees
    simp only [sees,kVar,cellsAt,Nat.reduceAdd] at F4
    obtain ⟨⟨⟨z0,fz0⟩,c0_0,c0_1,c0_2,c0_3,c0_4,c0_5,c0_6,c0_7,-⟩,-⟩:=F4
    go_wp2_with fail
    have hK:=H5.out.get (kVar (w.heap.size) 43 [.int .u8 0,.int .i64 0,.string ⟨#[]⟩,.int .i64 0,.int .i64 0,.int .i64 0,.int .i64 0,.int .i64 0]) (by simp)
    have hB:=H5.out.bel
    have hE:=(((((((((show Blk w5 (w.heap.size) 43 _ from hK).set_ 0 (.int .u8 tk)).set_ 1 (.int .i64 tn)).set_ 2 (.string ⟨tt.toArray⟩)).set_ 3 (.int .i64 t1)).set_ 4 (.int .i64 t2)).set_ 5 (.int .i64 t3)).set_ 6 (.int .i64 t4)).set_ 7 (.int .i64 (ta : Int)))
    have r0:=hE.cell 0
    have r1:=hE.cell 1
    have r2:=hE.cell 2
    have r3:=hE.cell 3
    have r4:=hE.cell 4
    have r5:=hE.cell 5
    have r6:=hE.cell 6
    have r7:=hE.cell 7
    simp at r0 r1 r2 r3 r4 r5 r6 r7
    refine bodyPost_ret (v:=.tuple #[.agg #[.int .u8 tk,.int .i64 tn,.string ⟨tt.toArray⟩,.int .i64 t1,.int .i64 t2,.int .i64 t3,.int .i64 t4,.int .i64 (ta : Int)],.int .i64 (n : Int),.bool (orR (errR (restB s i) i) (signR (restB s i) i)).isSome]) (by simp [results,Tryz.results42,go_sem,r0,r1,r2,r3,r4,r5,r6,r7]) rfl ⟨⟨⟨tk,tn,tt,⟨t1,t2,t3,t4⟩,ta⟩,n,by rw [rtok_sign hi HD.out H4.out HL.out]; rfl,by rw [rtok_sign hi HD.out H4.out HL.out]; exact HRES.out⟩,((((((((hB.setCell (by simp) _).setCell (by simp) _).setCell (by simp) _).setCell (by simp) _).setCell (by simp) _).setCell (by simp) _).setCell (by simp) _).setCell (by simp) _)⟩
   ·have HL:=keep hl
    clear hl
    have H1:=Lib.hid (Ok.start w)
    go_enter Tryz.func42,Tryz.ntmps42
    go_wp2_with fail
    have H2:=Lib.hid (H1.out.var w.heap.size 43 [.int .u8 0,.int .i64 0,.string ⟨#[]⟩,.int .i64 0,.int .i64 0,.int .i64 0,.int .i64 0,.int .i64 0] rfl)
    clear H1
    generalize (w.alloc (.cells #[.int .u8 0,.int .i64 0,.string ⟨#[]⟩,.int .i64 0,.int .i64 0,.int .i64 0,.int .i64 0,.int .i64 0] 43)) = W3 at H2 ⊢
    refine (ref7_digit s i _).mono ?_
    rintro e w1 ⟨rfl,hw1⟩
    obtain rfl : W3 = w1:=hw1.symm
    rw [HD.out]
    go_wp2_with fail
    refine (ref7_letter s i _).mono ?_
    rintro e w2 ⟨rfl,hw2⟩
    obtain rfl : W3 = w2:=hw2.symm
    rw [HL.out]
    go_wp2_with fail
    refine (ref7_word s i _ hs HL.out).mono ?_
    rintro e w5 ⟨⟨⟨tk,tn,tt,⟨t1,t2,t3,t4⟩,ta⟩,n,rfl,hres⟩,hb5⟩
    have H5:=Lib.hid (H2.out.below hb5)
    clear hb5 H2
    have HRES:=keep hres
    clear hres
    simp only [tkA]
    have F4:=H5.out.sees
    simp only [sees,kVar,cellsAt,Nat.reduceAdd] at F4
    obtain ⟨⟨⟨z0,fz0⟩,c0_0,c0_1,c0_2,c0_3,c0_4,c0_5,c0_6,c0_7,-⟩,-⟩:=F4
    go_wp2_with fail
    have hK:=H5.out.get (kVar (w.heap.size) 43 [.int .u8 0,.int .i64 0,.string ⟨#[]⟩,.int .i64 0,.int .i64 0,.int .i64 0,.int .i64 0,.int .i64 0]) (by simp)
    have hB:=H5.out.bel
    have hE:=(((((((((show Blk w5 (w.heap.size) 43 _ from hK).set_ 0 (.int .u8 tk)).set_ 1 (.int .i64 tn)).set_ 2 (.string ⟨tt.toArray⟩)).set_ 3 (.int .i64 t1)).set_ 4 (.int .i64 t2)).set_ 5 (.int .i64 t3)).set_ 6 (.int .i64 t4)).set_ 7 (.int .i64 (ta : Int)))
    have r0:=hE.cell 0
    have r1:=hE.cell 1
    have r2:=hE.cell 2
    have r3:=hE.cell 3
    have r4:=hE.cell 4
    have r5:=hE.cell 5
    have r6:=hE.cell 6
    have r7:=hE.cell 7
    simp at r0 r1 r2 r3 r4 r5 r6 r7
    refine bodyPost_ret (v:=.tuple #[.agg #[.int .u8 tk,.int .i64 tn,.string ⟨tt.toArray⟩,.int .i64 t1,.int .i64 t2,.int .i64 t3,.int .i64 t4,.int .i64 (ta : Int)],.int .i64 (n : Int),.bool (wordR (restB s i) i).isSome]) (by simp [results,Tryz.results42,go_sem,r0,r1,r2,r3,r4,r5,r6,r7]) rfl ⟨⟨⟨tk,tn,tt,⟨t1,t2,t3,t4⟩,ta⟩,n,by rw [rtok_word HD.out H4.out HL.out]; rfl,by rw [rtok_word HD.out H4.out HL.out]; exact HRES.out⟩,((((((((hB.setCell (by simp) _).setCell (by simp) _).setCell (by simp) _).setCell (by simp) _).setCell (by simp) _).setCell (by simp) _).setCell (by simp) _).setCell (by simp) _)⟩
  ·have h34 : s[i]'hi = 34:=by rw [test_in hi] at h4; simpa using h4
   have H34:=keep h34
   have hq : (((s[i]'hi).toNat : Int) == 34) = true:=by rw [h34]; rfl
   clear h4 h34
   have H1:=Lib.hid (Ok.start w)
   go_enter Tryz.func42,Tryz.ntmps42
   go_wp2_with fail
   have H2:=Lib.hid (H1.out.var w.heap.size 43 [.int .u8 0,.int .i64 0,.string ⟨#[]⟩,.int .i64 0,.int .i64 0,.int .i64 0,.int .i64 0,.int .i64 0] rfl)
   clear H1
   generalize (w.alloc (.cells #[.int .u8 0,.int .i64 0,.string ⟨#[]⟩,.int .i64 0,.int .i64 0,.int .i64 0,.int .i64 0,.int .i64 0] 43)) = W3 at H2 ⊢
   refine (ref7_digit s i _).mono ?_
   rintro e w1 ⟨rfl,hw1⟩
   obtain rfl : W3 = w1:=hw1.symm
   rw [HD.out]
   go_wp2_with fail
   refine (ref7_text s i _ hs hi H34.out).mono ?_
   rintro e w5 ⟨⟨⟨tk,tn,tt,⟨t1,t2,t3,t4⟩,ta⟩,n,rfl,hres⟩,hb5⟩
   have H5:=Lib.hid (H2.out.below hb5)
   clear hb5 H2
   have HRES:=keep hres
   clear hres
   simp only [tkA]
   have F4:=H5.out.sees
   simp only [sees,kVar,cellsAt,Nat.reduceAdd] at F4
   obtain ⟨⟨⟨z0,fz0⟩,c0_0,c0_1,c0_2,c0_3,c0_4,c0_5,c0_6,c0_7,-⟩,-⟩:=F4
   go_wp2_with fail
   have hK:=H5.out.get (kVar (w.heap.size) 43 [.int .u8 0,.int .i64 0,.string ⟨#[]⟩,.int .i64 0,.int .i64 0,.int .i64 0,.int .i64 0,.int .i64 0]) (by simp)
   have hB:=H5.out.bel
   have hE:=(((((((((show Blk w5 (w.heap.size) 43 _ from hK).set_ 0 (.int .u8 tk)).set_ 1 (.int .i64 tn)).set_ 2 (.string ⟨tt.toArray⟩)).set_ 3 (.int .i64 t1)).set_ 4 (.int .i64 t2)).set_ 5 (.int .i64 t3)).set_ 6 (.int .i64 t4)).set_ 7 (.int .i64 (ta : Int)))
   have r0:=hE.cell 0
   have r1:=hE.cell 1
   have r2:=hE.cell 2
   have r3:=hE.cell 3
   have r4:=hE.cell 4
   have r5:=hE.cell 5
   have r6:=hE.cell 6
   have r7:=hE.cell 7
   simp at r0 r1 r2 r3 r4 r5 r6 r7
   refine bodyPost_ret (v:=.tuple #[.agg #[.int .u8 tk,.int .i64 tn,.string ⟨tt.toArray⟩,.int .i64 t1,.int .i64 t2,.int .i64 t3,.int .i64 t4,.int .i64 (ta : Int)],.int .i64 (n : Int),.bool (txtR (restB s i) i).isSome]) (by simp [results,Tryz.results42,go_sem,r0,r1,r2,r3,r4,r5,r6,r7]) rfl ⟨⟨⟨tk,tn,tt,⟨t1,t2,t3,t4⟩,ta⟩,n,by rw [rtok_txt hi H34.out]; rfl,by rw [rtok_txt hi H34.out]; exact HRES.out⟩,((((((((hB.setCell (by simp) _).setCell (by simp) _).setCell (by simp) _).setCell (by simp) _).setCell (by simp) _).setCell (by simp) _).setCell (by simp) _).setCell (by simp) _)⟩
 ·have HD:=keep hd
  clear hd
  have H1:=Lib.hid (Ok.start w)
  go_enter Tryz.func42,Tryz.ntmps42
  go_wp2_with fail
  have H2:=Lib.hid (H1.out.var w.heap.size 43 [.int .u8 0,.int .i64 0,.string ⟨#[]⟩,.int .i64 0,.int .i64 0,.int .i64 0,.int .i64 0,.int .i64 0] rfl)
  clear H1
  generalize (w.alloc (.cells #[.int .u8 0,.int .i64 0,.string ⟨#[]⟩,.int .i64 0,.int .i64 0,.int .i64 0,.int .i64 0,.int .i64 0] 43)) = W3 at H2 ⊢
  refine (ref7_digit s i _).mono ?_
  rintro e w1 ⟨rfl,hw1⟩
  obtain rfl : W3 = w1:=hw1.symm
  rw [HD.out]
  go_wp2_with fail
  refine (ref7_number s i _ hs HD.out).mono ?_
  rintro e w5 ⟨⟨⟨tk,tn,tt,⟨t1,t2,t3,t4⟩,ta⟩,n,rfl,hres⟩,hb5⟩
  have H5:=Lib.hid (H2.out.below hb5)
  clear hb5 H2
  have HRES:=keep hres
  clear hres
  simp only [tkA]
  have F4:=H5.out.sees
  simp only [sees,kVar,cellsAt,Nat.reduceAdd] at F4
  obtain ⟨⟨⟨z0,fz0⟩,c0_0,c0_1,c0_2,c0_3,c0_4,c0_5,c0_6,c0_7,-⟩,-⟩:=F4
  go_wp2_with fail
  have hK:=H5.out.get (kVar (w.heap.size) 43 [.int .u8 0,.int .i64 0,.string ⟨#[]⟩,.int .i64 0,.int .i64 0,.int .i64 0,.int .i64 0,.int .i64 0]) (by simp)
  have hB:=H5.out.bel
  have hE:=(((((((((show Blk w5 (w.heap.size) 43 _ from hK).set_ 0 (.int .u8 tk)).set_ 1 (.int .i64 tn)).set_ 2 (.string ⟨tt.toArray⟩)).set_ 3 (.int .i64 t1)).set_ 4 (.int .i64 t2)).set_ 5 (.int .i64 t3)).set_ 6 (.int .i64 t4)).set_ 7 (.int .i64 (ta : Int)))
  have r0:=hE.cell 0
  have r1:=hE.cell 1
  have r2:=hE.cell 2
  have r3:=hE.cell 3
  have r4:=hE.cell 4
  have r5:=hE.cell 5
  have r6:=hE.cell 6
  have r7:=hE.cell 7
  simp at r0 r1 r2 r3 r4 r5 r6 r7
  refine bodyPost_ret (v:=.tuple #[.agg #[.int .u8 tk,.int .i64 tn,.string ⟨tt.toArray⟩,.int .i64 t1,.int .i64 t2,.int .i64 t3,.int .i64 t4,.int .i64 (ta : Int)],.int .i64 (n : Int),.bool (numR (restB s i) i).isSome]) (by simp [results,Tryz.results42,go_sem,r0,r1,r2,r3,r4,r5,r6,r7]) rfl ⟨⟨⟨tk,tn,tt,⟨t1,t2,t3,t4⟩,ta⟩,n,by rw [rtok_num HD.out]; rfl,by rw [rtok_num HD.out]; exact HRES.out⟩,((((((((hB.setCell (by simp) _).setCell (by simp) _).setCell (by simp) _).setCell (by simp) _).setCell (by simp) _).setCell (by simp) _).setCell (by simp) _).setCell (by simp) _)⟩
end
section
open Go.RowKit
set_option maxRecDepth 100000 in
set_option maxHeartbeats 8000000 in
theorem ref7_Tokens (s : ByteArray) (w : World) (hs : s.size ≤ 4611686018427387904) :
  Calls Tryz.prog 18 #[.string s] w (TokOut s.data.toList w):=by
 have HSL:=keep (show s.data.toList.length = s.size by rw [Array.length_toList]; rfl)
 by_cases hlong : (s.size : Int) > 256
 ·have HL:=keep (tokens_long (L:=s.data.toList) (by rw [HSL.out]; omega))
  go_enter Tryz.func18,Tryz.ntmps18
  go_wp2_with fail
  exact bodyPost_ret (v:=.tuple #[.slice none 0 0,.int .i64 0,.int .i64 5]) (by simp [results,Tryz.results18,go_sem]) rfl (tokout_nil HL.out (Below.refl _ _))
 ·have h256 : s.size ≤ 256:=by omega
  obtain ⟨i0,hi,hz0,hz1,hz2⟩:=info_parts info_tok
  go_enter Tryz.func18,Tryz.ntmps18
  go_wp2_with fail
  clear hlong hs
  go_loopw [5] (fun iv wr => ∃ k : Nat,k ≤ s.size ∧ iv = .int .i64 (k : Int) ∧ Keep (∀ b ∈ s.data.toList.take k,plainB b = true) ∧ wr = w) (fun iv _ => s.size - (intOf iv).toNat)
  case atStart => exact ⟨0,Nat.zero_le _,rfl,keep (by simp),rfl⟩
  case round =>
   obtain ⟨k,hk,rfl,HP,hwr⟩:=hrel
   obtain rfl : w = wr:=hwr.symm
   by_cases hlt : (k : Int) < s.size
   ·have hks : k < s.size:=by omega
    rcases (show (((s[k]'hks).toNat : Int) < 32) ∨ (32 ≤ ((s[k]'hks).toNat : Int) ∧ 126 < ((s[k]'hks).toNat : Int)) ∨ (32 ≤ ((s[k]'hks).toNat : Int) ∧ ((s[k]'hks).toNat : Int) ≤ 126) by omega) with h1 | ⟨h1,h2⟩ | ⟨h1,h2⟩
    ·have HB:=keep (tokens_byte (k:=k) (by rw [HSL.out]; exact h256) (by rw [HSL.out]; exact hks) HP.out (show plainB (s[k]'hks) = false by unfold plainB; simp; omega))
     go_wp2_with fail
     exact bodyPost_ret (v:=.tuple #[.slice none 0 0,.int .i64 (k : Int),.int .i64 4]) (by simp [results,Tryz.results18,go_sem]) rfl (tokout_nil HB.out (Below.refl _ _))
    ·have HB:=keep (tokens_byte (k:=k) (by rw [HSL.out]; exact h256) (by rw [HSL.out]; exact hks) HP.out (show plainB (s[k]'hks) = false by unfold plainB; simp; omega))
     go_wp2_with fail
     exact bodyPost_ret (v:=.tuple #[.slice none 0 0,.int .i64 (k : Int),.int .i64 4]) (by simp [results,Tryz.results18,go_sem]) rfl (tokout_nil HB.out (Below.refl _ _))
    ·have HB:=keep (show ∀ b ∈ s.data.toList.take (k + 1),plainB b = true by
      intro b hb
      rw [List.take_succ_eq_append_getElem (by rw [HSL.out]; exact hks)] at hb
      rcases List.mem_append.1 hb with hb | hb
      ·exact HP.out b hb
      ·simp at hb
       subst hb
       show plainB (s[k]'hks) = true
       unfold plainB
       simp; omega)
     go_wp2_with fail
     go_roundw
     case rel => exact ⟨k + 1,by omega,by go_num,HB,by first | trivial | rfl⟩
     case measure => simp [intOf]; omega
   ·obtain rfl : k = s.size:=by omega
    have hpl : ∀ b ∈ s.data.toList,plainB b = true:=fun b hb => HP.out b (by rw [← HSL.out,List.take_length]; exact hb)
    have HTP:=keep (tokens_plain (L:=s.data.toList) (by rw [HSL.out]; exact h256) hpl)
    clear HP hpl hk
    go_wp2_with fail
    go_loopg [6,7] s.size (fun gf lv iv wr => ∃ (k : Nat) (l : List Tk),k ≤ s.size ∧ gf = s.size - k ∧ iv = .int .i64 (k : Int) ∧ l.length ≤ k ∧ Keep (Tks s.data.toList k l) ∧ Hid (OkRow w [] 43 8 lv l.length (tkCells l) wr))
    case atStart => exact ⟨0,[],Nat.zero_le _,by omega,rfl,Nat.zero_le _,keep (Tks.start _),Lib.hid (OkRow.start (Ok.start w) _ _)⟩
    case round =>
     obtain ⟨k,l,hk,hgk,rfl,hlk,HT,HR⟩:=hrel
     obtain ⟨wp,rfl⟩ : ∃ wp : World,wp = wr:=⟨_,rfl⟩
     subst hgk
     obtain ⟨lv,rfl⟩ : ∃ lv : Value,lv = u6:=⟨_,rfl⟩
     by_cases hlt : (k : Int) < s.size
     ·have hks : k < s.size:=by omega
      have hkl : k < s.data.toList.length:=by rw [HSL.out]; exact hks
      have HKL:=keep hkl
      clear hkl
      by_cases h32 : ((s[k]'hks).toNat : Int) = 32
      ·have hb32 : (((s[k]'hks).toNat : Int) == 32) = true:=by rw [h32]; rfl
       have HB:=keep (show s.data.toList[k]'HKL.out = 32 by show s[k]'hks = 32; rw [← UInt8.toNat_inj]; show _ = 32; omega)
       clear h32
       go_wp2_with fail
       go_roundg (s.size - (k + 1))
       case rel => exact ⟨k + 1,l,by omega,rfl,by go_num,by omega,keep (Tks.blank HT.out HKL.out HB.out),HR⟩
       case measure => omega
      ·have hb32 : (((s[k]'hks).toNat : Int) == 32) = false:=by simpa using h32
       have HB:=keep (show s.data.toList[k]'HKL.out ≠ 32 by show s[k]'hks ≠ 32; intro e; rw [e] at h32; exact h32 rfl)
       clear h32
       go_wp2_with fail
       clear hb32
       refine (ref7_token s k _ h256 hks).mono ?_
       rintro e w5 ⟨⟨⟨tk,tn,tt,⟨t1,t2,t3,t4⟩,ta⟩,n,rfl,hres⟩,hb5⟩
       have HR5:=Lib.hid (HR.out.below hb5)
       clear hb5 HR
       simp only [tkA]
       obtain ⟨x,hx⟩ : ∃ x,tokS k (restB s k) = x:=⟨_,rfl⟩
       rw [hx] at hres ⊢
       cases x with
       | none =>
        clear hres
        have hbad:=HTP.out
        rw [Tks.bad HT.out HKL.out HB.out hx] at hbad
        have HBAD:=keep (show tokensS s.data.toList = ([],(k : Int),4) from hbad)
        clear hbad hx
        simp only [Option.isSome_none]
        go_wp2_with fail
        exact bodyPost_ret (v:=.tuple #[.slice none 0 0,.int .i64 (k : Int),.int .i64 4]) (by simp [results,Tryz.results18,go_sem]) rfl (tokout_nil HBAD.out (HR5.out.ok.bel.alloc HR5.out.ok.bel.size _))
       | some q =>
        obtain ⟨t,m⟩:=q
        obtain ⟨rfl,rfl⟩:=hres _ rfl
        clear hres
        have htk : tokS k (s.data.toList.drop k) = some (⟨tk,tn,tt,⟨t1,t2,t3,t4⟩,ta⟩,m):=hx
        have hle:=tok_le htk
        have HTK:=keep (Tks.tok HT.out HKL.out HB.out htk)
        obtain ⟨hn1,hn2⟩:=hle
        rw [List.length_drop,HSL.out] at hn2
        have hn4 : k + m ≤ s.size:=by omega
        have HTR:=keep (tkCells_snoc l ⟨tk,tn,tt,⟨t1,t2,t3,t4⟩,ta⟩)
        clear htk hn2 hx
        simp only [Option.isSome_some]
        go_wp2_with (at_builtin; refine wpList_append_lies _ rfl _ _ _ rfl w.heap.size 43 i0 _ 8 72 Tryz.underlying38 hi hz0 hz1 hz2 rfl (by omega) _ _ _ rfl ((HR5.out.own.alloc _).alloc _) ⟨w5.heap.size + 1,0,none⟩ 1 1 (tkRow ⟨tk,tn,tt,⟨t1,t2,t3,t4⟩,ta⟩) rfl rfl (World.news_of_block (cs:=(tkRow ⟨tk,tn,tt,⟨t1,t2,t3,t4⟩,ta⟩).toArray) (t:=43) (fr:=(0,0)) (by rw [show w5.heap.size + 1 = (w5.alloc (.cells (tkRow ⟨tk,tn,tt,⟨t1,t2,t3,t4⟩,ta⟩).toArray 43)).heap.size by simp]; exact heap_alloc_new _ _)) (by intro u hu; simp [tkRow] at hu; rcases hu with rfl | rfl | rfl | rfl | rfl | rfl | rfl | rfl <;> rfl) (by omega) (by unfold maxLen; omega) (by omega) (by have:=HR5.out.ok.bel.size; simp; omega) _ rfl ?_; intro g cap w3 hown3 hgrow3 hat3 hlt3)
        go_roundg (s.size - (k + m))
        case rel => exact ⟨k + m,l ++ [⟨tk,tn,tt,⟨t1,t2,t3,t4⟩,ta⟩],hn4,rfl,by go_num,by simp; omega,HTK,by rw [HTR.out,List.length_append]; exact Lib.hid (((HR5.out.alloc_obj _).alloc_obj _).appended hown3 hgrow3 hat3)⟩
        case measure => omega
     ·obtain rfl : k = s.size:=by omega
      have hok:=HTP.out
      have hT:=HT.out
      rw [← HSL.out] at hT
      rw [Tks.done hT] at hok
      have HOK:=keep (show tokensS s.data.toList = (l,0,0) from hok)
      clear hok hT
      go_wp2_with fail
      exact bodyPost_ret (v:=.tuple #[lv,.int .i64 0,.int .i64 0]) (by simp [results,Tryz.results18,go_sem]) rfl ⟨lv,by rw [HOK.out],by rw [HOK.out]; exact HR.out.own,HR.out.ok.bel⟩
end
end Go.Proofs.YtlngjiibbcgkmaaGreatDoor
