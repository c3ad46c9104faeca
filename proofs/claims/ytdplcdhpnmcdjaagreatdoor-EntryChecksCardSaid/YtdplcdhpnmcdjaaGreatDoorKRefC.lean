/- The contract of the reference lexer's word. Contracts of the reference's error names, operators, and of its lexer's sign. Contracts of the reference lexer's sign and token. The contract of the reference's Tokens. -/
import Derived.Test.YtdplcdhpnmcdjaaGreatDoorKRefA
import Derived.Test.YtdplcdhpnmcdjaaGreatDoorKTg
import Derived.Test.YtdplcdhpnmcdjaaGreatDoorKLexM
import Derived.Test.YtdplcdhpnmcdjaaGreatDoorKVal
import Derived.Deep.DeepCutAuto
import Derived.Test.YtdplcdhpnmcdjaaGreatDoorKLexN
namespace Go.Proofs.YtdplcdhpnmcdjaaGreatDoor
set_option maxRecDepth 100000
set_option maxHeartbeats 8000000
section
open Go.RowKit Go.Proofs.Tryz
theorem De {s : ByteArray} {z : Nat} (h : z < s.size) : bk (· == 58) s z = decide (((s[z]'h).toNat : Int) = 58):=by
 rw [zD h,Bool.eq_iff_iff,beq_iff_eq,decide_eq_true_eq,← UInt8.toNat_inj]
 show _=58↔_
 omega
theorem Ay {s:ByteArray} {z:Nat} {b:UInt8}:bk (· == b) s z=decide ((s.data.toList.drop z).head?=some b):=by
 unfold bk
 rw [List.head?_drop]
 cases s.data.toList[z]? with
 | none=>simp
 | some c =>
  rw [Option.any_some,Bool.eq_iff_iff]
  simp
theorem CY {s:ByteArray} {z:Nat} (h:bk (· == 58) s z=true):cH (s.data.toList.drop z)=fi (aK s (z+1)):=by
 have hz:=zK h
 rw [zD hz] at h
 have e : s[z]'hz = 58:=by simpa using h
 rw [List.drop_eq_getElem_cons (by rw [Array.length_toList]; exact hz)]
 show cH (s[z]'hz :: _) = _
 rw [cP,if_pos e]
 rfl
theorem Cp {s:ByteArray} {z:Nat} (h:bk (· == 58) s z=false):cH (s.data.toList.drop z)=none:=by
 rw [Ay,decide_eq_false_iff_not] at h
 exact iV h
theorem CU (s:ByteArray) (i:Nat) (w:World) (hs:s.size≤256) (hl:bk ar s i=true) :
  Calls prog 225 #[.string s,.int .i64 (i:Int)] w fun e w'=>Ak i (bX (aK s i) i) e∧Below w.heap.size w w':=by
 have hi:=zK hl
 obtain ⟨z,hz⟩:=ex (i+(bC s i).length)
 have hzs:z≤s.size:=by rw [← hz]; exact DK s i (Nat.le_of_lt hi)
 have hiz:i≤z:=by omega
 obtain ⟨A1,A2,A3,hp⟩:∃ c r e0,aJ (bC s i)=(c,r,e0):=⟨_,_,_,rfl⟩
 obtain ⟨u,hu⟩:=ex ((bC s i).map upB)
 have hdz:(aK s i).dropWhile au=s.data.toList.drop z:=by
  have h1:=(br au (aK s i)).1
  have h2:(aK s i).dropWhile au=(aK s i).drop (bC s i).length:=by
   conv=>rhs; rw [h1]
   rw [show (aK s i).takeWhile au=bC s i from rfl,List.drop_left]
  rw [h2]
  unfold aK
  rw [List.drop_drop,hz]
 have HWD:=keep (show Wd (aK s i) u (s.data.toList.drop z) (bC s i).length (A1,A2,A3) from
  ⟨by unfold aK; rw [List.head?_drop]; exact hl,hu,hdz,rfl,by rw [← hu,BK]; exact hp⟩)
 have HEQ:=keep (addr_eq s i z A1 A2 A3 hl hz hp)
 have HZ:=keep hz
 have HU:=keep (show (s.extract i z).data.toList.map upB=u by rw [Cz s i z hz]; exact hu)
 clear hz hp hu hdz hl
 have H1:=Lib.hid (Ok.start w)
 go_enter func225,ntmps225
 go_wp2_with fail
 have H2:=Lib.hid (H1.out.var w.heap.size 97 [.int .u8 0,.int .i64 0,.string ⟨#[]⟩,.int .i64 0,.int .i64 0,.int .i64 0,.int .i64 0,.int .i64 0] rfl)
 clear H1
 generalize (w.alloc (.cells #[.int .u8 0,.int .i64 0,.string ⟨#[]⟩,.int .i64 0,.int .i64 0,.int .i64 0,.int .i64 0,.int .i64 0] 97))=W3 at H2 ⊢
 refine (Ar s i _ (by omega) (by omega)).mono ?_
 rintro e w7 ⟨rfl,hw7⟩
 obtain rfl:W3=w7:=hw7.symm
 rw [HZ.out]
 go_wp2_with fail
 refine cM (jR (s.extract i z) _ (by rw [ByteArray.size_extract]; omega)) H2 fun w4 H6=>?_
 rw [HU.out]
 clear H2
 go_upto_region 3 with fail
 obtain ⟨b,hb⟩:=ex (bk (· == 40) s z)
 have HB:=keep hb
 clear hb
 go_cut [33] (fun s9 wx=>s9=.bool b∧wx=w4)
 case first =>
  by_cases h1:(z:Int)<s.size
  ·have hkl:z<s.size:=by omega
   have hda:=Ci hkl
   by_cases h2 : ((s[z]'hkl).toNat : Int) = 40
   ·rw [decide_eq_true h2] at hda
    have hB:=HB.out
    rw [hda] at hB
    subst hB
    have h2' : (((s[z]'hkl).toNat : Int) == 40) = true:=by rw [h2]; rfl
    clear hda h2
    go_wp2_with fail
    go_meet
    exact ⟨rfl,rfl⟩
   rw [decide_eq_false h2] at hda
   have hB:=HB.out
   rw [hda] at hB
   subst hB
   have h2' : (((s[z]'hkl).toNat : Int) == 40) = false:=by simpa using h2
   clear hda h2
   go_wp2_with fail
   go_meet
   exact ⟨rfl,rfl⟩
  have hB:=HB.out
  rw [zN (by omega)] at hB
  subst hB
  go_wp2_with fail
  go_meet
  exact ⟨rfl,rfl⟩
 case rest =>
  obtain ⟨rfl,hwc⟩:=hcut
  obtain rfl:w4=wc:=hwc.symm
  cases b
  ·have HN40:=keep (show (s.data.toList.drop z).head?≠some 40 by have h9:=HB.out; rw [Ay] at h9; simpa using h9)
   have HB40:=keep HB.out
   clear HB
   by_cases hT:u=c6
   ·have HRES:=keep (HWD.out.yes (i:=i) HN40.out hT)
    have hTb:(u == [84,82,85,69])=true:=by rw [hT]; rfl
    clear hT
    have F7:=sE H6
    go_wp2_with fail
    exact e8_ [.int .i64 (z:Int),.bool true] H6 (fun W h=>by simp [results,results225,go_sem,h]) (fun h=>⟨f5 z HRES.out HZ.out.symm,h⟩)
   have HNT:=keep hT
   have hTb:(u == [84,82,85,69])=false:=sc hT
   clear hT
   by_cases hF:u=cf
   ·have HRES:=keep (HWD.out.no (i:=i) HN40.out HNT.out hF)
    have hFb:(u == [70,65,76,83,69])=true:=by rw [hF]; rfl
    clear hF
    have F7:=sE H6
    go_wp2_with fail
    exact e8_ [.int .i64 (z:Int),.bool true] H6 (fun W h=>by simp [results,results225,go_sem,h]) (fun h=>⟨f5 z HRES.out HZ.out.symm,h⟩)
   have HNF:=keep hF
   have hFb:(u == [70,65,76,83,69])=false:=sc hF
   clear hF
   go_wp2_with fail
   refine (Aq s i _ hs (by omega)).mono ?_
   rintro e w8 ⟨⟨ca,ra,n0,rfl,hadr⟩,hb8⟩
   have H8:=Lib.hid (H6.out.below hb8)
   clear hb8 H6
   by_cases hA:A3=0
   ·have hsome:fi (aK s i)=some (A1,A2,(bC s i).length):=by rw [HEQ.out,if_pos ⟨hA,HB40.out⟩]
    rw [hsome]
    obtain ⟨rfl,rfl,hn1⟩:=hadr _ hsome
    have hn0:n0=z:=by rw [hn1]; exact HZ.out
    clear hadr hn1
    subst hn0
    have HA:=keep hA
    clear hsome hA hTb hFb
    simp only [Option.isSome_some]
    go_upto_region 12 with fail
    have H7:=Lib.hid (H8.out.alloc w8.heap.size 46 [.int .i64 ca,.int .i64 ra] rfl)
    clear H8
    generalize (w8.alloc (.cells #[.int .i64 ca,.int .i64 ra] 46))=W8 at H7 ⊢
    have F9:=sE H7
    go_wp2_with fail
    refine cM (Ef ca ra _) H7 fun w10 H12=>?_
    clear F9 H7
    go_upto_region 13 with fail
    have HF12:=Lib.hid (show ∀ x∈[ac (w8.heap.size) 46 [.int .i64 ca,.int .i64 ra],af (w.heap.size) 97 [.int .u8 0,.int .i64 0,.string ⟨#[]⟩,.int .i64 0,.int .i64 0,.int .i64 0,.int .i64 0,.int .i64 0]],x.far (some w10.heap.size) from fun x hx=>x.new _ _ (Nat.le_refl _) (H12.out.all x hx))
    have HZ12:=Lib.hid H12.out.bel.size
    have H13:=Lib.hid (H12.out.var w10.heap.size 97 [.int .u8 5,.int .i64 0,.string ⟨#[]⟩,.int .i64 ca,.int .i64 ra,.int .i64 ca,.int .i64 ra,.int .i64 (i:Int)] rfl)
    clear H12
    generalize (w10.alloc (.cells #[.int .u8 5,.int .i64 0,.string ⟨#[]⟩,.int .i64 ca,.int .i64 ra,.int .i64 ca,.int .i64 ra,.int .i64 (i:Int)] 97))=W14 at H13 ⊢
    go_upto_region 13 with fail
    obtain ⟨b,hb⟩:=ex (bk (· == 58) s n0)
    have HB:=keep hb
    clear hb
    go_cut [71] (fun s9 wx=>s9=.bool b∧wx=W14)
    case first =>
     by_cases h1:(n0:Int)<s.size
     ·have hkl:n0<s.size:=by omega
      have hda:=De hkl
      by_cases h2 : ((s[n0]'hkl).toNat : Int) = 58
      ·rw [decide_eq_true h2] at hda
       have hB:=HB.out
       rw [hda] at hB
       subst hB
       have h2' : (((s[n0]'hkl).toNat : Int) == 58) = true:=by rw [h2]; rfl
       clear hda h2
       go_wp2_with fail
       go_meet
       exact ⟨rfl,rfl⟩
      rw [decide_eq_false h2] at hda
      have hB:=HB.out
      rw [hda] at hB
      subst hB
      have h2' : (((s[n0]'hkl).toNat : Int) == 58) = false:=by simpa using h2
      clear hda h2
      go_wp2_with fail
      go_meet
      exact ⟨rfl,rfl⟩
     have hB:=HB.out
     rw [zN (by omega)] at hB
     subst hB
     go_wp2_with fail
     go_meet
     exact ⟨rfl,rfl⟩
    case rest =>
     obtain ⟨rfl,hwc⟩:=hcut
     obtain rfl:W14=wc:=hwc.symm
     cases b
     ·have HRES:=keep (HWD.out.one (i:=i) HN40.out HNT.out HNF.out HA.out (Cp HB.out))
      have F15:=sE H13
      go_wp2_with fail
      exact e8_ [.int .i64 (n0:Int),.bool true] H13 (fun W h=>by simp [results,results225,go_sem,h]) (fun h=>⟨f5 n0 HRES.out HZ.out.symm,h⟩)
     have hzl:=zK HB.out
     obtain ⟨q,hq⟩:=ex (n0+1)
     have hqi:(n0:Int)+1=(q:Int):=by omega
     have HSQ:=keep (show cH (s.data.toList.drop n0)=fi (aK s q) by rw [← hq]; exact CY HB.out)
     have HQ:=keep hq
     have hqs:q≤s.size:=by omega
     clear hq HB
     go_wp2_with fail
     refine (Aq s q _ hs hqs).mono ?_
     rintro e w9 ⟨⟨cb,rb,m1,rfl,hadr⟩,hb9⟩
     have H9:=Lib.hid (H13.out.below hb9)
     clear hb9 H13
     obtain ⟨X,hX⟩:=ex (fi (aK s q))
     rw [hX] at hadr ⊢
     have HX:=keep hX
     clear hX
     cases X with
     | none =>
      clear hadr
      have HRES:=keep (HWD.out.one (i:=i) HN40.out HNT.out HNF.out HA.out (by rw [HSQ.out]; exact HX.out))
      simp only [Option.isSome_none]
      have F15:=sE H9
      go_upto_region 15 with fail
      clear F15
      have H16:=Lib.hid (H9.out.alloc w9.heap.size 46 [.int .i64 cb,.int .i64 rb] rfl)
      clear H9
      generalize (w9.alloc (.cells #[.int .i64 cb,.int .i64 rb] 46))=W17 at H16 ⊢
      have F18:=sE H16
      go_wp2_with fail
      exact e8_ [.int .i64 (n0:Int),.bool true] H16 (fun W h=>by simp [results,results225,go_sem,h]) (fun h=>⟨f5 n0 HRES.out HZ.out.symm,h⟩)
     | some Y =>
      obtain ⟨B1,B2,m⟩:=Y
      obtain ⟨rfl,rfl,hm1⟩:=hadr _ rfl
      have HM:=keep (show m1=q+m from hm1)
      clear hadr hm1
      have HSEC:=keep (show cH (s.data.toList.drop n0)=some (cb,rb,m) by rw [HSQ.out]; exact HX.out)
      have HRES:=keep (HWD.out.two (i:=i) HN40.out HNT.out HNF.out HA.out HSEC.out)
      simp only [Option.isSome_some]
      have F15:=H9.out.sees
      simp only [sees,ac,af,aa,Nat.reduceAdd] at F15
      obtain ⟨⟨⟨z0,fz0⟩,c00,c01,c02,c03,c04,c05,c06,c07,-⟩,⟨z1,c10,c11,-⟩,⟨⟨z2,fz2⟩,c20,c21,c22,c23,c24,c25,c26,c27,-⟩,-⟩:=F15
      go_upto_region 16 with fail
      have hz13:=z0
      have HZ13:=Lib.hid hz13
      clear z0 fz0 c00 c01 c02 c03 c04 c05 c06 c07 z1 c10 c11 z2 fz2 c20 c21 c22 c23 c24 c25 c26 c27
      have H16:=Lib.hid (H9.out.alloc w9.heap.size 46 [.int .i64 cb,.int .i64 rb] rfl)
      clear H9
      generalize (w9.alloc (.cells #[.int .i64 cb,.int .i64 rb] 46))=W17 at H16 ⊢
      have F18:=sE H16
      go_upto_region 17 with fail
      clear F18
      have H10:=Lib.hid (H16.out.drop [af (w10.heap.size) 97 [.int .u8 5,.int .i64 0,.string ⟨#[]⟩,.int .i64 ca,.int .i64 ra,.int .i64 ca,.int .i64 ra,.int .i64 (i:Int)],ac (w9.heap.size) 46 [.int .i64 cb,.int .i64 rb],ac (w8.heap.size) 46 [.int .i64 ca,.int .i64 ra],af (w.heap.size) 97 [.int .u8 0,.int .i64 0,.string ⟨#[]⟩,.int .i64 0,.int .i64 0,.int .i64 0,.int .i64 0,.int .i64 0]] (by simp))
      have hfar:∀ x∈[ac (w9.heap.size) 46 [.int .i64 cb,.int .i64 rb],ac (w8.heap.size) 46 [.int .i64 ca,.int .i64 ra],af (w.heap.size) 97 [.int .u8 0,.int .i64 0,.string ⟨#[]⟩,.int .i64 0,.int .i64 0,.int .i64 0,.int .i64 0,.int .i64 0]],x.far (some (w10.heap.size)):=by
       intro x hx
       rcases List.mem_cons.1 hx with rfl | hx
       ·have:=HZ13.out
        simp [ac]; omega
       exact HF12.out x hx
      have H11:Hid (Ok w [af (w10.heap.size) 97 [.int .u8 5,.int .i64 0,.string ⟨#[]⟩,.int .i64 (min ca cb),.int .i64 (min ra rb),.int .i64 (max ca cb),.int .i64 (max ra rb),.int .i64 (i:Int)],ac (w9.heap.size) 46 [.int .i64 cb,.int .i64 rb],ac (w8.heap.size) 46 [.int .i64 ca,.int .i64 ra],af (w.heap.size) 97 [.int .u8 0,.int .i64 0,.string ⟨#[]⟩,.int .i64 0,.int .i64 0,.int .i64 0,.int .i64 0,.int .i64 0]] ((((W17.setCell ⟨w10.heap.size,3,none⟩ (.int .i64 (min ca cb))).setCell ⟨w10.heap.size,4,none⟩ (.int .i64 (min ra rb))).setCell ⟨w10.heap.size,5,none⟩ (.int .i64 (max ca cb))).setCell ⟨w10.heap.size,6,none⟩ (.int .i64 (max ra rb)))):=((((H10.out.set_ (i:=3) (u:=.int .i64 (min ca cb)) HZ12.out hfar).set_ (i:=4) (u:=.int .i64 (min ra rb)) HZ12.out hfar).set_ (i:=5) (u:=.int .i64 (max ca cb)) HZ12.out hfar).set_ (i:=6) (u:=.int .i64 (max ra rb)) HZ12.out hfar)
      clear H10 hfar H16
      generalize ((((W17.setCell ⟨w10.heap.size,3,none⟩ (.int .i64 (min ca cb))).setCell ⟨w10.heap.size,4,none⟩ (.int .i64 (min ra rb))).setCell ⟨w10.heap.size,5,none⟩ (.int .i64 (max ca cb))).setCell ⟨w10.heap.size,6,none⟩ (.int .i64 (max ra rb)))=W19 at H11 ⊢
      by_cases hAB:ca=cb∧ra=rb
      ·have HR5:=keep (show bX (aK s i) i=some (⟨5,0,[],fD (ca,ra) (cb,rb),i⟩,(bC s i).length+1+m) by have h9:=HRES.out; simp only [] at h9; rw [if_pos hAB] at h9; exact h9)
       clear HRES
       obtain ⟨rfl,rfl⟩:=hAB
       have F20:=sE H11
       go_wp2_with fail
       exact e8_ [.int .i64 (m1:Int),.bool true] H11 (fun W h=>by simp [results,results225,go_sem,h]) (fun h=>by have h5:=HR5.out; unfold fD at h5; simp only [Int.min_self,Int.max_self] at h5; exact ⟨f5 m1 h5 (by have:=HM.out; have:=HQ.out; have:=HZ.out; omega),h⟩)
      have HR5:=keep (show bX (aK s i) i=some (⟨6,0,[],fD (ca,ra) (cb,rb),i⟩,(bC s i).length+1+m) by have h9:=HRES.out; simp only [] at h9; rw [if_neg hAB] at h9; exact h9)
      clear HRES
      by_cases hA1:ca=cb
      ·have hA2:¬ ra=rb:=fun h=>hAB ⟨hA1,h⟩
       clear hAB
       subst hA1
       have hM:(min ca ca,max ca ca)=(ca,ca):=by simp
       clear hM
       have F20:=sE H11
       go_upto_region 19 with fail
       clear F20
       have hfar:∀ x∈[ac (w9.heap.size) 46 [.int .i64 ca,.int .i64 rb],ac (w8.heap.size) 46 [.int .i64 ca,.int .i64 ra],af (w.heap.size) 97 [.int .u8 0,.int .i64 0,.string ⟨#[]⟩,.int .i64 0,.int .i64 0,.int .i64 0,.int .i64 0,.int .i64 0]],x.far (some (w10.heap.size)):=by
        intro x hx
        rcases List.mem_cons.1 hx with rfl | hx
        ·have:=HZ13.out
         simp [ac]; omega
        exact HF12.out x hx
       have H12:Hid (Ok w [af (w10.heap.size) 97 [.int .u8 6,.int .i64 0,.string ⟨#[]⟩,.int .i64 (min ca ca),.int .i64 (min ra rb),.int .i64 (max ca ca),.int .i64 (max ra rb),.int .i64 (i:Int)],ac (w9.heap.size) 46 [.int .i64 ca,.int .i64 rb],ac (w8.heap.size) 46 [.int .i64 ca,.int .i64 ra],af (w.heap.size) 97 [.int .u8 0,.int .i64 0,.string ⟨#[]⟩,.int .i64 0,.int .i64 0,.int .i64 0,.int .i64 0,.int .i64 0]] (W19.setCell ⟨w10.heap.size,0,none⟩ (.int .u8 6))):=H11.out.set_ (i:=0) (u:=.int .u8 6) HZ12.out hfar
       clear hfar H11
       generalize (W19.setCell ⟨w10.heap.size,0,none⟩ (.int .u8 6))=W21 at H12 ⊢
       have F22:=sE H12
       go_wp2_with fail
       exact e8_ [.int .i64 (m1:Int),.bool true] H12 (fun W h=>by simp [results,results225,go_sem,h]) (fun h=>by have h5:=HR5.out; unfold fD at h5; simp only [Int.min_self,Int.max_self] at h5; exact ⟨f5 m1 h5 (by have:=HM.out; have:=HQ.out; have:=HZ.out; omega),h⟩)
      clear hAB
      have F20:=sE H11
      go_upto_region 19 with fail
      clear F20
      have hfar:∀ x∈[ac (w9.heap.size) 46 [.int .i64 cb,.int .i64 rb],ac (w8.heap.size) 46 [.int .i64 ca,.int .i64 ra],af (w.heap.size) 97 [.int .u8 0,.int .i64 0,.string ⟨#[]⟩,.int .i64 0,.int .i64 0,.int .i64 0,.int .i64 0,.int .i64 0]],x.far (some (w10.heap.size)):=by
       intro x hx
       rcases List.mem_cons.1 hx with rfl | hx
       ·have:=HZ13.out
        simp [ac]; omega
       exact HF12.out x hx
      have H12:Hid (Ok w [af (w10.heap.size) 97 [.int .u8 6,.int .i64 0,.string ⟨#[]⟩,.int .i64 (min ca cb),.int .i64 (min ra rb),.int .i64 (max ca cb),.int .i64 (max ra rb),.int .i64 (i:Int)],ac (w9.heap.size) 46 [.int .i64 cb,.int .i64 rb],ac (w8.heap.size) 46 [.int .i64 ca,.int .i64 ra],af (w.heap.size) 97 [.int .u8 0,.int .i64 0,.string ⟨#[]⟩,.int .i64 0,.int .i64 0,.int .i64 0,.int .i64 0,.int .i64 0]] (W19.setCell ⟨w10.heap.size,0,none⟩ (.int .u8 6))):=H11.out.set_ (i:=0) (u:=.int .u8 6) HZ12.out hfar
      clear hfar H11
      generalize (W19.setCell ⟨w10.heap.size,0,none⟩ (.int .u8 6))=W21 at H12 ⊢
      have F22:=sE H12
      go_wp2_with fail
      exact e8_ [.int .i64 (m1:Int),.bool true] H12 (fun W h=>by simp [results,results225,go_sem,h]) (fun h=>⟨f5 m1 HR5.out (by have:=HM.out; have:=HQ.out; have:=HZ.out; omega),h⟩)
   have hno:fi (aK s i)=none:=by rw [HEQ.out,if_neg (fun h=>hA h.1)]
   rw [hno]
   have HRES:=keep (HWD.out.bad (i:=i) HN40.out HNT.out HNF.out hA)
   clear hadr hno hA
   simp only [Option.isSome_none]
   go_upto_region 10 with fail
   have H7:=Lib.hid (H8.out.alloc w8.heap.size 46 [.int .i64 ca,.int .i64 ra] rfl)
   clear H8
   generalize (w8.alloc (.cells #[.int .i64 ca,.int .i64 ra] 46))=W8 at H7 ⊢
   have F9:=sE H7
   go_wp2_with fail
   exact e8_ [.int .i64 0,.bool false] H7 (fun W h=>by simp [results,results225,go_sem,h]) (fun h=>⟨zM Tk.zero HRES.out,h⟩)
  have HRES:=keep (HWD.out.name (i:=i) (by have h9:=HB.out; rw [Ay] at h9; simpa using h9))
  have F7:=sE H6
  go_wp2_with fail
  exact e8_ [.int .i64 (z:Int),.bool true] H6 (fun W h=>by simp [results,results225,go_sem,h]) (fun h=>⟨f5 z HRES.out HZ.out.symm,h⟩)
end
section
open Go.RowKit Go.Proofs.Tryz
def i1 (c:Int):List UInt8:=if 1≤c∧c≤7 then aB[c.toNat]?.getD [] else []
theorem cJ (w:World) :
  Calls prog 41 #[.int .i64 7] w fun e w'=>e=.returned (.agg #[.int .u8 4,.int .i64 7,.string ⟨#[]⟩])∧Below w.heap.size w w':=by
 go_enter func41,ntmps41
 have H0:=Lib.hid (Ok.start w)
 go_upto_region 1 with fail
 have H1:=Lib.hid (H0.out.var w.heap.size 35 [.int .u8 0,.int .i64 0,.string ⟨#[]⟩] rfl)
 clear H0
 generalize (w.alloc (.cells #[.int .u8 0,.int .i64 0,.string ⟨#[]⟩] 35))=W2 at H1 ⊢
 have F3:=sE H1
 go_wp2_with fail
 have hK:=H1.out.get (af (w.heap.size) 35 [.int .u8 0,.int .i64 0,.string ⟨#[]⟩]) (by simp)
 have hB:=H1.out.bel
 have hE:=((((show Blk W2 (w.heap.size) 35 _ from hK).set_ 0 (.int .u8 4)).set_ 1 (.int .i64 7)).set_ 2 (.string ⟨#[]⟩))
 exact bodyPost_ret (v:=.agg #[.int .u8 4,.int .i64 7,.string ⟨#[]⟩]) (by simp [results,results41,go_sem,hE.cell]) rfl ⟨rfl,(sC (sC (sC hB _) _) _)⟩
theorem ix (c:Int) (w:World) :
  Calls prog 76 #[.int .i64 c] w fun e w'=>e=.returned (.string ⟨(i1 c).toArray⟩)∧w'=w:=by
 rcases (show c=1∨c=2∨c=3∨c=4∨c=5∨c=6∨c=7∨¬ (1≤c∧c≤7) by omega) with rfl | rfl | rfl | rfl | rfl | rfl | rfl | h
 iterate 7
  ·go_enter func76,ntmps76
   go_wp2_with fail
   go_ret
   exact ⟨rfl,rfl⟩
 ·have HE:=keep (show i1 c=[] from if_neg h)
  have h1:(c == 1)=false:=by simp; omega
  have h2:(c == 2)=false:=by simp; omega
  have h3:(c == 3)=false:=by simp; omega
  have h4:(c == 4)=false:=by simp; omega
  have h5:(c == 5)=false:=by simp; omega
  have h6:(c == 6)=false:=by simp; omega
  have h7:(c == 7)=false:=by simp; omega
  clear h
  go_enter func76,ntmps76
  go_wp2_with fail
  go_ret
  exact ⟨by rw [HE.out]; rfl,rfl⟩
theorem iU (c:Int) (w:World) :
  Calls prog 40 #[.agg #[.int .u8 4,.int .i64 c,.string ⟨#[]⟩]] w fun e w'=>e=.returned (.int .i64 (if 1≤c∧c≤6 then 0 else 2))∧Below w.heap.size w w':=by
 have hb:=(Below.refl w.heap.size w).alloc (Nat.le_refl _) (.cells #[.int .u8 4,.int .i64 c,.string ⟨#[]⟩] 35)
 have HB:=Lib.hid hb
 clear hb
 by_cases h1:1≤c
 ·by_cases h6:c≤6
  ·have HE:=keep (show (if 1≤c∧c≤6 then (0:Int) else 2)=0 from if_pos ⟨h1,h6⟩)
   rw [HE.out]
   go_enter func40,ntmps40
   go_wp2_with fail
   go_ret
   exact ⟨rfl,HB.out⟩
  have HE:=keep (show (if 1≤c∧c≤6 then (0:Int) else 2)=2 from if_neg (fun h=>h6 h.2))
  rw [HE.out]
  go_enter func40,ntmps40
  go_wp2_with fail
  go_ret
  exact ⟨rfl,HB.out⟩
 have HE:=keep (show (if 1≤c∧c≤6 then (0:Int) else 2)=2 from if_neg (fun h=>h1 h.1))
 rw [HE.out]
 go_enter func40,ntmps40
 go_wp2_with fail
 go_ret
 exact ⟨rfl,HB.out⟩
theorem qx (c:Int) (w:World) :
  Calls prog 42 #[.agg #[.int .u8 4,.int .i64 c,.string ⟨#[]⟩]] w fun e w'=>e=.returned (.string ⟨(i1 c).toArray⟩)∧Below w.heap.size w w':=by
 by_cases h7:c=7
 ·subst h7
  have H1:=Lib.hid ((Ok.start w).alloc w.heap.size 35 [.int .u8 4,.int .i64 7,.string ⟨#[]⟩] rfl)
  go_enter func42,ntmps42
  go_wp2_with fail
  generalize (w.alloc (.cells #[.int .u8 4,.int .i64 7,.string ⟨#[]⟩] 35))=W2 at H1 ⊢
  refine wp_region_held_drew (S:=fun W=>Ok w [ac (w.heap.size) 35 [.int .u8 4,.int .i64 7,.string ⟨#[]⟩]] W) (by kernel_rfl) H1.out.drew (fun hHeld => ?_)
  refine wt3 0 ?_
  refine wal 1 fun K hK => ?_
  go_simp
  refine (cJ _).mono ?_
  rintro e w4 ⟨rfl,hb5⟩
  go_wp2_with fail
  refine hK.out _ _ (hHeld.below hb5) (fun hHeld => ?_)
  clear hK K
  refine wn ?_
  refine wt3 2 ?_
  refine wpAnyH_done (by kernel_rfl) ?_ _
  clear H1
  have H6:=Lib.hid hHeld
  clear hHeld
  have F7:=sE H6
  go_wp2_with fail
  refine (ix 7 _).mono ?_
  rintro e wz9 ⟨rfl,hw9⟩
  obtain rfl:w4=wz9:=hw9.symm
  go_wp2_with fail
  go_ret
  exact ⟨rfl,H6.out.bel⟩
 have h7b:(c == 7)=false:=by simpa using h7
 have H7:=keep h7
 clear h7
 by_cases h16:1≤c∧c≤6
 ·have HC:=keep (show (if 1≤c∧c≤6 then (0:Int) else 2)=0 from if_pos h16)
  clear h16
  have H1:=Lib.hid ((Ok.start w).alloc w.heap.size 35 [.int .u8 4,.int .i64 c,.string ⟨#[]⟩] rfl)
  go_enter func42,ntmps42
  go_wp2_with fail
  generalize (w.alloc (.cells #[.int .u8 4,.int .i64 c,.string ⟨#[]⟩] 35))=W2 at H1 ⊢
  refine wp_region_held_drew (S:=fun W=>Ok w [ac (w.heap.size) 35 [.int .u8 4,.int .i64 c,.string ⟨#[]⟩]] W) (by kernel_rfl) H1.out.drew (fun hHeld => ?_)
  refine wt3 0 ?_
  refine wal 1 fun K hK => ?_
  go_simp
  refine (cJ _).mono ?_
  rintro e w4 ⟨rfl,hb5⟩
  go_wp2_with fail
  refine hK.out _ _ (hHeld.below hb5) (fun hHeld => ?_)
  clear hK K
  refine wn ?_
  refine wt3 2 ?_
  refine wpAnyH_done (by kernel_rfl) ?_ _
  clear H1
  have H6:=Lib.hid hHeld
  clear hHeld
  have F7:=sE H6
  go_wp2_with fail
  refine cM (iU c _) H6 fun w8 H10=>?_
  rw [HC.out]
  clear F7 H6
  have F11:=sE H10
  go_wp2_with fail
  refine (ix c _).mono ?_
  rintro e wz9 ⟨rfl,hw9⟩
  obtain rfl:w8=wz9:=hw9.symm
  go_wp2_with fail
  go_ret
  exact ⟨rfl,H10.out.bel⟩
 have HC:=keep (show (if 1≤c∧c≤6 then (0:Int) else 2)=2 from if_neg h16)
 have HE:=keep (show i1 c=[] from if_neg (by have:=H7.out; omega))
 clear h16
 have H1:=Lib.hid ((Ok.start w).alloc w.heap.size 35 [.int .u8 4,.int .i64 c,.string ⟨#[]⟩] rfl)
 go_enter func42,ntmps42
 go_wp2_with fail
 generalize (w.alloc (.cells #[.int .u8 4,.int .i64 c,.string ⟨#[]⟩] 35))=W2 at H1 ⊢
 refine wp_region_held_drew (S:=fun W=>Ok w [ac (w.heap.size) 35 [.int .u8 4,.int .i64 c,.string ⟨#[]⟩]] W) (by kernel_rfl) H1.out.drew (fun hHeld => ?_)
 refine wt3 0 ?_
 refine wal 1 fun K hK => ?_
 go_simp
 refine (cJ _).mono ?_
 rintro e w4 ⟨rfl,hb5⟩
 go_wp2_with fail
 refine hK.out _ _ (hHeld.below hb5) (fun hHeld => ?_)
 clear hK K
 refine wn ?_
 refine wt3 2 ?_
 refine wpAnyH_done (by kernel_rfl) ?_ _
 clear H1
 have H6:=Lib.hid hHeld
 clear hHeld
 have F7:=sE H6
 go_wp2_with fail
 refine cM (iU c _) H6 fun w8 H10=>?_
 rw [HC.out]
 clear F7 H6
 have F11:=sE H10
 go_wp2_with fail
 go_ret
 exact ⟨by rw [HE.out]; rfl,H10.out.bel⟩
theorem AW (c:Int) (w:World) :
  Calls prog 98 #[.int .i64 c] w fun e w'=>e=.returned (.string ⟨(fA c).toArray⟩)∧w'=w:=by
 rcases (show c=1∨c=2∨c=3∨c=4∨c=5∨c=6∨c=7∨c=8∨c=9∨c=10∨c=11∨c=12∨c=13∨¬ (1≤c∧c≤13) by omega) with rfl | rfl | rfl | rfl | rfl | rfl | rfl | rfl | rfl | rfl | rfl | rfl | rfl | h
 iterate 13
  ·go_enter func98,ntmps98
   go_wp2_with fail
   go_ret
   exact ⟨rfl,rfl⟩
 ·have HE:=keep (show fA c=[] by unfold fA; rw [if_neg (by omega),if_neg (by omega),if_neg (by omega),if_neg (by omega),if_neg (by omega),if_neg (by omega),if_neg (by omega),if_neg (by omega),if_neg (by omega),if_neg (by omega),if_neg (by omega),if_neg (by omega),if_neg (by omega)])
  have h1:(c == 1)=false:=by simp; omega
  have h2:(c == 2)=false:=by simp; omega
  have h3:(c == 3)=false:=by simp; omega
  have h4:(c == 4)=false:=by simp; omega
  have h5:(c == 5)=false:=by simp; omega
  have h6:(c == 6)=false:=by simp; omega
  have h7:(c == 7)=false:=by simp; omega
  have h8:(c == 8)=false:=by simp; omega
  have h9:(c == 9)=false:=by simp; omega
  have h10:(c == 10)=false:=by simp; omega
  have h11:(c == 11)=false:=by simp; omega
  have h12:(c == 12)=false:=by simp; omega
  have h13:(c == 13)=false:=by simp; omega
  clear h
  go_enter func98,ntmps98
  go_wp2_with fail
  go_ret
  exact ⟨by rw [HE.out]; rfl,rfl⟩
theorem Df {l:List UInt8} (h:∀ c:Nat,1≤c→c≤5→zY l (aB[c]?.getD [])=false):gq l=none:=by
 have key:∀ c,1≤c→c≤5→(l.take (aB[c]?.getD []).length).map upB≠aB[c]?.getD []:=fun c h1 h2=>by
  have h9:=h c h1 h2
  unfold zY at h9
  exact of_decide_eq_false h9
 show lm l (bj.drop (1 - 1)) 1=none
 rw [pW l 1 (by decide) (by decide),if_neg (key 1 (by decide) (by decide))]
 show lm l (bj.drop (2 - 1)) 2=none
 rw [pW l 2 (by decide) (by decide),if_neg (key 2 (by decide) (by decide))]
 show lm l (bj.drop (3 - 1)) 3=none
 rw [pW l 3 (by decide) (by decide),if_neg (key 3 (by decide) (by decide))]
 show lm l (bj.drop (4 - 1)) 4=none
 rw [pW l 4 (by decide) (by decide),if_neg (key 4 (by decide) (by decide))]
 show lm l (bj.drop (5 - 1)) 5=none
 rw [pW l 5 (by decide) (by decide),if_neg (key 5 (by decide) (by decide))]
 rfl
theorem Dg {l:List UInt8} (c:Nat) (h1:1≤c) (h5:c≤5) (hp:∀ d:Nat,1≤d→d<c→zY l (aB[d]?.getD [])=false) (h:zY l (aB[c]?.getD [])=true):gq l=some (c,(aB[c]?.getD []).length):=by
 have key:∀ d,1≤d→d<c→(l.take (aB[d]?.getD []).length).map upB≠aB[d]?.getD []:=fun d h1 h2=>by
  have h9:=hp d h1 h2
  unfold zY at h9
  exact of_decide_eq_false h9
 have hc:(l.take (aB[c]?.getD []).length).map upB=aB[c]?.getD []:=by unfold zY at h; exact of_decide_eq_true h
 have step:∀ d,1≤d→d<c→lm l (bj.drop (d - 1)) d=lm l (bj.drop (d+1 - 1)) (d+1):=fun d h1 h2=>by
  rw [pW l d h1 (by omega),if_neg (key d h1 h2)]
  rfl
 have walk:∀ d,1≤d→d≤c→lm l (bj.drop (1 - 1)) 1=lm l (bj.drop (d - 1)) d:=by
  intro d
  induction d with
  | zero=>intro h; omega
  | succ d ih =>
   intro h1 h2
   rcases Nat.eq_zero_or_pos d with rfl | hd
   ·rfl
   rw [ih hd (by omega),step d hd (by omega)]
 show lm l (bj.drop (1 - 1)) 1=_
 rw [walk c h1 (Nat.le_refl _),pW l c h1 h5,if_pos hc]
theorem DT {l x:List UInt8} (hx:∀ b∈x,¬ (65≤b.toNat∧b.toNat≤90)∧¬ (97≤b.toNat∧b.toNat≤122)):zY l x=true↔pre x l:=by
 unfold zY pre
 rw [decide_eq_true_eq]
 constructor
 ·intro e
  have key:∀ b∈l.take x.length,upB b=b:=by
   intro b hb
   have h1:upB b∈x:=by rw [← e]; exact List.mem_map_of_mem hb
   have h2:=(hx _ h1).1
   apply ii
   intro h3
   have:=pz b h3
   omega
  have h4:(l.take x.length).map upB=l.take x.length:=(List.map_congr_left key).trans (List.map_id _)
  rw [h4] at e
  exact e
 intro e
 have key:∀ b∈l.take x.length,upB b=b:=by
  intro b hb
  rw [e] at hb
  exact ii b (hx _ hb).2
 rw [(List.map_congr_left key).trans (List.map_id _)]
 exact e
def opAt (l:List UInt8) (n:Nat) (o:Int):Prop:=(fA o).length=n∧zY l (fA o)=true
theorem AL {l:List UInt8} {o:Int}:zY l (fA o)=true↔pre (fA o) l:=by
 apply DT
 by_cases h:1≤o∧o≤13
 ·rcases (show o=1∨o=2∨o=3∨o=4∨o=5∨o=6∨o=7∨o=8∨o=9∨o=10∨o=11∨o=12∨o=13 by omega) with rfl | rfl | rfl | rfl | rfl | rfl | rfl | rfl | rfl | rfl | rfl | rfl | rfl <;> decide
 have e:fA o=[]:=by unfold fA; rw [if_neg (by omega),if_neg (by omega),if_neg (by omega),if_neg (by omega),if_neg (by omega),if_neg (by omega),if_neg (by omega),if_neg (by omega),if_neg (by omega),if_neg (by omega),if_neg (by omega),if_neg (by omega),if_neg (by omega)]
 rw [e]
 simp
theorem Ev {l:List UInt8} {n:Nat} {o:Int} (h1:1≤o) (h13:o≤13) (hn:n=2∨n=1) (h:opAt l n o) (hp:∀ x,1≤x→x<o→¬ opAt l n x) (h2:n=1→∀ x,1≤x→x≤13→¬ opAt l 2 x):opS l=some (8,o,n):=by
 have hp':∀ x,1≤x→x<o→(fA x).length=n→¬ pre (fA x) l:=fun x a b c d=>hp x a b ⟨c,AL.2 d⟩
 have h2':n=1→∀ x,1≤x→x≤13→(fA x).length=2→¬ pre (fA x) l:=fun e x a b c d=>h2 e x a b ⟨c,AL.2 d⟩
 obtain ⟨hl,hb⟩:=h
 have hb:=AL.1 hb
 clear hp h2
 rcases (show o=1∨o=2∨o=3∨o=4∨o=5∨o=6∨o=7∨o=8∨o=9∨o=10∨o=11∨o=12∨o=13 by omega) with rfl | rfl | rfl | rfl | rfl | rfl | rfl | rfl | rfl | rfl | rfl | rfl | rfl
 all_goals
  simp [fA] at hl
  subst hl
  first
   | refine rZ l 0 (by decide) (fun k hk => ?_) hb
   | refine rZ l 1 (by decide) (fun k hk => ?_) hb
   | refine rZ l 2 (by decide) (fun k hk => ?_) hb
   | refine rZ l 3 (by decide) (fun k hk => ?_) hb
   | refine rZ l 4 (by decide) (fun k hk => ?_) hb
   | refine rZ l 5 (by decide) (fun k hk => ?_) hb
   | refine rZ l 6 (by decide) (fun k hk => ?_) hb
   | refine rZ l 7 (by decide) (fun k hk => ?_) hb
   | refine rZ l 8 (by decide) (fun k hk => ?_) hb
   | refine rZ l 9 (by decide) (fun k hk => ?_) hb
   | refine rZ l 10 (by decide) (fun k hk => ?_) hb
   | refine rZ l 11 (by decide) (fun k hk => ?_) hb
   | refine rZ l 12 (by decide) (fun k hk => ?_) hb
  rcases (show k=0∨k=1∨k=2∨k=3∨k=4∨k=5∨k=6∨k=7∨k=8∨k=9∨k=10∨k=11 by omega) with rfl | rfl | rfl | rfl | rfl | rfl | rfl | rfl | rfl | rfl | rfl | rfl
  all_goals first | omega | exact h2' rfl 8 (by decide) (by decide) rfl | exact h2' rfl 10 (by decide) (by decide) rfl | exact h2' rfl 12 (by decide) (by decide) rfl | exact hp' 1 (by decide) (by decide) rfl | exact hp' 2 (by decide) (by decide) rfl | exact hp' 3 (by decide) (by decide) rfl | exact hp' 4 (by decide) (by decide) rfl | exact hp' 5 (by decide) (by decide) rfl | exact hp' 6 (by decide) (by decide) rfl | exact hp' 7 (by decide) (by decide) rfl | exact hp' 8 (by decide) (by decide) rfl | exact hp' 9 (by decide) (by decide) rfl | exact hp' 10 (by decide) (by decide) rfl | exact hp' 11 (by decide) (by decide) rfl | exact hp' 12 (by decide) (by decide) rfl
theorem D9 {b:UInt8} {r:List UInt8} (h1:∀ x,1≤x→x≤13→¬ opAt (b::r) 1 x) (h2:∀ x,1≤x→x≤13→¬ opAt (b::r) 2 x):opS (b::r)=if b=40 then some (9,0,1) else if b=41 then some (10,0,1) else if b=44 then some (11,0,1) else none:=by
 apply qC
 have key:∀ x:Int,1≤x→x≤13→¬ pre (fA x) (b::r):=by
  intro x a c d
  rcases (show (fA x).length=1∨(fA x).length=2 by
   rcases (show x=1∨x=2∨x=3∨x=4∨x=5∨x=6∨x=7∨x=8∨x=9∨x=10∨x=11∨x=12∨x=13 by omega) with rfl | rfl | rfl | rfl | rfl | rfl | rfl | rfl | rfl | rfl | rfl | rfl | rfl <;> decide) with e | e
  ·exact h1 x a c ⟨e,AL.2 d⟩
  exact h2 x a c ⟨e,AL.2 d⟩
 intro k hk
 rcases (show k=0∨k=1∨k=2∨k=3∨k=4∨k=5∨k=6∨k=7∨k=8∨k=9∨k=10∨k=11∨k=12 by omega) with rfl | rfl | rfl | rfl | rfl | rfl | rfl | rfl | rfl | rfl | rfl | rfl | rfl
 ·exact key 8 (by decide) (by decide)
 ·exact key 10 (by decide) (by decide)
 ·exact key 12 (by decide) (by decide)
 ·exact key 1 (by decide) (by decide)
 ·exact key 2 (by decide) (by decide)
 ·exact key 3 (by decide) (by decide)
 ·exact key 4 (by decide) (by decide)
 ·exact key 5 (by decide) (by decide)
 ·exact key 6 (by decide) (by decide)
 ·exact key 7 (by decide) (by decide)
 ·exact key 9 (by decide) (by decide)
 ·exact key 11 (by decide) (by decide)
 exact key 13 (by decide) (by decide)
end
section
open Go.RowKit Go.Proofs.Tryz
theorem CK (c:Nat) (h1:1≤c) (h5:c≤5):i1 (c:Int)=aB[c]?.getD []:=by
 unfold i1
 rw [if_pos (by omega),Int.toNat_natCast]
theorem Ch (o:Int):(fA o).length≤2:=by
 by_cases h:1≤o∧o≤13
 ·rcases (show o=1∨o=2∨o=3∨o=4∨o=5∨o=6∨o=7∨o=8∨o=9∨o=10∨o=11∨o=12∨o=13 by omega) with rfl | rfl | rfl | rfl | rfl | rfl | rfl | rfl | rfl | rfl | rfl | rfl | rfl <;> decide
 have e:fA o=[]:=by unfold fA; rw [if_neg (by omega),if_neg (by omega),if_neg (by omega),if_neg (by omega),if_neg (by omega),if_neg (by omega),if_neg (by omega),if_neg (by omega),if_neg (by omega),if_neg (by omega),if_neg (by omega),if_neg (by omega),if_neg (by omega)]
 rw [e]
 decide
theorem Af {a b:Option (Tk×Nat)} (h:a=none):orR a b=b:=by rw [h]; rfl
theorem Du {a b:Option (Tk×Nat)} {x:Tk×Nat} (h:a=some x):orR a b=some x:=by rw [h]; rfl
theorem CR (s:ByteArray) (i:Nat) (w:World) (hs:s.size≤256) (hi:i<s.size) :
  Calls prog 226 #[.string s,.int .i64 (i:Int)] w fun e w'=>Ak i (orR (jw (aK s i) i) (dP (aK s i) i)) e∧Below w.heap.size w w':=by
 have H1:=Lib.hid (Ok.start w)
 go_enter func226,ntmps226
 go_wp2_with fail
 have H2:=Lib.hid (H1.out.var w.heap.size 97 [.int .u8 0,.int .i64 0,.string ⟨#[]⟩,.int .i64 0,.int .i64 0,.int .i64 0,.int .i64 0,.int .i64 0] rfl)
 clear H1
 generalize (w.alloc (.cells #[.int .u8 0,.int .i64 0,.string ⟨#[]⟩,.int .i64 0,.int .i64 0,.int .i64 0,.int .i64 0,.int .i64 0] 97))=W3 at H2 ⊢
 go_loopw [7] (fun cv wr=>∃ c:Nat,1≤c∧c≤6∧cv=.int .i64 (c:Int)∧ao (∀ d:Nat,1≤d→d<c→zY (aK s i) (aB[d]?.getD [])=false)∧Hid (Ok w [af (w.heap.size) 97 [.int .u8 0,.int .i64 0,.string ⟨#[]⟩,.int .i64 0,.int .i64 0,.int .i64 0,.int .i64 0,.int .i64 0]] wr)) (fun cv _=>6 - (intOf cv).toNat)
 case atStart=>exact ⟨1,by omega,by omega,rfl,keep (fun d _ _=>by omega),H2⟩
 case round =>
  clear H2
  obtain ⟨c,hc1,hc6,rfl,HP,HR⟩:=hrel
  obtain ⟨wp,rfl⟩:∃ wp:World,wp=wr:=⟨_,rfl⟩
  by_cases hlt:(c:Int)≤5
  ·have hc5:c≤5:=by omega
   have HND:=keep (CK c hc1 hc5)
   obtain ⟨X,hX⟩:∃ X:ByteArray,X=⟨(aB[c]?.getD []).toArray⟩:=⟨_,rfl⟩
   have HX:=keep (show X.data.toList=aB[c]?.getD [] by rw [hX])
   have hxs:X.size≤7:=by rw [hX]; exact (rH c hc1 hc5).2
   have HXE:=keep hX
   clear hX
   go_wp2_with fail
   refine cM (qx (c:Int) _) HR fun w4 H6=>?_
   rw [HND.out,← HXE.out]
   clear HR
   go_wp2_with fail
   refine cM (AA s X i _ hs (by omega) (by omega)) H6 fun w7 H9=>?_
   clear H6
   obtain ⟨b,hb⟩:=ex (zY (aK s i) X.data.toList)
   rw [hb]
   rw [HX.out] at hb
   have HB:=keep hb
   clear hb
   cases b
   ·go_wp2_with fail
    go_roundw
    case rel=>exact ⟨c+1,by omega,by omega,by go_num,keep (fun d h1 h2=>by
     rcases Nat.lt_succ_iff_lt_or_eq.1 h2 with h | rfl
     ·exact HP.out d h1 h
     exact HB.out),H9⟩
    case measure=>simp [intOf]; omega
   have HRES:=keep (show orR (jw (aK s i) i) (dP (aK s i) i)=some (⟨4,(c:Int),[],R4.zero,i⟩,X.size) from Du (by unfold jw; rw [Dg c hc1 hc5 HP.out HB.out,← HX.out,Array.length_toList]; rfl))
   have F10:=sE H9
   go_wp2_with fail
   exact e8_ [.int .i64 ((i:Int)+(X.size:Int)),.bool true] H9 (fun W h=>by simp [results,results226,go_sem,h]) (fun h=>⟨by rw [show (i:Int)+(X.size:Int)=((i+X.size:Nat):Int) by omega]; exact f5 (i+X.size) HRES.out rfl,h⟩)
  have HERR:=keep (show jw (aK s i) i=none by unfold jw; rw [Df (fun d h1 h2=>HP.out d h1 (by omega))]; rfl)
  go_wp2_with fail
  clear HP hlt hc1 hc6
  go_loopw [9] (fun nv wr=>∃ n:Nat,n≤2∧nv=.int .i64 (n:Int)∧ao (∀ m:Nat,n<m→m≤2→∀ x:Int,1≤x→x≤13→¬ opAt (aK s i) m x)∧Hid (Ok w [af (w.heap.size) 97 [.int .u8 0,.int .i64 0,.string ⟨#[]⟩,.int .i64 0,.int .i64 0,.int .i64 0,.int .i64 0,.int .i64 0]] wr)) (fun nv _=>(intOf nv).toNat)
  case atStart=>exact ⟨2,Nat.le_refl _,rfl,keep (fun m h1 h2=>by omega),HR⟩
  case round =>
   clear HR
   obtain ⟨n,hn2,rfl,HM,HR⟩:=hrel
   obtain ⟨wp,rfl⟩:∃ wp:World,wp=wr:=⟨_,rfl⟩
   by_cases hn0:(n:Int)>0
   ·have hn1:0<n:=by omega
    have hn3:decide (0<n)=true:=decide_eq_true hn1
    have hn4:decide ((n:Int)>0)=true:=decide_eq_true hn0
    go_wp2_with fail
    obtain ⟨wq,rfl⟩:∃ wq:World,wq=wp:=⟨_,rfl⟩
    go_loopw [10] (fun ov wr=>∃ o:Nat,1≤o∧o≤14∧ov=.int .i64 (o:Int)∧ao (∀ x:Int,1≤x→x<(o:Int)→¬ opAt (aK s i) n x)∧Hid (Ok w [af (w.heap.size) 97 [.int .u8 0,.int .i64 0,.string ⟨#[]⟩,.int .i64 0,.int .i64 0,.int .i64 0,.int .i64 0,.int .i64 0]] wr)) (fun ov _=>14 - (intOf ov).toNat)
    case atStart=>exact ⟨1,by omega,by omega,rfl,keep (fun x h1 h2=>by omega),HR⟩
    case round =>
     clear HR
     obtain ⟨o,ho1,ho14,rfl,HO,HR⟩:=hrel
     obtain ⟨wp,rfl⟩:∃ wp:World,wp=wr:=⟨_,rfl⟩
     by_cases hlt:(o:Int)≤13
     ·obtain ⟨X,hX⟩:∃ X:ByteArray,X=⟨(fA (o:Int)).toArray⟩:=⟨_,rfl⟩
      have hXd:X.data.toList=fA (o:Int):=by rw [hX]
      have hxs:X.size≤2:=by rw [hX]; exact Ch _
      have HXL:=keep (show (fA (o:Int)).length=X.size by rw [← hXd,Array.length_toList]; rfl)
      have HX:=keep hXd
      have HXE:=keep hX
      clear hX hXd
      go_wp2_with fail
      refine (AW (o:Int) _).mono ?_
      rintro e w9 ⟨rfl,hw9⟩
      obtain rfl:wp=w9:=hw9.symm
      rw [← HXE.out]
      by_cases hln:(X.size:Int)=(n:Int)
      ·have hlnb:((X.size:Int) == (n:Int))=true:=by simpa using hln
       have HLN:=keep (show X.size=n by omega)
       clear hln
       go_wp2_with fail
       refine cM (AA s X i _ hs (by omega) (by omega)) HR fun w4 H6=>?_
       clear HR
       obtain ⟨b,hb⟩:=ex (zY (aK s i) X.data.toList)
       rw [hb]
       rw [HX.out] at hb
       have HB:=keep hb
       clear hb
       cases b
       ·go_wp2_with fail
        go_roundw
        case rel=>exact ⟨o+1,by omega,by omega,by go_num,keep (fun x h1 h2=>by
         by_cases h:x<(o:Int)
         ·exact HO.out x h1 h
         obtain rfl:x=(o:Int):=by omega
         rintro ⟨-,h9⟩
         rw [HB.out] at h9
         cases h9),H6⟩
        case measure=>simp [intOf]; omega
       have HRES:=keep (show orR (jw (aK s i) i) (dP (aK s i) i)=some (⟨8,(o:Int),[],R4.zero,i⟩,n) from (Af HERR.out).trans (by
        unfold dP
        rw [Ev (n:=n) (o:=(o:Int)) (by omega) (by omega) (by omega) ⟨HXL.out.trans HLN.out,HB.out⟩ HO.out (fun e x h1 h2=>HM.out 2 (by omega) (by omega) x h1 h2)]
        rfl))
       have hin:(i:Int)+(n:Int)≤300:=by omega
       have F7:=sE H6
       go_wp2_with fail
       exact e8_ [.int .i64 ((i:Int)+(n:Int)),.bool true] H6 (fun W h=>by simp [results,results226,go_sem,h]) (fun h=>⟨by rw [show (i:Int)+(n:Int)=((i+n:Nat):Int) by omega]; exact f5 (i+n) HRES.out rfl,h⟩)
      have hlnb:((X.size:Int) == (n:Int))=false:=by simpa using hln
      have HLN:=keep (show X.size≠n by omega)
      clear hln
      go_wp2_with fail
      go_roundw
      case rel=>exact ⟨o+1,by omega,by omega,by go_num,keep (fun x h1 h2=>by
       by_cases h:x<(o:Int)
       ·exact HO.out x h1 h
       obtain rfl:x=(o:Int):=by omega
       rintro ⟨h9,-⟩
       exact HLN.out (HXL.out.symm.trans h9)),HR⟩
      case measure=>simp [intOf]; omega
     go_wp2_with fail
     go_roundw
     case rel=>exact ⟨n - 1,by omega,by rw [show ((n - 1:Nat):Int)=(n:Int) - 1 by omega],keep (fun m h1 h2 x h3 h4=>by
      by_cases h:n<m
      ·exact HM.out m h h2 x h3 h4
      obtain rfl:m=n:=by omega
      exact HO.out x h3 (by omega)),HR⟩
     case measure=>simp [intOf]; omega
   obtain rfl:n=0:=by omega
   have hmiss:=D9 (b:=s[i]'hi) (r:=s.data.toList.drop (i + 1)) (by rw [← eR hi]; exact HM.out 1 (by omega) (by omega)) (by rw [← eR hi]; exact HM.out 2 (by omega) (by omega))
   rw [← eR hi] at hmiss
   have HSG:=keep (show orR (jw (aK s i) i) (dP (aK s i) i)=(opS (aK s i)).map fun x=>(⟨x.1,x.2.1,[],R4.zero,i⟩,x.2.2) from Af HERR.out)
   obtain ⟨b,hb⟩:=ex (s[i]'hi)
   rw [hb] at hmiss
   have HMS:=keep hmiss
   have hix : ∀ h,((s[i]'h).toNat : Int) = (b.toNat : Int):=fun _ => by rw [hb]
   clear hmiss HM hb
   by_cases e40:b=40
   ·subst e40
    have HRES:=keep (show orR (jw (aK s i) i) (dP (aK s i) i)=some (⟨9,0,[],R4.zero,i⟩,1) by rw [HSG.out,HMS.out]; rfl)
    clear HMS HSG
    have F4:=sE HR
    go_wp2_with fail
    exact e8_ [.int .i64 ((i:Int)+1),.bool true] HR (fun W h=>by simp [results,results226,go_sem,h]) (fun h=>⟨by rw [show (i:Int)+1=((i+1:Nat):Int) by omega]; exact f5 (i+1) HRES.out rfl,h⟩)
   have hb40:((b.toNat:Int) == 40)=false:=by simpa using gL (k:=40) e40
   have E40:=keep e40
   clear e40
   by_cases e41:b=41
   ·subst e41
    have HRES:=keep (show orR (jw (aK s i) i) (dP (aK s i) i)=some (⟨10,0,[],R4.zero,i⟩,1) by rw [HSG.out,HMS.out]; rfl)
    clear HMS HSG
    have F4:=sE HR
    go_wp2_with fail
    exact e8_ [.int .i64 ((i:Int)+1),.bool true] HR (fun W h=>by simp [results,results226,go_sem,h]) (fun h=>⟨by rw [show (i:Int)+1=((i+1:Nat):Int) by omega]; exact f5 (i+1) HRES.out rfl,h⟩)
   have hb41:((b.toNat:Int) == 41)=false:=by simpa using gL (k:=41) e41
   have E41:=keep e41
   clear e41
   by_cases e44:b=44
   ·subst e44
    have HRES:=keep (show orR (jw (aK s i) i) (dP (aK s i) i)=some (⟨11,0,[],R4.zero,i⟩,1) by rw [HSG.out,HMS.out]; rfl)
    clear HMS HSG
    have F4:=sE HR
    go_wp2_with fail
    exact e8_ [.int .i64 ((i:Int)+1),.bool true] HR (fun W h=>by simp [results,results226,go_sem,h]) (fun h=>⟨by rw [show (i:Int)+1=((i+1:Nat):Int) by omega]; exact f5 (i+1) HRES.out rfl,h⟩)
   have hb44:((b.toNat:Int) == 44)=false:=by simpa using gL (k:=44) e44
   have E44:=keep e44
   clear e44
   have HRES:=keep (show orR (jw (aK s i) i) (dP (aK s i) i)=none by rw [HSG.out,HMS.out,if_neg E40.out,if_neg E41.out,if_neg E44.out]; rfl)
   clear HMS HSG
   have F4:=sE HR
   go_wp2_with fail
   exact e8_ [.int .i64 0,.bool false] HR (fun W h=>by simp [results,results226,go_sem,h]) (fun h=>⟨zM Tk.zero HRES.out,h⟩)
theorem Ex {s : ByteArray} {z : Nat} (h : z < s.size) : bk (· == 34) s z = decide (((s[z]'h).toNat : Int) = 34):=by
 rw [zD h,Bool.eq_iff_iff,beq_iff_eq,decide_eq_true_eq,← UInt8.toNat_inj]
 show _=34↔_
 omega
theorem BU {s:ByteArray} {i:Nat} (h:bk ah s i=true):ee i (aK s i)=ga (aK s i) i:=by
 have hi:=zK h
 rw [zD hi] at h
 rw [eR hi,cZ,if_pos h]
 rfl
theorem BV {s : ByteArray} {i : Nat} (hi : i < s.size) (h : s[i]'hi = 34) : ee i (aK s i) = gb (aK s i) i:=by
 rw [eR hi,cZ,h,if_neg (by decide),if_pos rfl]
 rfl
theorem Bb {s:ByteArray} {i:Nat} (hd:bk ah s i=false) (h4:bk (· == 34) s i=false) (h:bk ar s i=true):ee i (aK s i)=bX (aK s i) i:=by
 have hi:=zK h
 rw [zD hi] at h hd h4
 rw [eR hi,cZ,if_neg (by rw [hd]; decide),if_neg (by simpa using h4),if_pos h]
 unfold bX
 rw [if_pos (show (s[i]'hi :: s.data.toList.drop (i + 1)).head?.any ar = true from h)]
theorem Ba {s:ByteArray} {i:Nat} (hi:i<s.size) (hd:bk ah s i=false) (h4:bk (· == 34) s i=false) (h:bk ar s i=false):ee i (aK s i)=orR (jw (aK s i) i) (dP (aK s i) i):=by
 rw [zD hi] at h hd h4
 rw [eR hi,dF]
 have e0 : ga (s[i]'hi :: s.data.toList.drop (i + 1)) i = none:=o7 (by rw [List.takeWhile_cons,if_neg (by rw [hd]; decide)])
 have e1 : gb (s[i]'hi :: s.data.toList.drop (i + 1)) i = none:=by unfold gb; rw [if_neg (by simpa using h4)]
 have e2 : bX (s[i]'hi :: s.data.toList.drop (i + 1)) i = none:=sG h
 rw [Af e0,Af e1,Af e2]
theorem Cl (s:ByteArray) (i:Nat) (w:World) (hs:s.size≤256) (hi:i<s.size) :
  Calls prog 207 #[.string s,.int .i64 (i:Int)] w fun e w'=>Ak i (ee i (aK s i)) e∧Below w.heap.size w w':=by
 cases hd:bk ah s i
 ·have HD:=keep hd
  clear hd
  cases h4:bk (· == 34) s i
  ·have H4:=keep h4
   have hq : (((s[i]'hi).toNat : Int) == 34) = false:=by have h9:=h4; rw [Ex hi] at h9; simpa using h9
   clear h4
   cases hl:bk ar s i
   ·have HL:=keep hl
    clear hl
    have H1:=Lib.hid (Ok.start w)
    go_enter func207,ntmps207
    go_wp2_with fail
    have H2:=Lib.hid (H1.out.var w.heap.size 97 [.int .u8 0,.int .i64 0,.string ⟨#[]⟩,.int .i64 0,.int .i64 0,.int .i64 0,.int .i64 0,.int .i64 0] rfl)
    clear H1
    generalize (w.alloc (.cells #[.int .u8 0,.int .i64 0,.string ⟨#[]⟩,.int .i64 0,.int .i64 0,.int .i64 0,.int .i64 0,.int .i64 0] 97))=W3 at H2 ⊢
    refine (zt s i _).mono ?_
    rintro e w1 ⟨rfl,hw1⟩
    obtain rfl:W3=w1:=hw1.symm
    rw [HD.out]
    go_wp2_with fail
    refine (zx s i _).mono ?_
    rintro e w2 ⟨rfl,hw2⟩
    obtain rfl:W3=w2:=hw2.symm
    rw [HL.out]
    go_wp2_with fail
    refine (CR s i _ hs hi).mono ?_
    rintro e w5 ⟨⟨⟨tk,tn,tt,⟨t1,t2,t3,t4⟩,ta⟩,n,rfl,hres⟩,hb5⟩
    have H5:=Lib.hid (H2.out.below hb5)
    clear hb5 H2
    have HRES:=keep hres
    clear hres
    simp only [tkA]
    have F4:=sE H5
    go_wp2_with fail
    exact e8_ [.int .i64 (n:Int),.bool (orR (jw (aK s i) i) (dP (aK s i) i)).isSome] H5 (fun W h=>by simp [results,results207,go_sem,h]) (fun h=>⟨⟨⟨tk,tn,tt,⟨t1,t2,t3,t4⟩,ta⟩,n,by rw [Ba hi HD.out H4.out HL.out]; rfl,by rw [Ba hi HD.out H4.out HL.out]; exact HRES.out⟩,h⟩)
   have HL:=keep hl
   clear hl
   have H1:=Lib.hid (Ok.start w)
   go_enter func207,ntmps207
   go_wp2_with fail
   have H2:=Lib.hid (H1.out.var w.heap.size 97 [.int .u8 0,.int .i64 0,.string ⟨#[]⟩,.int .i64 0,.int .i64 0,.int .i64 0,.int .i64 0,.int .i64 0] rfl)
   clear H1
   generalize (w.alloc (.cells #[.int .u8 0,.int .i64 0,.string ⟨#[]⟩,.int .i64 0,.int .i64 0,.int .i64 0,.int .i64 0,.int .i64 0] 97))=W3 at H2 ⊢
   refine (zt s i _).mono ?_
   rintro e w1 ⟨rfl,hw1⟩
   obtain rfl:W3=w1:=hw1.symm
   rw [HD.out]
   go_wp2_with fail
   refine (zx s i _).mono ?_
   rintro e w2 ⟨rfl,hw2⟩
   obtain rfl:W3=w2:=hw2.symm
   rw [HL.out]
   go_wp2_with fail
   refine (CU s i _ hs HL.out).mono ?_
   rintro e w5 ⟨⟨⟨tk,tn,tt,⟨t1,t2,t3,t4⟩,ta⟩,n,rfl,hres⟩,hb5⟩
   have H5:=Lib.hid (H2.out.below hb5)
   clear hb5 H2
   have HRES:=keep hres
   clear hres
   simp only [tkA]
   have F4:=sE H5
   go_wp2_with fail
   exact e8_ [.int .i64 (n:Int),.bool (bX (aK s i) i).isSome] H5 (fun W h=>by simp [results,results207,go_sem,h]) (fun h=>⟨⟨⟨tk,tn,tt,⟨t1,t2,t3,t4⟩,ta⟩,n,by rw [Bb HD.out H4.out HL.out]; rfl,by rw [Bb HD.out H4.out HL.out]; exact HRES.out⟩,h⟩)
  have h34 : s[i]'hi = 34:=by rw [zD hi] at h4; simpa using h4
  have H34:=keep h34
  have hq : (((s[i]'hi).toNat : Int) == 34) = true:=by rw [h34]; rfl
  clear h4 h34
  have H1:=Lib.hid (Ok.start w)
  go_enter func207,ntmps207
  go_wp2_with fail
  have H2:=Lib.hid (H1.out.var w.heap.size 97 [.int .u8 0,.int .i64 0,.string ⟨#[]⟩,.int .i64 0,.int .i64 0,.int .i64 0,.int .i64 0,.int .i64 0] rfl)
  clear H1
  generalize (w.alloc (.cells #[.int .u8 0,.int .i64 0,.string ⟨#[]⟩,.int .i64 0,.int .i64 0,.int .i64 0,.int .i64 0,.int .i64 0] 97))=W3 at H2 ⊢
  refine (zt s i _).mono ?_
  rintro e w1 ⟨rfl,hw1⟩
  obtain rfl:W3=w1:=hw1.symm
  rw [HD.out]
  go_wp2_with fail
  refine (CS s i _ hs hi H34.out).mono ?_
  rintro e w5 ⟨⟨⟨tk,tn,tt,⟨t1,t2,t3,t4⟩,ta⟩,n,rfl,hres⟩,hb5⟩
  have H5:=Lib.hid (H2.out.below hb5)
  clear hb5 H2
  have HRES:=keep hres
  clear hres
  simp only [tkA]
  have F4:=sE H5
  go_wp2_with fail
  exact e8_ [.int .i64 (n:Int),.bool (gb (aK s i) i).isSome] H5 (fun W h=>by simp [results,results207,go_sem,h]) (fun h=>⟨⟨⟨tk,tn,tt,⟨t1,t2,t3,t4⟩,ta⟩,n,by rw [BV hi H34.out]; rfl,by rw [BV hi H34.out]; exact HRES.out⟩,h⟩)
 have HD:=keep hd
 clear hd
 have H1:=Lib.hid (Ok.start w)
 go_enter func207,ntmps207
 go_wp2_with fail
 have H2:=Lib.hid (H1.out.var w.heap.size 97 [.int .u8 0,.int .i64 0,.string ⟨#[]⟩,.int .i64 0,.int .i64 0,.int .i64 0,.int .i64 0,.int .i64 0] rfl)
 clear H1
 generalize (w.alloc (.cells #[.int .u8 0,.int .i64 0,.string ⟨#[]⟩,.int .i64 0,.int .i64 0,.int .i64 0,.int .i64 0,.int .i64 0] 97))=W3 at H2 ⊢
 refine (zt s i _).mono ?_
 rintro e w1 ⟨rfl,hw1⟩
 obtain rfl:W3=w1:=hw1.symm
 rw [HD.out]
 go_wp2_with fail
 refine (BR s i _ hs HD.out).mono ?_
 rintro e w5 ⟨⟨⟨tk,tn,tt,⟨t1,t2,t3,t4⟩,ta⟩,n,rfl,hres⟩,hb5⟩
 have H5:=Lib.hid (H2.out.below hb5)
 clear hb5 H2
 have HRES:=keep hres
 clear hres
 simp only [tkA]
 have F4:=sE H5
 go_wp2_with fail
 exact e8_ [.int .i64 (n:Int),.bool (ga (aK s i) i).isSome] H5 (fun W h=>by simp [results,results207,go_sem,h]) (fun h=>⟨⟨⟨tk,tn,tt,⟨t1,t2,t3,t4⟩,ta⟩,n,by rw [BU HD.out]; rfl,by rw [BU HD.out]; exact HRES.out⟩,h⟩)
end
section
open Go.RowKit Go.Proofs.Tryz
theorem BP (s:ByteArray) (w:World) (hs:s.size≤4611686018427387904) :
  Calls prog 181 #[.string s] w (qR s.data.toList w):=by
 have HSL:=keep (show s.data.toList.length=s.size by rw [Array.length_toList]; rfl)
 by_cases hlong:(s.size:Int)>256
 ·have HL:=keep (mW (L:=s.data.toList) (by rw [HSL.out]; omega))
  go_enter func181,ntmps181
  go_wp2_with fail
  exact bodyPost_ret (v:=.tuple #[.slice none 0 0,.int .i64 0,.int .i64 5]) (by simp [results,results181,go_sem]) rfl (eV HL.out (Below.refl _ _))
 have h256:s.size≤256:=by omega
 obtain ⟨i0,hi,hz0,hz1,hz2⟩:=info_parts rB
 go_enter func181,ntmps181
 go_wp2_with fail
 clear hlong hs
 go_loopw [5] (fun iv wr=>∃ k:Nat,k≤s.size∧iv=.int .i64 (k:Int)∧ao (∀ b∈s.data.toList.take k,aj b=true)∧wr=w) (fun iv _=>s.size - (intOf iv).toNat)
 case atStart=>exact ⟨0,Nat.zero_le _,rfl,keep (by simp),rfl⟩
 case round =>
  obtain ⟨k,hk,rfl,HP,hwr⟩:=hrel
  obtain rfl:w=wr:=hwr.symm
  by_cases hlt:(k:Int)<s.size
  ·have hks:k<s.size:=by omega
   rcases (show (((s[k]'hks).toNat : Int) < 32) ∨ (32 ≤ ((s[k]'hks).toNat : Int) ∧ 126 < ((s[k]'hks).toNat : Int)) ∨ (32 ≤ ((s[k]'hks).toNat : Int) ∧ ((s[k]'hks).toNat : Int) ≤ 126) by omega) with h1 | ⟨h1,h2⟩ | ⟨h1,h2⟩
   ·have HB:=keep (iX (k:=k) (by rw [HSL.out]; exact h256) (by rw [HSL.out]; exact hks) HP.out (show aj (s[k]'hks) = false by unfold aj; simp; omega))
    go_wp2_with fail
    exact bodyPost_ret (v:=.tuple #[.slice none 0 0,.int .i64 (k:Int),.int .i64 4]) (by simp [results,results181,go_sem]) rfl (eV HB.out (Below.refl _ _))
   ·have HB:=keep (iX (k:=k) (by rw [HSL.out]; exact h256) (by rw [HSL.out]; exact hks) HP.out (show aj (s[k]'hks) = false by unfold aj; simp; omega))
    go_wp2_with fail
    exact bodyPost_ret (v:=.tuple #[.slice none 0 0,.int .i64 (k:Int),.int .i64 4]) (by simp [results,results181,go_sem]) rfl (eV HB.out (Below.refl _ _))
   have HB:=keep (show ∀ b∈s.data.toList.take (k+1),aj b=true by
    intro b hb
    rw [List.take_succ_eq_append_getElem (by rw [HSL.out]; exact hks)] at hb
    rcases List.mem_append.1 hb with hb | hb
    ·exact HP.out b hb
    simp at hb
    subst hb
    show aj (s[k]'hks) = true
    unfold aj
    simp; omega)
   go_wp2_with fail
   go_roundw
   case rel=>exact ⟨k+1,by omega,by go_num,HB,by first | trivial | rfl⟩
   case measure=>simp [intOf]; omega
  obtain rfl:k=s.size:=by omega
  have hpl:∀ b∈s.data.toList,aj b=true:=fun b hb=>HP.out b (by rw [← HSL.out,List.take_length]; exact hb)
  have HTP:=keep (lO (L:=s.data.toList) (by rw [HSL.out]; exact h256) hpl)
  clear HP hpl hk
  go_wp2_with fail
  go_loopg [6,7] s.size (fun gf lv iv wr=>∃ (k:Nat) (l:List Tk),k≤s.size∧gf=s.size - k∧iv=.int .i64 (k:Int)∧l.length≤k∧ao (Tks s.data.toList k l)∧Hid (an w [] 97 8 lv l.length (eU l) wr))
  case atStart=>exact ⟨0,[],Nat.zero_le _,by omega,rfl,Nat.zero_le _,keep (Tks.start _),Lib.hid (an.start (Ok.start w) _ _)⟩
  case round =>
   obtain ⟨k,l,hk,hgk,rfl,hlk,HT,HR⟩:=hrel
   obtain ⟨wp,rfl⟩:∃ wp:World,wp=wr:=⟨_,rfl⟩
   subst hgk
   obtain ⟨lv,rfl⟩:∃ lv:Value,lv=u6:=⟨_,rfl⟩
   by_cases hlt:(k:Int)<s.size
   ·have hks:k<s.size:=by omega
    have hkl:k<s.data.toList.length:=by rw [HSL.out]; exact hks
    have HKL:=keep hkl
    clear hkl
    by_cases h32 : ((s[k]'hks).toNat : Int) = 32
    ·have hb32 : (((s[k]'hks).toNat : Int) == 32) = true:=by rw [h32]; rfl
     have HB:=keep (show s.data.toList[k]'HKL.out = 32 by show s[k]'hks = 32; rw [← UInt8.toNat_inj]; show _ = 32; omega)
     clear h32
     go_wp2_with fail
     go_roundg (s.size - (k+1))
     case rel=>exact ⟨k+1,l,by omega,rfl,by go_num,by omega,keep (Tks.blank HT.out HKL.out HB.out),HR⟩
     case measure=>omega
    have hb32 : (((s[k]'hks).toNat : Int) == 32) = false:=by simpa using h32
    have HB:=keep (show s.data.toList[k]'HKL.out ≠ 32 by show s[k]'hks ≠ 32; intro e; rw [e] at h32; exact h32 rfl)
    clear h32
    go_wp2_with fail
    clear hb32
    refine (Cl s k _ h256 hks).mono ?_
    rintro e w5 ⟨⟨⟨tk,tn,tt,⟨t1,t2,t3,t4⟩,ta⟩,n,rfl,hres⟩,hb5⟩
    have HR5:=Lib.hid (HR.out.below hb5)
    clear hb5 HR
    simp only [tkA]
    obtain ⟨x,hx⟩:=ex (ee k (aK s k))
    rw [hx] at hres ⊢
    cases x with
    | none =>
     clear hres
     have hbad:=HTP.out
     rw [Tks.bad HT.out HKL.out HB.out hx] at hbad
     have HBAD:=keep (show aM s.data.toList=([],(k:Int),4) from hbad)
     clear hbad hx
     simp only [Option.isSome_none]
     go_wp2_with fail
     exact bodyPost_ret (v:=.tuple #[.slice none 0 0,.int .i64 (k:Int),.int .i64 4]) (by simp [results,results181,go_sem]) rfl (eV HBAD.out (HR5.out.ok.bel.alloc HR5.out.ok.bel.size _))
    | some q =>
     obtain ⟨t,m⟩:=q
     obtain ⟨rfl,rfl⟩:=hres _ rfl
     clear hres
     have htk:ee k (s.data.toList.drop k)=some (⟨tk,tn,tt,⟨t1,t2,t3,t4⟩,ta⟩,m):=hx
     have hle:=fI htk
     have HTK:=keep (Tks.tok HT.out HKL.out HB.out htk)
     obtain ⟨hn1,hn2⟩:=hle
     rw [List.length_drop,HSL.out] at hn2
     have hn4:k+m≤s.size:=by omega
     have HTR:=keep (cY l ⟨tk,tn,tt,⟨t1,t2,t3,t4⟩,ta⟩)
     clear htk hn2 hx
     simp only [Option.isSome_some]
     go_wp2_with (at_builtin; refine wpList_append_lies _ rfl _ _ _ rfl w.heap.size 97 i0 _ 8 72 underlying88 hi hz0 hz1 hz2 rfl (by omega) _ _ _ rfl ((HR5.out.own.alloc _).alloc _) ⟨w5.heap.size+1,0,none⟩ 1 1 (bN ⟨tk,tn,tt,⟨t1,t2,t3,t4⟩,ta⟩) rfl rfl (World.news_of_block (cs:=(bN ⟨tk,tn,tt,⟨t1,t2,t3,t4⟩,ta⟩).toArray) (t:=97) (fr:=(0,0)) (by rw [show w5.heap.size+1=(w5.alloc (.cells (bN ⟨tk,tn,tt,⟨t1,t2,t3,t4⟩,ta⟩).toArray 97)).heap.size by simp]; exact heap_alloc_new _ _)) (by intro u hu; simp [bN] at hu; rcases hu with rfl | rfl | rfl | rfl | rfl | rfl | rfl | rfl <;> rfl) (by omega) (by unfold maxLen; omega) (by omega) (by have:=HR5.out.ok.bel.size; simp; omega) _ rfl ?_; intro g cap w3 hown3 hgrow3 hat3 hlt3)
     go_roundg (s.size - (k+m))
     case rel=>exact ⟨k+m,l++[⟨tk,tn,tt,⟨t1,t2,t3,t4⟩,ta⟩],hn4,rfl,by go_num,by simp; omega,HTK,by rw [HTR.out,List.length_append]; exact Lib.hid (((HR5.out.alloc_obj _).alloc_obj _).appended hown3 hgrow3 hat3)⟩
     case measure=>omega
   obtain rfl:k=s.size:=by omega
   have hok:=HTP.out
   have hT:=HT.out
   rw [← HSL.out] at hT
   rw [Tks.done hT] at hok
   have HOK:=keep (show aM s.data.toList=(l,0,0) from hok)
   clear hok hT
   go_wp2_with fail
   exact bodyPost_ret (v:=.tuple #[lv,.int .i64 0,.int .i64 0]) (by simp [results,results181,go_sem]) rfl ⟨lv,by rw [HOK.out],by rw [HOK.out]; exact HR.out.own,HR.out.ok.bel⟩
end
