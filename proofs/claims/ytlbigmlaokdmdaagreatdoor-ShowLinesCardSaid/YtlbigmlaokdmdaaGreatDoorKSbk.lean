/- ShowBack, ShowDiffers: the walks. ShowBack, ShowDiffers: the walk. ShowLines: the walk. ShowLines: the walk. -/
import Derived.Test.YtlbigmlaokdmdaaGreatDoorKEqT
import Derived.Test.YtlbigmlaokdmdaaGreatDoorKFew
import Derived.Test.YtlbigmlaokdmdaaGreatDoorKParP
import Derived.Test.YtlbigmlaokdmdaaGreatDoorKShc
namespace Go.Proofs.YtlbigmlaokdmdaaGreatDoor
open Go.RowKit
theorem form_show {t : List NdA} (h : checkA t = 0) (hn : ∀ a ∈ t,a.vn ≤ 9223372036854775807) (hl : (showT (t.map NdA.nd)).length ≤ 256) : formS (showT (t.map NdA.nd)) = (t.map NdA.nd,0,0):=by
 obtain ⟨he,hk,-⟩:=tchk_of h hn
 obtain ⟨ts,h1,h2⟩:=show_back _ hk.ndc (checkS_of h) hl
 exact form_pk h1 h2 (checkS_of h)
theorem few_sz {t : List NdA} (h : ∀ n ∈ t,NdIn n) : ASz (few t) :=
 ⟨by have:=few_le t; omega,fun a ha => by have:=(few_in h a ha).2; omega,fun a ha => (few_in h a ha).1.num.2⟩
theorem showF_zero {t : List NdA} (h : (showF t).2 = 0) : checkA t = 0 ∧ (showT (t.map NdA.nd)).length ≤ 256:=by
 by_cases hc : checkA t = 0
 ·by_cases hl : 256 < (showT (t.map NdA.nd)).length
  ·rw [showF_long hc hl] at h; exact absurd h (by decide)
  ·exact ⟨hc,by omega⟩
 ·rw [showF_bad hc] at h; exact absurd h hc
theorem data_list (l : List UInt8) : (⟨l.toArray⟩ : ByteArray).data.toList = l:=by simp
set_option maxRecDepth 100000 in
set_option maxHeartbeats 8000000 in
theorem law_ShowBack (t0 : List NdA) (a : Option Addr) (c : Nat) (w : World) (hr : RowsAt w a 11 (t0.map aRow)) (hnc : t0.length ≤ c) (hc : c ≤ maxLen) (hin : ∀ n ∈ t0,NdIn n) (he : WEnv w) :
  Calls Tryz.prog 6 #[.slice a t0.length c] w fun e w' => e = .returned (.bool true) ∧ Below w.heap.size w w':=by
 have HE:=keep he
 have HFW:=keep (few_ t0 a c w hr hnc hc)
 have HSZ:=keep (few_sz hin)
 obtain ⟨n0,hn0⟩ : ∃ n0,t0.length = n0:=⟨_,rfl⟩
 rw [hn0] at HFW ⊢
 generalize few t0 = t at HFW HSZ
 clear hr hnc hc hin he hn0
 go_enter Tryz.func6,Tryz.ntmps6
 go_wp2_with fail
 refine HFW.out.mono ?_
 rintro e w1 ⟨u,rfl,hown,hb⟩
 obtain ⟨a1,c1,rfl,-,-,hrow⟩:=nda_own hown
 have HR:=keep hrow
 have H1:=Lib.hid ((Ok.start w).below hb)
 clear hown hrow hb HFW
 go_wp2_with fail
 refine (show_Formula t a1 c1 w1 HSZ.out ⟨HR.out,HE.out.below H1.out.bel⟩).mono ?_
 rintro e w2 ⟨rfl,hb⟩
 have HR2:=keep (HR.out.below hb)
 have H2:=Lib.hid (H1.out.below hb)
 clear hb H1 HR
 have HCK:=keep (fun w' => tree_CheckA t a1 c1 w')
 have HLEN:=keep HSZ.out.len
 by_cases hck : checkA t = 0
 ·by_cases hl : 256 < (showT (t.map NdA.nd)).length
  ·rw [showF_long hck hl]
   simp only []
   clear hl
   go_wp2_with fail
   refine (HCK.out w2 HR2.out HLEN.out HSZ.out.txt).mono ?_
   rintro e w3 ⟨rfl,hb⟩
   rw [hck]
   have HR3:=keep (HR2.out.below hb)
   have H3:=Lib.hid (H2.out.below hb)
   clear hb H2 HR2
   go_wp2_with fail
   refine (HCK.out w3 HR3.out HLEN.out HSZ.out.txt).mono ?_
   rintro e w4 ⟨rfl,hb⟩
   rw [hck]
   have H4:=Lib.hid (H3.out.below hb)
   clear hb H3 HR3
   go_wp2_with fail
   refine (law_awake10 w4 (HE.out.below H4.out.bel)).mono ?_
   rintro e w5 ⟨rfl,hb⟩
   have H5:=Lib.hid (H4.out.below hb)
   clear hb H4
   go_wp2_with fail
   go_ret
   exact ⟨rfl,H5.out.bel⟩
  ·have HF:=keep (form_show hck HSZ.out.num (by omega))
   have HL:=keep (show (showT (t.map NdA.nd)).length ≤ 256 by omega)
   have HTE:=keep (tchk_of hck HSZ.out.num).1
   have HLX:=keep (show (t.map NdA.nd).length = t.length from List.length_map ..)
   rw [showF_ok hck hl]
   simp only []
   clear hl
   obtain ⟨S,hS⟩ : ∃ S : ByteArray,S = ⟨(showT (t.map NdA.nd)).toArray⟩:=⟨_,rfl⟩
   have HSD:=keep (show S.data.toList = showT (t.map NdA.nd) by rw [hS])
   have HSS:=keep (show S.size ≤ 256 by
    have h9 : S.data.toList.length = S.size:=by rw [Array.length_toList]; rfl
    rw [← h9,HSD.out]; exact HL.out)
   rw [← hS]
   clear hS
   generalize t.map NdA.nd = n at HF HTE HLX HSD
   go_wp2_with fail
   refine (parse_Formula S _ (by have:=HSS.out; omega) (HE.out.below H2.out.bel).1).mono ?_
   rintro e w3 ⟨v,rfl,hown,hb⟩
   rw [HSD.out,HF.out] at hown ⊢
   simp only [] at hown ⊢
   obtain ⟨a3,c3,rfl⟩:=own_len hown
   obtain ⟨-,hrow⟩:=rows_get hown
   have HR3:=keep (HR2.out.below hb)
   have HRU:=keep (show RowsAt w3 a3 11 ((n.map Nd.any).map aRow) by rw [any_rows]; exact hrow)
   have H3:=Lib.hid (H2.out.below hb)
   clear hown hrow hb H2 HR2
   go_wp2_with fail
   rw [← (show (n.map Nd.any).length = n.length from List.length_map ..)]
   refine (equal_treeA t (n.map Nd.any) a1 a3 c1 c3 w3 HLEN.out (by rw [← HTE.out]; exact HLEN.out) HR3.out HRU.out).mono ?_
   rintro e w4 ⟨rfl,hb⟩
   rw [← HTE.out,eqA_yes]
   have H4:=Lib.hid (H3.out.below hb)
   clear hb H3 HR3 HRU
   go_wp2_with fail
   refine (law_awake10 w4 (HE.out.below H4.out.bel)).mono ?_
   rintro e w5 ⟨rfl,hb⟩
   have H5:=Lib.hid (H4.out.below hb)
   clear hb H4
   go_wp2_with fail
   go_ret
   exact ⟨rfl,H5.out.bel⟩
 ·rw [showF_bad hck]
  simp only []
  obtain ⟨E,hE⟩ : ∃ E,checkA t = E:=⟨_,rfl⟩
  have HEE:=keep hE
  rw [hE] at hck ⊢
  have hne : (E != 0) = true:=by simp [hck]
  clear hE
  go_wp2_with fail
  refine (HCK.out w2 HR2.out HLEN.out HSZ.out.txt).mono ?_
  rintro e w3 ⟨rfl,hb⟩
  rw [HEE.out]
  have H3:=Lib.hid (H2.out.below hb)
  clear hb H2 HR2
  go_wp2_with fail
  refine (law_awake10 w3 (HE.out.below H3.out.bel)).mono ?_
  rintro e w4 ⟨rfl,hb⟩
  have H4:=Lib.hid (H3.out.below hb)
  clear hb H3
  go_wp2_with fail
  go_ret
  exact ⟨rfl,H4.out.bel⟩
theorem show_same {t u : List NdA} (ht : checkA t = 0) (hu : checkA u = 0) (nt : ∀ a ∈ t,a.vn ≤ 9223372036854775807) (nu : ∀ a ∈ u,a.vn ≤ 9223372036854775807) (lt : (showT (t.map NdA.nd)).length ≤ 256) (X Y : ByteArray) (hx : X = ⟨(showT (t.map NdA.nd)).toArray⟩) (hy : Y = ⟨(showT (u.map NdA.nd)).toArray⟩) : (X.toList == Y.toList) = eqA t u:=by
 obtain ⟨et,kt,-⟩:=tchk_of ht nt
 obtain ⟨eu,ku,-⟩:=tchk_of hu nu
 rw [ByteArray.toList_eq,ByteArray.toList_eq,hx,hy,data_list,data_list,Bool.eq_iff_iff,eqA_iff,beq_iff_eq]
 constructor
 ·intro h
  have h3:=show_inj _ _ kt.ndc ku.ndc (checkS_of ht) (checkS_of hu) lt h
  rw [et,eu,h3]
 ·rintro rfl
  rfl
set_option maxRecDepth 100000 in
set_option maxHeartbeats 8000000 in
theorem law_ShowDiffers (t0 u0 : List NdA) (a b : Option Addr) (c d : Nat) (w : World) (hr : RowsAt w a 11 (t0.map aRow)) (hnc : t0.length ≤ c) (hc : c ≤ maxLen) (hin : ∀ n ∈ t0,NdIn n) (hr2 : RowsAt w b 11 (u0.map aRow)) (hnd : u0.length ≤ d) (hd : d ≤ maxLen) (hin2 : ∀ n ∈ u0,NdIn n) (he : WEnv w) :
  Calls Tryz.prog 7 #[.slice a t0.length c,.slice b u0.length d] w fun e w' => e = .returned (.bool true) ∧ Below w.heap.size w w':=by
 have HE:=keep he
 have HFW:=keep (few_ t0 a c w hr hnc hc)
 have HFX:=keep (fun w' (h : RowsAt w' b 11 (u0.map aRow)) => few_ u0 b d w' h hnd hd)
 have HRB:=keep hr2
 have HSZ:=keep (few_sz hin)
 have HSX:=keep (few_sz hin2)
 obtain ⟨n0,hn0⟩ : ∃ n0,t0.length = n0:=⟨_,rfl⟩
 obtain ⟨m0,hm0⟩ : ∃ m0,u0.length = m0:=⟨_,rfl⟩
 rw [hn0] at HFW ⊢
 rw [hm0] at HFX ⊢
 generalize few t0 = t at HFW HSZ
 generalize few u0 = u at HFX HSX
 clear hr hnc hc hin he hn0 hr2 hnd hd hin2 hm0
 go_enter Tryz.func7,Tryz.ntmps7
 go_wp2_with fail
 refine HFW.out.mono ?_
 rintro e w1 ⟨v,rfl,hown,hb⟩
 obtain ⟨a1,c1,rfl,-,-,hrow⟩:=nda_own hown
 have HR:=keep hrow
 have H1:=Lib.hid ((Ok.start w).below hb)
 clear hown hrow hb HFW
 go_wp2_with fail
 refine (HFX.out w1 (HRB.out.below H1.out.bel)).mono ?_
 rintro e w2 ⟨v,rfl,hown,hb⟩
 obtain ⟨b1,d1,rfl,-,-,hrow⟩:=nda_own hown
 have HQ2:=keep hrow
 have HR2:=keep (HR.out.below hb)
 have H2:=Lib.hid (H1.out.below hb)
 clear hown hrow hb HFX HRB HR H1
 go_wp2_with fail
 refine (show_Formula t a1 c1 w2 HSZ.out ⟨HR2.out,HE.out.below H2.out.bel⟩).mono ?_
 rintro e w3 ⟨rfl,hb⟩
 have HR3:=keep (HR2.out.below hb)
 have HQ3:=keep (HQ2.out.below hb)
 have H3:=Lib.hid (H2.out.below hb)
 clear hb H2 HR2 HQ2
 obtain ⟨X,hX⟩ : ∃ X : ByteArray,X = ⟨(showF t).1.toArray⟩:=⟨_,rfl⟩
 rw [← hX]
 have HX:=keep hX
 obtain ⟨E,hE⟩ : ∃ E,(showF t).2 = E:=⟨_,rfl⟩
 rw [hE]
 have HEE:=keep hE
 clear hX hE
 go_wp2_with fail
 refine (show_Formula u b1 d1 w3 HSX.out ⟨HQ3.out,HE.out.below H3.out.bel⟩).mono ?_
 rintro e w4 ⟨rfl,hb⟩
 have HR4:=keep (HR3.out.below hb)
 have HQ4:=keep (HQ3.out.below hb)
 have H4:=Lib.hid (H3.out.below hb)
 clear hb H3 HR3 HQ3
 obtain ⟨Y,hY⟩ : ∃ Y : ByteArray,Y = ⟨(showF u).1.toArray⟩:=⟨_,rfl⟩
 rw [← hY]
 have HY:=keep hY
 obtain ⟨F,hF⟩ : ∃ F,(showF u).2 = F:=⟨_,rfl⟩
 rw [hF]
 have HFF:=keep hF
 clear hY hF
 by_cases hE0 : E = 0
 ·subst hE0
  by_cases hF0 : F = 0
  ·subst hF0
   have HXY:=keep (show (X.toList == Y.toList) = eqA t u by
    obtain ⟨k1,l1⟩:=showF_zero HEE.out
    obtain ⟨k2,l2⟩:=showF_zero HFF.out
    refine show_same k1 k2 HSZ.out.num HSX.out.num l1 X Y ?_ ?_
    ·rw [HX.out,showF_ok k1 (by omega)]
    ·rw [HY.out,showF_ok k2 (by omega)])
   obtain ⟨q,hq⟩ : ∃ q,(X.toList == Y.toList) = q:=⟨_,rfl⟩
   have HQ:=keep hq
   go_wp2_with fail
   refine (equal_treeA t u a1 b1 c1 d1 w4 HSZ.out.len HSX.out.len HR4.out HQ4.out).mono ?_
   rintro e w5 ⟨rfl,hb⟩
   rw [← HXY.out,HQ.out]
   have H5:=Lib.hid (H4.out.below hb)
   clear hb H4 HR4 HQ4
   have hqq : (q == q) = true:=by cases q <;> rfl
   go_wp2_with fail
   refine (law_awake10 w5 (HE.out.below H5.out.bel)).mono ?_
   rintro e w6 ⟨rfl,hb⟩
   have H6:=Lib.hid (H5.out.below hb)
   clear hb H5
   go_wp2_with fail
   go_ret
   exact ⟨rfl,H6.out.bel⟩
  ·have hne : (F != 0) = true:=by simp [hF0]
   clear HX HY HEE HFF HR4 HQ4
   go_wp2_with fail
   refine (law_awake10 w4 (HE.out.below H4.out.bel)).mono ?_
   rintro e w6 ⟨rfl,hb⟩
   have H6:=Lib.hid (H4.out.below hb)
   clear hb H4
   go_wp2_with fail
   go_ret
   exact ⟨rfl,H6.out.bel⟩
 ·have hne : (E != 0) = true:=by simp [hE0]
  clear HX HY HEE HFF HR4 HQ4
  go_wp2_with fail
  refine (law_awake10 w4 (HE.out.below H4.out.bel)).mono ?_
  rintro e w6 ⟨rfl,hb⟩
  have H6:=Lib.hid (H4.out.below hb)
  clear hb H4
  go_wp2_with fail
  go_ret
  exact ⟨rfl,H6.out.bel⟩
end Go.Proofs.YtlbigmlaokdmdaaGreatDoor
namespace Go.Proofs.YtlbigmlaokdmdaaGreatDoor
open Go.RowKit
theorem ShowBack_walk (A : Option Addr) (n c : Nat) (t : List NdA) (w : World) (hl : t.length = n) (hr : RowsAt w A 11 (t.map aRow)) (hin : ∀ a ∈ t,NdIn a) (hnc : n ≤ c) (hc : c ≤ maxLen) (hL : laidMetH Tryz.prog Rows.showBackRow.laid w) (hS : w.ShapedOpen Tryz.prog) :
  Calls Tryz.prog 6 #[.slice A n c] w fun e w' => e = .returned (.bool true) ∧ Below w.heap.size w w':=by
 subst hl
 exact law_ShowBack t A c w hr hnc hc hin (env10_of hL hS (by kernel_rfl) (by kernel_rfl))
theorem ShowDiffers_walk (A : Option Addr) (n c : Nat) (t : List NdA) (B : Option Addr) (m d : Nat) (u : List NdA) (w : World) (hl : t.length = n) (hr : RowsAt w A 11 (t.map aRow)) (hin : ∀ a ∈ t,NdIn a) (hnc : n ≤ c) (hc : c ≤ maxLen) (hm : u.length = m) (hr2 : RowsAt w B 11 (u.map aRow)) (hin2 : ∀ a ∈ u,NdIn a) (hmd : m ≤ d) (hd : d ≤ maxLen) (hL : laidMetH Tryz.prog Rows.showDiffersRow.laid w) (hS : w.ShapedOpen Tryz.prog) :
  Calls Tryz.prog 7 #[.slice A n c,.slice B m d] w fun e w' => e = .returned (.bool true) ∧ Below w.heap.size w w':=by
 subst hl hm
 exact law_ShowDiffers t u A B c d w hr hnc hc hin hr2 hmd hd hin2 (env10_of hL hS (by kernel_rfl) (by kernel_rfl))
end Go.Proofs.YtlbigmlaokdmdaaGreatDoor
namespace Go.Proofs.YtlbigmlaokdmdaaGreatDoor
open Go.RowKit
set_option maxRecDepth 100000 in
set_option maxHeartbeats 8000000 in
theorem law_ShowLines (t0 : List NdA) (a : Option Addr) (c : Nat) (w : World) (hr : RowsAt w a 11 (t0.map aRow)) (hnc : t0.length ≤ c) (hc : c ≤ maxLen) (hin : ∀ n ∈ t0,NdIn n) (he : WEnv w) :
  Calls Tryz.prog 9 #[.slice a t0.length c] w fun e w' => e = .returned (.bool true) ∧ Below w.heap.size w w':=by
 have HE:=keep he
 have HFW:=keep (few_ t0 a c w hr hnc hc)
 have HSZ:=keep (few_sz hin)
 have HL3:=keep (few_le t0)
 obtain ⟨n0,hn0⟩ : ∃ n0,t0.length = n0:=⟨_,rfl⟩
 rw [hn0] at HFW ⊢
 generalize few t0 = t at HFW HSZ HL3
 clear hr hnc hc hin he hn0
 go_enter Tryz.func9,Tryz.ntmps9
 go_wp2_with fail
 refine HFW.out.mono ?_
 rintro e w1 ⟨u,rfl,hown,hb⟩
 obtain ⟨a1,c1,rfl,-,-,hrow⟩:=nda_own hown
 have HR:=keep hrow
 have H1:=Lib.hid ((Ok.start w).below hb)
 clear hown hrow hb HFW
 go_wp2_with fail
 refine (show_Outline t a1 c1 w1 HSZ.out ⟨HR.out,HE.out.below H1.out.bel⟩).mono ?_
 rintro e w2 ⟨v,rfl,hown,hb⟩
 have HR2:=keep (HR.out.below hb)
 have H2:=Lib.hid (H1.out.below hb)
 clear hb H1 HR
 have HLEN:=keep HSZ.out.len
 by_cases hck : checkA t = 0
 rotate_left
 ·obtain ⟨E,hE⟩ : ∃ E,checkA t = E:=⟨_,rfl⟩
  have HEE:=keep hE
  rw [hE] at hck ⊢
  have hne : (E != 0) = true:=by simp [hck]
  obtain ⟨a3,c3,rfl⟩:=own_len hown
  clear hE hown
  go_wp2_with fail
  refine (tree_CheckA t a1 c1 w2 HR2.out HLEN.out HSZ.out.txt).mono ?_
  rintro e w3 ⟨rfl,hb⟩
  rw [HEE.out]
  have H3:=Lib.hid (H2.out.below hb)
  clear hb H2 HR2
  go_wp2_with fail
  refine (law_awake10 w3 (HE.out.below H3.out.bel)).mono ?_
  rintro e w4 ⟨rfl,hb⟩
  have H4:=Lib.hid (H3.out.below hb)
  clear hb H3
  go_wp2_with fail
  go_ret
  exact ⟨rfl,H4.out.bel⟩
 obtain ⟨hte,hk,h0,p,hww,hwx⟩:=tchk_of hck HSZ.out.num
 obtain ⟨hol,hwf⟩:=out_lines _ hk.ndc (checkS_of hck)
 have hof:=out_first _ hk.ndc
 have hod:=out_deep _ p hww
 rw [List.length_map] at hol
 rw [olS_ok hck] at hown
 rw [hck]
 generalize outS (t.map NdA.nd) = ls at hol hwf hof hod hown
 obtain ⟨a2,c2,rfl,-,hrow⟩:=strs_own hown
 have HQ2:=keep hrow
 have hll : (ls.map lineO).length = ls.length:=List.length_map ..
 rw [hll]
 have HDP:=keep (fun w' h => tree_Depth t a1 c1 w' h HLEN.out HSZ.out.txt hck p hwx)
 obtain ⟨N,hN⟩ : ∃ N,t.length = N:=⟨_,rfl⟩
 rw [hN] at hol HDP
 rw [hol,hN]
 obtain ⟨D,hD⟩ : ∃ D,p.depth = D:=⟨_,rfl⟩
 rw [hD] at hod HDP
 have HOL:=keep hol
 have HWF:=keep hwf
 have HOF:=keep hof
 have HDD:=keep (show deepL ls N = D by
  rw [hod,← hol]
  exact deep_all (by rintro rfl; exact h0 (List.length_eq_zero_iff.1 (by rw [hN,← hol]; rfl))))
 have hN3 : N ≤ 300:=by rw [← hN]; exact HL3.out
 clear hte hk h0 hww hwx hol hwf hof hod hown hrow hll hD hN hck
 go_wp2_with fail
 refine (HDP.out w2 HR2.out).mono ?_
 rintro e w3 ⟨rfl,hb⟩
 have HQ3:=keep (HQ2.out.below hb)
 have H3:=Lib.hid (H2.out.below hb)
 clear hb H2 HR2 HQ2 HDP
 go_wp2_with fail
 go_loopw [7,8,9] (fun lv dv iv wr => ∃ k : Nat,k ≤ N ∧ lv = .int .i64 (lastL ls k) ∧ dv = .int .i64 ((deepL ls k : Nat) : Int) ∧ iv = .int .i64 (k : Int) ∧ wr = w3) (fun _ _ iv _ => N - (intOf iv).toNat)
 case atStart => exact ⟨0,Nat.zero_le _,rfl,rfl,rfl,rfl⟩
 case round =>
  obtain ⟨k,hk,rfl,rfl,rfl,rfl⟩:=hrel
  obtain ⟨wp,rfl⟩ : ∃ wp : World,wp = wr:=⟨_,rfl⟩
  obtain ⟨lq,hlq⟩ : ∃ lq,lastL ls k = lq:=⟨_,rfl⟩
  obtain ⟨dq,hdq⟩ : ∃ dq,deepL ls k = dq:=⟨_,rfl⟩
  rw [hlq,hdq]
  have HDQ:=keep hdq
  have hdk:=deep_le HWF.out k (by rw [HOL.out]; exact hk)
  rw [hdq] at hdk
  by_cases hlt : (k : Int) < N
  ·obtain ⟨x,hx⟩ : ∃ x,ls[k]? = some x:=⟨_,List.getElem?_eq_getElem (by rw [HOL.out]; omega)⟩
   obtain ⟨q1,q2,q3,q4⟩:=wf_at HWF.out hx
   obtain ⟨b,r,hbr,hb32⟩:=HOF.out x (List.mem_of_getElem? hx)
   obtain ⟨X,hX⟩ : ∃ X : ByteArray,X = ⟨(lineO x).toArray⟩:=⟨_,rfl⟩
   obtain ⟨z1,z2,z3⟩:=line_at x b r hbr X hX
   obtain ⟨b1,o1,ha2,hB1,hc1⟩:=rows_at HQ3.out (i:=k) (r:=[.string X]) (by unfold strR; rw [List.map_map,List.getElem?_map,hx,hX]; rfl)
   subst ha2
   have g1:=hc1 0 _ rfl
   rw [Nat.mul_one,Nat.add_zero] at g1
   have HLS:=keep (last_step hx)
   have HDS:=keep (deep_step hx)
   rw [hlq] at q3
   rw [hdq] at HDS
   obtain ⟨d,hd⟩ : ∃ d,x.1 = d:=⟨_,rfl⟩
   rw [hd] at q1 q2 q3 q4 z1 z2 z3 HLS HDS
   have HZ2:=keep z2
   have hix2 : ∀ h,((X[2 * d]'h).toNat : Int) = ((b.toNat : Nat) : Int):=fun h => by rw [z3 h]
   have hb9 : (((b.toNat : Nat) : Int) == 32) = false:=by
    rw [beq_eq_false_iff_ne]
    intro h
    exact hb32 (UInt8.toNat_inj.1 (by show b.toNat = 32; omega))
   obtain ⟨cb,hcb⟩ : ∃ cb,b.toNat = cb:=⟨_,rfl⟩
   rw [hcb] at hix2 hb9
   have hlq2 : -2 ≤ lq:=by rw [← hlq]; unfold lastL; split <;> omega
   have hlq3 : lq ≤ 600:=by
    rw [← hlq]; unfold lastL
    split
    ·decide
    ·have:=(wf_at HWF.out (k:=k - 1) (List.getElem?_eq_getElem (by rw [HOL.out]; omega))).2.2.2
     rw [← lev_at (List.getElem?_eq_getElem (by rw [HOL.out]; omega))] at this
     omega
   clear hx hbr hb32 hX hc1 z2 z3 hd hlq hdq hcb
   go_wp2_with fail
   go_loopw [10] (fun nv wq => ∃ m : Nat,m ≤ 2 * d ∧ nv = .int .i64 (m : Int) ∧ wq = wp) (fun nv _ => 2 * d - (intOf nv).toNat)
   case atStart => exact ⟨0,Nat.zero_le _,rfl,rfl⟩
   case round =>
    obtain ⟨m,hm,rfl,rfl⟩:=hrel
    by_cases hm2 : m < 2 * d
    ·have hix : ∀ h,((X[m]'h).toNat : Int) = 32:=fun h => by rw [HZ2.out m hm2 h]; rfl
     have hmx : (m : Int) < (X.size : Int):=by omega
     clear hix2 hb9
     go_wp2_with fail
     go_roundw
     case rel => exact ⟨m + 1,by omega,by go_num,trivial⟩
     case measure => simp [intOf]; omega
    ·obtain rfl : m = 2 * d:=by omega
     have hmx : ((2 * d : Nat) : Int) < (X.size : Int):=by omega
     have e1 : decide (lq + 2 < 2 * (d : Int)) = false:=by simp; omega
     have e2 : ((2 * (d : Int)) == (X.size : Int)) = false:=by rw [beq_eq_false_iff_ne]; omega
     have HRL:=keep (show max (dq : Int) ((d : Int) + 1) = ((deepL ls (k + 1) : Nat) : Int) by rw [HDS.out]; omega)
     rcases Nat.eq_zero_or_pos k with hk0 | hk0
     ·have hd0:=q1 hk0
      subst hk0 hd0
      rw [show ((0 : Nat) : Int) = 0 from rfl] at HRL e1 e2 hlt ⊢
      have hmx2 : (0 : Int) < (X.size : Int):=hmx
      have e5 : ((0 : Int) == (X.size : Int)) = false:=by rw [beq_eq_false_iff_ne]; omega
      clear e1 e2 hmx
      have e1 : decide (lq + 2 < 0) = false:=by simp; omega
      have hix3 : ∀ h,((X[0]'h).toNat : Int) = (cb : Int):=hix2
      rw [Nat.add_zero] at g1
      clear hix2 q1 q2 q3 q4
      go_wp2_with fail
      go_roundw
      case rel => exact ⟨1,by omega,by rw [HLS.out]; rfl,congrArg _ HRL.out,by go_num,trivial⟩
      case measure => simp [intOf]; omega
     ·have e3 : (2 * (d : Int) == 0) = false:=by rw [beq_eq_false_iff_ne]; have:=q2 hk0; omega
      have e4 : (0 : Int) < (k : Int):=by omega
      go_wp2_with fail
      go_roundw
      case rel => exact ⟨k + 1,by omega,by rw [HLS.out],by rw [HRL.out],by go_num,trivial⟩
      case measure => simp [intOf]; omega
  ·obtain rfl : N = k:=by omega
   have hqd : dq = D:=by rw [← HDQ.out,HDD.out]
   subst hqd
   clear hlq hdq HDQ HDD
   go_wp2_with fail
   refine (law_awake10 wp (HE.out.below H3.out.bel)).mono ?_
   rintro e w4 ⟨rfl,hb⟩
   have H4:=Lib.hid (H3.out.below hb)
   clear hb H3
   go_wp2_with fail
   go_ret
   exact ⟨rfl,H4.out.bel⟩
end Go.Proofs.YtlbigmlaokdmdaaGreatDoor
namespace Go.Proofs.YtlbigmlaokdmdaaGreatDoor
open Go.RowKit
theorem ShowLines_walk (A : Option Addr) (n c : Nat) (t : List NdA) (w : World) (hl : t.length = n) (hr : RowsAt w A 11 (t.map aRow)) (hin : ∀ a ∈ t,NdIn a) (hnc : n ≤ c) (hc : c ≤ maxLen) (hL : laidMetH Tryz.prog Rows.showLinesRow.laid w) (hS : w.ShapedOpen Tryz.prog) :
  Calls Tryz.prog 9 #[.slice A n c] w fun e w' => e = .returned (.bool true) ∧ Below w.heap.size w w':=by
 subst hl
 exact law_ShowLines t A c w hr hnc hc hin (env10_of hL hS (by kernel_rfl) (by kernel_rfl))
end Go.Proofs.YtlbigmlaokdmdaaGreatDoor
