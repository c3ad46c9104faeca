/- Contracts of Parse, package rect's and the reference's, and of the reference's Format. -/
import Derived.Test.YtjbimcdofenmdaaGreatDoorMRectF
import Derived.Test.YtjbimcdofenmdaaGreatDoorMOk
import Derived.Test.YtjbimcdofenmdaaGreatDoorMShelf
import Derived.Deep.DeepCutAuto
namespace Go.Proofs.YtjbimcdofenmdaaGreatDoor
open Go.RowKit
def fromS (l : List UInt8) : List UInt8:=(Lib.cut l [58]).1
def toS (l : List UInt8) : List UInt8:=if (Lib.cut l [58]).2.2 = true then (Lib.cut l [58]).2.1 else (Lib.cut l [58]).1
def parseAB (a b : Int × Int × Int) : R4 × Int :=
 if a.2.2 = 4 ∨ b.2.2 = 4 then (R4.zero,4) else if a.2.2 ≠ 0 ∨ b.2.2 ≠ 0 then (R4.zero,3) else (⟨min a.1 b.1,min a.2.1 b.2.1,max a.1 b.1,max a.2.1 b.2.1⟩,0)
def parseR (l : List UInt8) : R4 × Int:=parseAB (parseS (fromS l)) (parseS (toS l))
theorem cut_len (l : List UInt8) : (Lib.cut l [58]).1.length ≤ l.length ∧ (Lib.cut l [58]).2.1.length ≤ l.length:=by
 unfold Lib.cut; split <;> simp <;> omega
theorem Cut58 (s : ByteArray) (m : Int) (w : World) (hs : s.size < 4294967281) (hm : w.cell? ⟨2,0,none⟩ = some (.int .i64 m)) :
  Calls Tryz.prog 88 #[.string s,.string ⟨#[58]⟩] w fun e w' => e = .returned (.tuple #[.string ⟨(Lib.cut s.data.toList [58]).1.toArray⟩,.string ⟨(Lib.cut s.data.toList [58]).2.1.toArray⟩,.bool (Lib.cut s.data.toList [58]).2.2]) ∧ Below w.heap.size w w' :=
 (Tryz.strings_Cut s ⟨#[58]⟩ m w hs hm).mono fun _ _ ⟨he,n,hw⟩ => ⟨he,hw ▸ below_drewN (Below.refl _ _) n⟩
theorem addr_Parse_l (l : List UInt8) (w : World) (hs : l.length ≤ 4611686018427387904) :
  Calls Tryz.prog 111 #[.string ⟨l.toArray⟩] w fun e w' => e = .returned (.tuple #[.agg #[.int .i64 (parseS l).1,.int .i64 (parseS l).2.1],.int .i64 (parseS l).2.2]) ∧ Below w.heap.size w w' :=
 addr_Parse ⟨l.toArray⟩ w hs
set_option maxRecDepth 100000 in
set_option maxHeartbeats 4000000 in
theorem rect_Parse (s : ByteArray) (m : Int) (w : World) (hs : s.size < 4294967281) (hm : w.cell? ⟨2,0,none⟩ = some (.int .i64 m)) :
  Calls Tryz.prog 90 #[.string s] w fun e w' => e = .returned (.tuple #[.agg #[.int .i64 (parseR s.data.toList).1.c1,.int .i64 (parseR s.data.toList).1.r1,.int .i64 (parseR s.data.toList).1.c2,.int .i64 (parseR s.data.toList).1.r2],.int .i64 (parseR s.data.toList).2]) ∧ Below w.heap.size w w':=by
 have hc:=cut_len s.data.toList
 have hR : parseR s.data.toList = parseAB (parseS (fromS s.data.toList)) (parseS (toS s.data.toList)):=rfl
 unfold fromS toS at hR
 generalize parseR s.data.toList = R at hR ⊢
 have hl : s.data.toList.length < 4294967281:=by simpa using hs
 have HM:=Lib.hid hm
 have HR:=Lib.hid hR
 clear hm hR
 have H1:=Lib.hid (Ok.start w)
 go_enter Tryz.func90,Tryz.ntmps90
 go_wp2_with fail
 have H2:=Lib.hid (H1.out.var w.heap.size 23 [.int .i64 0,.int .i64 0,.int .i64 0,.int .i64 0] rfl)
 clear H1
 generalize (w.alloc (.cells #[.int .i64 0,.int .i64 0,.int .i64 0,.int .i64 0] 23)) = W3 at H2 ⊢
 refine (Cut58 _ m _ hs ((H2.out.bel.cell (World.block_lt_of_cell? _ _ HM.out)).trans HM.out)).mono ?_
 rintro e w4 ⟨rfl,hb5⟩
 have H6:=Lib.hid (H2.out.below hb5)
 clear hb5 H2
 have F7:=H6.out.sees
 simp only [sees,kVar,cellsAt,Nat.reduceAdd] at F7
 obtain ⟨⟨⟨z0,fz0⟩,c0_0,c0_1,c0_2,c0_3,-⟩,-⟩:=F7
 have hR:=HR.out
 clear HR
 generalize Lib.cut s.data.toList [58] = C at hc hR ⊢
 obtain ⟨la,lb,two⟩:=C
 simp only [] at hc hR
 obtain ⟨hla,hlb⟩:=hc
 have ha : la.length < 4294967281:=by omega
 have hb : lb.length < 4294967281:=by omega
 clear hla hlb hl
 go_upto_if 18 with fail
 go_cut [5] (fun s5 wx => s5 = .string ⟨(if two = true then lb else la).toArray⟩ ∧ Hid (Ok w [kVar (w.heap.size) 23 [.int .i64 0,.int .i64 0,.int .i64 0,.int .i64 0]] wx))
 case first => (cases two <;> (go_wp2_with fail; go_meet; exact ⟨rfl,H6⟩))
 case rest =>
  clear z0 fz0 c0_0 c0_1 c0_2 c0_3
  clear H6
  obtain ⟨rfl,H8⟩:=hcut
  have F9:=H8.out.sees
  simp only [sees,kVar,cellsAt,Nat.reduceAdd] at F9
  obtain ⟨⟨⟨z0,fz0⟩,c0_0,c0_1,c0_2,c0_3,-⟩,-⟩:=F9
  have hT : (if two = true then lb else la).length < 4294967281:=by split <;> assumption
  generalize (if two = true then lb else la) = TT at hR hT ⊢
  obtain ⟨A,hA⟩ : ∃ A,parseS la = A:=⟨_,rfl⟩
  obtain ⟨B,hB⟩ : ∃ B,parseS TT = B:=⟨_,rfl⟩
  replace hR : R = parseAB A B:=hR.trans (by rw [← hA,← hB])
  obtain ⟨A1,A2,A3⟩:=A
  obtain ⟨B1,B2,B3⟩:=B
  have HA:=Lib.hid hA
  have HB:=Lib.hid hB
  have HR:=Lib.hid hR
  clear hA hB hR
  go_wp2_with fail
  refine (addr_Parse_l _ _ (by omega)).mono ?_
  rintro e w10 ⟨rfl,hb11⟩
  rw [HA.out]
  clear z0 fz0 c0_0 c0_1 c0_2 c0_3
  have H12:=Lib.hid (H8.out.below hb11)
  clear hb11 H8
  have F13:=H12.out.sees
  simp only [sees,kVar,cellsAt,Nat.reduceAdd] at F13
  obtain ⟨⟨⟨z0,fz0⟩,c0_0,c0_1,c0_2,c0_3,-⟩,-⟩:=F13
  go_wp2_with fail
  clear z0 fz0 c0_0 c0_1 c0_2 c0_3
  have H14:=Lib.hid (H12.out.alloc w10.heap.size 100 [.int .i64 A1,.int .i64 A2] rfl)
  clear H12
  generalize (w10.alloc (.cells #[.int .i64 A1,.int .i64 A2] 100)) = W15 at H14 ⊢
  refine (addr_Parse_l _ _ (by omega)).mono ?_
  rintro e w16 ⟨rfl,hb17⟩
  rw [HB.out]
  have H18:=Lib.hid (H14.out.below hb17)
  clear hb17 H14
  have F19:=H18.out.sees
  simp only [sees,kBlk,kVar,cellsAt,Nat.reduceAdd] at F19
  obtain ⟨⟨z0,c0_0,c0_1,-⟩,⟨⟨z1,fz1⟩,c1_0,c1_1,c1_2,c1_3,-⟩,-⟩:=F19
  by_cases e4 : A3 = 4
  ·subst e4
   have hR:=HR.out
   have hR2 : R = (R4.zero,4):=by rw [hR]; unfold parseAB; simp
   clear hR HR
   subst hR2
   go_wp2_with fail
   try simp only [Exit.inBlock,Exit.then]
   have hK:=H18.out.get (kVar (w.heap.size) 23 [.int .i64 0,.int .i64 0,.int .i64 0,.int .i64 0]) (by simp)
   have hB:=H18.out.bel
   have hE:=((((((show Blk w16 (w.heap.size) 23 _ from hK).set_ 0 (.int .i64 0)).set_ 1 (.int .i64 0)).set_ 2 (.int .i64 0)).set_ 3 (.int .i64 0)).alloc (.cells #[.int .i64 B1,.int .i64 B2] 100))
   have r0:=hE.cell 0
   have r1:=hE.cell 1
   have r2:=hE.cell 2
   have r3:=hE.cell 3
   simp at r0 r1 r2 r3
   refine bodyPost_ret (v:=.tuple #[.agg #[.int .i64 0,.int .i64 0,.int .i64 0,.int .i64 0],.int .i64 4]) (by simp [results,Tryz.results90,go_sem,r0,r1,r2,r3]) rfl ⟨rfl,(((((hB.setCell (by simp) _).setCell (by simp) _).setCell (by simp) _).setCell (by simp) _).alloc (by have:=hB.size; simp; omega) _)⟩
  ·have a4 : (A3 == 4) = false:=by simpa using e4
   by_cases f4 : B3 = 4
   ·subst f4
    have hR:=HR.out
    have hR2 : R = (R4.zero,4):=by rw [hR]; unfold parseAB; simp
    clear hR HR
    subst hR2
    go_wp2_with fail
    try simp only [Exit.inBlock,Exit.then]
    have hK:=H18.out.get (kVar (w.heap.size) 23 [.int .i64 0,.int .i64 0,.int .i64 0,.int .i64 0]) (by simp)
    have hB:=H18.out.bel
    have hE:=((((((show Blk w16 (w.heap.size) 23 _ from hK).set_ 0 (.int .i64 0)).set_ 1 (.int .i64 0)).set_ 2 (.int .i64 0)).set_ 3 (.int .i64 0)).alloc (.cells #[.int .i64 B1,.int .i64 B2] 100))
    have r0:=hE.cell 0
    have r1:=hE.cell 1
    have r2:=hE.cell 2
    have r3:=hE.cell 3
    simp at r0 r1 r2 r3
    refine bodyPost_ret (v:=.tuple #[.agg #[.int .i64 0,.int .i64 0,.int .i64 0,.int .i64 0],.int .i64 4]) (by simp [results,Tryz.results90,go_sem,r0,r1,r2,r3]) rfl ⟨rfl,(((((hB.setCell (by simp) _).setCell (by simp) _).setCell (by simp) _).setCell (by simp) _).alloc (by have:=hB.size; simp; omega) _)⟩
   ·have b4 : (B3 == 4) = false:=by simpa using f4
    by_cases e0 : A3 = 0
    ·subst e0
     clear a4 e4
     by_cases f0 : B3 = 0
     ·subst f0
      clear b4 f4
      have hR:=HR.out
      have hR2 : R = (⟨min A1 B1,min A2 B2,max A1 B1,max A2 B2⟩,0):=by rw [hR]; rfl
      clear hR HR
      subst hR2
      go_wp2_with fail
      try simp only [Exit.inBlock,Exit.then]
      have hK:=H18.out.get (kVar (w.heap.size) 23 [.int .i64 0,.int .i64 0,.int .i64 0,.int .i64 0]) (by simp)
      have hB:=H18.out.bel
      have hE:=((((((show Blk w16 (w.heap.size) 23 _ from hK).set_ 0 (.int .i64 (min A1 B1))).set_ 1 (.int .i64 (min A2 B2))).set_ 2 (.int .i64 (max A1 B1))).set_ 3 (.int .i64 (max A2 B2))).alloc (.cells #[.int .i64 B1,.int .i64 B2] 100))
      have r0:=hE.cell 0
      have r1:=hE.cell 1
      have r2:=hE.cell 2
      have r3:=hE.cell 3
      simp at r0 r1 r2 r3
      refine bodyPost_ret (v:=.tuple #[.agg #[.int .i64 (min A1 B1),.int .i64 (min A2 B2),.int .i64 (max A1 B1),.int .i64 (max A2 B2)],.int .i64 0]) (by simp [results,Tryz.results90,go_sem,r0,r1,r2,r3]) rfl ⟨rfl,(((((hB.setCell (by simp) _).setCell (by simp) _).setCell (by simp) _).setCell (by simp) _).alloc (by have:=hB.size; simp; omega) _)⟩
     ·have b0 : (B3 != 0) = true:=by simpa using f0
      have hR:=HR.out
      have hR2 : R = (R4.zero,3):=by rw [hR]; unfold parseAB; simp [f4,f0]
      clear hR HR
      subst hR2
      go_wp2_with fail
      try simp only [Exit.inBlock,Exit.then]
      have hK:=H18.out.get (kVar (w.heap.size) 23 [.int .i64 0,.int .i64 0,.int .i64 0,.int .i64 0]) (by simp)
      have hB:=H18.out.bel
      have hE:=((((((show Blk w16 (w.heap.size) 23 _ from hK).set_ 0 (.int .i64 0)).set_ 1 (.int .i64 0)).set_ 2 (.int .i64 0)).set_ 3 (.int .i64 0)).alloc (.cells #[.int .i64 B1,.int .i64 B2] 100))
      have r0:=hE.cell 0
      have r1:=hE.cell 1
      have r2:=hE.cell 2
      have r3:=hE.cell 3
      simp at r0 r1 r2 r3
      refine bodyPost_ret (v:=.tuple #[.agg #[.int .i64 0,.int .i64 0,.int .i64 0,.int .i64 0],.int .i64 3]) (by simp [results,Tryz.results90,go_sem,r0,r1,r2,r3]) rfl ⟨rfl,(((((hB.setCell (by simp) _).setCell (by simp) _).setCell (by simp) _).setCell (by simp) _).alloc (by have:=hB.size; simp; omega) _)⟩
    ·have a0 : (A3 != 0) = true:=by simpa using e0
     have hR:=HR.out
     have hR2 : R = (R4.zero,3):=by rw [hR]; unfold parseAB; simp [e4,f4,e0]
     clear hR HR
     subst hR2
     go_wp2_with fail
     try simp only [Exit.inBlock,Exit.then]
     have hK:=H18.out.get (kVar (w.heap.size) 23 [.int .i64 0,.int .i64 0,.int .i64 0,.int .i64 0]) (by simp)
     have hB:=H18.out.bel
     have hE:=((((((show Blk w16 (w.heap.size) 23 _ from hK).set_ 0 (.int .i64 0)).set_ 1 (.int .i64 0)).set_ 2 (.int .i64 0)).set_ 3 (.int .i64 0)).alloc (.cells #[.int .i64 B1,.int .i64 B2] 100))
     have r0:=hE.cell 0
     have r1:=hE.cell 1
     have r2:=hE.cell 2
     have r3:=hE.cell 3
     simp at r0 r1 r2 r3
     refine bodyPost_ret (v:=.tuple #[.agg #[.int .i64 0,.int .i64 0,.int .i64 0,.int .i64 0],.int .i64 3]) (by simp [results,Tryz.results90,go_sem,r0,r1,r2,r3]) rfl ⟨rfl,(((((hB.setCell (by simp) _).setCell (by simp) _).setCell (by simp) _).setCell (by simp) _).alloc (by have:=hB.size; simp; omega) _)⟩
set_option maxRecDepth 100000 in
set_option maxHeartbeats 4000000 in
theorem ref3_Parse (s : ByteArray) (w : World) (hs : s.size < 4294967281) :
  Calls Tryz.prog 93 #[.string s] w fun e w' => e = .returned (.tuple #[.agg #[.int .i64 (parseR s.data.toList).1.c1,.int .i64 (parseR s.data.toList).1.r1,.int .i64 (parseR s.data.toList).1.c2,.int .i64 (parseR s.data.toList).1.r2],.int .i64 (parseR s.data.toList).2]) ∧ Below w.heap.size w w':=by
 obtain ⟨R,hRR⟩ : ∃ R,parseR s.data.toList = R:=⟨_,rfl⟩
 rw [hRR]
 have HRR:=Lib.hid hRR
 clear hRR
 have H1:=Lib.hid (Ok.start w)
 go_enter Tryz.func93,Tryz.ntmps93
 go_wp2_with fail
 have H2:=Lib.hid (H1.out.var w.heap.size 23 [.int .i64 0,.int .i64 0,.int .i64 0,.int .i64 0] rfl)
 clear H1
 generalize (w.alloc (.cells #[.int .i64 0,.int .i64 0,.int .i64 0,.int .i64 0] 23)) = W3 at H2 ⊢
 go_loop [4] (fun iv => ∃ k : Nat,k ≤ s.size ∧ iv = .int .i64 k ∧ Hid (∀ j (hj : j < k) (hs : j < s.size),s[j] ≠ 58)) (fun iv => s.size - (intOf iv).toNat)
 case atStart => exact ⟨0,by omega,rfl,fun j hj => by omega⟩
 case round =>
  obtain ⟨k,hk,rfl,HN⟩:=hrel
  by_cases hlt : k < s.size
  ·by_cases hb : s[k] = 58
   ·have h1 : (((s[k].toNat : Nat) : Int) != 58) = false:=by rw [hb]; rfl
    have hcut : Lib.cut s.data.toList [58] = (s.data.toList.take k,s.data.toList.drop (k + 1),true):=cut_colon _ k (by simpa using hlt) (fun j hj => HN.out j hj (by omega)) hb
    have hR : R = parseAB (parseS (s.data.toList.take k)) (parseS (s.data.toList.drop (k + 1))):=by rw [← HRR.out]; unfold parseR fromS toS; rw [hcut]; rfl
    have hx:=Lib.extract_data s 0 k
    have hy:=Lib.extract_to_end s (k + 1)
    simp only [List.drop_zero,Nat.sub_zero] at hx
    obtain ⟨A,hA⟩ : ∃ A,parseS (s.extract 0 k).data.toList = A:=⟨_,rfl⟩
    obtain ⟨B,hB⟩ : ∃ B,parseS (s.extract (k + 1) s.size).data.toList = B:=⟨_,rfl⟩
    replace hR : R = parseAB A B:=hR.trans (by rw [← hA,← hB,hx,hy])
    obtain ⟨A1,A2,A3⟩:=A
    obtain ⟨B1,B2,B3⟩:=B
    have HA:=Lib.hid hA
    have HB:=Lib.hid hB
    have HR:=Lib.hid hR
    clear hA hB hR hx hy hcut hb HN
    have F4:=H2.out.sees
    simp only [sees,kVar,cellsAt,Nat.reduceAdd] at F4
    obtain ⟨⟨⟨z0,fz0⟩,c0_0,c0_1,c0_2,c0_3,-⟩,-⟩:=F4
    go_wp2_with fail
    refine (ref_Parse _ _ (by simp; omega)).mono ?_
    rintro e w5 ⟨rfl,hb6⟩
    rw [HA.out]
    clear z0 fz0 c0_0 c0_1 c0_2 c0_3
    have H7:=Lib.hid (H2.out.below hb6)
    clear hb6 H2
    have F8:=H7.out.sees
    simp only [sees,kVar,cellsAt,Nat.reduceAdd] at F8
    obtain ⟨⟨⟨z0,fz0⟩,c0_0,c0_1,c0_2,c0_3,-⟩,-⟩:=F8
    go_wp2_with fail
    have y9:=z0
    clear z0 fz0 c0_0 c0_1 c0_2 c0_3
    have H10:=Lib.hid ((H7.out.alloc w5.heap.size 100 [.int .i64 A1,.int .i64 A2] rfl).var (w5.heap.size + 1) 100 [.int .i64 A1,.int .i64 A2] (by simp))
    clear H7
    generalize ((w5.alloc (.cells #[.int .i64 A1,.int .i64 A2] 100)).alloc (.cells #[.int .i64 A1,.int .i64 A2] 100)) = W11 at H10 ⊢
    have F12:=H10.out.sees
    simp only [sees,kBlk,kVar,cellsAt,Nat.reduceAdd] at F12
    obtain ⟨⟨⟨z0,fz0⟩,c0_0,c0_1,-⟩,⟨z1,c1_0,c1_1,-⟩,⟨⟨z2,fz2⟩,c2_0,c2_1,c2_2,c2_3,-⟩,-⟩:=F12
    go_wp2_with fail
    refine (ref_Parse _ _ (by simp; omega)).mono ?_
    rintro e w13 ⟨rfl,hb14⟩
    rw [HB.out]
    clear z0 fz0 c0_0 c0_1 z1 c1_0 c1_1 z2 fz2 c2_0 c2_1 c2_2 c2_3
    have H15:=Lib.hid (H10.out.below hb14)
    clear hb14 H10
    have F16:=H15.out.sees
    simp only [sees,kBlk,kVar,cellsAt,Nat.reduceAdd] at F16
    obtain ⟨⟨⟨z0,fz0⟩,c0_0,c0_1,-⟩,⟨z1,c1_0,c1_1,-⟩,⟨⟨z2,fz2⟩,c2_0,c2_1,c2_2,c2_3,-⟩,-⟩:=F16
    go_upto_region 8 with fail
    have H17:=Lib.hid (H15.out.drop [kVar (w5.heap.size + 1) 100 [.int .i64 A1,.int .i64 A2],kBlk (w5.heap.size) 100 [.int .i64 A1,.int .i64 A2],kVar (w.heap.size) 23 [.int .i64 0,.int .i64 0,.int .i64 0,.int .i64 0]] (by simp))
    have hfar : ∀ x ∈ [kBlk (w5.heap.size) 100 [.int .i64 A1,.int .i64 A2],kVar (w.heap.size) 23 [.int .i64 0,.int .i64 0,.int .i64 0,.int .i64 0]],x.far (some (w5.heap.size + 1)):=by
     simp [kBlk,kVar]; omega
    have H18 : Hid (Ok w [kVar (w5.heap.size + 1) 100 [.int .i64 B1,.int .i64 B2],kBlk (w5.heap.size) 100 [.int .i64 A1,.int .i64 A2],kVar (w.heap.size) 23 [.int .i64 0,.int .i64 0,.int .i64 0,.int .i64 0]] ((w13.setCell ⟨w5.heap.size + 1,0,none⟩ (.int .i64 B1)).setCell ⟨w5.heap.size + 1,1,none⟩ (.int .i64 B2))):=((H17.out.set_ (i:=0) (u:=.int .i64 B1) (by omega) hfar).set_ (i:=1) (u:=.int .i64 B2) (by omega) hfar)
    clear z0 fz0 c0_0 c0_1 z1 c1_0 c1_1 z2 fz2 c2_0 c2_1 c2_2 c2_3
    clear H15 H17 hfar
    generalize ((w13.setCell ⟨w5.heap.size + 1,0,none⟩ (.int .i64 B1)).setCell ⟨w5.heap.size + 1,1,none⟩ (.int .i64 B2)) = W19 at H18 ⊢
    have F20:=H18.out.sees
    simp only [sees,kBlk,kVar,cellsAt,Nat.reduceAdd] at F20
    obtain ⟨⟨⟨z0,fz0⟩,c0_0,c0_1,-⟩,⟨z1,c1_0,c1_1,-⟩,⟨⟨z2,fz2⟩,c2_0,c2_1,c2_2,c2_3,-⟩,-⟩:=F20
    by_cases e4 : A3 = 4
    ·subst e4
     have hR:=HR.out
     have hR2 : R = (R4.zero,4):=by rw [hR]; unfold parseAB; simp
     clear hR HR
     subst hR2
     go_wp2_with fail
     try simp only [Exit.inBlock,Exit.then]
     have hK:=H18.out.get (kVar (w.heap.size) 23 [.int .i64 0,.int .i64 0,.int .i64 0,.int .i64 0]) (by simp)
     have hB:=H18.out.bel
     have hE:=(((((show Blk W19 (w.heap.size) 23 _ from hK).set_ 0 (.int .i64 0)).set_ 1 (.int .i64 0)).set_ 2 (.int .i64 0)).set_ 3 (.int .i64 0))
     have r0:=hE.cell 0
     have r1:=hE.cell 1
     have r2:=hE.cell 2
     have r3:=hE.cell 3
     simp at r0 r1 r2 r3
     refine bodyPost_ret (v:=.tuple #[.agg #[.int .i64 0,.int .i64 0,.int .i64 0,.int .i64 0],.int .i64 4]) (by simp [results,Tryz.results93,go_sem,r0,r1,r2,r3]) rfl ⟨rfl,((((hB.setCell (by simp) _).setCell (by simp) _).setCell (by simp) _).setCell (by simp) _)⟩
    ·have a4 : (A3 == 4) = false:=by simpa using e4
     by_cases f4 : B3 = 4
     ·subst f4
      have hR:=HR.out
      have hR2 : R = (R4.zero,4):=by rw [hR]; unfold parseAB; simp
      clear hR HR
      subst hR2
      go_wp2_with fail
      try simp only [Exit.inBlock,Exit.then]
      have hK:=H18.out.get (kVar (w.heap.size) 23 [.int .i64 0,.int .i64 0,.int .i64 0,.int .i64 0]) (by simp)
      have hB:=H18.out.bel
      have hE:=(((((show Blk W19 (w.heap.size) 23 _ from hK).set_ 0 (.int .i64 0)).set_ 1 (.int .i64 0)).set_ 2 (.int .i64 0)).set_ 3 (.int .i64 0))
      have r0:=hE.cell 0
      have r1:=hE.cell 1
      have r2:=hE.cell 2
      have r3:=hE.cell 3
      simp at r0 r1 r2 r3
      refine bodyPost_ret (v:=.tuple #[.agg #[.int .i64 0,.int .i64 0,.int .i64 0,.int .i64 0],.int .i64 4]) (by simp [results,Tryz.results93,go_sem,r0,r1,r2,r3]) rfl ⟨rfl,((((hB.setCell (by simp) _).setCell (by simp) _).setCell (by simp) _).setCell (by simp) _)⟩
     ·have b4 : (B3 == 4) = false:=by simpa using f4
      by_cases e0 : A3 = 0
      ·subst e0
       clear a4 e4
       by_cases f0 : B3 = 0
       ·subst f0
        clear b4 f4
        have hR:=HR.out
        have hR2 : R = (⟨min A1 B1,min A2 B2,max A1 B1,max A2 B2⟩,0):=by rw [hR]; rfl
        clear hR HR
        subst hR2
        go_wp2_with fail
        try simp only [Exit.inBlock,Exit.then]
        have hK:=H18.out.get (kVar (w.heap.size) 23 [.int .i64 0,.int .i64 0,.int .i64 0,.int .i64 0]) (by simp)
        have hB:=H18.out.bel
        have hE:=(((((show Blk W19 (w.heap.size) 23 _ from hK).set_ 0 (.int .i64 (min A1 B1))).set_ 1 (.int .i64 (min A2 B2))).set_ 2 (.int .i64 (max A1 B1))).set_ 3 (.int .i64 (max A2 B2)))
        have r0:=hE.cell 0
        have r1:=hE.cell 1
        have r2:=hE.cell 2
        have r3:=hE.cell 3
        simp at r0 r1 r2 r3
        refine bodyPost_ret (v:=.tuple #[.agg #[.int .i64 (min A1 B1),.int .i64 (min A2 B2),.int .i64 (max A1 B1),.int .i64 (max A2 B2)],.int .i64 0]) (by simp [results,Tryz.results93,go_sem,r0,r1,r2,r3]) rfl ⟨rfl,((((hB.setCell (by simp) _).setCell (by simp) _).setCell (by simp) _).setCell (by simp) _)⟩
       ·have b0 : (B3 != 0) = true:=by simpa using f0
        have hR:=HR.out
        have hR2 : R = (R4.zero,3):=by rw [hR]; unfold parseAB; simp [f4,f0]
        clear hR HR
        subst hR2
        go_wp2_with fail
        try simp only [Exit.inBlock,Exit.then]
        have hK:=H18.out.get (kVar (w.heap.size) 23 [.int .i64 0,.int .i64 0,.int .i64 0,.int .i64 0]) (by simp)
        have hB:=H18.out.bel
        have hE:=(((((show Blk W19 (w.heap.size) 23 _ from hK).set_ 0 (.int .i64 0)).set_ 1 (.int .i64 0)).set_ 2 (.int .i64 0)).set_ 3 (.int .i64 0))
        have r0:=hE.cell 0
        have r1:=hE.cell 1
        have r2:=hE.cell 2
        have r3:=hE.cell 3
        simp at r0 r1 r2 r3
        refine bodyPost_ret (v:=.tuple #[.agg #[.int .i64 0,.int .i64 0,.int .i64 0,.int .i64 0],.int .i64 3]) (by simp [results,Tryz.results93,go_sem,r0,r1,r2,r3]) rfl ⟨rfl,((((hB.setCell (by simp) _).setCell (by simp) _).setCell (by simp) _).setCell (by simp) _)⟩
      ·have a0 : (A3 != 0) = true:=by simpa using e0
       have hR:=HR.out
       have hR2 : R = (R4.zero,3):=by rw [hR]; unfold parseAB; simp [e4,f4,e0]
       clear hR HR
       subst hR2
       go_wp2_with fail
       try simp only [Exit.inBlock,Exit.then]
       have hK:=H18.out.get (kVar (w.heap.size) 23 [.int .i64 0,.int .i64 0,.int .i64 0,.int .i64 0]) (by simp)
       have hB:=H18.out.bel
       have hE:=(((((show Blk W19 (w.heap.size) 23 _ from hK).set_ 0 (.int .i64 0)).set_ 1 (.int .i64 0)).set_ 2 (.int .i64 0)).set_ 3 (.int .i64 0))
       have r0:=hE.cell 0
       have r1:=hE.cell 1
       have r2:=hE.cell 2
       have r3:=hE.cell 3
       simp at r0 r1 r2 r3
       refine bodyPost_ret (v:=.tuple #[.agg #[.int .i64 0,.int .i64 0,.int .i64 0,.int .i64 0],.int .i64 3]) (by simp [results,Tryz.results93,go_sem,r0,r1,r2,r3]) rfl ⟨rfl,((((hB.setCell (by simp) _).setCell (by simp) _).setCell (by simp) _).setCell (by simp) _)⟩
   ·have h1 : (((s[k].toNat : Nat) : Int) != 58) = true:=by
     rw [bne_iff_ne]
     intro h
     exact hb (UInt8.toNat_inj.1 (by have : (58 : UInt8).toNat = 58:=rfl; omega))
    have HB2:=Lib.hid hb
    clear hb
    go_wp2_with fail
    go_round
    case rel => exact ⟨k + 1,by omega,by go_num,fun j hj hs => by
     rcases Nat.lt_or_ge j k with h | h
     ·exact HN.out j h hs
     ·obtain rfl : j = k:=by omega
      exact HB2.out⟩
    case measure => simp [intOf]; omega
  ·have hke : k = s.size:=by omega
   subst hke
   have hcut : Lib.cut s.data.toList [58] = (s.data.toList,[],false):=cut_none _ (fun j hj => HN.out j (by simpa using hj) (by simpa using hj))
   have hR : R = parseAB (parseS s.data.toList) (parseS s.data.toList):=by rw [← HRR.out]; unfold parseR fromS toS; rw [hcut]; rfl
   obtain ⟨A,hA⟩ : ∃ A,parseS s.data.toList = A:=⟨_,rfl⟩
   replace hR : R = parseAB A A:=hR.trans (by rw [← hA])
   obtain ⟨A1,A2,A3⟩:=A
   have HA:=Lib.hid hA
   have HR:=Lib.hid hR
   clear hA hR hcut HN
   have F4:=H2.out.sees
   simp only [sees,kVar,cellsAt,Nat.reduceAdd] at F4
   obtain ⟨⟨⟨z0,fz0⟩,c0_0,c0_1,c0_2,c0_3,-⟩,-⟩:=F4
   go_wp2_with fail
   refine (ref_Parse _ _ (by omega)).mono ?_
   rintro e w5 ⟨rfl,hb6⟩
   rw [HA.out]
   clear z0 fz0 c0_0 c0_1 c0_2 c0_3
   have H7:=Lib.hid (H2.out.below hb6)
   clear hb6 H2
   have F8:=H7.out.sees
   simp only [sees,kVar,cellsAt,Nat.reduceAdd] at F8
   obtain ⟨⟨⟨z0,fz0⟩,c0_0,c0_1,c0_2,c0_3,-⟩,-⟩:=F8
   go_upto_region 8 with fail
   have y9:=z0
   clear z0 fz0 c0_0 c0_1 c0_2 c0_3
   have H10:=Lib.hid ((H7.out.alloc w5.heap.size 100 [.int .i64 A1,.int .i64 A2] rfl).var (w5.heap.size + 1) 100 [.int .i64 A1,.int .i64 A2] (by simp))
   clear H7
   generalize ((w5.alloc (.cells #[.int .i64 A1,.int .i64 A2] 100)).alloc (.cells #[.int .i64 A1,.int .i64 A2] 100)) = W11 at H10 ⊢
   have F12:=H10.out.sees
   simp only [sees,kBlk,kVar,cellsAt,Nat.reduceAdd] at F12
   obtain ⟨⟨⟨z0,fz0⟩,c0_0,c0_1,-⟩,⟨z1,c1_0,c1_1,-⟩,⟨⟨z2,fz2⟩,c2_0,c2_1,c2_2,c2_3,-⟩,-⟩:=F12
   by_cases e4 : A3 = 4
   ·subst e4
    have hR:=HR.out
    have hR2 : R = (R4.zero,4):=by rw [hR]; unfold parseAB; simp
    clear hR HR
    subst hR2
    go_wp2_with fail
    try simp only [Exit.inBlock,Exit.then]
    have hK:=H10.out.get (kVar (w.heap.size) 23 [.int .i64 0,.int .i64 0,.int .i64 0,.int .i64 0]) (by simp)
    have hB:=H10.out.bel
    have hE:=(((((show Blk W11 (w.heap.size) 23 _ from hK).set_ 0 (.int .i64 0)).set_ 1 (.int .i64 0)).set_ 2 (.int .i64 0)).set_ 3 (.int .i64 0))
    have r0:=hE.cell 0
    have r1:=hE.cell 1
    have r2:=hE.cell 2
    have r3:=hE.cell 3
    simp at r0 r1 r2 r3
    refine bodyPost_ret (v:=.tuple #[.agg #[.int .i64 0,.int .i64 0,.int .i64 0,.int .i64 0],.int .i64 4]) (by simp [results,Tryz.results93,go_sem,r0,r1,r2,r3]) rfl ⟨rfl,((((hB.setCell (by simp) _).setCell (by simp) _).setCell (by simp) _).setCell (by simp) _)⟩
   ·have a4 : (A3 == 4) = false:=by simpa using e4
    by_cases e0 : A3 = 0
    ·subst e0
     clear a4 e4
     have hR:=HR.out
     have hR2 : R = (⟨min A1 A1,min A2 A2,max A1 A1,max A2 A2⟩,0):=by rw [hR]; rfl
     rw [Int.min_self,Int.min_self,Int.max_self,Int.max_self] at hR2
     clear hR HR
     subst hR2
     go_wp2_with fail
     try simp only [Exit.inBlock,Exit.then]
     have hK:=H10.out.get (kVar (w.heap.size) 23 [.int .i64 0,.int .i64 0,.int .i64 0,.int .i64 0]) (by simp)
     have hB:=H10.out.bel
     have hE:=(((((show Blk W11 (w.heap.size) 23 _ from hK).set_ 0 (.int .i64 A1)).set_ 1 (.int .i64 A2)).set_ 2 (.int .i64 A1)).set_ 3 (.int .i64 A2))
     have r0:=hE.cell 0
     have r1:=hE.cell 1
     have r2:=hE.cell 2
     have r3:=hE.cell 3
     simp at r0 r1 r2 r3
     refine bodyPost_ret (v:=.tuple #[.agg #[.int .i64 A1,.int .i64 A2,.int .i64 A1,.int .i64 A2],.int .i64 0]) (by simp [results,Tryz.results93,go_sem,r0,r1,r2,r3]) rfl ⟨rfl,((((hB.setCell (by simp) _).setCell (by simp) _).setCell (by simp) _).setCell (by simp) _)⟩
    ·have a0 : (A3 != 0) = true:=by simpa using e0
     have hR:=HR.out
     have hR2 : R = (R4.zero,3):=by rw [hR]; unfold parseAB; simp [e4,e0]
     clear hR HR
     subst hR2
     go_wp2_with fail
     try simp only [Exit.inBlock,Exit.then]
     have hK:=H10.out.get (kVar (w.heap.size) 23 [.int .i64 0,.int .i64 0,.int .i64 0,.int .i64 0]) (by simp)
     have hB:=H10.out.bel
     have hE:=(((((show Blk W11 (w.heap.size) 23 _ from hK).set_ 0 (.int .i64 0)).set_ 1 (.int .i64 0)).set_ 2 (.int .i64 0)).set_ 3 (.int .i64 0))
     have r0:=hE.cell 0
     have r1:=hE.cell 1
     have r2:=hE.cell 2
     have r3:=hE.cell 3
     simp at r0 r1 r2 r3
     refine bodyPost_ret (v:=.tuple #[.agg #[.int .i64 0,.int .i64 0,.int .i64 0,.int .i64 0],.int .i64 3]) (by simp [results,Tryz.results93,go_sem,r0,r1,r2,r3]) rfl ⟨rfl,((((hB.setCell (by simp) _).setCell (by simp) _).setCell (by simp) _).setCell (by simp) _)⟩
theorem fmtL_two (r : R4) (hv : checkB r = true) (h : ¬ (r.c1 = r.c2 ∧ r.r1 = r.r2)) : fmtL r = (formatS r.c1 r.r1).1 ++ (58 :: (formatS r.c2 r.r2).1) ∧ (formatS r.c1 r.r1).1 ≠ (formatS r.c2 r.r2).1:=by
 obtain ⟨a1,a2,a3,a4⟩:=r
 obtain ⟨h1,h2⟩:=check_valid hv
 refine ⟨by unfold fmtL; rw [if_neg h],fun e => h ?_⟩
 have:=format_inj h1 h2 e
 exact this
theorem fmtL_one (r : R4) (h : r.c1 = r.c2 ∧ r.r1 = r.r2) : fmtL r = (formatS r.c1 r.r1).1:=by unfold fmtL; rw [if_pos h,List.append_nil]
set_option maxRecDepth 100000 in
set_option maxHeartbeats 4000000 in
theorem ref3_Format (a1 a2 a3 a4 : Int) (w : World) :
  Calls Tryz.prog 53 #[.agg #[.int .i64 a1,.int .i64 a2,.int .i64 a3,.int .i64 a4]] w fun e w' => e = .returned (.tuple #[.string ⟨(fmtR ⟨a1,a2,a3,a4⟩).1.toArray⟩,.int .i64 (fmtR ⟨a1,a2,a3,a4⟩).2]) ∧ Below w.heap.size w w':=by
 have H1:=Lib.hid ((Ok.start w).alloc w.heap.size 23 [.int .i64 a1,.int .i64 a2,.int .i64 a3,.int .i64 a4] rfl)
 go_enter Tryz.func53,Tryz.ntmps53
 go_wp2_with fail
 generalize (w.alloc (.cells #[.int .i64 a1,.int .i64 a2,.int .i64 a3,.int .i64 a4] 23)) = W2 at H1 ⊢
 cases ha : checkB ⟨a1,a2,a3,a4⟩
 ·refine (ref_Check _ _ _ _ _).mono ?_
  rintro e w3 ⟨rfl,hb4⟩
  rw [checkE_no ha]
  have H5:=Lib.hid (H1.out.below hb4)
  clear hb4 H1
  have F6:=H5.out.sees
  simp only [sees,kBlk,cellsAt,Nat.reduceAdd] at F6
  obtain ⟨⟨z0,c0_0,c0_1,c0_2,c0_3,-⟩,-⟩:=F6
  have HA:=Lib.hid (fmtR_no ha)
  clear ha
  go_wp2_with fail
  go_ret2
  exact ⟨by rw [HA.out]; rfl,H5.out.bel⟩
 ·refine (ref_Check _ _ _ _ _).mono ?_
  rintro e w3 ⟨rfl,hb4⟩
  rw [checkE_yes ha]
  have H5:=Lib.hid (H1.out.below hb4)
  clear hb4 H1
  have F6:=H5.out.sees
  simp only [sees,kBlk,cellsAt,Nat.reduceAdd] at F6
  obtain ⟨⟨z0,c0_0,c0_1,c0_2,c0_3,-⟩,-⟩:=F6
  have HA:=Lib.hid (fmtR_yes ha)
  have hv:=Lib.hid ha
  clear ha
  go_wp2_with fail
  refine (ref_From _ _ _ _ _).mono ?_
  rintro e w7 ⟨rfl,hb8⟩
  clear z0 c0_0 c0_1 c0_2 c0_3
  have H9:=Lib.hid (H5.out.below hb8)
  clear hb8 H5
  have F10:=H9.out.sees
  simp only [sees,kBlk,cellsAt,Nat.reduceAdd] at F10
  obtain ⟨⟨z0,c0_0,c0_1,c0_2,c0_3,-⟩,-⟩:=F10
  go_wp2_with fail
  refine (ref_Format _ _ _).mono ?_
  rintro e w11 ⟨rfl,hb12⟩
  clear z0 c0_0 c0_1 c0_2 c0_3
  have H13:=Lib.hid (H9.out.below hb12)
  clear hb12 H9
  have F14:=H13.out.sees
  simp only [sees,kBlk,cellsAt,Nat.reduceAdd] at F14
  obtain ⟨⟨z0,c0_0,c0_1,c0_2,c0_3,-⟩,-⟩:=F14
  go_wp2_with fail
  refine (ref_To _ _ _ _ _).mono ?_
  rintro e w15 ⟨rfl,hb16⟩
  clear z0 c0_0 c0_1 c0_2 c0_3
  have H17:=Lib.hid (H13.out.below hb16)
  clear hb16 H13
  have F18:=H17.out.sees
  simp only [sees,kBlk,cellsAt,Nat.reduceAdd] at F18
  obtain ⟨⟨z0,c0_0,c0_1,c0_2,c0_3,-⟩,-⟩:=F18
  go_wp2_with fail
  refine (ref_Format _ _ _).mono ?_
  rintro e w19 ⟨rfl,hb20⟩
  clear z0 c0_0 c0_1 c0_2 c0_3
  have H21:=Lib.hid (H17.out.below hb20)
  clear hb20 H17
  have F22:=H21.out.sees
  simp only [sees,kBlk,cellsAt,Nat.reduceAdd] at F22
  obtain ⟨⟨z0,c0_0,c0_1,c0_2,c0_3,-⟩,-⟩:=F22
  by_cases he : a1 = a3 ∧ a2 = a4
  ·have hf:=fmtL_one ⟨a1,a2,a3,a4⟩ he
   obtain ⟨rfl,rfl⟩:=he
   have HF:=Lib.hid hf
   clear hf
   generalize (formatS a1 a2).1 = S at HF ⊢
   go_wp2_with fail
   go_ret2
   exact ⟨by rw [HA.out,HF.out]; rfl,H21.out.bel⟩
  ·obtain ⟨hf,hne⟩:=fmtL_two ⟨a1,a2,a3,a4⟩ hv.out he
   have HF:=Lib.hid hf
   clear hf he hv
   have l1:=format_len a1 a2
   have l2:=format_len a3 a4
   simp only [] at hne
   generalize (formatS a1 a2).1 = S at HF hne l1 ⊢
   generalize (formatS a3 a4).1 = U at HF hne l2 ⊢
   have hsu : (S == U) = false:=by simpa using hne
   clear hne
   go_wp2_with fail
   go_ret2
   exact ⟨by rw [HA.out,HF.out]; simp [bytes_append],H21.out.bel⟩
end Go.Proofs.YtjbimcdofenmdaaGreatDoor
