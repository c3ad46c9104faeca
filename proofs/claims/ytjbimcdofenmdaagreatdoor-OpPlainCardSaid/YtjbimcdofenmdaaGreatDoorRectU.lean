/- Contracts of Parse, package rect's and the reference's, and of the reference's Format. -/
import Derived.Test.YtjbimcdofenmdaaGreatDoorRectF
import Derived.Test.YtjbimcdofenmdaaGreatDoorCut
import Derived.Test.YtjbimcdofenmdaaGreatDoorShelf
import Derived.Test.YtjbimcdofenmdaaGreatDoorAddrW3
import Derived.Test.YtjbimcdofenmdaaGreatDoorOk
import Derived.Deep.DeepCutAuto
namespace Go.Proofs.YtjbimcdofenmdaaGreatDoor
open Go.RowKit
def fromS (l : List UInt8) : List UInt8:=(Lib.cut l [58]).1
def toS (l : List UInt8) : List UInt8:=if (Lib.cut l [58]).2.2 = true then (Lib.cut l [58]).2.1 else (Lib.cut l [58]).1
def parseAB (a b : Int × Int × Int) : R4 × Int :=
  if a.2.2 = 4 ∨ b.2.2 = 4 then (R4.zero,4) else if a.2.2 ≠ 0 ∨ b.2.2 ≠ 0 then (R4.zero,3) else (⟨min a.1 b.1,min a.2.1 b.2.1,max a.1 b.1,max a.2.1 b.2.1⟩,0)
def parseR (l : List UInt8) : R4 × Int:=parseAB (parseS (fromS l)) (parseS (toS l))
theorem cut_len (l : List UInt8) : (Lib.cut l [58]).1.length ≤ l.length ∧ (Lib.cut l [58]).2.1.length ≤ l.length:=by
  unfold Lib.cut; split <;> simp <;> omega
theorem Cut58 (s : ByteArray) (m : Int) (w : World) (hs : s.size < 4294967281) (hm : w.cell? ⟨2,0,none⟩ = some (.int .i64 m)) :
    Calls Tryz.prog 88 #[.string s,.string ⟨#[58]⟩] w fun e w' => e = .returned (.tuple #[.string ⟨(Lib.cut s.data.toList [58]).1.toArray⟩,.string ⟨(Lib.cut s.data.toList [58]).2.1.toArray⟩,.bool (Lib.cut s.data.toList [58]).2.2]) ∧ Below w.heap.size w w' :=
  (Tryz.strings_Cut s ⟨#[58]⟩ m w hs hm).mono fun _ _ ⟨he,n,hw⟩ => ⟨he,hw ▸ below_drewN (Below.refl _ _) n⟩
theorem addr_Parse_l (l : List UInt8) (w : World) (hs : l.length ≤ 4611686018427387904) :
    Calls Tryz.prog 111 #[.string ⟨l.toArray⟩] w fun e w' => e = .returned (.tuple #[.agg #[.int .i64 (parseS l).1,.int .i64 (parseS l).2.1],.int .i64 (parseS l).2.2]) ∧ Below w.heap.size w w' :=
  addr_Parse ⟨l.toArray⟩ w hs
set_option maxRecDepth 100000 in
set_option maxHeartbeats 4000000 in
theorem rect_Parse (s : ByteArray) (m : Int) (w : World) (hs : s.size < 4294967281) (hm : w.cell? ⟨2,0,none⟩ = some (.int .i64 m)) :
    Calls Tryz.prog 90 #[.string s] w fun e w' => e = .returned (.tuple #[.agg #[.int .i64 (parseR s.data.toList).1.c1,.int .i64 (parseR s.data.toList).1.r1,.int .i64 (parseR s.data.toList).1.c2,.int .i64 (parseR s.data.toList).1.r2],.int .i64 (parseR s.data.toList).2]) ∧ Below w.heap.size w w':=by
  have hc:=cut_len s.data.toList
  have hR : parseR s.data.toList = parseAB (parseS (fromS s.data.toList)) (parseS (toS s.data.toList)):=rfl
  unfold fromS toS at hR
  generalize parseR s.data.toList = R at hR ⊢
  have hl : s.data.toList.length < 4294967281:=by simpa using hs
  have HM:=Lib.hid hm
  have HR:=Lib.hid hR
  clear hm hR
  have H1:=Lib.hid (Ok.start w)
  go_enter Tryz.func90,Tryz.ntmps90
  go_wp2_with fail
  have H2:=Lib.hid (H1.out.var w.heap.size 23 [.int .i64 0,.int .i64 0,.int .i64 0,.int .i64 0] rfl)
  clear H1
  generalize (w.alloc (.cells #[.int .i64 0,.int .i64 0,.int .i64 0,.int .i64 0] 23)) = W3 at H2 ⊢
  refine (Cut58 _ m _ hs ((H2.out.bel.cell (World.block_lt_of_cell? _ _ HM.out)).trans HM.out)).mono ?_
  rintro e w4 ⟨rfl,hb5⟩
  have H6:=Lib.hid (H2.out.below hb5)
  clear hb5 H2
  have F7:=H6.out.sees
  simp only [sees,kVar,cellsAt,Nat.reduceAdd] at F7
  obtain ⟨⟨⟨z0,fz0⟩,c0_0,c0_1,c0_2,c0_3,-⟩,-⟩:=F7
  have hR:=HR.out
  clear HR
  generalize Lib.cut s.data.toList [58] = C at hc hR ⊢
  obtain ⟨la,lb,two⟩:=C
  simp only [] at hc hR
  obtain ⟨hla,hlb⟩:=hc
  have ha : la.length < 4294967281:=by omega
  have hb : lb.length < 4294967281:=by omega
  clear hla hlb hl
  go_upto_if 18 with fail
  go_cut [5] (fun s5 wx => s5 = .string ⟨(if two = true then lb else la).toArray⟩ ∧ Hid (Ok w [kVar (w.heap.size) 23 [.int .i64 0,.int .i64 0,.int .i64 0,.int .i64 0]] wx))
  case first => (cases two <;> (go_wp2_with fail; go_meet; exact ⟨rfl,H6⟩))
  case rest =>
    clear z0 fz0 c0_0 c0_1 c0_2 c0_3
    clear H6
    obtain ⟨rfl,H8⟩:=hcut
    have F9:=H8.out.sees
    simp only [sees,kVar,cellsAt,Nat.reduceAdd] at F9
    obtain ⟨⟨⟨z0,fz0⟩,c0_0,c0_1,c0_2,c0_3,-⟩,-⟩:=F9
    have hT : (if two = true then lb else la).length < 4294967281:=by split <;> assumption
    generalize (if two = true then lb else la) = TT at hR hT ⊢
    obtain ⟨A,hA⟩ : ∃ A,parseS la = A:=⟨_,rfl⟩
    obtain ⟨B,hB⟩ : ∃ B,parseS TT = B:=⟨_,rfl⟩
    replace hR : R = parseAB A B:=hR.trans (by rw [← hA,← hB])
    obtain ⟨A1,A2,A3⟩:=A
    obtain ⟨B1,B2,B3⟩:=B
    have HA:=Lib.hid hA
    have HB:=Lib.hid hB
    have HR:=Lib.hid hR
    clear hA hB hR
    go_wp2_with fail
    refine (addr_Parse_l _ _ (by omega)).mono ?_
    rintro e w10 ⟨rfl,hb11⟩
    rw [HA.out]
    clear z0 fz0 c0_0 c0_1 c0_2 c0_3
    have H12:=Lib.hid (H8.out.below hb11)
    clear hb11 H8
    have F13:=H12.out.sees
    simp only [sees,kVar,cellsAt,Nat.reduceAdd] at F13
    obtain ⟨⟨⟨z0,fz0⟩,c0_0,c0_1,c0_2,c0_3,-⟩,-⟩:=F13
    go_wp2_with fail
    clear z0 fz0 c0_0 c0_1 c0_2 c0_3
    have H14:=Lib.hid (H12.out.alloc w10.heap.size 100 [.int .i64 A1,.int .i64 A2] rfl)
    clear H12
    generalize (w10.alloc (.cells #[.int .i64 A1,.int .i64 A2] 100)) = W15 at H14 ⊢
    refine (addr_Parse_l _ _ (by omega)).mono ?_
    rintro e w16 ⟨rfl,hb17⟩
    rw [HB.out]
    have H18:=Lib.hid (H14.out.below hb17)
    clear hb17 H14
    have F19:=H18.out.sees
    simp only [sees,kBlk,kVar,cellsAt,Nat.reduceAdd] at F19
    obtain ⟨⟨z0,c0_0,c0_1,-⟩,⟨⟨z1,fz1⟩,c1_0,c1_1,c1_2,c1_3,-⟩,-⟩:=F19
    by_cases e4 : A3 = 4
    · subst e4
      have hR:=HR.out
      have hR2 : R = (R4.zero,4):=by rw [hR]; unfold parseAB; simp
      clear hR HR
      subst hR2
      go_wp2_with fail
      try simp only [Exit.inBlock,Exit.then]
      have hK:=H18.out.get (kVar (w.heap.size) 23 [.int .i64 0,.int .i64 0,.int .i64 0,.int .i64 0]) (by simp)
      have hB:=H18.out.bel
      have hE:=((((((show Blk w16 (w.heap.size) 23 _ from hK).set_ 0 (.int .i64 0)).set_ 1 (.int .i64 0)).set_ 2 (.int .i64 0)).set_ 3 (.int .i64 0)).alloc (.cells #[.int .i64 B1,.int .i64 B2] 100))
      have r0:=hE.cell 0
      have r1:=hE.cell 1
      have r2:=hE.cell 2
      have r3:=hE.cell 3
      simp at r0 r1 r2 r3
      refine bodyPost_ret (v:=.tuple #[.agg #[.int .i64 0,.int .i64 0,.int .i64 0,.int .i64 0],.int .i64 4]) (by simp [results,Tryz.results90,go_sem,r0,r1,r2,r3]) rfl ⟨rfl,(((((hB.setCell (by simp) _).setCell (by simp) _).setCell (by simp) _).setCell (by simp) _).alloc (by have:=hB.size; simp; omega) _)⟩
    · have a4 : (A3 == 4) = false:=by simpa using e4
      by_cases f4 : B3 = 4
      · subst f4
        have hR:=HR.out
        have hR2 : R = (R4.zero,4):=by rw [hR]; unfold parseAB; simp
        clear hR HR
        subst hR2
        go_wp2_with fail
        try simp only [Exit.inBlock,Exit.then]
        have hK:=H18.out.get (kVar (w.heap.size) 23 [.int .i64 0,.int .i64 0,.int .i64 0,.int .i64 0]) (by simp)
        have hB:=H18.out.bel
        have hE:=((((((show Blk w16 (w.heap.size) 23 _ from hK).set_ 0 (.int .i64 0)).set_ 1 (.int .i64 0)).set_ 2 (.int .i64 0)).set_ 3 (.int .i64 0)).alloc (.cells #[.int .i64 B1,.int .i64 B2] 100))
        have r0:=hE.cell 0
        have r1:=hE.cell 1
        have r2:=hE.cell 2
        have r3:=hE.cell 3
        simp at r0 r1 r2 r3
        refine bodyPost_ret (v:=.tuple #[.agg #[.int .i64 0,.int .i64 0,.int .i64 0,.int .i64 0],.int .i64 4]) (by simp [results,Tryz.results90,go_sem,r0,r1,r2,r3]) rfl ⟨rfl,(((((hB.setCell (by simp) _).setCell (by simp) _).setCell (by simp) _).setCell (by simp) _).alloc (by have:=hB.size; simp; omega) _)⟩
      · have b4 : (B3 == 4) = false:=by simpa using f4
        by_cases e0 : A3 = 0
        · subst e0
          clear a4 e4
          by_cases f0 : B3 = 0
          · subst f0
            clear b4 f4
            have hR:=HR.out
            have hR2 : R = (⟨min A1 B1,min A2 B2,max A1 B1,max A2 B2⟩,0):=by rw [hR]; rfl
            clear hR HR
            subst hR2
            go_wp2_with fail
            try simp only [Exit.inBlock,Exit.then]
            have hK:=H18.out.get (kVar (w.heap.size) 23 [.int .i64 0,.int .i64 0,.int .i64 0,.int .i64 0]) (by simp)
            have hB:=H18.out.bel
            have hE:=((((((show Blk w16 (w.heap.size) 23 _ from hK).set_ 0 (.int .i64 (min A1 B1))).set_ 1 (.int .i64 (min A2 B2))).set_ 2 (.int .i64 (max A1 B1))).set_ 3 (.int .i64 (max A2 B2))).alloc (.cells #[.int .i64 B1,.int .i64 B2] 100))
            have r0:=hE.cell 0
            have r1:=hE.cell 1
            have r2:=hE.cell 2
            have r3:=hE.cell 3
            simp at r0 r1 r2 r3
            refine bodyPost_ret (v:=.tuple #[.agg #[.int .i64 (min A1 B1),.int .i64 (min A2 B2),.int .i64 (max A1 B1),.int .i64 (max A2 B2)],.int .i64 0]) (by simp [results,Tryz.results90,go_sem,r0,r1,r2,r3]) rfl ⟨rfl,(((((hB.setCell (by simp) _).setCell (by simp) _).setCell (by simp) _).setCell (by simp) _).alloc (by have:=hB.size; simp; omega) _)⟩
          · have b0 : (B3 != 0) = true:=by simpa using f0
            have hR:=HR.out
            have hR2 : R = (R4.zero,3):=by rw [hR]; unfold parseAB; simp [f4,f0]
            clear hR HR
            subst hR2
            go_wp2_with fail
            try simp only [Exit.inBlock,Exit.then]
            have hK:=H18.out.get (kVar (w.heap.size) 23 [.int .i64 0,.int .i64 0,.int .i64 0,.int .i64 0]) (by simp)
            have hB:=H18.out.bel
            have hE:=((((((show Blk w16 (w.heap.size) 23 _ from hK).set_ 0 (.int .i64 0)).set_ 1 (.int .i64 0)).set_ 2 (.int .i64 0)).set_ 3 (.int .i64 0)).alloc (.cells #[.int .i64 B1,.int .i64 B2] 100))
            have r0:=hE.cell 0
            have r1:=hE.cell 1
            have r2:=hE.cell 2
            have r3:=hE.cell 3
            simp at r0 r1 r2 r3
            refine bodyPost_ret (v:=.tuple #[.agg #[.int .i64 0,.int .i64 0,.int .i64 0,.int .i64 0],.int .i64 3]) (by simp [results,Tryz.results90,go_sem,r0,r1,r2,r3]) rfl ⟨rfl,(((((hB.setCell (by simp) _).setCell (by simp) _).setCell (by simp) _).setCell (by simp) _).alloc (by have:=hB.size; simp; omega) _)⟩
        · have a0 : (A3 != 0) = true:=by simpa using e0
          have hR:=HR.out
          have hR2 : R = (R4.zero,3):=by rw [hR]; unfold parseAB; simp [e4,f4,e0]
          clear hR HR
          subst hR2
          go_wp2_with fail
          try simp only [Exit.inBlock,Exit.then]
          have hK:=H18.out.get (kVar (w.heap.size) 23 [.int .i64 0,.int .i64 0,.int .i64 0,.int .i64 0]) (by simp)
          have hB:=H18.out.bel
          have hE:=((((((show Blk w16 (w.heap.size) 23 _ from hK).set_ 0 (.int .i64 0)).set_ 1 (.int .i64 0)).set_ 2 (.int .i64 0)).set_ 3 (.int .i64 0)).alloc (.cells #[.int .i64 B1,.int .i64 B2] 100))
          have r0:=hE.cell 0
          have r1:=hE.cell 1
          have r2:=hE.cell 2
          have r3:=hE.cell 3
          simp at r0 r1 r2 r3
          refine bodyPost_ret (v:=.tuple #[.agg #[.int .i64 0,.int .i64 0,.int .i64 0,.int .i64 0],.int .i64 3]) (by simp [results,Tryz.results90,go_sem,r0,r1,r2,r3]) rfl ⟨rfl,(((((hB.setCell (by simp) _).setCell (by simp) _).setCell (by simp) _).setCell (by simp) _).alloc (by have:=hB.size; simp; omega) _)⟩
theorem fmtL_two (r : R4) (hv : checkB r = true) (h : ¬ (r.c1 = r.c2 ∧ r.r1 = r.r2)) : fmtL r = (formatS r.c1 r.r1).1 ++ (58 :: (formatS r.c2 r.r2).1) ∧ (formatS r.c1 r.r1).1 ≠ (formatS r.c2 r.r2).1:=by
  obtain ⟨a1,a2,a3,a4⟩:=r
  obtain ⟨h1,h2⟩:=check_valid hv
  refine ⟨by unfold fmtL; rw [if_neg h],fun e => h ?_⟩
  have:=format_inj h1 h2 e
  exact this
theorem fmtL_one (r : R4) (h : r.c1 = r.c2 ∧ r.r1 = r.r2) : fmtL r = (formatS r.c1 r.r1).1:=by unfold fmtL; rw [if_pos h,List.append_nil]
end Go.Proofs.YtjbimcdofenmdaaGreatDoor
