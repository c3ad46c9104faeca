/- The reference of chapter 29: fields. -/
import Derived.Test.YtjbimcdofenmdaaGreatDoorROrM1
import Derived.Test.YtjbimcdofenmdaaGreatDoorMGrpS
namespace Go.Proofs.YtjbimcdofenmdaaGreatDoor
open Go.RowKit
set_option maxRecDepth 100000 in
set_option maxHeartbeats 4000000 in
theorem r9_fld_5_one (g o n c : Nat) (a1 : List UInt8) (w : World) (hk : (kCells g o [.string (byt a1)]).p w) (_hnc : n ≤ c) (hn : n = ([a1]).length) (hL : ∀ p ∈ [a1],p.length ≤ 2000) :
  Calls Tryz.prog 42 #[.int .u8 5,.slice (some ⟨g,o,none⟩) n c] w (FldOut 5 ([a1]) w):=by
 have hg : g < w.heap.size:=hk.1
 simp only [List.length_cons,List.length_nil,Nat.zero_add] at hn
 have hb2 : (bits BinOp.and IntKind.i64 3 2 != 0) = true:=by decide
 have HN0:=keep hn
 have gn1 : 1 ≤ n:=by omega
 have H1:=Lib.hid ((((Ok.start w).add (kCells g o [.string (byt a1)]) hk).var w.heap.size 28 [.int .u8 0,.int .i64 0,.int .i64 0,.int .i64 0,.int .i64 0,.int .i64 0,.string ⟨#[]⟩,.int .u64 0,.int .u64 0,.int .u64 0,.int .u8 0,.int .u64 0,.int .i64 0] rfl).var (w.heap.size + 1) 28 [.int .u8 5,.int .i64 0,.int .i64 0,.int .i64 0,.int .i64 0,.int .i64 0,.string ⟨#[]⟩,.int .u64 0,.int .u64 0,.int .u64 0,.int .u8 0,.int .u64 0,.int .i64 0] (by simp))
 have ha1 : a1.length ≤ 2000:=hL a1 (by simp)
 have HN1:=keep (fun W => r9_ReadNumber (byt a1) ha1 W)
 clear hL hk ha1
 subst hn
 go_enter Tryz.func42,Tryz.ntmps42
 go_upto_region 2 with fail
 generalize ((w.alloc (.cells #[.int .u8 0,.int .i64 0,.int .i64 0,.int .i64 0,.int .i64 0,.int .i64 0,.string ⟨#[]⟩,.int .u64 0,.int .u64 0,.int .u64 0,.int .u8 0,.int .u64 0,.int .i64 0] 28)).alloc (.cells #[.int .u8 5,.int .i64 0,.int .i64 0,.int .i64 0,.int .i64 0,.int .i64 0,.string ⟨#[]⟩,.int .u64 0,.int .u64 0,.int .u64 0,.int .u8 0,.int .u64 0,.int .i64 0] 28)) = W2 at H1 ⊢
 have F3:=H1.out.sees
 simp only [sees,kVar,kCells,cellsFrom,Nat.add_zero,cellsAt,Nat.reduceAdd] at F3
 obtain ⟨⟨⟨z0,fz0⟩,q00,q01,q02,q03,q04,q05,q06,q07,q08,q09,q0a,q0b,q0c,-⟩,⟨⟨z1,fz1⟩,q10,q11,q12,q13,q14,q15,q16,q17,q18,q19,q1a,q1b,q1c,-⟩,⟨z2,q20,-⟩,-⟩:=F3
 go_wp2_with fail
 refine (HN1.out _).mono ?_
 rintro e w4 ⟨v1,ok1,rfl,hv1,hq1,hb5⟩
 clear z0 fz0 q00 q01 q02 q03 q04 q05 q06 q07 q08 q09 q0a q0b q0c z1 fz1 q10 q11 q12 q13 q14 q15 q16 q17 q18 q19 q1a q1b q1c z2 q20
 have HV1:=keep hv1
 have HQ1:=keep hq1
 have H6:=Lib.hid (H1.out.below hb5)
 clear hb5 H1 hv1 hq1
 have F7:=H6.out.sees
 simp only [sees,kVar,kCells,cellsFrom,Nat.add_zero,cellsAt,Nat.reduceAdd] at F7
 obtain ⟨⟨⟨z0,fz0⟩,q00,q01,q02,q03,q04,q05,q06,q07,q08,q09,q0a,q0b,q0c,-⟩,⟨⟨z1,fz1⟩,q10,q11,q12,q13,q14,q15,q16,q17,q18,q19,q1a,q1b,q1c,-⟩,⟨z2,q20,-⟩,-⟩:=F7
 go_upto_region 3 with fail
 clear z0 fz0 q00 q01 q02 q03 q04 q05 q06 q07 q08 q09 q0a q0b q0c z1 fz1 q10 q11 q12 q13 q14 q15 q16 q17 q18 q19 q1a q1b q1c z2 q20
 have hfar:=farOf H6.out (by simp [kCells,kVar] <;> omega)
 have H8:=Lib.hid (H6.out.set_ (i:=1) (u:=.int .i64 v1) (by omega) hfar)
 simp only [List.set_cons_zero,List.set_cons_succ] at H8
 clear hfar
 clear H6
 generalize (w4.setCell ⟨w.heap.size + 1,1,none⟩ (.int .i64 v1)) = W9 at H8 ⊢
 have F10:=H8.out.sees
 simp only [sees,kVar,kCells,cellsFrom,Nat.add_zero,cellsAt,Nat.reduceAdd] at F10
 obtain ⟨⟨⟨z0,fz0⟩,q00,q01,q02,q03,q04,q05,q06,q07,q08,q09,q0a,q0b,q0c,-⟩,⟨⟨z1,fz1⟩,q10,q11,q12,q13,q14,q15,q16,q17,q18,q19,q1a,q1b,q1c,-⟩,⟨z2,q20,-⟩,-⟩:=F10
 go_wp2_with fail
 refine (r9_uses_5 _).mono ?_
 rintro e w11 ⟨rfl,hb12⟩
 clear z0 fz0 q00 q01 q02 q03 q04 q05 q06 q07 q08 q09 q0a q0b q0c z1 fz1 q10 q11 q12 q13 q14 q15 q16 q17 q18 q19 q1a q1b q1c z2 q20
 have H13:=Lib.hid (H8.out.below hb12)
 clear hb12 H8
 have F14:=H13.out.sees
 simp only [sees,kVar,kCells,cellsFrom,Nat.add_zero,cellsAt,Nat.reduceAdd] at F14
 obtain ⟨⟨⟨z0,fz0⟩,q00,q01,q02,q03,q04,q05,q06,q07,q08,q09,q0a,q0b,q0c,-⟩,⟨⟨z1,fz1⟩,q10,q11,q12,q13,q14,q15,q16,q17,q18,q19,q1a,q1b,q1c,-⟩,⟨z2,q20,-⟩,-⟩:=F14
 go_upto_region 15 with fail
 go_wp2_with fail
 clear z0 fz0 q00 q01 q02 q03 q04 q05 q06 q07 q08 q09 q0a q0b q0c z1 fz1 q10 q11 q12 q13 q14 q15 q16 q17 q18 q19 q1a q1b q1c z2 q20
 have hfar:=farOf H13.out.b1 (by simp [kCells,kVar] <;> omega)
 have H15:=Lib.hid (((((((((((((H13.out.b1.set_ (i:=0) (u:=.int .u8 5) (by omega) hfar).set_ (i:=1) (u:=.int .i64 v1) (by omega) hfar).set_ (i:=2) (u:=.int .i64 0) (by omega) hfar).set_ (i:=3) (u:=.int .i64 0) (by omega) hfar).set_ (i:=4) (u:=.int .i64 0) (by omega) hfar).set_ (i:=5) (u:=.int .i64 0) (by omega) hfar).set_ (i:=6) (u:=.string ⟨#[]⟩) (by omega) hfar).set_ (i:=7) (u:=.int .u64 0) (by omega) hfar).set_ (i:=8) (u:=.int .u64 0) (by omega) hfar).set_ (i:=9) (u:=.int .u64 0) (by omega) hfar).set_ (i:=10) (u:=.int .u8 0) (by omega) hfar).set_ (i:=11) (u:=.int .u64 0) (by omega) hfar).set_ (i:=12) (u:=.int .i64 0) (by omega) hfar)
 simp only [List.set_cons_zero,List.set_cons_succ] at H15
 clear hfar
 have hK:=H15.out.get (kVar (w.heap.size) 28 [.int .u8 5,.int .i64 v1,.int .i64 0,.int .i64 0,.int .i64 0,.int .i64 0,.string ⟨#[]⟩,.int .u64 0,.int .u64 0,.int .u64 0,.int .u8 0,.int .u64 0,.int .i64 0]) (by simp)
 have hE:=(show Blk (((((((((((((w11.setCell ⟨w.heap.size,0,none⟩ (.int .u8 5)).setCell ⟨w.heap.size,1,none⟩ (.int .i64 v1)).setCell ⟨w.heap.size,2,none⟩ (.int .i64 0)).setCell ⟨w.heap.size,3,none⟩ (.int .i64 0)).setCell ⟨w.heap.size,4,none⟩ (.int .i64 0)).setCell ⟨w.heap.size,5,none⟩ (.int .i64 0)).setCell ⟨w.heap.size,6,none⟩ (.string ⟨#[]⟩)).setCell ⟨w.heap.size,7,none⟩ (.int .u64 0)).setCell ⟨w.heap.size,8,none⟩ (.int .u64 0)).setCell ⟨w.heap.size,9,none⟩ (.int .u64 0)).setCell ⟨w.heap.size,10,none⟩ (.int .u8 0)).setCell ⟨w.heap.size,11,none⟩ (.int .u64 0)).setCell ⟨w.heap.size,12,none⟩ (.int .i64 0)) (w.heap.size) 28 _ from hK)
 have r0:=hE.cell 0
 have r1:=hE.cell 1
 have r2:=hE.cell 2
 have r3:=hE.cell 3
 have r4:=hE.cell 4
 have r5:=hE.cell 5
 have r6:=hE.cell 6
 have r7:=hE.cell 7
 have r8:=hE.cell 8
 have r9:=hE.cell 9
 have r10:=hE.cell 10
 have r11:=hE.cell 11
 have r12:=hE.cell 12
 simp at r0 r1 r2 r3 r4 r5 r6 r7 r8 r9 r10 r11 r12
 exact bodyPost_ret (v:=.agg #[.int .u8 5,.int .i64 v1,.int .i64 0,.int .i64 0,.int .i64 0,.int .i64 0,.string ⟨#[]⟩,.int .u64 0,.int .u64 0,.int .u64 0,.int .u8 0,.int .u64 0,.int .i64 0]) (by simp [results,Tryz.results42,go_sem,r0,r1,r2,r3,r4,r5,r6,r7,r8,r9,r10,r11,r12]) rfl ⟨(⟨5,v1,R4.zero,[],0,0,0,0,0,0⟩ : OpV),rfl,⟨(show 5 < 256 by decide),HV1.out,i64_z,i64_z,i64_z,i64_z,z64,z64,z64,z256,z64,i64_z⟩,rfl,rfl,(fun y oy gy hky hw => by
   obtain ⟨r,e,hr⟩:=hw
   obtain ⟨e1,e2⟩:=List.cons.inj e
   exact absurd e2 (by simp [usesR])),H15.out.bel⟩
set_option maxRecDepth 100000 in
set_option maxHeartbeats 4000000 in
theorem r9_fld_5_more (g o n c : Nat) (a1 a2 : List UInt8) (rest : List (List UInt8)) (w : World) (hk : (kCells g o [.string (byt a1),.string (byt a2)]).p w) (_hnc : n ≤ c) (hn : n = (a1 :: a2 :: rest).length) (hL : ∀ p ∈ a1 :: a2 :: rest,p.length ≤ 2000) :
  Calls Tryz.prog 42 #[.int .u8 5,.slice (some ⟨g,o,none⟩) n c] w (FldOut 5 (a1 :: a2 :: rest) w):=by
 have hg : g < w.heap.size:=hk.1
 simp only [List.length_cons] at hn
 have hb2 : (bits BinOp.and IntKind.i64 3 2 != 0) = true:=by decide
 have HN0:=keep hn
 have gn1 : 1 ≤ n:=by omega
 have H1:=Lib.hid ((((Ok.start w).add (kCells g o [.string (byt a1),.string (byt a2)]) hk).var w.heap.size 28 [.int .u8 0,.int .i64 0,.int .i64 0,.int .i64 0,.int .i64 0,.int .i64 0,.string ⟨#[]⟩,.int .u64 0,.int .u64 0,.int .u64 0,.int .u8 0,.int .u64 0,.int .i64 0] rfl).var (w.heap.size + 1) 28 [.int .u8 5,.int .i64 0,.int .i64 0,.int .i64 0,.int .i64 0,.int .i64 0,.string ⟨#[]⟩,.int .u64 0,.int .u64 0,.int .u64 0,.int .u8 0,.int .u64 0,.int .i64 0] (by simp))
 have ha1 : a1.length ≤ 2000:=hL a1 (by simp)
 have HN1:=keep (fun W => r9_ReadNumber (byt a1) ha1 W)
 have ha2 : a2.length ≤ 2000:=hL a2 (by simp)
 have HN2:=keep (fun W => r9_ReadRange (byt a2) ha2 W)
 clear hL hk ha1 ha2
 obtain ⟨rl,hrl⟩ : ∃ rl,rest.length = rl:=⟨_,rfl⟩
 rw [hrl] at hn
 clear hrl
 go_enter Tryz.func42,Tryz.ntmps42
 go_upto_region 2 with fail
 generalize ((w.alloc (.cells #[.int .u8 0,.int .i64 0,.int .i64 0,.int .i64 0,.int .i64 0,.int .i64 0,.string ⟨#[]⟩,.int .u64 0,.int .u64 0,.int .u64 0,.int .u8 0,.int .u64 0,.int .i64 0] 28)).alloc (.cells #[.int .u8 5,.int .i64 0,.int .i64 0,.int .i64 0,.int .i64 0,.int .i64 0,.string ⟨#[]⟩,.int .u64 0,.int .u64 0,.int .u64 0,.int .u8 0,.int .u64 0,.int .i64 0] 28)) = W2 at H1 ⊢
 have F3:=H1.out.sees
 simp only [sees,kVar,kCells,cellsFrom,Nat.add_zero,cellsAt,Nat.reduceAdd] at F3
 obtain ⟨⟨⟨z0,fz0⟩,q00,q01,q02,q03,q04,q05,q06,q07,q08,q09,q0a,q0b,q0c,-⟩,⟨⟨z1,fz1⟩,q10,q11,q12,q13,q14,q15,q16,q17,q18,q19,q1a,q1b,q1c,-⟩,⟨z2,q20,q21,-⟩,-⟩:=F3
 go_wp2_with fail
 refine (HN1.out _).mono ?_
 rintro e w4 ⟨v1,ok1,rfl,hv1,hq1,hb5⟩
 clear z0 fz0 q00 q01 q02 q03 q04 q05 q06 q07 q08 q09 q0a q0b q0c z1 fz1 q10 q11 q12 q13 q14 q15 q16 q17 q18 q19 q1a q1b q1c z2 q20 q21
 have HV1:=keep hv1
 have HQ1:=keep hq1
 have H6:=Lib.hid (H1.out.below hb5)
 clear hb5 H1 hv1 hq1
 have F7:=H6.out.sees
 simp only [sees,kVar,kCells,cellsFrom,Nat.add_zero,cellsAt,Nat.reduceAdd] at F7
 obtain ⟨⟨⟨z0,fz0⟩,q00,q01,q02,q03,q04,q05,q06,q07,q08,q09,q0a,q0b,q0c,-⟩,⟨⟨z1,fz1⟩,q10,q11,q12,q13,q14,q15,q16,q17,q18,q19,q1a,q1b,q1c,-⟩,⟨z2,q20,q21,-⟩,-⟩:=F7
 go_upto_region 3 with fail
 clear z0 fz0 q00 q01 q02 q03 q04 q05 q06 q07 q08 q09 q0a q0b q0c z1 fz1 q10 q11 q12 q13 q14 q15 q16 q17 q18 q19 q1a q1b q1c z2 q20 q21
 have hfar:=farOf H6.out (by simp [kCells,kVar] <;> omega)
 have H8:=Lib.hid (H6.out.set_ (i:=1) (u:=.int .i64 v1) (by omega) hfar)
 simp only [List.set_cons_zero,List.set_cons_succ] at H8
 clear hfar
 clear H6
 generalize (w4.setCell ⟨w.heap.size + 1,1,none⟩ (.int .i64 v1)) = W9 at H8 ⊢
 have F10:=H8.out.sees
 simp only [sees,kVar,kCells,cellsFrom,Nat.add_zero,cellsAt,Nat.reduceAdd] at F10
 obtain ⟨⟨⟨z0,fz0⟩,q00,q01,q02,q03,q04,q05,q06,q07,q08,q09,q0a,q0b,q0c,-⟩,⟨⟨z1,fz1⟩,q10,q11,q12,q13,q14,q15,q16,q17,q18,q19,q1a,q1b,q1c,-⟩,⟨z2,q20,q21,-⟩,-⟩:=F10
 go_wp2_with fail
 refine (r9_uses_5 _).mono ?_
 rintro e w11 ⟨rfl,hb12⟩
 clear z0 fz0 q00 q01 q02 q03 q04 q05 q06 q07 q08 q09 q0a q0b q0c z1 fz1 q10 q11 q12 q13 q14 q15 q16 q17 q18 q19 q1a q1b q1c z2 q20 q21
 have H13:=Lib.hid (H8.out.below hb12)
 clear hb12 H8
 have F14:=H13.out.sees
 simp only [sees,kVar,kCells,cellsFrom,Nat.add_zero,cellsAt,Nat.reduceAdd] at F14
 obtain ⟨⟨⟨z0,fz0⟩,q00,q01,q02,q03,q04,q05,q06,q07,q08,q09,q0a,q0b,q0c,-⟩,⟨⟨z1,fz1⟩,q10,q11,q12,q13,q14,q15,q16,q17,q18,q19,q1a,q1b,q1c,-⟩,⟨z2,q20,q21,-⟩,-⟩:=F14
 go_wp2_with fail
 refine (HN2.out _).mono ?_
 rintro e w15 ⟨⟨s1,s2,s3,s4⟩,ok2,rfl,hv2,hq2,hb16⟩
 clear z0 fz0 q00 q01 q02 q03 q04 q05 q06 q07 q08 q09 q0a q0b q0c z1 fz1 q10 q11 q12 q13 q14 q15 q16 q17 q18 q19 q1a q1b q1c z2 q20 q21
 have HV2:=keep hv2
 have HQ2:=keep hq2
 have H17:=Lib.hid (H13.out.below hb16)
 clear hb16 H13 hv2 hq2
 have F18:=H17.out.sees
 simp only [sees,kVar,kCells,cellsFrom,Nat.add_zero,cellsAt,Nat.reduceAdd] at F18
 obtain ⟨⟨⟨z0,fz0⟩,q00,q01,q02,q03,q04,q05,q06,q07,q08,q09,q0a,q0b,q0c,-⟩,⟨⟨z1,fz1⟩,q10,q11,q12,q13,q14,q15,q16,q17,q18,q19,q1a,q1b,q1c,-⟩,⟨z2,q20,q21,-⟩,-⟩:=F18
 go_upto_region 5 with fail
 clear z0 fz0 q00 q01 q02 q03 q04 q05 q06 q07 q08 q09 q0a q0b q0c z1 fz1 q10 q11 q12 q13 q14 q15 q16 q17 q18 q19 q1a q1b q1c z2 q20 q21
 have hfar:=farOf H17.out (by simp [kCells,kVar] <;> omega)
 have H19:=Lib.hid ((((H17.out.set_ (i:=2) (u:=.int .i64 s1) (by omega) hfar).set_ (i:=3) (u:=.int .i64 s2) (by omega) hfar).set_ (i:=4) (u:=.int .i64 s3) (by omega) hfar).set_ (i:=5) (u:=.int .i64 s4) (by omega) hfar)
 simp only [List.set_cons_zero,List.set_cons_succ] at H19
 clear hfar
 clear H17
 generalize ((((w15.setCell ⟨w.heap.size + 1,2,none⟩ (.int .i64 s1)).setCell ⟨w.heap.size + 1,3,none⟩ (.int .i64 s2)).setCell ⟨w.heap.size + 1,4,none⟩ (.int .i64 s3)).setCell ⟨w.heap.size + 1,5,none⟩ (.int .i64 s4)) = W20 at H19 ⊢
 have F21:=H19.out.sees
 simp only [sees,kVar,kCells,cellsFrom,Nat.add_zero,cellsAt,Nat.reduceAdd] at F21
 obtain ⟨⟨⟨z0,fz0⟩,q00,q01,q02,q03,q04,q05,q06,q07,q08,q09,q0a,q0b,q0c,-⟩,⟨⟨z1,fz1⟩,q10,q11,q12,q13,q14,q15,q16,q17,q18,q19,q1a,q1b,q1c,-⟩,⟨z2,q20,q21,-⟩,-⟩:=F21
 go_upto_region 15 with fail
 go_wp2_with fail
 clear z0 fz0 q00 q01 q02 q03 q04 q05 q06 q07 q08 q09 q0a q0b q0c z1 fz1 q10 q11 q12 q13 q14 q15 q16 q17 q18 q19 q1a q1b q1c z2 q20 q21
 have hfar:=farOf H19.out.b1 (by simp [kCells,kVar] <;> omega)
 have H22:=Lib.hid (((((((((((((H19.out.b1.set_ (i:=0) (u:=.int .u8 5) (by omega) hfar).set_ (i:=1) (u:=.int .i64 v1) (by omega) hfar).set_ (i:=2) (u:=.int .i64 s1) (by omega) hfar).set_ (i:=3) (u:=.int .i64 s2) (by omega) hfar).set_ (i:=4) (u:=.int .i64 s3) (by omega) hfar).set_ (i:=5) (u:=.int .i64 s4) (by omega) hfar).set_ (i:=6) (u:=.string ⟨#[]⟩) (by omega) hfar).set_ (i:=7) (u:=.int .u64 0) (by omega) hfar).set_ (i:=8) (u:=.int .u64 0) (by omega) hfar).set_ (i:=9) (u:=.int .u64 0) (by omega) hfar).set_ (i:=10) (u:=.int .u8 0) (by omega) hfar).set_ (i:=11) (u:=.int .u64 0) (by omega) hfar).set_ (i:=12) (u:=.int .i64 0) (by omega) hfar)
 simp only [List.set_cons_zero,List.set_cons_succ] at H22
 clear hfar
 have hK:=H22.out.get (kVar (w.heap.size) 28 [.int .u8 5,.int .i64 v1,.int .i64 s1,.int .i64 s2,.int .i64 s3,.int .i64 s4,.string ⟨#[]⟩,.int .u64 0,.int .u64 0,.int .u64 0,.int .u8 0,.int .u64 0,.int .i64 0]) (by simp)
 have hE:=(show Blk (((((((((((((W20.setCell ⟨w.heap.size,0,none⟩ (.int .u8 5)).setCell ⟨w.heap.size,1,none⟩ (.int .i64 v1)).setCell ⟨w.heap.size,2,none⟩ (.int .i64 s1)).setCell ⟨w.heap.size,3,none⟩ (.int .i64 s2)).setCell ⟨w.heap.size,4,none⟩ (.int .i64 s3)).setCell ⟨w.heap.size,5,none⟩ (.int .i64 s4)).setCell ⟨w.heap.size,6,none⟩ (.string ⟨#[]⟩)).setCell ⟨w.heap.size,7,none⟩ (.int .u64 0)).setCell ⟨w.heap.size,8,none⟩ (.int .u64 0)).setCell ⟨w.heap.size,9,none⟩ (.int .u64 0)).setCell ⟨w.heap.size,10,none⟩ (.int .u8 0)).setCell ⟨w.heap.size,11,none⟩ (.int .u64 0)).setCell ⟨w.heap.size,12,none⟩ (.int .i64 0)) (w.heap.size) 28 _ from hK)
 have r0:=hE.cell 0
 have r1:=hE.cell 1
 have r2:=hE.cell 2
 have r3:=hE.cell 3
 have r4:=hE.cell 4
 have r5:=hE.cell 5
 have r6:=hE.cell 6
 have r7:=hE.cell 7
 have r8:=hE.cell 8
 have r9:=hE.cell 9
 have r10:=hE.cell 10
 have r11:=hE.cell 11
 have r12:=hE.cell 12
 simp at r0 r1 r2 r3 r4 r5 r6 r7 r8 r9 r10 r11 r12
 exact bodyPost_ret (v:=.agg #[.int .u8 5,.int .i64 v1,.int .i64 s1,.int .i64 s2,.int .i64 s3,.int .i64 s4,.string ⟨#[]⟩,.int .u64 0,.int .u64 0,.int .u64 0,.int .u8 0,.int .u64 0,.int .i64 0]) (by simp [results,Tryz.results42,go_sem,r0,r1,r2,r3,r4,r5,r6,r7,r8,r9,r10,r11,r12]) rfl ⟨(⟨5,v1,⟨s1,s2,s3,s4⟩,[],0,0,0,0,0,0⟩ : OpV),rfl,⟨(show 5 < 256 by decide),HV1.out,HV2.out.1,HV2.out.2.1,HV2.out.2.2.1,HV2.out.2.2.2,z64,z64,z64,z256,z64,i64_z⟩,rfl,rfl,(fun y oy gy hky hw => by
   obtain ⟨r,e,hr⟩:=hw
   obtain ⟨e1,e2⟩:=List.cons.inj e
   obtain ⟨e3,e4⟩:=List.cons.inj (show a2 :: rest = rangeL y.rect :: r from e2)
   exact fld_eq _ y gy hky.symm (HQ1.out y.user oy.user e1) (by rw [hky]; exact HQ2.out y.rect ⟨oy.c1,oy.r1,oy.c2,oy.r2⟩ e3) rfl (by rw [hky]; rfl) (by rw [hky]; rfl) (by rw [hky]; rfl) (by rw [hky]; rfl) (by rw [hky]; rfl) (by rw [hky]; rfl)),H22.out.bel⟩
set_option maxRecDepth 100000 in
set_option maxHeartbeats 4000000 in
theorem r9_fld_6_one (g o n c : Nat) (a1 : List UInt8) (w : World) (hk : (kCells g o [.string (byt a1)]).p w) (_hnc : n ≤ c) (hn : n = ([a1]).length) (hL : ∀ p ∈ [a1],p.length ≤ 2000) :
  Calls Tryz.prog 42 #[.int .u8 6,.slice (some ⟨g,o,none⟩) n c] w (FldOut 6 ([a1]) w):=by
 have hg : g < w.heap.size:=hk.1
 simp only [List.length_cons,List.length_nil,Nat.zero_add] at hn
 have hb2 : (bits BinOp.and IntKind.i64 3 2 != 0) = true:=by decide
 have HN0:=keep hn
 have gn1 : 1 ≤ n:=by omega
 have H1:=Lib.hid ((((Ok.start w).add (kCells g o [.string (byt a1)]) hk).var w.heap.size 28 [.int .u8 0,.int .i64 0,.int .i64 0,.int .i64 0,.int .i64 0,.int .i64 0,.string ⟨#[]⟩,.int .u64 0,.int .u64 0,.int .u64 0,.int .u8 0,.int .u64 0,.int .i64 0] rfl).var (w.heap.size + 1) 28 [.int .u8 6,.int .i64 0,.int .i64 0,.int .i64 0,.int .i64 0,.int .i64 0,.string ⟨#[]⟩,.int .u64 0,.int .u64 0,.int .u64 0,.int .u8 0,.int .u64 0,.int .i64 0] (by simp))
 have ha1 : a1.length ≤ 2000:=hL a1 (by simp)
 have HN1:=keep (fun W => r9_ReadNumber (byt a1) ha1 W)
 clear hL hk ha1
 subst hn
 go_enter Tryz.func42,Tryz.ntmps42
 go_upto_region 2 with fail
 generalize ((w.alloc (.cells #[.int .u8 0,.int .i64 0,.int .i64 0,.int .i64 0,.int .i64 0,.int .i64 0,.string ⟨#[]⟩,.int .u64 0,.int .u64 0,.int .u64 0,.int .u8 0,.int .u64 0,.int .i64 0] 28)).alloc (.cells #[.int .u8 6,.int .i64 0,.int .i64 0,.int .i64 0,.int .i64 0,.int .i64 0,.string ⟨#[]⟩,.int .u64 0,.int .u64 0,.int .u64 0,.int .u8 0,.int .u64 0,.int .i64 0] 28)) = W2 at H1 ⊢
 have F3:=H1.out.sees
 simp only [sees,kVar,kCells,cellsFrom,Nat.add_zero,cellsAt,Nat.reduceAdd] at F3
 obtain ⟨⟨⟨z0,fz0⟩,q00,q01,q02,q03,q04,q05,q06,q07,q08,q09,q0a,q0b,q0c,-⟩,⟨⟨z1,fz1⟩,q10,q11,q12,q13,q14,q15,q16,q17,q18,q19,q1a,q1b,q1c,-⟩,⟨z2,q20,-⟩,-⟩:=F3
 go_wp2_with fail
 refine (HN1.out _).mono ?_
 rintro e w4 ⟨v1,ok1,rfl,hv1,hq1,hb5⟩
 clear z0 fz0 q00 q01 q02 q03 q04 q05 q06 q07 q08 q09 q0a q0b q0c z1 fz1 q10 q11 q12 q13 q14 q15 q16 q17 q18 q19 q1a q1b q1c z2 q20
 have HV1:=keep hv1
 have HQ1:=keep hq1
 have H6:=Lib.hid (H1.out.below hb5)
 clear hb5 H1 hv1 hq1
 have F7:=H6.out.sees
 simp only [sees,kVar,kCells,cellsFrom,Nat.add_zero,cellsAt,Nat.reduceAdd] at F7
 obtain ⟨⟨⟨z0,fz0⟩,q00,q01,q02,q03,q04,q05,q06,q07,q08,q09,q0a,q0b,q0c,-⟩,⟨⟨z1,fz1⟩,q10,q11,q12,q13,q14,q15,q16,q17,q18,q19,q1a,q1b,q1c,-⟩,⟨z2,q20,-⟩,-⟩:=F7
 go_upto_region 3 with fail
 clear z0 fz0 q00 q01 q02 q03 q04 q05 q06 q07 q08 q09 q0a q0b q0c z1 fz1 q10 q11 q12 q13 q14 q15 q16 q17 q18 q19 q1a q1b q1c z2 q20
 have hfar:=farOf H6.out (by simp [kCells,kVar] <;> omega)
 have H8:=Lib.hid (H6.out.set_ (i:=1) (u:=.int .i64 v1) (by omega) hfar)
 simp only [List.set_cons_zero,List.set_cons_succ] at H8
 clear hfar
 clear H6
 generalize (w4.setCell ⟨w.heap.size + 1,1,none⟩ (.int .i64 v1)) = W9 at H8 ⊢
 have F10:=H8.out.sees
 simp only [sees,kVar,kCells,cellsFrom,Nat.add_zero,cellsAt,Nat.reduceAdd] at F10
 obtain ⟨⟨⟨z0,fz0⟩,q00,q01,q02,q03,q04,q05,q06,q07,q08,q09,q0a,q0b,q0c,-⟩,⟨⟨z1,fz1⟩,q10,q11,q12,q13,q14,q15,q16,q17,q18,q19,q1a,q1b,q1c,-⟩,⟨z2,q20,-⟩,-⟩:=F10
 go_wp2_with fail
 refine (r9_uses_6 _).mono ?_
 rintro e w11 ⟨rfl,hb12⟩
 clear z0 fz0 q00 q01 q02 q03 q04 q05 q06 q07 q08 q09 q0a q0b q0c z1 fz1 q10 q11 q12 q13 q14 q15 q16 q17 q18 q19 q1a q1b q1c z2 q20
 have H13:=Lib.hid (H8.out.below hb12)
 clear hb12 H8
 have F14:=H13.out.sees
 simp only [sees,kVar,kCells,cellsFrom,Nat.add_zero,cellsAt,Nat.reduceAdd] at F14
 obtain ⟨⟨⟨z0,fz0⟩,q00,q01,q02,q03,q04,q05,q06,q07,q08,q09,q0a,q0b,q0c,-⟩,⟨⟨z1,fz1⟩,q10,q11,q12,q13,q14,q15,q16,q17,q18,q19,q1a,q1b,q1c,-⟩,⟨z2,q20,-⟩,-⟩:=F14
 go_upto_region 15 with fail
 go_wp2_with fail
 clear z0 fz0 q00 q01 q02 q03 q04 q05 q06 q07 q08 q09 q0a q0b q0c z1 fz1 q10 q11 q12 q13 q14 q15 q16 q17 q18 q19 q1a q1b q1c z2 q20
 have hfar:=farOf H13.out.b1 (by simp [kCells,kVar] <;> omega)
 have H15:=Lib.hid (((((((((((((H13.out.b1.set_ (i:=0) (u:=.int .u8 6) (by omega) hfar).set_ (i:=1) (u:=.int .i64 v1) (by omega) hfar).set_ (i:=2) (u:=.int .i64 0) (by omega) hfar).set_ (i:=3) (u:=.int .i64 0) (by omega) hfar).set_ (i:=4) (u:=.int .i64 0) (by omega) hfar).set_ (i:=5) (u:=.int .i64 0) (by omega) hfar).set_ (i:=6) (u:=.string ⟨#[]⟩) (by omega) hfar).set_ (i:=7) (u:=.int .u64 0) (by omega) hfar).set_ (i:=8) (u:=.int .u64 0) (by omega) hfar).set_ (i:=9) (u:=.int .u64 0) (by omega) hfar).set_ (i:=10) (u:=.int .u8 0) (by omega) hfar).set_ (i:=11) (u:=.int .u64 0) (by omega) hfar).set_ (i:=12) (u:=.int .i64 0) (by omega) hfar)
 simp only [List.set_cons_zero,List.set_cons_succ] at H15
 clear hfar
 have hK:=H15.out.get (kVar (w.heap.size) 28 [.int .u8 6,.int .i64 v1,.int .i64 0,.int .i64 0,.int .i64 0,.int .i64 0,.string ⟨#[]⟩,.int .u64 0,.int .u64 0,.int .u64 0,.int .u8 0,.int .u64 0,.int .i64 0]) (by simp)
 have hE:=(show Blk (((((((((((((w11.setCell ⟨w.heap.size,0,none⟩ (.int .u8 6)).setCell ⟨w.heap.size,1,none⟩ (.int .i64 v1)).setCell ⟨w.heap.size,2,none⟩ (.int .i64 0)).setCell ⟨w.heap.size,3,none⟩ (.int .i64 0)).setCell ⟨w.heap.size,4,none⟩ (.int .i64 0)).setCell ⟨w.heap.size,5,none⟩ (.int .i64 0)).setCell ⟨w.heap.size,6,none⟩ (.string ⟨#[]⟩)).setCell ⟨w.heap.size,7,none⟩ (.int .u64 0)).setCell ⟨w.heap.size,8,none⟩ (.int .u64 0)).setCell ⟨w.heap.size,9,none⟩ (.int .u64 0)).setCell ⟨w.heap.size,10,none⟩ (.int .u8 0)).setCell ⟨w.heap.size,11,none⟩ (.int .u64 0)).setCell ⟨w.heap.size,12,none⟩ (.int .i64 0)) (w.heap.size) 28 _ from hK)
 have r0:=hE.cell 0
 have r1:=hE.cell 1
 have r2:=hE.cell 2
 have r3:=hE.cell 3
 have r4:=hE.cell 4
 have r5:=hE.cell 5
 have r6:=hE.cell 6
 have r7:=hE.cell 7
 have r8:=hE.cell 8
 have r9:=hE.cell 9
 have r10:=hE.cell 10
 have r11:=hE.cell 11
 have r12:=hE.cell 12
 simp at r0 r1 r2 r3 r4 r5 r6 r7 r8 r9 r10 r11 r12
 exact bodyPost_ret (v:=.agg #[.int .u8 6,.int .i64 v1,.int .i64 0,.int .i64 0,.int .i64 0,.int .i64 0,.string ⟨#[]⟩,.int .u64 0,.int .u64 0,.int .u64 0,.int .u8 0,.int .u64 0,.int .i64 0]) (by simp [results,Tryz.results42,go_sem,r0,r1,r2,r3,r4,r5,r6,r7,r8,r9,r10,r11,r12]) rfl ⟨(⟨6,v1,R4.zero,[],0,0,0,0,0,0⟩ : OpV),rfl,⟨(show 6 < 256 by decide),HV1.out,i64_z,i64_z,i64_z,i64_z,z64,z64,z64,z256,z64,i64_z⟩,rfl,rfl,(fun y oy gy hky hw => by
   obtain ⟨r,e,hr⟩:=hw
   obtain ⟨e1,e2⟩:=List.cons.inj e
   exact absurd e2 (by simp [usesR])),H15.out.bel⟩
set_option maxRecDepth 100000 in
set_option maxHeartbeats 4000000 in
theorem r9_fld_6_more (g o n c : Nat) (a1 a2 : List UInt8) (rest : List (List UInt8)) (w : World) (hk : (kCells g o [.string (byt a1),.string (byt a2)]).p w) (_hnc : n ≤ c) (hn : n = (a1 :: a2 :: rest).length) (hL : ∀ p ∈ a1 :: a2 :: rest,p.length ≤ 2000) :
  Calls Tryz.prog 42 #[.int .u8 6,.slice (some ⟨g,o,none⟩) n c] w (FldOut 6 (a1 :: a2 :: rest) w):=by
 have hg : g < w.heap.size:=hk.1
 simp only [List.length_cons] at hn
 have hb2 : (bits BinOp.and IntKind.i64 3 2 != 0) = true:=by decide
 have HN0:=keep hn
 have gn1 : 1 ≤ n:=by omega
 have H1:=Lib.hid ((((Ok.start w).add (kCells g o [.string (byt a1),.string (byt a2)]) hk).var w.heap.size 28 [.int .u8 0,.int .i64 0,.int .i64 0,.int .i64 0,.int .i64 0,.int .i64 0,.string ⟨#[]⟩,.int .u64 0,.int .u64 0,.int .u64 0,.int .u8 0,.int .u64 0,.int .i64 0] rfl).var (w.heap.size + 1) 28 [.int .u8 6,.int .i64 0,.int .i64 0,.int .i64 0,.int .i64 0,.int .i64 0,.string ⟨#[]⟩,.int .u64 0,.int .u64 0,.int .u64 0,.int .u8 0,.int .u64 0,.int .i64 0] (by simp))
 have ha1 : a1.length ≤ 2000:=hL a1 (by simp)
 have HN1:=keep (fun W => r9_ReadNumber (byt a1) ha1 W)
 have ha2 : a2.length ≤ 2000:=hL a2 (by simp)
 have HN2:=keep (fun W => r9_ReadRange (byt a2) ha2 W)
 clear hL hk ha1 ha2
 obtain ⟨rl,hrl⟩ : ∃ rl,rest.length = rl:=⟨_,rfl⟩
 rw [hrl] at hn
 clear hrl
 go_enter Tryz.func42,Tryz.ntmps42
 go_upto_region 2 with fail
 generalize ((w.alloc (.cells #[.int .u8 0,.int .i64 0,.int .i64 0,.int .i64 0,.int .i64 0,.int .i64 0,.string ⟨#[]⟩,.int .u64 0,.int .u64 0,.int .u64 0,.int .u8 0,.int .u64 0,.int .i64 0] 28)).alloc (.cells #[.int .u8 6,.int .i64 0,.int .i64 0,.int .i64 0,.int .i64 0,.int .i64 0,.string ⟨#[]⟩,.int .u64 0,.int .u64 0,.int .u64 0,.int .u8 0,.int .u64 0,.int .i64 0] 28)) = W2 at H1 ⊢
 have F3:=H1.out.sees
 simp only [sees,kVar,kCells,cellsFrom,Nat.add_zero,cellsAt,Nat.reduceAdd] at F3
 obtain ⟨⟨⟨z0,fz0⟩,q00,q01,q02,q03,q04,q05,q06,q07,q08,q09,q0a,q0b,q0c,-⟩,⟨⟨z1,fz1⟩,q10,q11,q12,q13,q14,q15,q16,q17,q18,q19,q1a,q1b,q1c,-⟩,⟨z2,q20,q21,-⟩,-⟩:=F3
 go_wp2_with fail
 refine (HN1.out _).mono ?_
 rintro e w4 ⟨v1,ok1,rfl,hv1,hq1,hb5⟩
 clear z0 fz0 q00 q01 q02 q03 q04 q05 q06 q07 q08 q09 q0a q0b q0c z1 fz1 q10 q11 q12 q13 q14 q15 q16 q17 q18 q19 q1a q1b q1c z2 q20 q21
 have HV1:=keep hv1
 have HQ1:=keep hq1
 have H6:=Lib.hid (H1.out.below hb5)
 clear hb5 H1 hv1 hq1
 have F7:=H6.out.sees
 simp only [sees,kVar,kCells,cellsFrom,Nat.add_zero,cellsAt,Nat.reduceAdd] at F7
 obtain ⟨⟨⟨z0,fz0⟩,q00,q01,q02,q03,q04,q05,q06,q07,q08,q09,q0a,q0b,q0c,-⟩,⟨⟨z1,fz1⟩,q10,q11,q12,q13,q14,q15,q16,q17,q18,q19,q1a,q1b,q1c,-⟩,⟨z2,q20,q21,-⟩,-⟩:=F7
 go_upto_region 3 with fail
 clear z0 fz0 q00 q01 q02 q03 q04 q05 q06 q07 q08 q09 q0a q0b q0c z1 fz1 q10 q11 q12 q13 q14 q15 q16 q17 q18 q19 q1a q1b q1c z2 q20 q21
 have hfar:=farOf H6.out (by simp [kCells,kVar] <;> omega)
 have H8:=Lib.hid (H6.out.set_ (i:=1) (u:=.int .i64 v1) (by omega) hfar)
 simp only [List.set_cons_zero,List.set_cons_succ] at H8
 clear hfar
 clear H6
 generalize (w4.setCell ⟨w.heap.size + 1,1,none⟩ (.int .i64 v1)) = W9 at H8 ⊢
 have F10:=H8.out.sees
 simp only [sees,kVar,kCells,cellsFrom,Nat.add_zero,cellsAt,Nat.reduceAdd] at F10
 obtain ⟨⟨⟨z0,fz0⟩,q00,q01,q02,q03,q04,q05,q06,q07,q08,q09,q0a,q0b,q0c,-⟩,⟨⟨z1,fz1⟩,q10,q11,q12,q13,q14,q15,q16,q17,q18,q19,q1a,q1b,q1c,-⟩,⟨z2,q20,q21,-⟩,-⟩:=F10
 go_wp2_with fail
 refine (r9_uses_6 _).mono ?_
 rintro e w11 ⟨rfl,hb12⟩
 clear z0 fz0 q00 q01 q02 q03 q04 q05 q06 q07 q08 q09 q0a q0b q0c z1 fz1 q10 q11 q12 q13 q14 q15 q16 q17 q18 q19 q1a q1b q1c z2 q20 q21
 have H13:=Lib.hid (H8.out.below hb12)
 clear hb12 H8
 have F14:=H13.out.sees
 simp only [sees,kVar,kCells,cellsFrom,Nat.add_zero,cellsAt,Nat.reduceAdd] at F14
 obtain ⟨⟨⟨z0,fz0⟩,q00,q01,q02,q03,q04,q05,q06,q07,q08,q09,q0a,q0b,q0c,-⟩,⟨⟨z1,fz1⟩,q10,q11,q12,q13,q14,q15,q16,q17,q18,q19,q1a,q1b,q1c,-⟩,⟨z2,q20,q21,-⟩,-⟩:=F14
 go_wp2_with fail
 refine (HN2.out _).mono ?_
 rintro e w15 ⟨⟨s1,s2,s3,s4⟩,ok2,rfl,hv2,hq2,hb16⟩
 clear z0 fz0 q00 q01 q02 q03 q04 q05 q06 q07 q08 q09 q0a q0b q0c z1 fz1 q10 q11 q12 q13 q14 q15 q16 q17 q18 q19 q1a q1b q1c z2 q20 q21
 have HV2:=keep hv2
 have HQ2:=keep hq2
 have H17:=Lib.hid (H13.out.below hb16)
 clear hb16 H13 hv2 hq2
 have F18:=H17.out.sees
 simp only [sees,kVar,kCells,cellsFrom,Nat.add_zero,cellsAt,Nat.reduceAdd] at F18
 obtain ⟨⟨⟨z0,fz0⟩,q00,q01,q02,q03,q04,q05,q06,q07,q08,q09,q0a,q0b,q0c,-⟩,⟨⟨z1,fz1⟩,q10,q11,q12,q13,q14,q15,q16,q17,q18,q19,q1a,q1b,q1c,-⟩,⟨z2,q20,q21,-⟩,-⟩:=F18
 go_upto_region 5 with fail
 clear z0 fz0 q00 q01 q02 q03 q04 q05 q06 q07 q08 q09 q0a q0b q0c z1 fz1 q10 q11 q12 q13 q14 q15 q16 q17 q18 q19 q1a q1b q1c z2 q20 q21
 have hfar:=farOf H17.out (by simp [kCells,kVar] <;> omega)
 have H19:=Lib.hid ((((H17.out.set_ (i:=2) (u:=.int .i64 s1) (by omega) hfar).set_ (i:=3) (u:=.int .i64 s2) (by omega) hfar).set_ (i:=4) (u:=.int .i64 s3) (by omega) hfar).set_ (i:=5) (u:=.int .i64 s4) (by omega) hfar)
 simp only [List.set_cons_zero,List.set_cons_succ] at H19
 clear hfar
 clear H17
 generalize ((((w15.setCell ⟨w.heap.size + 1,2,none⟩ (.int .i64 s1)).setCell ⟨w.heap.size + 1,3,none⟩ (.int .i64 s2)).setCell ⟨w.heap.size + 1,4,none⟩ (.int .i64 s3)).setCell ⟨w.heap.size + 1,5,none⟩ (.int .i64 s4)) = W20 at H19 ⊢
 have F21:=H19.out.sees
 simp only [sees,kVar,kCells,cellsFrom,Nat.add_zero,cellsAt,Nat.reduceAdd] at F21
 obtain ⟨⟨⟨z0,fz0⟩,q00,q01,q02,q03,q04,q05,q06,q07,q08,q09,q0a,q0b,q0c,-⟩,⟨⟨z1,fz1⟩,q10,q11,q12,q13,q14,q15,q16,q17,q18,q19,q1a,q1b,q1c,-⟩,⟨z2,q20,q21,-⟩,-⟩:=F21
 go_upto_region 15 with fail
 go_wp2_with fail
 clear z0 fz0 q00 q01 q02 q03 q04 q05 q06 q07 q08 q09 q0a q0b q0c z1 fz1 q10 q11 q12 q13 q14 q15 q16 q17 q18 q19 q1a q1b q1c z2 q20 q21
 have hfar:=farOf H19.out.b1 (by simp [kCells,kVar] <;> omega)
 have H22:=Lib.hid (((((((((((((H19.out.b1.set_ (i:=0) (u:=.int .u8 6) (by omega) hfar).set_ (i:=1) (u:=.int .i64 v1) (by omega) hfar).set_ (i:=2) (u:=.int .i64 s1) (by omega) hfar).set_ (i:=3) (u:=.int .i64 s2) (by omega) hfar).set_ (i:=4) (u:=.int .i64 s3) (by omega) hfar).set_ (i:=5) (u:=.int .i64 s4) (by omega) hfar).set_ (i:=6) (u:=.string ⟨#[]⟩) (by omega) hfar).set_ (i:=7) (u:=.int .u64 0) (by omega) hfar).set_ (i:=8) (u:=.int .u64 0) (by omega) hfar).set_ (i:=9) (u:=.int .u64 0) (by omega) hfar).set_ (i:=10) (u:=.int .u8 0) (by omega) hfar).set_ (i:=11) (u:=.int .u64 0) (by omega) hfar).set_ (i:=12) (u:=.int .i64 0) (by omega) hfar)
 simp only [List.set_cons_zero,List.set_cons_succ] at H22
 clear hfar
 have hK:=H22.out.get (kVar (w.heap.size) 28 [.int .u8 6,.int .i64 v1,.int .i64 s1,.int .i64 s2,.int .i64 s3,.int .i64 s4,.string ⟨#[]⟩,.int .u64 0,.int .u64 0,.int .u64 0,.int .u8 0,.int .u64 0,.int .i64 0]) (by simp)
 have hE:=(show Blk (((((((((((((W20.setCell ⟨w.heap.size,0,none⟩ (.int .u8 6)).setCell ⟨w.heap.size,1,none⟩ (.int .i64 v1)).setCell ⟨w.heap.size,2,none⟩ (.int .i64 s1)).setCell ⟨w.heap.size,3,none⟩ (.int .i64 s2)).setCell ⟨w.heap.size,4,none⟩ (.int .i64 s3)).setCell ⟨w.heap.size,5,none⟩ (.int .i64 s4)).setCell ⟨w.heap.size,6,none⟩ (.string ⟨#[]⟩)).setCell ⟨w.heap.size,7,none⟩ (.int .u64 0)).setCell ⟨w.heap.size,8,none⟩ (.int .u64 0)).setCell ⟨w.heap.size,9,none⟩ (.int .u64 0)).setCell ⟨w.heap.size,10,none⟩ (.int .u8 0)).setCell ⟨w.heap.size,11,none⟩ (.int .u64 0)).setCell ⟨w.heap.size,12,none⟩ (.int .i64 0)) (w.heap.size) 28 _ from hK)
 have r0:=hE.cell 0
 have r1:=hE.cell 1
 have r2:=hE.cell 2
 have r3:=hE.cell 3
 have r4:=hE.cell 4
 have r5:=hE.cell 5
 have r6:=hE.cell 6
 have r7:=hE.cell 7
 have r8:=hE.cell 8
 have r9:=hE.cell 9
 have r10:=hE.cell 10
 have r11:=hE.cell 11
 have r12:=hE.cell 12
 simp at r0 r1 r2 r3 r4 r5 r6 r7 r8 r9 r10 r11 r12
 exact bodyPost_ret (v:=.agg #[.int .u8 6,.int .i64 v1,.int .i64 s1,.int .i64 s2,.int .i64 s3,.int .i64 s4,.string ⟨#[]⟩,.int .u64 0,.int .u64 0,.int .u64 0,.int .u8 0,.int .u64 0,.int .i64 0]) (by simp [results,Tryz.results42,go_sem,r0,r1,r2,r3,r4,r5,r6,r7,r8,r9,r10,r11,r12]) rfl ⟨(⟨6,v1,⟨s1,s2,s3,s4⟩,[],0,0,0,0,0,0⟩ : OpV),rfl,⟨(show 6 < 256 by decide),HV1.out,HV2.out.1,HV2.out.2.1,HV2.out.2.2.1,HV2.out.2.2.2,z64,z64,z64,z256,z64,i64_z⟩,rfl,rfl,(fun y oy gy hky hw => by
   obtain ⟨r,e,hr⟩:=hw
   obtain ⟨e1,e2⟩:=List.cons.inj e
   obtain ⟨e3,e4⟩:=List.cons.inj (show a2 :: rest = rangeL y.rect :: r from e2)
   exact fld_eq _ y gy hky.symm (HQ1.out y.user oy.user e1) (by rw [hky]; exact HQ2.out y.rect ⟨oy.c1,oy.r1,oy.c2,oy.r2⟩ e3) rfl (by rw [hky]; rfl) (by rw [hky]; rfl) (by rw [hky]; rfl) (by rw [hky]; rfl) (by rw [hky]; rfl) (by rw [hky]; rfl)),H22.out.bel⟩
set_option maxRecDepth 100000 in
set_option maxHeartbeats 4000000 in
theorem r9_fld_7_one (g o n c : Nat) (a1 : List UInt8) (w : World) (hk : (kCells g o [.string (byt a1)]).p w) (_hnc : n ≤ c) (hn : n = ([a1]).length) (hL : ∀ p ∈ [a1],p.length ≤ 2000) :
  Calls Tryz.prog 42 #[.int .u8 7,.slice (some ⟨g,o,none⟩) n c] w (FldOut 7 ([a1]) w):=by
 have hg : g < w.heap.size:=hk.1
 simp only [List.length_cons,List.length_nil,Nat.zero_add] at hn
 have hb2 : (bits BinOp.and IntKind.i64 11 2 != 0) = true:=by decide
 have HN0:=keep hn
 have gn1 : 1 ≤ n:=by omega
 have H1:=Lib.hid ((((Ok.start w).add (kCells g o [.string (byt a1)]) hk).var w.heap.size 28 [.int .u8 0,.int .i64 0,.int .i64 0,.int .i64 0,.int .i64 0,.int .i64 0,.string ⟨#[]⟩,.int .u64 0,.int .u64 0,.int .u64 0,.int .u8 0,.int .u64 0,.int .i64 0] rfl).var (w.heap.size + 1) 28 [.int .u8 7,.int .i64 0,.int .i64 0,.int .i64 0,.int .i64 0,.int .i64 0,.string ⟨#[]⟩,.int .u64 0,.int .u64 0,.int .u64 0,.int .u8 0,.int .u64 0,.int .i64 0] (by simp))
 have ha1 : a1.length ≤ 2000:=hL a1 (by simp)
 have HN1:=keep (fun W => r9_ReadNumber (byt a1) ha1 W)
 clear hL hk ha1
 subst hn
 go_enter Tryz.func42,Tryz.ntmps42
 go_upto_region 2 with fail
 generalize ((w.alloc (.cells #[.int .u8 0,.int .i64 0,.int .i64 0,.int .i64 0,.int .i64 0,.int .i64 0,.string ⟨#[]⟩,.int .u64 0,.int .u64 0,.int .u64 0,.int .u8 0,.int .u64 0,.int .i64 0] 28)).alloc (.cells #[.int .u8 7,.int .i64 0,.int .i64 0,.int .i64 0,.int .i64 0,.int .i64 0,.string ⟨#[]⟩,.int .u64 0,.int .u64 0,.int .u64 0,.int .u8 0,.int .u64 0,.int .i64 0] 28)) = W2 at H1 ⊢
 have F3:=H1.out.sees
 simp only [sees,kVar,kCells,cellsFrom,Nat.add_zero,cellsAt,Nat.reduceAdd] at F3
 obtain ⟨⟨⟨z0,fz0⟩,q00,q01,q02,q03,q04,q05,q06,q07,q08,q09,q0a,q0b,q0c,-⟩,⟨⟨z1,fz1⟩,q10,q11,q12,q13,q14,q15,q16,q17,q18,q19,q1a,q1b,q1c,-⟩,⟨z2,q20,-⟩,-⟩:=F3
 go_wp2_with fail
 refine (HN1.out _).mono ?_
 rintro e w4 ⟨v1,ok1,rfl,hv1,hq1,hb5⟩
 clear z0 fz0 q00 q01 q02 q03 q04 q05 q06 q07 q08 q09 q0a q0b q0c z1 fz1 q10 q11 q12 q13 q14 q15 q16 q17 q18 q19 q1a q1b q1c z2 q20
 have HV1:=keep hv1
 have HQ1:=keep hq1
 have H6:=Lib.hid (H1.out.below hb5)
 clear hb5 H1 hv1 hq1
 have F7:=H6.out.sees
 simp only [sees,kVar,kCells,cellsFrom,Nat.add_zero,cellsAt,Nat.reduceAdd] at F7
 obtain ⟨⟨⟨z0,fz0⟩,q00,q01,q02,q03,q04,q05,q06,q07,q08,q09,q0a,q0b,q0c,-⟩,⟨⟨z1,fz1⟩,q10,q11,q12,q13,q14,q15,q16,q17,q18,q19,q1a,q1b,q1c,-⟩,⟨z2,q20,-⟩,-⟩:=F7
 go_upto_region 3 with fail
 clear z0 fz0 q00 q01 q02 q03 q04 q05 q06 q07 q08 q09 q0a q0b q0c z1 fz1 q10 q11 q12 q13 q14 q15 q16 q17 q18 q19 q1a q1b q1c z2 q20
 have hfar:=farOf H6.out (by simp [kCells,kVar] <;> omega)
 have H8:=Lib.hid (H6.out.set_ (i:=1) (u:=.int .i64 v1) (by omega) hfar)
 simp only [List.set_cons_zero,List.set_cons_succ] at H8
 clear hfar
 clear H6
 generalize (w4.setCell ⟨w.heap.size + 1,1,none⟩ (.int .i64 v1)) = W9 at H8 ⊢
 have F10:=H8.out.sees
 simp only [sees,kVar,kCells,cellsFrom,Nat.add_zero,cellsAt,Nat.reduceAdd] at F10
 obtain ⟨⟨⟨z0,fz0⟩,q00,q01,q02,q03,q04,q05,q06,q07,q08,q09,q0a,q0b,q0c,-⟩,⟨⟨z1,fz1⟩,q10,q11,q12,q13,q14,q15,q16,q17,q18,q19,q1a,q1b,q1c,-⟩,⟨z2,q20,-⟩,-⟩:=F10
 go_wp2_with fail
 refine (r9_uses_7 _).mono ?_
 rintro e w11 ⟨rfl,hb12⟩
 clear z0 fz0 q00 q01 q02 q03 q04 q05 q06 q07 q08 q09 q0a q0b q0c z1 fz1 q10 q11 q12 q13 q14 q15 q16 q17 q18 q19 q1a q1b q1c z2 q20
 have H13:=Lib.hid (H8.out.below hb12)
 clear hb12 H8
 have F14:=H13.out.sees
 simp only [sees,kVar,kCells,cellsFrom,Nat.add_zero,cellsAt,Nat.reduceAdd] at F14
 obtain ⟨⟨⟨z0,fz0⟩,q00,q01,q02,q03,q04,q05,q06,q07,q08,q09,q0a,q0b,q0c,-⟩,⟨⟨z1,fz1⟩,q10,q11,q12,q13,q14,q15,q16,q17,q18,q19,q1a,q1b,q1c,-⟩,⟨z2,q20,-⟩,-⟩:=F14
 go_upto_region 15 with fail
 go_wp2_with fail
 clear z0 fz0 q00 q01 q02 q03 q04 q05 q06 q07 q08 q09 q0a q0b q0c z1 fz1 q10 q11 q12 q13 q14 q15 q16 q17 q18 q19 q1a q1b q1c z2 q20
 have hfar:=farOf H13.out.b1 (by simp [kCells,kVar] <;> omega)
 have H15:=Lib.hid (((((((((((((H13.out.b1.set_ (i:=0) (u:=.int .u8 7) (by omega) hfar).set_ (i:=1) (u:=.int .i64 v1) (by omega) hfar).set_ (i:=2) (u:=.int .i64 0) (by omega) hfar).set_ (i:=3) (u:=.int .i64 0) (by omega) hfar).set_ (i:=4) (u:=.int .i64 0) (by omega) hfar).set_ (i:=5) (u:=.int .i64 0) (by omega) hfar).set_ (i:=6) (u:=.string ⟨#[]⟩) (by omega) hfar).set_ (i:=7) (u:=.int .u64 0) (by omega) hfar).set_ (i:=8) (u:=.int .u64 0) (by omega) hfar).set_ (i:=9) (u:=.int .u64 0) (by omega) hfar).set_ (i:=10) (u:=.int .u8 0) (by omega) hfar).set_ (i:=11) (u:=.int .u64 0) (by omega) hfar).set_ (i:=12) (u:=.int .i64 0) (by omega) hfar)
 simp only [List.set_cons_zero,List.set_cons_succ] at H15
 clear hfar
 have hK:=H15.out.get (kVar (w.heap.size) 28 [.int .u8 7,.int .i64 v1,.int .i64 0,.int .i64 0,.int .i64 0,.int .i64 0,.string ⟨#[]⟩,.int .u64 0,.int .u64 0,.int .u64 0,.int .u8 0,.int .u64 0,.int .i64 0]) (by simp)
 have hE:=(show Blk (((((((((((((w11.setCell ⟨w.heap.size,0,none⟩ (.int .u8 7)).setCell ⟨w.heap.size,1,none⟩ (.int .i64 v1)).setCell ⟨w.heap.size,2,none⟩ (.int .i64 0)).setCell ⟨w.heap.size,3,none⟩ (.int .i64 0)).setCell ⟨w.heap.size,4,none⟩ (.int .i64 0)).setCell ⟨w.heap.size,5,none⟩ (.int .i64 0)).setCell ⟨w.heap.size,6,none⟩ (.string ⟨#[]⟩)).setCell ⟨w.heap.size,7,none⟩ (.int .u64 0)).setCell ⟨w.heap.size,8,none⟩ (.int .u64 0)).setCell ⟨w.heap.size,9,none⟩ (.int .u64 0)).setCell ⟨w.heap.size,10,none⟩ (.int .u8 0)).setCell ⟨w.heap.size,11,none⟩ (.int .u64 0)).setCell ⟨w.heap.size,12,none⟩ (.int .i64 0)) (w.heap.size) 28 _ from hK)
 have r0:=hE.cell 0
 have r1:=hE.cell 1
 have r2:=hE.cell 2
 have r3:=hE.cell 3
 have r4:=hE.cell 4
 have r5:=hE.cell 5
 have r6:=hE.cell 6
 have r7:=hE.cell 7
 have r8:=hE.cell 8
 have r9:=hE.cell 9
 have r10:=hE.cell 10
 have r11:=hE.cell 11
 have r12:=hE.cell 12
 simp at r0 r1 r2 r3 r4 r5 r6 r7 r8 r9 r10 r11 r12
 exact bodyPost_ret (v:=.agg #[.int .u8 7,.int .i64 v1,.int .i64 0,.int .i64 0,.int .i64 0,.int .i64 0,.string ⟨#[]⟩,.int .u64 0,.int .u64 0,.int .u64 0,.int .u8 0,.int .u64 0,.int .i64 0]) (by simp [results,Tryz.results42,go_sem,r0,r1,r2,r3,r4,r5,r6,r7,r8,r9,r10,r11,r12]) rfl ⟨(⟨7,v1,R4.zero,[],0,0,0,0,0,0⟩ : OpV),rfl,⟨(show 7 < 256 by decide),HV1.out,i64_z,i64_z,i64_z,i64_z,z64,z64,z64,z256,z64,i64_z⟩,rfl,rfl,(fun y oy gy hky hw => by
   obtain ⟨r,e,hr⟩:=hw
   obtain ⟨e1,e2⟩:=List.cons.inj e
   exact absurd e2 (by simp [usesR])),H15.out.bel⟩
set_option maxRecDepth 100000 in
set_option maxHeartbeats 4000000 in
theorem r9_fld_7_more (g o n c : Nat) (a1 a2 : List UInt8) (rest : List (List UInt8)) (w : World) (hk : (kCells g o [.string (byt a1),.string (byt a2)]).p w) (_hnc : n ≤ c) (hn : n = (a1 :: a2 :: rest).length) (hn5 : ((n : Int) == 5) = false) (hL : ∀ p ∈ a1 :: a2 :: rest,p.length ≤ 2000) :
  Calls Tryz.prog 42 #[.int .u8 7,.slice (some ⟨g,o,none⟩) n c] w (FldOut 7 (a1 :: a2 :: rest) w):=by
 have hg : g < w.heap.size:=hk.1
 simp only [List.length_cons] at hn
 have hb2 : (bits BinOp.and IntKind.i64 11 2 != 0) = true:=by decide
 have HN0:=keep hn
 have gn1 : 1 ≤ n:=by omega
 have H1:=Lib.hid ((((Ok.start w).add (kCells g o [.string (byt a1),.string (byt a2)]) hk).var w.heap.size 28 [.int .u8 0,.int .i64 0,.int .i64 0,.int .i64 0,.int .i64 0,.int .i64 0,.string ⟨#[]⟩,.int .u64 0,.int .u64 0,.int .u64 0,.int .u8 0,.int .u64 0,.int .i64 0] rfl).var (w.heap.size + 1) 28 [.int .u8 7,.int .i64 0,.int .i64 0,.int .i64 0,.int .i64 0,.int .i64 0,.string ⟨#[]⟩,.int .u64 0,.int .u64 0,.int .u64 0,.int .u8 0,.int .u64 0,.int .i64 0] (by simp))
 have ha1 : a1.length ≤ 2000:=hL a1 (by simp)
 have HN1:=keep (fun W => r9_ReadNumber (byt a1) ha1 W)
 have ha2 : a2.length ≤ 2000:=hL a2 (by simp)
 have HN2:=keep (fun W => r9_ReadRange (byt a2) ha2 W)
 clear hL hk ha1 ha2
 obtain ⟨rl,hrl⟩ : ∃ rl,rest.length = rl:=⟨_,rfl⟩
 rw [hrl] at hn
 clear hrl
 go_enter Tryz.func42,Tryz.ntmps42
 go_upto_region 2 with fail
 generalize ((w.alloc (.cells #[.int .u8 0,.int .i64 0,.int .i64 0,.int .i64 0,.int .i64 0,.int .i64 0,.string ⟨#[]⟩,.int .u64 0,.int .u64 0,.int .u64 0,.int .u8 0,.int .u64 0,.int .i64 0] 28)).alloc (.cells #[.int .u8 7,.int .i64 0,.int .i64 0,.int .i64 0,.int .i64 0,.int .i64 0,.string ⟨#[]⟩,.int .u64 0,.int .u64 0,.int .u64 0,.int .u8 0,.int .u64 0,.int .i64 0] 28)) = W2 at H1 ⊢
 have F3:=H1.out.sees
 simp only [sees,kVar,kCells,cellsFrom,Nat.add_zero,cellsAt,Nat.reduceAdd] at F3
 obtain ⟨⟨⟨z0,fz0⟩,q00,q01,q02,q03,q04,q05,q06,q07,q08,q09,q0a,q0b,q0c,-⟩,⟨⟨z1,fz1⟩,q10,q11,q12,q13,q14,q15,q16,q17,q18,q19,q1a,q1b,q1c,-⟩,⟨z2,q20,q21,-⟩,-⟩:=F3
 go_wp2_with fail
 refine (HN1.out _).mono ?_
 rintro e w4 ⟨v1,ok1,rfl,hv1,hq1,hb5⟩
 clear z0 fz0 q00 q01 q02 q03 q04 q05 q06 q07 q08 q09 q0a q0b q0c z1 fz1 q10 q11 q12 q13 q14 q15 q16 q17 q18 q19 q1a q1b q1c z2 q20 q21
 have HV1:=keep hv1
 have HQ1:=keep hq1
 have H6:=Lib.hid (H1.out.below hb5)
 clear hb5 H1 hv1 hq1
 have F7:=H6.out.sees
 simp only [sees,kVar,kCells,cellsFrom,Nat.add_zero,cellsAt,Nat.reduceAdd] at F7
 obtain ⟨⟨⟨z0,fz0⟩,q00,q01,q02,q03,q04,q05,q06,q07,q08,q09,q0a,q0b,q0c,-⟩,⟨⟨z1,fz1⟩,q10,q11,q12,q13,q14,q15,q16,q17,q18,q19,q1a,q1b,q1c,-⟩,⟨z2,q20,q21,-⟩,-⟩:=F7
 go_upto_region 3 with fail
 clear z0 fz0 q00 q01 q02 q03 q04 q05 q06 q07 q08 q09 q0a q0b q0c z1 fz1 q10 q11 q12 q13 q14 q15 q16 q17 q18 q19 q1a q1b q1c z2 q20 q21
 have hfar:=farOf H6.out (by simp [kCells,kVar] <;> omega)
 have H8:=Lib.hid (H6.out.set_ (i:=1) (u:=.int .i64 v1) (by omega) hfar)
 simp only [List.set_cons_zero,List.set_cons_succ] at H8
 clear hfar
 clear H6
 generalize (w4.setCell ⟨w.heap.size + 1,1,none⟩ (.int .i64 v1)) = W9 at H8 ⊢
 have F10:=H8.out.sees
 simp only [sees,kVar,kCells,cellsFrom,Nat.add_zero,cellsAt,Nat.reduceAdd] at F10
 obtain ⟨⟨⟨z0,fz0⟩,q00,q01,q02,q03,q04,q05,q06,q07,q08,q09,q0a,q0b,q0c,-⟩,⟨⟨z1,fz1⟩,q10,q11,q12,q13,q14,q15,q16,q17,q18,q19,q1a,q1b,q1c,-⟩,⟨z2,q20,q21,-⟩,-⟩:=F10
 go_wp2_with fail
 refine (r9_uses_7 _).mono ?_
 rintro e w11 ⟨rfl,hb12⟩
 clear z0 fz0 q00 q01 q02 q03 q04 q05 q06 q07 q08 q09 q0a q0b q0c z1 fz1 q10 q11 q12 q13 q14 q15 q16 q17 q18 q19 q1a q1b q1c z2 q20 q21
 have H13:=Lib.hid (H8.out.below hb12)
 clear hb12 H8
 have F14:=H13.out.sees
 simp only [sees,kVar,kCells,cellsFrom,Nat.add_zero,cellsAt,Nat.reduceAdd] at F14
 obtain ⟨⟨⟨z0,fz0⟩,q00,q01,q02,q03,q04,q05,q06,q07,q08,q09,q0a,q0b,q0c,-⟩,⟨⟨z1,fz1⟩,q10,q11,q12,q13,q14,q15,q16,q17,q18,q19,q1a,q1b,q1c,-⟩,⟨z2,q20,q21,-⟩,-⟩:=F14
 go_wp2_with fail
 refine (HN2.out _).mono ?_
 rintro e w15 ⟨⟨s1,s2,s3,s4⟩,ok2,rfl,hv2,hq2,hb16⟩
 clear z0 fz0 q00 q01 q02 q03 q04 q05 q06 q07 q08 q09 q0a q0b q0c z1 fz1 q10 q11 q12 q13 q14 q15 q16 q17 q18 q19 q1a q1b q1c z2 q20 q21
 have HV2:=keep hv2
 have HQ2:=keep hq2
 have H17:=Lib.hid (H13.out.below hb16)
 clear hb16 H13 hv2 hq2
 have F18:=H17.out.sees
 simp only [sees,kVar,kCells,cellsFrom,Nat.add_zero,cellsAt,Nat.reduceAdd] at F18
 obtain ⟨⟨⟨z0,fz0⟩,q00,q01,q02,q03,q04,q05,q06,q07,q08,q09,q0a,q0b,q0c,-⟩,⟨⟨z1,fz1⟩,q10,q11,q12,q13,q14,q15,q16,q17,q18,q19,q1a,q1b,q1c,-⟩,⟨z2,q20,q21,-⟩,-⟩:=F18
 go_upto_region 5 with fail
 clear z0 fz0 q00 q01 q02 q03 q04 q05 q06 q07 q08 q09 q0a q0b q0c z1 fz1 q10 q11 q12 q13 q14 q15 q16 q17 q18 q19 q1a q1b q1c z2 q20 q21
 have hfar:=farOf H17.out (by simp [kCells,kVar] <;> omega)
 have H19:=Lib.hid ((((H17.out.set_ (i:=2) (u:=.int .i64 s1) (by omega) hfar).set_ (i:=3) (u:=.int .i64 s2) (by omega) hfar).set_ (i:=4) (u:=.int .i64 s3) (by omega) hfar).set_ (i:=5) (u:=.int .i64 s4) (by omega) hfar)
 simp only [List.set_cons_zero,List.set_cons_succ] at H19
 clear hfar
 clear H17
 generalize ((((w15.setCell ⟨w.heap.size + 1,2,none⟩ (.int .i64 s1)).setCell ⟨w.heap.size + 1,3,none⟩ (.int .i64 s2)).setCell ⟨w.heap.size + 1,4,none⟩ (.int .i64 s3)).setCell ⟨w.heap.size + 1,5,none⟩ (.int .i64 s4)) = W20 at H19 ⊢
 have F21:=H19.out.sees
 simp only [sees,kVar,kCells,cellsFrom,Nat.add_zero,cellsAt,Nat.reduceAdd] at F21
 obtain ⟨⟨⟨z0,fz0⟩,q00,q01,q02,q03,q04,q05,q06,q07,q08,q09,q0a,q0b,q0c,-⟩,⟨⟨z1,fz1⟩,q10,q11,q12,q13,q14,q15,q16,q17,q18,q19,q1a,q1b,q1c,-⟩,⟨z2,q20,q21,-⟩,-⟩:=F21
 go_upto_region 15 with fail
 go_wp2_with fail
 clear z0 fz0 q00 q01 q02 q03 q04 q05 q06 q07 q08 q09 q0a q0b q0c z1 fz1 q10 q11 q12 q13 q14 q15 q16 q17 q18 q19 q1a q1b q1c z2 q20 q21
 have hfar:=farOf H19.out.b1 (by simp [kCells,kVar] <;> omega)
 have H22:=Lib.hid (((((((((((((H19.out.b1.set_ (i:=0) (u:=.int .u8 7) (by omega) hfar).set_ (i:=1) (u:=.int .i64 v1) (by omega) hfar).set_ (i:=2) (u:=.int .i64 s1) (by omega) hfar).set_ (i:=3) (u:=.int .i64 s2) (by omega) hfar).set_ (i:=4) (u:=.int .i64 s3) (by omega) hfar).set_ (i:=5) (u:=.int .i64 s4) (by omega) hfar).set_ (i:=6) (u:=.string ⟨#[]⟩) (by omega) hfar).set_ (i:=7) (u:=.int .u64 0) (by omega) hfar).set_ (i:=8) (u:=.int .u64 0) (by omega) hfar).set_ (i:=9) (u:=.int .u64 0) (by omega) hfar).set_ (i:=10) (u:=.int .u8 0) (by omega) hfar).set_ (i:=11) (u:=.int .u64 0) (by omega) hfar).set_ (i:=12) (u:=.int .i64 0) (by omega) hfar)
 simp only [List.set_cons_zero,List.set_cons_succ] at H22
 clear hfar
 have hK:=H22.out.get (kVar (w.heap.size) 28 [.int .u8 7,.int .i64 v1,.int .i64 s1,.int .i64 s2,.int .i64 s3,.int .i64 s4,.string ⟨#[]⟩,.int .u64 0,.int .u64 0,.int .u64 0,.int .u8 0,.int .u64 0,.int .i64 0]) (by simp)
 have hE:=(show Blk (((((((((((((W20.setCell ⟨w.heap.size,0,none⟩ (.int .u8 7)).setCell ⟨w.heap.size,1,none⟩ (.int .i64 v1)).setCell ⟨w.heap.size,2,none⟩ (.int .i64 s1)).setCell ⟨w.heap.size,3,none⟩ (.int .i64 s2)).setCell ⟨w.heap.size,4,none⟩ (.int .i64 s3)).setCell ⟨w.heap.size,5,none⟩ (.int .i64 s4)).setCell ⟨w.heap.size,6,none⟩ (.string ⟨#[]⟩)).setCell ⟨w.heap.size,7,none⟩ (.int .u64 0)).setCell ⟨w.heap.size,8,none⟩ (.int .u64 0)).setCell ⟨w.heap.size,9,none⟩ (.int .u64 0)).setCell ⟨w.heap.size,10,none⟩ (.int .u8 0)).setCell ⟨w.heap.size,11,none⟩ (.int .u64 0)).setCell ⟨w.heap.size,12,none⟩ (.int .i64 0)) (w.heap.size) 28 _ from hK)
 have r0:=hE.cell 0
 have r1:=hE.cell 1
 have r2:=hE.cell 2
 have r3:=hE.cell 3
 have r4:=hE.cell 4
 have r5:=hE.cell 5
 have r6:=hE.cell 6
 have r7:=hE.cell 7
 have r8:=hE.cell 8
 have r9:=hE.cell 9
 have r10:=hE.cell 10
 have r11:=hE.cell 11
 have r12:=hE.cell 12
 simp at r0 r1 r2 r3 r4 r5 r6 r7 r8 r9 r10 r11 r12
 exact bodyPost_ret (v:=.agg #[.int .u8 7,.int .i64 v1,.int .i64 s1,.int .i64 s2,.int .i64 s3,.int .i64 s4,.string ⟨#[]⟩,.int .u64 0,.int .u64 0,.int .u64 0,.int .u8 0,.int .u64 0,.int .i64 0]) (by simp [results,Tryz.results42,go_sem,r0,r1,r2,r3,r4,r5,r6,r7,r8,r9,r10,r11,r12]) rfl ⟨(⟨7,v1,⟨s1,s2,s3,s4⟩,[],0,0,0,0,0,0⟩ : OpV),rfl,⟨(show 7 < 256 by decide),HV1.out,HV2.out.1,HV2.out.2.1,HV2.out.2.2.1,HV2.out.2.2.2,z64,z64,z64,z256,z64,i64_z⟩,rfl,rfl,(fun y oy gy hky hw => by
   obtain ⟨r,e,hr⟩:=hw
   obtain ⟨e1,e2⟩:=List.cons.inj e
   obtain ⟨e3,e4⟩:=List.cons.inj (show a2 :: rest = rangeL y.rect :: r from e2)
   rw [hr (by decide)] at e4
   have:=congrArg List.length e4
   have h0:=HN0.out
   unfold tailW at this
   simp [hky] at this
   simp at hn5; omega),H22.out.bel⟩
set_option maxRecDepth 100000 in
set_option maxHeartbeats 4000000 in
theorem r9_fld_7_five (g o n c : Nat) (a1 a2 a3 a4 a5 : List UInt8) (w : World) (hk : (kCells g o [.string (byt a1),.string (byt a2),.string (byt a3),.string (byt a4),.string (byt a5)]).p w) (_hnc : n ≤ c) (hn : n = ([a1,a2,a3,a4,a5]).length) (hL : ∀ p ∈ [a1,a2,a3,a4,a5],p.length ≤ 2000) :
  Calls Tryz.prog 42 #[.int .u8 7,.slice (some ⟨g,o,none⟩) n c] w (FldOut 7 ([a1,a2,a3,a4,a5]) w):=by
 have hg : g < w.heap.size:=hk.1
 simp only [List.length_cons,List.length_nil,Nat.zero_add,Nat.reduceAdd] at hn
 have hb2 : (bits BinOp.and IntKind.i64 11 2 != 0) = true:=by decide
 have HN0:=keep hn
 have gn1 : 1 ≤ n:=by omega
 have H1:=Lib.hid ((((Ok.start w).add (kCells g o [.string (byt a1),.string (byt a2),.string (byt a3),.string (byt a4),.string (byt a5)]) hk).var w.heap.size 28 [.int .u8 0,.int .i64 0,.int .i64 0,.int .i64 0,.int .i64 0,.int .i64 0,.string ⟨#[]⟩,.int .u64 0,.int .u64 0,.int .u64 0,.int .u8 0,.int .u64 0,.int .i64 0] rfl).var (w.heap.size + 1) 28 [.int .u8 7,.int .i64 0,.int .i64 0,.int .i64 0,.int .i64 0,.int .i64 0,.string ⟨#[]⟩,.int .u64 0,.int .u64 0,.int .u64 0,.int .u8 0,.int .u64 0,.int .i64 0] (by simp))
 have ha1 : a1.length ≤ 2000:=hL a1 (by simp)
 have HN1:=keep (fun W => r9_ReadNumber (byt a1) ha1 W)
 have ha2 : a2.length ≤ 2000:=hL a2 (by simp)
 have HN2:=keep (fun W => r9_ReadRange (byt a2) ha2 W)
 have ha3 : a3.length ≤ 2000:=hL a3 (by simp)
 have HN3:=keep (fun W => r18_Prs a3 ha3 W)
 have ha4 : a4.length ≤ 2000:=hL a4 (by simp)
 have HN4:=keep (fun W => r18_Prs a4 ha4 W)
 have ha5 : a5.length ≤ 2000:=hL a5 (by simp)
 have HN5:=keep (fun W => r18_Prs a5 ha5 W)
 clear hL hk ha1 ha2 ha3 ha4 ha5
 subst hn
 go_enter Tryz.func42,Tryz.ntmps42
 go_upto_region 2 with fail
 generalize ((w.alloc (.cells #[.int .u8 0,.int .i64 0,.int .i64 0,.int .i64 0,.int .i64 0,.int .i64 0,.string ⟨#[]⟩,.int .u64 0,.int .u64 0,.int .u64 0,.int .u8 0,.int .u64 0,.int .i64 0] 28)).alloc (.cells #[.int .u8 7,.int .i64 0,.int .i64 0,.int .i64 0,.int .i64 0,.int .i64 0,.string ⟨#[]⟩,.int .u64 0,.int .u64 0,.int .u64 0,.int .u8 0,.int .u64 0,.int .i64 0] 28)) = W2 at H1 ⊢
 have F3:=H1.out.sees
 simp only [sees,kVar,kCells,cellsFrom,Nat.add_zero,cellsAt,Nat.reduceAdd] at F3
 obtain ⟨⟨⟨z0,fz0⟩,q00,q01,q02,q03,q04,q05,q06,q07,q08,q09,q0a,q0b,q0c,-⟩,⟨⟨z1,fz1⟩,q10,q11,q12,q13,q14,q15,q16,q17,q18,q19,q1a,q1b,q1c,-⟩,⟨z2,q20,q21,q22,q23,q24,-⟩,-⟩:=F3
 go_wp2_with fail
 refine (HN1.out _).mono ?_
 rintro e w4 ⟨v1,ok1,rfl,hv1,hq1,hb5⟩
 clear z0 fz0 q00 q01 q02 q03 q04 q05 q06 q07 q08 q09 q0a q0b q0c z1 fz1 q10 q11 q12 q13 q14 q15 q16 q17 q18 q19 q1a q1b q1c z2 q20 q21 q22 q23 q24
 have HV1:=keep hv1
 have HQ1:=keep hq1
 have H6:=Lib.hid (H1.out.below hb5)
 clear hb5 H1 hv1 hq1
 have F7:=H6.out.sees
 simp only [sees,kVar,kCells,cellsFrom,Nat.add_zero,cellsAt,Nat.reduceAdd] at F7
 obtain ⟨⟨⟨z0,fz0⟩,q00,q01,q02,q03,q04,q05,q06,q07,q08,q09,q0a,q0b,q0c,-⟩,⟨⟨z1,fz1⟩,q10,q11,q12,q13,q14,q15,q16,q17,q18,q19,q1a,q1b,q1c,-⟩,⟨z2,q20,q21,q22,q23,q24,-⟩,-⟩:=F7
 go_upto_region 3 with fail
 clear z0 fz0 q00 q01 q02 q03 q04 q05 q06 q07 q08 q09 q0a q0b q0c z1 fz1 q10 q11 q12 q13 q14 q15 q16 q17 q18 q19 q1a q1b q1c z2 q20 q21 q22 q23 q24
 have hfar:=farOf H6.out (by simp [kCells,kVar] <;> omega)
 have H8:=Lib.hid (H6.out.set_ (i:=1) (u:=.int .i64 v1) (by omega) hfar)
 simp only [List.set_cons_zero,List.set_cons_succ] at H8
 clear hfar
 clear H6
 generalize (w4.setCell ⟨w.heap.size + 1,1,none⟩ (.int .i64 v1)) = W9 at H8 ⊢
 have F10:=H8.out.sees
 simp only [sees,kVar,kCells,cellsFrom,Nat.add_zero,cellsAt,Nat.reduceAdd] at F10
 obtain ⟨⟨⟨z0,fz0⟩,q00,q01,q02,q03,q04,q05,q06,q07,q08,q09,q0a,q0b,q0c,-⟩,⟨⟨z1,fz1⟩,q10,q11,q12,q13,q14,q15,q16,q17,q18,q19,q1a,q1b,q1c,-⟩,⟨z2,q20,q21,q22,q23,q24,-⟩,-⟩:=F10
 go_wp2_with fail
 refine (r9_uses_7 _).mono ?_
 rintro e w11 ⟨rfl,hb12⟩
 clear z0 fz0 q00 q01 q02 q03 q04 q05 q06 q07 q08 q09 q0a q0b q0c z1 fz1 q10 q11 q12 q13 q14 q15 q16 q17 q18 q19 q1a q1b q1c z2 q20 q21 q22 q23 q24
 have H13:=Lib.hid (H8.out.below hb12)
 clear hb12 H8
 have F14:=H13.out.sees
 simp only [sees,kVar,kCells,cellsFrom,Nat.add_zero,cellsAt,Nat.reduceAdd] at F14
 obtain ⟨⟨⟨z0,fz0⟩,q00,q01,q02,q03,q04,q05,q06,q07,q08,q09,q0a,q0b,q0c,-⟩,⟨⟨z1,fz1⟩,q10,q11,q12,q13,q14,q15,q16,q17,q18,q19,q1a,q1b,q1c,-⟩,⟨z2,q20,q21,q22,q23,q24,-⟩,-⟩:=F14
 go_wp2_with fail
 refine (HN2.out _).mono ?_
 rintro e w15 ⟨⟨s1,s2,s3,s4⟩,ok2,rfl,hv2,hq2,hb16⟩
 clear z0 fz0 q00 q01 q02 q03 q04 q05 q06 q07 q08 q09 q0a q0b q0c z1 fz1 q10 q11 q12 q13 q14 q15 q16 q17 q18 q19 q1a q1b q1c z2 q20 q21 q22 q23 q24
 have HV2:=keep hv2
 have HQ2:=keep hq2
 have H17:=Lib.hid (H13.out.below hb16)
 clear hb16 H13 hv2 hq2
 have F18:=H17.out.sees
 simp only [sees,kVar,kCells,cellsFrom,Nat.add_zero,cellsAt,Nat.reduceAdd] at F18
 obtain ⟨⟨⟨z0,fz0⟩,q00,q01,q02,q03,q04,q05,q06,q07,q08,q09,q0a,q0b,q0c,-⟩,⟨⟨z1,fz1⟩,q10,q11,q12,q13,q14,q15,q16,q17,q18,q19,q1a,q1b,q1c,-⟩,⟨z2,q20,q21,q22,q23,q24,-⟩,-⟩:=F18
 go_upto_region 5 with fail
 clear z0 fz0 q00 q01 q02 q03 q04 q05 q06 q07 q08 q09 q0a q0b q0c z1 fz1 q10 q11 q12 q13 q14 q15 q16 q17 q18 q19 q1a q1b q1c z2 q20 q21 q22 q23 q24
 have hfar:=farOf H17.out (by simp [kCells,kVar] <;> omega)
 have H19:=Lib.hid ((((H17.out.set_ (i:=2) (u:=.int .i64 s1) (by omega) hfar).set_ (i:=3) (u:=.int .i64 s2) (by omega) hfar).set_ (i:=4) (u:=.int .i64 s3) (by omega) hfar).set_ (i:=5) (u:=.int .i64 s4) (by omega) hfar)
 simp only [List.set_cons_zero,List.set_cons_succ] at H19
 clear hfar
 clear H17
 generalize ((((w15.setCell ⟨w.heap.size + 1,2,none⟩ (.int .i64 s1)).setCell ⟨w.heap.size + 1,3,none⟩ (.int .i64 s2)).setCell ⟨w.heap.size + 1,4,none⟩ (.int .i64 s3)).setCell ⟨w.heap.size + 1,5,none⟩ (.int .i64 s4)) = W20 at H19 ⊢
 have F21:=H19.out.sees
 simp only [sees,kVar,kCells,cellsFrom,Nat.add_zero,cellsAt,Nat.reduceAdd] at F21
 obtain ⟨⟨⟨z0,fz0⟩,q00,q01,q02,q03,q04,q05,q06,q07,q08,q09,q0a,q0b,q0c,-⟩,⟨⟨z1,fz1⟩,q10,q11,q12,q13,q14,q15,q16,q17,q18,q19,q1a,q1b,q1c,-⟩,⟨z2,q20,q21,q22,q23,q24,-⟩,-⟩:=F21
 go_wp2_with fail
 refine (HN3.out _).mono ?_
 rintro e w22 ⟨rfl,hb23⟩
 clear z0 fz0 q00 q01 q02 q03 q04 q05 q06 q07 q08 q09 q0a q0b q0c z1 fz1 q10 q11 q12 q13 q14 q15 q16 q17 q18 q19 q1a q1b q1c z2 q20 q21 q22 q23 q24
 have H24:=Lib.hid (H19.out.below hb23)
 clear hb23 H19 
 have F25:=H24.out.sees
 simp only [sees,kVar,kCells,cellsFrom,Nat.add_zero,cellsAt,Nat.reduceAdd] at F25
 obtain ⟨⟨⟨z0,fz0⟩,q00,q01,q02,q03,q04,q05,q06,q07,q08,q09,q0a,q0b,q0c,-⟩,⟨⟨z1,fz1⟩,q10,q11,q12,q13,q14,q15,q16,q17,q18,q19,q1a,q1b,q1c,-⟩,⟨z2,q20,q21,q22,q23,q24,-⟩,-⟩:=F25
 go_upto_region 7 with fail
 clear z0 fz0 q00 q01 q02 q03 q04 q05 q06 q07 q08 q09 q0a q0b q0c z1 fz1 q10 q11 q12 q13 q14 q15 q16 q17 q18 q19 q1a q1b q1c z2 q20 q21 q22 q23 q24
 have hfar:=farOf H24.out (by simp [kCells,kVar] <;> omega)
 have H26:=Lib.hid (H24.out.set_ (i:=7) (u:=.int .u64 (gpV a3 : Nat)) (by omega) hfar)
 simp only [List.set_cons_zero,List.set_cons_succ] at H26
 clear hfar
 clear H24
 generalize (w22.setCell ⟨w.heap.size + 1,7,none⟩ (.int .u64 (gpV a3 : Nat))) = W27 at H26 ⊢
 have F28:=H26.out.sees
 simp only [sees,kVar,kCells,cellsFrom,Nat.add_zero,cellsAt,Nat.reduceAdd] at F28
 obtain ⟨⟨⟨z0,fz0⟩,q00,q01,q02,q03,q04,q05,q06,q07,q08,q09,q0a,q0b,q0c,-⟩,⟨⟨z1,fz1⟩,q10,q11,q12,q13,q14,q15,q16,q17,q18,q19,q1a,q1b,q1c,-⟩,⟨z2,q20,q21,q22,q23,q24,-⟩,-⟩:=F28
 go_wp2_with fail
 refine (HN4.out _).mono ?_
 rintro e w29 ⟨rfl,hb30⟩
 clear z0 fz0 q00 q01 q02 q03 q04 q05 q06 q07 q08 q09 q0a q0b q0c z1 fz1 q10 q11 q12 q13 q14 q15 q16 q17 q18 q19 q1a q1b q1c z2 q20 q21 q22 q23 q24
 have H31:=Lib.hid (H26.out.below hb30)
 clear hb30 H26 
 have F32:=H31.out.sees
 simp only [sees,kVar,kCells,cellsFrom,Nat.add_zero,cellsAt,Nat.reduceAdd] at F32
 obtain ⟨⟨⟨z0,fz0⟩,q00,q01,q02,q03,q04,q05,q06,q07,q08,q09,q0a,q0b,q0c,-⟩,⟨⟨z1,fz1⟩,q10,q11,q12,q13,q14,q15,q16,q17,q18,q19,q1a,q1b,q1c,-⟩,⟨z2,q20,q21,q22,q23,q24,-⟩,-⟩:=F32
 go_upto_region 8 with fail
 clear z0 fz0 q00 q01 q02 q03 q04 q05 q06 q07 q08 q09 q0a q0b q0c z1 fz1 q10 q11 q12 q13 q14 q15 q16 q17 q18 q19 q1a q1b q1c z2 q20 q21 q22 q23 q24
 have hfar:=farOf H31.out (by simp [kCells,kVar] <;> omega)
 have H33:=Lib.hid (H31.out.set_ (i:=8) (u:=.int .u64 (gpV a4 : Nat)) (by omega) hfar)
 simp only [List.set_cons_zero,List.set_cons_succ] at H33
 clear hfar
 clear H31
 generalize (w29.setCell ⟨w.heap.size + 1,8,none⟩ (.int .u64 (gpV a4 : Nat))) = W34 at H33 ⊢
 have F35:=H33.out.sees
 simp only [sees,kVar,kCells,cellsFrom,Nat.add_zero,cellsAt,Nat.reduceAdd] at F35
 obtain ⟨⟨⟨z0,fz0⟩,q00,q01,q02,q03,q04,q05,q06,q07,q08,q09,q0a,q0b,q0c,-⟩,⟨⟨z1,fz1⟩,q10,q11,q12,q13,q14,q15,q16,q17,q18,q19,q1a,q1b,q1c,-⟩,⟨z2,q20,q21,q22,q23,q24,-⟩,-⟩:=F35
 go_wp2_with fail
 refine (HN5.out _).mono ?_
 rintro e w36 ⟨rfl,hb37⟩
 clear z0 fz0 q00 q01 q02 q03 q04 q05 q06 q07 q08 q09 q0a q0b q0c z1 fz1 q10 q11 q12 q13 q14 q15 q16 q17 q18 q19 q1a q1b q1c z2 q20 q21 q22 q23 q24
 have H38:=Lib.hid (H33.out.below hb37)
 clear hb37 H33 
 have F39:=H38.out.sees
 simp only [sees,kVar,kCells,cellsFrom,Nat.add_zero,cellsAt,Nat.reduceAdd] at F39
 obtain ⟨⟨⟨z0,fz0⟩,q00,q01,q02,q03,q04,q05,q06,q07,q08,q09,q0a,q0b,q0c,-⟩,⟨⟨z1,fz1⟩,q10,q11,q12,q13,q14,q15,q16,q17,q18,q19,q1a,q1b,q1c,-⟩,⟨z2,q20,q21,q22,q23,q24,-⟩,-⟩:=F39
 go_upto_region 15 with fail
 clear z0 fz0 q00 q01 q02 q03 q04 q05 q06 q07 q08 q09 q0a q0b q0c z1 fz1 q10 q11 q12 q13 q14 q15 q16 q17 q18 q19 q1a q1b q1c z2 q20 q21 q22 q23 q24
 have hfar:=farOf H38.out (by simp [kCells,kVar] <;> omega)
 have H40:=Lib.hid (H38.out.set_ (i:=9) (u:=.int .u64 (gpV a5 : Nat)) (by omega) hfar)
 simp only [List.set_cons_zero,List.set_cons_succ] at H40
 clear hfar
 clear H38
 generalize (w36.setCell ⟨w.heap.size + 1,9,none⟩ (.int .u64 (gpV a5 : Nat))) = W41 at H40 ⊢
 have F42:=H40.out.sees
 simp only [sees,kVar,kCells,cellsFrom,Nat.add_zero,cellsAt,Nat.reduceAdd] at F42
 obtain ⟨⟨⟨z0,fz0⟩,q00,q01,q02,q03,q04,q05,q06,q07,q08,q09,q0a,q0b,q0c,-⟩,⟨⟨z1,fz1⟩,q10,q11,q12,q13,q14,q15,q16,q17,q18,q19,q1a,q1b,q1c,-⟩,⟨z2,q20,q21,q22,q23,q24,-⟩,-⟩:=F42
 go_wp2_with fail
 clear z0 fz0 q00 q01 q02 q03 q04 q05 q06 q07 q08 q09 q0a q0b q0c z1 fz1 q10 q11 q12 q13 q14 q15 q16 q17 q18 q19 q1a q1b q1c z2 q20 q21 q22 q23 q24
 have hfar:=farOf H40.out.b1 (by simp [kCells,kVar] <;> omega)
 have H43:=Lib.hid (((((((((((((H40.out.b1.set_ (i:=0) (u:=.int .u8 7) (by omega) hfar).set_ (i:=1) (u:=.int .i64 v1) (by omega) hfar).set_ (i:=2) (u:=.int .i64 s1) (by omega) hfar).set_ (i:=3) (u:=.int .i64 s2) (by omega) hfar).set_ (i:=4) (u:=.int .i64 s3) (by omega) hfar).set_ (i:=5) (u:=.int .i64 s4) (by omega) hfar).set_ (i:=6) (u:=.string ⟨#[]⟩) (by omega) hfar).set_ (i:=7) (u:=.int .u64 (gpV a3 : Nat)) (by omega) hfar).set_ (i:=8) (u:=.int .u64 (gpV a4 : Nat)) (by omega) hfar).set_ (i:=9) (u:=.int .u64 (gpV a5 : Nat)) (by omega) hfar).set_ (i:=10) (u:=.int .u8 0) (by omega) hfar).set_ (i:=11) (u:=.int .u64 0) (by omega) hfar).set_ (i:=12) (u:=.int .i64 0) (by omega) hfar)
 simp only [List.set_cons_zero,List.set_cons_succ] at H43
 clear hfar
 have hK:=H43.out.get (kVar (w.heap.size) 28 [.int .u8 7,.int .i64 v1,.int .i64 s1,.int .i64 s2,.int .i64 s3,.int .i64 s4,.string ⟨#[]⟩,.int .u64 (gpV a3 : Nat),.int .u64 (gpV a4 : Nat),.int .u64 (gpV a5 : Nat),.int .u8 0,.int .u64 0,.int .i64 0]) (by simp)
 have hE:=(show Blk (((((((((((((W41.setCell ⟨w.heap.size,0,none⟩ (.int .u8 7)).setCell ⟨w.heap.size,1,none⟩ (.int .i64 v1)).setCell ⟨w.heap.size,2,none⟩ (.int .i64 s1)).setCell ⟨w.heap.size,3,none⟩ (.int .i64 s2)).setCell ⟨w.heap.size,4,none⟩ (.int .i64 s3)).setCell ⟨w.heap.size,5,none⟩ (.int .i64 s4)).setCell ⟨w.heap.size,6,none⟩ (.string ⟨#[]⟩)).setCell ⟨w.heap.size,7,none⟩ (.int .u64 (gpV a3 : Nat))).setCell ⟨w.heap.size,8,none⟩ (.int .u64 (gpV a4 : Nat))).setCell ⟨w.heap.size,9,none⟩ (.int .u64 (gpV a5 : Nat))).setCell ⟨w.heap.size,10,none⟩ (.int .u8 0)).setCell ⟨w.heap.size,11,none⟩ (.int .u64 0)).setCell ⟨w.heap.size,12,none⟩ (.int .i64 0)) (w.heap.size) 28 _ from hK)
 have r0:=hE.cell 0
 have r1:=hE.cell 1
 have r2:=hE.cell 2
 have r3:=hE.cell 3
 have r4:=hE.cell 4
 have r5:=hE.cell 5
 have r6:=hE.cell 6
 have r7:=hE.cell 7
 have r8:=hE.cell 8
 have r9:=hE.cell 9
 have r10:=hE.cell 10
 have r11:=hE.cell 11
 have r12:=hE.cell 12
 simp at r0 r1 r2 r3 r4 r5 r6 r7 r8 r9 r10 r11 r12
 exact bodyPost_ret (v:=.agg #[.int .u8 7,.int .i64 v1,.int .i64 s1,.int .i64 s2,.int .i64 s3,.int .i64 s4,.string ⟨#[]⟩,.int .u64 (gpV a3 : Nat),.int .u64 (gpV a4 : Nat),.int .u64 (gpV a5 : Nat),.int .u8 0,.int .u64 0,.int .i64 0]) (by simp [results,Tryz.results42,go_sem,r0,r1,r2,r3,r4,r5,r6,r7,r8,r9,r10,r11,r12]) rfl ⟨(⟨7,v1,⟨s1,s2,s3,s4⟩,[],gpV a3,gpV a4,gpV a5,0,0,0⟩ : OpV),rfl,⟨(show 7 < 256 by decide),HV1.out,HV2.out.1,HV2.out.2.1,HV2.out.2.2.1,HV2.out.2.2.2,(gp_lt a3),(gp_lt a4),(gp_lt a5),z256,z64,i64_z⟩,rfl,rfl,(fun y oy gy hky hw => by
   obtain ⟨r,e,hr⟩:=hw
   obtain ⟨e1,e2⟩:=List.cons.inj e
   obtain ⟨e3,e4⟩:=List.cons.inj (show a2 :: [a3,a4,a5] = rangeL y.rect :: r from e2)
   rw [hr (by decide)] at e4
   unfold tailW at e4
   simp [hky] at e4
   exact fld_eq _ y gy hky.symm (HQ1.out y.user oy.user e1) (by rw [hky]; exact HQ2.out y.rect ⟨oy.c1,oy.r1,oy.c2,oy.r2⟩ e3) rfl (by rw [hky,e4.1,gp_set _ oy.rd]; rfl) (by rw [hky,e4.2.1,gp_set _ oy.wr]; rfl) (by rw [hky,e4.2.2,gp_set _ oy.ow]; rfl) (by rw [hky]; rfl) (by rw [hky]; rfl) (by rw [hky]; rfl)),H43.out.bel⟩
end Go.Proofs.YtjbimcdofenmdaaGreatDoor
