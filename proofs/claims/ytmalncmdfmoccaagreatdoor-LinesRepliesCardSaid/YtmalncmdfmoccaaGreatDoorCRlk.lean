/- The reference shows truth values and numbers. The reference shows numbers. -/
import Derived.Test.YtmalncmdfmoccaaGreatDoorCRvk
namespace Go.Proofs.YtmalncmdfmoccaaGreatDoor
open Go.RowKit
def wordB (n : Int) : List UInt8:=if n = 1 then trueB else falseB
theorem ref5_word (n : Int) (h : n = 0 ∨ n = 1) (w : World) :
    Calls Tryz.prog 153 #[.int .i64 n] w fun e w' => e = .returned (.string ⟨(wordB n).toArray⟩) ∧ w' = w:=by
  rcases h with rfl | rfl
  · go_enter Tryz.func153,Tryz.ntmps153
    go_wp2_with fail
    go_ret
    exact ⟨rfl,rfl⟩
  · go_enter Tryz.func153,Tryz.ntmps153
    go_wp2_with fail
    go_ret
    exact ⟨rfl,rfl⟩
theorem bool_ok {n : Int} (h : n = 0 ∨ n = 1) : valE 2 n [] = 0:=valE_yes (.inr (.inr (.inl ⟨rfl,rfl,h⟩)))
set_option maxRecDepth 100000 in
set_option maxHeartbeats 4000000 in
theorem ref5_ToTextB (n : Int) (hn : n = 0 ∨ n = 1) (w : World) :
    Calls Tryz.prog 108 #[.agg #[.int .u8 2,.int .i64 n,.string ⟨#[]⟩]] w fun e w' => e = .returned (.agg #[.int .u8 3,.int .i64 0,.string ⟨(wordB n).toArray⟩]) ∧ Below w.heap.size w w':=by
  have HN:=keep hn
  clear hn
  have H1:=Lib.hid (((Ok.start w).alloc w.heap.size 59 [.int .u8 2,.int .i64 n,.string ⟨#[]⟩] rfl).var (w.heap.size + 1) 59 [.int .u8 0,.int .i64 0,.string ⟨#[]⟩] (by simp))
  go_enter Tryz.func108,Tryz.ntmps108
  go_wp2_with fail
  generalize ((w.alloc (.cells #[.int .u8 2,.int .i64 n,.string ⟨#[]⟩] 59)).alloc (.cells #[.int .u8 0,.int .i64 0,.string ⟨#[]⟩] 59)) = W2 at H1 ⊢
  refine (ref5_CheckV 2 n ⟨#[]⟩ (by decide) (by rcases HN.out with rfl | rfl <;> decide) _).mono ?_
  rintro e w3 ⟨rfl,hb4⟩
  rw [show valE 2 n (⟨#[]⟩ : ByteArray).data.toList = 0 from bool_ok HN.out]
  have H5:=Lib.hid (H1.out.below hb4)
  clear hb4 H1
  have F6:=H5.out.sees
  simp only [sees,kBlk,kVar,cellsAt,Nat.reduceAdd] at F6
  obtain ⟨⟨⟨z0,fz0⟩,c0_0,c0_1,c0_2,-⟩,⟨z1,c1_0,c1_1,c1_2,-⟩,-⟩:=F6
  go_wp2_with fail
  refine (ref5_word n HN.out _).mono ?_
  rintro e wz ⟨rfl,hwz⟩
  obtain rfl : w3 = wz:=hwz.symm
  go_wp2_with fail
  have hK:=H5.out.get (kVar (w.heap.size + 1) 59 [.int .u8 0,.int .i64 0,.string ⟨#[]⟩]) (by simp)
  have hB:=H5.out.bel
  have hE:=((((show Blk w3 (w.heap.size + 1) 59 _ from hK).set_ 0 (.int .u8 3)).set_ 1 (.int .i64 0)).set_ 2 (.string ⟨(wordB n).toArray⟩))
  have r0:=hE.cell 0
  have r1:=hE.cell 1
  have r2:=hE.cell 2
  simp at r0 r1 r2
  exact bodyPost_ret (v:=.agg #[.int .u8 3,.int .i64 0,.string ⟨(wordB n).toArray⟩]) (by simp [results,Tryz.results108,go_sem,r0,r1,r2]) rfl ⟨rfl,(((hB.setCell (by simp) _).setCell (by simp) _).setCell (by simp) _)⟩
set_option maxRecDepth 100000 in
set_option maxHeartbeats 4000000 in
theorem ref5_ShowB (n : Int) (hn : n = 0 ∨ n = 1) (w : World) :
    Calls Tryz.prog 65 #[.agg #[.int .u8 2,.int .i64 n,.string ⟨#[]⟩]] w fun e w' => e = .returned (.string ⟨(wordB n).toArray⟩) ∧ Below w.heap.size w w':=by
  have HN:=keep hn
  clear hn
  have H1:=Lib.hid ((Ok.start w).alloc w.heap.size 59 [.int .u8 2,.int .i64 n,.string ⟨#[]⟩] rfl)
  go_enter Tryz.func65,Tryz.ntmps65
  go_wp2_with fail
  generalize (w.alloc (.cells #[.int .u8 2,.int .i64 n,.string ⟨#[]⟩] 59)) = W2 at H1 ⊢
  refine wp_region_held_drew (S:=fun W => Ok w [kBlk (w.heap.size) 59 [.int .u8 2,.int .i64 n,.string ⟨#[]⟩]] W) (by kernel_rfl) H1.out.drew (fun hHeld => ?_)
  refine wpAnyH_take (i:=0) (v:=?vx1_0) rfl (by kernel_rfl) (by kernel_rfl) (by kernel_rfl) (fun _ _ _ h => h) (Or.inl ⟨by rfl,?hyx1_0⟩) (by assumption) ?restx1_0
  case hyx1_0 => (intro w hSw; have F:=Ok.sees hSw; clear hSw; simp only [sees,kBlk,cellsAt,Nat.reduceAdd] at F; go_simp; try with_reducible rfl)
  try simp only [Act.put,List.setIfInBounds_toArray,List.set_cons_zero,List.set_cons_succ,List.getElem_toArray,List.getElem_cons_zero]
  refine wpAnyH_ready (rs:=[1]) (by kernel_rfl) (by simp) ?_
  refine AllReadyH.cons rfl (fun K hK => ?_) AllReadyH.nil
  go_simp
  refine (ref5_Fail7 _).mono ?_
  rintro e w4 ⟨rfl,hb5⟩
  go_wp2_with fail
  refine hK.out _ _ (hHeld.below hb5) (fun hHeld => ?_)
  clear hK K
  try simp only [Act.put,List.setIfInBounds_toArray,List.set_cons_zero,List.set_cons_succ,List.getElem_toArray,List.getElem_cons_succ,List.getElem_cons_zero]
  refine wpAnyH_take (i:=2) (v:=?vx2_2) rfl (by kernel_rfl) (by kernel_rfl) (by kernel_rfl) (fun _ _ _ h => h) (Or.inl ⟨by rfl,?hyx2_2⟩) (by assumption) ?restx2_2
  case hyx2_2 => (intro w hSw; have F:=Ok.sees hSw; clear hSw; simp only [sees,kBlk,cellsAt,Nat.reduceAdd] at F; go_simp; try with_reducible rfl)
  try simp only [Act.put,List.setIfInBounds_toArray,List.set_cons_zero,List.set_cons_succ,List.getElem_toArray,List.getElem_cons_succ,List.getElem_cons_zero]
  refine wpAnyH_done (by kernel_rfl) ?_ _
  clear H1
  have H6:=Lib.hid hHeld
  clear hHeld
  have F7:=H6.out.sees
  simp only [sees,kBlk,cellsAt,Nat.reduceAdd] at F7
  obtain ⟨⟨z0,c0_0,c0_1,c0_2,-⟩,-⟩:=F7
  go_wp2_with fail
  refine (ref5_CheckV 2 n ⟨#[]⟩ (by decide) (by rcases HN.out with rfl | rfl <;> decide) _).mono ?_
  rintro e w8 ⟨rfl,hb9⟩
  rw [show valE 2 n (⟨#[]⟩ : ByteArray).data.toList = 0 from bool_ok HN.out]
  clear z0 c0_0 c0_1 c0_2
  have H10:=Lib.hid (H6.out.below hb9)
  clear hb9 H6
  have F11:=H10.out.sees
  simp only [sees,kBlk,cellsAt,Nat.reduceAdd] at F11
  obtain ⟨⟨z0,c0_0,c0_1,c0_2,-⟩,-⟩:=F11
  go_wp2_with fail
  refine (ref5_ToTextB n HN.out _).mono ?_
  rintro e w12 ⟨rfl,hb13⟩
  clear z0 c0_0 c0_1 c0_2
  have H14:=Lib.hid (H10.out.below hb13)
  clear hb13 H10
  have F15:=H14.out.sees
  simp only [sees,kBlk,cellsAt,Nat.reduceAdd] at F15
  obtain ⟨⟨z0,c0_0,c0_1,c0_2,-⟩,-⟩:=F15
  obtain ⟨X,hX⟩ : ∃ X : ByteArray,X = ⟨(wordB n).toArray⟩:=⟨_,rfl⟩
  rw [← hX]
  have HX:=keep hX
  clear hX
  have hfi : (Instr.field 59 (.agg #[.int .u8 3,.int .i64 0,.string X]) 2).run Tryz.prog w12 = .ok (.string X) w12:=by kernel_rfl
  go_wp2_with fail
  go_ret
  exact ⟨by rw [← HX.out]; rfl,H14.out.bel⟩
end Go.Proofs.YtmalncmdfmoccaaGreatDoor
namespace Go.Proofs.YtmalncmdfmoccaaGreatDoor
open Go.RowKit
theorem numb_ok {n : Int} (h : -9223372036854775807 ≤ n) : valE 1 n [] = 0:=valE_yes (.inr (.inl ⟨rfl,rfl,by omega⟩))
set_option maxRecDepth 100000 in
set_option maxHeartbeats 4000000 in
theorem ref5_ToTextN (n : Int) (hn : -9223372036854775807 ≤ n ∧ n ≤ 9223372036854775807) (w : World) :
    Calls Tryz.prog 108 #[.agg #[.int .u8 1,.int .i64 n,.string ⟨#[]⟩]] w fun e w' => e = .returned (.agg #[.int .u8 3,.int .i64 0,.string ⟨(decS n).toArray⟩]) ∧ Below w.heap.size w w':=by
  have HN:=keep hn
  clear hn
  have H1:=Lib.hid (((Ok.start w).alloc w.heap.size 59 [.int .u8 1,.int .i64 n,.string ⟨#[]⟩] rfl).var (w.heap.size + 1) 59 [.int .u8 0,.int .i64 0,.string ⟨#[]⟩] (by simp))
  go_enter Tryz.func108,Tryz.ntmps108
  go_wp2_with fail
  generalize ((w.alloc (.cells #[.int .u8 1,.int .i64 n,.string ⟨#[]⟩] 59)).alloc (.cells #[.int .u8 0,.int .i64 0,.string ⟨#[]⟩] 59)) = W2 at H1 ⊢
  refine (ref5_CheckV 1 n ⟨#[]⟩ (by decide) (by have:=HN.out; omega) _).mono ?_
  rintro e w3 ⟨rfl,hb4⟩
  rw [show valE 1 n (⟨#[]⟩ : ByteArray).data.toList = 0 from numb_ok HN.out.1]
  have H5:=Lib.hid (H1.out.below hb4)
  clear hb4 H1
  have F6:=H5.out.sees
  simp only [sees,kBlk,kVar,cellsAt,Nat.reduceAdd] at F6
  obtain ⟨⟨⟨z0,fz0⟩,c0_0,c0_1,c0_2,-⟩,⟨z1,c1_0,c1_1,c1_2,-⟩,-⟩:=F6
  go_wp2_with fail
  refine (ref1_Format n _ (by have:=HN.out; omega) HN.out.2).mono ?_
  rintro e wz ⟨rfl,hbz⟩
  clear z0 fz0 c0_0 c0_1 c0_2 z1 c1_0 c1_1 c1_2
  have H5b:=Lib.hid (H5.out.below hbz)
  clear hbz H5
  have H5:=H5b
  clear H5b
  have F6:=H5.out.sees
  simp only [sees,kBlk,kVar,cellsAt,Nat.reduceAdd] at F6
  obtain ⟨⟨⟨z0,fz0⟩,c0_0,c0_1,c0_2,-⟩,⟨z1,c1_0,c1_1,c1_2,-⟩,-⟩:=F6
  go_wp2_with fail
  have hK:=H5.out.get (kVar (w.heap.size + 1) 59 [.int .u8 0,.int .i64 0,.string ⟨#[]⟩]) (by simp)
  have hB:=H5.out.bel
  have hE:=((((show Blk wz (w.heap.size + 1) 59 _ from hK).set_ 0 (.int .u8 3)).set_ 1 (.int .i64 0)).set_ 2 (.string ⟨(decS n).toArray⟩))
  have r0:=hE.cell 0
  have r1:=hE.cell 1
  have r2:=hE.cell 2
  simp at r0 r1 r2
  exact bodyPost_ret (v:=.agg #[.int .u8 3,.int .i64 0,.string ⟨(decS n).toArray⟩]) (by simp [results,Tryz.results108,go_sem,r0,r1,r2]) rfl ⟨rfl,(((hB.setCell (by simp) _).setCell (by simp) _).setCell (by simp) _)⟩
set_option maxRecDepth 100000 in
set_option maxHeartbeats 4000000 in
theorem ref5_ShowN (n : Int) (hn : -9223372036854775807 ≤ n ∧ n ≤ 9223372036854775807) (w : World) :
    Calls Tryz.prog 65 #[.agg #[.int .u8 1,.int .i64 n,.string ⟨#[]⟩]] w fun e w' => e = .returned (.string ⟨(decS n).toArray⟩) ∧ Below w.heap.size w w':=by
  have HN:=keep hn
  clear hn
  have H1:=Lib.hid ((Ok.start w).alloc w.heap.size 59 [.int .u8 1,.int .i64 n,.string ⟨#[]⟩] rfl)
  go_enter Tryz.func65,Tryz.ntmps65
  go_wp2_with fail
  generalize (w.alloc (.cells #[.int .u8 1,.int .i64 n,.string ⟨#[]⟩] 59)) = W2 at H1 ⊢
  refine wp_region_held_drew (S:=fun W => Ok w [kBlk (w.heap.size) 59 [.int .u8 1,.int .i64 n,.string ⟨#[]⟩]] W) (by kernel_rfl) H1.out.drew (fun hHeld => ?_)
  refine wpAnyH_take (i:=0) (v:=?vx1_0) rfl (by kernel_rfl) (by kernel_rfl) (by kernel_rfl) (fun _ _ _ h => h) (Or.inl ⟨by rfl,?hyx1_0⟩) (by assumption) ?restx1_0
  case hyx1_0 => (intro w hSw; have F:=Ok.sees hSw; clear hSw; simp only [sees,kBlk,cellsAt,Nat.reduceAdd] at F; go_simp; try with_reducible rfl)
  try simp only [Act.put,List.setIfInBounds_toArray,List.set_cons_zero,List.set_cons_succ,List.getElem_toArray,List.getElem_cons_zero]
  refine wpAnyH_ready (rs:=[1]) (by kernel_rfl) (by simp) ?_
  refine AllReadyH.cons rfl (fun K hK => ?_) AllReadyH.nil
  go_simp
  refine (ref5_Fail7 _).mono ?_
  rintro e w4 ⟨rfl,hb5⟩
  go_wp2_with fail
  refine hK.out _ _ (hHeld.below hb5) (fun hHeld => ?_)
  clear hK K
  try simp only [Act.put,List.setIfInBounds_toArray,List.set_cons_zero,List.set_cons_succ,List.getElem_toArray,List.getElem_cons_succ,List.getElem_cons_zero]
  refine wpAnyH_take (i:=2) (v:=?vx2_2) rfl (by kernel_rfl) (by kernel_rfl) (by kernel_rfl) (fun _ _ _ h => h) (Or.inl ⟨by rfl,?hyx2_2⟩) (by assumption) ?restx2_2
  case hyx2_2 => (intro w hSw; have F:=Ok.sees hSw; clear hSw; simp only [sees,kBlk,cellsAt,Nat.reduceAdd] at F; go_simp; try with_reducible rfl)
  try simp only [Act.put,List.setIfInBounds_toArray,List.set_cons_zero,List.set_cons_succ,List.getElem_toArray,List.getElem_cons_succ,List.getElem_cons_zero]
  refine wpAnyH_done (by kernel_rfl) ?_ _
  clear H1
  have H6:=Lib.hid hHeld
  clear hHeld
  have F7:=H6.out.sees
  simp only [sees,kBlk,cellsAt,Nat.reduceAdd] at F7
  obtain ⟨⟨z0,c0_0,c0_1,c0_2,-⟩,-⟩:=F7
  go_wp2_with fail
  refine (ref5_CheckV 1 n ⟨#[]⟩ (by decide) (by have:=HN.out; omega) _).mono ?_
  rintro e w8 ⟨rfl,hb9⟩
  rw [show valE 1 n (⟨#[]⟩ : ByteArray).data.toList = 0 from numb_ok HN.out.1]
  clear z0 c0_0 c0_1 c0_2
  have H10:=Lib.hid (H6.out.below hb9)
  clear hb9 H6
  have F11:=H10.out.sees
  simp only [sees,kBlk,cellsAt,Nat.reduceAdd] at F11
  obtain ⟨⟨z0,c0_0,c0_1,c0_2,-⟩,-⟩:=F11
  go_wp2_with fail
  refine (ref5_ToTextN n HN.out _).mono ?_
  rintro e w12 ⟨rfl,hb13⟩
  clear z0 c0_0 c0_1 c0_2
  have H14:=Lib.hid (H10.out.below hb13)
  clear hb13 H10
  have F15:=H14.out.sees
  simp only [sees,kBlk,cellsAt,Nat.reduceAdd] at F15
  obtain ⟨⟨z0,c0_0,c0_1,c0_2,-⟩,-⟩:=F15
  obtain ⟨X,hX⟩ : ∃ X : ByteArray,X = ⟨(decS n).toArray⟩:=⟨_,rfl⟩
  rw [← hX]
  have HX:=keep hX
  clear hX
  have hfi : (Instr.field 59 (.agg #[.int .u8 3,.int .i64 0,.string X]) 2).run Tryz.prog w12 = .ok (.string X) w12:=by kernel_rfl
  go_wp2_with fail
  go_ret
  exact ⟨by rw [← HX.out]; rfl,H14.out.bel⟩
end Go.Proofs.YtmalncmdfmoccaaGreatDoor
