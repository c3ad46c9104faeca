/- The reference of chapter 29: Plain. -/
import Derived.Test.YtjbimcdofenmdaaGreatDoorMOrA
import Derived.Test.YtjbimcdofenmdaaGreatDoorMOk
namespace Go.Proofs.YtjbimcdofenmdaaGreatDoor
open Go.RowKit
set_option maxRecDepth 100000 in
set_option maxHeartbeats 4000000 in
theorem r9_plain_1 (u x1 y1 x2 y2 : Int) (inp : List UInt8) (a b c f t : Nat) (n : Int) (w : World) :
  Calls Tryz.prog 18 #[.agg #[.int .u8 1,.int .i64 u,.int .i64 x1,.int .i64 y1,.int .i64 x2,.int .i64 y2,.string ⟨inp.toArray⟩,.int .u64 (a : Nat),.int .u64 (b : Nat),.int .u64 (c : Nat),.int .u8 (f : Nat),.int .u64 (t : Nat),.int .i64 n]] w fun e w' => e = .returned (.agg #[.int .u8 1,.int .i64 u,.int .i64 0,.int .i64 0,.int .i64 0,.int .i64 0,.string ⟨#[]⟩,.int .u64 0,.int .u64 0,.int .u64 0,.int .u8 0,.int .u64 0,.int .i64 0]) ∧ Below w.heap.size w w':=by
 have H1:=Lib.hid (((Ok.start w).alloc w.heap.size 28 [.int .u8 1,.int .i64 u,.int .i64 x1,.int .i64 y1,.int .i64 x2,.int .i64 y2,.string ⟨inp.toArray⟩,.int .u64 (a : Nat),.int .u64 (b : Nat),.int .u64 (c : Nat),.int .u8 (f : Nat),.int .u64 (t : Nat),.int .i64 n] rfl).var (w.heap.size + 1) 28 [.int .u8 0,.int .i64 0,.int .i64 0,.int .i64 0,.int .i64 0,.int .i64 0,.string ⟨#[]⟩,.int .u64 0,.int .u64 0,.int .u64 0,.int .u8 0,.int .u64 0,.int .i64 0] (by simp))
 go_enter Tryz.func18,Tryz.ntmps18
 go_upto_region 1 with fail
 generalize ((w.alloc (.cells #[.int .u8 1,.int .i64 u,.int .i64 x1,.int .i64 y1,.int .i64 x2,.int .i64 y2,.string ⟨inp.toArray⟩,.int .u64 (a : Nat),.int .u64 (b : Nat),.int .u64 (c : Nat),.int .u8 (f : Nat),.int .u64 (t : Nat),.int .i64 n] 28)).alloc (.cells #[.int .u8 0,.int .i64 0,.int .i64 0,.int .i64 0,.int .i64 0,.int .i64 0,.string ⟨#[]⟩,.int .u64 0,.int .u64 0,.int .u64 0,.int .u8 0,.int .u64 0,.int .i64 0] 28)) = W2 at H1 ⊢
 have F3:=H1.out.sees
 simp only [sees,kBlk,kVar,cellsAt,Nat.reduceAdd] at F3
 obtain ⟨⟨⟨z0,fz0⟩,c0_0,c0_1,c0_2,c0_3,c0_4,c0_5,c0_6,c0_7,c0_8,c0_9,c0_10,c0_11,c0_12,-⟩,⟨z1,c1_0,c1_1,c1_2,c1_3,c1_4,c1_5,c1_6,c1_7,c1_8,c1_9,c1_10,c1_11,c1_12,-⟩,-⟩:=F3
 refine wp_region_held_drew (S:=fun W => Ok w [kBlk (w.heap.size) 28 [.int .u8 1,.int .i64 u,.int .i64 x1,.int .i64 y1,.int .i64 x2,.int .i64 y2,.string ⟨inp.toArray⟩,.int .u64 (a : Nat),.int .u64 (b : Nat),.int .u64 (c : Nat),.int .u8 (f : Nat),.int .u64 (t : Nat),.int .i64 n]] W) (by kernel_rfl) (H1.out.drop [kBlk (w.heap.size) 28 [.int .u8 1,.int .i64 u,.int .i64 x1,.int .i64 y1,.int .i64 x2,.int .i64 y2,.string ⟨inp.toArray⟩,.int .u64 (a : Nat),.int .u64 (b : Nat),.int .u64 (c : Nat),.int .u8 (f : Nat),.int .u64 (t : Nat),.int .i64 n]] (by simp)).drew (fun hHeld => ?_)
 clear z0 fz0 c0_0 c0_1 c0_2 c0_3 c0_4 c0_5 c0_6 c0_7 c0_8 c0_9 c0_10 c0_11 c0_12 z1 c1_0 c1_1 c1_2 c1_3 c1_4 c1_5 c1_6 c1_7 c1_8 c1_9 c1_10 c1_11 c1_12
 have H4:=Lib.hid H1.out.drew
 clear H1
 generalize W2.drew = W5 at hHeld H4 ⊢
 refine wtg (i:=0) (v:=?a1) rfl ?b1 (by assumption) ?c1
 case b1 => (intro w hSw; have F:=Ok.sees hSw; clear hSw; simp only [sees,kBlk,cellsAt,Nat.reduceAdd] at F; go_simp; try with_reducible rfl)
 try simp only [Act.put,wp1,wp2,wp3,wp4,wp6]
 refine wtg (i:=1) (v:=?a3) rfl ?b3 (by assumption) ?c3
 case b3 => (intro w hSw; have F:=Ok.sees hSw; clear hSw; simp only [sees,kBlk,cellsAt,Nat.reduceAdd] at F; go_simp; try with_reducible rfl)
 try simp only [Act.put,wp1,wp2,wp3,wp4,wp5,wp6]
 refine wtg (i:=2) (v:=?a5) rfl ?b5 (by assumption) ?c5
 case b5 => (intro w hSw; have F:=Ok.sees hSw; clear hSw; simp only [sees,kBlk,cellsAt,Nat.reduceAdd] at F; go_simp; try with_reducible rfl)
 try simp only [Act.put,wp1,wp2,wp3,wp4,wp5,wp6]
 refine wpAnyH_ready (rs:=[3]) (by kernel_rfl) (by simp) ?_
 refine AllReadyH.cons rfl (fun K hK => ?_) AllReadyH.nil
 go_simp
 refine (r9_uses_1 _).mono ?_
 rintro e w6 ⟨rfl,hb7⟩
 go_wp2_with fail
 have H8:=Lib.hid (H4.out.below hb7)
 clear H4
 refine hK.out _ _ (hHeld.below hb7) (fun hHeld => ?_)
 clear hK K
 try simp only [Act.put,wp1,wp2,wp3,wp4,wp5,wp6]
 clear hb7
 refine wpAnyH_ready (rs:=[4]) (by kernel_rfl) (by simp) ?_
 refine AllReadyH.cons rfl (fun K hK => ?_) AllReadyH.nil
 go_simp
 refine (r9_only_1 1 u x1 y1 x2 y2 inp a b c f t n _).mono ?_
 rintro e w9 ⟨rfl,hb10⟩
 go_wp2_with fail
 have H11:=Lib.hid (H8.out.below hb10)
 clear H8
 refine hK.out _ _ (hHeld.below hb10) (fun hHeld => ?_)
 clear hK K
 try simp only [Act.put,wp1,wp2,wp3,wp4,wp5,wp6]
 clear hb10
 refine wpAnyH_ready (rs:=[5]) (by kernel_rfl) (by simp) ?_
 refine AllReadyH.cons rfl (fun K hK => ?_) AllReadyH.nil
 have F12:=H11.out.sees
 simp only [sees,kBlk,kVar,cellsAt,Nat.reduceAdd] at F12
 go_split_ands
 go_simp
 have H13:=Lib.hid (H11.out.drop [kVar (w.heap.size + 1) 28 [.int .u8 0,.int .i64 0,.int .i64 0,.int .i64 0,.int .i64 0,.int .i64 0,.string ⟨#[]⟩,.int .u64 0,.int .u64 0,.int .u64 0,.int .u8 0,.int .u64 0,.int .i64 0],kBlk (w.heap.size) 28 [.int .u8 1,.int .i64 u,.int .i64 x1,.int .i64 y1,.int .i64 x2,.int .i64 y2,.string ⟨inp.toArray⟩,.int .u64 (a : Nat),.int .u64 (b : Nat),.int .u64 (c : Nat),.int .u8 (f : Nat),.int .u64 (t : Nat),.int .i64 n]] (by simp))
 have hfar : ∀ x ∈ [kBlk (w.heap.size) 28 [.int .u8 1,.int .i64 u,.int .i64 x1,.int .i64 y1,.int .i64 x2,.int .i64 y2,.string ⟨inp.toArray⟩,.int .u64 (a : Nat),.int .u64 (b : Nat),.int .u64 (c : Nat),.int .u8 (f : Nat),.int .u64 (t : Nat),.int .i64 n]],x.far (some (w.heap.size + 1)):=by
  simp [kBlk] <;> omega
 have H14:=Lib.hid (((((((((((((H13.out.set_ (i:=0) (u:=.int .u8 1) (by omega) hfar).set_ (i:=1) (u:=.int .i64 u) (by omega) hfar).set_ (i:=2) (u:=.int .i64 0) (by omega) hfar).set_ (i:=3) (u:=.int .i64 0) (by omega) hfar).set_ (i:=4) (u:=.int .i64 0) (by omega) hfar).set_ (i:=5) (u:=.int .i64 0) (by omega) hfar).set_ (i:=6) (u:=.string ⟨#[]⟩) (by omega) hfar).set_ (i:=7) (u:=.int .u64 0) (by omega) hfar).set_ (i:=8) (u:=.int .u64 0) (by omega) hfar).set_ (i:=9) (u:=.int .u64 0) (by omega) hfar).set_ (i:=10) (u:=.int .u8 0) (by omega) hfar).set_ (i:=11) (u:=.int .u64 0) (by omega) hfar).set_ (i:=12) (u:=.int .i64 0) (by omega) hfar)
 clear H13 hfar
 clear H11
 refine hK.out _ _ (H14.out.drop [kBlk (w.heap.size) 28 [.int .u8 1,.int .i64 u,.int .i64 x1,.int .i64 y1,.int .i64 x2,.int .i64 y2,.string ⟨inp.toArray⟩,.int .u64 (a : Nat),.int .u64 (b : Nat),.int .u64 (c : Nat),.int .u8 (f : Nat),.int .u64 (t : Nat),.int .i64 n]] (by simp)) (fun hHeld => ?_)
 clear hK K
 try simp only [Act.put,wp1,wp2,wp3,wp4,wp5,wp6]
 generalize (((((((((((((w9.setCell ⟨w.heap.size + 1,0,none⟩ (.int .u8 1)).setCell ⟨w.heap.size + 1,1,none⟩ (.int .i64 u)).setCell ⟨w.heap.size + 1,2,none⟩ (.int .i64 0)).setCell ⟨w.heap.size + 1,3,none⟩ (.int .i64 0)).setCell ⟨w.heap.size + 1,4,none⟩ (.int .i64 0)).setCell ⟨w.heap.size + 1,5,none⟩ (.int .i64 0)).setCell ⟨w.heap.size + 1,6,none⟩ (.string ⟨#[]⟩)).setCell ⟨w.heap.size + 1,7,none⟩ (.int .u64 0)).setCell ⟨w.heap.size + 1,8,none⟩ (.int .u64 0)).setCell ⟨w.heap.size + 1,9,none⟩ (.int .u64 0)).setCell ⟨w.heap.size + 1,10,none⟩ (.int .u8 0)).setCell ⟨w.heap.size + 1,11,none⟩ (.int .u64 0)).setCell ⟨w.heap.size + 1,12,none⟩ (.int .i64 0)) = W15 at H14 hHeld ⊢
 refine wpAnyH_done (by kernel_rfl) ?_ _
 clear hHeld
 go_wp2_with fail
 have hK:=H14.out.get (kVar (w.heap.size + 1) 28 [.int .u8 1,.int .i64 u,.int .i64 0,.int .i64 0,.int .i64 0,.int .i64 0,.string ⟨#[]⟩,.int .u64 0,.int .u64 0,.int .u64 0,.int .u8 0,.int .u64 0,.int .i64 0]) (by simp)
 have hE:=(show Blk W15 (w.heap.size + 1) 28 _ from hK)
 have r0:=hE.cell 0
 have r1:=hE.cell 1
 have r2:=hE.cell 2
 have r3:=hE.cell 3
 have r4:=hE.cell 4
 have r5:=hE.cell 5
 have r6:=hE.cell 6
 have r7:=hE.cell 7
 have r8:=hE.cell 8
 have r9:=hE.cell 9
 have r10:=hE.cell 10
 have r11:=hE.cell 11
 have r12:=hE.cell 12
 simp at r0 r1 r2 r3 r4 r5 r6 r7 r8 r9 r10 r11 r12
 exact bodyPost_ret (v:=.agg #[.int .u8 1,.int .i64 u,.int .i64 0,.int .i64 0,.int .i64 0,.int .i64 0,.string ⟨#[]⟩,.int .u64 0,.int .u64 0,.int .u64 0,.int .u8 0,.int .u64 0,.int .i64 0]) (by simp [results,Tryz.results18,go_sem,r0,r1,r2,r3,r4,r5,r6,r7,r8,r9,r10,r11,r12]) rfl ⟨rfl,H14.out.bel⟩
set_option maxRecDepth 100000 in
set_option maxHeartbeats 4000000 in
theorem r9_plain_2 (u x1 y1 x2 y2 : Int) (inp : List UInt8) (a b c f t : Nat) (n : Int) (w : World) :
  Calls Tryz.prog 18 #[.agg #[.int .u8 2,.int .i64 u,.int .i64 x1,.int .i64 y1,.int .i64 x2,.int .i64 y2,.string ⟨inp.toArray⟩,.int .u64 (a : Nat),.int .u64 (b : Nat),.int .u64 (c : Nat),.int .u8 (f : Nat),.int .u64 (t : Nat),.int .i64 n]] w fun e w' => e = .returned (.agg #[.int .u8 2,.int .i64 u,.int .i64 0,.int .i64 0,.int .i64 0,.int .i64 0,.string ⟨#[]⟩,.int .u64 0,.int .u64 0,.int .u64 0,.int .u8 0,.int .u64 0,.int .i64 0]) ∧ Below w.heap.size w w':=by
 have H1:=Lib.hid (((Ok.start w).alloc w.heap.size 28 [.int .u8 2,.int .i64 u,.int .i64 x1,.int .i64 y1,.int .i64 x2,.int .i64 y2,.string ⟨inp.toArray⟩,.int .u64 (a : Nat),.int .u64 (b : Nat),.int .u64 (c : Nat),.int .u8 (f : Nat),.int .u64 (t : Nat),.int .i64 n] rfl).var (w.heap.size + 1) 28 [.int .u8 0,.int .i64 0,.int .i64 0,.int .i64 0,.int .i64 0,.int .i64 0,.string ⟨#[]⟩,.int .u64 0,.int .u64 0,.int .u64 0,.int .u8 0,.int .u64 0,.int .i64 0] (by simp))
 go_enter Tryz.func18,Tryz.ntmps18
 go_upto_region 1 with fail
 generalize ((w.alloc (.cells #[.int .u8 2,.int .i64 u,.int .i64 x1,.int .i64 y1,.int .i64 x2,.int .i64 y2,.string ⟨inp.toArray⟩,.int .u64 (a : Nat),.int .u64 (b : Nat),.int .u64 (c : Nat),.int .u8 (f : Nat),.int .u64 (t : Nat),.int .i64 n] 28)).alloc (.cells #[.int .u8 0,.int .i64 0,.int .i64 0,.int .i64 0,.int .i64 0,.int .i64 0,.string ⟨#[]⟩,.int .u64 0,.int .u64 0,.int .u64 0,.int .u8 0,.int .u64 0,.int .i64 0] 28)) = W2 at H1 ⊢
 have F3:=H1.out.sees
 simp only [sees,kBlk,kVar,cellsAt,Nat.reduceAdd] at F3
 obtain ⟨⟨⟨z0,fz0⟩,c0_0,c0_1,c0_2,c0_3,c0_4,c0_5,c0_6,c0_7,c0_8,c0_9,c0_10,c0_11,c0_12,-⟩,⟨z1,c1_0,c1_1,c1_2,c1_3,c1_4,c1_5,c1_6,c1_7,c1_8,c1_9,c1_10,c1_11,c1_12,-⟩,-⟩:=F3
 refine wp_region_held_drew (S:=fun W => Ok w [kBlk (w.heap.size) 28 [.int .u8 2,.int .i64 u,.int .i64 x1,.int .i64 y1,.int .i64 x2,.int .i64 y2,.string ⟨inp.toArray⟩,.int .u64 (a : Nat),.int .u64 (b : Nat),.int .u64 (c : Nat),.int .u8 (f : Nat),.int .u64 (t : Nat),.int .i64 n]] W) (by kernel_rfl) (H1.out.drop [kBlk (w.heap.size) 28 [.int .u8 2,.int .i64 u,.int .i64 x1,.int .i64 y1,.int .i64 x2,.int .i64 y2,.string ⟨inp.toArray⟩,.int .u64 (a : Nat),.int .u64 (b : Nat),.int .u64 (c : Nat),.int .u8 (f : Nat),.int .u64 (t : Nat),.int .i64 n]] (by simp)).drew (fun hHeld => ?_)
 clear z0 fz0 c0_0 c0_1 c0_2 c0_3 c0_4 c0_5 c0_6 c0_7 c0_8 c0_9 c0_10 c0_11 c0_12 z1 c1_0 c1_1 c1_2 c1_3 c1_4 c1_5 c1_6 c1_7 c1_8 c1_9 c1_10 c1_11 c1_12
 have H4:=Lib.hid H1.out.drew
 clear H1
 generalize W2.drew = W5 at hHeld H4 ⊢
 refine wtg (i:=0) (v:=?a10) rfl ?b10 (by assumption) ?c10
 case b10 => (intro w hSw; have F:=Ok.sees hSw; clear hSw; simp only [sees,kBlk,cellsAt,Nat.reduceAdd] at F; go_simp; try with_reducible rfl)
 try simp only [Act.put,wp1,wp2,wp3,wp4,wp6]
 refine wtg (i:=1) (v:=?a12) rfl ?b12 (by assumption) ?c12
 case b12 => (intro w hSw; have F:=Ok.sees hSw; clear hSw; simp only [sees,kBlk,cellsAt,Nat.reduceAdd] at F; go_simp; try with_reducible rfl)
 try simp only [Act.put,wp1,wp2,wp3,wp4,wp5,wp6]
 refine wtg (i:=2) (v:=?a14) rfl ?b14 (by assumption) ?c14
 case b14 => (intro w hSw; have F:=Ok.sees hSw; clear hSw; simp only [sees,kBlk,cellsAt,Nat.reduceAdd] at F; go_simp; try with_reducible rfl)
 try simp only [Act.put,wp1,wp2,wp3,wp4,wp5,wp6]
 refine wpAnyH_ready (rs:=[3]) (by kernel_rfl) (by simp) ?_
 refine AllReadyH.cons rfl (fun K hK => ?_) AllReadyH.nil
 go_simp
 refine (r9_uses_2 _).mono ?_
 rintro e w6 ⟨rfl,hb7⟩
 go_wp2_with fail
 have H8:=Lib.hid (H4.out.below hb7)
 clear H4
 refine hK.out _ _ (hHeld.below hb7) (fun hHeld => ?_)
 clear hK K
 try simp only [Act.put,wp1,wp2,wp3,wp4,wp5,wp6]
 clear hb7
 refine wpAnyH_ready (rs:=[4]) (by kernel_rfl) (by simp) ?_
 refine AllReadyH.cons rfl (fun K hK => ?_) AllReadyH.nil
 go_simp
 refine (r9_only_1 2 u x1 y1 x2 y2 inp a b c f t n _).mono ?_
 rintro e w9 ⟨rfl,hb10⟩
 go_wp2_with fail
 have H11:=Lib.hid (H8.out.below hb10)
 clear H8
 refine hK.out _ _ (hHeld.below hb10) (fun hHeld => ?_)
 clear hK K
 try simp only [Act.put,wp1,wp2,wp3,wp4,wp5,wp6]
 clear hb10
 refine wpAnyH_ready (rs:=[5]) (by kernel_rfl) (by simp) ?_
 refine AllReadyH.cons rfl (fun K hK => ?_) AllReadyH.nil
 have F12:=H11.out.sees
 simp only [sees,kBlk,kVar,cellsAt,Nat.reduceAdd] at F12
 go_split_ands
 go_simp
 have H13:=Lib.hid (H11.out.drop [kVar (w.heap.size + 1) 28 [.int .u8 0,.int .i64 0,.int .i64 0,.int .i64 0,.int .i64 0,.int .i64 0,.string ⟨#[]⟩,.int .u64 0,.int .u64 0,.int .u64 0,.int .u8 0,.int .u64 0,.int .i64 0],kBlk (w.heap.size) 28 [.int .u8 2,.int .i64 u,.int .i64 x1,.int .i64 y1,.int .i64 x2,.int .i64 y2,.string ⟨inp.toArray⟩,.int .u64 (a : Nat),.int .u64 (b : Nat),.int .u64 (c : Nat),.int .u8 (f : Nat),.int .u64 (t : Nat),.int .i64 n]] (by simp))
 have hfar : ∀ x ∈ [kBlk (w.heap.size) 28 [.int .u8 2,.int .i64 u,.int .i64 x1,.int .i64 y1,.int .i64 x2,.int .i64 y2,.string ⟨inp.toArray⟩,.int .u64 (a : Nat),.int .u64 (b : Nat),.int .u64 (c : Nat),.int .u8 (f : Nat),.int .u64 (t : Nat),.int .i64 n]],x.far (some (w.heap.size + 1)):=by
  simp [kBlk] <;> omega
 have H14:=Lib.hid (((((((((((((H13.out.set_ (i:=0) (u:=.int .u8 2) (by omega) hfar).set_ (i:=1) (u:=.int .i64 u) (by omega) hfar).set_ (i:=2) (u:=.int .i64 0) (by omega) hfar).set_ (i:=3) (u:=.int .i64 0) (by omega) hfar).set_ (i:=4) (u:=.int .i64 0) (by omega) hfar).set_ (i:=5) (u:=.int .i64 0) (by omega) hfar).set_ (i:=6) (u:=.string ⟨#[]⟩) (by omega) hfar).set_ (i:=7) (u:=.int .u64 0) (by omega) hfar).set_ (i:=8) (u:=.int .u64 0) (by omega) hfar).set_ (i:=9) (u:=.int .u64 0) (by omega) hfar).set_ (i:=10) (u:=.int .u8 0) (by omega) hfar).set_ (i:=11) (u:=.int .u64 0) (by omega) hfar).set_ (i:=12) (u:=.int .i64 0) (by omega) hfar)
 clear H13 hfar
 clear H11
 refine hK.out _ _ (H14.out.drop [kBlk (w.heap.size) 28 [.int .u8 2,.int .i64 u,.int .i64 x1,.int .i64 y1,.int .i64 x2,.int .i64 y2,.string ⟨inp.toArray⟩,.int .u64 (a : Nat),.int .u64 (b : Nat),.int .u64 (c : Nat),.int .u8 (f : Nat),.int .u64 (t : Nat),.int .i64 n]] (by simp)) (fun hHeld => ?_)
 clear hK K
 try simp only [Act.put,wp1,wp2,wp3,wp4,wp5,wp6]
 generalize (((((((((((((w9.setCell ⟨w.heap.size + 1,0,none⟩ (.int .u8 2)).setCell ⟨w.heap.size + 1,1,none⟩ (.int .i64 u)).setCell ⟨w.heap.size + 1,2,none⟩ (.int .i64 0)).setCell ⟨w.heap.size + 1,3,none⟩ (.int .i64 0)).setCell ⟨w.heap.size + 1,4,none⟩ (.int .i64 0)).setCell ⟨w.heap.size + 1,5,none⟩ (.int .i64 0)).setCell ⟨w.heap.size + 1,6,none⟩ (.string ⟨#[]⟩)).setCell ⟨w.heap.size + 1,7,none⟩ (.int .u64 0)).setCell ⟨w.heap.size + 1,8,none⟩ (.int .u64 0)).setCell ⟨w.heap.size + 1,9,none⟩ (.int .u64 0)).setCell ⟨w.heap.size + 1,10,none⟩ (.int .u8 0)).setCell ⟨w.heap.size + 1,11,none⟩ (.int .u64 0)).setCell ⟨w.heap.size + 1,12,none⟩ (.int .i64 0)) = W15 at H14 hHeld ⊢
 refine wpAnyH_done (by kernel_rfl) ?_ _
 clear hHeld
 go_wp2_with fail
 have hK:=H14.out.get (kVar (w.heap.size + 1) 28 [.int .u8 2,.int .i64 u,.int .i64 0,.int .i64 0,.int .i64 0,.int .i64 0,.string ⟨#[]⟩,.int .u64 0,.int .u64 0,.int .u64 0,.int .u8 0,.int .u64 0,.int .i64 0]) (by simp)
 have hE:=(show Blk W15 (w.heap.size + 1) 28 _ from hK)
 have r0:=hE.cell 0
 have r1:=hE.cell 1
 have r2:=hE.cell 2
 have r3:=hE.cell 3
 have r4:=hE.cell 4
 have r5:=hE.cell 5
 have r6:=hE.cell 6
 have r7:=hE.cell 7
 have r8:=hE.cell 8
 have r9:=hE.cell 9
 have r10:=hE.cell 10
 have r11:=hE.cell 11
 have r12:=hE.cell 12
 simp at r0 r1 r2 r3 r4 r5 r6 r7 r8 r9 r10 r11 r12
 exact bodyPost_ret (v:=.agg #[.int .u8 2,.int .i64 u,.int .i64 0,.int .i64 0,.int .i64 0,.int .i64 0,.string ⟨#[]⟩,.int .u64 0,.int .u64 0,.int .u64 0,.int .u8 0,.int .u64 0,.int .i64 0]) (by simp [results,Tryz.results18,go_sem,r0,r1,r2,r3,r4,r5,r6,r7,r8,r9,r10,r11,r12]) rfl ⟨rfl,H14.out.bel⟩
set_option maxRecDepth 100000 in
set_option maxHeartbeats 4000000 in
theorem r9_plain_3 (u x1 y1 x2 y2 : Int) (inp : List UInt8) (a b c f t : Nat) (n : Int) (w : World) :
  Calls Tryz.prog 18 #[.agg #[.int .u8 3,.int .i64 u,.int .i64 x1,.int .i64 y1,.int .i64 x2,.int .i64 y2,.string ⟨inp.toArray⟩,.int .u64 (a : Nat),.int .u64 (b : Nat),.int .u64 (c : Nat),.int .u8 (f : Nat),.int .u64 (t : Nat),.int .i64 n]] w fun e w' => e = .returned (.agg #[.int .u8 3,.int .i64 u,.int .i64 x1,.int .i64 y1,.int .i64 x2,.int .i64 y2,.string ⟨inp.toArray⟩,.int .u64 0,.int .u64 0,.int .u64 0,.int .u8 0,.int .u64 0,.int .i64 0]) ∧ Below w.heap.size w w':=by
 have H1:=Lib.hid (((Ok.start w).alloc w.heap.size 28 [.int .u8 3,.int .i64 u,.int .i64 x1,.int .i64 y1,.int .i64 x2,.int .i64 y2,.string ⟨inp.toArray⟩,.int .u64 (a : Nat),.int .u64 (b : Nat),.int .u64 (c : Nat),.int .u8 (f : Nat),.int .u64 (t : Nat),.int .i64 n] rfl).var (w.heap.size + 1) 28 [.int .u8 0,.int .i64 0,.int .i64 0,.int .i64 0,.int .i64 0,.int .i64 0,.string ⟨#[]⟩,.int .u64 0,.int .u64 0,.int .u64 0,.int .u8 0,.int .u64 0,.int .i64 0] (by simp))
 go_enter Tryz.func18,Tryz.ntmps18
 go_upto_region 1 with fail
 generalize ((w.alloc (.cells #[.int .u8 3,.int .i64 u,.int .i64 x1,.int .i64 y1,.int .i64 x2,.int .i64 y2,.string ⟨inp.toArray⟩,.int .u64 (a : Nat),.int .u64 (b : Nat),.int .u64 (c : Nat),.int .u8 (f : Nat),.int .u64 (t : Nat),.int .i64 n] 28)).alloc (.cells #[.int .u8 0,.int .i64 0,.int .i64 0,.int .i64 0,.int .i64 0,.int .i64 0,.string ⟨#[]⟩,.int .u64 0,.int .u64 0,.int .u64 0,.int .u8 0,.int .u64 0,.int .i64 0] 28)) = W2 at H1 ⊢
 have F3:=H1.out.sees
 simp only [sees,kBlk,kVar,cellsAt,Nat.reduceAdd] at F3
 obtain ⟨⟨⟨z0,fz0⟩,c0_0,c0_1,c0_2,c0_3,c0_4,c0_5,c0_6,c0_7,c0_8,c0_9,c0_10,c0_11,c0_12,-⟩,⟨z1,c1_0,c1_1,c1_2,c1_3,c1_4,c1_5,c1_6,c1_7,c1_8,c1_9,c1_10,c1_11,c1_12,-⟩,-⟩:=F3
 refine wp_region_held_drew (S:=fun W => Ok w [kBlk (w.heap.size) 28 [.int .u8 3,.int .i64 u,.int .i64 x1,.int .i64 y1,.int .i64 x2,.int .i64 y2,.string ⟨inp.toArray⟩,.int .u64 (a : Nat),.int .u64 (b : Nat),.int .u64 (c : Nat),.int .u8 (f : Nat),.int .u64 (t : Nat),.int .i64 n]] W) (by kernel_rfl) (H1.out.drop [kBlk (w.heap.size) 28 [.int .u8 3,.int .i64 u,.int .i64 x1,.int .i64 y1,.int .i64 x2,.int .i64 y2,.string ⟨inp.toArray⟩,.int .u64 (a : Nat),.int .u64 (b : Nat),.int .u64 (c : Nat),.int .u8 (f : Nat),.int .u64 (t : Nat),.int .i64 n]] (by simp)).drew (fun hHeld => ?_)
 clear z0 fz0 c0_0 c0_1 c0_2 c0_3 c0_4 c0_5 c0_6 c0_7 c0_8 c0_9 c0_10 c0_11 c0_12 z1 c1_0 c1_1 c1_2 c1_3 c1_4 c1_5 c1_6 c1_7 c1_8 c1_9 c1_10 c1_11 c1_12
 have H4:=Lib.hid H1.out.drew
 clear H1
 generalize W2.drew = W5 at hHeld H4 ⊢
 refine wtg (i:=0) (v:=?a19) rfl ?b19 (by assumption) ?c19
 case b19 => (intro w hSw; have F:=Ok.sees hSw; clear hSw; simp only [sees,kBlk,cellsAt,Nat.reduceAdd] at F; go_simp; try with_reducible rfl)
 try simp only [Act.put,wp1,wp2,wp3,wp4,wp6]
 refine wtg (i:=1) (v:=?a21) rfl ?b21 (by assumption) ?c21
 case b21 => (intro w hSw; have F:=Ok.sees hSw; clear hSw; simp only [sees,kBlk,cellsAt,Nat.reduceAdd] at F; go_simp; try with_reducible rfl)
 try simp only [Act.put,wp1,wp2,wp3,wp4,wp5,wp6]
 refine wtg (i:=2) (v:=?a23) rfl ?b23 (by assumption) ?c23
 case b23 => (intro w hSw; have F:=Ok.sees hSw; clear hSw; simp only [sees,kBlk,cellsAt,Nat.reduceAdd] at F; go_simp; try with_reducible rfl)
 try simp only [Act.put,wp1,wp2,wp3,wp4,wp5,wp6]
 refine wpAnyH_ready (rs:=[3]) (by kernel_rfl) (by simp) ?_
 refine AllReadyH.cons rfl (fun K hK => ?_) AllReadyH.nil
 go_simp
 refine (r9_uses_3 _).mono ?_
 rintro e w6 ⟨rfl,hb7⟩
 go_wp2_with fail
 have H8:=Lib.hid (H4.out.below hb7)
 clear H4
 refine hK.out _ _ (hHeld.below hb7) (fun hHeld => ?_)
 clear hK K
 try simp only [Act.put,wp1,wp2,wp3,wp4,wp5,wp6]
 clear hb7
 refine wpAnyH_ready (rs:=[4]) (by kernel_rfl) (by simp) ?_
 refine AllReadyH.cons rfl (fun K hK => ?_) AllReadyH.nil
 go_simp
 refine (r9_only_7 3 u x1 y1 x2 y2 inp a b c f t n _).mono ?_
 rintro e w9 ⟨rfl,hb10⟩
 go_wp2_with fail
 have H11:=Lib.hid (H8.out.below hb10)
 clear H8
 refine hK.out _ _ (hHeld.below hb10) (fun hHeld => ?_)
 clear hK K
 try simp only [Act.put,wp1,wp2,wp3,wp4,wp5,wp6]
 clear hb10
 refine wpAnyH_ready (rs:=[5]) (by kernel_rfl) (by simp) ?_
 refine AllReadyH.cons rfl (fun K hK => ?_) AllReadyH.nil
 have F12:=H11.out.sees
 simp only [sees,kBlk,kVar,cellsAt,Nat.reduceAdd] at F12
 go_split_ands
 go_simp
 have H13:=Lib.hid (H11.out.drop [kVar (w.heap.size + 1) 28 [.int .u8 0,.int .i64 0,.int .i64 0,.int .i64 0,.int .i64 0,.int .i64 0,.string ⟨#[]⟩,.int .u64 0,.int .u64 0,.int .u64 0,.int .u8 0,.int .u64 0,.int .i64 0],kBlk (w.heap.size) 28 [.int .u8 3,.int .i64 u,.int .i64 x1,.int .i64 y1,.int .i64 x2,.int .i64 y2,.string ⟨inp.toArray⟩,.int .u64 (a : Nat),.int .u64 (b : Nat),.int .u64 (c : Nat),.int .u8 (f : Nat),.int .u64 (t : Nat),.int .i64 n]] (by simp))
 have hfar : ∀ x ∈ [kBlk (w.heap.size) 28 [.int .u8 3,.int .i64 u,.int .i64 x1,.int .i64 y1,.int .i64 x2,.int .i64 y2,.string ⟨inp.toArray⟩,.int .u64 (a : Nat),.int .u64 (b : Nat),.int .u64 (c : Nat),.int .u8 (f : Nat),.int .u64 (t : Nat),.int .i64 n]],x.far (some (w.heap.size + 1)):=by
  simp [kBlk] <;> omega
 have H14:=Lib.hid (((((((((((((H13.out.set_ (i:=0) (u:=.int .u8 3) (by omega) hfar).set_ (i:=1) (u:=.int .i64 u) (by omega) hfar).set_ (i:=2) (u:=.int .i64 x1) (by omega) hfar).set_ (i:=3) (u:=.int .i64 y1) (by omega) hfar).set_ (i:=4) (u:=.int .i64 x2) (by omega) hfar).set_ (i:=5) (u:=.int .i64 y2) (by omega) hfar).set_ (i:=6) (u:=.string ⟨inp.toArray⟩) (by omega) hfar).set_ (i:=7) (u:=.int .u64 0) (by omega) hfar).set_ (i:=8) (u:=.int .u64 0) (by omega) hfar).set_ (i:=9) (u:=.int .u64 0) (by omega) hfar).set_ (i:=10) (u:=.int .u8 0) (by omega) hfar).set_ (i:=11) (u:=.int .u64 0) (by omega) hfar).set_ (i:=12) (u:=.int .i64 0) (by omega) hfar)
 clear H13 hfar
 clear H11
 refine hK.out _ _ (H14.out.drop [kBlk (w.heap.size) 28 [.int .u8 3,.int .i64 u,.int .i64 x1,.int .i64 y1,.int .i64 x2,.int .i64 y2,.string ⟨inp.toArray⟩,.int .u64 (a : Nat),.int .u64 (b : Nat),.int .u64 (c : Nat),.int .u8 (f : Nat),.int .u64 (t : Nat),.int .i64 n]] (by simp)) (fun hHeld => ?_)
 clear hK K
 try simp only [Act.put,wp1,wp2,wp3,wp4,wp5,wp6]
 generalize (((((((((((((w9.setCell ⟨w.heap.size + 1,0,none⟩ (.int .u8 3)).setCell ⟨w.heap.size + 1,1,none⟩ (.int .i64 u)).setCell ⟨w.heap.size + 1,2,none⟩ (.int .i64 x1)).setCell ⟨w.heap.size + 1,3,none⟩ (.int .i64 y1)).setCell ⟨w.heap.size + 1,4,none⟩ (.int .i64 x2)).setCell ⟨w.heap.size + 1,5,none⟩ (.int .i64 y2)).setCell ⟨w.heap.size + 1,6,none⟩ (.string ⟨inp.toArray⟩)).setCell ⟨w.heap.size + 1,7,none⟩ (.int .u64 0)).setCell ⟨w.heap.size + 1,8,none⟩ (.int .u64 0)).setCell ⟨w.heap.size + 1,9,none⟩ (.int .u64 0)).setCell ⟨w.heap.size + 1,10,none⟩ (.int .u8 0)).setCell ⟨w.heap.size + 1,11,none⟩ (.int .u64 0)).setCell ⟨w.heap.size + 1,12,none⟩ (.int .i64 0)) = W15 at H14 hHeld ⊢
 refine wpAnyH_done (by kernel_rfl) ?_ _
 clear hHeld
 go_wp2_with fail
 have hK:=H14.out.get (kVar (w.heap.size + 1) 28 [.int .u8 3,.int .i64 u,.int .i64 x1,.int .i64 y1,.int .i64 x2,.int .i64 y2,.string ⟨inp.toArray⟩,.int .u64 0,.int .u64 0,.int .u64 0,.int .u8 0,.int .u64 0,.int .i64 0]) (by simp)
 have hE:=(show Blk W15 (w.heap.size + 1) 28 _ from hK)
 have r0:=hE.cell 0
 have r1:=hE.cell 1
 have r2:=hE.cell 2
 have r3:=hE.cell 3
 have r4:=hE.cell 4
 have r5:=hE.cell 5
 have r6:=hE.cell 6
 have r7:=hE.cell 7
 have r8:=hE.cell 8
 have r9:=hE.cell 9
 have r10:=hE.cell 10
 have r11:=hE.cell 11
 have r12:=hE.cell 12
 simp at r0 r1 r2 r3 r4 r5 r6 r7 r8 r9 r10 r11 r12
 exact bodyPost_ret (v:=.agg #[.int .u8 3,.int .i64 u,.int .i64 x1,.int .i64 y1,.int .i64 x2,.int .i64 y2,.string ⟨inp.toArray⟩,.int .u64 0,.int .u64 0,.int .u64 0,.int .u8 0,.int .u64 0,.int .i64 0]) (by simp [results,Tryz.results18,go_sem,r0,r1,r2,r3,r4,r5,r6,r7,r8,r9,r10,r11,r12]) rfl ⟨rfl,H14.out.bel⟩
set_option maxRecDepth 100000 in
set_option maxHeartbeats 4000000 in
theorem r9_plain_4 (u x1 y1 x2 y2 : Int) (inp : List UInt8) (a b c f t : Nat) (n : Int) (w : World) :
  Calls Tryz.prog 18 #[.agg #[.int .u8 4,.int .i64 u,.int .i64 x1,.int .i64 y1,.int .i64 x2,.int .i64 y2,.string ⟨inp.toArray⟩,.int .u64 (a : Nat),.int .u64 (b : Nat),.int .u64 (c : Nat),.int .u8 (f : Nat),.int .u64 (t : Nat),.int .i64 n]] w fun e w' => e = .returned (.agg #[.int .u8 4,.int .i64 u,.int .i64 x1,.int .i64 y1,.int .i64 x2,.int .i64 y2,.string ⟨#[]⟩,.int .u64 0,.int .u64 0,.int .u64 0,.int .u8 0,.int .u64 0,.int .i64 0]) ∧ Below w.heap.size w w':=by
 have H1:=Lib.hid (((Ok.start w).alloc w.heap.size 28 [.int .u8 4,.int .i64 u,.int .i64 x1,.int .i64 y1,.int .i64 x2,.int .i64 y2,.string ⟨inp.toArray⟩,.int .u64 (a : Nat),.int .u64 (b : Nat),.int .u64 (c : Nat),.int .u8 (f : Nat),.int .u64 (t : Nat),.int .i64 n] rfl).var (w.heap.size + 1) 28 [.int .u8 0,.int .i64 0,.int .i64 0,.int .i64 0,.int .i64 0,.int .i64 0,.string ⟨#[]⟩,.int .u64 0,.int .u64 0,.int .u64 0,.int .u8 0,.int .u64 0,.int .i64 0] (by simp))
 go_enter Tryz.func18,Tryz.ntmps18
 go_upto_region 1 with fail
 generalize ((w.alloc (.cells #[.int .u8 4,.int .i64 u,.int .i64 x1,.int .i64 y1,.int .i64 x2,.int .i64 y2,.string ⟨inp.toArray⟩,.int .u64 (a : Nat),.int .u64 (b : Nat),.int .u64 (c : Nat),.int .u8 (f : Nat),.int .u64 (t : Nat),.int .i64 n] 28)).alloc (.cells #[.int .u8 0,.int .i64 0,.int .i64 0,.int .i64 0,.int .i64 0,.int .i64 0,.string ⟨#[]⟩,.int .u64 0,.int .u64 0,.int .u64 0,.int .u8 0,.int .u64 0,.int .i64 0] 28)) = W2 at H1 ⊢
 have F3:=H1.out.sees
 simp only [sees,kBlk,kVar,cellsAt,Nat.reduceAdd] at F3
 obtain ⟨⟨⟨z0,fz0⟩,c0_0,c0_1,c0_2,c0_3,c0_4,c0_5,c0_6,c0_7,c0_8,c0_9,c0_10,c0_11,c0_12,-⟩,⟨z1,c1_0,c1_1,c1_2,c1_3,c1_4,c1_5,c1_6,c1_7,c1_8,c1_9,c1_10,c1_11,c1_12,-⟩,-⟩:=F3
 refine wp_region_held_drew (S:=fun W => Ok w [kBlk (w.heap.size) 28 [.int .u8 4,.int .i64 u,.int .i64 x1,.int .i64 y1,.int .i64 x2,.int .i64 y2,.string ⟨inp.toArray⟩,.int .u64 (a : Nat),.int .u64 (b : Nat),.int .u64 (c : Nat),.int .u8 (f : Nat),.int .u64 (t : Nat),.int .i64 n]] W) (by kernel_rfl) (H1.out.drop [kBlk (w.heap.size) 28 [.int .u8 4,.int .i64 u,.int .i64 x1,.int .i64 y1,.int .i64 x2,.int .i64 y2,.string ⟨inp.toArray⟩,.int .u64 (a : Nat),.int .u64 (b : Nat),.int .u64 (c : Nat),.int .u8 (f : Nat),.int .u64 (t : Nat),.int .i64 n]] (by simp)).drew (fun hHeld => ?_)
 clear z0 fz0 c0_0 c0_1 c0_2 c0_3 c0_4 c0_5 c0_6 c0_7 c0_8 c0_9 c0_10 c0_11 c0_12 z1 c1_0 c1_1 c1_2 c1_3 c1_4 c1_5 c1_6 c1_7 c1_8 c1_9 c1_10 c1_11 c1_12
 have H4:=Lib.hid H1.out.drew
 clear H1
 generalize W2.drew = W5 at hHeld H4 ⊢
 refine wtg (i:=0) (v:=?a28) rfl ?b28 (by assumption) ?c28
 case b28 => (intro w hSw; have F:=Ok.sees hSw; clear hSw; simp only [sees,kBlk,cellsAt,Nat.reduceAdd] at F; go_simp; try with_reducible rfl)
 try simp only [Act.put,wp1,wp2,wp3,wp4,wp6]
 refine wtg (i:=1) (v:=?a30) rfl ?b30 (by assumption) ?c30
 case b30 => (intro w hSw; have F:=Ok.sees hSw; clear hSw; simp only [sees,kBlk,cellsAt,Nat.reduceAdd] at F; go_simp; try with_reducible rfl)
 try simp only [Act.put,wp1,wp2,wp3,wp4,wp5,wp6]
 refine wtg (i:=2) (v:=?a32) rfl ?b32 (by assumption) ?c32
 case b32 => (intro w hSw; have F:=Ok.sees hSw; clear hSw; simp only [sees,kBlk,cellsAt,Nat.reduceAdd] at F; go_simp; try with_reducible rfl)
 try simp only [Act.put,wp1,wp2,wp3,wp4,wp5,wp6]
 refine wpAnyH_ready (rs:=[3]) (by kernel_rfl) (by simp) ?_
 refine AllReadyH.cons rfl (fun K hK => ?_) AllReadyH.nil
 go_simp
 refine (r9_uses_4 _).mono ?_
 rintro e w6 ⟨rfl,hb7⟩
 go_wp2_with fail
 have H8:=Lib.hid (H4.out.below hb7)
 clear H4
 refine hK.out _ _ (hHeld.below hb7) (fun hHeld => ?_)
 clear hK K
 try simp only [Act.put,wp1,wp2,wp3,wp4,wp5,wp6]
 clear hb7
 refine wpAnyH_ready (rs:=[4]) (by kernel_rfl) (by simp) ?_
 refine AllReadyH.cons rfl (fun K hK => ?_) AllReadyH.nil
 go_simp
 refine (r9_only_3 4 u x1 y1 x2 y2 inp a b c f t n _).mono ?_
 rintro e w9 ⟨rfl,hb10⟩
 go_wp2_with fail
 have H11:=Lib.hid (H8.out.below hb10)
 clear H8
 refine hK.out _ _ (hHeld.below hb10) (fun hHeld => ?_)
 clear hK K
 try simp only [Act.put,wp1,wp2,wp3,wp4,wp5,wp6]
 clear hb10
 refine wpAnyH_ready (rs:=[5]) (by kernel_rfl) (by simp) ?_
 refine AllReadyH.cons rfl (fun K hK => ?_) AllReadyH.nil
 have F12:=H11.out.sees
 simp only [sees,kBlk,kVar,cellsAt,Nat.reduceAdd] at F12
 go_split_ands
 go_simp
 have H13:=Lib.hid (H11.out.drop [kVar (w.heap.size + 1) 28 [.int .u8 0,.int .i64 0,.int .i64 0,.int .i64 0,.int .i64 0,.int .i64 0,.string ⟨#[]⟩,.int .u64 0,.int .u64 0,.int .u64 0,.int .u8 0,.int .u64 0,.int .i64 0],kBlk (w.heap.size) 28 [.int .u8 4,.int .i64 u,.int .i64 x1,.int .i64 y1,.int .i64 x2,.int .i64 y2,.string ⟨inp.toArray⟩,.int .u64 (a : Nat),.int .u64 (b : Nat),.int .u64 (c : Nat),.int .u8 (f : Nat),.int .u64 (t : Nat),.int .i64 n]] (by simp))
 have hfar : ∀ x ∈ [kBlk (w.heap.size) 28 [.int .u8 4,.int .i64 u,.int .i64 x1,.int .i64 y1,.int .i64 x2,.int .i64 y2,.string ⟨inp.toArray⟩,.int .u64 (a : Nat),.int .u64 (b : Nat),.int .u64 (c : Nat),.int .u8 (f : Nat),.int .u64 (t : Nat),.int .i64 n]],x.far (some (w.heap.size + 1)):=by
  simp [kBlk] <;> omega
 have H14:=Lib.hid (((((((((((((H13.out.set_ (i:=0) (u:=.int .u8 4) (by omega) hfar).set_ (i:=1) (u:=.int .i64 u) (by omega) hfar).set_ (i:=2) (u:=.int .i64 x1) (by omega) hfar).set_ (i:=3) (u:=.int .i64 y1) (by omega) hfar).set_ (i:=4) (u:=.int .i64 x2) (by omega) hfar).set_ (i:=5) (u:=.int .i64 y2) (by omega) hfar).set_ (i:=6) (u:=.string ⟨#[]⟩) (by omega) hfar).set_ (i:=7) (u:=.int .u64 0) (by omega) hfar).set_ (i:=8) (u:=.int .u64 0) (by omega) hfar).set_ (i:=9) (u:=.int .u64 0) (by omega) hfar).set_ (i:=10) (u:=.int .u8 0) (by omega) hfar).set_ (i:=11) (u:=.int .u64 0) (by omega) hfar).set_ (i:=12) (u:=.int .i64 0) (by omega) hfar)
 clear H13 hfar
 clear H11
 refine hK.out _ _ (H14.out.drop [kBlk (w.heap.size) 28 [.int .u8 4,.int .i64 u,.int .i64 x1,.int .i64 y1,.int .i64 x2,.int .i64 y2,.string ⟨inp.toArray⟩,.int .u64 (a : Nat),.int .u64 (b : Nat),.int .u64 (c : Nat),.int .u8 (f : Nat),.int .u64 (t : Nat),.int .i64 n]] (by simp)) (fun hHeld => ?_)
 clear hK K
 try simp only [Act.put,wp1,wp2,wp3,wp4,wp5,wp6]
 generalize (((((((((((((w9.setCell ⟨w.heap.size + 1,0,none⟩ (.int .u8 4)).setCell ⟨w.heap.size + 1,1,none⟩ (.int .i64 u)).setCell ⟨w.heap.size + 1,2,none⟩ (.int .i64 x1)).setCell ⟨w.heap.size + 1,3,none⟩ (.int .i64 y1)).setCell ⟨w.heap.size + 1,4,none⟩ (.int .i64 x2)).setCell ⟨w.heap.size + 1,5,none⟩ (.int .i64 y2)).setCell ⟨w.heap.size + 1,6,none⟩ (.string ⟨#[]⟩)).setCell ⟨w.heap.size + 1,7,none⟩ (.int .u64 0)).setCell ⟨w.heap.size + 1,8,none⟩ (.int .u64 0)).setCell ⟨w.heap.size + 1,9,none⟩ (.int .u64 0)).setCell ⟨w.heap.size + 1,10,none⟩ (.int .u8 0)).setCell ⟨w.heap.size + 1,11,none⟩ (.int .u64 0)).setCell ⟨w.heap.size + 1,12,none⟩ (.int .i64 0)) = W15 at H14 hHeld ⊢
 refine wpAnyH_done (by kernel_rfl) ?_ _
 clear hHeld
 go_wp2_with fail
 have hK:=H14.out.get (kVar (w.heap.size + 1) 28 [.int .u8 4,.int .i64 u,.int .i64 x1,.int .i64 y1,.int .i64 x2,.int .i64 y2,.string ⟨#[]⟩,.int .u64 0,.int .u64 0,.int .u64 0,.int .u8 0,.int .u64 0,.int .i64 0]) (by simp)
 have hE:=(show Blk W15 (w.heap.size + 1) 28 _ from hK)
 have r0:=hE.cell 0
 have r1:=hE.cell 1
 have r2:=hE.cell 2
 have r3:=hE.cell 3
 have r4:=hE.cell 4
 have r5:=hE.cell 5
 have r6:=hE.cell 6
 have r7:=hE.cell 7
 have r8:=hE.cell 8
 have r9:=hE.cell 9
 have r10:=hE.cell 10
 have r11:=hE.cell 11
 have r12:=hE.cell 12
 simp at r0 r1 r2 r3 r4 r5 r6 r7 r8 r9 r10 r11 r12
 exact bodyPost_ret (v:=.agg #[.int .u8 4,.int .i64 u,.int .i64 x1,.int .i64 y1,.int .i64 x2,.int .i64 y2,.string ⟨#[]⟩,.int .u64 0,.int .u64 0,.int .u64 0,.int .u8 0,.int .u64 0,.int .i64 0]) (by simp [results,Tryz.results18,go_sem,r0,r1,r2,r3,r4,r5,r6,r7,r8,r9,r10,r11,r12]) rfl ⟨rfl,H14.out.bel⟩
set_option maxRecDepth 100000 in
set_option maxHeartbeats 4000000 in
theorem r9_plain_5 (u x1 y1 x2 y2 : Int) (inp : List UInt8) (a b c f t : Nat) (n : Int) (w : World) :
  Calls Tryz.prog 18 #[.agg #[.int .u8 5,.int .i64 u,.int .i64 x1,.int .i64 y1,.int .i64 x2,.int .i64 y2,.string ⟨inp.toArray⟩,.int .u64 (a : Nat),.int .u64 (b : Nat),.int .u64 (c : Nat),.int .u8 (f : Nat),.int .u64 (t : Nat),.int .i64 n]] w fun e w' => e = .returned (.agg #[.int .u8 5,.int .i64 u,.int .i64 x1,.int .i64 y1,.int .i64 x2,.int .i64 y2,.string ⟨#[]⟩,.int .u64 0,.int .u64 0,.int .u64 0,.int .u8 0,.int .u64 0,.int .i64 0]) ∧ Below w.heap.size w w':=by
 have H1:=Lib.hid (((Ok.start w).alloc w.heap.size 28 [.int .u8 5,.int .i64 u,.int .i64 x1,.int .i64 y1,.int .i64 x2,.int .i64 y2,.string ⟨inp.toArray⟩,.int .u64 (a : Nat),.int .u64 (b : Nat),.int .u64 (c : Nat),.int .u8 (f : Nat),.int .u64 (t : Nat),.int .i64 n] rfl).var (w.heap.size + 1) 28 [.int .u8 0,.int .i64 0,.int .i64 0,.int .i64 0,.int .i64 0,.int .i64 0,.string ⟨#[]⟩,.int .u64 0,.int .u64 0,.int .u64 0,.int .u8 0,.int .u64 0,.int .i64 0] (by simp))
 go_enter Tryz.func18,Tryz.ntmps18
 go_upto_region 1 with fail
 generalize ((w.alloc (.cells #[.int .u8 5,.int .i64 u,.int .i64 x1,.int .i64 y1,.int .i64 x2,.int .i64 y2,.string ⟨inp.toArray⟩,.int .u64 (a : Nat),.int .u64 (b : Nat),.int .u64 (c : Nat),.int .u8 (f : Nat),.int .u64 (t : Nat),.int .i64 n] 28)).alloc (.cells #[.int .u8 0,.int .i64 0,.int .i64 0,.int .i64 0,.int .i64 0,.int .i64 0,.string ⟨#[]⟩,.int .u64 0,.int .u64 0,.int .u64 0,.int .u8 0,.int .u64 0,.int .i64 0] 28)) = W2 at H1 ⊢
 have F3:=H1.out.sees
 simp only [sees,kBlk,kVar,cellsAt,Nat.reduceAdd] at F3
 obtain ⟨⟨⟨z0,fz0⟩,c0_0,c0_1,c0_2,c0_3,c0_4,c0_5,c0_6,c0_7,c0_8,c0_9,c0_10,c0_11,c0_12,-⟩,⟨z1,c1_0,c1_1,c1_2,c1_3,c1_4,c1_5,c1_6,c1_7,c1_8,c1_9,c1_10,c1_11,c1_12,-⟩,-⟩:=F3
 refine wp_region_held_drew (S:=fun W => Ok w [kBlk (w.heap.size) 28 [.int .u8 5,.int .i64 u,.int .i64 x1,.int .i64 y1,.int .i64 x2,.int .i64 y2,.string ⟨inp.toArray⟩,.int .u64 (a : Nat),.int .u64 (b : Nat),.int .u64 (c : Nat),.int .u8 (f : Nat),.int .u64 (t : Nat),.int .i64 n]] W) (by kernel_rfl) (H1.out.drop [kBlk (w.heap.size) 28 [.int .u8 5,.int .i64 u,.int .i64 x1,.int .i64 y1,.int .i64 x2,.int .i64 y2,.string ⟨inp.toArray⟩,.int .u64 (a : Nat),.int .u64 (b : Nat),.int .u64 (c : Nat),.int .u8 (f : Nat),.int .u64 (t : Nat),.int .i64 n]] (by simp)).drew (fun hHeld => ?_)
 clear z0 fz0 c0_0 c0_1 c0_2 c0_3 c0_4 c0_5 c0_6 c0_7 c0_8 c0_9 c0_10 c0_11 c0_12 z1 c1_0 c1_1 c1_2 c1_3 c1_4 c1_5 c1_6 c1_7 c1_8 c1_9 c1_10 c1_11 c1_12
 have H4:=Lib.hid H1.out.drew
 clear H1
 generalize W2.drew = W5 at hHeld H4 ⊢
 refine wtg (i:=0) (v:=?a37) rfl ?b37 (by assumption) ?c37
 case b37 => (intro w hSw; have F:=Ok.sees hSw; clear hSw; simp only [sees,kBlk,cellsAt,Nat.reduceAdd] at F; go_simp; try with_reducible rfl)
 try simp only [Act.put,wp1,wp2,wp3,wp4,wp6]
 refine wtg (i:=1) (v:=?a39) rfl ?b39 (by assumption) ?c39
 case b39 => (intro w hSw; have F:=Ok.sees hSw; clear hSw; simp only [sees,kBlk,cellsAt,Nat.reduceAdd] at F; go_simp; try with_reducible rfl)
 try simp only [Act.put,wp1,wp2,wp3,wp4,wp5,wp6]
 refine wtg (i:=2) (v:=?a41) rfl ?b41 (by assumption) ?c41
 case b41 => (intro w hSw; have F:=Ok.sees hSw; clear hSw; simp only [sees,kBlk,cellsAt,Nat.reduceAdd] at F; go_simp; try with_reducible rfl)
 try simp only [Act.put,wp1,wp2,wp3,wp4,wp5,wp6]
 refine wpAnyH_ready (rs:=[3]) (by kernel_rfl) (by simp) ?_
 refine AllReadyH.cons rfl (fun K hK => ?_) AllReadyH.nil
 go_simp
 refine (r9_uses_5 _).mono ?_
 rintro e w6 ⟨rfl,hb7⟩
 go_wp2_with fail
 have H8:=Lib.hid (H4.out.below hb7)
 clear H4
 refine hK.out _ _ (hHeld.below hb7) (fun hHeld => ?_)
 clear hK K
 try simp only [Act.put,wp1,wp2,wp3,wp4,wp5,wp6]
 clear hb7
 refine wpAnyH_ready (rs:=[4]) (by kernel_rfl) (by simp) ?_
 refine AllReadyH.cons rfl (fun K hK => ?_) AllReadyH.nil
 go_simp
 refine (r9_only_3 5 u x1 y1 x2 y2 inp a b c f t n _).mono ?_
 rintro e w9 ⟨rfl,hb10⟩
 go_wp2_with fail
 have H11:=Lib.hid (H8.out.below hb10)
 clear H8
 refine hK.out _ _ (hHeld.below hb10) (fun hHeld => ?_)
 clear hK K
 try simp only [Act.put,wp1,wp2,wp3,wp4,wp5,wp6]
 clear hb10
 refine wpAnyH_ready (rs:=[5]) (by kernel_rfl) (by simp) ?_
 refine AllReadyH.cons rfl (fun K hK => ?_) AllReadyH.nil
 have F12:=H11.out.sees
 simp only [sees,kBlk,kVar,cellsAt,Nat.reduceAdd] at F12
 go_split_ands
 go_simp
 have H13:=Lib.hid (H11.out.drop [kVar (w.heap.size + 1) 28 [.int .u8 0,.int .i64 0,.int .i64 0,.int .i64 0,.int .i64 0,.int .i64 0,.string ⟨#[]⟩,.int .u64 0,.int .u64 0,.int .u64 0,.int .u8 0,.int .u64 0,.int .i64 0],kBlk (w.heap.size) 28 [.int .u8 5,.int .i64 u,.int .i64 x1,.int .i64 y1,.int .i64 x2,.int .i64 y2,.string ⟨inp.toArray⟩,.int .u64 (a : Nat),.int .u64 (b : Nat),.int .u64 (c : Nat),.int .u8 (f : Nat),.int .u64 (t : Nat),.int .i64 n]] (by simp))
 have hfar : ∀ x ∈ [kBlk (w.heap.size) 28 [.int .u8 5,.int .i64 u,.int .i64 x1,.int .i64 y1,.int .i64 x2,.int .i64 y2,.string ⟨inp.toArray⟩,.int .u64 (a : Nat),.int .u64 (b : Nat),.int .u64 (c : Nat),.int .u8 (f : Nat),.int .u64 (t : Nat),.int .i64 n]],x.far (some (w.heap.size + 1)):=by
  simp [kBlk] <;> omega
 have H14:=Lib.hid (((((((((((((H13.out.set_ (i:=0) (u:=.int .u8 5) (by omega) hfar).set_ (i:=1) (u:=.int .i64 u) (by omega) hfar).set_ (i:=2) (u:=.int .i64 x1) (by omega) hfar).set_ (i:=3) (u:=.int .i64 y1) (by omega) hfar).set_ (i:=4) (u:=.int .i64 x2) (by omega) hfar).set_ (i:=5) (u:=.int .i64 y2) (by omega) hfar).set_ (i:=6) (u:=.string ⟨#[]⟩) (by omega) hfar).set_ (i:=7) (u:=.int .u64 0) (by omega) hfar).set_ (i:=8) (u:=.int .u64 0) (by omega) hfar).set_ (i:=9) (u:=.int .u64 0) (by omega) hfar).set_ (i:=10) (u:=.int .u8 0) (by omega) hfar).set_ (i:=11) (u:=.int .u64 0) (by omega) hfar).set_ (i:=12) (u:=.int .i64 0) (by omega) hfar)
 clear H13 hfar
 clear H11
 refine hK.out _ _ (H14.out.drop [kBlk (w.heap.size) 28 [.int .u8 5,.int .i64 u,.int .i64 x1,.int .i64 y1,.int .i64 x2,.int .i64 y2,.string ⟨inp.toArray⟩,.int .u64 (a : Nat),.int .u64 (b : Nat),.int .u64 (c : Nat),.int .u8 (f : Nat),.int .u64 (t : Nat),.int .i64 n]] (by simp)) (fun hHeld => ?_)
 clear hK K
 try simp only [Act.put,wp1,wp2,wp3,wp4,wp5,wp6]
 generalize (((((((((((((w9.setCell ⟨w.heap.size + 1,0,none⟩ (.int .u8 5)).setCell ⟨w.heap.size + 1,1,none⟩ (.int .i64 u)).setCell ⟨w.heap.size + 1,2,none⟩ (.int .i64 x1)).setCell ⟨w.heap.size + 1,3,none⟩ (.int .i64 y1)).setCell ⟨w.heap.size + 1,4,none⟩ (.int .i64 x2)).setCell ⟨w.heap.size + 1,5,none⟩ (.int .i64 y2)).setCell ⟨w.heap.size + 1,6,none⟩ (.string ⟨#[]⟩)).setCell ⟨w.heap.size + 1,7,none⟩ (.int .u64 0)).setCell ⟨w.heap.size + 1,8,none⟩ (.int .u64 0)).setCell ⟨w.heap.size + 1,9,none⟩ (.int .u64 0)).setCell ⟨w.heap.size + 1,10,none⟩ (.int .u8 0)).setCell ⟨w.heap.size + 1,11,none⟩ (.int .u64 0)).setCell ⟨w.heap.size + 1,12,none⟩ (.int .i64 0)) = W15 at H14 hHeld ⊢
 refine wpAnyH_done (by kernel_rfl) ?_ _
 clear hHeld
 go_wp2_with fail
 have hK:=H14.out.get (kVar (w.heap.size + 1) 28 [.int .u8 5,.int .i64 u,.int .i64 x1,.int .i64 y1,.int .i64 x2,.int .i64 y2,.string ⟨#[]⟩,.int .u64 0,.int .u64 0,.int .u64 0,.int .u8 0,.int .u64 0,.int .i64 0]) (by simp)
 have hE:=(show Blk W15 (w.heap.size + 1) 28 _ from hK)
 have r0:=hE.cell 0
 have r1:=hE.cell 1
 have r2:=hE.cell 2
 have r3:=hE.cell 3
 have r4:=hE.cell 4
 have r5:=hE.cell 5
 have r6:=hE.cell 6
 have r7:=hE.cell 7
 have r8:=hE.cell 8
 have r9:=hE.cell 9
 have r10:=hE.cell 10
 have r11:=hE.cell 11
 have r12:=hE.cell 12
 simp at r0 r1 r2 r3 r4 r5 r6 r7 r8 r9 r10 r11 r12
 exact bodyPost_ret (v:=.agg #[.int .u8 5,.int .i64 u,.int .i64 x1,.int .i64 y1,.int .i64 x2,.int .i64 y2,.string ⟨#[]⟩,.int .u64 0,.int .u64 0,.int .u64 0,.int .u8 0,.int .u64 0,.int .i64 0]) (by simp [results,Tryz.results18,go_sem,r0,r1,r2,r3,r4,r5,r6,r7,r8,r9,r10,r11,r12]) rfl ⟨rfl,H14.out.bel⟩
set_option maxRecDepth 100000 in
set_option maxHeartbeats 4000000 in
theorem r9_plain_6 (u x1 y1 x2 y2 : Int) (inp : List UInt8) (a b c f t : Nat) (n : Int) (w : World) :
  Calls Tryz.prog 18 #[.agg #[.int .u8 6,.int .i64 u,.int .i64 x1,.int .i64 y1,.int .i64 x2,.int .i64 y2,.string ⟨inp.toArray⟩,.int .u64 (a : Nat),.int .u64 (b : Nat),.int .u64 (c : Nat),.int .u8 (f : Nat),.int .u64 (t : Nat),.int .i64 n]] w fun e w' => e = .returned (.agg #[.int .u8 6,.int .i64 u,.int .i64 x1,.int .i64 y1,.int .i64 x2,.int .i64 y2,.string ⟨#[]⟩,.int .u64 0,.int .u64 0,.int .u64 0,.int .u8 0,.int .u64 0,.int .i64 0]) ∧ Below w.heap.size w w':=by
 have H1:=Lib.hid (((Ok.start w).alloc w.heap.size 28 [.int .u8 6,.int .i64 u,.int .i64 x1,.int .i64 y1,.int .i64 x2,.int .i64 y2,.string ⟨inp.toArray⟩,.int .u64 (a : Nat),.int .u64 (b : Nat),.int .u64 (c : Nat),.int .u8 (f : Nat),.int .u64 (t : Nat),.int .i64 n] rfl).var (w.heap.size + 1) 28 [.int .u8 0,.int .i64 0,.int .i64 0,.int .i64 0,.int .i64 0,.int .i64 0,.string ⟨#[]⟩,.int .u64 0,.int .u64 0,.int .u64 0,.int .u8 0,.int .u64 0,.int .i64 0] (by simp))
 go_enter Tryz.func18,Tryz.ntmps18
 go_upto_region 1 with fail
 generalize ((w.alloc (.cells #[.int .u8 6,.int .i64 u,.int .i64 x1,.int .i64 y1,.int .i64 x2,.int .i64 y2,.string ⟨inp.toArray⟩,.int .u64 (a : Nat),.int .u64 (b : Nat),.int .u64 (c : Nat),.int .u8 (f : Nat),.int .u64 (t : Nat),.int .i64 n] 28)).alloc (.cells #[.int .u8 0,.int .i64 0,.int .i64 0,.int .i64 0,.int .i64 0,.int .i64 0,.string ⟨#[]⟩,.int .u64 0,.int .u64 0,.int .u64 0,.int .u8 0,.int .u64 0,.int .i64 0] 28)) = W2 at H1 ⊢
 have F3:=H1.out.sees
 simp only [sees,kBlk,kVar,cellsAt,Nat.reduceAdd] at F3
 obtain ⟨⟨⟨z0,fz0⟩,c0_0,c0_1,c0_2,c0_3,c0_4,c0_5,c0_6,c0_7,c0_8,c0_9,c0_10,c0_11,c0_12,-⟩,⟨z1,c1_0,c1_1,c1_2,c1_3,c1_4,c1_5,c1_6,c1_7,c1_8,c1_9,c1_10,c1_11,c1_12,-⟩,-⟩:=F3
 refine wp_region_held_drew (S:=fun W => Ok w [kBlk (w.heap.size) 28 [.int .u8 6,.int .i64 u,.int .i64 x1,.int .i64 y1,.int .i64 x2,.int .i64 y2,.string ⟨inp.toArray⟩,.int .u64 (a : Nat),.int .u64 (b : Nat),.int .u64 (c : Nat),.int .u8 (f : Nat),.int .u64 (t : Nat),.int .i64 n]] W) (by kernel_rfl) (H1.out.drop [kBlk (w.heap.size) 28 [.int .u8 6,.int .i64 u,.int .i64 x1,.int .i64 y1,.int .i64 x2,.int .i64 y2,.string ⟨inp.toArray⟩,.int .u64 (a : Nat),.int .u64 (b : Nat),.int .u64 (c : Nat),.int .u8 (f : Nat),.int .u64 (t : Nat),.int .i64 n]] (by simp)).drew (fun hHeld => ?_)
 clear z0 fz0 c0_0 c0_1 c0_2 c0_3 c0_4 c0_5 c0_6 c0_7 c0_8 c0_9 c0_10 c0_11 c0_12 z1 c1_0 c1_1 c1_2 c1_3 c1_4 c1_5 c1_6 c1_7 c1_8 c1_9 c1_10 c1_11 c1_12
 have H4:=Lib.hid H1.out.drew
 clear H1
 generalize W2.drew = W5 at hHeld H4 ⊢
 refine wtg (i:=0) (v:=?a46) rfl ?b46 (by assumption) ?c46
 case b46 => (intro w hSw; have F:=Ok.sees hSw; clear hSw; simp only [sees,kBlk,cellsAt,Nat.reduceAdd] at F; go_simp; try with_reducible rfl)
 try simp only [Act.put,wp1,wp2,wp3,wp4,wp6]
 refine wtg (i:=1) (v:=?a48) rfl ?b48 (by assumption) ?c48
 case b48 => (intro w hSw; have F:=Ok.sees hSw; clear hSw; simp only [sees,kBlk,cellsAt,Nat.reduceAdd] at F; go_simp; try with_reducible rfl)
 try simp only [Act.put,wp1,wp2,wp3,wp4,wp5,wp6]
 refine wtg (i:=2) (v:=?a50) rfl ?b50 (by assumption) ?c50
 case b50 => (intro w hSw; have F:=Ok.sees hSw; clear hSw; simp only [sees,kBlk,cellsAt,Nat.reduceAdd] at F; go_simp; try with_reducible rfl)
 try simp only [Act.put,wp1,wp2,wp3,wp4,wp5,wp6]
 refine wpAnyH_ready (rs:=[3]) (by kernel_rfl) (by simp) ?_
 refine AllReadyH.cons rfl (fun K hK => ?_) AllReadyH.nil
 go_simp
 refine (r9_uses_6 _).mono ?_
 rintro e w6 ⟨rfl,hb7⟩
 go_wp2_with fail
 have H8:=Lib.hid (H4.out.below hb7)
 clear H4
 refine hK.out _ _ (hHeld.below hb7) (fun hHeld => ?_)
 clear hK K
 try simp only [Act.put,wp1,wp2,wp3,wp4,wp5,wp6]
 clear hb7
 refine wpAnyH_ready (rs:=[4]) (by kernel_rfl) (by simp) ?_
 refine AllReadyH.cons rfl (fun K hK => ?_) AllReadyH.nil
 go_simp
 refine (r9_only_3 6 u x1 y1 x2 y2 inp a b c f t n _).mono ?_
 rintro e w9 ⟨rfl,hb10⟩
 go_wp2_with fail
 have H11:=Lib.hid (H8.out.below hb10)
 clear H8
 refine hK.out _ _ (hHeld.below hb10) (fun hHeld => ?_)
 clear hK K
 try simp only [Act.put,wp1,wp2,wp3,wp4,wp5,wp6]
 clear hb10
 refine wpAnyH_ready (rs:=[5]) (by kernel_rfl) (by simp) ?_
 refine AllReadyH.cons rfl (fun K hK => ?_) AllReadyH.nil
 have F12:=H11.out.sees
 simp only [sees,kBlk,kVar,cellsAt,Nat.reduceAdd] at F12
 go_split_ands
 go_simp
 have H13:=Lib.hid (H11.out.drop [kVar (w.heap.size + 1) 28 [.int .u8 0,.int .i64 0,.int .i64 0,.int .i64 0,.int .i64 0,.int .i64 0,.string ⟨#[]⟩,.int .u64 0,.int .u64 0,.int .u64 0,.int .u8 0,.int .u64 0,.int .i64 0],kBlk (w.heap.size) 28 [.int .u8 6,.int .i64 u,.int .i64 x1,.int .i64 y1,.int .i64 x2,.int .i64 y2,.string ⟨inp.toArray⟩,.int .u64 (a : Nat),.int .u64 (b : Nat),.int .u64 (c : Nat),.int .u8 (f : Nat),.int .u64 (t : Nat),.int .i64 n]] (by simp))
 have hfar : ∀ x ∈ [kBlk (w.heap.size) 28 [.int .u8 6,.int .i64 u,.int .i64 x1,.int .i64 y1,.int .i64 x2,.int .i64 y2,.string ⟨inp.toArray⟩,.int .u64 (a : Nat),.int .u64 (b : Nat),.int .u64 (c : Nat),.int .u8 (f : Nat),.int .u64 (t : Nat),.int .i64 n]],x.far (some (w.heap.size + 1)):=by
  simp [kBlk] <;> omega
 have H14:=Lib.hid (((((((((((((H13.out.set_ (i:=0) (u:=.int .u8 6) (by omega) hfar).set_ (i:=1) (u:=.int .i64 u) (by omega) hfar).set_ (i:=2) (u:=.int .i64 x1) (by omega) hfar).set_ (i:=3) (u:=.int .i64 y1) (by omega) hfar).set_ (i:=4) (u:=.int .i64 x2) (by omega) hfar).set_ (i:=5) (u:=.int .i64 y2) (by omega) hfar).set_ (i:=6) (u:=.string ⟨#[]⟩) (by omega) hfar).set_ (i:=7) (u:=.int .u64 0) (by omega) hfar).set_ (i:=8) (u:=.int .u64 0) (by omega) hfar).set_ (i:=9) (u:=.int .u64 0) (by omega) hfar).set_ (i:=10) (u:=.int .u8 0) (by omega) hfar).set_ (i:=11) (u:=.int .u64 0) (by omega) hfar).set_ (i:=12) (u:=.int .i64 0) (by omega) hfar)
 clear H13 hfar
 clear H11
 refine hK.out _ _ (H14.out.drop [kBlk (w.heap.size) 28 [.int .u8 6,.int .i64 u,.int .i64 x1,.int .i64 y1,.int .i64 x2,.int .i64 y2,.string ⟨inp.toArray⟩,.int .u64 (a : Nat),.int .u64 (b : Nat),.int .u64 (c : Nat),.int .u8 (f : Nat),.int .u64 (t : Nat),.int .i64 n]] (by simp)) (fun hHeld => ?_)
 clear hK K
 try simp only [Act.put,wp1,wp2,wp3,wp4,wp5,wp6]
 generalize (((((((((((((w9.setCell ⟨w.heap.size + 1,0,none⟩ (.int .u8 6)).setCell ⟨w.heap.size + 1,1,none⟩ (.int .i64 u)).setCell ⟨w.heap.size + 1,2,none⟩ (.int .i64 x1)).setCell ⟨w.heap.size + 1,3,none⟩ (.int .i64 y1)).setCell ⟨w.heap.size + 1,4,none⟩ (.int .i64 x2)).setCell ⟨w.heap.size + 1,5,none⟩ (.int .i64 y2)).setCell ⟨w.heap.size + 1,6,none⟩ (.string ⟨#[]⟩)).setCell ⟨w.heap.size + 1,7,none⟩ (.int .u64 0)).setCell ⟨w.heap.size + 1,8,none⟩ (.int .u64 0)).setCell ⟨w.heap.size + 1,9,none⟩ (.int .u64 0)).setCell ⟨w.heap.size + 1,10,none⟩ (.int .u8 0)).setCell ⟨w.heap.size + 1,11,none⟩ (.int .u64 0)).setCell ⟨w.heap.size + 1,12,none⟩ (.int .i64 0)) = W15 at H14 hHeld ⊢
 refine wpAnyH_done (by kernel_rfl) ?_ _
 clear hHeld
 go_wp2_with fail
 have hK:=H14.out.get (kVar (w.heap.size + 1) 28 [.int .u8 6,.int .i64 u,.int .i64 x1,.int .i64 y1,.int .i64 x2,.int .i64 y2,.string ⟨#[]⟩,.int .u64 0,.int .u64 0,.int .u64 0,.int .u8 0,.int .u64 0,.int .i64 0]) (by simp)
 have hE:=(show Blk W15 (w.heap.size + 1) 28 _ from hK)
 have r0:=hE.cell 0
 have r1:=hE.cell 1
 have r2:=hE.cell 2
 have r3:=hE.cell 3
 have r4:=hE.cell 4
 have r5:=hE.cell 5
 have r6:=hE.cell 6
 have r7:=hE.cell 7
 have r8:=hE.cell 8
 have r9:=hE.cell 9
 have r10:=hE.cell 10
 have r11:=hE.cell 11
 have r12:=hE.cell 12
 simp at r0 r1 r2 r3 r4 r5 r6 r7 r8 r9 r10 r11 r12
 exact bodyPost_ret (v:=.agg #[.int .u8 6,.int .i64 u,.int .i64 x1,.int .i64 y1,.int .i64 x2,.int .i64 y2,.string ⟨#[]⟩,.int .u64 0,.int .u64 0,.int .u64 0,.int .u8 0,.int .u64 0,.int .i64 0]) (by simp [results,Tryz.results18,go_sem,r0,r1,r2,r3,r4,r5,r6,r7,r8,r9,r10,r11,r12]) rfl ⟨rfl,H14.out.bel⟩
set_option maxRecDepth 100000 in
set_option maxHeartbeats 4000000 in
theorem r9_plain_7 (u x1 y1 x2 y2 : Int) (inp : List UInt8) (a b c f t : Nat) (n : Int) (w : World) :
  Calls Tryz.prog 18 #[.agg #[.int .u8 7,.int .i64 u,.int .i64 x1,.int .i64 y1,.int .i64 x2,.int .i64 y2,.string ⟨inp.toArray⟩,.int .u64 (a : Nat),.int .u64 (b : Nat),.int .u64 (c : Nat),.int .u8 (f : Nat),.int .u64 (t : Nat),.int .i64 n]] w fun e w' => e = .returned (.agg #[.int .u8 7,.int .i64 u,.int .i64 x1,.int .i64 y1,.int .i64 x2,.int .i64 y2,.string ⟨#[]⟩,.int .u64 (a : Nat),.int .u64 (b : Nat),.int .u64 (c : Nat),.int .u8 0,.int .u64 0,.int .i64 0]) ∧ Below w.heap.size w w':=by
 have H1:=Lib.hid (((Ok.start w).alloc w.heap.size 28 [.int .u8 7,.int .i64 u,.int .i64 x1,.int .i64 y1,.int .i64 x2,.int .i64 y2,.string ⟨inp.toArray⟩,.int .u64 (a : Nat),.int .u64 (b : Nat),.int .u64 (c : Nat),.int .u8 (f : Nat),.int .u64 (t : Nat),.int .i64 n] rfl).var (w.heap.size + 1) 28 [.int .u8 0,.int .i64 0,.int .i64 0,.int .i64 0,.int .i64 0,.int .i64 0,.string ⟨#[]⟩,.int .u64 0,.int .u64 0,.int .u64 0,.int .u8 0,.int .u64 0,.int .i64 0] (by simp))
 go_enter Tryz.func18,Tryz.ntmps18
 go_upto_region 1 with fail
 generalize ((w.alloc (.cells #[.int .u8 7,.int .i64 u,.int .i64 x1,.int .i64 y1,.int .i64 x2,.int .i64 y2,.string ⟨inp.toArray⟩,.int .u64 (a : Nat),.int .u64 (b : Nat),.int .u64 (c : Nat),.int .u8 (f : Nat),.int .u64 (t : Nat),.int .i64 n] 28)).alloc (.cells #[.int .u8 0,.int .i64 0,.int .i64 0,.int .i64 0,.int .i64 0,.int .i64 0,.string ⟨#[]⟩,.int .u64 0,.int .u64 0,.int .u64 0,.int .u8 0,.int .u64 0,.int .i64 0] 28)) = W2 at H1 ⊢
 have F3:=H1.out.sees
 simp only [sees,kBlk,kVar,cellsAt,Nat.reduceAdd] at F3
 obtain ⟨⟨⟨z0,fz0⟩,c0_0,c0_1,c0_2,c0_3,c0_4,c0_5,c0_6,c0_7,c0_8,c0_9,c0_10,c0_11,c0_12,-⟩,⟨z1,c1_0,c1_1,c1_2,c1_3,c1_4,c1_5,c1_6,c1_7,c1_8,c1_9,c1_10,c1_11,c1_12,-⟩,-⟩:=F3
 refine wp_region_held_drew (S:=fun W => Ok w [kBlk (w.heap.size) 28 [.int .u8 7,.int .i64 u,.int .i64 x1,.int .i64 y1,.int .i64 x2,.int .i64 y2,.string ⟨inp.toArray⟩,.int .u64 (a : Nat),.int .u64 (b : Nat),.int .u64 (c : Nat),.int .u8 (f : Nat),.int .u64 (t : Nat),.int .i64 n]] W) (by kernel_rfl) (H1.out.drop [kBlk (w.heap.size) 28 [.int .u8 7,.int .i64 u,.int .i64 x1,.int .i64 y1,.int .i64 x2,.int .i64 y2,.string ⟨inp.toArray⟩,.int .u64 (a : Nat),.int .u64 (b : Nat),.int .u64 (c : Nat),.int .u8 (f : Nat),.int .u64 (t : Nat),.int .i64 n]] (by simp)).drew (fun hHeld => ?_)
 clear z0 fz0 c0_0 c0_1 c0_2 c0_3 c0_4 c0_5 c0_6 c0_7 c0_8 c0_9 c0_10 c0_11 c0_12 z1 c1_0 c1_1 c1_2 c1_3 c1_4 c1_5 c1_6 c1_7 c1_8 c1_9 c1_10 c1_11 c1_12
 have H4:=Lib.hid H1.out.drew
 clear H1
 generalize W2.drew = W5 at hHeld H4 ⊢
 refine wtg (i:=0) (v:=?a55) rfl ?b55 (by assumption) ?c55
 case b55 => (intro w hSw; have F:=Ok.sees hSw; clear hSw; simp only [sees,kBlk,cellsAt,Nat.reduceAdd] at F; go_simp; try with_reducible rfl)
 try simp only [Act.put,wp1,wp2,wp3,wp4,wp6]
 refine wtg (i:=1) (v:=?a57) rfl ?b57 (by assumption) ?c57
 case b57 => (intro w hSw; have F:=Ok.sees hSw; clear hSw; simp only [sees,kBlk,cellsAt,Nat.reduceAdd] at F; go_simp; try with_reducible rfl)
 try simp only [Act.put,wp1,wp2,wp3,wp4,wp5,wp6]
 refine wtg (i:=2) (v:=?a59) rfl ?b59 (by assumption) ?c59
 case b59 => (intro w hSw; have F:=Ok.sees hSw; clear hSw; simp only [sees,kBlk,cellsAt,Nat.reduceAdd] at F; go_simp; try with_reducible rfl)
 try simp only [Act.put,wp1,wp2,wp3,wp4,wp5,wp6]
 refine wpAnyH_ready (rs:=[3]) (by kernel_rfl) (by simp) ?_
 refine AllReadyH.cons rfl (fun K hK => ?_) AllReadyH.nil
 go_simp
 refine (r9_uses_7 _).mono ?_
 rintro e w6 ⟨rfl,hb7⟩
 go_wp2_with fail
 have H8:=Lib.hid (H4.out.below hb7)
 clear H4
 refine hK.out _ _ (hHeld.below hb7) (fun hHeld => ?_)
 clear hK K
 try simp only [Act.put,wp1,wp2,wp3,wp4,wp5,wp6]
 clear hb7
 refine wpAnyH_ready (rs:=[4]) (by kernel_rfl) (by simp) ?_
 refine AllReadyH.cons rfl (fun K hK => ?_) AllReadyH.nil
 go_simp
 refine (r9_only_11 7 u x1 y1 x2 y2 inp a b c f t n _).mono ?_
 rintro e w9 ⟨rfl,hb10⟩
 go_wp2_with fail
 have H11:=Lib.hid (H8.out.below hb10)
 clear H8
 refine hK.out _ _ (hHeld.below hb10) (fun hHeld => ?_)
 clear hK K
 try simp only [Act.put,wp1,wp2,wp3,wp4,wp5,wp6]
 clear hb10
 refine wpAnyH_ready (rs:=[5]) (by kernel_rfl) (by simp) ?_
 refine AllReadyH.cons rfl (fun K hK => ?_) AllReadyH.nil
 have F12:=H11.out.sees
 simp only [sees,kBlk,kVar,cellsAt,Nat.reduceAdd] at F12
 go_split_ands
 go_simp
 have H13:=Lib.hid (H11.out.drop [kVar (w.heap.size + 1) 28 [.int .u8 0,.int .i64 0,.int .i64 0,.int .i64 0,.int .i64 0,.int .i64 0,.string ⟨#[]⟩,.int .u64 0,.int .u64 0,.int .u64 0,.int .u8 0,.int .u64 0,.int .i64 0],kBlk (w.heap.size) 28 [.int .u8 7,.int .i64 u,.int .i64 x1,.int .i64 y1,.int .i64 x2,.int .i64 y2,.string ⟨inp.toArray⟩,.int .u64 (a : Nat),.int .u64 (b : Nat),.int .u64 (c : Nat),.int .u8 (f : Nat),.int .u64 (t : Nat),.int .i64 n]] (by simp))
 have hfar : ∀ x ∈ [kBlk (w.heap.size) 28 [.int .u8 7,.int .i64 u,.int .i64 x1,.int .i64 y1,.int .i64 x2,.int .i64 y2,.string ⟨inp.toArray⟩,.int .u64 (a : Nat),.int .u64 (b : Nat),.int .u64 (c : Nat),.int .u8 (f : Nat),.int .u64 (t : Nat),.int .i64 n]],x.far (some (w.heap.size + 1)):=by
  simp [kBlk] <;> omega
 have H14:=Lib.hid (((((((((((((H13.out.set_ (i:=0) (u:=.int .u8 7) (by omega) hfar).set_ (i:=1) (u:=.int .i64 u) (by omega) hfar).set_ (i:=2) (u:=.int .i64 x1) (by omega) hfar).set_ (i:=3) (u:=.int .i64 y1) (by omega) hfar).set_ (i:=4) (u:=.int .i64 x2) (by omega) hfar).set_ (i:=5) (u:=.int .i64 y2) (by omega) hfar).set_ (i:=6) (u:=.string ⟨#[]⟩) (by omega) hfar).set_ (i:=7) (u:=.int .u64 (a : Nat)) (by omega) hfar).set_ (i:=8) (u:=.int .u64 (b : Nat)) (by omega) hfar).set_ (i:=9) (u:=.int .u64 (c : Nat)) (by omega) hfar).set_ (i:=10) (u:=.int .u8 0) (by omega) hfar).set_ (i:=11) (u:=.int .u64 0) (by omega) hfar).set_ (i:=12) (u:=.int .i64 0) (by omega) hfar)
 clear H13 hfar
 clear H11
 refine hK.out _ _ (H14.out.drop [kBlk (w.heap.size) 28 [.int .u8 7,.int .i64 u,.int .i64 x1,.int .i64 y1,.int .i64 x2,.int .i64 y2,.string ⟨inp.toArray⟩,.int .u64 (a : Nat),.int .u64 (b : Nat),.int .u64 (c : Nat),.int .u8 (f : Nat),.int .u64 (t : Nat),.int .i64 n]] (by simp)) (fun hHeld => ?_)
 clear hK K
 try simp only [Act.put,wp1,wp2,wp3,wp4,wp5,wp6]
 generalize (((((((((((((w9.setCell ⟨w.heap.size + 1,0,none⟩ (.int .u8 7)).setCell ⟨w.heap.size + 1,1,none⟩ (.int .i64 u)).setCell ⟨w.heap.size + 1,2,none⟩ (.int .i64 x1)).setCell ⟨w.heap.size + 1,3,none⟩ (.int .i64 y1)).setCell ⟨w.heap.size + 1,4,none⟩ (.int .i64 x2)).setCell ⟨w.heap.size + 1,5,none⟩ (.int .i64 y2)).setCell ⟨w.heap.size + 1,6,none⟩ (.string ⟨#[]⟩)).setCell ⟨w.heap.size + 1,7,none⟩ (.int .u64 (a : Nat))).setCell ⟨w.heap.size + 1,8,none⟩ (.int .u64 (b : Nat))).setCell ⟨w.heap.size + 1,9,none⟩ (.int .u64 (c : Nat))).setCell ⟨w.heap.size + 1,10,none⟩ (.int .u8 0)).setCell ⟨w.heap.size + 1,11,none⟩ (.int .u64 0)).setCell ⟨w.heap.size + 1,12,none⟩ (.int .i64 0)) = W15 at H14 hHeld ⊢
 refine wpAnyH_done (by kernel_rfl) ?_ _
 clear hHeld
 go_wp2_with fail
 have hK:=H14.out.get (kVar (w.heap.size + 1) 28 [.int .u8 7,.int .i64 u,.int .i64 x1,.int .i64 y1,.int .i64 x2,.int .i64 y2,.string ⟨#[]⟩,.int .u64 (a : Nat),.int .u64 (b : Nat),.int .u64 (c : Nat),.int .u8 0,.int .u64 0,.int .i64 0]) (by simp)
 have hE:=(show Blk W15 (w.heap.size + 1) 28 _ from hK)
 have r0:=hE.cell 0
 have r1:=hE.cell 1
 have r2:=hE.cell 2
 have r3:=hE.cell 3
 have r4:=hE.cell 4
 have r5:=hE.cell 5
 have r6:=hE.cell 6
 have r7:=hE.cell 7
 have r8:=hE.cell 8
 have r9:=hE.cell 9
 have r10:=hE.cell 10
 have r11:=hE.cell 11
 have r12:=hE.cell 12
 simp at r0 r1 r2 r3 r4 r5 r6 r7 r8 r9 r10 r11 r12
 exact bodyPost_ret (v:=.agg #[.int .u8 7,.int .i64 u,.int .i64 x1,.int .i64 y1,.int .i64 x2,.int .i64 y2,.string ⟨#[]⟩,.int .u64 (a : Nat),.int .u64 (b : Nat),.int .u64 (c : Nat),.int .u8 0,.int .u64 0,.int .i64 0]) (by simp [results,Tryz.results18,go_sem,r0,r1,r2,r3,r4,r5,r6,r7,r8,r9,r10,r11,r12]) rfl ⟨rfl,H14.out.bel⟩
set_option maxRecDepth 100000 in
set_option maxHeartbeats 4000000 in
theorem r9_plain_8 (u x1 y1 x2 y2 : Int) (inp : List UInt8) (a b c f t : Nat) (n : Int) (w : World) :
  Calls Tryz.prog 18 #[.agg #[.int .u8 8,.int .i64 u,.int .i64 x1,.int .i64 y1,.int .i64 x2,.int .i64 y2,.string ⟨inp.toArray⟩,.int .u64 (a : Nat),.int .u64 (b : Nat),.int .u64 (c : Nat),.int .u8 (f : Nat),.int .u64 (t : Nat),.int .i64 n]] w fun e w' => e = .returned (.agg #[.int .u8 8,.int .i64 u,.int .i64 x1,.int .i64 y1,.int .i64 x2,.int .i64 y2,.string ⟨#[]⟩,.int .u64 0,.int .u64 0,.int .u64 0,.int .u8 (f : Nat),.int .u64 (t : Nat),.int .i64 0]) ∧ Below w.heap.size w w':=by
 have H1:=Lib.hid (((Ok.start w).alloc w.heap.size 28 [.int .u8 8,.int .i64 u,.int .i64 x1,.int .i64 y1,.int .i64 x2,.int .i64 y2,.string ⟨inp.toArray⟩,.int .u64 (a : Nat),.int .u64 (b : Nat),.int .u64 (c : Nat),.int .u8 (f : Nat),.int .u64 (t : Nat),.int .i64 n] rfl).var (w.heap.size + 1) 28 [.int .u8 0,.int .i64 0,.int .i64 0,.int .i64 0,.int .i64 0,.int .i64 0,.string ⟨#[]⟩,.int .u64 0,.int .u64 0,.int .u64 0,.int .u8 0,.int .u64 0,.int .i64 0] (by simp))
 go_enter Tryz.func18,Tryz.ntmps18
 go_upto_region 1 with fail
 generalize ((w.alloc (.cells #[.int .u8 8,.int .i64 u,.int .i64 x1,.int .i64 y1,.int .i64 x2,.int .i64 y2,.string ⟨inp.toArray⟩,.int .u64 (a : Nat),.int .u64 (b : Nat),.int .u64 (c : Nat),.int .u8 (f : Nat),.int .u64 (t : Nat),.int .i64 n] 28)).alloc (.cells #[.int .u8 0,.int .i64 0,.int .i64 0,.int .i64 0,.int .i64 0,.int .i64 0,.string ⟨#[]⟩,.int .u64 0,.int .u64 0,.int .u64 0,.int .u8 0,.int .u64 0,.int .i64 0] 28)) = W2 at H1 ⊢
 have F3:=H1.out.sees
 simp only [sees,kBlk,kVar,cellsAt,Nat.reduceAdd] at F3
 obtain ⟨⟨⟨z0,fz0⟩,c0_0,c0_1,c0_2,c0_3,c0_4,c0_5,c0_6,c0_7,c0_8,c0_9,c0_10,c0_11,c0_12,-⟩,⟨z1,c1_0,c1_1,c1_2,c1_3,c1_4,c1_5,c1_6,c1_7,c1_8,c1_9,c1_10,c1_11,c1_12,-⟩,-⟩:=F3
 refine wp_region_held_drew (S:=fun W => Ok w [kBlk (w.heap.size) 28 [.int .u8 8,.int .i64 u,.int .i64 x1,.int .i64 y1,.int .i64 x2,.int .i64 y2,.string ⟨inp.toArray⟩,.int .u64 (a : Nat),.int .u64 (b : Nat),.int .u64 (c : Nat),.int .u8 (f : Nat),.int .u64 (t : Nat),.int .i64 n]] W) (by kernel_rfl) (H1.out.drop [kBlk (w.heap.size) 28 [.int .u8 8,.int .i64 u,.int .i64 x1,.int .i64 y1,.int .i64 x2,.int .i64 y2,.string ⟨inp.toArray⟩,.int .u64 (a : Nat),.int .u64 (b : Nat),.int .u64 (c : Nat),.int .u8 (f : Nat),.int .u64 (t : Nat),.int .i64 n]] (by simp)).drew (fun hHeld => ?_)
 clear z0 fz0 c0_0 c0_1 c0_2 c0_3 c0_4 c0_5 c0_6 c0_7 c0_8 c0_9 c0_10 c0_11 c0_12 z1 c1_0 c1_1 c1_2 c1_3 c1_4 c1_5 c1_6 c1_7 c1_8 c1_9 c1_10 c1_11 c1_12
 have H4:=Lib.hid H1.out.drew
 clear H1
 generalize W2.drew = W5 at hHeld H4 ⊢
 refine wtg (i:=0) (v:=?a64) rfl ?b64 (by assumption) ?c64
 case b64 => (intro w hSw; have F:=Ok.sees hSw; clear hSw; simp only [sees,kBlk,cellsAt,Nat.reduceAdd] at F; go_simp; try with_reducible rfl)
 try simp only [Act.put,wp1,wp2,wp3,wp4,wp6]
 refine wtg (i:=1) (v:=?a66) rfl ?b66 (by assumption) ?c66
 case b66 => (intro w hSw; have F:=Ok.sees hSw; clear hSw; simp only [sees,kBlk,cellsAt,Nat.reduceAdd] at F; go_simp; try with_reducible rfl)
 try simp only [Act.put,wp1,wp2,wp3,wp4,wp5,wp6]
 refine wtg (i:=2) (v:=?a68) rfl ?b68 (by assumption) ?c68
 case b68 => (intro w hSw; have F:=Ok.sees hSw; clear hSw; simp only [sees,kBlk,cellsAt,Nat.reduceAdd] at F; go_simp; try with_reducible rfl)
 try simp only [Act.put,wp1,wp2,wp3,wp4,wp5,wp6]
 refine wpAnyH_ready (rs:=[3]) (by kernel_rfl) (by simp) ?_
 refine AllReadyH.cons rfl (fun K hK => ?_) AllReadyH.nil
 go_simp
 refine (r9_uses_8 _).mono ?_
 rintro e w6 ⟨rfl,hb7⟩
 go_wp2_with fail
 have H8:=Lib.hid (H4.out.below hb7)
 clear H4
 refine hK.out _ _ (hHeld.below hb7) (fun hHeld => ?_)
 clear hK K
 try simp only [Act.put,wp1,wp2,wp3,wp4,wp5,wp6]
 clear hb7
 refine wpAnyH_ready (rs:=[4]) (by kernel_rfl) (by simp) ?_
 refine AllReadyH.cons rfl (fun K hK => ?_) AllReadyH.nil
 go_simp
 refine (r9_only_51 8 u x1 y1 x2 y2 inp a b c f t n _).mono ?_
 rintro e w9 ⟨rfl,hb10⟩
 go_wp2_with fail
 have H11:=Lib.hid (H8.out.below hb10)
 clear H8
 refine hK.out _ _ (hHeld.below hb10) (fun hHeld => ?_)
 clear hK K
 try simp only [Act.put,wp1,wp2,wp3,wp4,wp5,wp6]
 clear hb10
 refine wpAnyH_ready (rs:=[5]) (by kernel_rfl) (by simp) ?_
 refine AllReadyH.cons rfl (fun K hK => ?_) AllReadyH.nil
 have F12:=H11.out.sees
 simp only [sees,kBlk,kVar,cellsAt,Nat.reduceAdd] at F12
 go_split_ands
 go_simp
 have H13:=Lib.hid (H11.out.drop [kVar (w.heap.size + 1) 28 [.int .u8 0,.int .i64 0,.int .i64 0,.int .i64 0,.int .i64 0,.int .i64 0,.string ⟨#[]⟩,.int .u64 0,.int .u64 0,.int .u64 0,.int .u8 0,.int .u64 0,.int .i64 0],kBlk (w.heap.size) 28 [.int .u8 8,.int .i64 u,.int .i64 x1,.int .i64 y1,.int .i64 x2,.int .i64 y2,.string ⟨inp.toArray⟩,.int .u64 (a : Nat),.int .u64 (b : Nat),.int .u64 (c : Nat),.int .u8 (f : Nat),.int .u64 (t : Nat),.int .i64 n]] (by simp))
 have hfar : ∀ x ∈ [kBlk (w.heap.size) 28 [.int .u8 8,.int .i64 u,.int .i64 x1,.int .i64 y1,.int .i64 x2,.int .i64 y2,.string ⟨inp.toArray⟩,.int .u64 (a : Nat),.int .u64 (b : Nat),.int .u64 (c : Nat),.int .u8 (f : Nat),.int .u64 (t : Nat),.int .i64 n]],x.far (some (w.heap.size + 1)):=by
  simp [kBlk] <;> omega
 have H14:=Lib.hid (((((((((((((H13.out.set_ (i:=0) (u:=.int .u8 8) (by omega) hfar).set_ (i:=1) (u:=.int .i64 u) (by omega) hfar).set_ (i:=2) (u:=.int .i64 x1) (by omega) hfar).set_ (i:=3) (u:=.int .i64 y1) (by omega) hfar).set_ (i:=4) (u:=.int .i64 x2) (by omega) hfar).set_ (i:=5) (u:=.int .i64 y2) (by omega) hfar).set_ (i:=6) (u:=.string ⟨#[]⟩) (by omega) hfar).set_ (i:=7) (u:=.int .u64 0) (by omega) hfar).set_ (i:=8) (u:=.int .u64 0) (by omega) hfar).set_ (i:=9) (u:=.int .u64 0) (by omega) hfar).set_ (i:=10) (u:=.int .u8 (f : Nat)) (by omega) hfar).set_ (i:=11) (u:=.int .u64 (t : Nat)) (by omega) hfar).set_ (i:=12) (u:=.int .i64 0) (by omega) hfar)
 clear H13 hfar
 clear H11
 refine hK.out _ _ (H14.out.drop [kBlk (w.heap.size) 28 [.int .u8 8,.int .i64 u,.int .i64 x1,.int .i64 y1,.int .i64 x2,.int .i64 y2,.string ⟨inp.toArray⟩,.int .u64 (a : Nat),.int .u64 (b : Nat),.int .u64 (c : Nat),.int .u8 (f : Nat),.int .u64 (t : Nat),.int .i64 n]] (by simp)) (fun hHeld => ?_)
 clear hK K
 try simp only [Act.put,wp1,wp2,wp3,wp4,wp5,wp6]
 generalize (((((((((((((w9.setCell ⟨w.heap.size + 1,0,none⟩ (.int .u8 8)).setCell ⟨w.heap.size + 1,1,none⟩ (.int .i64 u)).setCell ⟨w.heap.size + 1,2,none⟩ (.int .i64 x1)).setCell ⟨w.heap.size + 1,3,none⟩ (.int .i64 y1)).setCell ⟨w.heap.size + 1,4,none⟩ (.int .i64 x2)).setCell ⟨w.heap.size + 1,5,none⟩ (.int .i64 y2)).setCell ⟨w.heap.size + 1,6,none⟩ (.string ⟨#[]⟩)).setCell ⟨w.heap.size + 1,7,none⟩ (.int .u64 0)).setCell ⟨w.heap.size + 1,8,none⟩ (.int .u64 0)).setCell ⟨w.heap.size + 1,9,none⟩ (.int .u64 0)).setCell ⟨w.heap.size + 1,10,none⟩ (.int .u8 (f : Nat))).setCell ⟨w.heap.size + 1,11,none⟩ (.int .u64 (t : Nat))).setCell ⟨w.heap.size + 1,12,none⟩ (.int .i64 0)) = W15 at H14 hHeld ⊢
 refine wpAnyH_done (by kernel_rfl) ?_ _
 clear hHeld
 go_wp2_with fail
 have hK:=H14.out.get (kVar (w.heap.size + 1) 28 [.int .u8 8,.int .i64 u,.int .i64 x1,.int .i64 y1,.int .i64 x2,.int .i64 y2,.string ⟨#[]⟩,.int .u64 0,.int .u64 0,.int .u64 0,.int .u8 (f : Nat),.int .u64 (t : Nat),.int .i64 0]) (by simp)
 have hE:=(show Blk W15 (w.heap.size + 1) 28 _ from hK)
 have r0:=hE.cell 0
 have r1:=hE.cell 1
 have r2:=hE.cell 2
 have r3:=hE.cell 3
 have r4:=hE.cell 4
 have r5:=hE.cell 5
 have r6:=hE.cell 6
 have r7:=hE.cell 7
 have r8:=hE.cell 8
 have r9:=hE.cell 9
 have r10:=hE.cell 10
 have r11:=hE.cell 11
 have r12:=hE.cell 12
 simp at r0 r1 r2 r3 r4 r5 r6 r7 r8 r9 r10 r11 r12
 exact bodyPost_ret (v:=.agg #[.int .u8 8,.int .i64 u,.int .i64 x1,.int .i64 y1,.int .i64 x2,.int .i64 y2,.string ⟨#[]⟩,.int .u64 0,.int .u64 0,.int .u64 0,.int .u8 (f : Nat),.int .u64 (t : Nat),.int .i64 0]) (by simp [results,Tryz.results18,go_sem,r0,r1,r2,r3,r4,r5,r6,r7,r8,r9,r10,r11,r12]) rfl ⟨rfl,H14.out.bel⟩
set_option maxRecDepth 100000 in
set_option maxHeartbeats 4000000 in
theorem r9_plain_9 (u x1 y1 x2 y2 : Int) (inp : List UInt8) (a b c f t : Nat) (n : Int) (w : World) :
  Calls Tryz.prog 18 #[.agg #[.int .u8 9,.int .i64 u,.int .i64 x1,.int .i64 y1,.int .i64 x2,.int .i64 y2,.string ⟨inp.toArray⟩,.int .u64 (a : Nat),.int .u64 (b : Nat),.int .u64 (c : Nat),.int .u8 (f : Nat),.int .u64 (t : Nat),.int .i64 n]] w fun e w' => e = .returned (.agg #[.int .u8 9,.int .i64 u,.int .i64 0,.int .i64 0,.int .i64 0,.int .i64 0,.string ⟨#[]⟩,.int .u64 0,.int .u64 0,.int .u64 0,.int .u8 0,.int .u64 0,.int .i64 n]) ∧ Below w.heap.size w w':=by
 have H1:=Lib.hid (((Ok.start w).alloc w.heap.size 28 [.int .u8 9,.int .i64 u,.int .i64 x1,.int .i64 y1,.int .i64 x2,.int .i64 y2,.string ⟨inp.toArray⟩,.int .u64 (a : Nat),.int .u64 (b : Nat),.int .u64 (c : Nat),.int .u8 (f : Nat),.int .u64 (t : Nat),.int .i64 n] rfl).var (w.heap.size + 1) 28 [.int .u8 0,.int .i64 0,.int .i64 0,.int .i64 0,.int .i64 0,.int .i64 0,.string ⟨#[]⟩,.int .u64 0,.int .u64 0,.int .u64 0,.int .u8 0,.int .u64 0,.int .i64 0] (by simp))
 go_enter Tryz.func18,Tryz.ntmps18
 go_upto_region 1 with fail
 generalize ((w.alloc (.cells #[.int .u8 9,.int .i64 u,.int .i64 x1,.int .i64 y1,.int .i64 x2,.int .i64 y2,.string ⟨inp.toArray⟩,.int .u64 (a : Nat),.int .u64 (b : Nat),.int .u64 (c : Nat),.int .u8 (f : Nat),.int .u64 (t : Nat),.int .i64 n] 28)).alloc (.cells #[.int .u8 0,.int .i64 0,.int .i64 0,.int .i64 0,.int .i64 0,.int .i64 0,.string ⟨#[]⟩,.int .u64 0,.int .u64 0,.int .u64 0,.int .u8 0,.int .u64 0,.int .i64 0] 28)) = W2 at H1 ⊢
 have F3:=H1.out.sees
 simp only [sees,kBlk,kVar,cellsAt,Nat.reduceAdd] at F3
 obtain ⟨⟨⟨z0,fz0⟩,c0_0,c0_1,c0_2,c0_3,c0_4,c0_5,c0_6,c0_7,c0_8,c0_9,c0_10,c0_11,c0_12,-⟩,⟨z1,c1_0,c1_1,c1_2,c1_3,c1_4,c1_5,c1_6,c1_7,c1_8,c1_9,c1_10,c1_11,c1_12,-⟩,-⟩:=F3
 refine wp_region_held_drew (S:=fun W => Ok w [kBlk (w.heap.size) 28 [.int .u8 9,.int .i64 u,.int .i64 x1,.int .i64 y1,.int .i64 x2,.int .i64 y2,.string ⟨inp.toArray⟩,.int .u64 (a : Nat),.int .u64 (b : Nat),.int .u64 (c : Nat),.int .u8 (f : Nat),.int .u64 (t : Nat),.int .i64 n]] W) (by kernel_rfl) (H1.out.drop [kBlk (w.heap.size) 28 [.int .u8 9,.int .i64 u,.int .i64 x1,.int .i64 y1,.int .i64 x2,.int .i64 y2,.string ⟨inp.toArray⟩,.int .u64 (a : Nat),.int .u64 (b : Nat),.int .u64 (c : Nat),.int .u8 (f : Nat),.int .u64 (t : Nat),.int .i64 n]] (by simp)).drew (fun hHeld => ?_)
 clear z0 fz0 c0_0 c0_1 c0_2 c0_3 c0_4 c0_5 c0_6 c0_7 c0_8 c0_9 c0_10 c0_11 c0_12 z1 c1_0 c1_1 c1_2 c1_3 c1_4 c1_5 c1_6 c1_7 c1_8 c1_9 c1_10 c1_11 c1_12
 have H4:=Lib.hid H1.out.drew
 clear H1
 generalize W2.drew = W5 at hHeld H4 ⊢
 refine wtg (i:=0) (v:=?a73) rfl ?b73 (by assumption) ?c73
 case b73 => (intro w hSw; have F:=Ok.sees hSw; clear hSw; simp only [sees,kBlk,cellsAt,Nat.reduceAdd] at F; go_simp; try with_reducible rfl)
 try simp only [Act.put,wp1,wp2,wp3,wp4,wp6]
 refine wtg (i:=1) (v:=?a75) rfl ?b75 (by assumption) ?c75
 case b75 => (intro w hSw; have F:=Ok.sees hSw; clear hSw; simp only [sees,kBlk,cellsAt,Nat.reduceAdd] at F; go_simp; try with_reducible rfl)
 try simp only [Act.put,wp1,wp2,wp3,wp4,wp5,wp6]
 refine wtg (i:=2) (v:=?a77) rfl ?b77 (by assumption) ?c77
 case b77 => (intro w hSw; have F:=Ok.sees hSw; clear hSw; simp only [sees,kBlk,cellsAt,Nat.reduceAdd] at F; go_simp; try with_reducible rfl)
 try simp only [Act.put,wp1,wp2,wp3,wp4,wp5,wp6]
 refine wpAnyH_ready (rs:=[3]) (by kernel_rfl) (by simp) ?_
 refine AllReadyH.cons rfl (fun K hK => ?_) AllReadyH.nil
 go_simp
 refine (r9_uses_9 _).mono ?_
 rintro e w6 ⟨rfl,hb7⟩
 go_wp2_with fail
 have H8:=Lib.hid (H4.out.below hb7)
 clear H4
 refine hK.out _ _ (hHeld.below hb7) (fun hHeld => ?_)
 clear hK K
 try simp only [Act.put,wp1,wp2,wp3,wp4,wp5,wp6]
 clear hb7
 refine wpAnyH_ready (rs:=[4]) (by kernel_rfl) (by simp) ?_
 refine AllReadyH.cons rfl (fun K hK => ?_) AllReadyH.nil
 go_simp
 refine (r9_only_65 9 u x1 y1 x2 y2 inp a b c f t n _).mono ?_
 rintro e w9 ⟨rfl,hb10⟩
 go_wp2_with fail
 have H11:=Lib.hid (H8.out.below hb10)
 clear H8
 refine hK.out _ _ (hHeld.below hb10) (fun hHeld => ?_)
 clear hK K
 try simp only [Act.put,wp1,wp2,wp3,wp4,wp5,wp6]
 clear hb10
 refine wpAnyH_ready (rs:=[5]) (by kernel_rfl) (by simp) ?_
 refine AllReadyH.cons rfl (fun K hK => ?_) AllReadyH.nil
 have F12:=H11.out.sees
 simp only [sees,kBlk,kVar,cellsAt,Nat.reduceAdd] at F12
 go_split_ands
 go_simp
 have H13:=Lib.hid (H11.out.drop [kVar (w.heap.size + 1) 28 [.int .u8 0,.int .i64 0,.int .i64 0,.int .i64 0,.int .i64 0,.int .i64 0,.string ⟨#[]⟩,.int .u64 0,.int .u64 0,.int .u64 0,.int .u8 0,.int .u64 0,.int .i64 0],kBlk (w.heap.size) 28 [.int .u8 9,.int .i64 u,.int .i64 x1,.int .i64 y1,.int .i64 x2,.int .i64 y2,.string ⟨inp.toArray⟩,.int .u64 (a : Nat),.int .u64 (b : Nat),.int .u64 (c : Nat),.int .u8 (f : Nat),.int .u64 (t : Nat),.int .i64 n]] (by simp))
 have hfar : ∀ x ∈ [kBlk (w.heap.size) 28 [.int .u8 9,.int .i64 u,.int .i64 x1,.int .i64 y1,.int .i64 x2,.int .i64 y2,.string ⟨inp.toArray⟩,.int .u64 (a : Nat),.int .u64 (b : Nat),.int .u64 (c : Nat),.int .u8 (f : Nat),.int .u64 (t : Nat),.int .i64 n]],x.far (some (w.heap.size + 1)):=by
  simp [kBlk] <;> omega
 have H14:=Lib.hid (((((((((((((H13.out.set_ (i:=0) (u:=.int .u8 9) (by omega) hfar).set_ (i:=1) (u:=.int .i64 u) (by omega) hfar).set_ (i:=2) (u:=.int .i64 0) (by omega) hfar).set_ (i:=3) (u:=.int .i64 0) (by omega) hfar).set_ (i:=4) (u:=.int .i64 0) (by omega) hfar).set_ (i:=5) (u:=.int .i64 0) (by omega) hfar).set_ (i:=6) (u:=.string ⟨#[]⟩) (by omega) hfar).set_ (i:=7) (u:=.int .u64 0) (by omega) hfar).set_ (i:=8) (u:=.int .u64 0) (by omega) hfar).set_ (i:=9) (u:=.int .u64 0) (by omega) hfar).set_ (i:=10) (u:=.int .u8 0) (by omega) hfar).set_ (i:=11) (u:=.int .u64 0) (by omega) hfar).set_ (i:=12) (u:=.int .i64 n) (by omega) hfar)
 clear H13 hfar
 clear H11
 refine hK.out _ _ (H14.out.drop [kBlk (w.heap.size) 28 [.int .u8 9,.int .i64 u,.int .i64 x1,.int .i64 y1,.int .i64 x2,.int .i64 y2,.string ⟨inp.toArray⟩,.int .u64 (a : Nat),.int .u64 (b : Nat),.int .u64 (c : Nat),.int .u8 (f : Nat),.int .u64 (t : Nat),.int .i64 n]] (by simp)) (fun hHeld => ?_)
 clear hK K
 try simp only [Act.put,wp1,wp2,wp3,wp4,wp5,wp6]
 generalize (((((((((((((w9.setCell ⟨w.heap.size + 1,0,none⟩ (.int .u8 9)).setCell ⟨w.heap.size + 1,1,none⟩ (.int .i64 u)).setCell ⟨w.heap.size + 1,2,none⟩ (.int .i64 0)).setCell ⟨w.heap.size + 1,3,none⟩ (.int .i64 0)).setCell ⟨w.heap.size + 1,4,none⟩ (.int .i64 0)).setCell ⟨w.heap.size + 1,5,none⟩ (.int .i64 0)).setCell ⟨w.heap.size + 1,6,none⟩ (.string ⟨#[]⟩)).setCell ⟨w.heap.size + 1,7,none⟩ (.int .u64 0)).setCell ⟨w.heap.size + 1,8,none⟩ (.int .u64 0)).setCell ⟨w.heap.size + 1,9,none⟩ (.int .u64 0)).setCell ⟨w.heap.size + 1,10,none⟩ (.int .u8 0)).setCell ⟨w.heap.size + 1,11,none⟩ (.int .u64 0)).setCell ⟨w.heap.size + 1,12,none⟩ (.int .i64 n)) = W15 at H14 hHeld ⊢
 refine wpAnyH_done (by kernel_rfl) ?_ _
 clear hHeld
 go_wp2_with fail
 have hK:=H14.out.get (kVar (w.heap.size + 1) 28 [.int .u8 9,.int .i64 u,.int .i64 0,.int .i64 0,.int .i64 0,.int .i64 0,.string ⟨#[]⟩,.int .u64 0,.int .u64 0,.int .u64 0,.int .u8 0,.int .u64 0,.int .i64 n]) (by simp)
 have hE:=(show Blk W15 (w.heap.size + 1) 28 _ from hK)
 have r0:=hE.cell 0
 have r1:=hE.cell 1
 have r2:=hE.cell 2
 have r3:=hE.cell 3
 have r4:=hE.cell 4
 have r5:=hE.cell 5
 have r6:=hE.cell 6
 have r7:=hE.cell 7
 have r8:=hE.cell 8
 have r9:=hE.cell 9
 have r10:=hE.cell 10
 have r11:=hE.cell 11
 have r12:=hE.cell 12
 simp at r0 r1 r2 r3 r4 r5 r6 r7 r8 r9 r10 r11 r12
 exact bodyPost_ret (v:=.agg #[.int .u8 9,.int .i64 u,.int .i64 0,.int .i64 0,.int .i64 0,.int .i64 0,.string ⟨#[]⟩,.int .u64 0,.int .u64 0,.int .u64 0,.int .u8 0,.int .u64 0,.int .i64 n]) (by simp [results,Tryz.results18,go_sem,r0,r1,r2,r3,r4,r5,r6,r7,r8,r9,r10,r11,r12]) rfl ⟨rfl,H14.out.bel⟩
set_option maxRecDepth 100000 in
set_option maxHeartbeats 4000000 in
theorem r9_plain_10 (u x1 y1 x2 y2 : Int) (inp : List UInt8) (a b c f t : Nat) (n : Int) (w : World) :
  Calls Tryz.prog 18 #[.agg #[.int .u8 10,.int .i64 u,.int .i64 x1,.int .i64 y1,.int .i64 x2,.int .i64 y2,.string ⟨inp.toArray⟩,.int .u64 (a : Nat),.int .u64 (b : Nat),.int .u64 (c : Nat),.int .u8 (f : Nat),.int .u64 (t : Nat),.int .i64 n]] w fun e w' => e = .returned (.agg #[.int .u8 10,.int .i64 u,.int .i64 0,.int .i64 0,.int .i64 0,.int .i64 0,.string ⟨#[]⟩,.int .u64 0,.int .u64 0,.int .u64 0,.int .u8 0,.int .u64 0,.int .i64 0]) ∧ Below w.heap.size w w':=by
 have H1:=Lib.hid (((Ok.start w).alloc w.heap.size 28 [.int .u8 10,.int .i64 u,.int .i64 x1,.int .i64 y1,.int .i64 x2,.int .i64 y2,.string ⟨inp.toArray⟩,.int .u64 (a : Nat),.int .u64 (b : Nat),.int .u64 (c : Nat),.int .u8 (f : Nat),.int .u64 (t : Nat),.int .i64 n] rfl).var (w.heap.size + 1) 28 [.int .u8 0,.int .i64 0,.int .i64 0,.int .i64 0,.int .i64 0,.int .i64 0,.string ⟨#[]⟩,.int .u64 0,.int .u64 0,.int .u64 0,.int .u8 0,.int .u64 0,.int .i64 0] (by simp))
 go_enter Tryz.func18,Tryz.ntmps18
 go_upto_region 1 with fail
 generalize ((w.alloc (.cells #[.int .u8 10,.int .i64 u,.int .i64 x1,.int .i64 y1,.int .i64 x2,.int .i64 y2,.string ⟨inp.toArray⟩,.int .u64 (a : Nat),.int .u64 (b : Nat),.int .u64 (c : Nat),.int .u8 (f : Nat),.int .u64 (t : Nat),.int .i64 n] 28)).alloc (.cells #[.int .u8 0,.int .i64 0,.int .i64 0,.int .i64 0,.int .i64 0,.int .i64 0,.string ⟨#[]⟩,.int .u64 0,.int .u64 0,.int .u64 0,.int .u8 0,.int .u64 0,.int .i64 0] 28)) = W2 at H1 ⊢
 have F3:=H1.out.sees
 simp only [sees,kBlk,kVar,cellsAt,Nat.reduceAdd] at F3
 obtain ⟨⟨⟨z0,fz0⟩,c0_0,c0_1,c0_2,c0_3,c0_4,c0_5,c0_6,c0_7,c0_8,c0_9,c0_10,c0_11,c0_12,-⟩,⟨z1,c1_0,c1_1,c1_2,c1_3,c1_4,c1_5,c1_6,c1_7,c1_8,c1_9,c1_10,c1_11,c1_12,-⟩,-⟩:=F3
 refine wp_region_held_drew (S:=fun W => Ok w [kBlk (w.heap.size) 28 [.int .u8 10,.int .i64 u,.int .i64 x1,.int .i64 y1,.int .i64 x2,.int .i64 y2,.string ⟨inp.toArray⟩,.int .u64 (a : Nat),.int .u64 (b : Nat),.int .u64 (c : Nat),.int .u8 (f : Nat),.int .u64 (t : Nat),.int .i64 n]] W) (by kernel_rfl) (H1.out.drop [kBlk (w.heap.size) 28 [.int .u8 10,.int .i64 u,.int .i64 x1,.int .i64 y1,.int .i64 x2,.int .i64 y2,.string ⟨inp.toArray⟩,.int .u64 (a : Nat),.int .u64 (b : Nat),.int .u64 (c : Nat),.int .u8 (f : Nat),.int .u64 (t : Nat),.int .i64 n]] (by simp)).drew (fun hHeld => ?_)
 clear z0 fz0 c0_0 c0_1 c0_2 c0_3 c0_4 c0_5 c0_6 c0_7 c0_8 c0_9 c0_10 c0_11 c0_12 z1 c1_0 c1_1 c1_2 c1_3 c1_4 c1_5 c1_6 c1_7 c1_8 c1_9 c1_10 c1_11 c1_12
 have H4:=Lib.hid H1.out.drew
 clear H1
 generalize W2.drew = W5 at hHeld H4 ⊢
 refine wtg (i:=0) (v:=?a82) rfl ?b82 (by assumption) ?c82
 case b82 => (intro w hSw; have F:=Ok.sees hSw; clear hSw; simp only [sees,kBlk,cellsAt,Nat.reduceAdd] at F; go_simp; try with_reducible rfl)
 try simp only [Act.put,wp1,wp2,wp3,wp4,wp6]
 refine wtg (i:=1) (v:=?a84) rfl ?b84 (by assumption) ?c84
 case b84 => (intro w hSw; have F:=Ok.sees hSw; clear hSw; simp only [sees,kBlk,cellsAt,Nat.reduceAdd] at F; go_simp; try with_reducible rfl)
 try simp only [Act.put,wp1,wp2,wp3,wp4,wp5,wp6]
 refine wtg (i:=2) (v:=?a86) rfl ?b86 (by assumption) ?c86
 case b86 => (intro w hSw; have F:=Ok.sees hSw; clear hSw; simp only [sees,kBlk,cellsAt,Nat.reduceAdd] at F; go_simp; try with_reducible rfl)
 try simp only [Act.put,wp1,wp2,wp3,wp4,wp5,wp6]
 refine wpAnyH_ready (rs:=[3]) (by kernel_rfl) (by simp) ?_
 refine AllReadyH.cons rfl (fun K hK => ?_) AllReadyH.nil
 go_simp
 refine (r9_uses_10 _).mono ?_
 rintro e w6 ⟨rfl,hb7⟩
 go_wp2_with fail
 have H8:=Lib.hid (H4.out.below hb7)
 clear H4
 refine hK.out _ _ (hHeld.below hb7) (fun hHeld => ?_)
 clear hK K
 try simp only [Act.put,wp1,wp2,wp3,wp4,wp5,wp6]
 clear hb7
 refine wpAnyH_ready (rs:=[4]) (by kernel_rfl) (by simp) ?_
 refine AllReadyH.cons rfl (fun K hK => ?_) AllReadyH.nil
 go_simp
 refine (r9_only_1 10 u x1 y1 x2 y2 inp a b c f t n _).mono ?_
 rintro e w9 ⟨rfl,hb10⟩
 go_wp2_with fail
 have H11:=Lib.hid (H8.out.below hb10)
 clear H8
 refine hK.out _ _ (hHeld.below hb10) (fun hHeld => ?_)
 clear hK K
 try simp only [Act.put,wp1,wp2,wp3,wp4,wp5,wp6]
 clear hb10
 refine wpAnyH_ready (rs:=[5]) (by kernel_rfl) (by simp) ?_
 refine AllReadyH.cons rfl (fun K hK => ?_) AllReadyH.nil
 have F12:=H11.out.sees
 simp only [sees,kBlk,kVar,cellsAt,Nat.reduceAdd] at F12
 go_split_ands
 go_simp
 have H13:=Lib.hid (H11.out.drop [kVar (w.heap.size + 1) 28 [.int .u8 0,.int .i64 0,.int .i64 0,.int .i64 0,.int .i64 0,.int .i64 0,.string ⟨#[]⟩,.int .u64 0,.int .u64 0,.int .u64 0,.int .u8 0,.int .u64 0,.int .i64 0],kBlk (w.heap.size) 28 [.int .u8 10,.int .i64 u,.int .i64 x1,.int .i64 y1,.int .i64 x2,.int .i64 y2,.string ⟨inp.toArray⟩,.int .u64 (a : Nat),.int .u64 (b : Nat),.int .u64 (c : Nat),.int .u8 (f : Nat),.int .u64 (t : Nat),.int .i64 n]] (by simp))
 have hfar : ∀ x ∈ [kBlk (w.heap.size) 28 [.int .u8 10,.int .i64 u,.int .i64 x1,.int .i64 y1,.int .i64 x2,.int .i64 y2,.string ⟨inp.toArray⟩,.int .u64 (a : Nat),.int .u64 (b : Nat),.int .u64 (c : Nat),.int .u8 (f : Nat),.int .u64 (t : Nat),.int .i64 n]],x.far (some (w.heap.size + 1)):=by
  simp [kBlk] <;> omega
 have H14:=Lib.hid (((((((((((((H13.out.set_ (i:=0) (u:=.int .u8 10) (by omega) hfar).set_ (i:=1) (u:=.int .i64 u) (by omega) hfar).set_ (i:=2) (u:=.int .i64 0) (by omega) hfar).set_ (i:=3) (u:=.int .i64 0) (by omega) hfar).set_ (i:=4) (u:=.int .i64 0) (by omega) hfar).set_ (i:=5) (u:=.int .i64 0) (by omega) hfar).set_ (i:=6) (u:=.string ⟨#[]⟩) (by omega) hfar).set_ (i:=7) (u:=.int .u64 0) (by omega) hfar).set_ (i:=8) (u:=.int .u64 0) (by omega) hfar).set_ (i:=9) (u:=.int .u64 0) (by omega) hfar).set_ (i:=10) (u:=.int .u8 0) (by omega) hfar).set_ (i:=11) (u:=.int .u64 0) (by omega) hfar).set_ (i:=12) (u:=.int .i64 0) (by omega) hfar)
 clear H13 hfar
 clear H11
 refine hK.out _ _ (H14.out.drop [kBlk (w.heap.size) 28 [.int .u8 10,.int .i64 u,.int .i64 x1,.int .i64 y1,.int .i64 x2,.int .i64 y2,.string ⟨inp.toArray⟩,.int .u64 (a : Nat),.int .u64 (b : Nat),.int .u64 (c : Nat),.int .u8 (f : Nat),.int .u64 (t : Nat),.int .i64 n]] (by simp)) (fun hHeld => ?_)
 clear hK K
 try simp only [Act.put,wp1,wp2,wp3,wp4,wp5,wp6]
 generalize (((((((((((((w9.setCell ⟨w.heap.size + 1,0,none⟩ (.int .u8 10)).setCell ⟨w.heap.size + 1,1,none⟩ (.int .i64 u)).setCell ⟨w.heap.size + 1,2,none⟩ (.int .i64 0)).setCell ⟨w.heap.size + 1,3,none⟩ (.int .i64 0)).setCell ⟨w.heap.size + 1,4,none⟩ (.int .i64 0)).setCell ⟨w.heap.size + 1,5,none⟩ (.int .i64 0)).setCell ⟨w.heap.size + 1,6,none⟩ (.string ⟨#[]⟩)).setCell ⟨w.heap.size + 1,7,none⟩ (.int .u64 0)).setCell ⟨w.heap.size + 1,8,none⟩ (.int .u64 0)).setCell ⟨w.heap.size + 1,9,none⟩ (.int .u64 0)).setCell ⟨w.heap.size + 1,10,none⟩ (.int .u8 0)).setCell ⟨w.heap.size + 1,11,none⟩ (.int .u64 0)).setCell ⟨w.heap.size + 1,12,none⟩ (.int .i64 0)) = W15 at H14 hHeld ⊢
 refine wpAnyH_done (by kernel_rfl) ?_ _
 clear hHeld
 go_wp2_with fail
 have hK:=H14.out.get (kVar (w.heap.size + 1) 28 [.int .u8 10,.int .i64 u,.int .i64 0,.int .i64 0,.int .i64 0,.int .i64 0,.string ⟨#[]⟩,.int .u64 0,.int .u64 0,.int .u64 0,.int .u8 0,.int .u64 0,.int .i64 0]) (by simp)
 have hE:=(show Blk W15 (w.heap.size + 1) 28 _ from hK)
 have r0:=hE.cell 0
 have r1:=hE.cell 1
 have r2:=hE.cell 2
 have r3:=hE.cell 3
 have r4:=hE.cell 4
 have r5:=hE.cell 5
 have r6:=hE.cell 6
 have r7:=hE.cell 7
 have r8:=hE.cell 8
 have r9:=hE.cell 9
 have r10:=hE.cell 10
 have r11:=hE.cell 11
 have r12:=hE.cell 12
 simp at r0 r1 r2 r3 r4 r5 r6 r7 r8 r9 r10 r11 r12
 exact bodyPost_ret (v:=.agg #[.int .u8 10,.int .i64 u,.int .i64 0,.int .i64 0,.int .i64 0,.int .i64 0,.string ⟨#[]⟩,.int .u64 0,.int .u64 0,.int .u64 0,.int .u8 0,.int .u64 0,.int .i64 0]) (by simp [results,Tryz.results18,go_sem,r0,r1,r2,r3,r4,r5,r6,r7,r8,r9,r10,r11,r12]) rfl ⟨rfl,H14.out.bel⟩
set_option maxRecDepth 100000 in
set_option maxHeartbeats 4000000 in
theorem r9_plain_no (k : Nat) (hk : ¬ (1 ≤ k ∧ k ≤ 10)) (u x1 y1 x2 y2 : Int) (inp : List UInt8) (a b c f t : Nat) (n : Int) (w : World) :
  Calls Tryz.prog 18 #[.agg #[.int .u8 (k : Nat),.int .i64 u,.int .i64 x1,.int .i64 y1,.int .i64 x2,.int .i64 y2,.string ⟨inp.toArray⟩,.int .u64 (a : Nat),.int .u64 (b : Nat),.int .u64 (c : Nat),.int .u8 (f : Nat),.int .u64 (t : Nat),.int .i64 n]] w fun e w' => e = .returned (.agg #[.int .u8 (k : Nat),.int .i64 0,.int .i64 0,.int .i64 0,.int .i64 0,.int .i64 0,.string ⟨#[]⟩,.int .u64 0,.int .u64 0,.int .u64 0,.int .u8 0,.int .u64 0,.int .i64 0]) ∧ Below w.heap.size w w':=by
 have H1:=Lib.hid (((Ok.start w).alloc w.heap.size 28 [.int .u8 (k : Nat),.int .i64 u,.int .i64 x1,.int .i64 y1,.int .i64 x2,.int .i64 y2,.string ⟨inp.toArray⟩,.int .u64 (a : Nat),.int .u64 (b : Nat),.int .u64 (c : Nat),.int .u8 (f : Nat),.int .u64 (t : Nat),.int .i64 n] rfl).var (w.heap.size + 1) 28 [.int .u8 0,.int .i64 0,.int .i64 0,.int .i64 0,.int .i64 0,.int .i64 0,.string ⟨#[]⟩,.int .u64 0,.int .u64 0,.int .u64 0,.int .u8 0,.int .u64 0,.int .i64 0] (by simp))
 go_enter Tryz.func18,Tryz.ntmps18
 go_upto_region 1 with fail
 generalize ((w.alloc (.cells #[.int .u8 (k : Nat),.int .i64 u,.int .i64 x1,.int .i64 y1,.int .i64 x2,.int .i64 y2,.string ⟨inp.toArray⟩,.int .u64 (a : Nat),.int .u64 (b : Nat),.int .u64 (c : Nat),.int .u8 (f : Nat),.int .u64 (t : Nat),.int .i64 n] 28)).alloc (.cells #[.int .u8 0,.int .i64 0,.int .i64 0,.int .i64 0,.int .i64 0,.int .i64 0,.string ⟨#[]⟩,.int .u64 0,.int .u64 0,.int .u64 0,.int .u8 0,.int .u64 0,.int .i64 0] 28)) = W2 at H1 ⊢
 have F3:=H1.out.sees
 simp only [sees,kBlk,kVar,cellsAt,Nat.reduceAdd] at F3
 obtain ⟨⟨⟨z0,fz0⟩,c0_0,c0_1,c0_2,c0_3,c0_4,c0_5,c0_6,c0_7,c0_8,c0_9,c0_10,c0_11,c0_12,-⟩,⟨z1,c1_0,c1_1,c1_2,c1_3,c1_4,c1_5,c1_6,c1_7,c1_8,c1_9,c1_10,c1_11,c1_12,-⟩,-⟩:=F3
 refine wp_region_held_drew (S:=fun W => Ok w [kBlk (w.heap.size) 28 [.int .u8 (k : Nat),.int .i64 u,.int .i64 x1,.int .i64 y1,.int .i64 x2,.int .i64 y2,.string ⟨inp.toArray⟩,.int .u64 (a : Nat),.int .u64 (b : Nat),.int .u64 (c : Nat),.int .u8 (f : Nat),.int .u64 (t : Nat),.int .i64 n]] W) (by kernel_rfl) (H1.out.drop [kBlk (w.heap.size) 28 [.int .u8 (k : Nat),.int .i64 u,.int .i64 x1,.int .i64 y1,.int .i64 x2,.int .i64 y2,.string ⟨inp.toArray⟩,.int .u64 (a : Nat),.int .u64 (b : Nat),.int .u64 (c : Nat),.int .u8 (f : Nat),.int .u64 (t : Nat),.int .i64 n]] (by simp)).drew (fun hHeld => ?_)
 clear z0 fz0 c0_0 c0_1 c0_2 c0_3 c0_4 c0_5 c0_6 c0_7 c0_8 c0_9 c0_10 c0_11 c0_12 z1 c1_0 c1_1 c1_2 c1_3 c1_4 c1_5 c1_6 c1_7 c1_8 c1_9 c1_10 c1_11 c1_12
 have H4:=Lib.hid H1.out.drew
 clear H1
 generalize W2.drew = W5 at hHeld H4 ⊢
 refine wtg (i:=0) (v:=?a91) rfl ?b91 (by assumption) ?c91
 case b91 => (intro w hSw; have F:=Ok.sees hSw; clear hSw; simp only [sees,kBlk,cellsAt,Nat.reduceAdd] at F; go_simp; try with_reducible rfl)
 try simp only [Act.put,wp1,wp2,wp3,wp4,wp6]
 refine wtg (i:=1) (v:=?a93) rfl ?b93 (by assumption) ?c93
 case b93 => (intro w hSw; have F:=Ok.sees hSw; clear hSw; simp only [sees,kBlk,cellsAt,Nat.reduceAdd] at F; go_simp; try with_reducible rfl)
 try simp only [Act.put,wp1,wp2,wp3,wp4,wp5,wp6]
 refine wtg (i:=2) (v:=?a95) rfl ?b95 (by assumption) ?c95
 case b95 => (intro w hSw; have F:=Ok.sees hSw; clear hSw; simp only [sees,kBlk,cellsAt,Nat.reduceAdd] at F; go_simp; try with_reducible rfl)
 try simp only [Act.put,wp1,wp2,wp3,wp4,wp5,wp6]
 refine wpAnyH_ready (rs:=[3]) (by kernel_rfl) (by simp) ?_
 refine AllReadyH.cons rfl (fun K hK => ?_) AllReadyH.nil
 go_simp
 refine (r9_uses_no k hk _).mono ?_
 rintro e w6 ⟨rfl,hb7⟩
 go_wp2_with fail
 have H8:=Lib.hid (H4.out.below hb7)
 clear H4
 refine hK.out _ _ (hHeld.below hb7) (fun hHeld => ?_)
 clear hK K
 try simp only [Act.put,wp1,wp2,wp3,wp4,wp5,wp6]
 clear hb7
 refine wpAnyH_ready (rs:=[4]) (by kernel_rfl) (by simp) ?_
 refine AllReadyH.cons rfl (fun K hK => ?_) AllReadyH.nil
 go_simp
 refine (r9_only_0 k u x1 y1 x2 y2 inp a b c f t n _).mono ?_
 rintro e w9 ⟨rfl,hb10⟩
 go_wp2_with fail
 have H11:=Lib.hid (H8.out.below hb10)
 clear H8
 refine hK.out _ _ (hHeld.below hb10) (fun hHeld => ?_)
 clear hK K
 try simp only [Act.put,wp1,wp2,wp3,wp4,wp5,wp6]
 clear hb10
 refine wpAnyH_ready (rs:=[5]) (by kernel_rfl) (by simp) ?_
 refine AllReadyH.cons rfl (fun K hK => ?_) AllReadyH.nil
 have F12:=H11.out.sees
 simp only [sees,kBlk,kVar,cellsAt,Nat.reduceAdd] at F12
 go_split_ands
 go_simp
 have H13:=Lib.hid (H11.out.drop [kVar (w.heap.size + 1) 28 [.int .u8 0,.int .i64 0,.int .i64 0,.int .i64 0,.int .i64 0,.int .i64 0,.string ⟨#[]⟩,.int .u64 0,.int .u64 0,.int .u64 0,.int .u8 0,.int .u64 0,.int .i64 0],kBlk (w.heap.size) 28 [.int .u8 (k : Nat),.int .i64 u,.int .i64 x1,.int .i64 y1,.int .i64 x2,.int .i64 y2,.string ⟨inp.toArray⟩,.int .u64 (a : Nat),.int .u64 (b : Nat),.int .u64 (c : Nat),.int .u8 (f : Nat),.int .u64 (t : Nat),.int .i64 n]] (by simp))
 have hfar : ∀ x ∈ [kBlk (w.heap.size) 28 [.int .u8 (k : Nat),.int .i64 u,.int .i64 x1,.int .i64 y1,.int .i64 x2,.int .i64 y2,.string ⟨inp.toArray⟩,.int .u64 (a : Nat),.int .u64 (b : Nat),.int .u64 (c : Nat),.int .u8 (f : Nat),.int .u64 (t : Nat),.int .i64 n]],x.far (some (w.heap.size + 1)):=by
  simp [kBlk] <;> omega
 have H14:=Lib.hid (((((((((((((H13.out.set_ (i:=0) (u:=.int .u8 (k : Nat)) (by omega) hfar).set_ (i:=1) (u:=.int .i64 0) (by omega) hfar).set_ (i:=2) (u:=.int .i64 0) (by omega) hfar).set_ (i:=3) (u:=.int .i64 0) (by omega) hfar).set_ (i:=4) (u:=.int .i64 0) (by omega) hfar).set_ (i:=5) (u:=.int .i64 0) (by omega) hfar).set_ (i:=6) (u:=.string ⟨#[]⟩) (by omega) hfar).set_ (i:=7) (u:=.int .u64 0) (by omega) hfar).set_ (i:=8) (u:=.int .u64 0) (by omega) hfar).set_ (i:=9) (u:=.int .u64 0) (by omega) hfar).set_ (i:=10) (u:=.int .u8 0) (by omega) hfar).set_ (i:=11) (u:=.int .u64 0) (by omega) hfar).set_ (i:=12) (u:=.int .i64 0) (by omega) hfar)
 clear H13 hfar
 clear H11
 refine hK.out _ _ (H14.out.drop [kBlk (w.heap.size) 28 [.int .u8 (k : Nat),.int .i64 u,.int .i64 x1,.int .i64 y1,.int .i64 x2,.int .i64 y2,.string ⟨inp.toArray⟩,.int .u64 (a : Nat),.int .u64 (b : Nat),.int .u64 (c : Nat),.int .u8 (f : Nat),.int .u64 (t : Nat),.int .i64 n]] (by simp)) (fun hHeld => ?_)
 clear hK K
 try simp only [Act.put,wp1,wp2,wp3,wp4,wp5,wp6]
 generalize (((((((((((((w9.setCell ⟨w.heap.size + 1,0,none⟩ (.int .u8 (k : Nat))).setCell ⟨w.heap.size + 1,1,none⟩ (.int .i64 0)).setCell ⟨w.heap.size + 1,2,none⟩ (.int .i64 0)).setCell ⟨w.heap.size + 1,3,none⟩ (.int .i64 0)).setCell ⟨w.heap.size + 1,4,none⟩ (.int .i64 0)).setCell ⟨w.heap.size + 1,5,none⟩ (.int .i64 0)).setCell ⟨w.heap.size + 1,6,none⟩ (.string ⟨#[]⟩)).setCell ⟨w.heap.size + 1,7,none⟩ (.int .u64 0)).setCell ⟨w.heap.size + 1,8,none⟩ (.int .u64 0)).setCell ⟨w.heap.size + 1,9,none⟩ (.int .u64 0)).setCell ⟨w.heap.size + 1,10,none⟩ (.int .u8 0)).setCell ⟨w.heap.size + 1,11,none⟩ (.int .u64 0)).setCell ⟨w.heap.size + 1,12,none⟩ (.int .i64 0)) = W15 at H14 hHeld ⊢
 refine wpAnyH_done (by kernel_rfl) ?_ _
 clear hHeld
 go_wp2_with fail
 have hK:=H14.out.get (kVar (w.heap.size + 1) 28 [.int .u8 (k : Nat),.int .i64 0,.int .i64 0,.int .i64 0,.int .i64 0,.int .i64 0,.string ⟨#[]⟩,.int .u64 0,.int .u64 0,.int .u64 0,.int .u8 0,.int .u64 0,.int .i64 0]) (by simp)
 have hE:=(show Blk W15 (w.heap.size + 1) 28 _ from hK)
 have r0:=hE.cell 0
 have r1:=hE.cell 1
 have r2:=hE.cell 2
 have r3:=hE.cell 3
 have r4:=hE.cell 4
 have r5:=hE.cell 5
 have r6:=hE.cell 6
 have r7:=hE.cell 7
 have r8:=hE.cell 8
 have r9:=hE.cell 9
 have r10:=hE.cell 10
 have r11:=hE.cell 11
 have r12:=hE.cell 12
 simp at r0 r1 r2 r3 r4 r5 r6 r7 r8 r9 r10 r11 r12
 exact bodyPost_ret (v:=.agg #[.int .u8 (k : Nat),.int .i64 0,.int .i64 0,.int .i64 0,.int .i64 0,.int .i64 0,.string ⟨#[]⟩,.int .u64 0,.int .u64 0,.int .u64 0,.int .u8 0,.int .u64 0,.int .i64 0]) (by simp [results,Tryz.results18,go_sem,r0,r1,r2,r3,r4,r5,r6,r7,r8,r9,r10,r11,r12]) rfl ⟨rfl,H14.out.bel⟩
theorem r9_Plain (x : OpV) (w : World) : Calls Tryz.prog 18 #[x.V] w fun e w' => e = .returned (plainV x).V ∧ Below w.heap.size w w':=by
 obtain ⟨k,u,⟨x1,y1,x2,y2⟩,inp,a,b,c,f,t,n⟩:=x
 by_cases hk : 1 ≤ k ∧ k ≤ 10
 ·have h : k = 1 ∨ k = 2 ∨ k = 3 ∨ k = 4 ∨ k = 5 ∨ k = 6 ∨ k = 7 ∨ k = 8 ∨ k = 9 ∨ k = 10:=by omega
  clear hk
  rcases h with rfl | rfl | rfl | rfl | rfl | rfl | rfl | rfl | rfl | rfl
  ·exact r9_plain_1 u x1 y1 x2 y2 inp a b c f t n w
  ·exact r9_plain_2 u x1 y1 x2 y2 inp a b c f t n w
  ·exact r9_plain_3 u x1 y1 x2 y2 inp a b c f t n w
  ·exact r9_plain_4 u x1 y1 x2 y2 inp a b c f t n w
  ·exact r9_plain_5 u x1 y1 x2 y2 inp a b c f t n w
  ·exact r9_plain_6 u x1 y1 x2 y2 inp a b c f t n w
  ·exact r9_plain_7 u x1 y1 x2 y2 inp a b c f t n w
  ·exact r9_plain_8 u x1 y1 x2 y2 inp a b c f t n w
  ·exact r9_plain_9 u x1 y1 x2 y2 inp a b c f t n w
  ·exact r9_plain_10 u x1 y1 x2 y2 inp a b c f t n w
 ·have h:=r9_plain_no k hk u x1 y1 x2 y2 inp a b c f t n w
  unfold plainV
  rw [if_neg hk]
  exact h
theorem r9_Mutates (x : OpV) (w : World) : Calls Tryz.prog 16 #[x.V] w fun e w' => e = .returned (.bool (mutV x.kind)) ∧ Below w.heap.size w w':=by
 obtain ⟨k,u,⟨x1,y1,x2,y2⟩,inp,a,b,c,f,t,n⟩:=x
 cases hm : mutV k
 ·have h:=r9_mutates_no k hm u x1 y1 x2 y2 inp a b c f t n w
  exact h
 ·have h : k = 3 ∨ k = 4 ∨ k = 7 ∨ k = 8 ∨ k = 9:=by
   unfold mutV at hm
   simp only [Bool.or_eq_true,beq_iff_eq] at hm
   omega
  clear hm
  rcases h with rfl | rfl | rfl | rfl | rfl
  ·exact r9_mutates_3 u x1 y1 x2 y2 inp a b c f t n w
  ·exact r9_mutates_4 u x1 y1 x2 y2 inp a b c f t n w
  ·exact r9_mutates_7 u x1 y1 x2 y2 inp a b c f t n w
  ·exact r9_mutates_8 u x1 y1 x2 y2 inp a b c f t n w
  ·exact r9_mutates_9 u x1 y1 x2 y2 inp a b c f t n w
theorem r9_Target (x : OpV) (w : World) : Calls Tryz.prog 10 #[x.V] w fun e w' => e = .returned (.tuple #[.agg #[.int .i64 (if usesR x.kind = true then x.rect else R4.zero).c1,.int .i64 (if usesR x.kind = true then x.rect else R4.zero).r1,.int .i64 (if usesR x.kind = true then x.rect else R4.zero).c2,.int .i64 (if usesR x.kind = true then x.rect else R4.zero).r2],.bool (usesR x.kind)]) ∧ Below w.heap.size w w':=by
 obtain ⟨k,u,⟨x1,y1,x2,y2⟩,inp,a,b,c,f,t,n⟩:=x
 by_cases hk : 1 ≤ k ∧ k ≤ 10
 ·have h : k = 1 ∨ k = 2 ∨ k = 3 ∨ k = 4 ∨ k = 5 ∨ k = 6 ∨ k = 7 ∨ k = 8 ∨ k = 9 ∨ k = 10:=by omega
  clear hk
  rcases h with rfl | rfl | rfl | rfl | rfl | rfl | rfl | rfl | rfl | rfl
  ·exact r9_target_1 u x1 y1 x2 y2 inp a b c f t n w
  ·exact r9_target_2 u x1 y1 x2 y2 inp a b c f t n w
  ·exact r9_target_3 u x1 y1 x2 y2 inp a b c f t n w
  ·exact r9_target_4 u x1 y1 x2 y2 inp a b c f t n w
  ·exact r9_target_5 u x1 y1 x2 y2 inp a b c f t n w
  ·exact r9_target_6 u x1 y1 x2 y2 inp a b c f t n w
  ·exact r9_target_7 u x1 y1 x2 y2 inp a b c f t n w
  ·exact r9_target_8 u x1 y1 x2 y2 inp a b c f t n w
  ·exact r9_target_9 u x1 y1 x2 y2 inp a b c f t n w
  ·exact r9_target_10 u x1 y1 x2 y2 inp a b c f t n w
 ·have h:=r9_target_no k hk u x1 y1 x2 y2 inp a b c f t n w
  have e : usesR k = false:=by unfold usesR; simp; omega
  dsimp only
  simp only [e]
  exact h
end Go.Proofs.YtjbimcdofenmdaaGreatDoor
