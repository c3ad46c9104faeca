/- The reference of chapter 29: Plain. -/
import Derived.Test.YtjbimcdofenmdaaGreatDoorROrA
import Derived.Test.YtjbimcdofenmdaaGreatDoorMOk
namespace Go.Proofs.YtjbimcdofenmdaaGreatDoor
open Go.RowKit
theorem Ok.b1 {w0 w : World} {x y : Pers} {ps : List Pers} (h : Ok w0 (x :: y :: ps) w) : Ok w0 (y :: x :: ps) w:=h.drop _ (by intro z hz; simp at hz ⊢; rcases hz with h | h | h <;> simp [h])
theorem Ok.b2 {w0 w : World} {x y q : Pers} {ps : List Pers} (h : Ok w0 (x :: y :: q :: ps) w) : Ok w0 (q :: x :: y :: ps) w:=h.drop _ (by intro z hz; simp at hz ⊢; rcases hz with h | h | h | h <;> simp [h])
theorem Ok.b3 {w0 w : World} {x y q r : Pers} {ps : List Pers} (h : Ok w0 (x :: y :: q :: r :: ps) w) : Ok w0 (r :: x :: y :: q :: ps) w:=h.drop _ (by intro z hz; simp at hz ⊢; rcases hz with h | h | h | h | h <;> simp [h])
theorem farOf {w0 w : World} {b : Nat} {t : TypeId} {cs : List Value} {ps : List Pers} (_h : Ok w0 (kVar b t cs :: ps) w) (hf : ∀ x ∈ ps,x.far (some b)) : ∀ x ∈ ps,x.far (some b):=hf
set_option maxRecDepth 100000 in
set_option maxHeartbeats 4000000 in
theorem r9_plain_core (k : Nat) (u x1 y1 x2 y2 : Int) (inp : List UInt8) (a b c f t : Nat) (n : Int) (m : Int) (p0 p1 p2 p3 p4 p5 : Int) (p6 : ByteArray) (p7 p8 p9 p10 p11 p12 : Int) (HU : ∀ W,Calls Tryz.prog 22 #[.int .u8 (k : Nat)] W fun e w' => e = .returned (.int .i64 m) ∧ Below W.heap.size W w') (HO : ∀ W,Calls Tryz.prog 37 #[.agg #[.int .u8 (k : Nat),.int .i64 u,.int .i64 x1,.int .i64 y1,.int .i64 x2,.int .i64 y2,.string ⟨inp.toArray⟩,.int .u64 (a : Nat),.int .u64 (b : Nat),.int .u64 (c : Nat),.int .u8 (f : Nat),.int .u64 (t : Nat),.int .i64 n],.int .i64 m] W fun e w' => e = .returned (.agg #[.int .u8 p0,.int .i64 p1,.int .i64 p2,.int .i64 p3,.int .i64 p4,.int .i64 p5,.string p6,.int .u64 p7,.int .u64 p8,.int .u64 p9,.int .u8 p10,.int .u64 p11,.int .i64 p12]) ∧ Below W.heap.size W w') (w : World) :
  Calls Tryz.prog 18 #[.agg #[.int .u8 (k : Nat),.int .i64 u,.int .i64 x1,.int .i64 y1,.int .i64 x2,.int .i64 y2,.string ⟨inp.toArray⟩,.int .u64 (a : Nat),.int .u64 (b : Nat),.int .u64 (c : Nat),.int .u8 (f : Nat),.int .u64 (t : Nat),.int .i64 n]] w fun e w' => e = .returned (.agg #[.int .u8 p0,.int .i64 p1,.int .i64 p2,.int .i64 p3,.int .i64 p4,.int .i64 p5,.string p6,.int .u64 p7,.int .u64 p8,.int .u64 p9,.int .u8 p10,.int .u64 p11,.int .i64 p12]) ∧ Below w.heap.size w w':=by
 have HU:=keep HU
 have HO:=keep HO
 have H1:=Lib.hid (((Ok.start w).alloc w.heap.size 28 [.int .u8 (k : Nat),.int .i64 u,.int .i64 x1,.int .i64 y1,.int .i64 x2,.int .i64 y2,.string ⟨inp.toArray⟩,.int .u64 (a : Nat),.int .u64 (b : Nat),.int .u64 (c : Nat),.int .u8 (f : Nat),.int .u64 (t : Nat),.int .i64 n] rfl).var (w.heap.size + 1) 28 [.int .u8 0,.int .i64 0,.int .i64 0,.int .i64 0,.int .i64 0,.int .i64 0,.string ⟨#[]⟩,.int .u64 0,.int .u64 0,.int .u64 0,.int .u8 0,.int .u64 0,.int .i64 0] (by simp))
 go_enter Tryz.func18,Tryz.ntmps18
 go_upto_region 1 with fail
 generalize ((w.alloc (.cells #[.int .u8 (k : Nat),.int .i64 u,.int .i64 x1,.int .i64 y1,.int .i64 x2,.int .i64 y2,.string ⟨inp.toArray⟩,.int .u64 (a : Nat),.int .u64 (b : Nat),.int .u64 (c : Nat),.int .u8 (f : Nat),.int .u64 (t : Nat),.int .i64 n] 28)).alloc (.cells #[.int .u8 0,.int .i64 0,.int .i64 0,.int .i64 0,.int .i64 0,.int .i64 0,.string ⟨#[]⟩,.int .u64 0,.int .u64 0,.int .u64 0,.int .u8 0,.int .u64 0,.int .i64 0] 28)) = W2 at H1 ⊢
 have F3:=H1.out.sees
 simp only [sees,kBlk,kVar,cellsAt,Nat.reduceAdd] at F3
 obtain ⟨⟨⟨z0,fz0⟩,q00,q01,q02,q03,q04,q05,q06,q07,q08,q09,q0a,q0b,q0c,-⟩,⟨z1,q10,q11,q12,q13,q14,q15,q16,q17,q18,q19,q1a,q1b,q1c,-⟩,-⟩:=F3
 refine wp_region_held_drew (S:=fun W => Ok w [kBlk (w.heap.size) 28 [.int .u8 (k : Nat),.int .i64 u,.int .i64 x1,.int .i64 y1,.int .i64 x2,.int .i64 y2,.string ⟨inp.toArray⟩,.int .u64 (a : Nat),.int .u64 (b : Nat),.int .u64 (c : Nat),.int .u8 (f : Nat),.int .u64 (t : Nat),.int .i64 n]] W) (by kernel_rfl) (H1.out.drop [kBlk (w.heap.size) 28 [.int .u8 (k : Nat),.int .i64 u,.int .i64 x1,.int .i64 y1,.int .i64 x2,.int .i64 y2,.string ⟨inp.toArray⟩,.int .u64 (a : Nat),.int .u64 (b : Nat),.int .u64 (c : Nat),.int .u8 (f : Nat),.int .u64 (t : Nat),.int .i64 n]] (by simp)).drew (fun hHeld => ?_)
 clear z0 fz0 q00 q01 q02 q03 q04 q05 q06 q07 q08 q09 q0a q0b q0c z1 q10 q11 q12 q13 q14 q15 q16 q17 q18 q19 q1a q1b q1c
 have H4:=Lib.hid H1.out.drew
 clear H1
 generalize W2.drew = W5 at hHeld H4 ⊢
 refine wtg (i:=0) (v:=?a1) rfl ?b1 (by assumption) ?c1
 case b1 => (intro w h;have F:=Ok.sees h;clear h;simp only [sees,kBlk,cellsAt,Nat.reduceAdd] at F; go_simp;try with_reducible rfl)
 try simp only [Act.put,wp1,wp2,wp3,wp4,wp6]
 refine wtg (i:=1) (v:=?a3) rfl ?b3 (by assumption) ?c3
 case b3 => (intro w h;have F:=Ok.sees h;clear h;simp only [sees,kBlk,cellsAt,Nat.reduceAdd] at F; go_simp;try with_reducible rfl)
 try simp only [Act.put,wp1,wp2,wp3,wp4,wp5,wp6]
 refine wtg (i:=2) (v:=?a5) rfl ?b5 (by assumption) ?c5
 case b5 => (intro w h;have F:=Ok.sees h;clear h;simp only [sees,kBlk,cellsAt,Nat.reduceAdd] at F; go_simp;try with_reducible rfl)
 try simp only [Act.put,wp1,wp2,wp3,wp4,wp5,wp6]
 refine wpAnyH_ready (rs:=[3]) (by kernel_rfl) (by simp) ?_
 refine AllReadyH.cons rfl (fun K hK => ?_) AllReadyH.nil
 go_simp
 refine (HU.out _).mono ?_
 rintro e w6 ⟨rfl,hb7⟩
 go_wp2_with fail
 have H8:=Lib.hid (H4.out.below hb7)
 clear H4
 refine hK.out _ _ (hHeld.below hb7) (fun hHeld => ?_)
 clear hK K
 try simp only [Act.put,wp1,wp2,wp3,wp4,wp5,wp6]
 clear hb7
 refine wpAnyH_ready (rs:=[4]) (by kernel_rfl) (by simp) ?_
 refine AllReadyH.cons rfl (fun K hK => ?_) AllReadyH.nil
 go_simp
 refine (HO.out _).mono ?_
 rintro e w9 ⟨rfl,hb10⟩
 go_wp2_with fail
 have H11:=Lib.hid (H8.out.below hb10)
 clear H8
 refine hK.out _ _ (hHeld.below hb10) (fun hHeld => ?_)
 clear hK K
 try simp only [Act.put,wp1,wp2,wp3,wp4,wp5,wp6]
 clear hb10
 refine wpAnyH_ready (rs:=[5]) (by kernel_rfl) (by simp) ?_
 refine AllReadyH.cons rfl (fun K hK => ?_) AllReadyH.nil
 have F12:=H11.out.sees
 simp only [sees,kBlk,kVar,cellsAt,Nat.reduceAdd] at F12
 go_split_ands
 go_simp
 have hfar:=farOf H11.out (by simp [kBlk] <;> omega)
 have H13:=Lib.hid (((((((((((((H11.out.set_ (i:=0) (u:=.int .u8 p0) (by omega) hfar).set_ (i:=1) (u:=.int .i64 p1) (by omega) hfar).set_ (i:=2) (u:=.int .i64 p2) (by omega) hfar).set_ (i:=3) (u:=.int .i64 p3) (by omega) hfar).set_ (i:=4) (u:=.int .i64 p4) (by omega) hfar).set_ (i:=5) (u:=.int .i64 p5) (by omega) hfar).set_ (i:=6) (u:=.string p6) (by omega) hfar).set_ (i:=7) (u:=.int .u64 p7) (by omega) hfar).set_ (i:=8) (u:=.int .u64 p8) (by omega) hfar).set_ (i:=9) (u:=.int .u64 p9) (by omega) hfar).set_ (i:=10) (u:=.int .u8 p10) (by omega) hfar).set_ (i:=11) (u:=.int .u64 p11) (by omega) hfar).set_ (i:=12) (u:=.int .i64 p12) (by omega) hfar)
 simp only [List.set_cons_zero,List.set_cons_succ] at H13
 clear hfar
 clear H11
 refine hK.out _ _ (H13.out.drop [kBlk (w.heap.size) 28 [.int .u8 (k : Nat),.int .i64 u,.int .i64 x1,.int .i64 y1,.int .i64 x2,.int .i64 y2,.string ⟨inp.toArray⟩,.int .u64 (a : Nat),.int .u64 (b : Nat),.int .u64 (c : Nat),.int .u8 (f : Nat),.int .u64 (t : Nat),.int .i64 n]] (by simp)) (fun hHeld => ?_)
 clear hK K
 try simp only [Act.put,wp1,wp2,wp3,wp4,wp5,wp6]
 generalize (((((((((((((w9.setCell ⟨w.heap.size + 1,0,none⟩ (.int .u8 p0)).setCell ⟨w.heap.size + 1,1,none⟩ (.int .i64 p1)).setCell ⟨w.heap.size + 1,2,none⟩ (.int .i64 p2)).setCell ⟨w.heap.size + 1,3,none⟩ (.int .i64 p3)).setCell ⟨w.heap.size + 1,4,none⟩ (.int .i64 p4)).setCell ⟨w.heap.size + 1,5,none⟩ (.int .i64 p5)).setCell ⟨w.heap.size + 1,6,none⟩ (.string p6)).setCell ⟨w.heap.size + 1,7,none⟩ (.int .u64 p7)).setCell ⟨w.heap.size + 1,8,none⟩ (.int .u64 p8)).setCell ⟨w.heap.size + 1,9,none⟩ (.int .u64 p9)).setCell ⟨w.heap.size + 1,10,none⟩ (.int .u8 p10)).setCell ⟨w.heap.size + 1,11,none⟩ (.int .u64 p11)).setCell ⟨w.heap.size + 1,12,none⟩ (.int .i64 p12)) = W14 at H13 hHeld ⊢
 refine wpAnyH_done (by kernel_rfl) ?_ _
 clear hHeld
 go_wp2_with fail
 have hK:=H13.out.get (kVar (w.heap.size + 1) 28 [.int .u8 p0,.int .i64 p1,.int .i64 p2,.int .i64 p3,.int .i64 p4,.int .i64 p5,.string p6,.int .u64 p7,.int .u64 p8,.int .u64 p9,.int .u8 p10,.int .u64 p11,.int .i64 p12]) (by simp)
 have hE:=(show Blk W14 (w.heap.size + 1) 28 _ from hK)
 have r0:=hE.cell 0
 have r1:=hE.cell 1
 have r2:=hE.cell 2
 have r3:=hE.cell 3
 have r4:=hE.cell 4
 have r5:=hE.cell 5
 have r6:=hE.cell 6
 have r7:=hE.cell 7
 have r8:=hE.cell 8
 have r9:=hE.cell 9
 have r10:=hE.cell 10
 have r11:=hE.cell 11
 have r12:=hE.cell 12
 simp at r0 r1 r2 r3 r4 r5 r6 r7 r8 r9 r10 r11 r12
 exact bodyPost_ret (v:=.agg #[.int .u8 p0,.int .i64 p1,.int .i64 p2,.int .i64 p3,.int .i64 p4,.int .i64 p5,.string p6,.int .u64 p7,.int .u64 p8,.int .u64 p9,.int .u8 p10,.int .u64 p11,.int .i64 p12]) (by simp [results,Tryz.results18,go_sem,r0,r1,r2,r3,r4,r5,r6,r7,r8,r9,r10,r11,r12]) rfl ⟨rfl,H13.out.bel⟩
theorem r9_Plain (x : OpV) (w : World) : Calls Tryz.prog 18 #[x.V] w fun e w' => e = .returned (plainV x).V ∧ Below w.heap.size w w':=by
 obtain ⟨k,u,⟨x1,y1,x2,y2⟩,inp,a,b,c,f,t,n⟩:=x
 by_cases hk : 1 ≤ k ∧ k ≤ 10
 ·have h : k = 1 ∨ k = 2 ∨ k = 3 ∨ k = 4 ∨ k = 5 ∨ k = 6 ∨ k = 7 ∨ k = 8 ∨ k = 9 ∨ k = 10:=by omega
  clear hk
  rcases h with rfl | rfl | rfl | rfl | rfl | rfl | rfl | rfl | rfl | rfl
  ·exact r9_plain_core 1 u x1 y1 x2 y2 inp a b c f t n 1 _ _ _ _ _ _ _ _ _ _ _ _ _ (fun W => r9_uses_1 W) (fun W => r9_only_1 1 u x1 y1 x2 y2 inp a b c f t n W) w
  ·exact r9_plain_core 2 u x1 y1 x2 y2 inp a b c f t n 1 _ _ _ _ _ _ _ _ _ _ _ _ _ (fun W => r9_uses_2 W) (fun W => r9_only_1 2 u x1 y1 x2 y2 inp a b c f t n W) w
  ·exact r9_plain_core 3 u x1 y1 x2 y2 inp a b c f t n 7 _ _ _ _ _ _ _ _ _ _ _ _ _ (fun W => r9_uses_3 W) (fun W => r9_only_7 3 u x1 y1 x2 y2 inp a b c f t n W) w
  ·exact r9_plain_core 4 u x1 y1 x2 y2 inp a b c f t n 3 _ _ _ _ _ _ _ _ _ _ _ _ _ (fun W => r9_uses_4 W) (fun W => r9_only_3 4 u x1 y1 x2 y2 inp a b c f t n W) w
  ·exact r9_plain_core 5 u x1 y1 x2 y2 inp a b c f t n 3 _ _ _ _ _ _ _ _ _ _ _ _ _ (fun W => r9_uses_5 W) (fun W => r9_only_3 5 u x1 y1 x2 y2 inp a b c f t n W) w
  ·exact r9_plain_core 6 u x1 y1 x2 y2 inp a b c f t n 3 _ _ _ _ _ _ _ _ _ _ _ _ _ (fun W => r9_uses_6 W) (fun W => r9_only_3 6 u x1 y1 x2 y2 inp a b c f t n W) w
  ·exact r9_plain_core 7 u x1 y1 x2 y2 inp a b c f t n 11 _ _ _ _ _ _ _ _ _ _ _ _ _ (fun W => r9_uses_7 W) (fun W => r9_only_11 7 u x1 y1 x2 y2 inp a b c f t n W) w
  ·exact r9_plain_core 8 u x1 y1 x2 y2 inp a b c f t n 51 _ _ _ _ _ _ _ _ _ _ _ _ _ (fun W => r9_uses_8 W) (fun W => r9_only_51 8 u x1 y1 x2 y2 inp a b c f t n W) w
  ·exact r9_plain_core 9 u x1 y1 x2 y2 inp a b c f t n 65 _ _ _ _ _ _ _ _ _ _ _ _ _ (fun W => r9_uses_9 W) (fun W => r9_only_65 9 u x1 y1 x2 y2 inp a b c f t n W) w
  ·exact r9_plain_core 10 u x1 y1 x2 y2 inp a b c f t n 1 _ _ _ _ _ _ _ _ _ _ _ _ _ (fun W => r9_uses_10 W) (fun W => r9_only_1 10 u x1 y1 x2 y2 inp a b c f t n W) w
 ·have h:=r9_plain_core k u x1 y1 x2 y2 inp a b c f t n 0 _ _ _ _ _ _ _ _ _ _ _ _ _ (fun W => r9_uses_no k hk W) (fun W => r9_only_0 k u x1 y1 x2 y2 inp a b c f t n W) w
  unfold plainV
  rw [if_neg hk]
  exact h
end Go.Proofs.YtjbimcdofenmdaaGreatDoor
