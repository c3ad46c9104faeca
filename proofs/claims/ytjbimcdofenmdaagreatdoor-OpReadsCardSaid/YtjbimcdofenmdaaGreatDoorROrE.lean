/- The reference of chapter 29: Format. -/
import Derived.Test.YtjbimcdofenmdaaGreatDoorMOk
import Derived.Test.YtjbimcdofenmdaaGreatDoorROrD
namespace Go.Proofs.YtjbimcdofenmdaaGreatDoor
open Go.RowKit
set_option maxRecDepth 100000 in
set_option maxHeartbeats 4000000 in
theorem r9_fmt_1 (u x1 y1 x2 y2 : Int) (inp : List UInt8) (a b c f t : Nat) (n : Int) (SW SU : ByteArray) (hSW : SW.size ≤ 100000) (hSU : SU.size ≤ 100000)
  (HC : ∀ W,Calls Tryz.prog 14 #[.agg #[.int .u8 1,.int .i64 u,.int .i64 x1,.int .i64 y1,.int .i64 x2,.int .i64 y2,.string ⟨inp.toArray⟩,.int .u64 (a : Nat),.int .u64 (b : Nat),.int .u64 (c : Nat),.int .u8 (f : Nat),.int .u64 (t : Nat),.int .i64 n]] W fun e w' => e = .returned (.int .i64 0) ∧ Below W.heap.size W w')
  (HW : ∀ W,Calls Tryz.prog 29 #[.int .u8 1] W fun e w' => e = .returned (.string SW) ∧ Below W.heap.size W w')
  (HU : ∀ W,Calls Tryz.prog 30 #[.int .i64 u] W fun e w' => e = .returned (.string SU) ∧ Below W.heap.size W w') (w : World) :
  Calls Tryz.prog 12 #[.agg #[.int .u8 1,.int .i64 u,.int .i64 x1,.int .i64 y1,.int .i64 x2,.int .i64 y2,.string ⟨inp.toArray⟩,.int .u64 (a : Nat),.int .u64 (b : Nat),.int .u64 (c : Nat),.int .u8 (f : Nat),.int .u64 (t : Nat),.int .i64 n]] w fun e w' => e = .returned (.tuple #[.string ((SW ++ ⟨#[32]⟩) ++ SU),.int .i64 0]) ∧ Below w.heap.size w w':=by
 have h32 : (⟨#[32]⟩ : ByteArray).size = 1:=rfl
 have HC:=keep HC
 have HW:=keep HW
 have HU:=keep HU
 have H1:=Lib.hid ((Ok.start w).alloc w.heap.size 28 [.int .u8 1,.int .i64 u,.int .i64 x1,.int .i64 y1,.int .i64 x2,.int .i64 y2,.string ⟨inp.toArray⟩,.int .u64 (a : Nat),.int .u64 (b : Nat),.int .u64 (c : Nat),.int .u8 (f : Nat),.int .u64 (t : Nat),.int .i64 n] rfl)
 go_enter Tryz.func12,Tryz.ntmps12
 go_upto_region 1 with fail
 generalize (w.alloc (.cells #[.int .u8 1,.int .i64 u,.int .i64 x1,.int .i64 y1,.int .i64 x2,.int .i64 y2,.string ⟨inp.toArray⟩,.int .u64 (a : Nat),.int .u64 (b : Nat),.int .u64 (c : Nat),.int .u8 (f : Nat),.int .u64 (t : Nat),.int .i64 n] 28)) = W2 at H1 ⊢
 have F3:=H1.out.sees
 simp only [sees,kBlk,cellsAt,Nat.reduceAdd] at F3
 obtain ⟨⟨z0,q00,q01,q02,q03,q04,q05,q06,q07,q08,q09,q0a,q0b,q0c,-⟩,-⟩:=F3
 go_wp2_with fail
 refine (HC.out _).mono ?_
 rintro e w4 ⟨rfl,hb5⟩
 clear z0 q00 q01 q02 q03 q04 q05 q06 q07 q08 q09 q0a q0b q0c
 have H6:=Lib.hid (H1.out.below hb5)
 clear hb5 H1
 have F7:=H6.out.sees
 simp only [sees,kBlk,cellsAt,Nat.reduceAdd] at F7
 obtain ⟨⟨z0,q00,q01,q02,q03,q04,q05,q06,q07,q08,q09,q0a,q0b,q0c,-⟩,-⟩:=F7
 go_upto_region 3 with fail
 refine wp_region_held_drew (S:=fun W => Ok w [kBlk (w.heap.size) 28 [.int .u8 1,.int .i64 u,.int .i64 x1,.int .i64 y1,.int .i64 x2,.int .i64 y2,.string ⟨inp.toArray⟩,.int .u64 (a : Nat),.int .u64 (b : Nat),.int .u64 (c : Nat),.int .u8 (f : Nat),.int .u64 (t : Nat),.int .i64 n]] W) (by kernel_rfl) H6.out.drew (fun hHeld => ?_)
 refine wtg (i:=0) (v:=?a1) rfl ?b1 (by assumption) ?c1
 case b1 => (intro w h;have F:=Ok.sees h;clear h;simp only [sees,kBlk,cellsAt,Nat.reduceAdd] at F; go_simp;(try rw [if_neg (by simp; omega)]);try with_reducible rfl)
 try simp only [Act.put,wp1,wp2,wp3,wp4,wp6]
 refine wtg (i:=1) (v:=?a3) rfl ?b3 (by assumption) ?c3
 case b3 => (intro w h;have F:=Ok.sees h;clear h;simp only [sees,kBlk,cellsAt,Nat.reduceAdd] at F; go_simp;(try rw [if_neg (by simp; omega)]);try with_reducible rfl)
 try simp only [Act.put,wp1,wp2,wp3,wp4,wp5,wp6]
 refine wtg (i:=4) (v:=?a5) rfl ?b5 (by assumption) ?c5
 case b5 => (intro w h;have F:=Ok.sees h;clear h;simp only [sees,kBlk,cellsAt,Nat.reduceAdd] at F; go_simp;(try rw [if_neg (by simp; omega)]);try with_reducible rfl)
 try simp only [Act.put,wp1,wp2,wp3,wp4,wp5,wp6]
 refine wtg (i:=5) (v:=?a7) rfl ?b7 (by assumption) ?c7
 case b7 => (intro w h;have F:=Ok.sees h;clear h;simp only [sees,kBlk,cellsAt,Nat.reduceAdd] at F; go_simp;(try rw [if_neg (by simp; omega)]);try with_reducible rfl)
 try simp only [Act.put,wp1,wp2,wp3,wp4,wp5,wp6]
 refine wpAnyH_ready (rs:=[2]) (by kernel_rfl) (by simp) ?_
 refine AllReadyH.cons rfl (fun K hK => ?_) AllReadyH.nil
 go_simp
 refine (HW.out _).mono ?_
 rintro e w9 ⟨rfl,hb10⟩
 go_wp2_with fail
 refine hK.out _ _ (hHeld.below hb10) (fun hHeld => ?_)
 clear hK K
 try simp only [Act.put,wp1,wp2,wp3,wp4,wp5,wp6]
 refine wtg (i:=3) (v:=?a10) rfl ?b10 (by assumption) ?c10
 case b10 => (intro w h;have F:=Ok.sees h;clear h;simp only [sees,kBlk,cellsAt,Nat.reduceAdd] at F; go_simp;(try rw [if_neg (by simp; omega)]);try with_reducible rfl)
 try simp only [Act.put,wp1,wp2,wp3,wp4,wp5,wp6]
 refine wpAnyH_ready (rs:=[6]) (by kernel_rfl) (by simp) ?_
 refine AllReadyH.cons rfl (fun K hK => ?_) AllReadyH.nil
 go_simp
 refine (HU.out _).mono ?_
 rintro e w11 ⟨rfl,hb12⟩
 go_wp2_with fail
 refine hK.out _ _ (hHeld.below hb12) (fun hHeld => ?_)
 clear hK K
 try simp only [Act.put,wp1,wp2,wp3,wp4,wp5,wp6]
 refine wtg (i:=7) (v:=?a13) rfl ?b13 (by assumption) ?c13
 case b13 => (intro w h;have F:=Ok.sees h;clear h;simp only [sees,kBlk,cellsAt,Nat.reduceAdd] at F; go_simp;(try rw [if_neg (by simp; omega)]);try with_reducible rfl)
 try simp only [Act.put,wp1,wp2,wp3,wp4,wp5,wp6]
 refine wtg (i:=8) (v:=?a15) rfl ?b15 (by assumption) ?c15
 case b15 => (intro w h;have F:=Ok.sees h;clear h;simp only [sees,kBlk,cellsAt,Nat.reduceAdd] at F; go_simp;(try rw [if_neg (by simp; omega)]);try with_reducible rfl)
 try simp only [Act.put,wp1,wp2,wp3,wp4,wp5,wp6]
 refine wpAnyH_done (by kernel_rfl) ?_ _
 clear z0 q00 q01 q02 q03 q04 q05 q06 q07 q08 q09 q0a q0b q0c
 clear H6
 have H13:=Lib.hid hHeld
 clear hHeld
 have F14:=H13.out.sees
 simp only [sees,kBlk,cellsAt,Nat.reduceAdd] at F14
 obtain ⟨⟨z0,q00,q01,q02,q03,q04,q05,q06,q07,q08,q09,q0a,q0b,q0c,-⟩,-⟩:=F14
 obtain ⟨X1,hX1⟩ : ∃ X,((SW ++ ⟨#[32]⟩) ++ SU) = X:=⟨_,rfl⟩
 have hsX1 : X1.size ≤ 1000000:=by
  rw [← hX1]; simp; omega
 rw [hX1]
 have HX1:=keep hX1
 clear hX1
 go_wp2_with fail
 refine (r9_uses_1 _).mono ?_
 rintro e w15 ⟨rfl,hb16⟩
 clear z0 q00 q01 q02 q03 q04 q05 q06 q07 q08 q09 q0a q0b q0c
 have H17:=Lib.hid (H13.out.below hb16)
 clear hb16 H13
 have F18:=H17.out.sees
 simp only [sees,kBlk,cellsAt,Nat.reduceAdd] at F18
 obtain ⟨⟨z0,q00,q01,q02,q03,q04,q05,q06,q07,q08,q09,q0a,q0b,q0c,-⟩,-⟩:=F18
 go_upto_region 99 with fail
 try rw [Exit.noGoto_ret]
 exact bodyPost_ret (v:=.tuple #[.string X1,.int .i64 0]) (by simp [results,Tryz.results12,go_sem]) rfl ⟨by rw [← HX1.out],H17.out.bel⟩
set_option maxRecDepth 100000 in
set_option maxHeartbeats 4000000 in
theorem r9_fmt_2 (u x1 y1 x2 y2 : Int) (inp : List UInt8) (a b c f t : Nat) (n : Int) (SW SU : ByteArray) (hSW : SW.size ≤ 100000) (hSU : SU.size ≤ 100000)
  (HC : ∀ W,Calls Tryz.prog 14 #[.agg #[.int .u8 2,.int .i64 u,.int .i64 x1,.int .i64 y1,.int .i64 x2,.int .i64 y2,.string ⟨inp.toArray⟩,.int .u64 (a : Nat),.int .u64 (b : Nat),.int .u64 (c : Nat),.int .u8 (f : Nat),.int .u64 (t : Nat),.int .i64 n]] W fun e w' => e = .returned (.int .i64 0) ∧ Below W.heap.size W w')
  (HW : ∀ W,Calls Tryz.prog 29 #[.int .u8 2] W fun e w' => e = .returned (.string SW) ∧ Below W.heap.size W w')
  (HU : ∀ W,Calls Tryz.prog 30 #[.int .i64 u] W fun e w' => e = .returned (.string SU) ∧ Below W.heap.size W w') (w : World) :
  Calls Tryz.prog 12 #[.agg #[.int .u8 2,.int .i64 u,.int .i64 x1,.int .i64 y1,.int .i64 x2,.int .i64 y2,.string ⟨inp.toArray⟩,.int .u64 (a : Nat),.int .u64 (b : Nat),.int .u64 (c : Nat),.int .u8 (f : Nat),.int .u64 (t : Nat),.int .i64 n]] w fun e w' => e = .returned (.tuple #[.string ((SW ++ ⟨#[32]⟩) ++ SU),.int .i64 0]) ∧ Below w.heap.size w w':=by
 have h32 : (⟨#[32]⟩ : ByteArray).size = 1:=rfl
 have HC:=keep HC
 have HW:=keep HW
 have HU:=keep HU
 have H1:=Lib.hid ((Ok.start w).alloc w.heap.size 28 [.int .u8 2,.int .i64 u,.int .i64 x1,.int .i64 y1,.int .i64 x2,.int .i64 y2,.string ⟨inp.toArray⟩,.int .u64 (a : Nat),.int .u64 (b : Nat),.int .u64 (c : Nat),.int .u8 (f : Nat),.int .u64 (t : Nat),.int .i64 n] rfl)
 go_enter Tryz.func12,Tryz.ntmps12
 go_upto_region 1 with fail
 generalize (w.alloc (.cells #[.int .u8 2,.int .i64 u,.int .i64 x1,.int .i64 y1,.int .i64 x2,.int .i64 y2,.string ⟨inp.toArray⟩,.int .u64 (a : Nat),.int .u64 (b : Nat),.int .u64 (c : Nat),.int .u8 (f : Nat),.int .u64 (t : Nat),.int .i64 n] 28)) = W2 at H1 ⊢
 have F3:=H1.out.sees
 simp only [sees,kBlk,cellsAt,Nat.reduceAdd] at F3
 obtain ⟨⟨z0,q00,q01,q02,q03,q04,q05,q06,q07,q08,q09,q0a,q0b,q0c,-⟩,-⟩:=F3
 go_wp2_with fail
 refine (HC.out _).mono ?_
 rintro e w4 ⟨rfl,hb5⟩
 clear z0 q00 q01 q02 q03 q04 q05 q06 q07 q08 q09 q0a q0b q0c
 have H6:=Lib.hid (H1.out.below hb5)
 clear hb5 H1
 have F7:=H6.out.sees
 simp only [sees,kBlk,cellsAt,Nat.reduceAdd] at F7
 obtain ⟨⟨z0,q00,q01,q02,q03,q04,q05,q06,q07,q08,q09,q0a,q0b,q0c,-⟩,-⟩:=F7
 go_upto_region 3 with fail
 refine wp_region_held_drew (S:=fun W => Ok w [kBlk (w.heap.size) 28 [.int .u8 2,.int .i64 u,.int .i64 x1,.int .i64 y1,.int .i64 x2,.int .i64 y2,.string ⟨inp.toArray⟩,.int .u64 (a : Nat),.int .u64 (b : Nat),.int .u64 (c : Nat),.int .u8 (f : Nat),.int .u64 (t : Nat),.int .i64 n]] W) (by kernel_rfl) H6.out.drew (fun hHeld => ?_)
 refine wtg (i:=0) (v:=?a17) rfl ?b17 (by assumption) ?c17
 case b17 => (intro w h;have F:=Ok.sees h;clear h;simp only [sees,kBlk,cellsAt,Nat.reduceAdd] at F; go_simp;(try rw [if_neg (by simp; omega)]);try with_reducible rfl)
 try simp only [Act.put,wp1,wp2,wp3,wp4,wp6]
 refine wtg (i:=1) (v:=?a19) rfl ?b19 (by assumption) ?c19
 case b19 => (intro w h;have F:=Ok.sees h;clear h;simp only [sees,kBlk,cellsAt,Nat.reduceAdd] at F; go_simp;(try rw [if_neg (by simp; omega)]);try with_reducible rfl)
 try simp only [Act.put,wp1,wp2,wp3,wp4,wp5,wp6]
 refine wtg (i:=4) (v:=?a21) rfl ?b21 (by assumption) ?c21
 case b21 => (intro w h;have F:=Ok.sees h;clear h;simp only [sees,kBlk,cellsAt,Nat.reduceAdd] at F; go_simp;(try rw [if_neg (by simp; omega)]);try with_reducible rfl)
 try simp only [Act.put,wp1,wp2,wp3,wp4,wp5,wp6]
 refine wtg (i:=5) (v:=?a23) rfl ?b23 (by assumption) ?c23
 case b23 => (intro w h;have F:=Ok.sees h;clear h;simp only [sees,kBlk,cellsAt,Nat.reduceAdd] at F; go_simp;(try rw [if_neg (by simp; omega)]);try with_reducible rfl)
 try simp only [Act.put,wp1,wp2,wp3,wp4,wp5,wp6]
 refine wpAnyH_ready (rs:=[2]) (by kernel_rfl) (by simp) ?_
 refine AllReadyH.cons rfl (fun K hK => ?_) AllReadyH.nil
 go_simp
 refine (HW.out _).mono ?_
 rintro e w9 ⟨rfl,hb10⟩
 go_wp2_with fail
 refine hK.out _ _ (hHeld.below hb10) (fun hHeld => ?_)
 clear hK K
 try simp only [Act.put,wp1,wp2,wp3,wp4,wp5,wp6]
 refine wtg (i:=3) (v:=?a26) rfl ?b26 (by assumption) ?c26
 case b26 => (intro w h;have F:=Ok.sees h;clear h;simp only [sees,kBlk,cellsAt,Nat.reduceAdd] at F; go_simp;(try rw [if_neg (by simp; omega)]);try with_reducible rfl)
 try simp only [Act.put,wp1,wp2,wp3,wp4,wp5,wp6]
 refine wpAnyH_ready (rs:=[6]) (by kernel_rfl) (by simp) ?_
 refine AllReadyH.cons rfl (fun K hK => ?_) AllReadyH.nil
 go_simp
 refine (HU.out _).mono ?_
 rintro e w11 ⟨rfl,hb12⟩
 go_wp2_with fail
 refine hK.out _ _ (hHeld.below hb12) (fun hHeld => ?_)
 clear hK K
 try simp only [Act.put,wp1,wp2,wp3,wp4,wp5,wp6]
 refine wtg (i:=7) (v:=?a29) rfl ?b29 (by assumption) ?c29
 case b29 => (intro w h;have F:=Ok.sees h;clear h;simp only [sees,kBlk,cellsAt,Nat.reduceAdd] at F; go_simp;(try rw [if_neg (by simp; omega)]);try with_reducible rfl)
 try simp only [Act.put,wp1,wp2,wp3,wp4,wp5,wp6]
 refine wtg (i:=8) (v:=?a31) rfl ?b31 (by assumption) ?c31
 case b31 => (intro w h;have F:=Ok.sees h;clear h;simp only [sees,kBlk,cellsAt,Nat.reduceAdd] at F; go_simp;(try rw [if_neg (by simp; omega)]);try with_reducible rfl)
 try simp only [Act.put,wp1,wp2,wp3,wp4,wp5,wp6]
 refine wpAnyH_done (by kernel_rfl) ?_ _
 clear z0 q00 q01 q02 q03 q04 q05 q06 q07 q08 q09 q0a q0b q0c
 clear H6
 have H13:=Lib.hid hHeld
 clear hHeld
 have F14:=H13.out.sees
 simp only [sees,kBlk,cellsAt,Nat.reduceAdd] at F14
 obtain ⟨⟨z0,q00,q01,q02,q03,q04,q05,q06,q07,q08,q09,q0a,q0b,q0c,-⟩,-⟩:=F14
 obtain ⟨X1,hX1⟩ : ∃ X,((SW ++ ⟨#[32]⟩) ++ SU) = X:=⟨_,rfl⟩
 have hsX1 : X1.size ≤ 1000000:=by
  rw [← hX1]; simp; omega
 rw [hX1]
 have HX1:=keep hX1
 clear hX1
 go_wp2_with fail
 refine (r9_uses_2 _).mono ?_
 rintro e w15 ⟨rfl,hb16⟩
 clear z0 q00 q01 q02 q03 q04 q05 q06 q07 q08 q09 q0a q0b q0c
 have H17:=Lib.hid (H13.out.below hb16)
 clear hb16 H13
 have F18:=H17.out.sees
 simp only [sees,kBlk,cellsAt,Nat.reduceAdd] at F18
 obtain ⟨⟨z0,q00,q01,q02,q03,q04,q05,q06,q07,q08,q09,q0a,q0b,q0c,-⟩,-⟩:=F18
 go_upto_region 99 with fail
 try rw [Exit.noGoto_ret]
 exact bodyPost_ret (v:=.tuple #[.string X1,.int .i64 0]) (by simp [results,Tryz.results12,go_sem]) rfl ⟨by rw [← HX1.out],H17.out.bel⟩
set_option maxRecDepth 100000 in
set_option maxHeartbeats 4000000 in
theorem r9_fmt_3 (u x1 y1 x2 y2 : Int) (inp : List UInt8) (a b c f t : Nat) (n : Int) (SW SU SR SQ : ByteArray) (hSW : SW.size ≤ 100000) (hSU : SU.size ≤ 100000) (hSR : SR.size ≤ 100000) (hSQ : SQ.size ≤ 100000)
  (HC : ∀ W,Calls Tryz.prog 14 #[.agg #[.int .u8 3,.int .i64 u,.int .i64 x1,.int .i64 y1,.int .i64 x2,.int .i64 y2,.string ⟨inp.toArray⟩,.int .u64 (a : Nat),.int .u64 (b : Nat),.int .u64 (c : Nat),.int .u8 (f : Nat),.int .u64 (t : Nat),.int .i64 n]] W fun e w' => e = .returned (.int .i64 0) ∧ Below W.heap.size W w')
  (HW : ∀ W,Calls Tryz.prog 29 #[.int .u8 3] W fun e w' => e = .returned (.string SW) ∧ Below W.heap.size W w')
  (HU : ∀ W,Calls Tryz.prog 30 #[.int .i64 u] W fun e w' => e = .returned (.string SU) ∧ Below W.heap.size W w')
  (HR : ∀ W,Calls Tryz.prog 31 #[.agg #[.int .i64 x1,.int .i64 y1,.int .i64 x2,.int .i64 y2]] W fun e w' => e = .returned (.string SR) ∧ Below W.heap.size W w')
  (HQ : ∀ W,Calls Tryz.prog 32 #[.string ⟨inp.toArray⟩] W fun e w' => e = .returned (.tuple #[.string SQ,.int .i64 0]) ∧ Below W.heap.size W w') (w : World) :
  Calls Tryz.prog 12 #[.agg #[.int .u8 3,.int .i64 u,.int .i64 x1,.int .i64 y1,.int .i64 x2,.int .i64 y2,.string ⟨inp.toArray⟩,.int .u64 (a : Nat),.int .u64 (b : Nat),.int .u64 (c : Nat),.int .u8 (f : Nat),.int .u64 (t : Nat),.int .i64 n]] w fun e w' => e = .returned (.tuple #[.string ((((((SW ++ ⟨#[32]⟩) ++ SU) ++ ⟨#[32]⟩) ++ SR) ++ ⟨#[32]⟩) ++ SQ),.int .i64 0]) ∧ Below w.heap.size w w':=by
 have h32 : (⟨#[32]⟩ : ByteArray).size = 1:=rfl
 have HC:=keep HC
 have HW:=keep HW
 have HU:=keep HU
 have HR:=keep HR
 have HQ:=keep HQ
 have H1:=Lib.hid ((Ok.start w).alloc w.heap.size 28 [.int .u8 3,.int .i64 u,.int .i64 x1,.int .i64 y1,.int .i64 x2,.int .i64 y2,.string ⟨inp.toArray⟩,.int .u64 (a : Nat),.int .u64 (b : Nat),.int .u64 (c : Nat),.int .u8 (f : Nat),.int .u64 (t : Nat),.int .i64 n] rfl)
 go_enter Tryz.func12,Tryz.ntmps12
 go_upto_region 1 with fail
 generalize (w.alloc (.cells #[.int .u8 3,.int .i64 u,.int .i64 x1,.int .i64 y1,.int .i64 x2,.int .i64 y2,.string ⟨inp.toArray⟩,.int .u64 (a : Nat),.int .u64 (b : Nat),.int .u64 (c : Nat),.int .u8 (f : Nat),.int .u64 (t : Nat),.int .i64 n] 28)) = W2 at H1 ⊢
 have F3:=H1.out.sees
 simp only [sees,kBlk,cellsAt,Nat.reduceAdd] at F3
 obtain ⟨⟨z0,q00,q01,q02,q03,q04,q05,q06,q07,q08,q09,q0a,q0b,q0c,-⟩,-⟩:=F3
 go_wp2_with fail
 refine (HC.out _).mono ?_
 rintro e w4 ⟨rfl,hb5⟩
 clear z0 q00 q01 q02 q03 q04 q05 q06 q07 q08 q09 q0a q0b q0c
 have H6:=Lib.hid (H1.out.below hb5)
 clear hb5 H1
 have F7:=H6.out.sees
 simp only [sees,kBlk,cellsAt,Nat.reduceAdd] at F7
 obtain ⟨⟨z0,q00,q01,q02,q03,q04,q05,q06,q07,q08,q09,q0a,q0b,q0c,-⟩,-⟩:=F7
 go_upto_region 3 with fail
 refine wp_region_held_drew (S:=fun W => Ok w [kBlk (w.heap.size) 28 [.int .u8 3,.int .i64 u,.int .i64 x1,.int .i64 y1,.int .i64 x2,.int .i64 y2,.string ⟨inp.toArray⟩,.int .u64 (a : Nat),.int .u64 (b : Nat),.int .u64 (c : Nat),.int .u8 (f : Nat),.int .u64 (t : Nat),.int .i64 n]] W) (by kernel_rfl) H6.out.drew (fun hHeld => ?_)
 refine wtg (i:=0) (v:=?a33) rfl ?b33 (by assumption) ?c33
 case b33 => (intro w h;have F:=Ok.sees h;clear h;simp only [sees,kBlk,cellsAt,Nat.reduceAdd] at F; go_simp;(try rw [if_neg (by simp; omega)]);try with_reducible rfl)
 try simp only [Act.put,wp1,wp2,wp3,wp4,wp6]
 refine wtg (i:=1) (v:=?a35) rfl ?b35 (by assumption) ?c35
 case b35 => (intro w h;have F:=Ok.sees h;clear h;simp only [sees,kBlk,cellsAt,Nat.reduceAdd] at F; go_simp;(try rw [if_neg (by simp; omega)]);try with_reducible rfl)
 try simp only [Act.put,wp1,wp2,wp3,wp4,wp5,wp6]
 refine wtg (i:=4) (v:=?a37) rfl ?b37 (by assumption) ?c37
 case b37 => (intro w h;have F:=Ok.sees h;clear h;simp only [sees,kBlk,cellsAt,Nat.reduceAdd] at F; go_simp;(try rw [if_neg (by simp; omega)]);try with_reducible rfl)
 try simp only [Act.put,wp1,wp2,wp3,wp4,wp5,wp6]
 refine wtg (i:=5) (v:=?a39) rfl ?b39 (by assumption) ?c39
 case b39 => (intro w h;have F:=Ok.sees h;clear h;simp only [sees,kBlk,cellsAt,Nat.reduceAdd] at F; go_simp;(try rw [if_neg (by simp; omega)]);try with_reducible rfl)
 try simp only [Act.put,wp1,wp2,wp3,wp4,wp5,wp6]
 refine wpAnyH_ready (rs:=[2]) (by kernel_rfl) (by simp) ?_
 refine AllReadyH.cons rfl (fun K hK => ?_) AllReadyH.nil
 go_simp
 refine (HW.out _).mono ?_
 rintro e w9 ⟨rfl,hb10⟩
 go_wp2_with fail
 refine hK.out _ _ (hHeld.below hb10) (fun hHeld => ?_)
 clear hK K
 try simp only [Act.put,wp1,wp2,wp3,wp4,wp5,wp6]
 refine wtg (i:=3) (v:=?a42) rfl ?b42 (by assumption) ?c42
 case b42 => (intro w h;have F:=Ok.sees h;clear h;simp only [sees,kBlk,cellsAt,Nat.reduceAdd] at F; go_simp;(try rw [if_neg (by simp; omega)]);try with_reducible rfl)
 try simp only [Act.put,wp1,wp2,wp3,wp4,wp5,wp6]
 refine wpAnyH_ready (rs:=[6]) (by kernel_rfl) (by simp) ?_
 refine AllReadyH.cons rfl (fun K hK => ?_) AllReadyH.nil
 go_simp
 refine (HU.out _).mono ?_
 rintro e w11 ⟨rfl,hb12⟩
 go_wp2_with fail
 refine hK.out _ _ (hHeld.below hb12) (fun hHeld => ?_)
 clear hK K
 try simp only [Act.put,wp1,wp2,wp3,wp4,wp5,wp6]
 refine wtg (i:=7) (v:=?a45) rfl ?b45 (by assumption) ?c45
 case b45 => (intro w h;have F:=Ok.sees h;clear h;simp only [sees,kBlk,cellsAt,Nat.reduceAdd] at F; go_simp;(try rw [if_neg (by simp; omega)]);try with_reducible rfl)
 try simp only [Act.put,wp1,wp2,wp3,wp4,wp5,wp6]
 refine wtg (i:=8) (v:=?a47) rfl ?b47 (by assumption) ?c47
 case b47 => (intro w h;have F:=Ok.sees h;clear h;simp only [sees,kBlk,cellsAt,Nat.reduceAdd] at F; go_simp;(try rw [if_neg (by simp; omega)]);try with_reducible rfl)
 try simp only [Act.put,wp1,wp2,wp3,wp4,wp5,wp6]
 refine wpAnyH_done (by kernel_rfl) ?_ _
 clear z0 q00 q01 q02 q03 q04 q05 q06 q07 q08 q09 q0a q0b q0c
 clear H6
 have H13:=Lib.hid hHeld
 clear hHeld
 have F14:=H13.out.sees
 simp only [sees,kBlk,cellsAt,Nat.reduceAdd] at F14
 obtain ⟨⟨z0,q00,q01,q02,q03,q04,q05,q06,q07,q08,q09,q0a,q0b,q0c,-⟩,-⟩:=F14
 obtain ⟨X1,hX1⟩ : ∃ X,((SW ++ ⟨#[32]⟩) ++ SU) = X:=⟨_,rfl⟩
 have hsX1 : X1.size ≤ 1000000:=by
  rw [← hX1]; simp; omega
 rw [hX1]
 have HX1:=keep hX1
 clear hX1
 go_wp2_with fail
 refine (r9_uses_3 _).mono ?_
 rintro e w15 ⟨rfl,hb16⟩
 clear z0 q00 q01 q02 q03 q04 q05 q06 q07 q08 q09 q0a q0b q0c
 have H17:=Lib.hid (H13.out.below hb16)
 clear hb16 H13
 have F18:=H17.out.sees
 simp only [sees,kBlk,cellsAt,Nat.reduceAdd] at F18
 obtain ⟨⟨z0,q00,q01,q02,q03,q04,q05,q06,q07,q08,q09,q0a,q0b,q0c,-⟩,-⟩:=F18
 go_wp2_with fail
 refine (HR.out _).mono ?_
 rintro e w19 ⟨rfl,hb20⟩
 clear z0 q00 q01 q02 q03 q04 q05 q06 q07 q08 q09 q0a q0b q0c
 have H21:=Lib.hid (H17.out.below hb20)
 clear hb20 H17
 have F22:=H21.out.sees
 simp only [sees,kBlk,cellsAt,Nat.reduceAdd] at F22
 obtain ⟨⟨z0,q00,q01,q02,q03,q04,q05,q06,q07,q08,q09,q0a,q0b,q0c,-⟩,-⟩:=F22
 go_wp2_with fail
 obtain ⟨X2,hX2⟩ : ∃ X,((X1 ++ ⟨#[32]⟩) ++ SR) = X:=⟨_,rfl⟩
 have hsX2 : X2.size ≤ 2000000:=by
  rw [← hX2]; simp; omega
 rw [hX2]
 have HX2:=keep hX2
 clear hX2
 refine (HQ.out _).mono ?_
 rintro e w23 ⟨rfl,hb24⟩
 clear z0 q00 q01 q02 q03 q04 q05 q06 q07 q08 q09 q0a q0b q0c
 have H25:=Lib.hid (H21.out.below hb24)
 clear hb24 H21
 have F26:=H25.out.sees
 simp only [sees,kBlk,cellsAt,Nat.reduceAdd] at F26
 obtain ⟨⟨z0,q00,q01,q02,q03,q04,q05,q06,q07,q08,q09,q0a,q0b,q0c,-⟩,-⟩:=F26
 go_upto_region 99 with fail
 obtain ⟨X3,hX3⟩ : ∃ X,((X2 ++ ⟨#[32]⟩) ++ SQ) = X:=⟨_,rfl⟩
 have hsX3 : X3.size ≤ 3000000:=by
  rw [← hX3]; simp; omega
 rw [hX3]
 have HX3:=keep hX3
 clear hX3
 try rw [Exit.noGoto_ret]
 exact bodyPost_ret (v:=.tuple #[.string X3,.int .i64 0]) (by simp [results,Tryz.results12,go_sem]) rfl ⟨by rw [← HX3.out,← HX2.out,← HX1.out],H25.out.bel⟩
set_option maxRecDepth 100000 in
set_option maxHeartbeats 4000000 in
theorem r9_fmt_4 (u x1 y1 x2 y2 : Int) (inp : List UInt8) (a b c f t : Nat) (n : Int) (SW SU SR : ByteArray) (hSW : SW.size ≤ 100000) (hSU : SU.size ≤ 100000) (hSR : SR.size ≤ 100000)
  (HC : ∀ W,Calls Tryz.prog 14 #[.agg #[.int .u8 4,.int .i64 u,.int .i64 x1,.int .i64 y1,.int .i64 x2,.int .i64 y2,.string ⟨inp.toArray⟩,.int .u64 (a : Nat),.int .u64 (b : Nat),.int .u64 (c : Nat),.int .u8 (f : Nat),.int .u64 (t : Nat),.int .i64 n]] W fun e w' => e = .returned (.int .i64 0) ∧ Below W.heap.size W w')
  (HW : ∀ W,Calls Tryz.prog 29 #[.int .u8 4] W fun e w' => e = .returned (.string SW) ∧ Below W.heap.size W w')
  (HU : ∀ W,Calls Tryz.prog 30 #[.int .i64 u] W fun e w' => e = .returned (.string SU) ∧ Below W.heap.size W w')
  (HR : ∀ W,Calls Tryz.prog 31 #[.agg #[.int .i64 x1,.int .i64 y1,.int .i64 x2,.int .i64 y2]] W fun e w' => e = .returned (.string SR) ∧ Below W.heap.size W w') (w : World) :
  Calls Tryz.prog 12 #[.agg #[.int .u8 4,.int .i64 u,.int .i64 x1,.int .i64 y1,.int .i64 x2,.int .i64 y2,.string ⟨inp.toArray⟩,.int .u64 (a : Nat),.int .u64 (b : Nat),.int .u64 (c : Nat),.int .u8 (f : Nat),.int .u64 (t : Nat),.int .i64 n]] w fun e w' => e = .returned (.tuple #[.string ((((SW ++ ⟨#[32]⟩) ++ SU) ++ ⟨#[32]⟩) ++ SR),.int .i64 0]) ∧ Below w.heap.size w w':=by
 have h32 : (⟨#[32]⟩ : ByteArray).size = 1:=rfl
 have HC:=keep HC
 have HW:=keep HW
 have HU:=keep HU
 have HR:=keep HR
 have H1:=Lib.hid ((Ok.start w).alloc w.heap.size 28 [.int .u8 4,.int .i64 u,.int .i64 x1,.int .i64 y1,.int .i64 x2,.int .i64 y2,.string ⟨inp.toArray⟩,.int .u64 (a : Nat),.int .u64 (b : Nat),.int .u64 (c : Nat),.int .u8 (f : Nat),.int .u64 (t : Nat),.int .i64 n] rfl)
 go_enter Tryz.func12,Tryz.ntmps12
 go_upto_region 1 with fail
 generalize (w.alloc (.cells #[.int .u8 4,.int .i64 u,.int .i64 x1,.int .i64 y1,.int .i64 x2,.int .i64 y2,.string ⟨inp.toArray⟩,.int .u64 (a : Nat),.int .u64 (b : Nat),.int .u64 (c : Nat),.int .u8 (f : Nat),.int .u64 (t : Nat),.int .i64 n] 28)) = W2 at H1 ⊢
 have F3:=H1.out.sees
 simp only [sees,kBlk,cellsAt,Nat.reduceAdd] at F3
 obtain ⟨⟨z0,q00,q01,q02,q03,q04,q05,q06,q07,q08,q09,q0a,q0b,q0c,-⟩,-⟩:=F3
 go_wp2_with fail
 refine (HC.out _).mono ?_
 rintro e w4 ⟨rfl,hb5⟩
 clear z0 q00 q01 q02 q03 q04 q05 q06 q07 q08 q09 q0a q0b q0c
 have H6:=Lib.hid (H1.out.below hb5)
 clear hb5 H1
 have F7:=H6.out.sees
 simp only [sees,kBlk,cellsAt,Nat.reduceAdd] at F7
 obtain ⟨⟨z0,q00,q01,q02,q03,q04,q05,q06,q07,q08,q09,q0a,q0b,q0c,-⟩,-⟩:=F7
 go_upto_region 3 with fail
 refine wp_region_held_drew (S:=fun W => Ok w [kBlk (w.heap.size) 28 [.int .u8 4,.int .i64 u,.int .i64 x1,.int .i64 y1,.int .i64 x2,.int .i64 y2,.string ⟨inp.toArray⟩,.int .u64 (a : Nat),.int .u64 (b : Nat),.int .u64 (c : Nat),.int .u8 (f : Nat),.int .u64 (t : Nat),.int .i64 n]] W) (by kernel_rfl) H6.out.drew (fun hHeld => ?_)
 refine wtg (i:=0) (v:=?a49) rfl ?b49 (by assumption) ?c49
 case b49 => (intro w h;have F:=Ok.sees h;clear h;simp only [sees,kBlk,cellsAt,Nat.reduceAdd] at F; go_simp;(try rw [if_neg (by simp; omega)]);try with_reducible rfl)
 try simp only [Act.put,wp1,wp2,wp3,wp4,wp6]
 refine wtg (i:=1) (v:=?a51) rfl ?b51 (by assumption) ?c51
 case b51 => (intro w h;have F:=Ok.sees h;clear h;simp only [sees,kBlk,cellsAt,Nat.reduceAdd] at F; go_simp;(try rw [if_neg (by simp; omega)]);try with_reducible rfl)
 try simp only [Act.put,wp1,wp2,wp3,wp4,wp5,wp6]
 refine wtg (i:=4) (v:=?a53) rfl ?b53 (by assumption) ?c53
 case b53 => (intro w h;have F:=Ok.sees h;clear h;simp only [sees,kBlk,cellsAt,Nat.reduceAdd] at F; go_simp;(try rw [if_neg (by simp; omega)]);try with_reducible rfl)
 try simp only [Act.put,wp1,wp2,wp3,wp4,wp5,wp6]
 refine wtg (i:=5) (v:=?a55) rfl ?b55 (by assumption) ?c55
 case b55 => (intro w h;have F:=Ok.sees h;clear h;simp only [sees,kBlk,cellsAt,Nat.reduceAdd] at F; go_simp;(try rw [if_neg (by simp; omega)]);try with_reducible rfl)
 try simp only [Act.put,wp1,wp2,wp3,wp4,wp5,wp6]
 refine wpAnyH_ready (rs:=[2]) (by kernel_rfl) (by simp) ?_
 refine AllReadyH.cons rfl (fun K hK => ?_) AllReadyH.nil
 go_simp
 refine (HW.out _).mono ?_
 rintro e w9 ⟨rfl,hb10⟩
 go_wp2_with fail
 refine hK.out _ _ (hHeld.below hb10) (fun hHeld => ?_)
 clear hK K
 try simp only [Act.put,wp1,wp2,wp3,wp4,wp5,wp6]
 refine wtg (i:=3) (v:=?a58) rfl ?b58 (by assumption) ?c58
 case b58 => (intro w h;have F:=Ok.sees h;clear h;simp only [sees,kBlk,cellsAt,Nat.reduceAdd] at F; go_simp;(try rw [if_neg (by simp; omega)]);try with_reducible rfl)
 try simp only [Act.put,wp1,wp2,wp3,wp4,wp5,wp6]
 refine wpAnyH_ready (rs:=[6]) (by kernel_rfl) (by simp) ?_
 refine AllReadyH.cons rfl (fun K hK => ?_) AllReadyH.nil
 go_simp
 refine (HU.out _).mono ?_
 rintro e w11 ⟨rfl,hb12⟩
 go_wp2_with fail
 refine hK.out _ _ (hHeld.below hb12) (fun hHeld => ?_)
 clear hK K
 try simp only [Act.put,wp1,wp2,wp3,wp4,wp5,wp6]
 refine wtg (i:=7) (v:=?a61) rfl ?b61 (by assumption) ?c61
 case b61 => (intro w h;have F:=Ok.sees h;clear h;simp only [sees,kBlk,cellsAt,Nat.reduceAdd] at F; go_simp;(try rw [if_neg (by simp; omega)]);try with_reducible rfl)
 try simp only [Act.put,wp1,wp2,wp3,wp4,wp5,wp6]
 refine wtg (i:=8) (v:=?a63) rfl ?b63 (by assumption) ?c63
 case b63 => (intro w h;have F:=Ok.sees h;clear h;simp only [sees,kBlk,cellsAt,Nat.reduceAdd] at F; go_simp;(try rw [if_neg (by simp; omega)]);try with_reducible rfl)
 try simp only [Act.put,wp1,wp2,wp3,wp4,wp5,wp6]
 refine wpAnyH_done (by kernel_rfl) ?_ _
 clear z0 q00 q01 q02 q03 q04 q05 q06 q07 q08 q09 q0a q0b q0c
 clear H6
 have H13:=Lib.hid hHeld
 clear hHeld
 have F14:=H13.out.sees
 simp only [sees,kBlk,cellsAt,Nat.reduceAdd] at F14
 obtain ⟨⟨z0,q00,q01,q02,q03,q04,q05,q06,q07,q08,q09,q0a,q0b,q0c,-⟩,-⟩:=F14
 obtain ⟨X1,hX1⟩ : ∃ X,((SW ++ ⟨#[32]⟩) ++ SU) = X:=⟨_,rfl⟩
 have hsX1 : X1.size ≤ 1000000:=by
  rw [← hX1]; simp; omega
 rw [hX1]
 have HX1:=keep hX1
 clear hX1
 go_wp2_with fail
 refine (r9_uses_4 _).mono ?_
 rintro e w15 ⟨rfl,hb16⟩
 clear z0 q00 q01 q02 q03 q04 q05 q06 q07 q08 q09 q0a q0b q0c
 have H17:=Lib.hid (H13.out.below hb16)
 clear hb16 H13
 have F18:=H17.out.sees
 simp only [sees,kBlk,cellsAt,Nat.reduceAdd] at F18
 obtain ⟨⟨z0,q00,q01,q02,q03,q04,q05,q06,q07,q08,q09,q0a,q0b,q0c,-⟩,-⟩:=F18
 go_wp2_with fail
 refine (HR.out _).mono ?_
 rintro e w19 ⟨rfl,hb20⟩
 clear z0 q00 q01 q02 q03 q04 q05 q06 q07 q08 q09 q0a q0b q0c
 have H21:=Lib.hid (H17.out.below hb20)
 clear hb20 H17
 have F22:=H21.out.sees
 simp only [sees,kBlk,cellsAt,Nat.reduceAdd] at F22
 obtain ⟨⟨z0,q00,q01,q02,q03,q04,q05,q06,q07,q08,q09,q0a,q0b,q0c,-⟩,-⟩:=F22
 go_upto_region 99 with fail
 obtain ⟨X2,hX2⟩ : ∃ X,((X1 ++ ⟨#[32]⟩) ++ SR) = X:=⟨_,rfl⟩
 have hsX2 : X2.size ≤ 2000000:=by
  rw [← hX2]; simp; omega
 rw [hX2]
 have HX2:=keep hX2
 clear hX2
 try rw [Exit.noGoto_ret]
 exact bodyPost_ret (v:=.tuple #[.string X2,.int .i64 0]) (by simp [results,Tryz.results12,go_sem]) rfl ⟨by rw [← HX2.out,← HX1.out],H21.out.bel⟩
set_option maxRecDepth 100000 in
set_option maxHeartbeats 4000000 in
theorem r9_fmt_5 (u x1 y1 x2 y2 : Int) (inp : List UInt8) (a b c f t : Nat) (n : Int) (SW SU SR : ByteArray) (hSW : SW.size ≤ 100000) (hSU : SU.size ≤ 100000) (hSR : SR.size ≤ 100000)
  (HC : ∀ W,Calls Tryz.prog 14 #[.agg #[.int .u8 5,.int .i64 u,.int .i64 x1,.int .i64 y1,.int .i64 x2,.int .i64 y2,.string ⟨inp.toArray⟩,.int .u64 (a : Nat),.int .u64 (b : Nat),.int .u64 (c : Nat),.int .u8 (f : Nat),.int .u64 (t : Nat),.int .i64 n]] W fun e w' => e = .returned (.int .i64 0) ∧ Below W.heap.size W w')
  (HW : ∀ W,Calls Tryz.prog 29 #[.int .u8 5] W fun e w' => e = .returned (.string SW) ∧ Below W.heap.size W w')
  (HU : ∀ W,Calls Tryz.prog 30 #[.int .i64 u] W fun e w' => e = .returned (.string SU) ∧ Below W.heap.size W w')
  (HR : ∀ W,Calls Tryz.prog 31 #[.agg #[.int .i64 x1,.int .i64 y1,.int .i64 x2,.int .i64 y2]] W fun e w' => e = .returned (.string SR) ∧ Below W.heap.size W w') (w : World) :
  Calls Tryz.prog 12 #[.agg #[.int .u8 5,.int .i64 u,.int .i64 x1,.int .i64 y1,.int .i64 x2,.int .i64 y2,.string ⟨inp.toArray⟩,.int .u64 (a : Nat),.int .u64 (b : Nat),.int .u64 (c : Nat),.int .u8 (f : Nat),.int .u64 (t : Nat),.int .i64 n]] w fun e w' => e = .returned (.tuple #[.string ((((SW ++ ⟨#[32]⟩) ++ SU) ++ ⟨#[32]⟩) ++ SR),.int .i64 0]) ∧ Below w.heap.size w w':=by
 have h32 : (⟨#[32]⟩ : ByteArray).size = 1:=rfl
 have HC:=keep HC
 have HW:=keep HW
 have HU:=keep HU
 have HR:=keep HR
 have H1:=Lib.hid ((Ok.start w).alloc w.heap.size 28 [.int .u8 5,.int .i64 u,.int .i64 x1,.int .i64 y1,.int .i64 x2,.int .i64 y2,.string ⟨inp.toArray⟩,.int .u64 (a : Nat),.int .u64 (b : Nat),.int .u64 (c : Nat),.int .u8 (f : Nat),.int .u64 (t : Nat),.int .i64 n] rfl)
 go_enter Tryz.func12,Tryz.ntmps12
 go_upto_region 1 with fail
 generalize (w.alloc (.cells #[.int .u8 5,.int .i64 u,.int .i64 x1,.int .i64 y1,.int .i64 x2,.int .i64 y2,.string ⟨inp.toArray⟩,.int .u64 (a : Nat),.int .u64 (b : Nat),.int .u64 (c : Nat),.int .u8 (f : Nat),.int .u64 (t : Nat),.int .i64 n] 28)) = W2 at H1 ⊢
 have F3:=H1.out.sees
 simp only [sees,kBlk,cellsAt,Nat.reduceAdd] at F3
 obtain ⟨⟨z0,q00,q01,q02,q03,q04,q05,q06,q07,q08,q09,q0a,q0b,q0c,-⟩,-⟩:=F3
 go_wp2_with fail
 refine (HC.out _).mono ?_
 rintro e w4 ⟨rfl,hb5⟩
 clear z0 q00 q01 q02 q03 q04 q05 q06 q07 q08 q09 q0a q0b q0c
 have H6:=Lib.hid (H1.out.below hb5)
 clear hb5 H1
 have F7:=H6.out.sees
 simp only [sees,kBlk,cellsAt,Nat.reduceAdd] at F7
 obtain ⟨⟨z0,q00,q01,q02,q03,q04,q05,q06,q07,q08,q09,q0a,q0b,q0c,-⟩,-⟩:=F7
 go_upto_region 3 with fail
 refine wp_region_held_drew (S:=fun W => Ok w [kBlk (w.heap.size) 28 [.int .u8 5,.int .i64 u,.int .i64 x1,.int .i64 y1,.int .i64 x2,.int .i64 y2,.string ⟨inp.toArray⟩,.int .u64 (a : Nat),.int .u64 (b : Nat),.int .u64 (c : Nat),.int .u8 (f : Nat),.int .u64 (t : Nat),.int .i64 n]] W) (by kernel_rfl) H6.out.drew (fun hHeld => ?_)
 refine wtg (i:=0) (v:=?a65) rfl ?b65 (by assumption) ?c65
 case b65 => (intro w h;have F:=Ok.sees h;clear h;simp only [sees,kBlk,cellsAt,Nat.reduceAdd] at F; go_simp;(try rw [if_neg (by simp; omega)]);try with_reducible rfl)
 try simp only [Act.put,wp1,wp2,wp3,wp4,wp6]
 refine wtg (i:=1) (v:=?a67) rfl ?b67 (by assumption) ?c67
 case b67 => (intro w h;have F:=Ok.sees h;clear h;simp only [sees,kBlk,cellsAt,Nat.reduceAdd] at F; go_simp;(try rw [if_neg (by simp; omega)]);try with_reducible rfl)
 try simp only [Act.put,wp1,wp2,wp3,wp4,wp5,wp6]
 refine wtg (i:=4) (v:=?a69) rfl ?b69 (by assumption) ?c69
 case b69 => (intro w h;have F:=Ok.sees h;clear h;simp only [sees,kBlk,cellsAt,Nat.reduceAdd] at F; go_simp;(try rw [if_neg (by simp; omega)]);try with_reducible rfl)
 try simp only [Act.put,wp1,wp2,wp3,wp4,wp5,wp6]
 refine wtg (i:=5) (v:=?a71) rfl ?b71 (by assumption) ?c71
 case b71 => (intro w h;have F:=Ok.sees h;clear h;simp only [sees,kBlk,cellsAt,Nat.reduceAdd] at F; go_simp;(try rw [if_neg (by simp; omega)]);try with_reducible rfl)
 try simp only [Act.put,wp1,wp2,wp3,wp4,wp5,wp6]
 refine wpAnyH_ready (rs:=[2]) (by kernel_rfl) (by simp) ?_
 refine AllReadyH.cons rfl (fun K hK => ?_) AllReadyH.nil
 go_simp
 refine (HW.out _).mono ?_
 rintro e w9 ⟨rfl,hb10⟩
 go_wp2_with fail
 refine hK.out _ _ (hHeld.below hb10) (fun hHeld => ?_)
 clear hK K
 try simp only [Act.put,wp1,wp2,wp3,wp4,wp5,wp6]
 refine wtg (i:=3) (v:=?a74) rfl ?b74 (by assumption) ?c74
 case b74 => (intro w h;have F:=Ok.sees h;clear h;simp only [sees,kBlk,cellsAt,Nat.reduceAdd] at F; go_simp;(try rw [if_neg (by simp; omega)]);try with_reducible rfl)
 try simp only [Act.put,wp1,wp2,wp3,wp4,wp5,wp6]
 refine wpAnyH_ready (rs:=[6]) (by kernel_rfl) (by simp) ?_
 refine AllReadyH.cons rfl (fun K hK => ?_) AllReadyH.nil
 go_simp
 refine (HU.out _).mono ?_
 rintro e w11 ⟨rfl,hb12⟩
 go_wp2_with fail
 refine hK.out _ _ (hHeld.below hb12) (fun hHeld => ?_)
 clear hK K
 try simp only [Act.put,wp1,wp2,wp3,wp4,wp5,wp6]
 refine wtg (i:=7) (v:=?a77) rfl ?b77 (by assumption) ?c77
 case b77 => (intro w h;have F:=Ok.sees h;clear h;simp only [sees,kBlk,cellsAt,Nat.reduceAdd] at F; go_simp;(try rw [if_neg (by simp; omega)]);try with_reducible rfl)
 try simp only [Act.put,wp1,wp2,wp3,wp4,wp5,wp6]
 refine wtg (i:=8) (v:=?a79) rfl ?b79 (by assumption) ?c79
 case b79 => (intro w h;have F:=Ok.sees h;clear h;simp only [sees,kBlk,cellsAt,Nat.reduceAdd] at F; go_simp;(try rw [if_neg (by simp; omega)]);try with_reducible rfl)
 try simp only [Act.put,wp1,wp2,wp3,wp4,wp5,wp6]
 refine wpAnyH_done (by kernel_rfl) ?_ _
 clear z0 q00 q01 q02 q03 q04 q05 q06 q07 q08 q09 q0a q0b q0c
 clear H6
 have H13:=Lib.hid hHeld
 clear hHeld
 have F14:=H13.out.sees
 simp only [sees,kBlk,cellsAt,Nat.reduceAdd] at F14
 obtain ⟨⟨z0,q00,q01,q02,q03,q04,q05,q06,q07,q08,q09,q0a,q0b,q0c,-⟩,-⟩:=F14
 obtain ⟨X1,hX1⟩ : ∃ X,((SW ++ ⟨#[32]⟩) ++ SU) = X:=⟨_,rfl⟩
 have hsX1 : X1.size ≤ 1000000:=by
  rw [← hX1]; simp; omega
 rw [hX1]
 have HX1:=keep hX1
 clear hX1
 go_wp2_with fail
 refine (r9_uses_5 _).mono ?_
 rintro e w15 ⟨rfl,hb16⟩
 clear z0 q00 q01 q02 q03 q04 q05 q06 q07 q08 q09 q0a q0b q0c
 have H17:=Lib.hid (H13.out.below hb16)
 clear hb16 H13
 have F18:=H17.out.sees
 simp only [sees,kBlk,cellsAt,Nat.reduceAdd] at F18
 obtain ⟨⟨z0,q00,q01,q02,q03,q04,q05,q06,q07,q08,q09,q0a,q0b,q0c,-⟩,-⟩:=F18
 go_wp2_with fail
 refine (HR.out _).mono ?_
 rintro e w19 ⟨rfl,hb20⟩
 clear z0 q00 q01 q02 q03 q04 q05 q06 q07 q08 q09 q0a q0b q0c
 have H21:=Lib.hid (H17.out.below hb20)
 clear hb20 H17
 have F22:=H21.out.sees
 simp only [sees,kBlk,cellsAt,Nat.reduceAdd] at F22
 obtain ⟨⟨z0,q00,q01,q02,q03,q04,q05,q06,q07,q08,q09,q0a,q0b,q0c,-⟩,-⟩:=F22
 go_upto_region 99 with fail
 obtain ⟨X2,hX2⟩ : ∃ X,((X1 ++ ⟨#[32]⟩) ++ SR) = X:=⟨_,rfl⟩
 have hsX2 : X2.size ≤ 2000000:=by
  rw [← hX2]; simp; omega
 rw [hX2]
 have HX2:=keep hX2
 clear hX2
 try rw [Exit.noGoto_ret]
 exact bodyPost_ret (v:=.tuple #[.string X2,.int .i64 0]) (by simp [results,Tryz.results12,go_sem]) rfl ⟨by rw [← HX2.out,← HX1.out],H21.out.bel⟩
set_option maxRecDepth 100000 in
set_option maxHeartbeats 4000000 in
theorem r9_fmt_6 (u x1 y1 x2 y2 : Int) (inp : List UInt8) (a b c f t : Nat) (n : Int) (SW SU SR : ByteArray) (hSW : SW.size ≤ 100000) (hSU : SU.size ≤ 100000) (hSR : SR.size ≤ 100000)
  (HC : ∀ W,Calls Tryz.prog 14 #[.agg #[.int .u8 6,.int .i64 u,.int .i64 x1,.int .i64 y1,.int .i64 x2,.int .i64 y2,.string ⟨inp.toArray⟩,.int .u64 (a : Nat),.int .u64 (b : Nat),.int .u64 (c : Nat),.int .u8 (f : Nat),.int .u64 (t : Nat),.int .i64 n]] W fun e w' => e = .returned (.int .i64 0) ∧ Below W.heap.size W w')
  (HW : ∀ W,Calls Tryz.prog 29 #[.int .u8 6] W fun e w' => e = .returned (.string SW) ∧ Below W.heap.size W w')
  (HU : ∀ W,Calls Tryz.prog 30 #[.int .i64 u] W fun e w' => e = .returned (.string SU) ∧ Below W.heap.size W w')
  (HR : ∀ W,Calls Tryz.prog 31 #[.agg #[.int .i64 x1,.int .i64 y1,.int .i64 x2,.int .i64 y2]] W fun e w' => e = .returned (.string SR) ∧ Below W.heap.size W w') (w : World) :
  Calls Tryz.prog 12 #[.agg #[.int .u8 6,.int .i64 u,.int .i64 x1,.int .i64 y1,.int .i64 x2,.int .i64 y2,.string ⟨inp.toArray⟩,.int .u64 (a : Nat),.int .u64 (b : Nat),.int .u64 (c : Nat),.int .u8 (f : Nat),.int .u64 (t : Nat),.int .i64 n]] w fun e w' => e = .returned (.tuple #[.string ((((SW ++ ⟨#[32]⟩) ++ SU) ++ ⟨#[32]⟩) ++ SR),.int .i64 0]) ∧ Below w.heap.size w w':=by
 have h32 : (⟨#[32]⟩ : ByteArray).size = 1:=rfl
 have HC:=keep HC
 have HW:=keep HW
 have HU:=keep HU
 have HR:=keep HR
 have H1:=Lib.hid ((Ok.start w).alloc w.heap.size 28 [.int .u8 6,.int .i64 u,.int .i64 x1,.int .i64 y1,.int .i64 x2,.int .i64 y2,.string ⟨inp.toArray⟩,.int .u64 (a : Nat),.int .u64 (b : Nat),.int .u64 (c : Nat),.int .u8 (f : Nat),.int .u64 (t : Nat),.int .i64 n] rfl)
 go_enter Tryz.func12,Tryz.ntmps12
 go_upto_region 1 with fail
 generalize (w.alloc (.cells #[.int .u8 6,.int .i64 u,.int .i64 x1,.int .i64 y1,.int .i64 x2,.int .i64 y2,.string ⟨inp.toArray⟩,.int .u64 (a : Nat),.int .u64 (b : Nat),.int .u64 (c : Nat),.int .u8 (f : Nat),.int .u64 (t : Nat),.int .i64 n] 28)) = W2 at H1 ⊢
 have F3:=H1.out.sees
 simp only [sees,kBlk,cellsAt,Nat.reduceAdd] at F3
 obtain ⟨⟨z0,q00,q01,q02,q03,q04,q05,q06,q07,q08,q09,q0a,q0b,q0c,-⟩,-⟩:=F3
 go_wp2_with fail
 refine (HC.out _).mono ?_
 rintro e w4 ⟨rfl,hb5⟩
 clear z0 q00 q01 q02 q03 q04 q05 q06 q07 q08 q09 q0a q0b q0c
 have H6:=Lib.hid (H1.out.below hb5)
 clear hb5 H1
 have F7:=H6.out.sees
 simp only [sees,kBlk,cellsAt,Nat.reduceAdd] at F7
 obtain ⟨⟨z0,q00,q01,q02,q03,q04,q05,q06,q07,q08,q09,q0a,q0b,q0c,-⟩,-⟩:=F7
 go_upto_region 3 with fail
 refine wp_region_held_drew (S:=fun W => Ok w [kBlk (w.heap.size) 28 [.int .u8 6,.int .i64 u,.int .i64 x1,.int .i64 y1,.int .i64 x2,.int .i64 y2,.string ⟨inp.toArray⟩,.int .u64 (a : Nat),.int .u64 (b : Nat),.int .u64 (c : Nat),.int .u8 (f : Nat),.int .u64 (t : Nat),.int .i64 n]] W) (by kernel_rfl) H6.out.drew (fun hHeld => ?_)
 refine wtg (i:=0) (v:=?a81) rfl ?b81 (by assumption) ?c81
 case b81 => (intro w h;have F:=Ok.sees h;clear h;simp only [sees,kBlk,cellsAt,Nat.reduceAdd] at F; go_simp;(try rw [if_neg (by simp; omega)]);try with_reducible rfl)
 try simp only [Act.put,wp1,wp2,wp3,wp4,wp6]
 refine wtg (i:=1) (v:=?a83) rfl ?b83 (by assumption) ?c83
 case b83 => (intro w h;have F:=Ok.sees h;clear h;simp only [sees,kBlk,cellsAt,Nat.reduceAdd] at F; go_simp;(try rw [if_neg (by simp; omega)]);try with_reducible rfl)
 try simp only [Act.put,wp1,wp2,wp3,wp4,wp5,wp6]
 refine wtg (i:=4) (v:=?a85) rfl ?b85 (by assumption) ?c85
 case b85 => (intro w h;have F:=Ok.sees h;clear h;simp only [sees,kBlk,cellsAt,Nat.reduceAdd] at F; go_simp;(try rw [if_neg (by simp; omega)]);try with_reducible rfl)
 try simp only [Act.put,wp1,wp2,wp3,wp4,wp5,wp6]
 refine wtg (i:=5) (v:=?a87) rfl ?b87 (by assumption) ?c87
 case b87 => (intro w h;have F:=Ok.sees h;clear h;simp only [sees,kBlk,cellsAt,Nat.reduceAdd] at F; go_simp;(try rw [if_neg (by simp; omega)]);try with_reducible rfl)
 try simp only [Act.put,wp1,wp2,wp3,wp4,wp5,wp6]
 refine wpAnyH_ready (rs:=[2]) (by kernel_rfl) (by simp) ?_
 refine AllReadyH.cons rfl (fun K hK => ?_) AllReadyH.nil
 go_simp
 refine (HW.out _).mono ?_
 rintro e w9 ⟨rfl,hb10⟩
 go_wp2_with fail
 refine hK.out _ _ (hHeld.below hb10) (fun hHeld => ?_)
 clear hK K
 try simp only [Act.put,wp1,wp2,wp3,wp4,wp5,wp6]
 refine wtg (i:=3) (v:=?a90) rfl ?b90 (by assumption) ?c90
 case b90 => (intro w h;have F:=Ok.sees h;clear h;simp only [sees,kBlk,cellsAt,Nat.reduceAdd] at F; go_simp;(try rw [if_neg (by simp; omega)]);try with_reducible rfl)
 try simp only [Act.put,wp1,wp2,wp3,wp4,wp5,wp6]
 refine wpAnyH_ready (rs:=[6]) (by kernel_rfl) (by simp) ?_
 refine AllReadyH.cons rfl (fun K hK => ?_) AllReadyH.nil
 go_simp
 refine (HU.out _).mono ?_
 rintro e w11 ⟨rfl,hb12⟩
 go_wp2_with fail
 refine hK.out _ _ (hHeld.below hb12) (fun hHeld => ?_)
 clear hK K
 try simp only [Act.put,wp1,wp2,wp3,wp4,wp5,wp6]
 refine wtg (i:=7) (v:=?a93) rfl ?b93 (by assumption) ?c93
 case b93 => (intro w h;have F:=Ok.sees h;clear h;simp only [sees,kBlk,cellsAt,Nat.reduceAdd] at F; go_simp;(try rw [if_neg (by simp; omega)]);try with_reducible rfl)
 try simp only [Act.put,wp1,wp2,wp3,wp4,wp5,wp6]
 refine wtg (i:=8) (v:=?a95) rfl ?b95 (by assumption) ?c95
 case b95 => (intro w h;have F:=Ok.sees h;clear h;simp only [sees,kBlk,cellsAt,Nat.reduceAdd] at F; go_simp;(try rw [if_neg (by simp; omega)]);try with_reducible rfl)
 try simp only [Act.put,wp1,wp2,wp3,wp4,wp5,wp6]
 refine wpAnyH_done (by kernel_rfl) ?_ _
 clear z0 q00 q01 q02 q03 q04 q05 q06 q07 q08 q09 q0a q0b q0c
 clear H6
 have H13:=Lib.hid hHeld
 clear hHeld
 have F14:=H13.out.sees
 simp only [sees,kBlk,cellsAt,Nat.reduceAdd] at F14
 obtain ⟨⟨z0,q00,q01,q02,q03,q04,q05,q06,q07,q08,q09,q0a,q0b,q0c,-⟩,-⟩:=F14
 obtain ⟨X1,hX1⟩ : ∃ X,((SW ++ ⟨#[32]⟩) ++ SU) = X:=⟨_,rfl⟩
 have hsX1 : X1.size ≤ 1000000:=by
  rw [← hX1]; simp; omega
 rw [hX1]
 have HX1:=keep hX1
 clear hX1
 go_wp2_with fail
 refine (r9_uses_6 _).mono ?_
 rintro e w15 ⟨rfl,hb16⟩
 clear z0 q00 q01 q02 q03 q04 q05 q06 q07 q08 q09 q0a q0b q0c
 have H17:=Lib.hid (H13.out.below hb16)
 clear hb16 H13
 have F18:=H17.out.sees
 simp only [sees,kBlk,cellsAt,Nat.reduceAdd] at F18
 obtain ⟨⟨z0,q00,q01,q02,q03,q04,q05,q06,q07,q08,q09,q0a,q0b,q0c,-⟩,-⟩:=F18
 go_wp2_with fail
 refine (HR.out _).mono ?_
 rintro e w19 ⟨rfl,hb20⟩
 clear z0 q00 q01 q02 q03 q04 q05 q06 q07 q08 q09 q0a q0b q0c
 have H21:=Lib.hid (H17.out.below hb20)
 clear hb20 H17
 have F22:=H21.out.sees
 simp only [sees,kBlk,cellsAt,Nat.reduceAdd] at F22
 obtain ⟨⟨z0,q00,q01,q02,q03,q04,q05,q06,q07,q08,q09,q0a,q0b,q0c,-⟩,-⟩:=F22
 go_upto_region 99 with fail
 obtain ⟨X2,hX2⟩ : ∃ X,((X1 ++ ⟨#[32]⟩) ++ SR) = X:=⟨_,rfl⟩
 have hsX2 : X2.size ≤ 2000000:=by
  rw [← hX2]; simp; omega
 rw [hX2]
 have HX2:=keep hX2
 clear hX2
 try rw [Exit.noGoto_ret]
 exact bodyPost_ret (v:=.tuple #[.string X2,.int .i64 0]) (by simp [results,Tryz.results12,go_sem]) rfl ⟨by rw [← HX2.out,← HX1.out],H21.out.bel⟩
set_option maxRecDepth 100000 in
set_option maxHeartbeats 4000000 in
theorem r9_fmt_7 (u x1 y1 x2 y2 : Int) (inp : List UInt8) (a b c f t : Nat) (n : Int) (SW SU SR SG : ByteArray) (hSW : SW.size ≤ 100000) (hSU : SU.size ≤ 100000) (hSR : SR.size ≤ 100000) (hSG : SG.size ≤ 100000)
  (HC : ∀ W,Calls Tryz.prog 14 #[.agg #[.int .u8 7,.int .i64 u,.int .i64 x1,.int .i64 y1,.int .i64 x2,.int .i64 y2,.string ⟨inp.toArray⟩,.int .u64 (a : Nat),.int .u64 (b : Nat),.int .u64 (c : Nat),.int .u8 (f : Nat),.int .u64 (t : Nat),.int .i64 n]] W fun e w' => e = .returned (.int .i64 0) ∧ Below W.heap.size W w')
  (HW : ∀ W,Calls Tryz.prog 29 #[.int .u8 7] W fun e w' => e = .returned (.string SW) ∧ Below W.heap.size W w')
  (HU : ∀ W,Calls Tryz.prog 30 #[.int .i64 u] W fun e w' => e = .returned (.string SU) ∧ Below W.heap.size W w')
  (HR : ∀ W,Calls Tryz.prog 31 #[.agg #[.int .i64 x1,.int .i64 y1,.int .i64 x2,.int .i64 y2]] W fun e w' => e = .returned (.string SR) ∧ Below W.heap.size W w')
  (HG : ∀ W,Calls Tryz.prog 33 #[.agg #[.int .u64 (a : Nat),.int .u64 (b : Nat),.int .u64 (c : Nat)]] W fun e w' => e = .returned (.string SG) ∧ Below W.heap.size W w') (w : World) :
  Calls Tryz.prog 12 #[.agg #[.int .u8 7,.int .i64 u,.int .i64 x1,.int .i64 y1,.int .i64 x2,.int .i64 y2,.string ⟨inp.toArray⟩,.int .u64 (a : Nat),.int .u64 (b : Nat),.int .u64 (c : Nat),.int .u8 (f : Nat),.int .u64 (t : Nat),.int .i64 n]] w fun e w' => e = .returned (.tuple #[.string ((((((SW ++ ⟨#[32]⟩) ++ SU) ++ ⟨#[32]⟩) ++ SR) ++ ⟨#[32]⟩) ++ SG),.int .i64 0]) ∧ Below w.heap.size w w':=by
 have h32 : (⟨#[32]⟩ : ByteArray).size = 1:=rfl
 have HC:=keep HC
 have HW:=keep HW
 have HU:=keep HU
 have HR:=keep HR
 have HG:=keep HG
 have H1:=Lib.hid ((Ok.start w).alloc w.heap.size 28 [.int .u8 7,.int .i64 u,.int .i64 x1,.int .i64 y1,.int .i64 x2,.int .i64 y2,.string ⟨inp.toArray⟩,.int .u64 (a : Nat),.int .u64 (b : Nat),.int .u64 (c : Nat),.int .u8 (f : Nat),.int .u64 (t : Nat),.int .i64 n] rfl)
 go_enter Tryz.func12,Tryz.ntmps12
 go_upto_region 1 with fail
 generalize (w.alloc (.cells #[.int .u8 7,.int .i64 u,.int .i64 x1,.int .i64 y1,.int .i64 x2,.int .i64 y2,.string ⟨inp.toArray⟩,.int .u64 (a : Nat),.int .u64 (b : Nat),.int .u64 (c : Nat),.int .u8 (f : Nat),.int .u64 (t : Nat),.int .i64 n] 28)) = W2 at H1 ⊢
 have F3:=H1.out.sees
 simp only [sees,kBlk,cellsAt,Nat.reduceAdd] at F3
 obtain ⟨⟨z0,q00,q01,q02,q03,q04,q05,q06,q07,q08,q09,q0a,q0b,q0c,-⟩,-⟩:=F3
 go_wp2_with fail
 refine (HC.out _).mono ?_
 rintro e w4 ⟨rfl,hb5⟩
 clear z0 q00 q01 q02 q03 q04 q05 q06 q07 q08 q09 q0a q0b q0c
 have H6:=Lib.hid (H1.out.below hb5)
 clear hb5 H1
 have F7:=H6.out.sees
 simp only [sees,kBlk,cellsAt,Nat.reduceAdd] at F7
 obtain ⟨⟨z0,q00,q01,q02,q03,q04,q05,q06,q07,q08,q09,q0a,q0b,q0c,-⟩,-⟩:=F7
 go_upto_region 3 with fail
 refine wp_region_held_drew (S:=fun W => Ok w [kBlk (w.heap.size) 28 [.int .u8 7,.int .i64 u,.int .i64 x1,.int .i64 y1,.int .i64 x2,.int .i64 y2,.string ⟨inp.toArray⟩,.int .u64 (a : Nat),.int .u64 (b : Nat),.int .u64 (c : Nat),.int .u8 (f : Nat),.int .u64 (t : Nat),.int .i64 n]] W) (by kernel_rfl) H6.out.drew (fun hHeld => ?_)
 refine wtg (i:=0) (v:=?a97) rfl ?b97 (by assumption) ?c97
 case b97 => (intro w h;have F:=Ok.sees h;clear h;simp only [sees,kBlk,cellsAt,Nat.reduceAdd] at F; go_simp;(try rw [if_neg (by simp; omega)]);try with_reducible rfl)
 try simp only [Act.put,wp1,wp2,wp3,wp4,wp6]
 refine wtg (i:=1) (v:=?a99) rfl ?b99 (by assumption) ?c99
 case b99 => (intro w h;have F:=Ok.sees h;clear h;simp only [sees,kBlk,cellsAt,Nat.reduceAdd] at F; go_simp;(try rw [if_neg (by simp; omega)]);try with_reducible rfl)
 try simp only [Act.put,wp1,wp2,wp3,wp4,wp5,wp6]
 refine wtg (i:=4) (v:=?a101) rfl ?b101 (by assumption) ?c101
 case b101 => (intro w h;have F:=Ok.sees h;clear h;simp only [sees,kBlk,cellsAt,Nat.reduceAdd] at F; go_simp;(try rw [if_neg (by simp; omega)]);try with_reducible rfl)
 try simp only [Act.put,wp1,wp2,wp3,wp4,wp5,wp6]
 refine wtg (i:=5) (v:=?a103) rfl ?b103 (by assumption) ?c103
 case b103 => (intro w h;have F:=Ok.sees h;clear h;simp only [sees,kBlk,cellsAt,Nat.reduceAdd] at F; go_simp;(try rw [if_neg (by simp; omega)]);try with_reducible rfl)
 try simp only [Act.put,wp1,wp2,wp3,wp4,wp5,wp6]
 refine wpAnyH_ready (rs:=[2]) (by kernel_rfl) (by simp) ?_
 refine AllReadyH.cons rfl (fun K hK => ?_) AllReadyH.nil
 go_simp
 refine (HW.out _).mono ?_
 rintro e w9 ⟨rfl,hb10⟩
 go_wp2_with fail
 refine hK.out _ _ (hHeld.below hb10) (fun hHeld => ?_)
 clear hK K
 try simp only [Act.put,wp1,wp2,wp3,wp4,wp5,wp6]
 refine wtg (i:=3) (v:=?a106) rfl ?b106 (by assumption) ?c106
 case b106 => (intro w h;have F:=Ok.sees h;clear h;simp only [sees,kBlk,cellsAt,Nat.reduceAdd] at F; go_simp;(try rw [if_neg (by simp; omega)]);try with_reducible rfl)
 try simp only [Act.put,wp1,wp2,wp3,wp4,wp5,wp6]
 refine wpAnyH_ready (rs:=[6]) (by kernel_rfl) (by simp) ?_
 refine AllReadyH.cons rfl (fun K hK => ?_) AllReadyH.nil
 go_simp
 refine (HU.out _).mono ?_
 rintro e w11 ⟨rfl,hb12⟩
 go_wp2_with fail
 refine hK.out _ _ (hHeld.below hb12) (fun hHeld => ?_)
 clear hK K
 try simp only [Act.put,wp1,wp2,wp3,wp4,wp5,wp6]
 refine wtg (i:=7) (v:=?a109) rfl ?b109 (by assumption) ?c109
 case b109 => (intro w h;have F:=Ok.sees h;clear h;simp only [sees,kBlk,cellsAt,Nat.reduceAdd] at F; go_simp;(try rw [if_neg (by simp; omega)]);try with_reducible rfl)
 try simp only [Act.put,wp1,wp2,wp3,wp4,wp5,wp6]
 refine wtg (i:=8) (v:=?a111) rfl ?b111 (by assumption) ?c111
 case b111 => (intro w h;have F:=Ok.sees h;clear h;simp only [sees,kBlk,cellsAt,Nat.reduceAdd] at F; go_simp;(try rw [if_neg (by simp; omega)]);try with_reducible rfl)
 try simp only [Act.put,wp1,wp2,wp3,wp4,wp5,wp6]
 refine wpAnyH_done (by kernel_rfl) ?_ _
 clear z0 q00 q01 q02 q03 q04 q05 q06 q07 q08 q09 q0a q0b q0c
 clear H6
 have H13:=Lib.hid hHeld
 clear hHeld
 have F14:=H13.out.sees
 simp only [sees,kBlk,cellsAt,Nat.reduceAdd] at F14
 obtain ⟨⟨z0,q00,q01,q02,q03,q04,q05,q06,q07,q08,q09,q0a,q0b,q0c,-⟩,-⟩:=F14
 obtain ⟨X1,hX1⟩ : ∃ X,((SW ++ ⟨#[32]⟩) ++ SU) = X:=⟨_,rfl⟩
 have hsX1 : X1.size ≤ 1000000:=by
  rw [← hX1]; simp; omega
 rw [hX1]
 have HX1:=keep hX1
 clear hX1
 go_wp2_with fail
 refine (r9_uses_7 _).mono ?_
 rintro e w15 ⟨rfl,hb16⟩
 clear z0 q00 q01 q02 q03 q04 q05 q06 q07 q08 q09 q0a q0b q0c
 have H17:=Lib.hid (H13.out.below hb16)
 clear hb16 H13
 have F18:=H17.out.sees
 simp only [sees,kBlk,cellsAt,Nat.reduceAdd] at F18
 obtain ⟨⟨z0,q00,q01,q02,q03,q04,q05,q06,q07,q08,q09,q0a,q0b,q0c,-⟩,-⟩:=F18
 go_wp2_with fail
 refine (HR.out _).mono ?_
 rintro e w19 ⟨rfl,hb20⟩
 clear z0 q00 q01 q02 q03 q04 q05 q06 q07 q08 q09 q0a q0b q0c
 have H21:=Lib.hid (H17.out.below hb20)
 clear hb20 H17
 have F22:=H21.out.sees
 simp only [sees,kBlk,cellsAt,Nat.reduceAdd] at F22
 obtain ⟨⟨z0,q00,q01,q02,q03,q04,q05,q06,q07,q08,q09,q0a,q0b,q0c,-⟩,-⟩:=F22
 go_upto_region 11 with fail
 obtain ⟨X2,hX2⟩ : ∃ X,((X1 ++ ⟨#[32]⟩) ++ SR) = X:=⟨_,rfl⟩
 have hsX2 : X2.size ≤ 2000000:=by
  rw [← hX2]; simp; omega
 rw [hX2]
 have HX2:=keep hX2
 clear hX2
 go_wp2_with fail
 refine (HG.out _).mono ?_
 rintro e w23 ⟨rfl,hb24⟩
 clear z0 q00 q01 q02 q03 q04 q05 q06 q07 q08 q09 q0a q0b q0c
 have H25:=Lib.hid (H21.out.below hb24)
 clear hb24 H21
 have F26:=H25.out.sees
 simp only [sees,kBlk,cellsAt,Nat.reduceAdd] at F26
 obtain ⟨⟨z0,q00,q01,q02,q03,q04,q05,q06,q07,q08,q09,q0a,q0b,q0c,-⟩,-⟩:=F26
 go_upto_region 99 with fail
 obtain ⟨X3,hX3⟩ : ∃ X,((X2 ++ ⟨#[32]⟩) ++ SG) = X:=⟨_,rfl⟩
 have hsX3 : X3.size ≤ 3000000:=by
  rw [← hX3]; simp; omega
 rw [hX3]
 have HX3:=keep hX3
 clear hX3
 try rw [Exit.noGoto_ret]
 exact bodyPost_ret (v:=.tuple #[.string X3,.int .i64 0]) (by simp [results,Tryz.results12,go_sem]) rfl ⟨by rw [← HX3.out,← HX2.out,← HX1.out],H25.out.bel⟩
set_option maxRecDepth 100000 in
set_option maxHeartbeats 4000000 in
theorem r9_fmt_8 (u x1 y1 x2 y2 : Int) (inp : List UInt8) (a b c f t : Nat) (n : Int) (SW SU SR SF ST : ByteArray) (hSW : SW.size ≤ 100000) (hSU : SU.size ≤ 100000) (hSR : SR.size ≤ 100000) (hSF : SF.size ≤ 100000) (hST : ST.size ≤ 100000)
  (HC : ∀ W,Calls Tryz.prog 14 #[.agg #[.int .u8 8,.int .i64 u,.int .i64 x1,.int .i64 y1,.int .i64 x2,.int .i64 y2,.string ⟨inp.toArray⟩,.int .u64 (a : Nat),.int .u64 (b : Nat),.int .u64 (c : Nat),.int .u8 (f : Nat),.int .u64 (t : Nat),.int .i64 n]] W fun e w' => e = .returned (.int .i64 0) ∧ Below W.heap.size W w')
  (HW : ∀ W,Calls Tryz.prog 29 #[.int .u8 8] W fun e w' => e = .returned (.string SW) ∧ Below W.heap.size W w')
  (HU : ∀ W,Calls Tryz.prog 30 #[.int .i64 u] W fun e w' => e = .returned (.string SU) ∧ Below W.heap.size W w')
  (HR : ∀ W,Calls Tryz.prog 31 #[.agg #[.int .i64 x1,.int .i64 y1,.int .i64 x2,.int .i64 y2]] W fun e w' => e = .returned (.string SR) ∧ Below W.heap.size W w')
  (HF : ∀ W,Calls Tryz.prog 30 #[.int .i64 (f : Nat)] W fun e w' => e = .returned (.string SF) ∧ Below W.heap.size W w')
  (HT : ∀ W,Calls Tryz.prog 34 #[.int .u64 (t : Nat)] W fun e w' => e = .returned (.string ST) ∧ Below W.heap.size W w') (hf : f < 256) (w : World) :
  Calls Tryz.prog 12 #[.agg #[.int .u8 8,.int .i64 u,.int .i64 x1,.int .i64 y1,.int .i64 x2,.int .i64 y2,.string ⟨inp.toArray⟩,.int .u64 (a : Nat),.int .u64 (b : Nat),.int .u64 (c : Nat),.int .u8 (f : Nat),.int .u64 (t : Nat),.int .i64 n]] w fun e w' => e = .returned (.tuple #[.string ((((((((SW ++ ⟨#[32]⟩) ++ SU) ++ ⟨#[32]⟩) ++ SR) ++ ⟨#[32]⟩) ++ SF) ++ ⟨#[32]⟩) ++ ST),.int .i64 0]) ∧ Below w.heap.size w w':=by
 have h32 : (⟨#[32]⟩ : ByteArray).size = 1:=rfl
 have HC:=keep HC
 have HW:=keep HW
 have HU:=keep HU
 have HR:=keep HR
 have HF:=keep HF
 have HT:=keep HT
 have hwf : IntKind.i64.wrap (f : Int) = (f : Int):=Go.IntWalk.i64_in _ (by omega)
 clear hf
 have H1:=Lib.hid ((Ok.start w).alloc w.heap.size 28 [.int .u8 8,.int .i64 u,.int .i64 x1,.int .i64 y1,.int .i64 x2,.int .i64 y2,.string ⟨inp.toArray⟩,.int .u64 (a : Nat),.int .u64 (b : Nat),.int .u64 (c : Nat),.int .u8 (f : Nat),.int .u64 (t : Nat),.int .i64 n] rfl)
 go_enter Tryz.func12,Tryz.ntmps12
 go_upto_region 1 with fail
 generalize (w.alloc (.cells #[.int .u8 8,.int .i64 u,.int .i64 x1,.int .i64 y1,.int .i64 x2,.int .i64 y2,.string ⟨inp.toArray⟩,.int .u64 (a : Nat),.int .u64 (b : Nat),.int .u64 (c : Nat),.int .u8 (f : Nat),.int .u64 (t : Nat),.int .i64 n] 28)) = W2 at H1 ⊢
 have F3:=H1.out.sees
 simp only [sees,kBlk,cellsAt,Nat.reduceAdd] at F3
 obtain ⟨⟨z0,q00,q01,q02,q03,q04,q05,q06,q07,q08,q09,q0a,q0b,q0c,-⟩,-⟩:=F3
 go_wp2_with fail
 refine (HC.out _).mono ?_
 rintro e w4 ⟨rfl,hb5⟩
 clear z0 q00 q01 q02 q03 q04 q05 q06 q07 q08 q09 q0a q0b q0c
 have H6:=Lib.hid (H1.out.below hb5)
 clear hb5 H1
 have F7:=H6.out.sees
 simp only [sees,kBlk,cellsAt,Nat.reduceAdd] at F7
 obtain ⟨⟨z0,q00,q01,q02,q03,q04,q05,q06,q07,q08,q09,q0a,q0b,q0c,-⟩,-⟩:=F7
 go_upto_region 3 with fail
 refine wp_region_held_drew (S:=fun W => Ok w [kBlk (w.heap.size) 28 [.int .u8 8,.int .i64 u,.int .i64 x1,.int .i64 y1,.int .i64 x2,.int .i64 y2,.string ⟨inp.toArray⟩,.int .u64 (a : Nat),.int .u64 (b : Nat),.int .u64 (c : Nat),.int .u8 (f : Nat),.int .u64 (t : Nat),.int .i64 n]] W) (by kernel_rfl) H6.out.drew (fun hHeld => ?_)
 refine wtg (i:=0) (v:=?a113) rfl ?b113 (by assumption) ?c113
 case b113 => (intro w h;have F:=Ok.sees h;clear h;simp only [sees,kBlk,cellsAt,Nat.reduceAdd] at F; go_simp;(try rw [if_neg (by simp; omega)]);try with_reducible rfl)
 try simp only [Act.put,wp1,wp2,wp3,wp4,wp6]
 refine wtg (i:=1) (v:=?a115) rfl ?b115 (by assumption) ?c115
 case b115 => (intro w h;have F:=Ok.sees h;clear h;simp only [sees,kBlk,cellsAt,Nat.reduceAdd] at F; go_simp;(try rw [if_neg (by simp; omega)]);try with_reducible rfl)
 try simp only [Act.put,wp1,wp2,wp3,wp4,wp5,wp6]
 refine wtg (i:=4) (v:=?a117) rfl ?b117 (by assumption) ?c117
 case b117 => (intro w h;have F:=Ok.sees h;clear h;simp only [sees,kBlk,cellsAt,Nat.reduceAdd] at F; go_simp;(try rw [if_neg (by simp; omega)]);try with_reducible rfl)
 try simp only [Act.put,wp1,wp2,wp3,wp4,wp5,wp6]
 refine wtg (i:=5) (v:=?a119) rfl ?b119 (by assumption) ?c119
 case b119 => (intro w h;have F:=Ok.sees h;clear h;simp only [sees,kBlk,cellsAt,Nat.reduceAdd] at F; go_simp;(try rw [if_neg (by simp; omega)]);try with_reducible rfl)
 try simp only [Act.put,wp1,wp2,wp3,wp4,wp5,wp6]
 refine wpAnyH_ready (rs:=[2]) (by kernel_rfl) (by simp) ?_
 refine AllReadyH.cons rfl (fun K hK => ?_) AllReadyH.nil
 go_simp
 refine (HW.out _).mono ?_
 rintro e w9 ⟨rfl,hb10⟩
 go_wp2_with fail
 refine hK.out _ _ (hHeld.below hb10) (fun hHeld => ?_)
 clear hK K
 try simp only [Act.put,wp1,wp2,wp3,wp4,wp5,wp6]
 refine wtg (i:=3) (v:=?a122) rfl ?b122 (by assumption) ?c122
 case b122 => (intro w h;have F:=Ok.sees h;clear h;simp only [sees,kBlk,cellsAt,Nat.reduceAdd] at F; go_simp;(try rw [if_neg (by simp; omega)]);try with_reducible rfl)
 try simp only [Act.put,wp1,wp2,wp3,wp4,wp5,wp6]
 refine wpAnyH_ready (rs:=[6]) (by kernel_rfl) (by simp) ?_
 refine AllReadyH.cons rfl (fun K hK => ?_) AllReadyH.nil
 go_simp
 refine (HU.out _).mono ?_
 rintro e w11 ⟨rfl,hb12⟩
 go_wp2_with fail
 refine hK.out _ _ (hHeld.below hb12) (fun hHeld => ?_)
 clear hK K
 try simp only [Act.put,wp1,wp2,wp3,wp4,wp5,wp6]
 refine wtg (i:=7) (v:=?a125) rfl ?b125 (by assumption) ?c125
 case b125 => (intro w h;have F:=Ok.sees h;clear h;simp only [sees,kBlk,cellsAt,Nat.reduceAdd] at F; go_simp;(try rw [if_neg (by simp; omega)]);try with_reducible rfl)
 try simp only [Act.put,wp1,wp2,wp3,wp4,wp5,wp6]
 refine wtg (i:=8) (v:=?a127) rfl ?b127 (by assumption) ?c127
 case b127 => (intro w h;have F:=Ok.sees h;clear h;simp only [sees,kBlk,cellsAt,Nat.reduceAdd] at F; go_simp;(try rw [if_neg (by simp; omega)]);try with_reducible rfl)
 try simp only [Act.put,wp1,wp2,wp3,wp4,wp5,wp6]
 refine wpAnyH_done (by kernel_rfl) ?_ _
 clear z0 q00 q01 q02 q03 q04 q05 q06 q07 q08 q09 q0a q0b q0c
 clear H6
 have H13:=Lib.hid hHeld
 clear hHeld
 have F14:=H13.out.sees
 simp only [sees,kBlk,cellsAt,Nat.reduceAdd] at F14
 obtain ⟨⟨z0,q00,q01,q02,q03,q04,q05,q06,q07,q08,q09,q0a,q0b,q0c,-⟩,-⟩:=F14
 obtain ⟨X1,hX1⟩ : ∃ X,((SW ++ ⟨#[32]⟩) ++ SU) = X:=⟨_,rfl⟩
 have hsX1 : X1.size ≤ 1000000:=by
  rw [← hX1]; simp; omega
 rw [hX1]
 have HX1:=keep hX1
 clear hX1
 go_wp2_with fail
 refine (r9_uses_8 _).mono ?_
 rintro e w15 ⟨rfl,hb16⟩
 clear z0 q00 q01 q02 q03 q04 q05 q06 q07 q08 q09 q0a q0b q0c
 have H17:=Lib.hid (H13.out.below hb16)
 clear hb16 H13
 have F18:=H17.out.sees
 simp only [sees,kBlk,cellsAt,Nat.reduceAdd] at F18
 obtain ⟨⟨z0,q00,q01,q02,q03,q04,q05,q06,q07,q08,q09,q0a,q0b,q0c,-⟩,-⟩:=F18
 go_wp2_with fail
 refine (HR.out _).mono ?_
 rintro e w19 ⟨rfl,hb20⟩
 clear z0 q00 q01 q02 q03 q04 q05 q06 q07 q08 q09 q0a q0b q0c
 have H21:=Lib.hid (H17.out.below hb20)
 clear hb20 H17
 have F22:=H21.out.sees
 simp only [sees,kBlk,cellsAt,Nat.reduceAdd] at F22
 obtain ⟨⟨z0,q00,q01,q02,q03,q04,q05,q06,q07,q08,q09,q0a,q0b,q0c,-⟩,-⟩:=F22
 go_upto_region 13 with fail
 obtain ⟨X2,hX2⟩ : ∃ X,((X1 ++ ⟨#[32]⟩) ++ SR) = X:=⟨_,rfl⟩
 have hsX2 : X2.size ≤ 2000000:=by
  rw [← hX2]; simp; omega
 rw [hX2]
 have HX2:=keep hX2
 clear hX2
 refine wp_region_held_drew (S:=fun W => Ok w [kBlk (w.heap.size) 28 [.int .u8 8,.int .i64 u,.int .i64 x1,.int .i64 y1,.int .i64 x2,.int .i64 y2,.string ⟨inp.toArray⟩,.int .u64 (a : Nat),.int .u64 (b : Nat),.int .u64 (c : Nat),.int .u8 (f : Nat),.int .u64 (t : Nat),.int .i64 n]] W) (by kernel_rfl) H21.out.drew (fun hHeld => ?_)
 refine wtg (i:=0) (v:=?a129) rfl ?b129 (by assumption) ?c129
 case b129 => (intro w h;have F:=Ok.sees h;clear h;simp only [sees,kBlk,cellsAt,Nat.reduceAdd] at F; go_simp;(try rw [if_neg (by simp; omega)]);try with_reducible rfl)
 try simp only [Act.put,wp1,wp2,wp3,wp4,wp6]
 refine wtg (i:=1) (v:=?a131) rfl ?b131 (by assumption) ?c131
 case b131 => (intro w h;have F:=Ok.sees h;clear h;simp only [sees,kBlk,cellsAt,Nat.reduceAdd] at F; go_simp;(try rw [if_neg (by simp; omega)]);try with_reducible rfl)
 try simp only [Act.put,wp1,wp2,wp3,wp4,wp5,wp6]
 refine wtg (i:=2) (v:=?a133) rfl ?b133 (by assumption) ?c133
 case b133 => (intro w h;have F:=Ok.sees h;clear h;simp only [sees,kBlk,cellsAt,Nat.reduceAdd] at F; go_simp;(try rw [if_neg (by simp; omega)]);try with_reducible rfl)
 try simp only [Act.put,wp1,wp2,wp3,wp4,wp5,wp6]
 refine wtg (i:=3) (v:=?a135) rfl ?b135 (by assumption) ?c135
 case b135 => (intro w h;have F:=Ok.sees h;clear h;simp only [sees,kBlk,cellsAt,Nat.reduceAdd] at F; go_simp;(try rw [if_neg (by simp; omega)]);try with_reducible rfl)
 try simp only [Act.put,wp1,wp2,wp3,wp4,wp5,wp6]
 refine wtg (i:=4) (v:=?a137) rfl ?b137 (by assumption) ?c137
 case b137 => (intro w h;have F:=Ok.sees h;clear h;simp only [sees,kBlk,cellsAt,Nat.reduceAdd] at F; go_simp;(try rw [if_neg (by simp; omega)]);try with_reducible rfl)
 try simp only [Act.put,wp1,wp2,wp3,wp4,wp5,wp6]
 refine wtg (i:=8) (v:=?a139) rfl ?b139 (by assumption) ?c139
 case b139 => (intro w h;have F:=Ok.sees h;clear h;simp only [sees,kBlk,cellsAt,Nat.reduceAdd] at F; go_simp;(try rw [if_neg (by simp; omega)]);try with_reducible rfl)
 try simp only [Act.put,wp1,wp2,wp3,wp4,wp5,wp6]
 refine wtg (i:=9) (v:=?a141) rfl ?b141 (by assumption) ?c141
 case b141 => (intro w h;have F:=Ok.sees h;clear h;simp only [sees,kBlk,cellsAt,Nat.reduceAdd] at F; go_simp;(try rw [if_neg (by simp; omega)]);try with_reducible rfl)
 try simp only [Act.put,wp1,wp2,wp3,wp4,wp5,wp6]
 refine wpAnyH_ready (rs:=[5]) (by kernel_rfl) (by simp) ?_
 refine AllReadyH.cons rfl (fun K hK => ?_) AllReadyH.nil
 go_simp
 refine (HF.out _).mono ?_
 rintro e w24 ⟨rfl,hb25⟩
 go_wp2_with fail
 refine hK.out _ _ (hHeld.below hb25) (fun hHeld => ?_)
 clear hK K
 try simp only [Act.put,wp1,wp2,wp3,wp4,wp5,wp6]
 refine wtg (i:=6) (v:=?a144) rfl ?b144 (by assumption) ?c144
 case b144 => (intro w h;have F:=Ok.sees h;clear h;simp only [sees,kBlk,cellsAt,Nat.reduceAdd] at F; go_simp;(try rw [if_neg (by simp; omega)]);try with_reducible rfl)
 try simp only [Act.put,wp1,wp2,wp3,wp4,wp5,wp6]
 refine wtg (i:=7) (v:=?a146) rfl ?b146 (by assumption) ?c146
 case b146 => (intro w h;have F:=Ok.sees h;clear h;simp only [sees,kBlk,cellsAt,Nat.reduceAdd] at F; go_simp;(try rw [if_neg (by simp; omega)]);try with_reducible rfl)
 try simp only [Act.put,wp1,wp2,wp3,wp4,wp5,wp6]
 refine wpAnyH_ready (rs:=[10]) (by kernel_rfl) (by simp) ?_
 refine AllReadyH.cons rfl (fun K hK => ?_) AllReadyH.nil
 go_simp
 refine (HT.out _).mono ?_
 rintro e w26 ⟨rfl,hb27⟩
 go_wp2_with fail
 refine hK.out _ _ (hHeld.below hb27) (fun hHeld => ?_)
 clear hK K
 try simp only [Act.put,wp1,wp2,wp3,wp4,wp5,wp6]
 refine wtg (i:=11) (v:=?a149) rfl ?b149 (by assumption) ?c149
 case b149 => (intro w h;have F:=Ok.sees h;clear h;simp only [sees,kBlk,cellsAt,Nat.reduceAdd] at F; go_simp;(try rw [if_neg (by simp; omega)]);try with_reducible rfl)
 try simp only [Act.put,wp1,wp2,wp3,wp4,wp5,wp6]
 refine wtg (i:=12) (v:=?a151) rfl ?b151 (by assumption) ?c151
 case b151 => (intro w h;have F:=Ok.sees h;clear h;simp only [sees,kBlk,cellsAt,Nat.reduceAdd] at F; go_simp;(try rw [if_neg (by simp; omega)]);try with_reducible rfl)
 try simp only [Act.put,wp1,wp2,wp3,wp4,wp5,wp6]
 refine wpAnyH_done (by kernel_rfl) ?_ _
 clear z0 q00 q01 q02 q03 q04 q05 q06 q07 q08 q09 q0a q0b q0c
 clear H21
 have H28:=Lib.hid hHeld
 clear hHeld
 go_upto_region 99 with fail
 obtain ⟨X3,hX3⟩ : ∃ X,((((X2 ++ ⟨#[32]⟩) ++ SF) ++ ⟨#[32]⟩) ++ ST) = X:=⟨_,rfl⟩
 have hsX3 : X3.size ≤ 3000000:=by
  rw [← hX3]; simp; omega
 rw [hX3]
 have HX3:=keep hX3
 clear hX3
 try rw [Exit.noGoto_ret]
 exact bodyPost_ret (v:=.tuple #[.string X3,.int .i64 0]) (by simp [results,Tryz.results12,go_sem]) rfl ⟨by rw [← HX3.out,← HX2.out,← HX1.out],H28.out.bel⟩
set_option maxRecDepth 100000 in
set_option maxHeartbeats 4000000 in
theorem r9_fmt_9 (u x1 y1 x2 y2 : Int) (inp : List UInt8) (a b c f t : Nat) (n : Int) (SW SU SI : ByteArray) (hSW : SW.size ≤ 100000) (hSU : SU.size ≤ 100000) (hSI : SI.size ≤ 100000)
  (HC : ∀ W,Calls Tryz.prog 14 #[.agg #[.int .u8 9,.int .i64 u,.int .i64 x1,.int .i64 y1,.int .i64 x2,.int .i64 y2,.string ⟨inp.toArray⟩,.int .u64 (a : Nat),.int .u64 (b : Nat),.int .u64 (c : Nat),.int .u8 (f : Nat),.int .u64 (t : Nat),.int .i64 n]] W fun e w' => e = .returned (.int .i64 0) ∧ Below W.heap.size W w')
  (HW : ∀ W,Calls Tryz.prog 29 #[.int .u8 9] W fun e w' => e = .returned (.string SW) ∧ Below W.heap.size W w')
  (HU : ∀ W,Calls Tryz.prog 30 #[.int .i64 u] W fun e w' => e = .returned (.string SU) ∧ Below W.heap.size W w')
  (HI : ∀ W,Calls Tryz.prog 30 #[.int .i64 n] W fun e w' => e = .returned (.string SI) ∧ Below W.heap.size W w') (w : World) :
  Calls Tryz.prog 12 #[.agg #[.int .u8 9,.int .i64 u,.int .i64 x1,.int .i64 y1,.int .i64 x2,.int .i64 y2,.string ⟨inp.toArray⟩,.int .u64 (a : Nat),.int .u64 (b : Nat),.int .u64 (c : Nat),.int .u8 (f : Nat),.int .u64 (t : Nat),.int .i64 n]] w fun e w' => e = .returned (.tuple #[.string ((((SW ++ ⟨#[32]⟩) ++ SU) ++ ⟨#[32]⟩) ++ SI),.int .i64 0]) ∧ Below w.heap.size w w':=by
 have h32 : (⟨#[32]⟩ : ByteArray).size = 1:=rfl
 have HC:=keep HC
 have HW:=keep HW
 have HU:=keep HU
 have HI:=keep HI
 have H1:=Lib.hid ((Ok.start w).alloc w.heap.size 28 [.int .u8 9,.int .i64 u,.int .i64 x1,.int .i64 y1,.int .i64 x2,.int .i64 y2,.string ⟨inp.toArray⟩,.int .u64 (a : Nat),.int .u64 (b : Nat),.int .u64 (c : Nat),.int .u8 (f : Nat),.int .u64 (t : Nat),.int .i64 n] rfl)
 go_enter Tryz.func12,Tryz.ntmps12
 go_upto_region 1 with fail
 generalize (w.alloc (.cells #[.int .u8 9,.int .i64 u,.int .i64 x1,.int .i64 y1,.int .i64 x2,.int .i64 y2,.string ⟨inp.toArray⟩,.int .u64 (a : Nat),.int .u64 (b : Nat),.int .u64 (c : Nat),.int .u8 (f : Nat),.int .u64 (t : Nat),.int .i64 n] 28)) = W2 at H1 ⊢
 have F3:=H1.out.sees
 simp only [sees,kBlk,cellsAt,Nat.reduceAdd] at F3
 obtain ⟨⟨z0,q00,q01,q02,q03,q04,q05,q06,q07,q08,q09,q0a,q0b,q0c,-⟩,-⟩:=F3
 go_wp2_with fail
 refine (HC.out _).mono ?_
 rintro e w4 ⟨rfl,hb5⟩
 clear z0 q00 q01 q02 q03 q04 q05 q06 q07 q08 q09 q0a q0b q0c
 have H6:=Lib.hid (H1.out.below hb5)
 clear hb5 H1
 have F7:=H6.out.sees
 simp only [sees,kBlk,cellsAt,Nat.reduceAdd] at F7
 obtain ⟨⟨z0,q00,q01,q02,q03,q04,q05,q06,q07,q08,q09,q0a,q0b,q0c,-⟩,-⟩:=F7
 go_upto_region 3 with fail
 refine wp_region_held_drew (S:=fun W => Ok w [kBlk (w.heap.size) 28 [.int .u8 9,.int .i64 u,.int .i64 x1,.int .i64 y1,.int .i64 x2,.int .i64 y2,.string ⟨inp.toArray⟩,.int .u64 (a : Nat),.int .u64 (b : Nat),.int .u64 (c : Nat),.int .u8 (f : Nat),.int .u64 (t : Nat),.int .i64 n]] W) (by kernel_rfl) H6.out.drew (fun hHeld => ?_)
 refine wtg (i:=0) (v:=?a153) rfl ?b153 (by assumption) ?c153
 case b153 => (intro w h;have F:=Ok.sees h;clear h;simp only [sees,kBlk,cellsAt,Nat.reduceAdd] at F; go_simp;(try rw [if_neg (by simp; omega)]);try with_reducible rfl)
 try simp only [Act.put,wp1,wp2,wp3,wp4,wp6]
 refine wtg (i:=1) (v:=?a155) rfl ?b155 (by assumption) ?c155
 case b155 => (intro w h;have F:=Ok.sees h;clear h;simp only [sees,kBlk,cellsAt,Nat.reduceAdd] at F; go_simp;(try rw [if_neg (by simp; omega)]);try with_reducible rfl)
 try simp only [Act.put,wp1,wp2,wp3,wp4,wp5,wp6]
 refine wtg (i:=4) (v:=?a157) rfl ?b157 (by assumption) ?c157
 case b157 => (intro w h;have F:=Ok.sees h;clear h;simp only [sees,kBlk,cellsAt,Nat.reduceAdd] at F; go_simp;(try rw [if_neg (by simp; omega)]);try with_reducible rfl)
 try simp only [Act.put,wp1,wp2,wp3,wp4,wp5,wp6]
 refine wtg (i:=5) (v:=?a159) rfl ?b159 (by assumption) ?c159
 case b159 => (intro w h;have F:=Ok.sees h;clear h;simp only [sees,kBlk,cellsAt,Nat.reduceAdd] at F; go_simp;(try rw [if_neg (by simp; omega)]);try with_reducible rfl)
 try simp only [Act.put,wp1,wp2,wp3,wp4,wp5,wp6]
 refine wpAnyH_ready (rs:=[2]) (by kernel_rfl) (by simp) ?_
 refine AllReadyH.cons rfl (fun K hK => ?_) AllReadyH.nil
 go_simp
 refine (HW.out _).mono ?_
 rintro e w9 ⟨rfl,hb10⟩
 go_wp2_with fail
 refine hK.out _ _ (hHeld.below hb10) (fun hHeld => ?_)
 clear hK K
 try simp only [Act.put,wp1,wp2,wp3,wp4,wp5,wp6]
 refine wtg (i:=3) (v:=?a162) rfl ?b162 (by assumption) ?c162
 case b162 => (intro w h;have F:=Ok.sees h;clear h;simp only [sees,kBlk,cellsAt,Nat.reduceAdd] at F; go_simp;(try rw [if_neg (by simp; omega)]);try with_reducible rfl)
 try simp only [Act.put,wp1,wp2,wp3,wp4,wp5,wp6]
 refine wpAnyH_ready (rs:=[6]) (by kernel_rfl) (by simp) ?_
 refine AllReadyH.cons rfl (fun K hK => ?_) AllReadyH.nil
 go_simp
 refine (HU.out _).mono ?_
 rintro e w11 ⟨rfl,hb12⟩
 go_wp2_with fail
 refine hK.out _ _ (hHeld.below hb12) (fun hHeld => ?_)
 clear hK K
 try simp only [Act.put,wp1,wp2,wp3,wp4,wp5,wp6]
 refine wtg (i:=7) (v:=?a165) rfl ?b165 (by assumption) ?c165
 case b165 => (intro w h;have F:=Ok.sees h;clear h;simp only [sees,kBlk,cellsAt,Nat.reduceAdd] at F; go_simp;(try rw [if_neg (by simp; omega)]);try with_reducible rfl)
 try simp only [Act.put,wp1,wp2,wp3,wp4,wp5,wp6]
 refine wtg (i:=8) (v:=?a167) rfl ?b167 (by assumption) ?c167
 case b167 => (intro w h;have F:=Ok.sees h;clear h;simp only [sees,kBlk,cellsAt,Nat.reduceAdd] at F; go_simp;(try rw [if_neg (by simp; omega)]);try with_reducible rfl)
 try simp only [Act.put,wp1,wp2,wp3,wp4,wp5,wp6]
 refine wpAnyH_done (by kernel_rfl) ?_ _
 clear z0 q00 q01 q02 q03 q04 q05 q06 q07 q08 q09 q0a q0b q0c
 clear H6
 have H13:=Lib.hid hHeld
 clear hHeld
 have F14:=H13.out.sees
 simp only [sees,kBlk,cellsAt,Nat.reduceAdd] at F14
 obtain ⟨⟨z0,q00,q01,q02,q03,q04,q05,q06,q07,q08,q09,q0a,q0b,q0c,-⟩,-⟩:=F14
 obtain ⟨X1,hX1⟩ : ∃ X,((SW ++ ⟨#[32]⟩) ++ SU) = X:=⟨_,rfl⟩
 have hsX1 : X1.size ≤ 1000000:=by
  rw [← hX1]; simp; omega
 rw [hX1]
 have HX1:=keep hX1
 clear hX1
 go_wp2_with fail
 refine (r9_uses_9 _).mono ?_
 rintro e w15 ⟨rfl,hb16⟩
 clear z0 q00 q01 q02 q03 q04 q05 q06 q07 q08 q09 q0a q0b q0c
 have H17:=Lib.hid (H13.out.below hb16)
 clear hb16 H13
 have F18:=H17.out.sees
 simp only [sees,kBlk,cellsAt,Nat.reduceAdd] at F18
 obtain ⟨⟨z0,q00,q01,q02,q03,q04,q05,q06,q07,q08,q09,q0a,q0b,q0c,-⟩,-⟩:=F18
 go_wp2_with fail
 refine (HI.out _).mono ?_
 rintro e w19 ⟨rfl,hb20⟩
 clear z0 q00 q01 q02 q03 q04 q05 q06 q07 q08 q09 q0a q0b q0c
 have H21:=Lib.hid (H17.out.below hb20)
 clear hb20 H17
 have F22:=H21.out.sees
 simp only [sees,kBlk,cellsAt,Nat.reduceAdd] at F22
 obtain ⟨⟨z0,q00,q01,q02,q03,q04,q05,q06,q07,q08,q09,q0a,q0b,q0c,-⟩,-⟩:=F22
 go_upto_region 99 with fail
 obtain ⟨X2,hX2⟩ : ∃ X,((X1 ++ ⟨#[32]⟩) ++ SI) = X:=⟨_,rfl⟩
 have hsX2 : X2.size ≤ 2000000:=by
  rw [← hX2]; simp; omega
 rw [hX2]
 have HX2:=keep hX2
 clear hX2
 try rw [Exit.noGoto_ret]
 exact bodyPost_ret (v:=.tuple #[.string X2,.int .i64 0]) (by simp [results,Tryz.results12,go_sem]) rfl ⟨by rw [← HX2.out,← HX1.out],H21.out.bel⟩
set_option maxRecDepth 100000 in
set_option maxHeartbeats 4000000 in
theorem r9_fmt_10 (u x1 y1 x2 y2 : Int) (inp : List UInt8) (a b c f t : Nat) (n : Int) (SW SU : ByteArray) (hSW : SW.size ≤ 100000) (hSU : SU.size ≤ 100000)
  (HC : ∀ W,Calls Tryz.prog 14 #[.agg #[.int .u8 10,.int .i64 u,.int .i64 x1,.int .i64 y1,.int .i64 x2,.int .i64 y2,.string ⟨inp.toArray⟩,.int .u64 (a : Nat),.int .u64 (b : Nat),.int .u64 (c : Nat),.int .u8 (f : Nat),.int .u64 (t : Nat),.int .i64 n]] W fun e w' => e = .returned (.int .i64 0) ∧ Below W.heap.size W w')
  (HW : ∀ W,Calls Tryz.prog 29 #[.int .u8 10] W fun e w' => e = .returned (.string SW) ∧ Below W.heap.size W w')
  (HU : ∀ W,Calls Tryz.prog 30 #[.int .i64 u] W fun e w' => e = .returned (.string SU) ∧ Below W.heap.size W w') (w : World) :
  Calls Tryz.prog 12 #[.agg #[.int .u8 10,.int .i64 u,.int .i64 x1,.int .i64 y1,.int .i64 x2,.int .i64 y2,.string ⟨inp.toArray⟩,.int .u64 (a : Nat),.int .u64 (b : Nat),.int .u64 (c : Nat),.int .u8 (f : Nat),.int .u64 (t : Nat),.int .i64 n]] w fun e w' => e = .returned (.tuple #[.string ((SW ++ ⟨#[32]⟩) ++ SU),.int .i64 0]) ∧ Below w.heap.size w w':=by
 have h32 : (⟨#[32]⟩ : ByteArray).size = 1:=rfl
 have HC:=keep HC
 have HW:=keep HW
 have HU:=keep HU
 have H1:=Lib.hid ((Ok.start w).alloc w.heap.size 28 [.int .u8 10,.int .i64 u,.int .i64 x1,.int .i64 y1,.int .i64 x2,.int .i64 y2,.string ⟨inp.toArray⟩,.int .u64 (a : Nat),.int .u64 (b : Nat),.int .u64 (c : Nat),.int .u8 (f : Nat),.int .u64 (t : Nat),.int .i64 n] rfl)
 go_enter Tryz.func12,Tryz.ntmps12
 go_upto_region 1 with fail
 generalize (w.alloc (.cells #[.int .u8 10,.int .i64 u,.int .i64 x1,.int .i64 y1,.int .i64 x2,.int .i64 y2,.string ⟨inp.toArray⟩,.int .u64 (a : Nat),.int .u64 (b : Nat),.int .u64 (c : Nat),.int .u8 (f : Nat),.int .u64 (t : Nat),.int .i64 n] 28)) = W2 at H1 ⊢
 have F3:=H1.out.sees
 simp only [sees,kBlk,cellsAt,Nat.reduceAdd] at F3
 obtain ⟨⟨z0,q00,q01,q02,q03,q04,q05,q06,q07,q08,q09,q0a,q0b,q0c,-⟩,-⟩:=F3
 go_wp2_with fail
 refine (HC.out _).mono ?_
 rintro e w4 ⟨rfl,hb5⟩
 clear z0 q00 q01 q02 q03 q04 q05 q06 q07 q08 q09 q0a q0b q0c
 have H6:=Lib.hid (H1.out.below hb5)
 clear hb5 H1
 have F7:=H6.out.sees
 simp only [sees,kBlk,cellsAt,Nat.reduceAdd] at F7
 obtain ⟨⟨z0,q00,q01,q02,q03,q04,q05,q06,q07,q08,q09,q0a,q0b,q0c,-⟩,-⟩:=F7
 go_upto_region 3 with fail
 refine wp_region_held_drew (S:=fun W => Ok w [kBlk (w.heap.size) 28 [.int .u8 10,.int .i64 u,.int .i64 x1,.int .i64 y1,.int .i64 x2,.int .i64 y2,.string ⟨inp.toArray⟩,.int .u64 (a : Nat),.int .u64 (b : Nat),.int .u64 (c : Nat),.int .u8 (f : Nat),.int .u64 (t : Nat),.int .i64 n]] W) (by kernel_rfl) H6.out.drew (fun hHeld => ?_)
 refine wtg (i:=0) (v:=?a169) rfl ?b169 (by assumption) ?c169
 case b169 => (intro w h;have F:=Ok.sees h;clear h;simp only [sees,kBlk,cellsAt,Nat.reduceAdd] at F; go_simp;(try rw [if_neg (by simp; omega)]);try with_reducible rfl)
 try simp only [Act.put,wp1,wp2,wp3,wp4,wp6]
 refine wtg (i:=1) (v:=?a171) rfl ?b171 (by assumption) ?c171
 case b171 => (intro w h;have F:=Ok.sees h;clear h;simp only [sees,kBlk,cellsAt,Nat.reduceAdd] at F; go_simp;(try rw [if_neg (by simp; omega)]);try with_reducible rfl)
 try simp only [Act.put,wp1,wp2,wp3,wp4,wp5,wp6]
 refine wtg (i:=4) (v:=?a173) rfl ?b173 (by assumption) ?c173
 case b173 => (intro w h;have F:=Ok.sees h;clear h;simp only [sees,kBlk,cellsAt,Nat.reduceAdd] at F; go_simp;(try rw [if_neg (by simp; omega)]);try with_reducible rfl)
 try simp only [Act.put,wp1,wp2,wp3,wp4,wp5,wp6]
 refine wtg (i:=5) (v:=?a175) rfl ?b175 (by assumption) ?c175
 case b175 => (intro w h;have F:=Ok.sees h;clear h;simp only [sees,kBlk,cellsAt,Nat.reduceAdd] at F; go_simp;(try rw [if_neg (by simp; omega)]);try with_reducible rfl)
 try simp only [Act.put,wp1,wp2,wp3,wp4,wp5,wp6]
 refine wpAnyH_ready (rs:=[2]) (by kernel_rfl) (by simp) ?_
 refine AllReadyH.cons rfl (fun K hK => ?_) AllReadyH.nil
 go_simp
 refine (HW.out _).mono ?_
 rintro e w9 ⟨rfl,hb10⟩
 go_wp2_with fail
 refine hK.out _ _ (hHeld.below hb10) (fun hHeld => ?_)
 clear hK K
 try simp only [Act.put,wp1,wp2,wp3,wp4,wp5,wp6]
 refine wtg (i:=3) (v:=?a178) rfl ?b178 (by assumption) ?c178
 case b178 => (intro w h;have F:=Ok.sees h;clear h;simp only [sees,kBlk,cellsAt,Nat.reduceAdd] at F; go_simp;(try rw [if_neg (by simp; omega)]);try with_reducible rfl)
 try simp only [Act.put,wp1,wp2,wp3,wp4,wp5,wp6]
 refine wpAnyH_ready (rs:=[6]) (by kernel_rfl) (by simp) ?_
 refine AllReadyH.cons rfl (fun K hK => ?_) AllReadyH.nil
 go_simp
 refine (HU.out _).mono ?_
 rintro e w11 ⟨rfl,hb12⟩
 go_wp2_with fail
 refine hK.out _ _ (hHeld.below hb12) (fun hHeld => ?_)
 clear hK K
 try simp only [Act.put,wp1,wp2,wp3,wp4,wp5,wp6]
 refine wtg (i:=7) (v:=?a181) rfl ?b181 (by assumption) ?c181
 case b181 => (intro w h;have F:=Ok.sees h;clear h;simp only [sees,kBlk,cellsAt,Nat.reduceAdd] at F; go_simp;(try rw [if_neg (by simp; omega)]);try with_reducible rfl)
 try simp only [Act.put,wp1,wp2,wp3,wp4,wp5,wp6]
 refine wtg (i:=8) (v:=?a183) rfl ?b183 (by assumption) ?c183
 case b183 => (intro w h;have F:=Ok.sees h;clear h;simp only [sees,kBlk,cellsAt,Nat.reduceAdd] at F; go_simp;(try rw [if_neg (by simp; omega)]);try with_reducible rfl)
 try simp only [Act.put,wp1,wp2,wp3,wp4,wp5,wp6]
 refine wpAnyH_done (by kernel_rfl) ?_ _
 clear z0 q00 q01 q02 q03 q04 q05 q06 q07 q08 q09 q0a q0b q0c
 clear H6
 have H13:=Lib.hid hHeld
 clear hHeld
 have F14:=H13.out.sees
 simp only [sees,kBlk,cellsAt,Nat.reduceAdd] at F14
 obtain ⟨⟨z0,q00,q01,q02,q03,q04,q05,q06,q07,q08,q09,q0a,q0b,q0c,-⟩,-⟩:=F14
 obtain ⟨X1,hX1⟩ : ∃ X,((SW ++ ⟨#[32]⟩) ++ SU) = X:=⟨_,rfl⟩
 have hsX1 : X1.size ≤ 1000000:=by
  rw [← hX1]; simp; omega
 rw [hX1]
 have HX1:=keep hX1
 clear hX1
 go_wp2_with fail
 refine (r9_uses_10 _).mono ?_
 rintro e w15 ⟨rfl,hb16⟩
 clear z0 q00 q01 q02 q03 q04 q05 q06 q07 q08 q09 q0a q0b q0c
 have H17:=Lib.hid (H13.out.below hb16)
 clear hb16 H13
 have F18:=H17.out.sees
 simp only [sees,kBlk,cellsAt,Nat.reduceAdd] at F18
 obtain ⟨⟨z0,q00,q01,q02,q03,q04,q05,q06,q07,q08,q09,q0a,q0b,q0c,-⟩,-⟩:=F18
 go_upto_region 99 with fail
 try rw [Exit.noGoto_ret]
 exact bodyPost_ret (v:=.tuple #[.string X1,.int .i64 0]) (by simp [results,Tryz.results12,go_sem]) rfl ⟨by rw [← HX1.out],H17.out.bel⟩
end Go.Proofs.YtjbimcdofenmdaaGreatDoor
