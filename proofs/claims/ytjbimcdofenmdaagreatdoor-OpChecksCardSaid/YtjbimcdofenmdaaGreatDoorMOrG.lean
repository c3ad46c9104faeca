/- The walk of the law OpChecks. -/
import Derived.Test.YtjbimcdofenmdaaGreatDoorMOrF
import Derived.Test.YtjbimcdofenmdaaGreatDoorMOk
import Derived.Test.YtjbimcdofenmdaaGreatDoorMOpN
namespace Go.Proofs.YtjbimcdofenmdaaGreatDoor
open Go.RowKit

set_option maxRecDepth 100000 in
set_option maxHeartbeats 4000000 in
theorem checks_core (k : Nat) (u x1 y1 x2 y2 : Int) (inp : List UInt8) (a b c f t : Nat) (n : Int) (pu px1 py1 px2 py2 : Int) (pinp : List UInt8) (pk pa pb pc pf pt : Nat) (pn : Int) (q1 q2 q3 q4 : Int) (q : Bool) (S : ByteArray) (se sc : Int) (sm : Bool) (hi : inp.length ≤ 2000)
  (HT10 : ∀ w : World,Calls Tryz.prog 9 #[.agg #[.int .u8 (k : Nat),.int .i64 u,.int .i64 x1,.int .i64 y1,.int .i64 x2,.int .i64 y2,.string ⟨inp.toArray⟩,.int .u64 (a : Nat),.int .u64 (b : Nat),.int .u64 (c : Nat),.int .u8 (f : Nat),.int .u64 (t : Nat),.int .i64 n]] w fun e w' => e = .returned (.tuple #[.agg #[.int .i64 q1,.int .i64 q2,.int .i64 q3,.int .i64 q4],.bool q]) ∧ Below w.heap.size w w')
  (HT20 : ∀ w : World,Calls Tryz.prog 10 #[.agg #[.int .u8 (k : Nat),.int .i64 u,.int .i64 x1,.int .i64 y1,.int .i64 x2,.int .i64 y2,.string ⟨inp.toArray⟩,.int .u64 (a : Nat),.int .u64 (b : Nat),.int .u64 (c : Nat),.int .u8 (f : Nat),.int .u64 (t : Nat),.int .i64 n]] w fun e w' => e = .returned (.tuple #[.agg #[.int .i64 q1,.int .i64 q2,.int .i64 q3,.int .i64 q4],.bool q]) ∧ Below w.heap.size w w')
  (HF10 : ∀ w : World,Env6 w → Calls Tryz.prog 11 #[.agg #[.int .u8 (k : Nat),.int .i64 u,.int .i64 x1,.int .i64 y1,.int .i64 x2,.int .i64 y2,.string ⟨inp.toArray⟩,.int .u64 (a : Nat),.int .u64 (b : Nat),.int .u64 (c : Nat),.int .u8 (f : Nat),.int .u64 (t : Nat),.int .i64 n]] w fun e w' => e = .returned (.tuple #[.string S,.int .i64 se]) ∧ Below w.heap.size w w')
  (HF20 : ∀ w : World,Calls Tryz.prog 12 #[.agg #[.int .u8 (k : Nat),.int .i64 u,.int .i64 x1,.int .i64 y1,.int .i64 x2,.int .i64 y2,.string ⟨inp.toArray⟩,.int .u64 (a : Nat),.int .u64 (b : Nat),.int .u64 (c : Nat),.int .u8 (f : Nat),.int .u64 (t : Nat),.int .i64 n]] w fun e w' => e = .returned (.tuple #[.string S,.int .i64 se]) ∧ Below w.heap.size w w')
  (HC10 : ∀ w : World,Calls Tryz.prog 13 #[.agg #[.int .u8 (k : Nat),.int .i64 u,.int .i64 x1,.int .i64 y1,.int .i64 x2,.int .i64 y2,.string ⟨inp.toArray⟩,.int .u64 (a : Nat),.int .u64 (b : Nat),.int .u64 (c : Nat),.int .u8 (f : Nat),.int .u64 (t : Nat),.int .i64 n]] w fun e w' => e = .returned (.int .i64 sc) ∧ Below w.heap.size w w')
  (HC20 : ∀ w : World,Calls Tryz.prog 14 #[.agg #[.int .u8 (k : Nat),.int .i64 u,.int .i64 x1,.int .i64 y1,.int .i64 x2,.int .i64 y2,.string ⟨inp.toArray⟩,.int .u64 (a : Nat),.int .u64 (b : Nat),.int .u64 (c : Nat),.int .u8 (f : Nat),.int .u64 (t : Nat),.int .i64 n]] w fun e w' => e = .returned (.int .i64 sc) ∧ Below w.heap.size w w')
  (HM10 : ∀ w : World,Calls Tryz.prog 15 #[.agg #[.int .u8 (k : Nat),.int .i64 u,.int .i64 x1,.int .i64 y1,.int .i64 x2,.int .i64 y2,.string ⟨inp.toArray⟩,.int .u64 (a : Nat),.int .u64 (b : Nat),.int .u64 (c : Nat),.int .u8 (f : Nat),.int .u64 (t : Nat),.int .i64 n]] w fun e w' => e = .returned (.bool sm) ∧ Below w.heap.size w w')
  (HM20 : ∀ w : World,Calls Tryz.prog 16 #[.agg #[.int .u8 (k : Nat),.int .i64 u,.int .i64 x1,.int .i64 y1,.int .i64 x2,.int .i64 y2,.string ⟨inp.toArray⟩,.int .u64 (a : Nat),.int .u64 (b : Nat),.int .u64 (c : Nat),.int .u8 (f : Nat),.int .u64 (t : Nat),.int .i64 n]] w fun e w' => e = .returned (.bool sm) ∧ Below w.heap.size w w')
  (HP10 : ∀ w : World,Calls Tryz.prog 17 #[.agg #[.int .u8 (k : Nat),.int .i64 u,.int .i64 x1,.int .i64 y1,.int .i64 x2,.int .i64 y2,.string ⟨inp.toArray⟩,.int .u64 (a : Nat),.int .u64 (b : Nat),.int .u64 (c : Nat),.int .u8 (f : Nat),.int .u64 (t : Nat),.int .i64 n]] w fun e w' => e = .returned (.agg #[.int .u8 (pk : Nat),.int .i64 pu,.int .i64 px1,.int .i64 py1,.int .i64 px2,.int .i64 py2,.string ⟨pinp.toArray⟩,.int .u64 (pa : Nat),.int .u64 (pb : Nat),.int .u64 (pc : Nat),.int .u8 (pf : Nat),.int .u64 (pt : Nat),.int .i64 pn]) ∧ Below w.heap.size w w')
  (HP20 : ∀ w : World,Calls Tryz.prog 18 #[.agg #[.int .u8 (k : Nat),.int .i64 u,.int .i64 x1,.int .i64 y1,.int .i64 x2,.int .i64 y2,.string ⟨inp.toArray⟩,.int .u64 (a : Nat),.int .u64 (b : Nat),.int .u64 (c : Nat),.int .u8 (f : Nat),.int .u64 (t : Nat),.int .i64 n]] w fun e w' => e = .returned (.agg #[.int .u8 (pk : Nat),.int .i64 pu,.int .i64 px1,.int .i64 py1,.int .i64 px2,.int .i64 py2,.string ⟨pinp.toArray⟩,.int .u64 (pa : Nat),.int .u64 (pb : Nat),.int .u64 (pc : Nat),.int .u8 (pf : Nat),.int .u64 (pt : Nat),.int .i64 pn]) ∧ Below w.heap.size w w') (w : World) (he : Env6 w) :
  Calls Tryz.prog 3 #[.agg #[.int .u8 (k : Nat),.int .i64 u,.int .i64 x1,.int .i64 y1,.int .i64 x2,.int .i64 y2,.string ⟨inp.toArray⟩,.int .u64 (a : Nat),.int .u64 (b : Nat),.int .u64 (c : Nat),.int .u8 (f : Nat),.int .u64 (t : Nat),.int .i64 n]] w fun e w' => e = .returned (.bool true) ∧ Below w.heap.size w w':=by
 have HE:=keep he
 clear he
 have HT1:=keep HT10
 clear HT10
 have HT2:=keep HT20
 clear HT20
 have HF1:=keep HF10
 clear HF10
 have HF2:=keep HF20
 clear HF20
 have HC1:=keep HC10
 clear HC10
 have HC2:=keep HC20
 clear HC20
 have HM1:=keep HM10
 clear HM10
 have HM2:=keep HM20
 clear HM20
 have HP1:=keep HP10
 clear HP10
 have HP2:=keep HP20
 clear HP20
 have gi : ¬ (inp.length : Int) > 2000:=by omega
 clear hi
 have H1:=Lib.hid ((Ok.start w).alloc w.heap.size 28 [.int .u8 (k : Nat),.int .i64 u,.int .i64 x1,.int .i64 y1,.int .i64 x2,.int .i64 y2,.string ⟨inp.toArray⟩,.int .u64 (a : Nat),.int .u64 (b : Nat),.int .u64 (c : Nat),.int .u8 (f : Nat),.int .u64 (t : Nat),.int .i64 n] rfl)
 go_enter Tryz.func3,Tryz.ntmps3
 go_upto_region 1 with fail
 generalize (w.alloc (.cells #[.int .u8 (k : Nat),.int .i64 u,.int .i64 x1,.int .i64 y1,.int .i64 x2,.int .i64 y2,.string ⟨inp.toArray⟩,.int .u64 (a : Nat),.int .u64 (b : Nat),.int .u64 (c : Nat),.int .u8 (f : Nat),.int .u64 (t : Nat),.int .i64 n] 28)) = W2 at H1 ⊢
 have F3:=H1.out.sees
 simp only [sees,kBlk,cellsAt,Nat.reduceAdd] at F3
 obtain ⟨⟨z0,c0_0,c0_1,c0_2,c0_3,c0_4,c0_5,c0_6,c0_7,c0_8,c0_9,c0_10,c0_11,c0_12,-⟩,-⟩:=F3
 go_wp2_with fail
 refine (HT1.out _).mono ?_
 rintro e w4 ⟨rfl,hb5⟩
 clear z0 c0_0 c0_1 c0_2 c0_3 c0_4 c0_5 c0_6 c0_7 c0_8 c0_9 c0_10 c0_11 c0_12
 have H6:=Lib.hid (H1.out.below hb5)
 clear hb5 H1
 go_upto_region 4 with fail
 have H7:=Lib.hid (H6.out.alloc w4.heap.size 23 [.int .i64 q1,.int .i64 q2,.int .i64 q3,.int .i64 q4] rfl)
 clear H6
 generalize (w4.alloc (.cells #[.int .i64 q1,.int .i64 q2,.int .i64 q3,.int .i64 q4] 23)) = W8 at H7 ⊢
 have F9:=H7.out.sees
 simp only [sees,kBlk,cellsAt,Nat.reduceAdd] at F9
 obtain ⟨⟨z0,c0_0,c0_1,c0_2,c0_3,-⟩,⟨z1,c1_0,c1_1,c1_2,c1_3,c1_4,c1_5,c1_6,c1_7,c1_8,c1_9,c1_10,c1_11,c1_12,-⟩,-⟩:=F9
 go_wp2_with fail
 refine (HT2.out _).mono ?_
 rintro e w10 ⟨rfl,hb11⟩
 clear z0 c0_0 c0_1 c0_2 c0_3 z1 c1_0 c1_1 c1_2 c1_3 c1_4 c1_5 c1_6 c1_7 c1_8 c1_9 c1_10 c1_11 c1_12
 have H12:=Lib.hid (H7.out.below hb11)
 clear hb11 H7
 go_upto_region 5 with fail
 have H13:=Lib.hid (H12.out.alloc w10.heap.size 23 [.int .i64 q1,.int .i64 q2,.int .i64 q3,.int .i64 q4] rfl)
 clear H12
 generalize (w10.alloc (.cells #[.int .i64 q1,.int .i64 q2,.int .i64 q3,.int .i64 q4] 23)) = W14 at H13 ⊢
 have F15:=H13.out.sees
 simp only [sees,kBlk,cellsAt,Nat.reduceAdd] at F15
 obtain ⟨⟨z0,c0_0,c0_1,c0_2,c0_3,-⟩,⟨z1,c1_0,c1_1,c1_2,c1_3,-⟩,⟨z2,c2_0,c2_1,c2_2,c2_3,c2_4,c2_5,c2_6,c2_7,c2_8,c2_9,c2_10,c2_11,c2_12,-⟩,-⟩:=F15
 go_wp2_with fail
 refine (HF1.out _ (HE.out.below H13.out.bel)).mono ?_
 rintro e w16 ⟨rfl,hb17⟩
 clear z0 c0_0 c0_1 c0_2 c0_3 z1 c1_0 c1_1 c1_2 c1_3 z2 c2_0 c2_1 c2_2 c2_3 c2_4 c2_5 c2_6 c2_7 c2_8 c2_9 c2_10 c2_11 c2_12
 have H18:=Lib.hid (H13.out.below hb17)
 clear hb17 H13
 have F19:=H18.out.sees
 simp only [sees,kBlk,cellsAt,Nat.reduceAdd] at F19
 obtain ⟨⟨z0,c0_0,c0_1,c0_2,c0_3,-⟩,⟨z1,c1_0,c1_1,c1_2,c1_3,-⟩,⟨z2,c2_0,c2_1,c2_2,c2_3,c2_4,c2_5,c2_6,c2_7,c2_8,c2_9,c2_10,c2_11,c2_12,-⟩,-⟩:=F19
 go_wp2_with fail
 refine (HF2.out _).mono ?_
 rintro e w20 ⟨rfl,hb21⟩
 clear z0 c0_0 c0_1 c0_2 c0_3 z1 c1_0 c1_1 c1_2 c1_3 z2 c2_0 c2_1 c2_2 c2_3 c2_4 c2_5 c2_6 c2_7 c2_8 c2_9 c2_10 c2_11 c2_12
 have H22:=Lib.hid (H18.out.below hb21)
 clear hb21 H18
 have F23:=H22.out.sees
 simp only [sees,kBlk,cellsAt,Nat.reduceAdd] at F23
 obtain ⟨⟨z0,c0_0,c0_1,c0_2,c0_3,-⟩,⟨z1,c1_0,c1_1,c1_2,c1_3,-⟩,⟨z2,c2_0,c2_1,c2_2,c2_3,c2_4,c2_5,c2_6,c2_7,c2_8,c2_9,c2_10,c2_11,c2_12,-⟩,-⟩:=F23
 go_upto_region 7 with fail
 refine wp_region_held_drew (S:=fun W => Ok w [kBlk (w10.heap.size) 23 [.int .i64 q1,.int .i64 q2,.int .i64 q3,.int .i64 q4],kBlk (w4.heap.size) 23 [.int .i64 q1,.int .i64 q2,.int .i64 q3,.int .i64 q4],kBlk (w.heap.size) 28 [.int .u8 (k : Nat),.int .i64 u,.int .i64 x1,.int .i64 y1,.int .i64 x2,.int .i64 y2,.string ⟨inp.toArray⟩,.int .u64 (a : Nat),.int .u64 (b : Nat),.int .u64 (c : Nat),.int .u8 (f : Nat),.int .u64 (t : Nat),.int .i64 n]] W) (by kernel_rfl) H22.out.drew (fun hHeld => ?_)
 refine wtg (i:=0) (v:=?a1) rfl ?b1 (by assumption) ?c1
 case b1 => (intro w hSw; have F:=Ok.sees hSw; clear hSw; simp only [sees,kBlk,cellsAt,Nat.reduceAdd] at F; go_simp; try with_reducible rfl)
 try simp only [Act.put,wp1,wp2,wp3,wp4,wp6]
 refine wtg (i:=1) (v:=?a3) rfl ?b3 (by assumption) ?c3
 case b3 => (intro w hSw; have F:=Ok.sees hSw; clear hSw; simp only [sees,kBlk,cellsAt,Nat.reduceAdd] at F; go_simp; try with_reducible rfl)
 try simp only [Act.put,wp1,wp2,wp3,wp4,wp5,wp6]
 refine wtg (i:=2) (v:=?a5) rfl ?b5 (by assumption) ?c5
 case b5 => (intro w hSw; have F:=Ok.sees hSw; clear hSw; simp only [sees,kBlk,cellsAt,Nat.reduceAdd] at F; go_simp; try with_reducible rfl)
 try simp only [Act.put,wp1,wp2,wp3,wp4,wp5,wp6]
 refine wtg (i:=3) (v:=?a7) rfl ?b7 (by assumption) ?c7
 case b7 => (intro w hSw; have F:=Ok.sees hSw; clear hSw; simp only [sees,kBlk,cellsAt,Nat.reduceAdd] at F; go_simp; try with_reducible rfl)
 try simp only [Act.put,wp1,wp2,wp3,wp4,wp5,wp6]
 refine wtg (i:=4) (v:=?a9) rfl ?b9 (by assumption) ?c9
 case b9 => (intro w hSw; have F:=Ok.sees hSw; clear hSw; simp only [sees,kBlk,cellsAt,Nat.reduceAdd] at F; go_simp; try with_reducible rfl)
 try simp only [Act.put,wp1,wp2,wp3,wp4,wp5,wp6]
 refine wtg (i:=5) (v:=?a11) rfl ?b11 (by assumption) ?c11
 case b11 => (intro w hSw; have F:=Ok.sees hSw; clear hSw; simp only [sees,kBlk,cellsAt,Nat.reduceAdd] at F; go_simp; try with_reducible rfl)
 try simp only [Act.put,wp1,wp2,wp3,wp4,wp5,wp6]
 refine wtg (i:=6) (v:=?a13) rfl ?b13 (by assumption) ?c13
 case b13 => (intro w hSw; have F:=Ok.sees hSw; clear hSw; simp only [sees,kBlk,cellsAt,Nat.reduceAdd] at F; go_simp; try with_reducible rfl)
 try simp only [Act.put,wp1,wp2,wp3,wp4,wp5,wp6]
 refine wtg (i:=7) (v:=?a15) rfl ?b15 (by assumption) ?c15
 case b15 => (intro w hSw; have F:=Ok.sees hSw; clear hSw; simp only [sees,kBlk,cellsAt,Nat.reduceAdd] at F; go_simp; try with_reducible rfl)
 try simp only [Act.put,wp1,wp2,wp3,wp4,wp5,wp6]
 refine wtg (i:=8) (v:=?a17) rfl ?b17 (by assumption) ?c17
 case b17 => (intro w hSw; have F:=Ok.sees hSw; clear hSw; simp only [sees,kBlk,cellsAt,Nat.reduceAdd] at F; go_simp; try with_reducible rfl)
 try simp only [Act.put,wp1,wp2,wp3,wp4,wp5,wp6]
 refine wtg (i:=9) (v:=?a19) rfl ?b19 (by assumption) ?c19
 case b19 => (intro w hSw; have F:=Ok.sees hSw; clear hSw; simp only [sees,kBlk,cellsAt,Nat.reduceAdd] at F; go_simp; try with_reducible rfl)
 try simp only [Act.put,wp1,wp2,wp3,wp4,wp5,wp6]
 refine wtg (i:=10) (v:=?a21) rfl ?b21 (by assumption) ?c21
 case b21 => (intro w hSw; have F:=Ok.sees hSw; clear hSw; simp only [sees,kBlk,cellsAt,Nat.reduceAdd] at F; go_simp; try with_reducible rfl)
 try simp only [Act.put,wp1,wp2,wp3,wp4,wp5,wp6]
 refine wtg (i:=11) (v:=?a23) rfl ?b23 (by assumption) ?c23
 case b23 => (intro w hSw; have F:=Ok.sees hSw; clear hSw; simp only [sees,kBlk,cellsAt,Nat.reduceAdd] at F; go_simp; try with_reducible rfl)
 try simp only [Act.put,wp1,wp2,wp3,wp4,wp5,wp6]
 refine wtg (i:=12) (v:=?a25) rfl ?b25 (by assumption) ?c25
 case b25 => (intro w hSw; have F:=Ok.sees hSw; clear hSw; simp only [sees,kBlk,cellsAt,Nat.reduceAdd] at F; go_simp; try with_reducible rfl)
 try simp only [Act.put,wp1,wp2,wp3,wp4,wp5,wp6]
 refine wtg (i:=13) (v:=?a27) rfl ?b27 (by assumption) ?c27
 case b27 => (intro w hSw; have F:=Ok.sees hSw; clear hSw; simp only [sees,kBlk,cellsAt,Nat.reduceAdd] at F; go_simp; try with_reducible rfl)
 try simp only [Act.put,wp1,wp2,wp3,wp4,wp5,wp6]
 refine wtg (i:=14) (v:=?a29) rfl ?b29 (by assumption) ?c29
 case b29 => (intro w hSw; have F:=Ok.sees hSw; clear hSw; simp only [sees,kBlk,cellsAt,Nat.reduceAdd] at F; go_simp; try with_reducible rfl)
 try simp only [Act.put,wp1,wp2,wp3,wp4,wp5,wp6]
 refine wtg (i:=15) (v:=?a31) rfl ?b31 (by assumption) ?c31
 case b31 => (intro w hSw; have F:=Ok.sees hSw; clear hSw; simp only [sees,kBlk,cellsAt,Nat.reduceAdd] at F; go_simp; try with_reducible rfl)
 try simp only [Act.put,wp1,wp2,wp3,wp4,wp5,wp6]
 refine wtg (i:=16) (v:=?a33) rfl ?b33 (by assumption) ?c33
 case b33 => (intro w hSw; have F:=Ok.sees hSw; clear hSw; simp only [sees,kBlk,cellsAt,Nat.reduceAdd] at F; go_simp; try with_reducible rfl)
 try simp only [Act.put,wp1,wp2,wp3,wp4,wp5,wp6]
 refine wtg (i:=17) (v:=?a35) rfl ?b35 (by assumption) ?c35
 case b35 => (intro w hSw; have F:=Ok.sees hSw; clear hSw; simp only [sees,kBlk,cellsAt,Nat.reduceAdd] at F; go_simp; try with_reducible rfl)
 try simp only [Act.put,wp1,wp2,wp3,wp4,wp5,wp6]
 refine wtg (i:=18) (v:=?a37) rfl ?b37 (by assumption) ?c37
 case b37 => (intro w hSw; have F:=Ok.sees hSw; clear hSw; simp only [sees,kBlk,cellsAt,Nat.reduceAdd] at F; go_simp; try with_reducible rfl)
 try simp only [Act.put,wp1,wp2,wp3,wp4,wp5,wp6]
 refine wtg (i:=19) (v:=?a39) rfl ?b39 (by assumption) ?c39
 case b39 => (intro w hSw; have F:=Ok.sees hSw; clear hSw; simp only [sees,kBlk,cellsAt,Nat.reduceAdd] at F; go_simp; try with_reducible rfl)
 try simp only [Act.put,wp1,wp2,wp3,wp4,wp5,wp6]
 refine wtg (i:=21) (v:=?a41) rfl ?b41 (by assumption) ?c41
 case b41 => (intro w hSw; have F:=Ok.sees hSw; clear hSw; simp only [sees,kBlk,cellsAt,Nat.reduceAdd] at F; go_simp; try with_reducible rfl)
 try simp only [Act.put,wp1,wp2,wp3,wp4,wp5,wp6]
 refine wpAnyH_ready (rs:=[20]) (by kernel_rfl) (by simp) ?_
 refine AllReadyH.cons rfl (fun K hK => ?_) AllReadyH.nil
 go_simp
 refine (HC1.out _).mono ?_
 rintro e w25 ⟨rfl,hb26⟩
 go_wp2_with fail
 refine hK.out _ _ (hHeld.below hb26) (fun hHeld => ?_)
 clear hK K
 try simp only [Act.put,wp1,wp2,wp3,wp4,wp5,wp6]
 refine wpAnyH_ready (rs:=[22]) (by kernel_rfl) (by simp) ?_
 refine AllReadyH.cons rfl (fun K hK => ?_) AllReadyH.nil
 go_simp
 refine (HC2.out _).mono ?_
 rintro e w27 ⟨rfl,hb28⟩
 go_wp2_with fail
 refine hK.out _ _ (hHeld.below hb28) (fun hHeld => ?_)
 clear hK K
 try simp only [Act.put,wp1,wp2,wp3,wp4,wp5,wp6]
 refine wtg (i:=23) (v:=?a45) rfl ?b45 (by assumption) ?c45
 case b45 => (intro w hSw; have F:=Ok.sees hSw; clear hSw; simp only [sees,kBlk,cellsAt,Nat.reduceAdd] at F; go_simp; try with_reducible rfl)
 try simp only [Act.put,wp1,wp2,wp3,wp4,wp5,wp6]
 refine wtg (i:=24) (v:=?a47) rfl ?b47 (by assumption) ?c47
 case b47 => (intro w hSw; have F:=Ok.sees hSw; clear hSw; simp only [sees,kBlk,cellsAt,Nat.reduceAdd] at F; go_simp; try with_reducible rfl)
 try simp only [Act.put,wp1,wp2,wp3,wp4,wp5,wp6]
 refine wtg (i:=25) (v:=?a49) rfl ?b49 (by assumption) ?c49
 case b49 => (intro w hSw; have F:=Ok.sees hSw; clear hSw; simp only [sees,kBlk,cellsAt,Nat.reduceAdd] at F; go_simp; try with_reducible rfl)
 try simp only [Act.put,wp1,wp2,wp3,wp4,wp5,wp6]
 refine wtg (i:=26) (v:=?a51) rfl ?b51 (by assumption) ?c51
 case b51 => (intro w hSw; have F:=Ok.sees hSw; clear hSw; simp only [sees,kBlk,cellsAt,Nat.reduceAdd] at F; go_simp; try with_reducible rfl)
 try simp only [Act.put,wp1,wp2,wp3,wp4,wp5,wp6]
 refine wtg (i:=28) (v:=?a53) rfl ?b53 (by assumption) ?c53
 case b53 => (intro w hSw; have F:=Ok.sees hSw; clear hSw; simp only [sees,kBlk,cellsAt,Nat.reduceAdd] at F; go_simp; try with_reducible rfl)
 try simp only [Act.put,wp1,wp2,wp3,wp4,wp5,wp6]
 refine wpAnyH_ready (rs:=[27]) (by kernel_rfl) (by simp) ?_
 refine AllReadyH.cons rfl (fun K hK => ?_) AllReadyH.nil
 go_simp
 refine (HM1.out _).mono ?_
 rintro e w29 ⟨rfl,hb30⟩
 go_wp2_with fail
 refine hK.out _ _ (hHeld.below hb30) (fun hHeld => ?_)
 clear hK K
 try simp only [Act.put,wp1,wp2,wp3,wp4,wp5,wp6]
 refine wpAnyH_ready (rs:=[29]) (by kernel_rfl) (by simp) ?_
 refine AllReadyH.cons rfl (fun K hK => ?_) AllReadyH.nil
 go_simp
 refine (HM2.out _).mono ?_
 rintro e w31 ⟨rfl,hb32⟩
 go_wp2_with fail
 refine hK.out _ _ (hHeld.below hb32) (fun hHeld => ?_)
 clear hK K
 try simp only [Act.put,wp1,wp2,wp3,wp4,wp5,wp6]
 refine wtg (i:=30) (v:=?a57) rfl ?b57 (by assumption) ?c57
 case b57 => (intro w hSw; have F:=Ok.sees hSw; clear hSw; simp only [sees,kBlk,cellsAt,Nat.reduceAdd] at F; go_simp; try with_reducible rfl)
 try simp only [Act.put,wp1,wp2,wp3,wp4,wp5,wp6]
 refine wtg (i:=31) (v:=?a59) rfl ?b59 (by assumption) ?c59
 case b59 => (intro w hSw; have F:=Ok.sees hSw; clear hSw; simp only [sees,kBlk,cellsAt,Nat.reduceAdd] at F; go_simp; try with_reducible rfl)
 try simp only [Act.put,wp1,wp2,wp3,wp4,wp5,wp6]
 refine wtg (i:=32) (v:=?a61) rfl ?b61 (by assumption) ?c61
 case b61 => (intro w hSw; have F:=Ok.sees hSw; clear hSw; simp only [sees,kBlk,cellsAt,Nat.reduceAdd] at F; go_simp; try with_reducible rfl)
 try simp only [Act.put,wp1,wp2,wp3,wp4,wp5,wp6]
 refine wtg (i:=33) (v:=?a63) rfl ?b63 (by assumption) ?c63
 case b63 => (intro w hSw; have F:=Ok.sees hSw; clear hSw; simp only [sees,kBlk,cellsAt,Nat.reduceAdd] at F; go_simp; try with_reducible rfl)
 try simp only [Act.put,wp1,wp2,wp3,wp4,wp5,wp6]
 refine wtg (i:=35) (v:=?a65) rfl ?b65 (by assumption) ?c65
 case b65 => (intro w hSw; have F:=Ok.sees hSw; clear hSw; simp only [sees,kBlk,cellsAt,Nat.reduceAdd] at F; go_simp; try with_reducible rfl)
 try simp only [Act.put,wp1,wp2,wp3,wp4,wp5,wp6]
 refine wpAnyH_ready (rs:=[34]) (by kernel_rfl) (by simp) ?_
 refine AllReadyH.cons rfl (fun K hK => ?_) AllReadyH.nil
 go_simp
 refine (HP1.out _).mono ?_
 rintro e w33 ⟨rfl,hb34⟩
 go_wp2_with fail
 refine hK.out _ _ (hHeld.below hb34) (fun hHeld => ?_)
 clear hK K
 try simp only [Act.put,wp1,wp2,wp3,wp4,wp5,wp6]
 refine wpAnyH_ready (rs:=[36]) (by kernel_rfl) (by simp) ?_
 refine AllReadyH.cons rfl (fun K hK => ?_) AllReadyH.nil
 go_simp
 refine (HP2.out _).mono ?_
 rintro e w35 ⟨rfl,hb36⟩
 go_wp2_with fail
 refine hK.out _ _ (hHeld.below hb36) (fun hHeld => ?_)
 clear hK K
 try simp only [Act.put,wp1,wp2,wp3,wp4,wp5,wp6]
 refine wtg (i:=37) (v:=?a69) rfl ?b69 (by assumption) ?c69
 case b69 => (intro w hSw; have F:=Ok.sees hSw; clear hSw; simp only [sees,kBlk,cellsAt,Nat.reduceAdd] at F; go_simp; try with_reducible rfl)
 try simp only [Act.put,wp1,wp2,wp3,wp4,wp5,wp6]
 refine wtg (i:=38) (v:=?a71) rfl ?b71 (by assumption) ?c71
 case b71 => (intro w hSw; have F:=Ok.sees hSw; clear hSw; simp only [sees,kBlk,cellsAt,Nat.reduceAdd] at F; go_simp; try with_reducible rfl)
 try simp only [Act.put,wp1,wp2,wp3,wp4,wp5,wp6]
 refine wtg (i:=39) (v:=?a73) rfl ?b73 (by assumption) ?c73
 case b73 => (intro w hSw; have F:=Ok.sees hSw; clear hSw; simp only [sees,kBlk,cellsAt,Nat.reduceAdd] at F; go_simp; try with_reducible rfl)
 try simp only [Act.put,wp1,wp2,wp3,wp4,wp5,wp6]
 refine wpAnyH_done (by kernel_rfl) ?_ _
 clear z0 c0_0 c0_1 c0_2 c0_3 z1 c1_0 c1_1 c1_2 c1_3 z2 c2_0 c2_1 c2_2 c2_3 c2_4 c2_5 c2_6 c2_7 c2_8 c2_9 c2_10 c2_11 c2_12
 clear H22
 have H37:=Lib.hid hHeld
 clear hHeld
 go_wp2_with fail
 go_ret
 exact ⟨rfl,H37.out.bel⟩
set_option maxRecDepth 100000 in
set_option maxHeartbeats 4000000 in
theorem checks_long (k : Nat) (u x1 y1 x2 y2 : Int) (inp : List UInt8) (a b c f t : Nat) (n : Int) (hi : 2000 < inp.length) (w : World) (he : Env6 w) :
  Calls Tryz.prog 3 #[.agg #[.int .u8 (k : Nat),.int .i64 u,.int .i64 x1,.int .i64 y1,.int .i64 x2,.int .i64 y2,.string ⟨inp.toArray⟩,.int .u64 (a : Nat),.int .u64 (b : Nat),.int .u64 (c : Nat),.int .u8 (f : Nat),.int .u64 (t : Nat),.int .i64 n]] w fun e w' => e = .returned (.bool true) ∧ Below w.heap.size w w':=by
 have HE:=keep he
 clear he
 have gi : (inp.length : Int) > 2000:=by omega
 clear hi
 have H1:=Lib.hid ((Ok.start w).alloc w.heap.size 28 [.int .u8 (k : Nat),.int .i64 u,.int .i64 x1,.int .i64 y1,.int .i64 x2,.int .i64 y2,.string ⟨inp.toArray⟩,.int .u64 (a : Nat),.int .u64 (b : Nat),.int .u64 (c : Nat),.int .u8 (f : Nat),.int .u64 (t : Nat),.int .i64 n] rfl)
 go_enter Tryz.func3,Tryz.ntmps3
 go_upto_region 1 with fail
 generalize (w.alloc (.cells #[.int .u8 (k : Nat),.int .i64 u,.int .i64 x1,.int .i64 y1,.int .i64 x2,.int .i64 y2,.string ⟨inp.toArray⟩,.int .u64 (a : Nat),.int .u64 (b : Nat),.int .u64 (c : Nat),.int .u8 (f : Nat),.int .u64 (t : Nat),.int .i64 n] 28)) = W2 at H1 ⊢
 have F3:=H1.out.sees
 simp only [sees,kBlk,cellsAt,Nat.reduceAdd] at F3
 obtain ⟨⟨z0,c0_0,c0_1,c0_2,c0_3,c0_4,c0_5,c0_6,c0_7,c0_8,c0_9,c0_10,c0_11,c0_12,-⟩,-⟩:=F3
 go_wp2_with fail
 refine (law_known _ (HE.out.below H1.out.bel)).mono ?_
 rintro e w4 ⟨rfl,hb5⟩
 clear z0 c0_0 c0_1 c0_2 c0_3 c0_4 c0_5 c0_6 c0_7 c0_8 c0_9 c0_10 c0_11 c0_12
 have H6:=Lib.hid (H1.out.below hb5)
 clear hb5 H1
 go_wp2_with fail
 go_ret
 exact ⟨rfl,H6.out.bel⟩
theorem law_OpChecks (x : OpV) (ho : x.Ok) (w : World) (he : Env6 w) :
  Calls Tryz.prog 3 #[x.V] w fun e w' => e = .returned (.bool true) ∧ Below w.heap.size w w':=by
 by_cases hi : x.input.length ≤ 2000
 case neg => exact checks_long _ _ _ _ _ _ _ _ _ _ _ _ _ (Nat.lt_of_not_le hi) w he
 have h62 : x.input.length ≤ 4611686018427387904:=Nat.le_trans hi (by decide)
 exact checks_core _ _ _ _ _ _ _ _ _ _ _ _ _ (plainV x).user (plainV x).rect.c1 (plainV x).rect.r1 (plainV x).rect.c2 (plainV x).rect.r2 (plainV x).input (plainV x).kind (plainV x).rd (plainV x).wr (plainV x).ow (plainV x).fns (plainV x).tg (plainV x).idx _ _ _ _ _ _ _ _ _ hi
  (fun w => op_Target x w) (fun w => r9_Target x w) (fun w he => op_Format x ho h62 w he) (fun w => r9_Format x ho h62 w) (fun w => op_Check x w h62) (fun w => r9_Check x w) (fun w => op_Mutates x w) (fun w => r9_Mutates x w) (fun w => op_Plain x w) (fun w => r9_Plain x w) w he
theorem OpChecks_walk (x : OpV) (w : World) (hx : x.Ok) (hL : laidMetH Tryz.prog Rows.opChecksRow.laid w) (hS : w.ShapedOpen Tryz.prog) :
  Calls Tryz.prog 3 #[x.V] w fun e w' => e = .returned (.bool true) ∧ Below w.heap.size w w' :=
 law_OpChecks x hx w (env6_of hL hS (by kernel_rfl) (by kernel_rfl) (by kernel_rfl) (by kernel_rfl))
end Go.Proofs.YtjbimcdofenmdaaGreatDoor
