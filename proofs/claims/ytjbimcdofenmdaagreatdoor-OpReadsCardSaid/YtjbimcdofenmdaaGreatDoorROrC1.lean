/- The reference of chapter 29: Check. -/
import Derived.Test.YtjbimcdofenmdaaGreatDoorROrB
import Derived.Test.YtjbimcdofenmdaaGreatDoorMOk
import Derived.Test.YtjbimcdofenmdaaGreatDoorMOpC
import Derived.Test.YtjbimcdofenmdaaGreatDoorMOr4
namespace Go.Proofs.YtjbimcdofenmdaaGreatDoor
open Go.RowKit
set_option maxRecDepth 100000 in
set_option maxHeartbeats 4000000 in
theorem r9_check_lo (k : Nat) (hk : k < 1) (u x1 y1 x2 y2 : Int) (inp : List UInt8) (a b c f t : Nat) (n : Int) (w : World) :
  Calls Tryz.prog 14 #[.agg #[.int .u8 (k : Nat),.int .i64 u,.int .i64 x1,.int .i64 y1,.int .i64 x2,.int .i64 y2,.string ⟨inp.toArray⟩,.int .u64 (a : Nat),.int .u64 (b : Nat),.int .u64 (c : Nat),.int .u8 (f : Nat),.int .u64 (t : Nat),.int .i64 n]] w fun e w' => e = .returned (.int .i64 4) ∧ Below w.heap.size w w':=by
 have g1 : (k : Int) < 1:=by omega
 skip
 have H1:=Lib.hid ((Ok.start w).alloc w.heap.size 28 [.int .u8 (k : Nat),.int .i64 u,.int .i64 x1,.int .i64 y1,.int .i64 x2,.int .i64 y2,.string ⟨inp.toArray⟩,.int .u64 (a : Nat),.int .u64 (b : Nat),.int .u64 (c : Nat),.int .u8 (f : Nat),.int .u64 (t : Nat),.int .i64 n] rfl)
 go_enter Tryz.func14,Tryz.ntmps14
 go_upto_region 1 with fail
 generalize (w.alloc (.cells #[.int .u8 (k : Nat),.int .i64 u,.int .i64 x1,.int .i64 y1,.int .i64 x2,.int .i64 y2,.string ⟨inp.toArray⟩,.int .u64 (a : Nat),.int .u64 (b : Nat),.int .u64 (c : Nat),.int .u8 (f : Nat),.int .u64 (t : Nat),.int .i64 n] 28)) = W2 at H1 ⊢
 have F3:=H1.out.sees
 simp only [sees,kBlk,cellsAt,Nat.reduceAdd] at F3
 obtain ⟨⟨z0,q00,q01,q02,q03,q04,q05,q06,q07,q08,q09,q0a,q0b,q0c,-⟩,-⟩:=F3
 refine wp_region_held_drew (S:=fun W => Ok w [kBlk (w.heap.size) 28 [.int .u8 (k : Nat),.int .i64 u,.int .i64 x1,.int .i64 y1,.int .i64 x2,.int .i64 y2,.string ⟨inp.toArray⟩,.int .u64 (a : Nat),.int .u64 (b : Nat),.int .u64 (c : Nat),.int .u8 (f : Nat),.int .u64 (t : Nat),.int .i64 n]] W) (by kernel_rfl) H1.out.drew (fun hHeld => ?_)
 refine wtg (i:=0) (v:=?a1) rfl ?b1 (by assumption) ?c1
 case b1 => (intro w h;have F:=Ok.sees h;clear h;simp only [sees,kBlk,cellsAt,Nat.reduceAdd] at F; go_simp;try with_reducible rfl)
 try simp only [Act.put,wp1,wp2,wp3,wp4,wp6]
 refine wtg (i:=1) (v:=?a3) rfl ?b3 (by assumption) ?c3
 case b3 => (intro w h;have F:=Ok.sees h;clear h;simp only [sees,kBlk,cellsAt,Nat.reduceAdd] at F; go_simp;try with_reducible rfl)
 try simp only [Act.put,wp1,wp2,wp3,wp4,wp5,wp6]
 refine wtg (i:=2) (v:=?a5) rfl ?b5 (by assumption) ?c5
 case b5 => (intro w h;have F:=Ok.sees h;clear h;simp only [sees,kBlk,cellsAt,Nat.reduceAdd] at F; go_simp;try with_reducible rfl)
 try simp only [Act.put,wp1,wp2,wp3,wp4,wp5,wp6]
 refine wtg (i:=3) (v:=?a7) rfl ?b7 (by assumption) ?c7
 case b7 => (intro w h;have F:=Ok.sees h;clear h;simp only [sees,kBlk,cellsAt,Nat.reduceAdd] at F; go_simp;try with_reducible rfl)
 try simp only [Act.put,wp1,wp2,wp3,wp4,wp5,wp6]
 refine wsg (i:=4) rfl (by assumption) ?_
 try simp only [Act.put,wp1,wp2,wp3,wp4,wp5,wp6]
 refine wsg (i:=5) rfl (by assumption) ?_
 try simp only [Act.put,wp1,wp2,wp3,wp4,wp5,wp6]
 refine wsg (i:=6) rfl (by assumption) ?_
 try simp only [Act.put,wp1,wp2,wp3,wp4,wp5,wp6]
 refine wtg (i:=7) (v:=?a15) rfl ?b15 (by assumption) ?c15
 case b15 => (intro w h;have F:=Ok.sees h;clear h;simp only [sees,kBlk,cellsAt,Nat.reduceAdd] at F; go_simp;try with_reducible rfl)
 try simp only [Act.put,wp1,wp2,wp3,wp4,wp5,wp6]
 refine wtg (i:=8) (v:=?a17) rfl ?b17 (by assumption) ?c17
 case b17 => (intro w h;have F:=Ok.sees h;clear h;simp only [sees,kBlk,cellsAt,Nat.reduceAdd] at F; go_simp;try with_reducible rfl)
 try simp only [Act.put,wp1,wp2,wp3,wp4,wp5,wp6]
 refine wsg (i:=9) rfl (by assumption) ?_
 try simp only [Act.put,wp1,wp2,wp3,wp4,wp5,wp6]
 refine wsg (i:=10) rfl (by assumption) ?_
 try simp only [Act.put,wp1,wp2,wp3,wp4,wp5,wp6]
 refine wsg (i:=11) rfl (by assumption) ?_
 try simp only [Act.put,wp1,wp2,wp3,wp4,wp5,wp6]
 refine wsg (i:=12) rfl (by assumption) ?_
 try simp only [Act.put,wp1,wp2,wp3,wp4,wp5,wp6]
 refine wtg (i:=13) (v:=?a27) rfl ?b27 (by assumption) ?c27
 case b27 => (intro w h;have F:=Ok.sees h;clear h;simp only [sees,kBlk,cellsAt,Nat.reduceAdd] at F; go_simp;try with_reducible rfl)
 try simp only [Act.put,wp1,wp2,wp3,wp4,wp5,wp6]
 refine wpAnyH_done (by kernel_rfl) ?_ _
 clear z0 q00 q01 q02 q03 q04 q05 q06 q07 q08 q09 q0a q0b q0c
 clear H1
 have H5:=Lib.hid hHeld
 clear hHeld
 go_wp2_with fail
 go_ret
 exact ⟨rfl,H5.out.bel⟩
set_option maxRecDepth 100000 in
set_option maxHeartbeats 4000000 in
theorem r9_check_hi (k : Nat) (hk : 10 < k) (u x1 y1 x2 y2 : Int) (inp : List UInt8) (a b c f t : Nat) (n : Int) (w : World) :
  Calls Tryz.prog 14 #[.agg #[.int .u8 (k : Nat),.int .i64 u,.int .i64 x1,.int .i64 y1,.int .i64 x2,.int .i64 y2,.string ⟨inp.toArray⟩,.int .u64 (a : Nat),.int .u64 (b : Nat),.int .u64 (c : Nat),.int .u8 (f : Nat),.int .u64 (t : Nat),.int .i64 n]] w fun e w' => e = .returned (.int .i64 4) ∧ Below w.heap.size w w':=by
 have g1 : ¬ (k : Int) < 1:=by omega
 have g2 : (k : Int) > 10:=by omega
 have H1:=Lib.hid ((Ok.start w).alloc w.heap.size 28 [.int .u8 (k : Nat),.int .i64 u,.int .i64 x1,.int .i64 y1,.int .i64 x2,.int .i64 y2,.string ⟨inp.toArray⟩,.int .u64 (a : Nat),.int .u64 (b : Nat),.int .u64 (c : Nat),.int .u8 (f : Nat),.int .u64 (t : Nat),.int .i64 n] rfl)
 go_enter Tryz.func14,Tryz.ntmps14
 go_upto_region 1 with fail
 generalize (w.alloc (.cells #[.int .u8 (k : Nat),.int .i64 u,.int .i64 x1,.int .i64 y1,.int .i64 x2,.int .i64 y2,.string ⟨inp.toArray⟩,.int .u64 (a : Nat),.int .u64 (b : Nat),.int .u64 (c : Nat),.int .u8 (f : Nat),.int .u64 (t : Nat),.int .i64 n] 28)) = W2 at H1 ⊢
 have F3:=H1.out.sees
 simp only [sees,kBlk,cellsAt,Nat.reduceAdd] at F3
 obtain ⟨⟨z0,q00,q01,q02,q03,q04,q05,q06,q07,q08,q09,q0a,q0b,q0c,-⟩,-⟩:=F3
 refine wp_region_held_drew (S:=fun W => Ok w [kBlk (w.heap.size) 28 [.int .u8 (k : Nat),.int .i64 u,.int .i64 x1,.int .i64 y1,.int .i64 x2,.int .i64 y2,.string ⟨inp.toArray⟩,.int .u64 (a : Nat),.int .u64 (b : Nat),.int .u64 (c : Nat),.int .u8 (f : Nat),.int .u64 (t : Nat),.int .i64 n]] W) (by kernel_rfl) H1.out.drew (fun hHeld => ?_)
 refine wtg (i:=0) (v:=?a29) rfl ?b29 (by assumption) ?c29
 case b29 => (intro w h;have F:=Ok.sees h;clear h;simp only [sees,kBlk,cellsAt,Nat.reduceAdd] at F; go_simp;try with_reducible rfl)
 try simp only [Act.put,wp1,wp2,wp3,wp4,wp6]
 refine wtg (i:=1) (v:=?a31) rfl ?b31 (by assumption) ?c31
 case b31 => (intro w h;have F:=Ok.sees h;clear h;simp only [sees,kBlk,cellsAt,Nat.reduceAdd] at F; go_simp;try with_reducible rfl)
 try simp only [Act.put,wp1,wp2,wp3,wp4,wp5,wp6]
 refine wtg (i:=2) (v:=?a33) rfl ?b33 (by assumption) ?c33
 case b33 => (intro w h;have F:=Ok.sees h;clear h;simp only [sees,kBlk,cellsAt,Nat.reduceAdd] at F; go_simp;try with_reducible rfl)
 try simp only [Act.put,wp1,wp2,wp3,wp4,wp5,wp6]
 refine wtg (i:=3) (v:=?a35) rfl ?b35 (by assumption) ?c35
 case b35 => (intro w h;have F:=Ok.sees h;clear h;simp only [sees,kBlk,cellsAt,Nat.reduceAdd] at F; go_simp;try with_reducible rfl)
 try simp only [Act.put,wp1,wp2,wp3,wp4,wp5,wp6]
 refine wtg (i:=4) (v:=?a37) rfl ?b37 (by assumption) ?c37
 case b37 => (intro w h;have F:=Ok.sees h;clear h;simp only [sees,kBlk,cellsAt,Nat.reduceAdd] at F; go_simp;try with_reducible rfl)
 try simp only [Act.put,wp1,wp2,wp3,wp4,wp5,wp6]
 refine wtg (i:=5) (v:=?a39) rfl ?b39 (by assumption) ?c39
 case b39 => (intro w h;have F:=Ok.sees h;clear h;simp only [sees,kBlk,cellsAt,Nat.reduceAdd] at F; go_simp;try with_reducible rfl)
 try simp only [Act.put,wp1,wp2,wp3,wp4,wp5,wp6]
 refine wtg (i:=6) (v:=?a41) rfl ?b41 (by assumption) ?c41
 case b41 => (intro w h;have F:=Ok.sees h;clear h;simp only [sees,kBlk,cellsAt,Nat.reduceAdd] at F; go_simp;try with_reducible rfl)
 try simp only [Act.put,wp1,wp2,wp3,wp4,wp5,wp6]
 refine wtg (i:=7) (v:=?a43) rfl ?b43 (by assumption) ?c43
 case b43 => (intro w h;have F:=Ok.sees h;clear h;simp only [sees,kBlk,cellsAt,Nat.reduceAdd] at F; go_simp;try with_reducible rfl)
 try simp only [Act.put,wp1,wp2,wp3,wp4,wp5,wp6]
 refine wtg (i:=8) (v:=?a45) rfl ?b45 (by assumption) ?c45
 case b45 => (intro w h;have F:=Ok.sees h;clear h;simp only [sees,kBlk,cellsAt,Nat.reduceAdd] at F; go_simp;try with_reducible rfl)
 try simp only [Act.put,wp1,wp2,wp3,wp4,wp5,wp6]
 refine wsg (i:=9) rfl (by assumption) ?_
 try simp only [Act.put,wp1,wp2,wp3,wp4,wp5,wp6]
 refine wsg (i:=10) rfl (by assumption) ?_
 try simp only [Act.put,wp1,wp2,wp3,wp4,wp5,wp6]
 refine wsg (i:=11) rfl (by assumption) ?_
 try simp only [Act.put,wp1,wp2,wp3,wp4,wp5,wp6]
 refine wsg (i:=12) rfl (by assumption) ?_
 try simp only [Act.put,wp1,wp2,wp3,wp4,wp5,wp6]
 refine wtg (i:=13) (v:=?a55) rfl ?b55 (by assumption) ?c55
 case b55 => (intro w h;have F:=Ok.sees h;clear h;simp only [sees,kBlk,cellsAt,Nat.reduceAdd] at F; go_simp;try with_reducible rfl)
 try simp only [Act.put,wp1,wp2,wp3,wp4,wp5,wp6]
 refine wpAnyH_done (by kernel_rfl) ?_ _
 clear z0 q00 q01 q02 q03 q04 q05 q06 q07 q08 q09 q0a q0b q0c
 clear H1
 have H5:=Lib.hid hHeld
 clear hHeld
 go_wp2_with fail
 go_ret
 exact ⟨rfl,H5.out.bel⟩
set_option maxRecDepth 100000 in
set_option maxHeartbeats 4000000 in
theorem r9_check_ne (k : Nat) (hk1 : 1 ≤ k) (hk2 : k ≤ 10) (u x1 y1 x2 y2 : Int) (inp : List UInt8) (a b c f t : Nat) (n : Int) (pu px1 py1 px2 py2 : Int) (pinp : List UInt8) (pk pa pb pc pf pt : Nat) (pn : Int) (HP : ∀ w : World,Calls Tryz.prog 18 #[.agg #[.int .u8 (k : Nat),.int .i64 u,.int .i64 x1,.int .i64 y1,.int .i64 x2,.int .i64 y2,.string ⟨inp.toArray⟩,.int .u64 (a : Nat),.int .u64 (b : Nat),.int .u64 (c : Nat),.int .u8 (f : Nat),.int .u64 (t : Nat),.int .i64 n]] w fun e w' => e = .returned (.agg #[.int .u8 (pk : Nat),.int .i64 pu,.int .i64 px1,.int .i64 py1,.int .i64 px2,.int .i64 py2,.string ⟨pinp.toArray⟩,.int .u64 (pa : Nat),.int .u64 (pb : Nat),.int .u64 (pc : Nat),.int .u8 (pf : Nat),.int .u64 (pt : Nat),.int .i64 pn]) ∧ Below w.heap.size w w') (hne : ¬ (⟨pk,pu,⟨px1,py1,px2,py2⟩,pinp,pa,pb,pc,pf,pt,pn⟩ : OpV) = ⟨k,u,⟨x1,y1,x2,y2⟩,inp,a,b,c,f,t,n⟩) (w : World) :
  Calls Tryz.prog 14 #[.agg #[.int .u8 (k : Nat),.int .i64 u,.int .i64 x1,.int .i64 y1,.int .i64 x2,.int .i64 y2,.string ⟨inp.toArray⟩,.int .u64 (a : Nat),.int .u64 (b : Nat),.int .u64 (c : Nat),.int .u8 (f : Nat),.int .u64 (t : Nat),.int .i64 n]] w fun e w' => e = .returned (.int .i64 4) ∧ Below w.heap.size w w':=by
 have HPV:=keep HP
 clear HP
 have HNE:=keep hne
 clear hne
 have g1 : ¬ (k : Int) < 1:=by omega
 have g2 : ¬ (k : Int) > 10:=by omega
 have H1:=Lib.hid ((Ok.start w).alloc w.heap.size 28 [.int .u8 (k : Nat),.int .i64 u,.int .i64 x1,.int .i64 y1,.int .i64 x2,.int .i64 y2,.string ⟨inp.toArray⟩,.int .u64 (a : Nat),.int .u64 (b : Nat),.int .u64 (c : Nat),.int .u8 (f : Nat),.int .u64 (t : Nat),.int .i64 n] rfl)
 go_enter Tryz.func14,Tryz.ntmps14
 go_upto_region 1 with fail
 generalize (w.alloc (.cells #[.int .u8 (k : Nat),.int .i64 u,.int .i64 x1,.int .i64 y1,.int .i64 x2,.int .i64 y2,.string ⟨inp.toArray⟩,.int .u64 (a : Nat),.int .u64 (b : Nat),.int .u64 (c : Nat),.int .u8 (f : Nat),.int .u64 (t : Nat),.int .i64 n] 28)) = W2 at H1 ⊢
 have F3:=H1.out.sees
 simp only [sees,kBlk,cellsAt,Nat.reduceAdd] at F3
 obtain ⟨⟨z0,q00,q01,q02,q03,q04,q05,q06,q07,q08,q09,q0a,q0b,q0c,-⟩,-⟩:=F3
 refine wp_region_held_drew (S:=fun W => Ok w [kBlk (w.heap.size) 28 [.int .u8 (k : Nat),.int .i64 u,.int .i64 x1,.int .i64 y1,.int .i64 x2,.int .i64 y2,.string ⟨inp.toArray⟩,.int .u64 (a : Nat),.int .u64 (b : Nat),.int .u64 (c : Nat),.int .u8 (f : Nat),.int .u64 (t : Nat),.int .i64 n]] W) (by kernel_rfl) H1.out.drew (fun hHeld => ?_)
 refine wtg (i:=0) (v:=?a57) rfl ?b57 (by assumption) ?c57
 case b57 => (intro w h;have F:=Ok.sees h;clear h;simp only [sees,kBlk,cellsAt,Nat.reduceAdd] at F; go_simp;(try rw [ne13,if_neg HNE.out]);try with_reducible rfl)
 try simp only [Act.put,wp1,wp2,wp3,wp4,wp6]
 refine wtg (i:=1) (v:=?a59) rfl ?b59 (by assumption) ?c59
 case b59 => (intro w h;have F:=Ok.sees h;clear h;simp only [sees,kBlk,cellsAt,Nat.reduceAdd] at F; go_simp;(try rw [ne13,if_neg HNE.out]);try with_reducible rfl)
 try simp only [Act.put,wp1,wp2,wp3,wp4,wp5,wp6]
 refine wtg (i:=2) (v:=?a61) rfl ?b61 (by assumption) ?c61
 case b61 => (intro w h;have F:=Ok.sees h;clear h;simp only [sees,kBlk,cellsAt,Nat.reduceAdd] at F; go_simp;(try rw [ne13,if_neg HNE.out]);try with_reducible rfl)
 try simp only [Act.put,wp1,wp2,wp3,wp4,wp5,wp6]
 refine wtg (i:=3) (v:=?a63) rfl ?b63 (by assumption) ?c63
 case b63 => (intro w h;have F:=Ok.sees h;clear h;simp only [sees,kBlk,cellsAt,Nat.reduceAdd] at F; go_simp;(try rw [ne13,if_neg HNE.out]);try with_reducible rfl)
 try simp only [Act.put,wp1,wp2,wp3,wp4,wp5,wp6]
 refine wtg (i:=4) (v:=?a65) rfl ?b65 (by assumption) ?c65
 case b65 => (intro w h;have F:=Ok.sees h;clear h;simp only [sees,kBlk,cellsAt,Nat.reduceAdd] at F; go_simp;(try rw [ne13,if_neg HNE.out]);try with_reducible rfl)
 try simp only [Act.put,wp1,wp2,wp3,wp4,wp5,wp6]
 refine wtg (i:=5) (v:=?a67) rfl ?b67 (by assumption) ?c67
 case b67 => (intro w h;have F:=Ok.sees h;clear h;simp only [sees,kBlk,cellsAt,Nat.reduceAdd] at F; go_simp;(try rw [ne13,if_neg HNE.out]);try with_reducible rfl)
 try simp only [Act.put,wp1,wp2,wp3,wp4,wp5,wp6]
 refine wtg (i:=6) (v:=?a69) rfl ?b69 (by assumption) ?c69
 case b69 => (intro w h;have F:=Ok.sees h;clear h;simp only [sees,kBlk,cellsAt,Nat.reduceAdd] at F; go_simp;(try rw [ne13,if_neg HNE.out]);try with_reducible rfl)
 try simp only [Act.put,wp1,wp2,wp3,wp4,wp5,wp6]
 refine wtg (i:=7) (v:=?a71) rfl ?b71 (by assumption) ?c71
 case b71 => (intro w h;have F:=Ok.sees h;clear h;simp only [sees,kBlk,cellsAt,Nat.reduceAdd] at F; go_simp;(try rw [ne13,if_neg HNE.out]);try with_reducible rfl)
 try simp only [Act.put,wp1,wp2,wp3,wp4,wp5,wp6]
 refine wtg (i:=8) (v:=?a73) rfl ?b73 (by assumption) ?c73
 case b73 => (intro w h;have F:=Ok.sees h;clear h;simp only [sees,kBlk,cellsAt,Nat.reduceAdd] at F; go_simp;(try rw [ne13,if_neg HNE.out]);try with_reducible rfl)
 try simp only [Act.put,wp1,wp2,wp3,wp4,wp5,wp6]
 refine wtg (i:=9) (v:=?a75) rfl ?b75 (by assumption) ?c75
 case b75 => (intro w h;have F:=Ok.sees h;clear h;simp only [sees,kBlk,cellsAt,Nat.reduceAdd] at F; go_simp;(try rw [ne13,if_neg HNE.out]);try with_reducible rfl)
 try simp only [Act.put,wp1,wp2,wp3,wp4,wp5,wp6]
 refine wtg (i:=11) (v:=?a77) rfl ?b77 (by assumption) ?c77
 case b77 => (intro w h;have F:=Ok.sees h;clear h;simp only [sees,kBlk,cellsAt,Nat.reduceAdd] at F; go_simp;(try rw [ne13,if_neg HNE.out]);try with_reducible rfl)
 try simp only [Act.put,wp1,wp2,wp3,wp4,wp5,wp6]
 refine wpAnyH_ready (rs:=[10]) (by kernel_rfl) (by simp) ?_
 refine AllReadyH.cons rfl (fun K hK => ?_) AllReadyH.nil
 go_simp
 refine (HPV.out _).mono ?_
 rintro e w5 ⟨rfl,hb6⟩
 go_wp2_with fail
 refine hK.out _ _ (hHeld.below hb6) (fun hHeld => ?_)
 clear hK K
 try simp only [Act.put,wp1,wp2,wp3,wp4,wp5,wp6]
 refine wtg (i:=12) (v:=?a80) rfl ?b80 (by assumption) ?c80
 case b80 => (intro w h;have F:=Ok.sees h;clear h;simp only [sees,kBlk,cellsAt,Nat.reduceAdd] at F; go_simp;(try rw [ne13,if_neg HNE.out]);try with_reducible rfl)
 try simp only [Act.put,wp1,wp2,wp3,wp4,wp5,wp6]
 refine wtg (i:=13) (v:=?a82) rfl ?b82 (by assumption) ?c82
 case b82 => (intro w h;have F:=Ok.sees h;clear h;simp only [sees,kBlk,cellsAt,Nat.reduceAdd] at F; go_simp;(try rw [ne13,if_neg HNE.out]);try with_reducible rfl)
 try simp only [Act.put,wp1,wp2,wp3,wp4,wp5,wp6]
 refine wpAnyH_done (by kernel_rfl) ?_ _
 clear z0 q00 q01 q02 q03 q04 q05 q06 q07 q08 q09 q0a q0b q0c
 clear H1
 have H7:=Lib.hid hHeld
 clear hHeld
 go_wp2_with fail
 go_ret
 exact ⟨rfl,H7.out.bel⟩
set_option maxRecDepth 100000 in
set_option maxHeartbeats 4000000 in
theorem r9_check_3_no (u x1 y1 x2 y2 : Int) (inp : List UInt8) (a b c f t : Nat) (n : Int) (HP : ∀ w : World,Calls Tryz.prog 18 #[.agg #[.int .u8 3,.int .i64 u,.int .i64 x1,.int .i64 y1,.int .i64 x2,.int .i64 y2,.string ⟨inp.toArray⟩,.int .u64 (a : Nat),.int .u64 (b : Nat),.int .u64 (c : Nat),.int .u8 (f : Nat),.int .u64 (t : Nat),.int .i64 n]] w fun e w' => e = .returned (.agg #[.int .u8 3,.int .i64 u,.int .i64 x1,.int .i64 y1,.int .i64 x2,.int .i64 y2,.string ⟨inp.toArray⟩,.int .u64 (a : Nat),.int .u64 (b : Nat),.int .u64 (c : Nat),.int .u8 (f : Nat),.int .u64 (t : Nat),.int .i64 n]) ∧ Below w.heap.size w w') (o : Bool) (ho : o = ((x1 == x2) && (y1 == y2))) (ho2 : o = false) (w : World) :
  Calls Tryz.prog 14 #[.agg #[.int .u8 3,.int .i64 u,.int .i64 x1,.int .i64 y1,.int .i64 x2,.int .i64 y2,.string ⟨inp.toArray⟩,.int .u64 (a : Nat),.int .u64 (b : Nat),.int .u64 (c : Nat),.int .u8 (f : Nat),.int .u64 (t : Nat),.int .i64 n]] w fun e w' => e = .returned (.int .i64 4) ∧ Below w.heap.size w w':=by
 have HPV:=keep HP
 clear HP
 have HO:=keep ho
 clear ho
 subst ho2
 have H1:=Lib.hid ((Ok.start w).alloc w.heap.size 28 [.int .u8 3,.int .i64 u,.int .i64 x1,.int .i64 y1,.int .i64 x2,.int .i64 y2,.string ⟨inp.toArray⟩,.int .u64 (a : Nat),.int .u64 (b : Nat),.int .u64 (c : Nat),.int .u8 (f : Nat),.int .u64 (t : Nat),.int .i64 n] rfl)
 go_enter Tryz.func14,Tryz.ntmps14
 go_upto_region 1 with fail
 generalize (w.alloc (.cells #[.int .u8 3,.int .i64 u,.int .i64 x1,.int .i64 y1,.int .i64 x2,.int .i64 y2,.string ⟨inp.toArray⟩,.int .u64 (a : Nat),.int .u64 (b : Nat),.int .u64 (c : Nat),.int .u8 (f : Nat),.int .u64 (t : Nat),.int .i64 n] 28)) = W2 at H1 ⊢
 have F3:=H1.out.sees
 simp only [sees,kBlk,cellsAt,Nat.reduceAdd] at F3
 obtain ⟨⟨z0,q00,q01,q02,q03,q04,q05,q06,q07,q08,q09,q0a,q0b,q0c,-⟩,-⟩:=F3
 refine wp_region_held_drew (S:=fun W => Ok w [kBlk (w.heap.size) 28 [.int .u8 3,.int .i64 u,.int .i64 x1,.int .i64 y1,.int .i64 x2,.int .i64 y2,.string ⟨inp.toArray⟩,.int .u64 (a : Nat),.int .u64 (b : Nat),.int .u64 (c : Nat),.int .u8 (f : Nat),.int .u64 (t : Nat),.int .i64 n]] W) (by kernel_rfl) H1.out.drew (fun hHeld => ?_)
 refine wtg (i:=0) (v:=?a84) rfl ?b84 (by assumption) ?c84
 case b84 => (intro w h;have F:=Ok.sees h;clear h;simp only [sees,kBlk,cellsAt,Nat.reduceAdd] at F; go_simp;try with_reducible rfl)
 try simp only [Act.put,wp1,wp2,wp3,wp4,wp6]
 refine wtg (i:=1) (v:=?a86) rfl ?b86 (by assumption) ?c86
 case b86 => (intro w h;have F:=Ok.sees h;clear h;simp only [sees,kBlk,cellsAt,Nat.reduceAdd] at F; go_simp;try with_reducible rfl)
 try simp only [Act.put,wp1,wp2,wp3,wp4,wp5,wp6]
 refine wtg (i:=2) (v:=?a88) rfl ?b88 (by assumption) ?c88
 case b88 => (intro w h;have F:=Ok.sees h;clear h;simp only [sees,kBlk,cellsAt,Nat.reduceAdd] at F; go_simp;try with_reducible rfl)
 try simp only [Act.put,wp1,wp2,wp3,wp4,wp5,wp6]
 refine wtg (i:=3) (v:=?a90) rfl ?b90 (by assumption) ?c90
 case b90 => (intro w h;have F:=Ok.sees h;clear h;simp only [sees,kBlk,cellsAt,Nat.reduceAdd] at F; go_simp;try with_reducible rfl)
 try simp only [Act.put,wp1,wp2,wp3,wp4,wp5,wp6]
 refine wtg (i:=4) (v:=?a92) rfl ?b92 (by assumption) ?c92
 case b92 => (intro w h;have F:=Ok.sees h;clear h;simp only [sees,kBlk,cellsAt,Nat.reduceAdd] at F; go_simp;try with_reducible rfl)
 try simp only [Act.put,wp1,wp2,wp3,wp4,wp5,wp6]
 refine wtg (i:=5) (v:=?a94) rfl ?b94 (by assumption) ?c94
 case b94 => (intro w h;have F:=Ok.sees h;clear h;simp only [sees,kBlk,cellsAt,Nat.reduceAdd] at F; go_simp;try with_reducible rfl)
 try simp only [Act.put,wp1,wp2,wp3,wp4,wp5,wp6]
 refine wtg (i:=6) (v:=?a96) rfl ?b96 (by assumption) ?c96
 case b96 => (intro w h;have F:=Ok.sees h;clear h;simp only [sees,kBlk,cellsAt,Nat.reduceAdd] at F; go_simp;try with_reducible rfl)
 try simp only [Act.put,wp1,wp2,wp3,wp4,wp5,wp6]
 refine wtg (i:=7) (v:=?a98) rfl ?b98 (by assumption) ?c98
 case b98 => (intro w h;have F:=Ok.sees h;clear h;simp only [sees,kBlk,cellsAt,Nat.reduceAdd] at F; go_simp;try with_reducible rfl)
 try simp only [Act.put,wp1,wp2,wp3,wp4,wp5,wp6]
 refine wtg (i:=8) (v:=?a100) rfl ?b100 (by assumption) ?c100
 case b100 => (intro w h;have F:=Ok.sees h;clear h;simp only [sees,kBlk,cellsAt,Nat.reduceAdd] at F; go_simp;try with_reducible rfl)
 try simp only [Act.put,wp1,wp2,wp3,wp4,wp5,wp6]
 refine wtg (i:=9) (v:=?a102) rfl ?b102 (by assumption) ?c102
 case b102 => (intro w h;have F:=Ok.sees h;clear h;simp only [sees,kBlk,cellsAt,Nat.reduceAdd] at F; go_simp;try with_reducible rfl)
 try simp only [Act.put,wp1,wp2,wp3,wp4,wp5,wp6]
 refine wtg (i:=11) (v:=?a104) rfl ?b104 (by assumption) ?c104
 case b104 => (intro w h;have F:=Ok.sees h;clear h;simp only [sees,kBlk,cellsAt,Nat.reduceAdd] at F; go_simp;try with_reducible rfl)
 try simp only [Act.put,wp1,wp2,wp3,wp4,wp5,wp6]
 refine wpAnyH_ready (rs:=[10]) (by kernel_rfl) (by simp) ?_
 refine AllReadyH.cons rfl (fun K hK => ?_) AllReadyH.nil
 go_simp
 refine (HPV.out _).mono ?_
 rintro e w5 ⟨rfl,hb6⟩
 go_wp2_with fail
 refine hK.out _ _ (hHeld.below hb6) (fun hHeld => ?_)
 clear hK K
 try simp only [Act.put,wp1,wp2,wp3,wp4,wp5,wp6]
 refine wtg (i:=12) (v:=?a107) rfl ?b107 (by assumption) ?c107
 case b107 => (intro w h;have F:=Ok.sees h;clear h;simp only [sees,kBlk,cellsAt,Nat.reduceAdd] at F; go_simp;try with_reducible rfl)
 try simp only [Act.put,wp1,wp2,wp3,wp4,wp5,wp6]
 refine wtg (i:=13) (v:=?a109) rfl ?b109 (by assumption) ?c109
 case b109 => (intro w h;have F:=Ok.sees h;clear h;simp only [sees,kBlk,cellsAt,Nat.reduceAdd] at F; go_simp;try with_reducible rfl)
 try simp only [Act.put,wp1,wp2,wp3,wp4,wp5,wp6]
 refine wpAnyH_done (by kernel_rfl) ?_ _
 clear z0 q00 q01 q02 q03 q04 q05 q06 q07 q08 q09 q0a q0b q0c
 clear H1
 have H7:=Lib.hid hHeld
 clear hHeld
 have F8:=H7.out.sees
 simp only [sees,kBlk,cellsAt,Nat.reduceAdd] at F8
 obtain ⟨⟨z0,q00,q01,q02,q03,q04,q05,q06,q07,q08,q09,q0a,q0b,q0c,-⟩,-⟩:=F8
 go_upto_region 3 with fail
 go_cut [3] (fun s3 wx => s3 = .bool false ∧ Hid (Ok w [kBlk (w.heap.size) 28 [.int .u8 3,.int .i64 u,.int .i64 x1,.int .i64 y1,.int .i64 x2,.int .i64 y2,.string ⟨inp.toArray⟩,.int .u64 (a : Nat),.int .u64 (b : Nat),.int .u64 (c : Nat),.int .u8 (f : Nat),.int .u64 (t : Nat),.int .i64 n]] wx))
 case first =>
  have ho:=HO.out
  cases h1 : (x1 == x2)
  ·rw [h1,Bool.false_and] at ho
   first | (exfalso; revert ho; decide) | skip
   all_goals go_wp2_with fail
   all_goals go_meet
   all_goals exact ⟨rfl,H7⟩
  ·cases h2 : (y1 == y2)
   ·rw [h1,h2] at ho
    dsimp only [Bool.and] at ho
    first | (exfalso; revert ho; decide) | skip
    all_goals go_wp2_with fail
    all_goals go_meet
    all_goals exact ⟨rfl,H7⟩
   ·rw [h1,h2] at ho
    dsimp only [Bool.and] at ho
    first | (exfalso; revert ho; decide) | skip
    all_goals go_wp2_with fail
    all_goals go_meet
    all_goals exact ⟨rfl,H7⟩
 case rest =>
  clear z0 q00 q01 q02 q03 q04 q05 q06 q07 q08 q09 q0a q0b q0c
  clear H7
  obtain ⟨rfl,H⟩:=hcut
  have F9:=H.out.sees
  simp only [sees,kBlk,cellsAt,Nat.reduceAdd] at F9
  obtain ⟨⟨z0,q00,q01,q02,q03,q04,q05,q06,q07,q08,q09,q0a,q0b,q0c,-⟩,-⟩:=F9
  go_wp2_with fail
  go_ret
  exact ⟨rfl,H.out.bel⟩
set_option maxRecDepth 100000 in
set_option maxHeartbeats 4000000 in
theorem r9_check_3_long (u x1 y1 x2 y2 : Int) (inp : List UInt8) (a b c f t : Nat) (n : Int) (HP : ∀ w : World,Calls Tryz.prog 18 #[.agg #[.int .u8 3,.int .i64 u,.int .i64 x1,.int .i64 y1,.int .i64 x2,.int .i64 y2,.string ⟨inp.toArray⟩,.int .u64 (a : Nat),.int .u64 (b : Nat),.int .u64 (c : Nat),.int .u8 (f : Nat),.int .u64 (t : Nat),.int .i64 n]] w fun e w' => e = .returned (.agg #[.int .u8 3,.int .i64 u,.int .i64 x1,.int .i64 y1,.int .i64 x2,.int .i64 y2,.string ⟨inp.toArray⟩,.int .u64 (a : Nat),.int .u64 (b : Nat),.int .u64 (c : Nat),.int .u8 (f : Nat),.int .u64 (t : Nat),.int .i64 n]) ∧ Below w.heap.size w w') (o : Bool) (ho : o = ((x1 == x2) && (y1 == y2))) (ho2 : o = true) (hl : 256 < inp.length) (w : World) :
  Calls Tryz.prog 14 #[.agg #[.int .u8 3,.int .i64 u,.int .i64 x1,.int .i64 y1,.int .i64 x2,.int .i64 y2,.string ⟨inp.toArray⟩,.int .u64 (a : Nat),.int .u64 (b : Nat),.int .u64 (c : Nat),.int .u8 (f : Nat),.int .u64 (t : Nat),.int .i64 n]] w fun e w' => e = .returned (.int .i64 4) ∧ Below w.heap.size w w':=by
 have HPV:=keep HP
 clear HP
 have HO:=keep ho
 clear ho
 subst ho2
 have gl : (inp.length : Int) > 256:=by omega
 clear hl
 have H1:=Lib.hid ((Ok.start w).alloc w.heap.size 28 [.int .u8 3,.int .i64 u,.int .i64 x1,.int .i64 y1,.int .i64 x2,.int .i64 y2,.string ⟨inp.toArray⟩,.int .u64 (a : Nat),.int .u64 (b : Nat),.int .u64 (c : Nat),.int .u8 (f : Nat),.int .u64 (t : Nat),.int .i64 n] rfl)
 go_enter Tryz.func14,Tryz.ntmps14
 go_upto_region 1 with fail
 generalize (w.alloc (.cells #[.int .u8 3,.int .i64 u,.int .i64 x1,.int .i64 y1,.int .i64 x2,.int .i64 y2,.string ⟨inp.toArray⟩,.int .u64 (a : Nat),.int .u64 (b : Nat),.int .u64 (c : Nat),.int .u8 (f : Nat),.int .u64 (t : Nat),.int .i64 n] 28)) = W2 at H1 ⊢
 have F3:=H1.out.sees
 simp only [sees,kBlk,cellsAt,Nat.reduceAdd] at F3
 obtain ⟨⟨z0,q00,q01,q02,q03,q04,q05,q06,q07,q08,q09,q0a,q0b,q0c,-⟩,-⟩:=F3
 refine wp_region_held_drew (S:=fun W => Ok w [kBlk (w.heap.size) 28 [.int .u8 3,.int .i64 u,.int .i64 x1,.int .i64 y1,.int .i64 x2,.int .i64 y2,.string ⟨inp.toArray⟩,.int .u64 (a : Nat),.int .u64 (b : Nat),.int .u64 (c : Nat),.int .u8 (f : Nat),.int .u64 (t : Nat),.int .i64 n]] W) (by kernel_rfl) H1.out.drew (fun hHeld => ?_)
 refine wtg (i:=0) (v:=?a111) rfl ?b111 (by assumption) ?c111
 case b111 => (intro w h;have F:=Ok.sees h;clear h;simp only [sees,kBlk,cellsAt,Nat.reduceAdd] at F; go_simp;try with_reducible rfl)
 try simp only [Act.put,wp1,wp2,wp3,wp4,wp6]
 refine wtg (i:=1) (v:=?a113) rfl ?b113 (by assumption) ?c113
 case b113 => (intro w h;have F:=Ok.sees h;clear h;simp only [sees,kBlk,cellsAt,Nat.reduceAdd] at F; go_simp;try with_reducible rfl)
 try simp only [Act.put,wp1,wp2,wp3,wp4,wp5,wp6]
 refine wtg (i:=2) (v:=?a115) rfl ?b115 (by assumption) ?c115
 case b115 => (intro w h;have F:=Ok.sees h;clear h;simp only [sees,kBlk,cellsAt,Nat.reduceAdd] at F; go_simp;try with_reducible rfl)
 try simp only [Act.put,wp1,wp2,wp3,wp4,wp5,wp6]
 refine wtg (i:=3) (v:=?a117) rfl ?b117 (by assumption) ?c117
 case b117 => (intro w h;have F:=Ok.sees h;clear h;simp only [sees,kBlk,cellsAt,Nat.reduceAdd] at F; go_simp;try with_reducible rfl)
 try simp only [Act.put,wp1,wp2,wp3,wp4,wp5,wp6]
 refine wtg (i:=4) (v:=?a119) rfl ?b119 (by assumption) ?c119
 case b119 => (intro w h;have F:=Ok.sees h;clear h;simp only [sees,kBlk,cellsAt,Nat.reduceAdd] at F; go_simp;try with_reducible rfl)
 try simp only [Act.put,wp1,wp2,wp3,wp4,wp5,wp6]
 refine wtg (i:=5) (v:=?a121) rfl ?b121 (by assumption) ?c121
 case b121 => (intro w h;have F:=Ok.sees h;clear h;simp only [sees,kBlk,cellsAt,Nat.reduceAdd] at F; go_simp;try with_reducible rfl)
 try simp only [Act.put,wp1,wp2,wp3,wp4,wp5,wp6]
 refine wtg (i:=6) (v:=?a123) rfl ?b123 (by assumption) ?c123
 case b123 => (intro w h;have F:=Ok.sees h;clear h;simp only [sees,kBlk,cellsAt,Nat.reduceAdd] at F; go_simp;try with_reducible rfl)
 try simp only [Act.put,wp1,wp2,wp3,wp4,wp5,wp6]
 refine wtg (i:=7) (v:=?a125) rfl ?b125 (by assumption) ?c125
 case b125 => (intro w h;have F:=Ok.sees h;clear h;simp only [sees,kBlk,cellsAt,Nat.reduceAdd] at F; go_simp;try with_reducible rfl)
 try simp only [Act.put,wp1,wp2,wp3,wp4,wp5,wp6]
 refine wtg (i:=8) (v:=?a127) rfl ?b127 (by assumption) ?c127
 case b127 => (intro w h;have F:=Ok.sees h;clear h;simp only [sees,kBlk,cellsAt,Nat.reduceAdd] at F; go_simp;try with_reducible rfl)
 try simp only [Act.put,wp1,wp2,wp3,wp4,wp5,wp6]
 refine wtg (i:=9) (v:=?a129) rfl ?b129 (by assumption) ?c129
 case b129 => (intro w h;have F:=Ok.sees h;clear h;simp only [sees,kBlk,cellsAt,Nat.reduceAdd] at F; go_simp;try with_reducible rfl)
 try simp only [Act.put,wp1,wp2,wp3,wp4,wp5,wp6]
 refine wtg (i:=11) (v:=?a131) rfl ?b131 (by assumption) ?c131
 case b131 => (intro w h;have F:=Ok.sees h;clear h;simp only [sees,kBlk,cellsAt,Nat.reduceAdd] at F; go_simp;try with_reducible rfl)
 try simp only [Act.put,wp1,wp2,wp3,wp4,wp5,wp6]
 refine wpAnyH_ready (rs:=[10]) (by kernel_rfl) (by simp) ?_
 refine AllReadyH.cons rfl (fun K hK => ?_) AllReadyH.nil
 go_simp
 refine (HPV.out _).mono ?_
 rintro e w5 ⟨rfl,hb6⟩
 go_wp2_with fail
 refine hK.out _ _ (hHeld.below hb6) (fun hHeld => ?_)
 clear hK K
 try simp only [Act.put,wp1,wp2,wp3,wp4,wp5,wp6]
 refine wtg (i:=12) (v:=?a134) rfl ?b134 (by assumption) ?c134
 case b134 => (intro w h;have F:=Ok.sees h;clear h;simp only [sees,kBlk,cellsAt,Nat.reduceAdd] at F; go_simp;try with_reducible rfl)
 try simp only [Act.put,wp1,wp2,wp3,wp4,wp5,wp6]
 refine wtg (i:=13) (v:=?a136) rfl ?b136 (by assumption) ?c136
 case b136 => (intro w h;have F:=Ok.sees h;clear h;simp only [sees,kBlk,cellsAt,Nat.reduceAdd] at F; go_simp;try with_reducible rfl)
 try simp only [Act.put,wp1,wp2,wp3,wp4,wp5,wp6]
 refine wpAnyH_done (by kernel_rfl) ?_ _
 clear z0 q00 q01 q02 q03 q04 q05 q06 q07 q08 q09 q0a q0b q0c
 clear H1
 have H7:=Lib.hid hHeld
 clear hHeld
 have F8:=H7.out.sees
 simp only [sees,kBlk,cellsAt,Nat.reduceAdd] at F8
 obtain ⟨⟨z0,q00,q01,q02,q03,q04,q05,q06,q07,q08,q09,q0a,q0b,q0c,-⟩,-⟩:=F8
 go_upto_region 3 with fail
 go_cut [3] (fun s3 wx => s3 = .bool true ∧ Hid (Ok w [kBlk (w.heap.size) 28 [.int .u8 3,.int .i64 u,.int .i64 x1,.int .i64 y1,.int .i64 x2,.int .i64 y2,.string ⟨inp.toArray⟩,.int .u64 (a : Nat),.int .u64 (b : Nat),.int .u64 (c : Nat),.int .u8 (f : Nat),.int .u64 (t : Nat),.int .i64 n]] wx))
 case first =>
  have ho:=HO.out
  cases h1 : (x1 == x2)
  ·rw [h1,Bool.false_and] at ho
   first | (exfalso; revert ho; decide) | skip
   all_goals go_wp2_with fail
   all_goals go_meet
   all_goals exact ⟨rfl,H7⟩
  ·cases h2 : (y1 == y2)
   ·rw [h1,h2] at ho
    dsimp only [Bool.and] at ho
    first | (exfalso; revert ho; decide) | skip
    all_goals go_wp2_with fail
    all_goals go_meet
    all_goals exact ⟨rfl,H7⟩
   ·rw [h1,h2] at ho
    dsimp only [Bool.and] at ho
    first | (exfalso; revert ho; decide) | skip
    all_goals go_wp2_with fail
    all_goals go_meet
    all_goals exact ⟨rfl,H7⟩
 case rest =>
  clear z0 q00 q01 q02 q03 q04 q05 q06 q07 q08 q09 q0a q0b q0c
  clear H7
  obtain ⟨rfl,H⟩:=hcut
  have F9:=H.out.sees
  simp only [sees,kBlk,cellsAt,Nat.reduceAdd] at F9
  obtain ⟨⟨z0,q00,q01,q02,q03,q04,q05,q06,q07,q08,q09,q0a,q0b,q0c,-⟩,-⟩:=F9
  go_wp2_with fail
  go_ret
  exact ⟨rfl,H.out.bel⟩
set_option maxRecDepth 100000 in
set_option maxHeartbeats 4000000 in
theorem r9_check_3_ugly (u x1 y1 x2 y2 : Int) (inp : List UInt8) (a b c f t : Nat) (n : Int) (HP : ∀ w : World,Calls Tryz.prog 18 #[.agg #[.int .u8 3,.int .i64 u,.int .i64 x1,.int .i64 y1,.int .i64 x2,.int .i64 y2,.string ⟨inp.toArray⟩,.int .u64 (a : Nat),.int .u64 (b : Nat),.int .u64 (c : Nat),.int .u8 (f : Nat),.int .u64 (t : Nat),.int .i64 n]] w fun e w' => e = .returned (.agg #[.int .u8 3,.int .i64 u,.int .i64 x1,.int .i64 y1,.int .i64 x2,.int .i64 y2,.string ⟨inp.toArray⟩,.int .u64 (a : Nat),.int .u64 (b : Nat),.int .u64 (c : Nat),.int .u8 (f : Nat),.int .u64 (t : Nat),.int .i64 n]) ∧ Below w.heap.size w w') (o : Bool) (ho : o = ((x1 == x2) && (y1 == y2))) (ho2 : o = true) (hl : inp.length ≤ 256) (hc : inp.all plainB = false) (w : World) :
  Calls Tryz.prog 14 #[.agg #[.int .u8 3,.int .i64 u,.int .i64 x1,.int .i64 y1,.int .i64 x2,.int .i64 y2,.string ⟨inp.toArray⟩,.int .u64 (a : Nat),.int .u64 (b : Nat),.int .u64 (c : Nat),.int .u8 (f : Nat),.int .u64 (t : Nat),.int .i64 n]] w fun e w' => e = .returned (.int .i64 4) ∧ Below w.heap.size w w':=by
 have HPV:=keep HP
 clear HP
 have HO:=keep ho
 clear ho
 subst ho2
 have gl : ¬ (inp.length : Int) > 256:=by omega
 have HC:=keep hc
 have HL:=keep (show inp.length ≤ 4611686018427387904 by omega)
 clear hl hc
 have H1:=Lib.hid ((Ok.start w).alloc w.heap.size 28 [.int .u8 3,.int .i64 u,.int .i64 x1,.int .i64 y1,.int .i64 x2,.int .i64 y2,.string ⟨inp.toArray⟩,.int .u64 (a : Nat),.int .u64 (b : Nat),.int .u64 (c : Nat),.int .u8 (f : Nat),.int .u64 (t : Nat),.int .i64 n] rfl)
 go_enter Tryz.func14,Tryz.ntmps14
 go_upto_region 1 with fail
 generalize (w.alloc (.cells #[.int .u8 3,.int .i64 u,.int .i64 x1,.int .i64 y1,.int .i64 x2,.int .i64 y2,.string ⟨inp.toArray⟩,.int .u64 (a : Nat),.int .u64 (b : Nat),.int .u64 (c : Nat),.int .u8 (f : Nat),.int .u64 (t : Nat),.int .i64 n] 28)) = W2 at H1 ⊢
 have F3:=H1.out.sees
 simp only [sees,kBlk,cellsAt,Nat.reduceAdd] at F3
 obtain ⟨⟨z0,q00,q01,q02,q03,q04,q05,q06,q07,q08,q09,q0a,q0b,q0c,-⟩,-⟩:=F3
 refine wp_region_held_drew (S:=fun W => Ok w [kBlk (w.heap.size) 28 [.int .u8 3,.int .i64 u,.int .i64 x1,.int .i64 y1,.int .i64 x2,.int .i64 y2,.string ⟨inp.toArray⟩,.int .u64 (a : Nat),.int .u64 (b : Nat),.int .u64 (c : Nat),.int .u8 (f : Nat),.int .u64 (t : Nat),.int .i64 n]] W) (by kernel_rfl) H1.out.drew (fun hHeld => ?_)
 refine wtg (i:=0) (v:=?a138) rfl ?b138 (by assumption) ?c138
 case b138 => (intro w h;have F:=Ok.sees h;clear h;simp only [sees,kBlk,cellsAt,Nat.reduceAdd] at F; go_simp;try with_reducible rfl)
 try simp only [Act.put,wp1,wp2,wp3,wp4,wp6]
 refine wtg (i:=1) (v:=?a140) rfl ?b140 (by assumption) ?c140
 case b140 => (intro w h;have F:=Ok.sees h;clear h;simp only [sees,kBlk,cellsAt,Nat.reduceAdd] at F; go_simp;try with_reducible rfl)
 try simp only [Act.put,wp1,wp2,wp3,wp4,wp5,wp6]
 refine wtg (i:=2) (v:=?a142) rfl ?b142 (by assumption) ?c142
 case b142 => (intro w h;have F:=Ok.sees h;clear h;simp only [sees,kBlk,cellsAt,Nat.reduceAdd] at F; go_simp;try with_reducible rfl)
 try simp only [Act.put,wp1,wp2,wp3,wp4,wp5,wp6]
 refine wtg (i:=3) (v:=?a144) rfl ?b144 (by assumption) ?c144
 case b144 => (intro w h;have F:=Ok.sees h;clear h;simp only [sees,kBlk,cellsAt,Nat.reduceAdd] at F; go_simp;try with_reducible rfl)
 try simp only [Act.put,wp1,wp2,wp3,wp4,wp5,wp6]
 refine wtg (i:=4) (v:=?a146) rfl ?b146 (by assumption) ?c146
 case b146 => (intro w h;have F:=Ok.sees h;clear h;simp only [sees,kBlk,cellsAt,Nat.reduceAdd] at F; go_simp;try with_reducible rfl)
 try simp only [Act.put,wp1,wp2,wp3,wp4,wp5,wp6]
 refine wtg (i:=5) (v:=?a148) rfl ?b148 (by assumption) ?c148
 case b148 => (intro w h;have F:=Ok.sees h;clear h;simp only [sees,kBlk,cellsAt,Nat.reduceAdd] at F; go_simp;try with_reducible rfl)
 try simp only [Act.put,wp1,wp2,wp3,wp4,wp5,wp6]
 refine wtg (i:=6) (v:=?a150) rfl ?b150 (by assumption) ?c150
 case b150 => (intro w h;have F:=Ok.sees h;clear h;simp only [sees,kBlk,cellsAt,Nat.reduceAdd] at F; go_simp;try with_reducible rfl)
 try simp only [Act.put,wp1,wp2,wp3,wp4,wp5,wp6]
 refine wtg (i:=7) (v:=?a152) rfl ?b152 (by assumption) ?c152
 case b152 => (intro w h;have F:=Ok.sees h;clear h;simp only [sees,kBlk,cellsAt,Nat.reduceAdd] at F; go_simp;try with_reducible rfl)
 try simp only [Act.put,wp1,wp2,wp3,wp4,wp5,wp6]
 refine wtg (i:=8) (v:=?a154) rfl ?b154 (by assumption) ?c154
 case b154 => (intro w h;have F:=Ok.sees h;clear h;simp only [sees,kBlk,cellsAt,Nat.reduceAdd] at F; go_simp;try with_reducible rfl)
 try simp only [Act.put,wp1,wp2,wp3,wp4,wp5,wp6]
 refine wtg (i:=9) (v:=?a156) rfl ?b156 (by assumption) ?c156
 case b156 => (intro w h;have F:=Ok.sees h;clear h;simp only [sees,kBlk,cellsAt,Nat.reduceAdd] at F; go_simp;try with_reducible rfl)
 try simp only [Act.put,wp1,wp2,wp3,wp4,wp5,wp6]
 refine wtg (i:=11) (v:=?a158) rfl ?b158 (by assumption) ?c158
 case b158 => (intro w h;have F:=Ok.sees h;clear h;simp only [sees,kBlk,cellsAt,Nat.reduceAdd] at F; go_simp;try with_reducible rfl)
 try simp only [Act.put,wp1,wp2,wp3,wp4,wp5,wp6]
 refine wpAnyH_ready (rs:=[10]) (by kernel_rfl) (by simp) ?_
 refine AllReadyH.cons rfl (fun K hK => ?_) AllReadyH.nil
 go_simp
 refine (HPV.out _).mono ?_
 rintro e w5 ⟨rfl,hb6⟩
 go_wp2_with fail
 refine hK.out _ _ (hHeld.below hb6) (fun hHeld => ?_)
 clear hK K
 try simp only [Act.put,wp1,wp2,wp3,wp4,wp5,wp6]
 refine wtg (i:=12) (v:=?a161) rfl ?b161 (by assumption) ?c161
 case b161 => (intro w h;have F:=Ok.sees h;clear h;simp only [sees,kBlk,cellsAt,Nat.reduceAdd] at F; go_simp;try with_reducible rfl)
 try simp only [Act.put,wp1,wp2,wp3,wp4,wp5,wp6]
 refine wtg (i:=13) (v:=?a163) rfl ?b163 (by assumption) ?c163
 case b163 => (intro w h;have F:=Ok.sees h;clear h;simp only [sees,kBlk,cellsAt,Nat.reduceAdd] at F; go_simp;try with_reducible rfl)
 try simp only [Act.put,wp1,wp2,wp3,wp4,wp5,wp6]
 refine wpAnyH_done (by kernel_rfl) ?_ _
 clear z0 q00 q01 q02 q03 q04 q05 q06 q07 q08 q09 q0a q0b q0c
 clear H1
 have H7:=Lib.hid hHeld
 clear hHeld
 have F8:=H7.out.sees
 simp only [sees,kBlk,cellsAt,Nat.reduceAdd] at F8
 obtain ⟨⟨z0,q00,q01,q02,q03,q04,q05,q06,q07,q08,q09,q0a,q0b,q0c,-⟩,-⟩:=F8
 go_upto_region 3 with fail
 go_cut [3] (fun s3 wx => s3 = .bool true ∧ Hid (Ok w [kBlk (w.heap.size) 28 [.int .u8 3,.int .i64 u,.int .i64 x1,.int .i64 y1,.int .i64 x2,.int .i64 y2,.string ⟨inp.toArray⟩,.int .u64 (a : Nat),.int .u64 (b : Nat),.int .u64 (c : Nat),.int .u8 (f : Nat),.int .u64 (t : Nat),.int .i64 n]] wx))
 case first =>
  have ho:=HO.out
  cases h1 : (x1 == x2)
  ·rw [h1,Bool.false_and] at ho
   first | (exfalso; revert ho; decide) | skip
   all_goals go_wp2_with fail
   all_goals go_meet
   all_goals exact ⟨rfl,H7⟩
  ·cases h2 : (y1 == y2)
   ·rw [h1,h2] at ho
    dsimp only [Bool.and] at ho
    first | (exfalso; revert ho; decide) | skip
    all_goals go_wp2_with fail
    all_goals go_meet
    all_goals exact ⟨rfl,H7⟩
   ·rw [h1,h2] at ho
    dsimp only [Bool.and] at ho
    first | (exfalso; revert ho; decide) | skip
    all_goals go_wp2_with fail
    all_goals go_meet
    all_goals exact ⟨rfl,H7⟩
 case rest =>
  clear z0 q00 q01 q02 q03 q04 q05 q06 q07 q08 q09 q0a q0b q0c
  clear H7
  obtain ⟨rfl,H⟩:=hcut
  have F9:=H.out.sees
  simp only [sees,kBlk,cellsAt,Nat.reduceAdd] at F9
  obtain ⟨⟨z0,q00,q01,q02,q03,q04,q05,q06,q07,q08,q09,q0a,q0b,q0c,-⟩,-⟩:=F9
  go_wp2_with fail
  refine (ref4_Plain ⟨inp.toArray⟩ _ HL.out).mono ?_
  rintro e w9 ⟨rfl,rfl⟩
  rw [show (⟨inp.toArray⟩ : ByteArray).data.toList = inp from rfl,HC.out]
  go_wp2_with fail
  go_ret
  exact ⟨rfl,H.out.bel⟩
set_option maxRecDepth 100000 in
set_option maxHeartbeats 4000000 in
theorem r9_check_3_ok (u x1 y1 x2 y2 : Int) (inp : List UInt8) (a b c f t : Nat) (n : Int) (HP : ∀ w : World,Calls Tryz.prog 18 #[.agg #[.int .u8 3,.int .i64 u,.int .i64 x1,.int .i64 y1,.int .i64 x2,.int .i64 y2,.string ⟨inp.toArray⟩,.int .u64 (a : Nat),.int .u64 (b : Nat),.int .u64 (c : Nat),.int .u8 (f : Nat),.int .u64 (t : Nat),.int .i64 n]] w fun e w' => e = .returned (.agg #[.int .u8 3,.int .i64 u,.int .i64 x1,.int .i64 y1,.int .i64 x2,.int .i64 y2,.string ⟨inp.toArray⟩,.int .u64 (a : Nat),.int .u64 (b : Nat),.int .u64 (c : Nat),.int .u8 (f : Nat),.int .u64 (t : Nat),.int .i64 n]) ∧ Below w.heap.size w w') (o : Bool) (ho : o = ((x1 == x2) && (y1 == y2))) (ho2 : o = true) (hl : inp.length ≤ 256) (hc : inp.all plainB = true) (w : World) :
  Calls Tryz.prog 14 #[.agg #[.int .u8 3,.int .i64 u,.int .i64 x1,.int .i64 y1,.int .i64 x2,.int .i64 y2,.string ⟨inp.toArray⟩,.int .u64 (a : Nat),.int .u64 (b : Nat),.int .u64 (c : Nat),.int .u8 (f : Nat),.int .u64 (t : Nat),.int .i64 n]] w fun e w' => e = .returned (.int .i64 0) ∧ Below w.heap.size w w':=by
 have HPV:=keep HP
 clear HP
 have HO:=keep ho
 clear ho
 subst ho2
 have gl : ¬ (inp.length : Int) > 256:=by omega
 have HC:=keep hc
 have HL:=keep (show inp.length ≤ 4611686018427387904 by omega)
 clear hl hc
 have H1:=Lib.hid ((Ok.start w).alloc w.heap.size 28 [.int .u8 3,.int .i64 u,.int .i64 x1,.int .i64 y1,.int .i64 x2,.int .i64 y2,.string ⟨inp.toArray⟩,.int .u64 (a : Nat),.int .u64 (b : Nat),.int .u64 (c : Nat),.int .u8 (f : Nat),.int .u64 (t : Nat),.int .i64 n] rfl)
 go_enter Tryz.func14,Tryz.ntmps14
 go_upto_region 1 with fail
 generalize (w.alloc (.cells #[.int .u8 3,.int .i64 u,.int .i64 x1,.int .i64 y1,.int .i64 x2,.int .i64 y2,.string ⟨inp.toArray⟩,.int .u64 (a : Nat),.int .u64 (b : Nat),.int .u64 (c : Nat),.int .u8 (f : Nat),.int .u64 (t : Nat),.int .i64 n] 28)) = W2 at H1 ⊢
 have F3:=H1.out.sees
 simp only [sees,kBlk,cellsAt,Nat.reduceAdd] at F3
 obtain ⟨⟨z0,q00,q01,q02,q03,q04,q05,q06,q07,q08,q09,q0a,q0b,q0c,-⟩,-⟩:=F3
 refine wp_region_held_drew (S:=fun W => Ok w [kBlk (w.heap.size) 28 [.int .u8 3,.int .i64 u,.int .i64 x1,.int .i64 y1,.int .i64 x2,.int .i64 y2,.string ⟨inp.toArray⟩,.int .u64 (a : Nat),.int .u64 (b : Nat),.int .u64 (c : Nat),.int .u8 (f : Nat),.int .u64 (t : Nat),.int .i64 n]] W) (by kernel_rfl) H1.out.drew (fun hHeld => ?_)
 refine wtg (i:=0) (v:=?a165) rfl ?b165 (by assumption) ?c165
 case b165 => (intro w h;have F:=Ok.sees h;clear h;simp only [sees,kBlk,cellsAt,Nat.reduceAdd] at F; go_simp;try with_reducible rfl)
 try simp only [Act.put,wp1,wp2,wp3,wp4,wp6]
 refine wtg (i:=1) (v:=?a167) rfl ?b167 (by assumption) ?c167
 case b167 => (intro w h;have F:=Ok.sees h;clear h;simp only [sees,kBlk,cellsAt,Nat.reduceAdd] at F; go_simp;try with_reducible rfl)
 try simp only [Act.put,wp1,wp2,wp3,wp4,wp5,wp6]
 refine wtg (i:=2) (v:=?a169) rfl ?b169 (by assumption) ?c169
 case b169 => (intro w h;have F:=Ok.sees h;clear h;simp only [sees,kBlk,cellsAt,Nat.reduceAdd] at F; go_simp;try with_reducible rfl)
 try simp only [Act.put,wp1,wp2,wp3,wp4,wp5,wp6]
 refine wtg (i:=3) (v:=?a171) rfl ?b171 (by assumption) ?c171
 case b171 => (intro w h;have F:=Ok.sees h;clear h;simp only [sees,kBlk,cellsAt,Nat.reduceAdd] at F; go_simp;try with_reducible rfl)
 try simp only [Act.put,wp1,wp2,wp3,wp4,wp5,wp6]
 refine wtg (i:=4) (v:=?a173) rfl ?b173 (by assumption) ?c173
 case b173 => (intro w h;have F:=Ok.sees h;clear h;simp only [sees,kBlk,cellsAt,Nat.reduceAdd] at F; go_simp;try with_reducible rfl)
 try simp only [Act.put,wp1,wp2,wp3,wp4,wp5,wp6]
 refine wtg (i:=5) (v:=?a175) rfl ?b175 (by assumption) ?c175
 case b175 => (intro w h;have F:=Ok.sees h;clear h;simp only [sees,kBlk,cellsAt,Nat.reduceAdd] at F; go_simp;try with_reducible rfl)
 try simp only [Act.put,wp1,wp2,wp3,wp4,wp5,wp6]
 refine wtg (i:=6) (v:=?a177) rfl ?b177 (by assumption) ?c177
 case b177 => (intro w h;have F:=Ok.sees h;clear h;simp only [sees,kBlk,cellsAt,Nat.reduceAdd] at F; go_simp;try with_reducible rfl)
 try simp only [Act.put,wp1,wp2,wp3,wp4,wp5,wp6]
 refine wtg (i:=7) (v:=?a179) rfl ?b179 (by assumption) ?c179
 case b179 => (intro w h;have F:=Ok.sees h;clear h;simp only [sees,kBlk,cellsAt,Nat.reduceAdd] at F; go_simp;try with_reducible rfl)
 try simp only [Act.put,wp1,wp2,wp3,wp4,wp5,wp6]
 refine wtg (i:=8) (v:=?a181) rfl ?b181 (by assumption) ?c181
 case b181 => (intro w h;have F:=Ok.sees h;clear h;simp only [sees,kBlk,cellsAt,Nat.reduceAdd] at F; go_simp;try with_reducible rfl)
 try simp only [Act.put,wp1,wp2,wp3,wp4,wp5,wp6]
 refine wtg (i:=9) (v:=?a183) rfl ?b183 (by assumption) ?c183
 case b183 => (intro w h;have F:=Ok.sees h;clear h;simp only [sees,kBlk,cellsAt,Nat.reduceAdd] at F; go_simp;try with_reducible rfl)
 try simp only [Act.put,wp1,wp2,wp3,wp4,wp5,wp6]
 refine wtg (i:=11) (v:=?a185) rfl ?b185 (by assumption) ?c185
 case b185 => (intro w h;have F:=Ok.sees h;clear h;simp only [sees,kBlk,cellsAt,Nat.reduceAdd] at F; go_simp;try with_reducible rfl)
 try simp only [Act.put,wp1,wp2,wp3,wp4,wp5,wp6]
 refine wpAnyH_ready (rs:=[10]) (by kernel_rfl) (by simp) ?_
 refine AllReadyH.cons rfl (fun K hK => ?_) AllReadyH.nil
 go_simp
 refine (HPV.out _).mono ?_
 rintro e w5 ⟨rfl,hb6⟩
 go_wp2_with fail
 refine hK.out _ _ (hHeld.below hb6) (fun hHeld => ?_)
 clear hK K
 try simp only [Act.put,wp1,wp2,wp3,wp4,wp5,wp6]
 refine wtg (i:=12) (v:=?a188) rfl ?b188 (by assumption) ?c188
 case b188 => (intro w h;have F:=Ok.sees h;clear h;simp only [sees,kBlk,cellsAt,Nat.reduceAdd] at F; go_simp;try with_reducible rfl)
 try simp only [Act.put,wp1,wp2,wp3,wp4,wp5,wp6]
 refine wtg (i:=13) (v:=?a190) rfl ?b190 (by assumption) ?c190
 case b190 => (intro w h;have F:=Ok.sees h;clear h;simp only [sees,kBlk,cellsAt,Nat.reduceAdd] at F; go_simp;try with_reducible rfl)
 try simp only [Act.put,wp1,wp2,wp3,wp4,wp5,wp6]
 refine wpAnyH_done (by kernel_rfl) ?_ _
 clear z0 q00 q01 q02 q03 q04 q05 q06 q07 q08 q09 q0a q0b q0c
 clear H1
 have H7:=Lib.hid hHeld
 clear hHeld
 have F8:=H7.out.sees
 simp only [sees,kBlk,cellsAt,Nat.reduceAdd] at F8
 obtain ⟨⟨z0,q00,q01,q02,q03,q04,q05,q06,q07,q08,q09,q0a,q0b,q0c,-⟩,-⟩:=F8
 go_upto_region 3 with fail
 go_cut [3] (fun s3 wx => s3 = .bool true ∧ Hid (Ok w [kBlk (w.heap.size) 28 [.int .u8 3,.int .i64 u,.int .i64 x1,.int .i64 y1,.int .i64 x2,.int .i64 y2,.string ⟨inp.toArray⟩,.int .u64 (a : Nat),.int .u64 (b : Nat),.int .u64 (c : Nat),.int .u8 (f : Nat),.int .u64 (t : Nat),.int .i64 n]] wx))
 case first =>
  have ho:=HO.out
  cases h1 : (x1 == x2)
  ·rw [h1,Bool.false_and] at ho
   first | (exfalso; revert ho; decide) | skip
   all_goals go_wp2_with fail
   all_goals go_meet
   all_goals exact ⟨rfl,H7⟩
  ·cases h2 : (y1 == y2)
   ·rw [h1,h2] at ho
    dsimp only [Bool.and] at ho
    first | (exfalso; revert ho; decide) | skip
    all_goals go_wp2_with fail
    all_goals go_meet
    all_goals exact ⟨rfl,H7⟩
   ·rw [h1,h2] at ho
    dsimp only [Bool.and] at ho
    first | (exfalso; revert ho; decide) | skip
    all_goals go_wp2_with fail
    all_goals go_meet
    all_goals exact ⟨rfl,H7⟩
 case rest =>
  clear z0 q00 q01 q02 q03 q04 q05 q06 q07 q08 q09 q0a q0b q0c
  clear H7
  obtain ⟨rfl,H⟩:=hcut
  have F9:=H.out.sees
  simp only [sees,kBlk,cellsAt,Nat.reduceAdd] at F9
  obtain ⟨⟨z0,q00,q01,q02,q03,q04,q05,q06,q07,q08,q09,q0a,q0b,q0c,-⟩,-⟩:=F9
  go_wp2_with fail
  refine (ref4_Plain ⟨inp.toArray⟩ _ HL.out).mono ?_
  rintro e w9 ⟨rfl,rfl⟩
  rw [show (⟨inp.toArray⟩ : ByteArray).data.toList = inp from rfl,HC.out]
  go_wp2_with fail
  go_ret
  exact ⟨rfl,H.out.bel⟩
set_option maxRecDepth 100000 in
set_option maxHeartbeats 4000000 in
theorem r9_check_6_no (u x1 y1 x2 y2 : Int) (inp : List UInt8) (a b c f t : Nat) (n : Int) (HP : ∀ w : World,Calls Tryz.prog 18 #[.agg #[.int .u8 6,.int .i64 u,.int .i64 x1,.int .i64 y1,.int .i64 x2,.int .i64 y2,.string ⟨inp.toArray⟩,.int .u64 (a : Nat),.int .u64 (b : Nat),.int .u64 (c : Nat),.int .u8 (f : Nat),.int .u64 (t : Nat),.int .i64 n]] w fun e w' => e = .returned (.agg #[.int .u8 6,.int .i64 u,.int .i64 x1,.int .i64 y1,.int .i64 x2,.int .i64 y2,.string ⟨inp.toArray⟩,.int .u64 (a : Nat),.int .u64 (b : Nat),.int .u64 (c : Nat),.int .u8 (f : Nat),.int .u64 (t : Nat),.int .i64 n]) ∧ Below w.heap.size w w') (o : Bool) (ho : o = ((x1 == x2) && (y1 == y2))) (ho2 : o = false) (w : World) :
  Calls Tryz.prog 14 #[.agg #[.int .u8 6,.int .i64 u,.int .i64 x1,.int .i64 y1,.int .i64 x2,.int .i64 y2,.string ⟨inp.toArray⟩,.int .u64 (a : Nat),.int .u64 (b : Nat),.int .u64 (c : Nat),.int .u8 (f : Nat),.int .u64 (t : Nat),.int .i64 n]] w fun e w' => e = .returned (.int .i64 4) ∧ Below w.heap.size w w':=by
 have HPV:=keep HP
 clear HP
 have HO:=keep ho
 clear ho
 subst ho2
 have H1:=Lib.hid ((Ok.start w).alloc w.heap.size 28 [.int .u8 6,.int .i64 u,.int .i64 x1,.int .i64 y1,.int .i64 x2,.int .i64 y2,.string ⟨inp.toArray⟩,.int .u64 (a : Nat),.int .u64 (b : Nat),.int .u64 (c : Nat),.int .u8 (f : Nat),.int .u64 (t : Nat),.int .i64 n] rfl)
 go_enter Tryz.func14,Tryz.ntmps14
 go_upto_region 1 with fail
 generalize (w.alloc (.cells #[.int .u8 6,.int .i64 u,.int .i64 x1,.int .i64 y1,.int .i64 x2,.int .i64 y2,.string ⟨inp.toArray⟩,.int .u64 (a : Nat),.int .u64 (b : Nat),.int .u64 (c : Nat),.int .u8 (f : Nat),.int .u64 (t : Nat),.int .i64 n] 28)) = W2 at H1 ⊢
 have F3:=H1.out.sees
 simp only [sees,kBlk,cellsAt,Nat.reduceAdd] at F3
 obtain ⟨⟨z0,q00,q01,q02,q03,q04,q05,q06,q07,q08,q09,q0a,q0b,q0c,-⟩,-⟩:=F3
 refine wp_region_held_drew (S:=fun W => Ok w [kBlk (w.heap.size) 28 [.int .u8 6,.int .i64 u,.int .i64 x1,.int .i64 y1,.int .i64 x2,.int .i64 y2,.string ⟨inp.toArray⟩,.int .u64 (a : Nat),.int .u64 (b : Nat),.int .u64 (c : Nat),.int .u8 (f : Nat),.int .u64 (t : Nat),.int .i64 n]] W) (by kernel_rfl) H1.out.drew (fun hHeld => ?_)
 refine wtg (i:=0) (v:=?a192) rfl ?b192 (by assumption) ?c192
 case b192 => (intro w h;have F:=Ok.sees h;clear h;simp only [sees,kBlk,cellsAt,Nat.reduceAdd] at F; go_simp;try with_reducible rfl)
 try simp only [Act.put,wp1,wp2,wp3,wp4,wp6]
 refine wtg (i:=1) (v:=?a194) rfl ?b194 (by assumption) ?c194
 case b194 => (intro w h;have F:=Ok.sees h;clear h;simp only [sees,kBlk,cellsAt,Nat.reduceAdd] at F; go_simp;try with_reducible rfl)
 try simp only [Act.put,wp1,wp2,wp3,wp4,wp5,wp6]
 refine wtg (i:=2) (v:=?a196) rfl ?b196 (by assumption) ?c196
 case b196 => (intro w h;have F:=Ok.sees h;clear h;simp only [sees,kBlk,cellsAt,Nat.reduceAdd] at F; go_simp;try with_reducible rfl)
 try simp only [Act.put,wp1,wp2,wp3,wp4,wp5,wp6]
 refine wtg (i:=3) (v:=?a198) rfl ?b198 (by assumption) ?c198
 case b198 => (intro w h;have F:=Ok.sees h;clear h;simp only [sees,kBlk,cellsAt,Nat.reduceAdd] at F; go_simp;try with_reducible rfl)
 try simp only [Act.put,wp1,wp2,wp3,wp4,wp5,wp6]
 refine wtg (i:=4) (v:=?a200) rfl ?b200 (by assumption) ?c200
 case b200 => (intro w h;have F:=Ok.sees h;clear h;simp only [sees,kBlk,cellsAt,Nat.reduceAdd] at F; go_simp;try with_reducible rfl)
 try simp only [Act.put,wp1,wp2,wp3,wp4,wp5,wp6]
 refine wtg (i:=5) (v:=?a202) rfl ?b202 (by assumption) ?c202
 case b202 => (intro w h;have F:=Ok.sees h;clear h;simp only [sees,kBlk,cellsAt,Nat.reduceAdd] at F; go_simp;try with_reducible rfl)
 try simp only [Act.put,wp1,wp2,wp3,wp4,wp5,wp6]
 refine wtg (i:=6) (v:=?a204) rfl ?b204 (by assumption) ?c204
 case b204 => (intro w h;have F:=Ok.sees h;clear h;simp only [sees,kBlk,cellsAt,Nat.reduceAdd] at F; go_simp;try with_reducible rfl)
 try simp only [Act.put,wp1,wp2,wp3,wp4,wp5,wp6]
 refine wtg (i:=7) (v:=?a206) rfl ?b206 (by assumption) ?c206
 case b206 => (intro w h;have F:=Ok.sees h;clear h;simp only [sees,kBlk,cellsAt,Nat.reduceAdd] at F; go_simp;try with_reducible rfl)
 try simp only [Act.put,wp1,wp2,wp3,wp4,wp5,wp6]
 refine wtg (i:=8) (v:=?a208) rfl ?b208 (by assumption) ?c208
 case b208 => (intro w h;have F:=Ok.sees h;clear h;simp only [sees,kBlk,cellsAt,Nat.reduceAdd] at F; go_simp;try with_reducible rfl)
 try simp only [Act.put,wp1,wp2,wp3,wp4,wp5,wp6]
 refine wtg (i:=9) (v:=?a210) rfl ?b210 (by assumption) ?c210
 case b210 => (intro w h;have F:=Ok.sees h;clear h;simp only [sees,kBlk,cellsAt,Nat.reduceAdd] at F; go_simp;try with_reducible rfl)
 try simp only [Act.put,wp1,wp2,wp3,wp4,wp5,wp6]
 refine wtg (i:=11) (v:=?a212) rfl ?b212 (by assumption) ?c212
 case b212 => (intro w h;have F:=Ok.sees h;clear h;simp only [sees,kBlk,cellsAt,Nat.reduceAdd] at F; go_simp;try with_reducible rfl)
 try simp only [Act.put,wp1,wp2,wp3,wp4,wp5,wp6]
 refine wpAnyH_ready (rs:=[10]) (by kernel_rfl) (by simp) ?_
 refine AllReadyH.cons rfl (fun K hK => ?_) AllReadyH.nil
 go_simp
 refine (HPV.out _).mono ?_
 rintro e w5 ⟨rfl,hb6⟩
 go_wp2_with fail
 refine hK.out _ _ (hHeld.below hb6) (fun hHeld => ?_)
 clear hK K
 try simp only [Act.put,wp1,wp2,wp3,wp4,wp5,wp6]
 refine wtg (i:=12) (v:=?a215) rfl ?b215 (by assumption) ?c215
 case b215 => (intro w h;have F:=Ok.sees h;clear h;simp only [sees,kBlk,cellsAt,Nat.reduceAdd] at F; go_simp;try with_reducible rfl)
 try simp only [Act.put,wp1,wp2,wp3,wp4,wp5,wp6]
 refine wtg (i:=13) (v:=?a217) rfl ?b217 (by assumption) ?c217
 case b217 => (intro w h;have F:=Ok.sees h;clear h;simp only [sees,kBlk,cellsAt,Nat.reduceAdd] at F; go_simp;try with_reducible rfl)
 try simp only [Act.put,wp1,wp2,wp3,wp4,wp5,wp6]
 refine wpAnyH_done (by kernel_rfl) ?_ _
 clear z0 q00 q01 q02 q03 q04 q05 q06 q07 q08 q09 q0a q0b q0c
 clear H1
 have H7:=Lib.hid hHeld
 clear hHeld
 have F8:=H7.out.sees
 simp only [sees,kBlk,cellsAt,Nat.reduceAdd] at F8
 obtain ⟨⟨z0,q00,q01,q02,q03,q04,q05,q06,q07,q08,q09,q0a,q0b,q0c,-⟩,-⟩:=F8
 go_upto_region 3 with fail
 go_cut [3] (fun s3 wx => s3 = .bool false ∧ Hid (Ok w [kBlk (w.heap.size) 28 [.int .u8 6,.int .i64 u,.int .i64 x1,.int .i64 y1,.int .i64 x2,.int .i64 y2,.string ⟨inp.toArray⟩,.int .u64 (a : Nat),.int .u64 (b : Nat),.int .u64 (c : Nat),.int .u8 (f : Nat),.int .u64 (t : Nat),.int .i64 n]] wx))
 case first =>
  have ho:=HO.out
  cases h1 : (x1 == x2)
  ·rw [h1,Bool.false_and] at ho
   first | (exfalso; revert ho; decide) | skip
   all_goals go_wp2_with fail
   all_goals go_meet
   all_goals exact ⟨rfl,H7⟩
  ·cases h2 : (y1 == y2)
   ·rw [h1,h2] at ho
    dsimp only [Bool.and] at ho
    first | (exfalso; revert ho; decide) | skip
    all_goals go_wp2_with fail
    all_goals go_meet
    all_goals exact ⟨rfl,H7⟩
   ·rw [h1,h2] at ho
    dsimp only [Bool.and] at ho
    first | (exfalso; revert ho; decide) | skip
    all_goals go_wp2_with fail
    all_goals go_meet
    all_goals exact ⟨rfl,H7⟩
 case rest =>
  clear z0 q00 q01 q02 q03 q04 q05 q06 q07 q08 q09 q0a q0b q0c
  clear H7
  obtain ⟨rfl,H⟩:=hcut
  have F9:=H.out.sees
  simp only [sees,kBlk,cellsAt,Nat.reduceAdd] at F9
  obtain ⟨⟨z0,q00,q01,q02,q03,q04,q05,q06,q07,q08,q09,q0a,q0b,q0c,-⟩,-⟩:=F9
  go_wp2_with fail
  go_ret
  exact ⟨rfl,H.out.bel⟩
set_option maxRecDepth 100000 in
set_option maxHeartbeats 4000000 in
theorem r9_check_6_long (u x1 y1 x2 y2 : Int) (inp : List UInt8) (a b c f t : Nat) (n : Int) (HP : ∀ w : World,Calls Tryz.prog 18 #[.agg #[.int .u8 6,.int .i64 u,.int .i64 x1,.int .i64 y1,.int .i64 x2,.int .i64 y2,.string ⟨inp.toArray⟩,.int .u64 (a : Nat),.int .u64 (b : Nat),.int .u64 (c : Nat),.int .u8 (f : Nat),.int .u64 (t : Nat),.int .i64 n]] w fun e w' => e = .returned (.agg #[.int .u8 6,.int .i64 u,.int .i64 x1,.int .i64 y1,.int .i64 x2,.int .i64 y2,.string ⟨inp.toArray⟩,.int .u64 (a : Nat),.int .u64 (b : Nat),.int .u64 (c : Nat),.int .u8 (f : Nat),.int .u64 (t : Nat),.int .i64 n]) ∧ Below w.heap.size w w') (o : Bool) (ho : o = ((x1 == x2) && (y1 == y2))) (ho2 : o = true) (hl : 256 < inp.length) (w : World) :
  Calls Tryz.prog 14 #[.agg #[.int .u8 6,.int .i64 u,.int .i64 x1,.int .i64 y1,.int .i64 x2,.int .i64 y2,.string ⟨inp.toArray⟩,.int .u64 (a : Nat),.int .u64 (b : Nat),.int .u64 (c : Nat),.int .u8 (f : Nat),.int .u64 (t : Nat),.int .i64 n]] w fun e w' => e = .returned (.int .i64 4) ∧ Below w.heap.size w w':=by
 have HPV:=keep HP
 clear HP
 have HO:=keep ho
 clear ho
 subst ho2
 have gl : (inp.length : Int) > 256:=by omega
 clear hl
 have H1:=Lib.hid ((Ok.start w).alloc w.heap.size 28 [.int .u8 6,.int .i64 u,.int .i64 x1,.int .i64 y1,.int .i64 x2,.int .i64 y2,.string ⟨inp.toArray⟩,.int .u64 (a : Nat),.int .u64 (b : Nat),.int .u64 (c : Nat),.int .u8 (f : Nat),.int .u64 (t : Nat),.int .i64 n] rfl)
 go_enter Tryz.func14,Tryz.ntmps14
 go_upto_region 1 with fail
 generalize (w.alloc (.cells #[.int .u8 6,.int .i64 u,.int .i64 x1,.int .i64 y1,.int .i64 x2,.int .i64 y2,.string ⟨inp.toArray⟩,.int .u64 (a : Nat),.int .u64 (b : Nat),.int .u64 (c : Nat),.int .u8 (f : Nat),.int .u64 (t : Nat),.int .i64 n] 28)) = W2 at H1 ⊢
 have F3:=H1.out.sees
 simp only [sees,kBlk,cellsAt,Nat.reduceAdd] at F3
 obtain ⟨⟨z0,q00,q01,q02,q03,q04,q05,q06,q07,q08,q09,q0a,q0b,q0c,-⟩,-⟩:=F3
 refine wp_region_held_drew (S:=fun W => Ok w [kBlk (w.heap.size) 28 [.int .u8 6,.int .i64 u,.int .i64 x1,.int .i64 y1,.int .i64 x2,.int .i64 y2,.string ⟨inp.toArray⟩,.int .u64 (a : Nat),.int .u64 (b : Nat),.int .u64 (c : Nat),.int .u8 (f : Nat),.int .u64 (t : Nat),.int .i64 n]] W) (by kernel_rfl) H1.out.drew (fun hHeld => ?_)
 refine wtg (i:=0) (v:=?a219) rfl ?b219 (by assumption) ?c219
 case b219 => (intro w h;have F:=Ok.sees h;clear h;simp only [sees,kBlk,cellsAt,Nat.reduceAdd] at F; go_simp;try with_reducible rfl)
 try simp only [Act.put,wp1,wp2,wp3,wp4,wp6]
 refine wtg (i:=1) (v:=?a221) rfl ?b221 (by assumption) ?c221
 case b221 => (intro w h;have F:=Ok.sees h;clear h;simp only [sees,kBlk,cellsAt,Nat.reduceAdd] at F; go_simp;try with_reducible rfl)
 try simp only [Act.put,wp1,wp2,wp3,wp4,wp5,wp6]
 refine wtg (i:=2) (v:=?a223) rfl ?b223 (by assumption) ?c223
 case b223 => (intro w h;have F:=Ok.sees h;clear h;simp only [sees,kBlk,cellsAt,Nat.reduceAdd] at F; go_simp;try with_reducible rfl)
 try simp only [Act.put,wp1,wp2,wp3,wp4,wp5,wp6]
 refine wtg (i:=3) (v:=?a225) rfl ?b225 (by assumption) ?c225
 case b225 => (intro w h;have F:=Ok.sees h;clear h;simp only [sees,kBlk,cellsAt,Nat.reduceAdd] at F; go_simp;try with_reducible rfl)
 try simp only [Act.put,wp1,wp2,wp3,wp4,wp5,wp6]
 refine wtg (i:=4) (v:=?a227) rfl ?b227 (by assumption) ?c227
 case b227 => (intro w h;have F:=Ok.sees h;clear h;simp only [sees,kBlk,cellsAt,Nat.reduceAdd] at F; go_simp;try with_reducible rfl)
 try simp only [Act.put,wp1,wp2,wp3,wp4,wp5,wp6]
 refine wtg (i:=5) (v:=?a229) rfl ?b229 (by assumption) ?c229
 case b229 => (intro w h;have F:=Ok.sees h;clear h;simp only [sees,kBlk,cellsAt,Nat.reduceAdd] at F; go_simp;try with_reducible rfl)
 try simp only [Act.put,wp1,wp2,wp3,wp4,wp5,wp6]
 refine wtg (i:=6) (v:=?a231) rfl ?b231 (by assumption) ?c231
 case b231 => (intro w h;have F:=Ok.sees h;clear h;simp only [sees,kBlk,cellsAt,Nat.reduceAdd] at F; go_simp;try with_reducible rfl)
 try simp only [Act.put,wp1,wp2,wp3,wp4,wp5,wp6]
 refine wtg (i:=7) (v:=?a233) rfl ?b233 (by assumption) ?c233
 case b233 => (intro w h;have F:=Ok.sees h;clear h;simp only [sees,kBlk,cellsAt,Nat.reduceAdd] at F; go_simp;try with_reducible rfl)
 try simp only [Act.put,wp1,wp2,wp3,wp4,wp5,wp6]
 refine wtg (i:=8) (v:=?a235) rfl ?b235 (by assumption) ?c235
 case b235 => (intro w h;have F:=Ok.sees h;clear h;simp only [sees,kBlk,cellsAt,Nat.reduceAdd] at F; go_simp;try with_reducible rfl)
 try simp only [Act.put,wp1,wp2,wp3,wp4,wp5,wp6]
 refine wtg (i:=9) (v:=?a237) rfl ?b237 (by assumption) ?c237
 case b237 => (intro w h;have F:=Ok.sees h;clear h;simp only [sees,kBlk,cellsAt,Nat.reduceAdd] at F; go_simp;try with_reducible rfl)
 try simp only [Act.put,wp1,wp2,wp3,wp4,wp5,wp6]
 refine wtg (i:=11) (v:=?a239) rfl ?b239 (by assumption) ?c239
 case b239 => (intro w h;have F:=Ok.sees h;clear h;simp only [sees,kBlk,cellsAt,Nat.reduceAdd] at F; go_simp;try with_reducible rfl)
 try simp only [Act.put,wp1,wp2,wp3,wp4,wp5,wp6]
 refine wpAnyH_ready (rs:=[10]) (by kernel_rfl) (by simp) ?_
 refine AllReadyH.cons rfl (fun K hK => ?_) AllReadyH.nil
 go_simp
 refine (HPV.out _).mono ?_
 rintro e w5 ⟨rfl,hb6⟩
 go_wp2_with fail
 refine hK.out _ _ (hHeld.below hb6) (fun hHeld => ?_)
 clear hK K
 try simp only [Act.put,wp1,wp2,wp3,wp4,wp5,wp6]
 refine wtg (i:=12) (v:=?a242) rfl ?b242 (by assumption) ?c242
 case b242 => (intro w h;have F:=Ok.sees h;clear h;simp only [sees,kBlk,cellsAt,Nat.reduceAdd] at F; go_simp;try with_reducible rfl)
 try simp only [Act.put,wp1,wp2,wp3,wp4,wp5,wp6]
 refine wtg (i:=13) (v:=?a244) rfl ?b244 (by assumption) ?c244
 case b244 => (intro w h;have F:=Ok.sees h;clear h;simp only [sees,kBlk,cellsAt,Nat.reduceAdd] at F; go_simp;try with_reducible rfl)
 try simp only [Act.put,wp1,wp2,wp3,wp4,wp5,wp6]
 refine wpAnyH_done (by kernel_rfl) ?_ _
 clear z0 q00 q01 q02 q03 q04 q05 q06 q07 q08 q09 q0a q0b q0c
 clear H1
 have H7:=Lib.hid hHeld
 clear hHeld
 have F8:=H7.out.sees
 simp only [sees,kBlk,cellsAt,Nat.reduceAdd] at F8
 obtain ⟨⟨z0,q00,q01,q02,q03,q04,q05,q06,q07,q08,q09,q0a,q0b,q0c,-⟩,-⟩:=F8
 go_upto_region 3 with fail
 go_cut [3] (fun s3 wx => s3 = .bool true ∧ Hid (Ok w [kBlk (w.heap.size) 28 [.int .u8 6,.int .i64 u,.int .i64 x1,.int .i64 y1,.int .i64 x2,.int .i64 y2,.string ⟨inp.toArray⟩,.int .u64 (a : Nat),.int .u64 (b : Nat),.int .u64 (c : Nat),.int .u8 (f : Nat),.int .u64 (t : Nat),.int .i64 n]] wx))
 case first =>
  have ho:=HO.out
  cases h1 : (x1 == x2)
  ·rw [h1,Bool.false_and] at ho
   first | (exfalso; revert ho; decide) | skip
   all_goals go_wp2_with fail
   all_goals go_meet
   all_goals exact ⟨rfl,H7⟩
  ·cases h2 : (y1 == y2)
   ·rw [h1,h2] at ho
    dsimp only [Bool.and] at ho
    first | (exfalso; revert ho; decide) | skip
    all_goals go_wp2_with fail
    all_goals go_meet
    all_goals exact ⟨rfl,H7⟩
   ·rw [h1,h2] at ho
    dsimp only [Bool.and] at ho
    first | (exfalso; revert ho; decide) | skip
    all_goals go_wp2_with fail
    all_goals go_meet
    all_goals exact ⟨rfl,H7⟩
 case rest =>
  clear z0 q00 q01 q02 q03 q04 q05 q06 q07 q08 q09 q0a q0b q0c
  clear H7
  obtain ⟨rfl,H⟩:=hcut
  have F9:=H.out.sees
  simp only [sees,kBlk,cellsAt,Nat.reduceAdd] at F9
  obtain ⟨⟨z0,q00,q01,q02,q03,q04,q05,q06,q07,q08,q09,q0a,q0b,q0c,-⟩,-⟩:=F9
  go_wp2_with fail
  go_ret
  exact ⟨rfl,H.out.bel⟩
set_option maxRecDepth 100000 in
set_option maxHeartbeats 4000000 in
theorem r9_check_6_ugly (u x1 y1 x2 y2 : Int) (inp : List UInt8) (a b c f t : Nat) (n : Int) (HP : ∀ w : World,Calls Tryz.prog 18 #[.agg #[.int .u8 6,.int .i64 u,.int .i64 x1,.int .i64 y1,.int .i64 x2,.int .i64 y2,.string ⟨inp.toArray⟩,.int .u64 (a : Nat),.int .u64 (b : Nat),.int .u64 (c : Nat),.int .u8 (f : Nat),.int .u64 (t : Nat),.int .i64 n]] w fun e w' => e = .returned (.agg #[.int .u8 6,.int .i64 u,.int .i64 x1,.int .i64 y1,.int .i64 x2,.int .i64 y2,.string ⟨inp.toArray⟩,.int .u64 (a : Nat),.int .u64 (b : Nat),.int .u64 (c : Nat),.int .u8 (f : Nat),.int .u64 (t : Nat),.int .i64 n]) ∧ Below w.heap.size w w') (o : Bool) (ho : o = ((x1 == x2) && (y1 == y2))) (ho2 : o = true) (hl : inp.length ≤ 256) (hc : inp.all plainB = false) (w : World) :
  Calls Tryz.prog 14 #[.agg #[.int .u8 6,.int .i64 u,.int .i64 x1,.int .i64 y1,.int .i64 x2,.int .i64 y2,.string ⟨inp.toArray⟩,.int .u64 (a : Nat),.int .u64 (b : Nat),.int .u64 (c : Nat),.int .u8 (f : Nat),.int .u64 (t : Nat),.int .i64 n]] w fun e w' => e = .returned (.int .i64 4) ∧ Below w.heap.size w w':=by
 have HPV:=keep HP
 clear HP
 have HO:=keep ho
 clear ho
 subst ho2
 have gl : ¬ (inp.length : Int) > 256:=by omega
 have HC:=keep hc
 have HL:=keep (show inp.length ≤ 4611686018427387904 by omega)
 clear hl hc
 have H1:=Lib.hid ((Ok.start w).alloc w.heap.size 28 [.int .u8 6,.int .i64 u,.int .i64 x1,.int .i64 y1,.int .i64 x2,.int .i64 y2,.string ⟨inp.toArray⟩,.int .u64 (a : Nat),.int .u64 (b : Nat),.int .u64 (c : Nat),.int .u8 (f : Nat),.int .u64 (t : Nat),.int .i64 n] rfl)
 go_enter Tryz.func14,Tryz.ntmps14
 go_upto_region 1 with fail
 generalize (w.alloc (.cells #[.int .u8 6,.int .i64 u,.int .i64 x1,.int .i64 y1,.int .i64 x2,.int .i64 y2,.string ⟨inp.toArray⟩,.int .u64 (a : Nat),.int .u64 (b : Nat),.int .u64 (c : Nat),.int .u8 (f : Nat),.int .u64 (t : Nat),.int .i64 n] 28)) = W2 at H1 ⊢
 have F3:=H1.out.sees
 simp only [sees,kBlk,cellsAt,Nat.reduceAdd] at F3
 obtain ⟨⟨z0,q00,q01,q02,q03,q04,q05,q06,q07,q08,q09,q0a,q0b,q0c,-⟩,-⟩:=F3
 refine wp_region_held_drew (S:=fun W => Ok w [kBlk (w.heap.size) 28 [.int .u8 6,.int .i64 u,.int .i64 x1,.int .i64 y1,.int .i64 x2,.int .i64 y2,.string ⟨inp.toArray⟩,.int .u64 (a : Nat),.int .u64 (b : Nat),.int .u64 (c : Nat),.int .u8 (f : Nat),.int .u64 (t : Nat),.int .i64 n]] W) (by kernel_rfl) H1.out.drew (fun hHeld => ?_)
 refine wtg (i:=0) (v:=?a246) rfl ?b246 (by assumption) ?c246
 case b246 => (intro w h;have F:=Ok.sees h;clear h;simp only [sees,kBlk,cellsAt,Nat.reduceAdd] at F; go_simp;try with_reducible rfl)
 try simp only [Act.put,wp1,wp2,wp3,wp4,wp6]
 refine wtg (i:=1) (v:=?a248) rfl ?b248 (by assumption) ?c248
 case b248 => (intro w h;have F:=Ok.sees h;clear h;simp only [sees,kBlk,cellsAt,Nat.reduceAdd] at F; go_simp;try with_reducible rfl)
 try simp only [Act.put,wp1,wp2,wp3,wp4,wp5,wp6]
 refine wtg (i:=2) (v:=?a250) rfl ?b250 (by assumption) ?c250
 case b250 => (intro w h;have F:=Ok.sees h;clear h;simp only [sees,kBlk,cellsAt,Nat.reduceAdd] at F; go_simp;try with_reducible rfl)
 try simp only [Act.put,wp1,wp2,wp3,wp4,wp5,wp6]
 refine wtg (i:=3) (v:=?a252) rfl ?b252 (by assumption) ?c252
 case b252 => (intro w h;have F:=Ok.sees h;clear h;simp only [sees,kBlk,cellsAt,Nat.reduceAdd] at F; go_simp;try with_reducible rfl)
 try simp only [Act.put,wp1,wp2,wp3,wp4,wp5,wp6]
 refine wtg (i:=4) (v:=?a254) rfl ?b254 (by assumption) ?c254
 case b254 => (intro w h;have F:=Ok.sees h;clear h;simp only [sees,kBlk,cellsAt,Nat.reduceAdd] at F; go_simp;try with_reducible rfl)
 try simp only [Act.put,wp1,wp2,wp3,wp4,wp5,wp6]
 refine wtg (i:=5) (v:=?a256) rfl ?b256 (by assumption) ?c256
 case b256 => (intro w h;have F:=Ok.sees h;clear h;simp only [sees,kBlk,cellsAt,Nat.reduceAdd] at F; go_simp;try with_reducible rfl)
 try simp only [Act.put,wp1,wp2,wp3,wp4,wp5,wp6]
 refine wtg (i:=6) (v:=?a258) rfl ?b258 (by assumption) ?c258
 case b258 => (intro w h;have F:=Ok.sees h;clear h;simp only [sees,kBlk,cellsAt,Nat.reduceAdd] at F; go_simp;try with_reducible rfl)
 try simp only [Act.put,wp1,wp2,wp3,wp4,wp5,wp6]
 refine wtg (i:=7) (v:=?a260) rfl ?b260 (by assumption) ?c260
 case b260 => (intro w h;have F:=Ok.sees h;clear h;simp only [sees,kBlk,cellsAt,Nat.reduceAdd] at F; go_simp;try with_reducible rfl)
 try simp only [Act.put,wp1,wp2,wp3,wp4,wp5,wp6]
 refine wtg (i:=8) (v:=?a262) rfl ?b262 (by assumption) ?c262
 case b262 => (intro w h;have F:=Ok.sees h;clear h;simp only [sees,kBlk,cellsAt,Nat.reduceAdd] at F; go_simp;try with_reducible rfl)
 try simp only [Act.put,wp1,wp2,wp3,wp4,wp5,wp6]
 refine wtg (i:=9) (v:=?a264) rfl ?b264 (by assumption) ?c264
 case b264 => (intro w h;have F:=Ok.sees h;clear h;simp only [sees,kBlk,cellsAt,Nat.reduceAdd] at F; go_simp;try with_reducible rfl)
 try simp only [Act.put,wp1,wp2,wp3,wp4,wp5,wp6]
 refine wtg (i:=11) (v:=?a266) rfl ?b266 (by assumption) ?c266
 case b266 => (intro w h;have F:=Ok.sees h;clear h;simp only [sees,kBlk,cellsAt,Nat.reduceAdd] at F; go_simp;try with_reducible rfl)
 try simp only [Act.put,wp1,wp2,wp3,wp4,wp5,wp6]
 refine wpAnyH_ready (rs:=[10]) (by kernel_rfl) (by simp) ?_
 refine AllReadyH.cons rfl (fun K hK => ?_) AllReadyH.nil
 go_simp
 refine (HPV.out _).mono ?_
 rintro e w5 ⟨rfl,hb6⟩
 go_wp2_with fail
 refine hK.out _ _ (hHeld.below hb6) (fun hHeld => ?_)
 clear hK K
 try simp only [Act.put,wp1,wp2,wp3,wp4,wp5,wp6]
 refine wtg (i:=12) (v:=?a269) rfl ?b269 (by assumption) ?c269
 case b269 => (intro w h;have F:=Ok.sees h;clear h;simp only [sees,kBlk,cellsAt,Nat.reduceAdd] at F; go_simp;try with_reducible rfl)
 try simp only [Act.put,wp1,wp2,wp3,wp4,wp5,wp6]
 refine wtg (i:=13) (v:=?a271) rfl ?b271 (by assumption) ?c271
 case b271 => (intro w h;have F:=Ok.sees h;clear h;simp only [sees,kBlk,cellsAt,Nat.reduceAdd] at F; go_simp;try with_reducible rfl)
 try simp only [Act.put,wp1,wp2,wp3,wp4,wp5,wp6]
 refine wpAnyH_done (by kernel_rfl) ?_ _
 clear z0 q00 q01 q02 q03 q04 q05 q06 q07 q08 q09 q0a q0b q0c
 clear H1
 have H7:=Lib.hid hHeld
 clear hHeld
 have F8:=H7.out.sees
 simp only [sees,kBlk,cellsAt,Nat.reduceAdd] at F8
 obtain ⟨⟨z0,q00,q01,q02,q03,q04,q05,q06,q07,q08,q09,q0a,q0b,q0c,-⟩,-⟩:=F8
 go_upto_region 3 with fail
 go_cut [3] (fun s3 wx => s3 = .bool true ∧ Hid (Ok w [kBlk (w.heap.size) 28 [.int .u8 6,.int .i64 u,.int .i64 x1,.int .i64 y1,.int .i64 x2,.int .i64 y2,.string ⟨inp.toArray⟩,.int .u64 (a : Nat),.int .u64 (b : Nat),.int .u64 (c : Nat),.int .u8 (f : Nat),.int .u64 (t : Nat),.int .i64 n]] wx))
 case first =>
  have ho:=HO.out
  cases h1 : (x1 == x2)
  ·rw [h1,Bool.false_and] at ho
   first | (exfalso; revert ho; decide) | skip
   all_goals go_wp2_with fail
   all_goals go_meet
   all_goals exact ⟨rfl,H7⟩
  ·cases h2 : (y1 == y2)
   ·rw [h1,h2] at ho
    dsimp only [Bool.and] at ho
    first | (exfalso; revert ho; decide) | skip
    all_goals go_wp2_with fail
    all_goals go_meet
    all_goals exact ⟨rfl,H7⟩
   ·rw [h1,h2] at ho
    dsimp only [Bool.and] at ho
    first | (exfalso; revert ho; decide) | skip
    all_goals go_wp2_with fail
    all_goals go_meet
    all_goals exact ⟨rfl,H7⟩
 case rest =>
  clear z0 q00 q01 q02 q03 q04 q05 q06 q07 q08 q09 q0a q0b q0c
  clear H7
  obtain ⟨rfl,H⟩:=hcut
  have F9:=H.out.sees
  simp only [sees,kBlk,cellsAt,Nat.reduceAdd] at F9
  obtain ⟨⟨z0,q00,q01,q02,q03,q04,q05,q06,q07,q08,q09,q0a,q0b,q0c,-⟩,-⟩:=F9
  go_wp2_with fail
  refine (ref4_Plain ⟨inp.toArray⟩ _ HL.out).mono ?_
  rintro e w9 ⟨rfl,rfl⟩
  rw [show (⟨inp.toArray⟩ : ByteArray).data.toList = inp from rfl,HC.out]
  go_wp2_with fail
  go_ret
  exact ⟨rfl,H.out.bel⟩
set_option maxRecDepth 100000 in
set_option maxHeartbeats 4000000 in
theorem r9_check_6_ok (u x1 y1 x2 y2 : Int) (inp : List UInt8) (a b c f t : Nat) (n : Int) (HP : ∀ w : World,Calls Tryz.prog 18 #[.agg #[.int .u8 6,.int .i64 u,.int .i64 x1,.int .i64 y1,.int .i64 x2,.int .i64 y2,.string ⟨inp.toArray⟩,.int .u64 (a : Nat),.int .u64 (b : Nat),.int .u64 (c : Nat),.int .u8 (f : Nat),.int .u64 (t : Nat),.int .i64 n]] w fun e w' => e = .returned (.agg #[.int .u8 6,.int .i64 u,.int .i64 x1,.int .i64 y1,.int .i64 x2,.int .i64 y2,.string ⟨inp.toArray⟩,.int .u64 (a : Nat),.int .u64 (b : Nat),.int .u64 (c : Nat),.int .u8 (f : Nat),.int .u64 (t : Nat),.int .i64 n]) ∧ Below w.heap.size w w') (o : Bool) (ho : o = ((x1 == x2) && (y1 == y2))) (ho2 : o = true) (hl : inp.length ≤ 256) (hc : inp.all plainB = true) (w : World) :
  Calls Tryz.prog 14 #[.agg #[.int .u8 6,.int .i64 u,.int .i64 x1,.int .i64 y1,.int .i64 x2,.int .i64 y2,.string ⟨inp.toArray⟩,.int .u64 (a : Nat),.int .u64 (b : Nat),.int .u64 (c : Nat),.int .u8 (f : Nat),.int .u64 (t : Nat),.int .i64 n]] w fun e w' => e = .returned (.int .i64 0) ∧ Below w.heap.size w w':=by
 have HPV:=keep HP
 clear HP
 have HO:=keep ho
 clear ho
 subst ho2
 have gl : ¬ (inp.length : Int) > 256:=by omega
 have HC:=keep hc
 have HL:=keep (show inp.length ≤ 4611686018427387904 by omega)
 clear hl hc
 have H1:=Lib.hid ((Ok.start w).alloc w.heap.size 28 [.int .u8 6,.int .i64 u,.int .i64 x1,.int .i64 y1,.int .i64 x2,.int .i64 y2,.string ⟨inp.toArray⟩,.int .u64 (a : Nat),.int .u64 (b : Nat),.int .u64 (c : Nat),.int .u8 (f : Nat),.int .u64 (t : Nat),.int .i64 n] rfl)
 go_enter Tryz.func14,Tryz.ntmps14
 go_upto_region 1 with fail
 generalize (w.alloc (.cells #[.int .u8 6,.int .i64 u,.int .i64 x1,.int .i64 y1,.int .i64 x2,.int .i64 y2,.string ⟨inp.toArray⟩,.int .u64 (a : Nat),.int .u64 (b : Nat),.int .u64 (c : Nat),.int .u8 (f : Nat),.int .u64 (t : Nat),.int .i64 n] 28)) = W2 at H1 ⊢
 have F3:=H1.out.sees
 simp only [sees,kBlk,cellsAt,Nat.reduceAdd] at F3
 obtain ⟨⟨z0,q00,q01,q02,q03,q04,q05,q06,q07,q08,q09,q0a,q0b,q0c,-⟩,-⟩:=F3
 refine wp_region_held_drew (S:=fun W => Ok w [kBlk (w.heap.size) 28 [.int .u8 6,.int .i64 u,.int .i64 x1,.int .i64 y1,.int .i64 x2,.int .i64 y2,.string ⟨inp.toArray⟩,.int .u64 (a : Nat),.int .u64 (b : Nat),.int .u64 (c : Nat),.int .u8 (f : Nat),.int .u64 (t : Nat),.int .i64 n]] W) (by kernel_rfl) H1.out.drew (fun hHeld => ?_)
 refine wtg (i:=0) (v:=?a273) rfl ?b273 (by assumption) ?c273
 case b273 => (intro w h;have F:=Ok.sees h;clear h;simp only [sees,kBlk,cellsAt,Nat.reduceAdd] at F; go_simp;try with_reducible rfl)
 try simp only [Act.put,wp1,wp2,wp3,wp4,wp6]
 refine wtg (i:=1) (v:=?a275) rfl ?b275 (by assumption) ?c275
 case b275 => (intro w h;have F:=Ok.sees h;clear h;simp only [sees,kBlk,cellsAt,Nat.reduceAdd] at F; go_simp;try with_reducible rfl)
 try simp only [Act.put,wp1,wp2,wp3,wp4,wp5,wp6]
 refine wtg (i:=2) (v:=?a277) rfl ?b277 (by assumption) ?c277
 case b277 => (intro w h;have F:=Ok.sees h;clear h;simp only [sees,kBlk,cellsAt,Nat.reduceAdd] at F; go_simp;try with_reducible rfl)
 try simp only [Act.put,wp1,wp2,wp3,wp4,wp5,wp6]
 refine wtg (i:=3) (v:=?a279) rfl ?b279 (by assumption) ?c279
 case b279 => (intro w h;have F:=Ok.sees h;clear h;simp only [sees,kBlk,cellsAt,Nat.reduceAdd] at F; go_simp;try with_reducible rfl)
 try simp only [Act.put,wp1,wp2,wp3,wp4,wp5,wp6]
 refine wtg (i:=4) (v:=?a281) rfl ?b281 (by assumption) ?c281
 case b281 => (intro w h;have F:=Ok.sees h;clear h;simp only [sees,kBlk,cellsAt,Nat.reduceAdd] at F; go_simp;try with_reducible rfl)
 try simp only [Act.put,wp1,wp2,wp3,wp4,wp5,wp6]
 refine wtg (i:=5) (v:=?a283) rfl ?b283 (by assumption) ?c283
 case b283 => (intro w h;have F:=Ok.sees h;clear h;simp only [sees,kBlk,cellsAt,Nat.reduceAdd] at F; go_simp;try with_reducible rfl)
 try simp only [Act.put,wp1,wp2,wp3,wp4,wp5,wp6]
 refine wtg (i:=6) (v:=?a285) rfl ?b285 (by assumption) ?c285
 case b285 => (intro w h;have F:=Ok.sees h;clear h;simp only [sees,kBlk,cellsAt,Nat.reduceAdd] at F; go_simp;try with_reducible rfl)
 try simp only [Act.put,wp1,wp2,wp3,wp4,wp5,wp6]
 refine wtg (i:=7) (v:=?a287) rfl ?b287 (by assumption) ?c287
 case b287 => (intro w h;have F:=Ok.sees h;clear h;simp only [sees,kBlk,cellsAt,Nat.reduceAdd] at F; go_simp;try with_reducible rfl)
 try simp only [Act.put,wp1,wp2,wp3,wp4,wp5,wp6]
 refine wtg (i:=8) (v:=?a289) rfl ?b289 (by assumption) ?c289
 case b289 => (intro w h;have F:=Ok.sees h;clear h;simp only [sees,kBlk,cellsAt,Nat.reduceAdd] at F; go_simp;try with_reducible rfl)
 try simp only [Act.put,wp1,wp2,wp3,wp4,wp5,wp6]
 refine wtg (i:=9) (v:=?a291) rfl ?b291 (by assumption) ?c291
 case b291 => (intro w h;have F:=Ok.sees h;clear h;simp only [sees,kBlk,cellsAt,Nat.reduceAdd] at F; go_simp;try with_reducible rfl)
 try simp only [Act.put,wp1,wp2,wp3,wp4,wp5,wp6]
 refine wtg (i:=11) (v:=?a293) rfl ?b293 (by assumption) ?c293
 case b293 => (intro w h;have F:=Ok.sees h;clear h;simp only [sees,kBlk,cellsAt,Nat.reduceAdd] at F; go_simp;try with_reducible rfl)
 try simp only [Act.put,wp1,wp2,wp3,wp4,wp5,wp6]
 refine wpAnyH_ready (rs:=[10]) (by kernel_rfl) (by simp) ?_
 refine AllReadyH.cons rfl (fun K hK => ?_) AllReadyH.nil
 go_simp
 refine (HPV.out _).mono ?_
 rintro e w5 ⟨rfl,hb6⟩
 go_wp2_with fail
 refine hK.out _ _ (hHeld.below hb6) (fun hHeld => ?_)
 clear hK K
 try simp only [Act.put,wp1,wp2,wp3,wp4,wp5,wp6]
 refine wtg (i:=12) (v:=?a296) rfl ?b296 (by assumption) ?c296
 case b296 => (intro w h;have F:=Ok.sees h;clear h;simp only [sees,kBlk,cellsAt,Nat.reduceAdd] at F; go_simp;try with_reducible rfl)
 try simp only [Act.put,wp1,wp2,wp3,wp4,wp5,wp6]
 refine wtg (i:=13) (v:=?a298) rfl ?b298 (by assumption) ?c298
 case b298 => (intro w h;have F:=Ok.sees h;clear h;simp only [sees,kBlk,cellsAt,Nat.reduceAdd] at F; go_simp;try with_reducible rfl)
 try simp only [Act.put,wp1,wp2,wp3,wp4,wp5,wp6]
 refine wpAnyH_done (by kernel_rfl) ?_ _
 clear z0 q00 q01 q02 q03 q04 q05 q06 q07 q08 q09 q0a q0b q0c
 clear H1
 have H7:=Lib.hid hHeld
 clear hHeld
 have F8:=H7.out.sees
 simp only [sees,kBlk,cellsAt,Nat.reduceAdd] at F8
 obtain ⟨⟨z0,q00,q01,q02,q03,q04,q05,q06,q07,q08,q09,q0a,q0b,q0c,-⟩,-⟩:=F8
 go_upto_region 3 with fail
 go_cut [3] (fun s3 wx => s3 = .bool true ∧ Hid (Ok w [kBlk (w.heap.size) 28 [.int .u8 6,.int .i64 u,.int .i64 x1,.int .i64 y1,.int .i64 x2,.int .i64 y2,.string ⟨inp.toArray⟩,.int .u64 (a : Nat),.int .u64 (b : Nat),.int .u64 (c : Nat),.int .u8 (f : Nat),.int .u64 (t : Nat),.int .i64 n]] wx))
 case first =>
  have ho:=HO.out
  cases h1 : (x1 == x2)
  ·rw [h1,Bool.false_and] at ho
   first | (exfalso; revert ho; decide) | skip
   all_goals go_wp2_with fail
   all_goals go_meet
   all_goals exact ⟨rfl,H7⟩
  ·cases h2 : (y1 == y2)
   ·rw [h1,h2] at ho
    dsimp only [Bool.and] at ho
    first | (exfalso; revert ho; decide) | skip
    all_goals go_wp2_with fail
    all_goals go_meet
    all_goals exact ⟨rfl,H7⟩
   ·rw [h1,h2] at ho
    dsimp only [Bool.and] at ho
    first | (exfalso; revert ho; decide) | skip
    all_goals go_wp2_with fail
    all_goals go_meet
    all_goals exact ⟨rfl,H7⟩
 case rest =>
  clear z0 q00 q01 q02 q03 q04 q05 q06 q07 q08 q09 q0a q0b q0c
  clear H7
  obtain ⟨rfl,H⟩:=hcut
  have F9:=H.out.sees
  simp only [sees,kBlk,cellsAt,Nat.reduceAdd] at F9
  obtain ⟨⟨z0,q00,q01,q02,q03,q04,q05,q06,q07,q08,q09,q0a,q0b,q0c,-⟩,-⟩:=F9
  go_wp2_with fail
  refine (ref4_Plain ⟨inp.toArray⟩ _ HL.out).mono ?_
  rintro e w9 ⟨rfl,rfl⟩
  rw [show (⟨inp.toArray⟩ : ByteArray).data.toList = inp from rfl,HC.out]
  go_wp2_with fail
  go_ret
  exact ⟨rfl,H.out.bel⟩
end Go.Proofs.YtjbimcdofenmdaaGreatDoor
