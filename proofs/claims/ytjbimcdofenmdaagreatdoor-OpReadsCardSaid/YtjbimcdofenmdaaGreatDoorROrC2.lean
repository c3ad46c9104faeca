/- The reference of chapter 29: Check. -/
import Derived.Test.YtjbimcdofenmdaaGreatDoorROrB
import Derived.Test.YtjbimcdofenmdaaGreatDoorMOk
import Derived.Test.YtjbimcdofenmdaaGreatDoorMOpC
import Derived.Test.YtjbimcdofenmdaaGreatDoorMOr4
namespace Go.Proofs.YtjbimcdofenmdaaGreatDoor
open Go.RowKit
set_option maxRecDepth 100000 in
set_option maxHeartbeats 4000000 in
theorem r9_check_8_long (u x1 y1 x2 y2 : Int) (inp : List UInt8) (a b c f t : Nat) (n : Int) (HP : ∀ w : World,Calls Tryz.prog 18 #[.agg #[.int .u8 8,.int .i64 u,.int .i64 x1,.int .i64 y1,.int .i64 x2,.int .i64 y2,.string ⟨inp.toArray⟩,.int .u64 (a : Nat),.int .u64 (b : Nat),.int .u64 (c : Nat),.int .u8 (f : Nat),.int .u64 (t : Nat),.int .i64 n]] w fun e w' => e = .returned (.agg #[.int .u8 8,.int .i64 u,.int .i64 x1,.int .i64 y1,.int .i64 x2,.int .i64 y2,.string ⟨inp.toArray⟩,.int .u64 (a : Nat),.int .u64 (b : Nat),.int .u64 (c : Nat),.int .u8 (f : Nat),.int .u64 (t : Nat),.int .i64 n]) ∧ Below w.heap.size w w') (o : Bool) (ho : o = ((x1 == x2) && (y1 == y2))) (hl : 256 < inp.length) (w : World) :
  Calls Tryz.prog 14 #[.agg #[.int .u8 8,.int .i64 u,.int .i64 x1,.int .i64 y1,.int .i64 x2,.int .i64 y2,.string ⟨inp.toArray⟩,.int .u64 (a : Nat),.int .u64 (b : Nat),.int .u64 (c : Nat),.int .u8 (f : Nat),.int .u64 (t : Nat),.int .i64 n]] w fun e w' => e = .returned (.int .i64 4) ∧ Below w.heap.size w w':=by
 have HPV:=keep HP
 clear HP
 have HO:=keep ho
 clear ho
 have gl : (inp.length : Int) > 256:=by omega
 clear hl
 have H1:=Lib.hid ((Ok.start w).alloc w.heap.size 28 [.int .u8 8,.int .i64 u,.int .i64 x1,.int .i64 y1,.int .i64 x2,.int .i64 y2,.string ⟨inp.toArray⟩,.int .u64 (a : Nat),.int .u64 (b : Nat),.int .u64 (c : Nat),.int .u8 (f : Nat),.int .u64 (t : Nat),.int .i64 n] rfl)
 go_enter Tryz.func14,Tryz.ntmps14
 go_upto_region 1 with fail
 generalize (w.alloc (.cells #[.int .u8 8,.int .i64 u,.int .i64 x1,.int .i64 y1,.int .i64 x2,.int .i64 y2,.string ⟨inp.toArray⟩,.int .u64 (a : Nat),.int .u64 (b : Nat),.int .u64 (c : Nat),.int .u8 (f : Nat),.int .u64 (t : Nat),.int .i64 n] 28)) = W2 at H1 ⊢
 have F3:=H1.out.sees
 simp only [sees,kBlk,cellsAt,Nat.reduceAdd] at F3
 obtain ⟨⟨z0,q00,q01,q02,q03,q04,q05,q06,q07,q08,q09,q0a,q0b,q0c,-⟩,-⟩:=F3
 refine wp_region_held_drew (S:=fun W => Ok w [kBlk (w.heap.size) 28 [.int .u8 8,.int .i64 u,.int .i64 x1,.int .i64 y1,.int .i64 x2,.int .i64 y2,.string ⟨inp.toArray⟩,.int .u64 (a : Nat),.int .u64 (b : Nat),.int .u64 (c : Nat),.int .u8 (f : Nat),.int .u64 (t : Nat),.int .i64 n]] W) (by kernel_rfl) H1.out.drew (fun hHeld => ?_)
 refine wtg (i:=0) (v:=?a1) rfl ?b1 (by assumption) ?c1
 case b1 => (intro w h;have F:=Ok.sees h;clear h;simp only [sees,kBlk,cellsAt,Nat.reduceAdd] at F; go_simp;try with_reducible rfl)
 try simp only [Act.put,wp1,wp2,wp3,wp4,wp6]
 refine wtg (i:=1) (v:=?a3) rfl ?b3 (by assumption) ?c3
 case b3 => (intro w h;have F:=Ok.sees h;clear h;simp only [sees,kBlk,cellsAt,Nat.reduceAdd] at F; go_simp;try with_reducible rfl)
 try simp only [Act.put,wp1,wp2,wp3,wp4,wp5,wp6]
 refine wtg (i:=2) (v:=?a5) rfl ?b5 (by assumption) ?c5
 case b5 => (intro w h;have F:=Ok.sees h;clear h;simp only [sees,kBlk,cellsAt,Nat.reduceAdd] at F; go_simp;try with_reducible rfl)
 try simp only [Act.put,wp1,wp2,wp3,wp4,wp5,wp6]
 refine wtg (i:=3) (v:=?a7) rfl ?b7 (by assumption) ?c7
 case b7 => (intro w h;have F:=Ok.sees h;clear h;simp only [sees,kBlk,cellsAt,Nat.reduceAdd] at F; go_simp;try with_reducible rfl)
 try simp only [Act.put,wp1,wp2,wp3,wp4,wp5,wp6]
 refine wtg (i:=4) (v:=?a9) rfl ?b9 (by assumption) ?c9
 case b9 => (intro w h;have F:=Ok.sees h;clear h;simp only [sees,kBlk,cellsAt,Nat.reduceAdd] at F; go_simp;try with_reducible rfl)
 try simp only [Act.put,wp1,wp2,wp3,wp4,wp5,wp6]
 refine wtg (i:=5) (v:=?a11) rfl ?b11 (by assumption) ?c11
 case b11 => (intro w h;have F:=Ok.sees h;clear h;simp only [sees,kBlk,cellsAt,Nat.reduceAdd] at F; go_simp;try with_reducible rfl)
 try simp only [Act.put,wp1,wp2,wp3,wp4,wp5,wp6]
 refine wtg (i:=6) (v:=?a13) rfl ?b13 (by assumption) ?c13
 case b13 => (intro w h;have F:=Ok.sees h;clear h;simp only [sees,kBlk,cellsAt,Nat.reduceAdd] at F; go_simp;try with_reducible rfl)
 try simp only [Act.put,wp1,wp2,wp3,wp4,wp5,wp6]
 refine wtg (i:=7) (v:=?a15) rfl ?b15 (by assumption) ?c15
 case b15 => (intro w h;have F:=Ok.sees h;clear h;simp only [sees,kBlk,cellsAt,Nat.reduceAdd] at F; go_simp;try with_reducible rfl)
 try simp only [Act.put,wp1,wp2,wp3,wp4,wp5,wp6]
 refine wtg (i:=8) (v:=?a17) rfl ?b17 (by assumption) ?c17
 case b17 => (intro w h;have F:=Ok.sees h;clear h;simp only [sees,kBlk,cellsAt,Nat.reduceAdd] at F; go_simp;try with_reducible rfl)
 try simp only [Act.put,wp1,wp2,wp3,wp4,wp5,wp6]
 refine wtg (i:=9) (v:=?a19) rfl ?b19 (by assumption) ?c19
 case b19 => (intro w h;have F:=Ok.sees h;clear h;simp only [sees,kBlk,cellsAt,Nat.reduceAdd] at F; go_simp;try with_reducible rfl)
 try simp only [Act.put,wp1,wp2,wp3,wp4,wp5,wp6]
 refine wtg (i:=11) (v:=?a21) rfl ?b21 (by assumption) ?c21
 case b21 => (intro w h;have F:=Ok.sees h;clear h;simp only [sees,kBlk,cellsAt,Nat.reduceAdd] at F; go_simp;try with_reducible rfl)
 try simp only [Act.put,wp1,wp2,wp3,wp4,wp5,wp6]
 refine wpAnyH_ready (rs:=[10]) (by kernel_rfl) (by simp) ?_
 refine AllReadyH.cons rfl (fun K hK => ?_) AllReadyH.nil
 go_simp
 refine (HPV.out _).mono ?_
 rintro e w5 ⟨rfl,hb6⟩
 go_wp2_with fail
 refine hK.out _ _ (hHeld.below hb6) (fun hHeld => ?_)
 clear hK K
 try simp only [Act.put,wp1,wp2,wp3,wp4,wp5,wp6]
 refine wtg (i:=12) (v:=?a24) rfl ?b24 (by assumption) ?c24
 case b24 => (intro w h;have F:=Ok.sees h;clear h;simp only [sees,kBlk,cellsAt,Nat.reduceAdd] at F; go_simp;try with_reducible rfl)
 try simp only [Act.put,wp1,wp2,wp3,wp4,wp5,wp6]
 refine wtg (i:=13) (v:=?a26) rfl ?b26 (by assumption) ?c26
 case b26 => (intro w h;have F:=Ok.sees h;clear h;simp only [sees,kBlk,cellsAt,Nat.reduceAdd] at F; go_simp;try with_reducible rfl)
 try simp only [Act.put,wp1,wp2,wp3,wp4,wp5,wp6]
 refine wpAnyH_done (by kernel_rfl) ?_ _
 clear z0 q00 q01 q02 q03 q04 q05 q06 q07 q08 q09 q0a q0b q0c
 clear H1
 have H7:=Lib.hid hHeld
 clear hHeld
 have F8:=H7.out.sees
 simp only [sees,kBlk,cellsAt,Nat.reduceAdd] at F8
 obtain ⟨⟨z0,q00,q01,q02,q03,q04,q05,q06,q07,q08,q09,q0a,q0b,q0c,-⟩,-⟩:=F8
 go_upto_region 3 with fail
 go_cut [3] (fun s3 wx => s3 = .bool o ∧ Hid (Ok w [kBlk (w.heap.size) 28 [.int .u8 8,.int .i64 u,.int .i64 x1,.int .i64 y1,.int .i64 x2,.int .i64 y2,.string ⟨inp.toArray⟩,.int .u64 (a : Nat),.int .u64 (b : Nat),.int .u64 (c : Nat),.int .u8 (f : Nat),.int .u64 (t : Nat),.int .i64 n]] wx))
 case first =>
  have ho:=HO.out
  cases h1 : (x1 == x2)
  ·rw [h1,Bool.false_and] at ho
   subst ho
   all_goals go_wp2_with fail
   all_goals go_meet
   all_goals exact ⟨rfl,H7⟩
  ·cases h2 : (y1 == y2)
   ·rw [h1,h2] at ho
    dsimp only [Bool.and] at ho
    subst ho
    all_goals go_wp2_with fail
    all_goals go_meet
    all_goals exact ⟨rfl,H7⟩
   ·rw [h1,h2] at ho
    dsimp only [Bool.and] at ho
    subst ho
    all_goals go_wp2_with fail
    all_goals go_meet
    all_goals exact ⟨rfl,H7⟩
 case rest =>
  clear z0 q00 q01 q02 q03 q04 q05 q06 q07 q08 q09 q0a q0b q0c
  clear H7
  obtain ⟨rfl,H⟩:=hcut
  have F9:=H.out.sees
  simp only [sees,kBlk,cellsAt,Nat.reduceAdd] at F9
  obtain ⟨⟨z0,q00,q01,q02,q03,q04,q05,q06,q07,q08,q09,q0a,q0b,q0c,-⟩,-⟩:=F9
  go_wp2_with fail
  go_ret
  exact ⟨rfl,H.out.bel⟩
set_option maxRecDepth 100000 in
set_option maxHeartbeats 4000000 in
theorem r9_check_8_ugly (u x1 y1 x2 y2 : Int) (inp : List UInt8) (a b c f t : Nat) (n : Int) (HP : ∀ w : World,Calls Tryz.prog 18 #[.agg #[.int .u8 8,.int .i64 u,.int .i64 x1,.int .i64 y1,.int .i64 x2,.int .i64 y2,.string ⟨inp.toArray⟩,.int .u64 (a : Nat),.int .u64 (b : Nat),.int .u64 (c : Nat),.int .u8 (f : Nat),.int .u64 (t : Nat),.int .i64 n]] w fun e w' => e = .returned (.agg #[.int .u8 8,.int .i64 u,.int .i64 x1,.int .i64 y1,.int .i64 x2,.int .i64 y2,.string ⟨inp.toArray⟩,.int .u64 (a : Nat),.int .u64 (b : Nat),.int .u64 (c : Nat),.int .u8 (f : Nat),.int .u64 (t : Nat),.int .i64 n]) ∧ Below w.heap.size w w') (o : Bool) (ho : o = ((x1 == x2) && (y1 == y2))) (hl : inp.length ≤ 256) (hc : inp.all plainB = false) (w : World) :
  Calls Tryz.prog 14 #[.agg #[.int .u8 8,.int .i64 u,.int .i64 x1,.int .i64 y1,.int .i64 x2,.int .i64 y2,.string ⟨inp.toArray⟩,.int .u64 (a : Nat),.int .u64 (b : Nat),.int .u64 (c : Nat),.int .u8 (f : Nat),.int .u64 (t : Nat),.int .i64 n]] w fun e w' => e = .returned (.int .i64 4) ∧ Below w.heap.size w w':=by
 have HPV:=keep HP
 clear HP
 have HO:=keep ho
 clear ho
 have gl : ¬ (inp.length : Int) > 256:=by omega
 have HC:=keep hc
 have HL:=keep (show inp.length ≤ 4611686018427387904 by omega)
 clear hl hc
 have H1:=Lib.hid ((Ok.start w).alloc w.heap.size 28 [.int .u8 8,.int .i64 u,.int .i64 x1,.int .i64 y1,.int .i64 x2,.int .i64 y2,.string ⟨inp.toArray⟩,.int .u64 (a : Nat),.int .u64 (b : Nat),.int .u64 (c : Nat),.int .u8 (f : Nat),.int .u64 (t : Nat),.int .i64 n] rfl)
 go_enter Tryz.func14,Tryz.ntmps14
 go_upto_region 1 with fail
 generalize (w.alloc (.cells #[.int .u8 8,.int .i64 u,.int .i64 x1,.int .i64 y1,.int .i64 x2,.int .i64 y2,.string ⟨inp.toArray⟩,.int .u64 (a : Nat),.int .u64 (b : Nat),.int .u64 (c : Nat),.int .u8 (f : Nat),.int .u64 (t : Nat),.int .i64 n] 28)) = W2 at H1 ⊢
 have F3:=H1.out.sees
 simp only [sees,kBlk,cellsAt,Nat.reduceAdd] at F3
 obtain ⟨⟨z0,q00,q01,q02,q03,q04,q05,q06,q07,q08,q09,q0a,q0b,q0c,-⟩,-⟩:=F3
 refine wp_region_held_drew (S:=fun W => Ok w [kBlk (w.heap.size) 28 [.int .u8 8,.int .i64 u,.int .i64 x1,.int .i64 y1,.int .i64 x2,.int .i64 y2,.string ⟨inp.toArray⟩,.int .u64 (a : Nat),.int .u64 (b : Nat),.int .u64 (c : Nat),.int .u8 (f : Nat),.int .u64 (t : Nat),.int .i64 n]] W) (by kernel_rfl) H1.out.drew (fun hHeld => ?_)
 refine wtg (i:=0) (v:=?a28) rfl ?b28 (by assumption) ?c28
 case b28 => (intro w h;have F:=Ok.sees h;clear h;simp only [sees,kBlk,cellsAt,Nat.reduceAdd] at F; go_simp;try with_reducible rfl)
 try simp only [Act.put,wp1,wp2,wp3,wp4,wp6]
 refine wtg (i:=1) (v:=?a30) rfl ?b30 (by assumption) ?c30
 case b30 => (intro w h;have F:=Ok.sees h;clear h;simp only [sees,kBlk,cellsAt,Nat.reduceAdd] at F; go_simp;try with_reducible rfl)
 try simp only [Act.put,wp1,wp2,wp3,wp4,wp5,wp6]
 refine wtg (i:=2) (v:=?a32) rfl ?b32 (by assumption) ?c32
 case b32 => (intro w h;have F:=Ok.sees h;clear h;simp only [sees,kBlk,cellsAt,Nat.reduceAdd] at F; go_simp;try with_reducible rfl)
 try simp only [Act.put,wp1,wp2,wp3,wp4,wp5,wp6]
 refine wtg (i:=3) (v:=?a34) rfl ?b34 (by assumption) ?c34
 case b34 => (intro w h;have F:=Ok.sees h;clear h;simp only [sees,kBlk,cellsAt,Nat.reduceAdd] at F; go_simp;try with_reducible rfl)
 try simp only [Act.put,wp1,wp2,wp3,wp4,wp5,wp6]
 refine wtg (i:=4) (v:=?a36) rfl ?b36 (by assumption) ?c36
 case b36 => (intro w h;have F:=Ok.sees h;clear h;simp only [sees,kBlk,cellsAt,Nat.reduceAdd] at F; go_simp;try with_reducible rfl)
 try simp only [Act.put,wp1,wp2,wp3,wp4,wp5,wp6]
 refine wtg (i:=5) (v:=?a38) rfl ?b38 (by assumption) ?c38
 case b38 => (intro w h;have F:=Ok.sees h;clear h;simp only [sees,kBlk,cellsAt,Nat.reduceAdd] at F; go_simp;try with_reducible rfl)
 try simp only [Act.put,wp1,wp2,wp3,wp4,wp5,wp6]
 refine wtg (i:=6) (v:=?a40) rfl ?b40 (by assumption) ?c40
 case b40 => (intro w h;have F:=Ok.sees h;clear h;simp only [sees,kBlk,cellsAt,Nat.reduceAdd] at F; go_simp;try with_reducible rfl)
 try simp only [Act.put,wp1,wp2,wp3,wp4,wp5,wp6]
 refine wtg (i:=7) (v:=?a42) rfl ?b42 (by assumption) ?c42
 case b42 => (intro w h;have F:=Ok.sees h;clear h;simp only [sees,kBlk,cellsAt,Nat.reduceAdd] at F; go_simp;try with_reducible rfl)
 try simp only [Act.put,wp1,wp2,wp3,wp4,wp5,wp6]
 refine wtg (i:=8) (v:=?a44) rfl ?b44 (by assumption) ?c44
 case b44 => (intro w h;have F:=Ok.sees h;clear h;simp only [sees,kBlk,cellsAt,Nat.reduceAdd] at F; go_simp;try with_reducible rfl)
 try simp only [Act.put,wp1,wp2,wp3,wp4,wp5,wp6]
 refine wtg (i:=9) (v:=?a46) rfl ?b46 (by assumption) ?c46
 case b46 => (intro w h;have F:=Ok.sees h;clear h;simp only [sees,kBlk,cellsAt,Nat.reduceAdd] at F; go_simp;try with_reducible rfl)
 try simp only [Act.put,wp1,wp2,wp3,wp4,wp5,wp6]
 refine wtg (i:=11) (v:=?a48) rfl ?b48 (by assumption) ?c48
 case b48 => (intro w h;have F:=Ok.sees h;clear h;simp only [sees,kBlk,cellsAt,Nat.reduceAdd] at F; go_simp;try with_reducible rfl)
 try simp only [Act.put,wp1,wp2,wp3,wp4,wp5,wp6]
 refine wpAnyH_ready (rs:=[10]) (by kernel_rfl) (by simp) ?_
 refine AllReadyH.cons rfl (fun K hK => ?_) AllReadyH.nil
 go_simp
 refine (HPV.out _).mono ?_
 rintro e w5 ⟨rfl,hb6⟩
 go_wp2_with fail
 refine hK.out _ _ (hHeld.below hb6) (fun hHeld => ?_)
 clear hK K
 try simp only [Act.put,wp1,wp2,wp3,wp4,wp5,wp6]
 refine wtg (i:=12) (v:=?a51) rfl ?b51 (by assumption) ?c51
 case b51 => (intro w h;have F:=Ok.sees h;clear h;simp only [sees,kBlk,cellsAt,Nat.reduceAdd] at F; go_simp;try with_reducible rfl)
 try simp only [Act.put,wp1,wp2,wp3,wp4,wp5,wp6]
 refine wtg (i:=13) (v:=?a53) rfl ?b53 (by assumption) ?c53
 case b53 => (intro w h;have F:=Ok.sees h;clear h;simp only [sees,kBlk,cellsAt,Nat.reduceAdd] at F; go_simp;try with_reducible rfl)
 try simp only [Act.put,wp1,wp2,wp3,wp4,wp5,wp6]
 refine wpAnyH_done (by kernel_rfl) ?_ _
 clear z0 q00 q01 q02 q03 q04 q05 q06 q07 q08 q09 q0a q0b q0c
 clear H1
 have H7:=Lib.hid hHeld
 clear hHeld
 have F8:=H7.out.sees
 simp only [sees,kBlk,cellsAt,Nat.reduceAdd] at F8
 obtain ⟨⟨z0,q00,q01,q02,q03,q04,q05,q06,q07,q08,q09,q0a,q0b,q0c,-⟩,-⟩:=F8
 go_upto_region 3 with fail
 go_cut [3] (fun s3 wx => s3 = .bool o ∧ Hid (Ok w [kBlk (w.heap.size) 28 [.int .u8 8,.int .i64 u,.int .i64 x1,.int .i64 y1,.int .i64 x2,.int .i64 y2,.string ⟨inp.toArray⟩,.int .u64 (a : Nat),.int .u64 (b : Nat),.int .u64 (c : Nat),.int .u8 (f : Nat),.int .u64 (t : Nat),.int .i64 n]] wx))
 case first =>
  have ho:=HO.out
  cases h1 : (x1 == x2)
  ·rw [h1,Bool.false_and] at ho
   subst ho
   all_goals go_wp2_with fail
   all_goals go_meet
   all_goals exact ⟨rfl,H7⟩
  ·cases h2 : (y1 == y2)
   ·rw [h1,h2] at ho
    dsimp only [Bool.and] at ho
    subst ho
    all_goals go_wp2_with fail
    all_goals go_meet
    all_goals exact ⟨rfl,H7⟩
   ·rw [h1,h2] at ho
    dsimp only [Bool.and] at ho
    subst ho
    all_goals go_wp2_with fail
    all_goals go_meet
    all_goals exact ⟨rfl,H7⟩
 case rest =>
  clear z0 q00 q01 q02 q03 q04 q05 q06 q07 q08 q09 q0a q0b q0c
  clear H7
  obtain ⟨rfl,H⟩:=hcut
  have F9:=H.out.sees
  simp only [sees,kBlk,cellsAt,Nat.reduceAdd] at F9
  obtain ⟨⟨z0,q00,q01,q02,q03,q04,q05,q06,q07,q08,q09,q0a,q0b,q0c,-⟩,-⟩:=F9
  go_wp2_with fail
  refine (ref4_Plain ⟨inp.toArray⟩ _ HL.out).mono ?_
  rintro e w9 ⟨rfl,rfl⟩
  rw [show (⟨inp.toArray⟩ : ByteArray).data.toList = inp from rfl,HC.out]
  go_wp2_with fail
  go_ret
  exact ⟨rfl,H.out.bel⟩
set_option maxRecDepth 100000 in
set_option maxHeartbeats 4000000 in
theorem r9_check_8_flo (u x1 y1 x2 y2 : Int) (inp : List UInt8) (a b c f t : Nat) (n : Int) (HP : ∀ w : World,Calls Tryz.prog 18 #[.agg #[.int .u8 8,.int .i64 u,.int .i64 x1,.int .i64 y1,.int .i64 x2,.int .i64 y2,.string ⟨inp.toArray⟩,.int .u64 (a : Nat),.int .u64 (b : Nat),.int .u64 (c : Nat),.int .u8 (f : Nat),.int .u64 (t : Nat),.int .i64 n]] w fun e w' => e = .returned (.agg #[.int .u8 8,.int .i64 u,.int .i64 x1,.int .i64 y1,.int .i64 x2,.int .i64 y2,.string ⟨inp.toArray⟩,.int .u64 (a : Nat),.int .u64 (b : Nat),.int .u64 (c : Nat),.int .u8 (f : Nat),.int .u64 (t : Nat),.int .i64 n]) ∧ Below w.heap.size w w') (o : Bool) (ho : o = ((x1 == x2) && (y1 == y2))) (hl : inp.length ≤ 256) (hc : inp.all plainB = true) (h1 : f < 1) (w : World) :
  Calls Tryz.prog 14 #[.agg #[.int .u8 8,.int .i64 u,.int .i64 x1,.int .i64 y1,.int .i64 x2,.int .i64 y2,.string ⟨inp.toArray⟩,.int .u64 (a : Nat),.int .u64 (b : Nat),.int .u64 (c : Nat),.int .u8 (f : Nat),.int .u64 (t : Nat),.int .i64 n]] w fun e w' => e = .returned (.int .i64 4) ∧ Below w.heap.size w w':=by
 have HPV:=keep HP
 clear HP
 have HO:=keep ho
 clear ho
 have gl : ¬ (inp.length : Int) > 256:=by omega
 have HC:=keep hc
 have HL:=keep (show inp.length ≤ 4611686018427387904 by omega)
 clear hl hc
 have e1 : (f : Int) < 1:=by omega
 clear h1
 have H1:=Lib.hid ((Ok.start w).alloc w.heap.size 28 [.int .u8 8,.int .i64 u,.int .i64 x1,.int .i64 y1,.int .i64 x2,.int .i64 y2,.string ⟨inp.toArray⟩,.int .u64 (a : Nat),.int .u64 (b : Nat),.int .u64 (c : Nat),.int .u8 (f : Nat),.int .u64 (t : Nat),.int .i64 n] rfl)
 go_enter Tryz.func14,Tryz.ntmps14
 go_upto_region 1 with fail
 generalize (w.alloc (.cells #[.int .u8 8,.int .i64 u,.int .i64 x1,.int .i64 y1,.int .i64 x2,.int .i64 y2,.string ⟨inp.toArray⟩,.int .u64 (a : Nat),.int .u64 (b : Nat),.int .u64 (c : Nat),.int .u8 (f : Nat),.int .u64 (t : Nat),.int .i64 n] 28)) = W2 at H1 ⊢
 have F3:=H1.out.sees
 simp only [sees,kBlk,cellsAt,Nat.reduceAdd] at F3
 obtain ⟨⟨z0,q00,q01,q02,q03,q04,q05,q06,q07,q08,q09,q0a,q0b,q0c,-⟩,-⟩:=F3
 refine wp_region_held_drew (S:=fun W => Ok w [kBlk (w.heap.size) 28 [.int .u8 8,.int .i64 u,.int .i64 x1,.int .i64 y1,.int .i64 x2,.int .i64 y2,.string ⟨inp.toArray⟩,.int .u64 (a : Nat),.int .u64 (b : Nat),.int .u64 (c : Nat),.int .u8 (f : Nat),.int .u64 (t : Nat),.int .i64 n]] W) (by kernel_rfl) H1.out.drew (fun hHeld => ?_)
 refine wtg (i:=0) (v:=?a55) rfl ?b55 (by assumption) ?c55
 case b55 => (intro w h;have F:=Ok.sees h;clear h;simp only [sees,kBlk,cellsAt,Nat.reduceAdd] at F; go_simp;try with_reducible rfl)
 try simp only [Act.put,wp1,wp2,wp3,wp4,wp6]
 refine wtg (i:=1) (v:=?a57) rfl ?b57 (by assumption) ?c57
 case b57 => (intro w h;have F:=Ok.sees h;clear h;simp only [sees,kBlk,cellsAt,Nat.reduceAdd] at F; go_simp;try with_reducible rfl)
 try simp only [Act.put,wp1,wp2,wp3,wp4,wp5,wp6]
 refine wtg (i:=2) (v:=?a59) rfl ?b59 (by assumption) ?c59
 case b59 => (intro w h;have F:=Ok.sees h;clear h;simp only [sees,kBlk,cellsAt,Nat.reduceAdd] at F; go_simp;try with_reducible rfl)
 try simp only [Act.put,wp1,wp2,wp3,wp4,wp5,wp6]
 refine wtg (i:=3) (v:=?a61) rfl ?b61 (by assumption) ?c61
 case b61 => (intro w h;have F:=Ok.sees h;clear h;simp only [sees,kBlk,cellsAt,Nat.reduceAdd] at F; go_simp;try with_reducible rfl)
 try simp only [Act.put,wp1,wp2,wp3,wp4,wp5,wp6]
 refine wtg (i:=4) (v:=?a63) rfl ?b63 (by assumption) ?c63
 case b63 => (intro w h;have F:=Ok.sees h;clear h;simp only [sees,kBlk,cellsAt,Nat.reduceAdd] at F; go_simp;try with_reducible rfl)
 try simp only [Act.put,wp1,wp2,wp3,wp4,wp5,wp6]
 refine wtg (i:=5) (v:=?a65) rfl ?b65 (by assumption) ?c65
 case b65 => (intro w h;have F:=Ok.sees h;clear h;simp only [sees,kBlk,cellsAt,Nat.reduceAdd] at F; go_simp;try with_reducible rfl)
 try simp only [Act.put,wp1,wp2,wp3,wp4,wp5,wp6]
 refine wtg (i:=6) (v:=?a67) rfl ?b67 (by assumption) ?c67
 case b67 => (intro w h;have F:=Ok.sees h;clear h;simp only [sees,kBlk,cellsAt,Nat.reduceAdd] at F; go_simp;try with_reducible rfl)
 try simp only [Act.put,wp1,wp2,wp3,wp4,wp5,wp6]
 refine wtg (i:=7) (v:=?a69) rfl ?b69 (by assumption) ?c69
 case b69 => (intro w h;have F:=Ok.sees h;clear h;simp only [sees,kBlk,cellsAt,Nat.reduceAdd] at F; go_simp;try with_reducible rfl)
 try simp only [Act.put,wp1,wp2,wp3,wp4,wp5,wp6]
 refine wtg (i:=8) (v:=?a71) rfl ?b71 (by assumption) ?c71
 case b71 => (intro w h;have F:=Ok.sees h;clear h;simp only [sees,kBlk,cellsAt,Nat.reduceAdd] at F; go_simp;try with_reducible rfl)
 try simp only [Act.put,wp1,wp2,wp3,wp4,wp5,wp6]
 refine wtg (i:=9) (v:=?a73) rfl ?b73 (by assumption) ?c73
 case b73 => (intro w h;have F:=Ok.sees h;clear h;simp only [sees,kBlk,cellsAt,Nat.reduceAdd] at F; go_simp;try with_reducible rfl)
 try simp only [Act.put,wp1,wp2,wp3,wp4,wp5,wp6]
 refine wtg (i:=11) (v:=?a75) rfl ?b75 (by assumption) ?c75
 case b75 => (intro w h;have F:=Ok.sees h;clear h;simp only [sees,kBlk,cellsAt,Nat.reduceAdd] at F; go_simp;try with_reducible rfl)
 try simp only [Act.put,wp1,wp2,wp3,wp4,wp5,wp6]
 refine wpAnyH_ready (rs:=[10]) (by kernel_rfl) (by simp) ?_
 refine AllReadyH.cons rfl (fun K hK => ?_) AllReadyH.nil
 go_simp
 refine (HPV.out _).mono ?_
 rintro e w5 ⟨rfl,hb6⟩
 go_wp2_with fail
 refine hK.out _ _ (hHeld.below hb6) (fun hHeld => ?_)
 clear hK K
 try simp only [Act.put,wp1,wp2,wp3,wp4,wp5,wp6]
 refine wtg (i:=12) (v:=?a78) rfl ?b78 (by assumption) ?c78
 case b78 => (intro w h;have F:=Ok.sees h;clear h;simp only [sees,kBlk,cellsAt,Nat.reduceAdd] at F; go_simp;try with_reducible rfl)
 try simp only [Act.put,wp1,wp2,wp3,wp4,wp5,wp6]
 refine wtg (i:=13) (v:=?a80) rfl ?b80 (by assumption) ?c80
 case b80 => (intro w h;have F:=Ok.sees h;clear h;simp only [sees,kBlk,cellsAt,Nat.reduceAdd] at F; go_simp;try with_reducible rfl)
 try simp only [Act.put,wp1,wp2,wp3,wp4,wp5,wp6]
 refine wpAnyH_done (by kernel_rfl) ?_ _
 clear z0 q00 q01 q02 q03 q04 q05 q06 q07 q08 q09 q0a q0b q0c
 clear H1
 have H7:=Lib.hid hHeld
 clear hHeld
 have F8:=H7.out.sees
 simp only [sees,kBlk,cellsAt,Nat.reduceAdd] at F8
 obtain ⟨⟨z0,q00,q01,q02,q03,q04,q05,q06,q07,q08,q09,q0a,q0b,q0c,-⟩,-⟩:=F8
 go_upto_region 3 with fail
 go_cut [3] (fun s3 wx => s3 = .bool o ∧ Hid (Ok w [kBlk (w.heap.size) 28 [.int .u8 8,.int .i64 u,.int .i64 x1,.int .i64 y1,.int .i64 x2,.int .i64 y2,.string ⟨inp.toArray⟩,.int .u64 (a : Nat),.int .u64 (b : Nat),.int .u64 (c : Nat),.int .u8 (f : Nat),.int .u64 (t : Nat),.int .i64 n]] wx))
 case first =>
  have ho:=HO.out
  cases h1 : (x1 == x2)
  ·rw [h1,Bool.false_and] at ho
   subst ho
   all_goals go_wp2_with fail
   all_goals go_meet
   all_goals exact ⟨rfl,H7⟩
  ·cases h2 : (y1 == y2)
   ·rw [h1,h2] at ho
    dsimp only [Bool.and] at ho
    subst ho
    all_goals go_wp2_with fail
    all_goals go_meet
    all_goals exact ⟨rfl,H7⟩
   ·rw [h1,h2] at ho
    dsimp only [Bool.and] at ho
    subst ho
    all_goals go_wp2_with fail
    all_goals go_meet
    all_goals exact ⟨rfl,H7⟩
 case rest =>
  clear z0 q00 q01 q02 q03 q04 q05 q06 q07 q08 q09 q0a q0b q0c
  clear H7
  obtain ⟨rfl,H⟩:=hcut
  have F9:=H.out.sees
  simp only [sees,kBlk,cellsAt,Nat.reduceAdd] at F9
  obtain ⟨⟨z0,q00,q01,q02,q03,q04,q05,q06,q07,q08,q09,q0a,q0b,q0c,-⟩,-⟩:=F9
  go_wp2_with fail
  refine (ref4_Plain ⟨inp.toArray⟩ _ HL.out).mono ?_
  rintro e w9 ⟨rfl,rfl⟩
  rw [show (⟨inp.toArray⟩ : ByteArray).data.toList = inp from rfl,HC.out]
  go_wp2_with fail
  go_ret
  exact ⟨rfl,H.out.bel⟩
set_option maxRecDepth 100000 in
set_option maxHeartbeats 4000000 in
theorem r9_check_8_fhi (u x1 y1 x2 y2 : Int) (inp : List UInt8) (a b c f t : Nat) (n : Int) (HP : ∀ w : World,Calls Tryz.prog 18 #[.agg #[.int .u8 8,.int .i64 u,.int .i64 x1,.int .i64 y1,.int .i64 x2,.int .i64 y2,.string ⟨inp.toArray⟩,.int .u64 (a : Nat),.int .u64 (b : Nat),.int .u64 (c : Nat),.int .u8 (f : Nat),.int .u64 (t : Nat),.int .i64 n]] w fun e w' => e = .returned (.agg #[.int .u8 8,.int .i64 u,.int .i64 x1,.int .i64 y1,.int .i64 x2,.int .i64 y2,.string ⟨inp.toArray⟩,.int .u64 (a : Nat),.int .u64 (b : Nat),.int .u64 (c : Nat),.int .u8 (f : Nat),.int .u64 (t : Nat),.int .i64 n]) ∧ Below w.heap.size w w') (o : Bool) (ho : o = ((x1 == x2) && (y1 == y2))) (hl : inp.length ≤ 256) (hc : inp.all plainB = true) (h1 : 31 < f) (w : World) :
  Calls Tryz.prog 14 #[.agg #[.int .u8 8,.int .i64 u,.int .i64 x1,.int .i64 y1,.int .i64 x2,.int .i64 y2,.string ⟨inp.toArray⟩,.int .u64 (a : Nat),.int .u64 (b : Nat),.int .u64 (c : Nat),.int .u8 (f : Nat),.int .u64 (t : Nat),.int .i64 n]] w fun e w' => e = .returned (.int .i64 4) ∧ Below w.heap.size w w':=by
 have HPV:=keep HP
 clear HP
 have HO:=keep ho
 clear ho
 have gl : ¬ (inp.length : Int) > 256:=by omega
 have HC:=keep hc
 have HL:=keep (show inp.length ≤ 4611686018427387904 by omega)
 clear hl hc
 have e1 : ¬ (f : Int) < 1:=by omega
 have e2 : (f : Int) > 31:=by omega
 clear h1
 have H1:=Lib.hid ((Ok.start w).alloc w.heap.size 28 [.int .u8 8,.int .i64 u,.int .i64 x1,.int .i64 y1,.int .i64 x2,.int .i64 y2,.string ⟨inp.toArray⟩,.int .u64 (a : Nat),.int .u64 (b : Nat),.int .u64 (c : Nat),.int .u8 (f : Nat),.int .u64 (t : Nat),.int .i64 n] rfl)
 go_enter Tryz.func14,Tryz.ntmps14
 go_upto_region 1 with fail
 generalize (w.alloc (.cells #[.int .u8 8,.int .i64 u,.int .i64 x1,.int .i64 y1,.int .i64 x2,.int .i64 y2,.string ⟨inp.toArray⟩,.int .u64 (a : Nat),.int .u64 (b : Nat),.int .u64 (c : Nat),.int .u8 (f : Nat),.int .u64 (t : Nat),.int .i64 n] 28)) = W2 at H1 ⊢
 have F3:=H1.out.sees
 simp only [sees,kBlk,cellsAt,Nat.reduceAdd] at F3
 obtain ⟨⟨z0,q00,q01,q02,q03,q04,q05,q06,q07,q08,q09,q0a,q0b,q0c,-⟩,-⟩:=F3
 refine wp_region_held_drew (S:=fun W => Ok w [kBlk (w.heap.size) 28 [.int .u8 8,.int .i64 u,.int .i64 x1,.int .i64 y1,.int .i64 x2,.int .i64 y2,.string ⟨inp.toArray⟩,.int .u64 (a : Nat),.int .u64 (b : Nat),.int .u64 (c : Nat),.int .u8 (f : Nat),.int .u64 (t : Nat),.int .i64 n]] W) (by kernel_rfl) H1.out.drew (fun hHeld => ?_)
 refine wtg (i:=0) (v:=?a82) rfl ?b82 (by assumption) ?c82
 case b82 => (intro w h;have F:=Ok.sees h;clear h;simp only [sees,kBlk,cellsAt,Nat.reduceAdd] at F; go_simp;try with_reducible rfl)
 try simp only [Act.put,wp1,wp2,wp3,wp4,wp6]
 refine wtg (i:=1) (v:=?a84) rfl ?b84 (by assumption) ?c84
 case b84 => (intro w h;have F:=Ok.sees h;clear h;simp only [sees,kBlk,cellsAt,Nat.reduceAdd] at F; go_simp;try with_reducible rfl)
 try simp only [Act.put,wp1,wp2,wp3,wp4,wp5,wp6]
 refine wtg (i:=2) (v:=?a86) rfl ?b86 (by assumption) ?c86
 case b86 => (intro w h;have F:=Ok.sees h;clear h;simp only [sees,kBlk,cellsAt,Nat.reduceAdd] at F; go_simp;try with_reducible rfl)
 try simp only [Act.put,wp1,wp2,wp3,wp4,wp5,wp6]
 refine wtg (i:=3) (v:=?a88) rfl ?b88 (by assumption) ?c88
 case b88 => (intro w h;have F:=Ok.sees h;clear h;simp only [sees,kBlk,cellsAt,Nat.reduceAdd] at F; go_simp;try with_reducible rfl)
 try simp only [Act.put,wp1,wp2,wp3,wp4,wp5,wp6]
 refine wtg (i:=4) (v:=?a90) rfl ?b90 (by assumption) ?c90
 case b90 => (intro w h;have F:=Ok.sees h;clear h;simp only [sees,kBlk,cellsAt,Nat.reduceAdd] at F; go_simp;try with_reducible rfl)
 try simp only [Act.put,wp1,wp2,wp3,wp4,wp5,wp6]
 refine wtg (i:=5) (v:=?a92) rfl ?b92 (by assumption) ?c92
 case b92 => (intro w h;have F:=Ok.sees h;clear h;simp only [sees,kBlk,cellsAt,Nat.reduceAdd] at F; go_simp;try with_reducible rfl)
 try simp only [Act.put,wp1,wp2,wp3,wp4,wp5,wp6]
 refine wtg (i:=6) (v:=?a94) rfl ?b94 (by assumption) ?c94
 case b94 => (intro w h;have F:=Ok.sees h;clear h;simp only [sees,kBlk,cellsAt,Nat.reduceAdd] at F; go_simp;try with_reducible rfl)
 try simp only [Act.put,wp1,wp2,wp3,wp4,wp5,wp6]
 refine wtg (i:=7) (v:=?a96) rfl ?b96 (by assumption) ?c96
 case b96 => (intro w h;have F:=Ok.sees h;clear h;simp only [sees,kBlk,cellsAt,Nat.reduceAdd] at F; go_simp;try with_reducible rfl)
 try simp only [Act.put,wp1,wp2,wp3,wp4,wp5,wp6]
 refine wtg (i:=8) (v:=?a98) rfl ?b98 (by assumption) ?c98
 case b98 => (intro w h;have F:=Ok.sees h;clear h;simp only [sees,kBlk,cellsAt,Nat.reduceAdd] at F; go_simp;try with_reducible rfl)
 try simp only [Act.put,wp1,wp2,wp3,wp4,wp5,wp6]
 refine wtg (i:=9) (v:=?a100) rfl ?b100 (by assumption) ?c100
 case b100 => (intro w h;have F:=Ok.sees h;clear h;simp only [sees,kBlk,cellsAt,Nat.reduceAdd] at F; go_simp;try with_reducible rfl)
 try simp only [Act.put,wp1,wp2,wp3,wp4,wp5,wp6]
 refine wtg (i:=11) (v:=?a102) rfl ?b102 (by assumption) ?c102
 case b102 => (intro w h;have F:=Ok.sees h;clear h;simp only [sees,kBlk,cellsAt,Nat.reduceAdd] at F; go_simp;try with_reducible rfl)
 try simp only [Act.put,wp1,wp2,wp3,wp4,wp5,wp6]
 refine wpAnyH_ready (rs:=[10]) (by kernel_rfl) (by simp) ?_
 refine AllReadyH.cons rfl (fun K hK => ?_) AllReadyH.nil
 go_simp
 refine (HPV.out _).mono ?_
 rintro e w5 ⟨rfl,hb6⟩
 go_wp2_with fail
 refine hK.out _ _ (hHeld.below hb6) (fun hHeld => ?_)
 clear hK K
 try simp only [Act.put,wp1,wp2,wp3,wp4,wp5,wp6]
 refine wtg (i:=12) (v:=?a105) rfl ?b105 (by assumption) ?c105
 case b105 => (intro w h;have F:=Ok.sees h;clear h;simp only [sees,kBlk,cellsAt,Nat.reduceAdd] at F; go_simp;try with_reducible rfl)
 try simp only [Act.put,wp1,wp2,wp3,wp4,wp5,wp6]
 refine wtg (i:=13) (v:=?a107) rfl ?b107 (by assumption) ?c107
 case b107 => (intro w h;have F:=Ok.sees h;clear h;simp only [sees,kBlk,cellsAt,Nat.reduceAdd] at F; go_simp;try with_reducible rfl)
 try simp only [Act.put,wp1,wp2,wp3,wp4,wp5,wp6]
 refine wpAnyH_done (by kernel_rfl) ?_ _
 clear z0 q00 q01 q02 q03 q04 q05 q06 q07 q08 q09 q0a q0b q0c
 clear H1
 have H7:=Lib.hid hHeld
 clear hHeld
 have F8:=H7.out.sees
 simp only [sees,kBlk,cellsAt,Nat.reduceAdd] at F8
 obtain ⟨⟨z0,q00,q01,q02,q03,q04,q05,q06,q07,q08,q09,q0a,q0b,q0c,-⟩,-⟩:=F8
 go_upto_region 3 with fail
 go_cut [3] (fun s3 wx => s3 = .bool o ∧ Hid (Ok w [kBlk (w.heap.size) 28 [.int .u8 8,.int .i64 u,.int .i64 x1,.int .i64 y1,.int .i64 x2,.int .i64 y2,.string ⟨inp.toArray⟩,.int .u64 (a : Nat),.int .u64 (b : Nat),.int .u64 (c : Nat),.int .u8 (f : Nat),.int .u64 (t : Nat),.int .i64 n]] wx))
 case first =>
  have ho:=HO.out
  cases h1 : (x1 == x2)
  ·rw [h1,Bool.false_and] at ho
   subst ho
   all_goals go_wp2_with fail
   all_goals go_meet
   all_goals exact ⟨rfl,H7⟩
  ·cases h2 : (y1 == y2)
   ·rw [h1,h2] at ho
    dsimp only [Bool.and] at ho
    subst ho
    all_goals go_wp2_with fail
    all_goals go_meet
    all_goals exact ⟨rfl,H7⟩
   ·rw [h1,h2] at ho
    dsimp only [Bool.and] at ho
    subst ho
    all_goals go_wp2_with fail
    all_goals go_meet
    all_goals exact ⟨rfl,H7⟩
 case rest =>
  clear z0 q00 q01 q02 q03 q04 q05 q06 q07 q08 q09 q0a q0b q0c
  clear H7
  obtain ⟨rfl,H⟩:=hcut
  have F9:=H.out.sees
  simp only [sees,kBlk,cellsAt,Nat.reduceAdd] at F9
  obtain ⟨⟨z0,q00,q01,q02,q03,q04,q05,q06,q07,q08,q09,q0a,q0b,q0c,-⟩,-⟩:=F9
  go_wp2_with fail
  refine (ref4_Plain ⟨inp.toArray⟩ _ HL.out).mono ?_
  rintro e w9 ⟨rfl,rfl⟩
  rw [show (⟨inp.toArray⟩ : ByteArray).data.toList = inp from rfl,HC.out]
  go_wp2_with fail
  go_ret
  exact ⟨rfl,H.out.bel⟩
set_option maxRecDepth 100000 in
set_option maxHeartbeats 4000000 in
theorem r9_check_8_fok (u x1 y1 x2 y2 : Int) (inp : List UInt8) (a b c f t : Nat) (n : Int) (HP : ∀ w : World,Calls Tryz.prog 18 #[.agg #[.int .u8 8,.int .i64 u,.int .i64 x1,.int .i64 y1,.int .i64 x2,.int .i64 y2,.string ⟨inp.toArray⟩,.int .u64 (a : Nat),.int .u64 (b : Nat),.int .u64 (c : Nat),.int .u8 (f : Nat),.int .u64 (t : Nat),.int .i64 n]] w fun e w' => e = .returned (.agg #[.int .u8 8,.int .i64 u,.int .i64 x1,.int .i64 y1,.int .i64 x2,.int .i64 y2,.string ⟨inp.toArray⟩,.int .u64 (a : Nat),.int .u64 (b : Nat),.int .u64 (c : Nat),.int .u8 (f : Nat),.int .u64 (t : Nat),.int .i64 n]) ∧ Below w.heap.size w w') (o : Bool) (ho : o = ((x1 == x2) && (y1 == y2))) (hl : inp.length ≤ 256) (hc : inp.all plainB = true) (h1 : 1 ≤ f) (h2 : f ≤ 31) (w : World) :
  Calls Tryz.prog 14 #[.agg #[.int .u8 8,.int .i64 u,.int .i64 x1,.int .i64 y1,.int .i64 x2,.int .i64 y2,.string ⟨inp.toArray⟩,.int .u64 (a : Nat),.int .u64 (b : Nat),.int .u64 (c : Nat),.int .u8 (f : Nat),.int .u64 (t : Nat),.int .i64 n]] w fun e w' => e = .returned (.int .i64 0) ∧ Below w.heap.size w w':=by
 have HPV:=keep HP
 clear HP
 have HO:=keep ho
 clear ho
 have gl : ¬ (inp.length : Int) > 256:=by omega
 have HC:=keep hc
 have HL:=keep (show inp.length ≤ 4611686018427387904 by omega)
 clear hl hc
 have e1 : ¬ (f : Int) < 1:=by omega
 have e2 : ¬ (f : Int) > 31:=by omega
 clear h1 h2
 have H1:=Lib.hid ((Ok.start w).alloc w.heap.size 28 [.int .u8 8,.int .i64 u,.int .i64 x1,.int .i64 y1,.int .i64 x2,.int .i64 y2,.string ⟨inp.toArray⟩,.int .u64 (a : Nat),.int .u64 (b : Nat),.int .u64 (c : Nat),.int .u8 (f : Nat),.int .u64 (t : Nat),.int .i64 n] rfl)
 go_enter Tryz.func14,Tryz.ntmps14
 go_upto_region 1 with fail
 generalize (w.alloc (.cells #[.int .u8 8,.int .i64 u,.int .i64 x1,.int .i64 y1,.int .i64 x2,.int .i64 y2,.string ⟨inp.toArray⟩,.int .u64 (a : Nat),.int .u64 (b : Nat),.int .u64 (c : Nat),.int .u8 (f : Nat),.int .u64 (t : Nat),.int .i64 n] 28)) = W2 at H1 ⊢
 have F3:=H1.out.sees
 simp only [sees,kBlk,cellsAt,Nat.reduceAdd] at F3
 obtain ⟨⟨z0,q00,q01,q02,q03,q04,q05,q06,q07,q08,q09,q0a,q0b,q0c,-⟩,-⟩:=F3
 refine wp_region_held_drew (S:=fun W => Ok w [kBlk (w.heap.size) 28 [.int .u8 8,.int .i64 u,.int .i64 x1,.int .i64 y1,.int .i64 x2,.int .i64 y2,.string ⟨inp.toArray⟩,.int .u64 (a : Nat),.int .u64 (b : Nat),.int .u64 (c : Nat),.int .u8 (f : Nat),.int .u64 (t : Nat),.int .i64 n]] W) (by kernel_rfl) H1.out.drew (fun hHeld => ?_)
 refine wtg (i:=0) (v:=?a109) rfl ?b109 (by assumption) ?c109
 case b109 => (intro w h;have F:=Ok.sees h;clear h;simp only [sees,kBlk,cellsAt,Nat.reduceAdd] at F; go_simp;try with_reducible rfl)
 try simp only [Act.put,wp1,wp2,wp3,wp4,wp6]
 refine wtg (i:=1) (v:=?a111) rfl ?b111 (by assumption) ?c111
 case b111 => (intro w h;have F:=Ok.sees h;clear h;simp only [sees,kBlk,cellsAt,Nat.reduceAdd] at F; go_simp;try with_reducible rfl)
 try simp only [Act.put,wp1,wp2,wp3,wp4,wp5,wp6]
 refine wtg (i:=2) (v:=?a113) rfl ?b113 (by assumption) ?c113
 case b113 => (intro w h;have F:=Ok.sees h;clear h;simp only [sees,kBlk,cellsAt,Nat.reduceAdd] at F; go_simp;try with_reducible rfl)
 try simp only [Act.put,wp1,wp2,wp3,wp4,wp5,wp6]
 refine wtg (i:=3) (v:=?a115) rfl ?b115 (by assumption) ?c115
 case b115 => (intro w h;have F:=Ok.sees h;clear h;simp only [sees,kBlk,cellsAt,Nat.reduceAdd] at F; go_simp;try with_reducible rfl)
 try simp only [Act.put,wp1,wp2,wp3,wp4,wp5,wp6]
 refine wtg (i:=4) (v:=?a117) rfl ?b117 (by assumption) ?c117
 case b117 => (intro w h;have F:=Ok.sees h;clear h;simp only [sees,kBlk,cellsAt,Nat.reduceAdd] at F; go_simp;try with_reducible rfl)
 try simp only [Act.put,wp1,wp2,wp3,wp4,wp5,wp6]
 refine wtg (i:=5) (v:=?a119) rfl ?b119 (by assumption) ?c119
 case b119 => (intro w h;have F:=Ok.sees h;clear h;simp only [sees,kBlk,cellsAt,Nat.reduceAdd] at F; go_simp;try with_reducible rfl)
 try simp only [Act.put,wp1,wp2,wp3,wp4,wp5,wp6]
 refine wtg (i:=6) (v:=?a121) rfl ?b121 (by assumption) ?c121
 case b121 => (intro w h;have F:=Ok.sees h;clear h;simp only [sees,kBlk,cellsAt,Nat.reduceAdd] at F; go_simp;try with_reducible rfl)
 try simp only [Act.put,wp1,wp2,wp3,wp4,wp5,wp6]
 refine wtg (i:=7) (v:=?a123) rfl ?b123 (by assumption) ?c123
 case b123 => (intro w h;have F:=Ok.sees h;clear h;simp only [sees,kBlk,cellsAt,Nat.reduceAdd] at F; go_simp;try with_reducible rfl)
 try simp only [Act.put,wp1,wp2,wp3,wp4,wp5,wp6]
 refine wtg (i:=8) (v:=?a125) rfl ?b125 (by assumption) ?c125
 case b125 => (intro w h;have F:=Ok.sees h;clear h;simp only [sees,kBlk,cellsAt,Nat.reduceAdd] at F; go_simp;try with_reducible rfl)
 try simp only [Act.put,wp1,wp2,wp3,wp4,wp5,wp6]
 refine wtg (i:=9) (v:=?a127) rfl ?b127 (by assumption) ?c127
 case b127 => (intro w h;have F:=Ok.sees h;clear h;simp only [sees,kBlk,cellsAt,Nat.reduceAdd] at F; go_simp;try with_reducible rfl)
 try simp only [Act.put,wp1,wp2,wp3,wp4,wp5,wp6]
 refine wtg (i:=11) (v:=?a129) rfl ?b129 (by assumption) ?c129
 case b129 => (intro w h;have F:=Ok.sees h;clear h;simp only [sees,kBlk,cellsAt,Nat.reduceAdd] at F; go_simp;try with_reducible rfl)
 try simp only [Act.put,wp1,wp2,wp3,wp4,wp5,wp6]
 refine wpAnyH_ready (rs:=[10]) (by kernel_rfl) (by simp) ?_
 refine AllReadyH.cons rfl (fun K hK => ?_) AllReadyH.nil
 go_simp
 refine (HPV.out _).mono ?_
 rintro e w5 ⟨rfl,hb6⟩
 go_wp2_with fail
 refine hK.out _ _ (hHeld.below hb6) (fun hHeld => ?_)
 clear hK K
 try simp only [Act.put,wp1,wp2,wp3,wp4,wp5,wp6]
 refine wtg (i:=12) (v:=?a132) rfl ?b132 (by assumption) ?c132
 case b132 => (intro w h;have F:=Ok.sees h;clear h;simp only [sees,kBlk,cellsAt,Nat.reduceAdd] at F; go_simp;try with_reducible rfl)
 try simp only [Act.put,wp1,wp2,wp3,wp4,wp5,wp6]
 refine wtg (i:=13) (v:=?a134) rfl ?b134 (by assumption) ?c134
 case b134 => (intro w h;have F:=Ok.sees h;clear h;simp only [sees,kBlk,cellsAt,Nat.reduceAdd] at F; go_simp;try with_reducible rfl)
 try simp only [Act.put,wp1,wp2,wp3,wp4,wp5,wp6]
 refine wpAnyH_done (by kernel_rfl) ?_ _
 clear z0 q00 q01 q02 q03 q04 q05 q06 q07 q08 q09 q0a q0b q0c
 clear H1
 have H7:=Lib.hid hHeld
 clear hHeld
 have F8:=H7.out.sees
 simp only [sees,kBlk,cellsAt,Nat.reduceAdd] at F8
 obtain ⟨⟨z0,q00,q01,q02,q03,q04,q05,q06,q07,q08,q09,q0a,q0b,q0c,-⟩,-⟩:=F8
 go_upto_region 3 with fail
 go_cut [3] (fun s3 wx => s3 = .bool o ∧ Hid (Ok w [kBlk (w.heap.size) 28 [.int .u8 8,.int .i64 u,.int .i64 x1,.int .i64 y1,.int .i64 x2,.int .i64 y2,.string ⟨inp.toArray⟩,.int .u64 (a : Nat),.int .u64 (b : Nat),.int .u64 (c : Nat),.int .u8 (f : Nat),.int .u64 (t : Nat),.int .i64 n]] wx))
 case first =>
  have ho:=HO.out
  cases h1 : (x1 == x2)
  ·rw [h1,Bool.false_and] at ho
   subst ho
   all_goals go_wp2_with fail
   all_goals go_meet
   all_goals exact ⟨rfl,H7⟩
  ·cases h2 : (y1 == y2)
   ·rw [h1,h2] at ho
    dsimp only [Bool.and] at ho
    subst ho
    all_goals go_wp2_with fail
    all_goals go_meet
    all_goals exact ⟨rfl,H7⟩
   ·rw [h1,h2] at ho
    dsimp only [Bool.and] at ho
    subst ho
    all_goals go_wp2_with fail
    all_goals go_meet
    all_goals exact ⟨rfl,H7⟩
 case rest =>
  clear z0 q00 q01 q02 q03 q04 q05 q06 q07 q08 q09 q0a q0b q0c
  clear H7
  obtain ⟨rfl,H⟩:=hcut
  have F9:=H.out.sees
  simp only [sees,kBlk,cellsAt,Nat.reduceAdd] at F9
  obtain ⟨⟨z0,q00,q01,q02,q03,q04,q05,q06,q07,q08,q09,q0a,q0b,q0c,-⟩,-⟩:=F9
  go_wp2_with fail
  refine (ref4_Plain ⟨inp.toArray⟩ _ HL.out).mono ?_
  rintro e w9 ⟨rfl,rfl⟩
  rw [show (⟨inp.toArray⟩ : ByteArray).data.toList = inp from rfl,HC.out]
  go_wp2_with fail
  go_ret
  exact ⟨rfl,H.out.bel⟩
set_option maxRecDepth 100000 in
set_option maxHeartbeats 4000000 in
theorem r9_check_e_long (k : Nat) (hk1 : 1 ≤ k) (hk2 : k ≤ 10) (h3 : k ≠ 3) (h6 : k ≠ 6) (h8 : k ≠ 8) (u x1 y1 x2 y2 : Int) (inp : List UInt8) (a b c f t : Nat) (n : Int) (HP : ∀ w : World,Calls Tryz.prog 18 #[.agg #[.int .u8 (k : Nat),.int .i64 u,.int .i64 x1,.int .i64 y1,.int .i64 x2,.int .i64 y2,.string ⟨inp.toArray⟩,.int .u64 (a : Nat),.int .u64 (b : Nat),.int .u64 (c : Nat),.int .u8 (f : Nat),.int .u64 (t : Nat),.int .i64 n]] w fun e w' => e = .returned (.agg #[.int .u8 (k : Nat),.int .i64 u,.int .i64 x1,.int .i64 y1,.int .i64 x2,.int .i64 y2,.string ⟨inp.toArray⟩,.int .u64 (a : Nat),.int .u64 (b : Nat),.int .u64 (c : Nat),.int .u8 (f : Nat),.int .u64 (t : Nat),.int .i64 n]) ∧ Below w.heap.size w w') (o : Bool) (ho : o = ((x1 == x2) && (y1 == y2))) (hl : 256 < inp.length) (w : World) :
  Calls Tryz.prog 14 #[.agg #[.int .u8 (k : Nat),.int .i64 u,.int .i64 x1,.int .i64 y1,.int .i64 x2,.int .i64 y2,.string ⟨inp.toArray⟩,.int .u64 (a : Nat),.int .u64 (b : Nat),.int .u64 (c : Nat),.int .u8 (f : Nat),.int .u64 (t : Nat),.int .i64 n]] w fun e w' => e = .returned (.int .i64 4) ∧ Below w.heap.size w w':=by
 have HPV:=keep HP
 clear HP
 have HO:=keep ho
 clear ho
 have gl : (inp.length : Int) > 256:=by omega
 clear hl
 have g1 : ¬ (k : Int) < 1:=by omega
 have g2 : ¬ (k : Int) > 10:=by omega
 have e3 : ((k : Int) == 3) = false:=by simp; omega
 have e6 : ((k : Int) == 6) = false:=by simp; omega
 have e8 : ((k : Int) == 8) = false:=by simp; omega
 clear hk1 hk2 h3 h6 h8
 have H1:=Lib.hid ((Ok.start w).alloc w.heap.size 28 [.int .u8 (k : Nat),.int .i64 u,.int .i64 x1,.int .i64 y1,.int .i64 x2,.int .i64 y2,.string ⟨inp.toArray⟩,.int .u64 (a : Nat),.int .u64 (b : Nat),.int .u64 (c : Nat),.int .u8 (f : Nat),.int .u64 (t : Nat),.int .i64 n] rfl)
 go_enter Tryz.func14,Tryz.ntmps14
 go_upto_region 1 with fail
 generalize (w.alloc (.cells #[.int .u8 (k : Nat),.int .i64 u,.int .i64 x1,.int .i64 y1,.int .i64 x2,.int .i64 y2,.string ⟨inp.toArray⟩,.int .u64 (a : Nat),.int .u64 (b : Nat),.int .u64 (c : Nat),.int .u8 (f : Nat),.int .u64 (t : Nat),.int .i64 n] 28)) = W2 at H1 ⊢
 have F3:=H1.out.sees
 simp only [sees,kBlk,cellsAt,Nat.reduceAdd] at F3
 obtain ⟨⟨z0,q00,q01,q02,q03,q04,q05,q06,q07,q08,q09,q0a,q0b,q0c,-⟩,-⟩:=F3
 refine wp_region_held_drew (S:=fun W => Ok w [kBlk (w.heap.size) 28 [.int .u8 (k : Nat),.int .i64 u,.int .i64 x1,.int .i64 y1,.int .i64 x2,.int .i64 y2,.string ⟨inp.toArray⟩,.int .u64 (a : Nat),.int .u64 (b : Nat),.int .u64 (c : Nat),.int .u8 (f : Nat),.int .u64 (t : Nat),.int .i64 n]] W) (by kernel_rfl) H1.out.drew (fun hHeld => ?_)
 refine wtg (i:=0) (v:=?a136) rfl ?b136 (by assumption) ?c136
 case b136 => (intro w h;have F:=Ok.sees h;clear h;simp only [sees,kBlk,cellsAt,Nat.reduceAdd] at F; go_simp;try with_reducible rfl)
 try simp only [Act.put,wp1,wp2,wp3,wp4,wp6]
 refine wtg (i:=1) (v:=?a138) rfl ?b138 (by assumption) ?c138
 case b138 => (intro w h;have F:=Ok.sees h;clear h;simp only [sees,kBlk,cellsAt,Nat.reduceAdd] at F; go_simp;try with_reducible rfl)
 try simp only [Act.put,wp1,wp2,wp3,wp4,wp5,wp6]
 refine wtg (i:=2) (v:=?a140) rfl ?b140 (by assumption) ?c140
 case b140 => (intro w h;have F:=Ok.sees h;clear h;simp only [sees,kBlk,cellsAt,Nat.reduceAdd] at F; go_simp;try with_reducible rfl)
 try simp only [Act.put,wp1,wp2,wp3,wp4,wp5,wp6]
 refine wtg (i:=3) (v:=?a142) rfl ?b142 (by assumption) ?c142
 case b142 => (intro w h;have F:=Ok.sees h;clear h;simp only [sees,kBlk,cellsAt,Nat.reduceAdd] at F; go_simp;try with_reducible rfl)
 try simp only [Act.put,wp1,wp2,wp3,wp4,wp5,wp6]
 refine wtg (i:=4) (v:=?a144) rfl ?b144 (by assumption) ?c144
 case b144 => (intro w h;have F:=Ok.sees h;clear h;simp only [sees,kBlk,cellsAt,Nat.reduceAdd] at F; go_simp;try with_reducible rfl)
 try simp only [Act.put,wp1,wp2,wp3,wp4,wp5,wp6]
 refine wtg (i:=5) (v:=?a146) rfl ?b146 (by assumption) ?c146
 case b146 => (intro w h;have F:=Ok.sees h;clear h;simp only [sees,kBlk,cellsAt,Nat.reduceAdd] at F; go_simp;try with_reducible rfl)
 try simp only [Act.put,wp1,wp2,wp3,wp4,wp5,wp6]
 refine wtg (i:=6) (v:=?a148) rfl ?b148 (by assumption) ?c148
 case b148 => (intro w h;have F:=Ok.sees h;clear h;simp only [sees,kBlk,cellsAt,Nat.reduceAdd] at F; go_simp;try with_reducible rfl)
 try simp only [Act.put,wp1,wp2,wp3,wp4,wp5,wp6]
 refine wtg (i:=7) (v:=?a150) rfl ?b150 (by assumption) ?c150
 case b150 => (intro w h;have F:=Ok.sees h;clear h;simp only [sees,kBlk,cellsAt,Nat.reduceAdd] at F; go_simp;try with_reducible rfl)
 try simp only [Act.put,wp1,wp2,wp3,wp4,wp5,wp6]
 refine wtg (i:=8) (v:=?a152) rfl ?b152 (by assumption) ?c152
 case b152 => (intro w h;have F:=Ok.sees h;clear h;simp only [sees,kBlk,cellsAt,Nat.reduceAdd] at F; go_simp;try with_reducible rfl)
 try simp only [Act.put,wp1,wp2,wp3,wp4,wp5,wp6]
 refine wtg (i:=9) (v:=?a154) rfl ?b154 (by assumption) ?c154
 case b154 => (intro w h;have F:=Ok.sees h;clear h;simp only [sees,kBlk,cellsAt,Nat.reduceAdd] at F; go_simp;try with_reducible rfl)
 try simp only [Act.put,wp1,wp2,wp3,wp4,wp5,wp6]
 refine wtg (i:=11) (v:=?a156) rfl ?b156 (by assumption) ?c156
 case b156 => (intro w h;have F:=Ok.sees h;clear h;simp only [sees,kBlk,cellsAt,Nat.reduceAdd] at F; go_simp;try with_reducible rfl)
 try simp only [Act.put,wp1,wp2,wp3,wp4,wp5,wp6]
 refine wpAnyH_ready (rs:=[10]) (by kernel_rfl) (by simp) ?_
 refine AllReadyH.cons rfl (fun K hK => ?_) AllReadyH.nil
 go_simp
 refine (HPV.out _).mono ?_
 rintro e w5 ⟨rfl,hb6⟩
 go_wp2_with fail
 refine hK.out _ _ (hHeld.below hb6) (fun hHeld => ?_)
 clear hK K
 try simp only [Act.put,wp1,wp2,wp3,wp4,wp5,wp6]
 refine wtg (i:=12) (v:=?a159) rfl ?b159 (by assumption) ?c159
 case b159 => (intro w h;have F:=Ok.sees h;clear h;simp only [sees,kBlk,cellsAt,Nat.reduceAdd] at F; go_simp;try with_reducible rfl)
 try simp only [Act.put,wp1,wp2,wp3,wp4,wp5,wp6]
 refine wtg (i:=13) (v:=?a161) rfl ?b161 (by assumption) ?c161
 case b161 => (intro w h;have F:=Ok.sees h;clear h;simp only [sees,kBlk,cellsAt,Nat.reduceAdd] at F; go_simp;try with_reducible rfl)
 try simp only [Act.put,wp1,wp2,wp3,wp4,wp5,wp6]
 refine wpAnyH_done (by kernel_rfl) ?_ _
 clear z0 q00 q01 q02 q03 q04 q05 q06 q07 q08 q09 q0a q0b q0c
 clear H1
 have H7:=Lib.hid hHeld
 clear hHeld
 have F8:=H7.out.sees
 simp only [sees,kBlk,cellsAt,Nat.reduceAdd] at F8
 obtain ⟨⟨z0,q00,q01,q02,q03,q04,q05,q06,q07,q08,q09,q0a,q0b,q0c,-⟩,-⟩:=F8
 go_upto_region 3 with fail
 go_cut [3] (fun s3 wx => s3 = .bool o ∧ Hid (Ok w [kBlk (w.heap.size) 28 [.int .u8 (k : Nat),.int .i64 u,.int .i64 x1,.int .i64 y1,.int .i64 x2,.int .i64 y2,.string ⟨inp.toArray⟩,.int .u64 (a : Nat),.int .u64 (b : Nat),.int .u64 (c : Nat),.int .u8 (f : Nat),.int .u64 (t : Nat),.int .i64 n]] wx))
 case first =>
  have ho:=HO.out
  cases h1 : (x1 == x2)
  ·rw [h1,Bool.false_and] at ho
   subst ho
   all_goals go_wp2_with fail
   all_goals go_meet
   all_goals exact ⟨rfl,H7⟩
  ·cases h2 : (y1 == y2)
   ·rw [h1,h2] at ho
    dsimp only [Bool.and] at ho
    subst ho
    all_goals go_wp2_with fail
    all_goals go_meet
    all_goals exact ⟨rfl,H7⟩
   ·rw [h1,h2] at ho
    dsimp only [Bool.and] at ho
    subst ho
    all_goals go_wp2_with fail
    all_goals go_meet
    all_goals exact ⟨rfl,H7⟩
 case rest =>
  clear z0 q00 q01 q02 q03 q04 q05 q06 q07 q08 q09 q0a q0b q0c
  clear H7
  obtain ⟨rfl,H⟩:=hcut
  have F9:=H.out.sees
  simp only [sees,kBlk,cellsAt,Nat.reduceAdd] at F9
  obtain ⟨⟨z0,q00,q01,q02,q03,q04,q05,q06,q07,q08,q09,q0a,q0b,q0c,-⟩,-⟩:=F9
  go_wp2_with fail
  go_ret
  exact ⟨rfl,H.out.bel⟩
set_option maxRecDepth 100000 in
set_option maxHeartbeats 4000000 in
theorem r9_check_e_ugly (k : Nat) (hk1 : 1 ≤ k) (hk2 : k ≤ 10) (h3 : k ≠ 3) (h6 : k ≠ 6) (h8 : k ≠ 8) (u x1 y1 x2 y2 : Int) (inp : List UInt8) (a b c f t : Nat) (n : Int) (HP : ∀ w : World,Calls Tryz.prog 18 #[.agg #[.int .u8 (k : Nat),.int .i64 u,.int .i64 x1,.int .i64 y1,.int .i64 x2,.int .i64 y2,.string ⟨inp.toArray⟩,.int .u64 (a : Nat),.int .u64 (b : Nat),.int .u64 (c : Nat),.int .u8 (f : Nat),.int .u64 (t : Nat),.int .i64 n]] w fun e w' => e = .returned (.agg #[.int .u8 (k : Nat),.int .i64 u,.int .i64 x1,.int .i64 y1,.int .i64 x2,.int .i64 y2,.string ⟨inp.toArray⟩,.int .u64 (a : Nat),.int .u64 (b : Nat),.int .u64 (c : Nat),.int .u8 (f : Nat),.int .u64 (t : Nat),.int .i64 n]) ∧ Below w.heap.size w w') (o : Bool) (ho : o = ((x1 == x2) && (y1 == y2))) (hl : inp.length ≤ 256) (hc : inp.all plainB = false) (w : World) :
  Calls Tryz.prog 14 #[.agg #[.int .u8 (k : Nat),.int .i64 u,.int .i64 x1,.int .i64 y1,.int .i64 x2,.int .i64 y2,.string ⟨inp.toArray⟩,.int .u64 (a : Nat),.int .u64 (b : Nat),.int .u64 (c : Nat),.int .u8 (f : Nat),.int .u64 (t : Nat),.int .i64 n]] w fun e w' => e = .returned (.int .i64 4) ∧ Below w.heap.size w w':=by
 have HPV:=keep HP
 clear HP
 have HO:=keep ho
 clear ho
 have gl : ¬ (inp.length : Int) > 256:=by omega
 have HC:=keep hc
 have HL:=keep (show inp.length ≤ 4611686018427387904 by omega)
 clear hl hc
 have g1 : ¬ (k : Int) < 1:=by omega
 have g2 : ¬ (k : Int) > 10:=by omega
 have e3 : ((k : Int) == 3) = false:=by simp; omega
 have e6 : ((k : Int) == 6) = false:=by simp; omega
 have e8 : ((k : Int) == 8) = false:=by simp; omega
 clear hk1 hk2 h3 h6 h8
 have H1:=Lib.hid ((Ok.start w).alloc w.heap.size 28 [.int .u8 (k : Nat),.int .i64 u,.int .i64 x1,.int .i64 y1,.int .i64 x2,.int .i64 y2,.string ⟨inp.toArray⟩,.int .u64 (a : Nat),.int .u64 (b : Nat),.int .u64 (c : Nat),.int .u8 (f : Nat),.int .u64 (t : Nat),.int .i64 n] rfl)
 go_enter Tryz.func14,Tryz.ntmps14
 go_upto_region 1 with fail
 generalize (w.alloc (.cells #[.int .u8 (k : Nat),.int .i64 u,.int .i64 x1,.int .i64 y1,.int .i64 x2,.int .i64 y2,.string ⟨inp.toArray⟩,.int .u64 (a : Nat),.int .u64 (b : Nat),.int .u64 (c : Nat),.int .u8 (f : Nat),.int .u64 (t : Nat),.int .i64 n] 28)) = W2 at H1 ⊢
 have F3:=H1.out.sees
 simp only [sees,kBlk,cellsAt,Nat.reduceAdd] at F3
 obtain ⟨⟨z0,q00,q01,q02,q03,q04,q05,q06,q07,q08,q09,q0a,q0b,q0c,-⟩,-⟩:=F3
 refine wp_region_held_drew (S:=fun W => Ok w [kBlk (w.heap.size) 28 [.int .u8 (k : Nat),.int .i64 u,.int .i64 x1,.int .i64 y1,.int .i64 x2,.int .i64 y2,.string ⟨inp.toArray⟩,.int .u64 (a : Nat),.int .u64 (b : Nat),.int .u64 (c : Nat),.int .u8 (f : Nat),.int .u64 (t : Nat),.int .i64 n]] W) (by kernel_rfl) H1.out.drew (fun hHeld => ?_)
 refine wtg (i:=0) (v:=?a163) rfl ?b163 (by assumption) ?c163
 case b163 => (intro w h;have F:=Ok.sees h;clear h;simp only [sees,kBlk,cellsAt,Nat.reduceAdd] at F; go_simp;try with_reducible rfl)
 try simp only [Act.put,wp1,wp2,wp3,wp4,wp6]
 refine wtg (i:=1) (v:=?a165) rfl ?b165 (by assumption) ?c165
 case b165 => (intro w h;have F:=Ok.sees h;clear h;simp only [sees,kBlk,cellsAt,Nat.reduceAdd] at F; go_simp;try with_reducible rfl)
 try simp only [Act.put,wp1,wp2,wp3,wp4,wp5,wp6]
 refine wtg (i:=2) (v:=?a167) rfl ?b167 (by assumption) ?c167
 case b167 => (intro w h;have F:=Ok.sees h;clear h;simp only [sees,kBlk,cellsAt,Nat.reduceAdd] at F; go_simp;try with_reducible rfl)
 try simp only [Act.put,wp1,wp2,wp3,wp4,wp5,wp6]
 refine wtg (i:=3) (v:=?a169) rfl ?b169 (by assumption) ?c169
 case b169 => (intro w h;have F:=Ok.sees h;clear h;simp only [sees,kBlk,cellsAt,Nat.reduceAdd] at F; go_simp;try with_reducible rfl)
 try simp only [Act.put,wp1,wp2,wp3,wp4,wp5,wp6]
 refine wtg (i:=4) (v:=?a171) rfl ?b171 (by assumption) ?c171
 case b171 => (intro w h;have F:=Ok.sees h;clear h;simp only [sees,kBlk,cellsAt,Nat.reduceAdd] at F; go_simp;try with_reducible rfl)
 try simp only [Act.put,wp1,wp2,wp3,wp4,wp5,wp6]
 refine wtg (i:=5) (v:=?a173) rfl ?b173 (by assumption) ?c173
 case b173 => (intro w h;have F:=Ok.sees h;clear h;simp only [sees,kBlk,cellsAt,Nat.reduceAdd] at F; go_simp;try with_reducible rfl)
 try simp only [Act.put,wp1,wp2,wp3,wp4,wp5,wp6]
 refine wtg (i:=6) (v:=?a175) rfl ?b175 (by assumption) ?c175
 case b175 => (intro w h;have F:=Ok.sees h;clear h;simp only [sees,kBlk,cellsAt,Nat.reduceAdd] at F; go_simp;try with_reducible rfl)
 try simp only [Act.put,wp1,wp2,wp3,wp4,wp5,wp6]
 refine wtg (i:=7) (v:=?a177) rfl ?b177 (by assumption) ?c177
 case b177 => (intro w h;have F:=Ok.sees h;clear h;simp only [sees,kBlk,cellsAt,Nat.reduceAdd] at F; go_simp;try with_reducible rfl)
 try simp only [Act.put,wp1,wp2,wp3,wp4,wp5,wp6]
 refine wtg (i:=8) (v:=?a179) rfl ?b179 (by assumption) ?c179
 case b179 => (intro w h;have F:=Ok.sees h;clear h;simp only [sees,kBlk,cellsAt,Nat.reduceAdd] at F; go_simp;try with_reducible rfl)
 try simp only [Act.put,wp1,wp2,wp3,wp4,wp5,wp6]
 refine wtg (i:=9) (v:=?a181) rfl ?b181 (by assumption) ?c181
 case b181 => (intro w h;have F:=Ok.sees h;clear h;simp only [sees,kBlk,cellsAt,Nat.reduceAdd] at F; go_simp;try with_reducible rfl)
 try simp only [Act.put,wp1,wp2,wp3,wp4,wp5,wp6]
 refine wtg (i:=11) (v:=?a183) rfl ?b183 (by assumption) ?c183
 case b183 => (intro w h;have F:=Ok.sees h;clear h;simp only [sees,kBlk,cellsAt,Nat.reduceAdd] at F; go_simp;try with_reducible rfl)
 try simp only [Act.put,wp1,wp2,wp3,wp4,wp5,wp6]
 refine wpAnyH_ready (rs:=[10]) (by kernel_rfl) (by simp) ?_
 refine AllReadyH.cons rfl (fun K hK => ?_) AllReadyH.nil
 go_simp
 refine (HPV.out _).mono ?_
 rintro e w5 ⟨rfl,hb6⟩
 go_wp2_with fail
 refine hK.out _ _ (hHeld.below hb6) (fun hHeld => ?_)
 clear hK K
 try simp only [Act.put,wp1,wp2,wp3,wp4,wp5,wp6]
 refine wtg (i:=12) (v:=?a186) rfl ?b186 (by assumption) ?c186
 case b186 => (intro w h;have F:=Ok.sees h;clear h;simp only [sees,kBlk,cellsAt,Nat.reduceAdd] at F; go_simp;try with_reducible rfl)
 try simp only [Act.put,wp1,wp2,wp3,wp4,wp5,wp6]
 refine wtg (i:=13) (v:=?a188) rfl ?b188 (by assumption) ?c188
 case b188 => (intro w h;have F:=Ok.sees h;clear h;simp only [sees,kBlk,cellsAt,Nat.reduceAdd] at F; go_simp;try with_reducible rfl)
 try simp only [Act.put,wp1,wp2,wp3,wp4,wp5,wp6]
 refine wpAnyH_done (by kernel_rfl) ?_ _
 clear z0 q00 q01 q02 q03 q04 q05 q06 q07 q08 q09 q0a q0b q0c
 clear H1
 have H7:=Lib.hid hHeld
 clear hHeld
 have F8:=H7.out.sees
 simp only [sees,kBlk,cellsAt,Nat.reduceAdd] at F8
 obtain ⟨⟨z0,q00,q01,q02,q03,q04,q05,q06,q07,q08,q09,q0a,q0b,q0c,-⟩,-⟩:=F8
 go_upto_region 3 with fail
 go_cut [3] (fun s3 wx => s3 = .bool o ∧ Hid (Ok w [kBlk (w.heap.size) 28 [.int .u8 (k : Nat),.int .i64 u,.int .i64 x1,.int .i64 y1,.int .i64 x2,.int .i64 y2,.string ⟨inp.toArray⟩,.int .u64 (a : Nat),.int .u64 (b : Nat),.int .u64 (c : Nat),.int .u8 (f : Nat),.int .u64 (t : Nat),.int .i64 n]] wx))
 case first =>
  have ho:=HO.out
  cases h1 : (x1 == x2)
  ·rw [h1,Bool.false_and] at ho
   subst ho
   all_goals go_wp2_with fail
   all_goals go_meet
   all_goals exact ⟨rfl,H7⟩
  ·cases h2 : (y1 == y2)
   ·rw [h1,h2] at ho
    dsimp only [Bool.and] at ho
    subst ho
    all_goals go_wp2_with fail
    all_goals go_meet
    all_goals exact ⟨rfl,H7⟩
   ·rw [h1,h2] at ho
    dsimp only [Bool.and] at ho
    subst ho
    all_goals go_wp2_with fail
    all_goals go_meet
    all_goals exact ⟨rfl,H7⟩
 case rest =>
  clear z0 q00 q01 q02 q03 q04 q05 q06 q07 q08 q09 q0a q0b q0c
  clear H7
  obtain ⟨rfl,H⟩:=hcut
  have F9:=H.out.sees
  simp only [sees,kBlk,cellsAt,Nat.reduceAdd] at F9
  obtain ⟨⟨z0,q00,q01,q02,q03,q04,q05,q06,q07,q08,q09,q0a,q0b,q0c,-⟩,-⟩:=F9
  go_wp2_with fail
  refine (ref4_Plain ⟨inp.toArray⟩ _ HL.out).mono ?_
  rintro e w9 ⟨rfl,rfl⟩
  rw [show (⟨inp.toArray⟩ : ByteArray).data.toList = inp from rfl,HC.out]
  go_wp2_with fail
  go_ret
  exact ⟨rfl,H.out.bel⟩
set_option maxRecDepth 100000 in
set_option maxHeartbeats 4000000 in
theorem r9_check_e_ok (k : Nat) (hk1 : 1 ≤ k) (hk2 : k ≤ 10) (h3 : k ≠ 3) (h6 : k ≠ 6) (h8 : k ≠ 8) (u x1 y1 x2 y2 : Int) (inp : List UInt8) (a b c f t : Nat) (n : Int) (HP : ∀ w : World,Calls Tryz.prog 18 #[.agg #[.int .u8 (k : Nat),.int .i64 u,.int .i64 x1,.int .i64 y1,.int .i64 x2,.int .i64 y2,.string ⟨inp.toArray⟩,.int .u64 (a : Nat),.int .u64 (b : Nat),.int .u64 (c : Nat),.int .u8 (f : Nat),.int .u64 (t : Nat),.int .i64 n]] w fun e w' => e = .returned (.agg #[.int .u8 (k : Nat),.int .i64 u,.int .i64 x1,.int .i64 y1,.int .i64 x2,.int .i64 y2,.string ⟨inp.toArray⟩,.int .u64 (a : Nat),.int .u64 (b : Nat),.int .u64 (c : Nat),.int .u8 (f : Nat),.int .u64 (t : Nat),.int .i64 n]) ∧ Below w.heap.size w w') (o : Bool) (ho : o = ((x1 == x2) && (y1 == y2))) (hl : inp.length ≤ 256) (hc : inp.all plainB = true) (w : World) :
  Calls Tryz.prog 14 #[.agg #[.int .u8 (k : Nat),.int .i64 u,.int .i64 x1,.int .i64 y1,.int .i64 x2,.int .i64 y2,.string ⟨inp.toArray⟩,.int .u64 (a : Nat),.int .u64 (b : Nat),.int .u64 (c : Nat),.int .u8 (f : Nat),.int .u64 (t : Nat),.int .i64 n]] w fun e w' => e = .returned (.int .i64 0) ∧ Below w.heap.size w w':=by
 have HPV:=keep HP
 clear HP
 have HO:=keep ho
 clear ho
 have gl : ¬ (inp.length : Int) > 256:=by omega
 have HC:=keep hc
 have HL:=keep (show inp.length ≤ 4611686018427387904 by omega)
 clear hl hc
 have g1 : ¬ (k : Int) < 1:=by omega
 have g2 : ¬ (k : Int) > 10:=by omega
 have e3 : ((k : Int) == 3) = false:=by simp; omega
 have e6 : ((k : Int) == 6) = false:=by simp; omega
 have e8 : ((k : Int) == 8) = false:=by simp; omega
 clear hk1 hk2 h3 h6 h8
 have H1:=Lib.hid ((Ok.start w).alloc w.heap.size 28 [.int .u8 (k : Nat),.int .i64 u,.int .i64 x1,.int .i64 y1,.int .i64 x2,.int .i64 y2,.string ⟨inp.toArray⟩,.int .u64 (a : Nat),.int .u64 (b : Nat),.int .u64 (c : Nat),.int .u8 (f : Nat),.int .u64 (t : Nat),.int .i64 n] rfl)
 go_enter Tryz.func14,Tryz.ntmps14
 go_upto_region 1 with fail
 generalize (w.alloc (.cells #[.int .u8 (k : Nat),.int .i64 u,.int .i64 x1,.int .i64 y1,.int .i64 x2,.int .i64 y2,.string ⟨inp.toArray⟩,.int .u64 (a : Nat),.int .u64 (b : Nat),.int .u64 (c : Nat),.int .u8 (f : Nat),.int .u64 (t : Nat),.int .i64 n] 28)) = W2 at H1 ⊢
 have F3:=H1.out.sees
 simp only [sees,kBlk,cellsAt,Nat.reduceAdd] at F3
 obtain ⟨⟨z0,q00,q01,q02,q03,q04,q05,q06,q07,q08,q09,q0a,q0b,q0c,-⟩,-⟩:=F3
 refine wp_region_held_drew (S:=fun W => Ok w [kBlk (w.heap.size) 28 [.int .u8 (k : Nat),.int .i64 u,.int .i64 x1,.int .i64 y1,.int .i64 x2,.int .i64 y2,.string ⟨inp.toArray⟩,.int .u64 (a : Nat),.int .u64 (b : Nat),.int .u64 (c : Nat),.int .u8 (f : Nat),.int .u64 (t : Nat),.int .i64 n]] W) (by kernel_rfl) H1.out.drew (fun hHeld => ?_)
 refine wtg (i:=0) (v:=?a190) rfl ?b190 (by assumption) ?c190
 case b190 => (intro w h;have F:=Ok.sees h;clear h;simp only [sees,kBlk,cellsAt,Nat.reduceAdd] at F; go_simp;try with_reducible rfl)
 try simp only [Act.put,wp1,wp2,wp3,wp4,wp6]
 refine wtg (i:=1) (v:=?a192) rfl ?b192 (by assumption) ?c192
 case b192 => (intro w h;have F:=Ok.sees h;clear h;simp only [sees,kBlk,cellsAt,Nat.reduceAdd] at F; go_simp;try with_reducible rfl)
 try simp only [Act.put,wp1,wp2,wp3,wp4,wp5,wp6]
 refine wtg (i:=2) (v:=?a194) rfl ?b194 (by assumption) ?c194
 case b194 => (intro w h;have F:=Ok.sees h;clear h;simp only [sees,kBlk,cellsAt,Nat.reduceAdd] at F; go_simp;try with_reducible rfl)
 try simp only [Act.put,wp1,wp2,wp3,wp4,wp5,wp6]
 refine wtg (i:=3) (v:=?a196) rfl ?b196 (by assumption) ?c196
 case b196 => (intro w h;have F:=Ok.sees h;clear h;simp only [sees,kBlk,cellsAt,Nat.reduceAdd] at F; go_simp;try with_reducible rfl)
 try simp only [Act.put,wp1,wp2,wp3,wp4,wp5,wp6]
 refine wtg (i:=4) (v:=?a198) rfl ?b198 (by assumption) ?c198
 case b198 => (intro w h;have F:=Ok.sees h;clear h;simp only [sees,kBlk,cellsAt,Nat.reduceAdd] at F; go_simp;try with_reducible rfl)
 try simp only [Act.put,wp1,wp2,wp3,wp4,wp5,wp6]
 refine wtg (i:=5) (v:=?a200) rfl ?b200 (by assumption) ?c200
 case b200 => (intro w h;have F:=Ok.sees h;clear h;simp only [sees,kBlk,cellsAt,Nat.reduceAdd] at F; go_simp;try with_reducible rfl)
 try simp only [Act.put,wp1,wp2,wp3,wp4,wp5,wp6]
 refine wtg (i:=6) (v:=?a202) rfl ?b202 (by assumption) ?c202
 case b202 => (intro w h;have F:=Ok.sees h;clear h;simp only [sees,kBlk,cellsAt,Nat.reduceAdd] at F; go_simp;try with_reducible rfl)
 try simp only [Act.put,wp1,wp2,wp3,wp4,wp5,wp6]
 refine wtg (i:=7) (v:=?a204) rfl ?b204 (by assumption) ?c204
 case b204 => (intro w h;have F:=Ok.sees h;clear h;simp only [sees,kBlk,cellsAt,Nat.reduceAdd] at F; go_simp;try with_reducible rfl)
 try simp only [Act.put,wp1,wp2,wp3,wp4,wp5,wp6]
 refine wtg (i:=8) (v:=?a206) rfl ?b206 (by assumption) ?c206
 case b206 => (intro w h;have F:=Ok.sees h;clear h;simp only [sees,kBlk,cellsAt,Nat.reduceAdd] at F; go_simp;try with_reducible rfl)
 try simp only [Act.put,wp1,wp2,wp3,wp4,wp5,wp6]
 refine wtg (i:=9) (v:=?a208) rfl ?b208 (by assumption) ?c208
 case b208 => (intro w h;have F:=Ok.sees h;clear h;simp only [sees,kBlk,cellsAt,Nat.reduceAdd] at F; go_simp;try with_reducible rfl)
 try simp only [Act.put,wp1,wp2,wp3,wp4,wp5,wp6]
 refine wtg (i:=11) (v:=?a210) rfl ?b210 (by assumption) ?c210
 case b210 => (intro w h;have F:=Ok.sees h;clear h;simp only [sees,kBlk,cellsAt,Nat.reduceAdd] at F; go_simp;try with_reducible rfl)
 try simp only [Act.put,wp1,wp2,wp3,wp4,wp5,wp6]
 refine wpAnyH_ready (rs:=[10]) (by kernel_rfl) (by simp) ?_
 refine AllReadyH.cons rfl (fun K hK => ?_) AllReadyH.nil
 go_simp
 refine (HPV.out _).mono ?_
 rintro e w5 ⟨rfl,hb6⟩
 go_wp2_with fail
 refine hK.out _ _ (hHeld.below hb6) (fun hHeld => ?_)
 clear hK K
 try simp only [Act.put,wp1,wp2,wp3,wp4,wp5,wp6]
 refine wtg (i:=12) (v:=?a213) rfl ?b213 (by assumption) ?c213
 case b213 => (intro w h;have F:=Ok.sees h;clear h;simp only [sees,kBlk,cellsAt,Nat.reduceAdd] at F; go_simp;try with_reducible rfl)
 try simp only [Act.put,wp1,wp2,wp3,wp4,wp5,wp6]
 refine wtg (i:=13) (v:=?a215) rfl ?b215 (by assumption) ?c215
 case b215 => (intro w h;have F:=Ok.sees h;clear h;simp only [sees,kBlk,cellsAt,Nat.reduceAdd] at F; go_simp;try with_reducible rfl)
 try simp only [Act.put,wp1,wp2,wp3,wp4,wp5,wp6]
 refine wpAnyH_done (by kernel_rfl) ?_ _
 clear z0 q00 q01 q02 q03 q04 q05 q06 q07 q08 q09 q0a q0b q0c
 clear H1
 have H7:=Lib.hid hHeld
 clear hHeld
 have F8:=H7.out.sees
 simp only [sees,kBlk,cellsAt,Nat.reduceAdd] at F8
 obtain ⟨⟨z0,q00,q01,q02,q03,q04,q05,q06,q07,q08,q09,q0a,q0b,q0c,-⟩,-⟩:=F8
 go_upto_region 3 with fail
 go_cut [3] (fun s3 wx => s3 = .bool o ∧ Hid (Ok w [kBlk (w.heap.size) 28 [.int .u8 (k : Nat),.int .i64 u,.int .i64 x1,.int .i64 y1,.int .i64 x2,.int .i64 y2,.string ⟨inp.toArray⟩,.int .u64 (a : Nat),.int .u64 (b : Nat),.int .u64 (c : Nat),.int .u8 (f : Nat),.int .u64 (t : Nat),.int .i64 n]] wx))
 case first =>
  have ho:=HO.out
  cases h1 : (x1 == x2)
  ·rw [h1,Bool.false_and] at ho
   subst ho
   all_goals go_wp2_with fail
   all_goals go_meet
   all_goals exact ⟨rfl,H7⟩
  ·cases h2 : (y1 == y2)
   ·rw [h1,h2] at ho
    dsimp only [Bool.and] at ho
    subst ho
    all_goals go_wp2_with fail
    all_goals go_meet
    all_goals exact ⟨rfl,H7⟩
   ·rw [h1,h2] at ho
    dsimp only [Bool.and] at ho
    subst ho
    all_goals go_wp2_with fail
    all_goals go_meet
    all_goals exact ⟨rfl,H7⟩
 case rest =>
  clear z0 q00 q01 q02 q03 q04 q05 q06 q07 q08 q09 q0a q0b q0c
  clear H7
  obtain ⟨rfl,H⟩:=hcut
  have F9:=H.out.sees
  simp only [sees,kBlk,cellsAt,Nat.reduceAdd] at F9
  obtain ⟨⟨z0,q00,q01,q02,q03,q04,q05,q06,q07,q08,q09,q0a,q0b,q0c,-⟩,-⟩:=F9
  go_wp2_with fail
  refine (ref4_Plain ⟨inp.toArray⟩ _ HL.out).mono ?_
  rintro e w9 ⟨rfl,rfl⟩
  rw [show (⟨inp.toArray⟩ : ByteArray).data.toList = inp from rfl,HC.out]
  go_wp2_with fail
  go_ret
  exact ⟨rfl,H.out.bel⟩
end Go.Proofs.YtjbimcdofenmdaaGreatDoor
