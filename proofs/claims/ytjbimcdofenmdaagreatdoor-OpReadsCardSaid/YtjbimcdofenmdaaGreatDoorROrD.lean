/- The reference of chapter 29: numbers, ranges, rights. -/
import Derived.Test.YtjbimcdofenmdaaGreatDoorROrB
import Derived.Test.YtjbimcdofenmdaaGreatDoorMOk
import Derived.Test.YtjbimcdofenmdaaGreatDoorMOpE
import Derived.Test.YtjbimcdofenmdaaGreatDoorMOr4
import Derived.Test.YtjbimcdofenmdaaGreatDoorMRectU
import Derived.Test.YtjbimcdofenmdaaGreatDoorMGrpR
namespace Go.Proofs.YtjbimcdofenmdaaGreatDoor
open Go.RowKit
theorem ba_app (a b : List UInt8) : (⟨a.toArray⟩ : ByteArray) ++ ⟨b.toArray⟩ = ⟨(a ++ b).toArray⟩:=by
 apply ByteArray.ext; simp
theorem ba_size (a : List UInt8) : (⟨a.toArray⟩ : ByteArray).size = a.length:=rfl
set_option maxRecDepth 100000 in
set_option maxHeartbeats 4000000 in
theorem r9_Number (n : Int) (h : i64B n) (w : World) : Calls Tryz.prog 30 #[.int .i64 n] w fun e w' => e = .returned (.string ⟨(Lib.itoa n).toArray⟩) ∧ Below w.heap.size w w':=by
 obtain ⟨h1,h2⟩:=h
 unfold Lib.itoa
 by_cases hn : n < 0
 ·rw [if_pos hn]
  have e1 : IntKind.i64.wrap (n + 1) = n + 1:=Go.IntWalk.i64_in _ (by omega)
  have e2 : IntKind.i64.wrap (-(n + 1)) = -(n + 1):=Go.IntWalk.i64_in _ (by omega)
  have e3 : IntKind.u64.wrap (-(n + 1)) = -(n + 1):=Go.IntWalk.u64_in _ (by omega)
  have e4 : IntKind.u64.wrap (-(n + 1) + 1) = (n.natAbs : Int):=by rw [Go.IntWalk.u64_in _ (by omega)]; omega
  obtain ⟨S,hS⟩ : ∃ S,(⟨(Lib.decDigits n.natAbs).toArray⟩ : ByteArray) = S:=⟨_,rfl⟩
  have hsz : S.size ≤ 20:=by rw [← hS,ba_size]; exact digits_le _ (by omega)
  have hD : ∀ W,Calls Tryz.prog 52 #[.int .u64 (n.natAbs : Nat)] W fun e w' => e = .returned (.string S) ∧ Below W.heap.size W w':=fun W => by rw [← hS]; exact ref1_Digits n.natAbs W (by omega)
  have HD:=keep hD
  have HSS:=keep hS
  clear hD hS
  obtain ⟨a,ha⟩ : ∃ a,n.natAbs = a:=⟨_,rfl⟩
  rw [ha] at e4 HD HSS
  rw [ha]
  clear ha
  go_enter Tryz.func30,Tryz.ntmps30
  go_wp2_with fail
  refine (HD.out _).mono ?_
  rintro e w1 ⟨rfl,hb⟩
  have H:=Lib.hid hb
  clear hb
  go_wp2_with fail
  go_ret
  exact ⟨by rw [← HSS.out]; congr 1,H.out⟩
 ·rw [if_neg hn,show n.toNat = n.natAbs by omega]
  have e1 : IntKind.u64.wrap n = (n.natAbs : Int):=by rw [Go.IntWalk.u64_in _ (by omega)]; omega
  have HD:=keep (fun W => ref1_Digits n.natAbs W (by omega))
  obtain ⟨a,ha⟩ : ∃ a,n.natAbs = a:=⟨_,rfl⟩
  rw [ha] at e1 HD
  rw [ha]
  clear ha
  go_enter Tryz.func30,Tryz.ntmps30
  go_wp2_with fail
  refine (HD.out _).mono ?_
  rintro e w1 ⟨rfl,hb⟩
  have H:=Lib.hid hb
  clear hb
  go_wp2_with fail
  go_ret
  exact ⟨rfl,H.out⟩
set_option maxRecDepth 100000 in
set_option maxHeartbeats 4000000 in
theorem r9_range_0 (x1 y1 x2 y2 : Int) (S0 : ByteArray) (hF : ∀ W,Calls Tryz.prog 53 #[.agg #[.int .i64 x1,.int .i64 y1,.int .i64 x2,.int .i64 y2]] W fun e w' => e = .returned (.tuple #[.string S0,.int .i64 0]) ∧ Below W.heap.size W w') (w : World) :
  Calls Tryz.prog 31 #[.agg #[.int .i64 x1,.int .i64 y1,.int .i64 x2,.int .i64 y2]] w fun e w' => e = .returned (.string S0) ∧ Below w.heap.size w w':=by
 have HF:=keep hF
 clear hF
 have H1:=Lib.hid ((Ok.start w).alloc w.heap.size 23 [.int .i64 x1,.int .i64 y1,.int .i64 x2,.int .i64 y2] rfl)
 go_enter Tryz.func31,Tryz.ntmps31
 go_upto_region 1 with fail
 generalize (w.alloc (.cells #[.int .i64 x1,.int .i64 y1,.int .i64 x2,.int .i64 y2] 23)) = W2 at H1 ⊢
 have F3:=H1.out.sees
 simp only [sees,kBlk,cellsAt,Nat.reduceAdd] at F3
 obtain ⟨⟨z0,q00,q01,q02,q03,-⟩,-⟩:=F3
 go_wp2_with fail
 refine (HF.out _).mono ?_
 rintro e w4 ⟨rfl,hb5⟩
 clear z0 q00 q01 q02 q03
 have H6:=Lib.hid (H1.out.below hb5)
 clear hb5 H1
 have F7:=H6.out.sees
 simp only [sees,kBlk,cellsAt,Nat.reduceAdd] at F7
 obtain ⟨⟨z0,q00,q01,q02,q03,-⟩,-⟩:=F7
 go_wp2_with fail
 go_ret
 exact ⟨rfl,H6.out.bel⟩
set_option maxRecDepth 100000 in
set_option maxHeartbeats 4000000 in
theorem r9_range_1 (x1 y1 x2 y2 : Int) (e0 : Int) (he0 : (e0 != 0) = true) (S0 S1 S2 S3 S4 : ByteArray) (hs1 : S1.size ≤ 100) (hs2 : S2.size ≤ 100) (hs3 : S3.size ≤ 100) (hs4 : S4.size ≤ 100) (hN1 : ∀ W,Calls Tryz.prog 30 #[.int .i64 x1] W fun e w' => e = .returned (.string S1) ∧ Below W.heap.size W w') (hN2 : ∀ W,Calls Tryz.prog 30 #[.int .i64 y1] W fun e w' => e = .returned (.string S2) ∧ Below W.heap.size W w') (hN3 : ∀ W,Calls Tryz.prog 30 #[.int .i64 x2] W fun e w' => e = .returned (.string S3) ∧ Below W.heap.size W w') (hN4 : ∀ W,Calls Tryz.prog 30 #[.int .i64 y2] W fun e w' => e = .returned (.string S4) ∧ Below W.heap.size W w') (hF : ∀ W,Calls Tryz.prog 53 #[.agg #[.int .i64 x1,.int .i64 y1,.int .i64 x2,.int .i64 y2]] W fun e w' => e = .returned (.tuple #[.string S0,.int .i64 e0]) ∧ Below W.heap.size W w') (w : World) :
  Calls Tryz.prog 31 #[.agg #[.int .i64 x1,.int .i64 y1,.int .i64 x2,.int .i64 y2]] w fun e w' => e = .returned (.string (((((S1 ++ ⟨#[44]⟩) ++ S2) ++ ⟨#[44]⟩) ++ S3) ++ ⟨#[44]⟩ ++ S4)) ∧ Below w.heap.size w w':=by
 have HF:=keep hF
 clear hF
 have HN1:=keep hN1
 clear hN1
 have HN2:=keep hN2
 clear hN2
 have HN3:=keep hN3
 clear hN3
 have HN4:=keep hN4
 clear hN4
 have H1:=Lib.hid ((Ok.start w).alloc w.heap.size 23 [.int .i64 x1,.int .i64 y1,.int .i64 x2,.int .i64 y2] rfl)
 go_enter Tryz.func31,Tryz.ntmps31
 go_upto_region 1 with fail
 generalize (w.alloc (.cells #[.int .i64 x1,.int .i64 y1,.int .i64 x2,.int .i64 y2] 23)) = W2 at H1 ⊢
 have F3:=H1.out.sees
 simp only [sees,kBlk,cellsAt,Nat.reduceAdd] at F3
 obtain ⟨⟨z0,q00,q01,q02,q03,-⟩,-⟩:=F3
 go_wp2_with fail
 refine (HF.out _).mono ?_
 rintro e w4 ⟨rfl,hb5⟩
 clear z0 q00 q01 q02 q03
 have H6:=Lib.hid (H1.out.below hb5)
 clear hb5 H1
 have F7:=H6.out.sees
 simp only [sees,kBlk,cellsAt,Nat.reduceAdd] at F7
 obtain ⟨⟨z0,q00,q01,q02,q03,-⟩,-⟩:=F7
 go_wp2_with fail
 refine wp_region_held_drew (S:=fun W => Ok w [kBlk (w.heap.size) 23 [.int .i64 x1,.int .i64 y1,.int .i64 x2,.int .i64 y2]] W) (by kernel_rfl) H6.out.drew (fun hHeld => ?_)
 refine wtg (i:=0) (v:=?a1) rfl ?b1 (by assumption) ?c1
 case b1 => (intro w h;have F:=Ok.sees h;clear h;simp only [sees,kBlk,cellsAt,Nat.reduceAdd] at F; go_simp;(try rw [if_neg (by simp; omega)]);try with_reducible rfl)
 try simp only [Act.put,wp1,wp2,wp3,wp4,wp6]
 refine wtg (i:=1) (v:=?a3) rfl ?b3 (by assumption) ?c3
 case b3 => (intro w h;have F:=Ok.sees h;clear h;simp only [sees,kBlk,cellsAt,Nat.reduceAdd] at F; go_simp;(try rw [if_neg (by simp; omega)]);try with_reducible rfl)
 try simp only [Act.put,wp1,wp2,wp3,wp4,wp5,wp6]
 refine wtg (i:=4) (v:=?a5) rfl ?b5 (by assumption) ?c5
 case b5 => (intro w h;have F:=Ok.sees h;clear h;simp only [sees,kBlk,cellsAt,Nat.reduceAdd] at F; go_simp;(try rw [if_neg (by simp; omega)]);try with_reducible rfl)
 try simp only [Act.put,wp1,wp2,wp3,wp4,wp5,wp6]
 refine wtg (i:=5) (v:=?a7) rfl ?b7 (by assumption) ?c7
 case b7 => (intro w h;have F:=Ok.sees h;clear h;simp only [sees,kBlk,cellsAt,Nat.reduceAdd] at F; go_simp;(try rw [if_neg (by simp; omega)]);try with_reducible rfl)
 try simp only [Act.put,wp1,wp2,wp3,wp4,wp5,wp6]
 refine wtg (i:=9) (v:=?a9) rfl ?b9 (by assumption) ?c9
 case b9 => (intro w h;have F:=Ok.sees h;clear h;simp only [sees,kBlk,cellsAt,Nat.reduceAdd] at F; go_simp;(try rw [if_neg (by simp; omega)]);try with_reducible rfl)
 try simp only [Act.put,wp1,wp2,wp3,wp4,wp5,wp6]
 refine wtg (i:=10) (v:=?a11) rfl ?b11 (by assumption) ?c11
 case b11 => (intro w h;have F:=Ok.sees h;clear h;simp only [sees,kBlk,cellsAt,Nat.reduceAdd] at F; go_simp;(try rw [if_neg (by simp; omega)]);try with_reducible rfl)
 try simp only [Act.put,wp1,wp2,wp3,wp4,wp5,wp6]
 refine wtg (i:=14) (v:=?a13) rfl ?b13 (by assumption) ?c13
 case b13 => (intro w h;have F:=Ok.sees h;clear h;simp only [sees,kBlk,cellsAt,Nat.reduceAdd] at F; go_simp;(try rw [if_neg (by simp; omega)]);try with_reducible rfl)
 try simp only [Act.put,wp1,wp2,wp3,wp4,wp5,wp6]
 refine wtg (i:=15) (v:=?a15) rfl ?b15 (by assumption) ?c15
 case b15 => (intro w h;have F:=Ok.sees h;clear h;simp only [sees,kBlk,cellsAt,Nat.reduceAdd] at F; go_simp;(try rw [if_neg (by simp; omega)]);try with_reducible rfl)
 try simp only [Act.put,wp1,wp2,wp3,wp4,wp5,wp6]
 refine wpAnyH_ready (rs:=[2]) (by kernel_rfl) (by simp) ?_
 refine AllReadyH.cons rfl (fun K hK => ?_) AllReadyH.nil
 go_simp
 refine (HN1.out _).mono ?_
 rintro e w9 ⟨rfl,hb10⟩
 go_wp2_with fail
 refine hK.out _ _ (hHeld.below hb10) (fun hHeld => ?_)
 clear hK K
 try simp only [Act.put,wp1,wp2,wp3,wp4,wp5,wp6]
 refine wtg (i:=3) (v:=?a18) rfl ?b18 (by assumption) ?c18
 case b18 => (intro w h;have F:=Ok.sees h;clear h;simp only [sees,kBlk,cellsAt,Nat.reduceAdd] at F; go_simp;(try rw [if_neg (by simp; omega)]);try with_reducible rfl)
 try simp only [Act.put,wp1,wp2,wp3,wp4,wp5,wp6]
 refine wpAnyH_ready (rs:=[6]) (by kernel_rfl) (by simp) ?_
 refine AllReadyH.cons rfl (fun K hK => ?_) AllReadyH.nil
 go_simp
 refine (HN2.out _).mono ?_
 rintro e w11 ⟨rfl,hb12⟩
 go_wp2_with fail
 refine hK.out _ _ (hHeld.below hb12) (fun hHeld => ?_)
 clear hK K
 try simp only [Act.put,wp1,wp2,wp3,wp4,wp5,wp6]
 refine wtg (i:=7) (v:=?a21) rfl ?b21 (by assumption) ?c21
 case b21 => (intro w h;have F:=Ok.sees h;clear h;simp only [sees,kBlk,cellsAt,Nat.reduceAdd] at F; go_simp;(try rw [if_neg (by simp; omega)]);try with_reducible rfl)
 try simp only [Act.put,wp1,wp2,wp3,wp4,wp5,wp6]
 refine wtg (i:=8) (v:=?a23) rfl ?b23 (by assumption) ?c23
 case b23 => (intro w h;have F:=Ok.sees h;clear h;simp only [sees,kBlk,cellsAt,Nat.reduceAdd] at F; go_simp;(try rw [if_neg (by simp; omega)]);try with_reducible rfl)
 try simp only [Act.put,wp1,wp2,wp3,wp4,wp5,wp6]
 refine wpAnyH_ready (rs:=[11]) (by kernel_rfl) (by simp) ?_
 refine AllReadyH.cons rfl (fun K hK => ?_) AllReadyH.nil
 go_simp
 refine (HN3.out _).mono ?_
 rintro e w13 ⟨rfl,hb14⟩
 go_wp2_with fail
 refine hK.out _ _ (hHeld.below hb14) (fun hHeld => ?_)
 clear hK K
 try simp only [Act.put,wp1,wp2,wp3,wp4,wp5,wp6]
 refine wtg (i:=12) (v:=?a26) rfl ?b26 (by assumption) ?c26
 case b26 => (intro w h;have F:=Ok.sees h;clear h;simp only [sees,kBlk,cellsAt,Nat.reduceAdd] at F; go_simp;(try rw [if_neg (by simp; omega)]);try with_reducible rfl)
 try simp only [Act.put,wp1,wp2,wp3,wp4,wp5,wp6]
 refine wtg (i:=13) (v:=?a28) rfl ?b28 (by assumption) ?c28
 case b28 => (intro w h;have F:=Ok.sees h;clear h;simp only [sees,kBlk,cellsAt,Nat.reduceAdd] at F; go_simp;(try rw [if_neg (by simp; omega)]);try with_reducible rfl)
 try simp only [Act.put,wp1,wp2,wp3,wp4,wp5,wp6]
 refine wpAnyH_ready (rs:=[16]) (by kernel_rfl) (by simp) ?_
 refine AllReadyH.cons rfl (fun K hK => ?_) AllReadyH.nil
 go_simp
 refine (HN4.out _).mono ?_
 rintro e w15 ⟨rfl,hb16⟩
 go_wp2_with fail
 refine hK.out _ _ (hHeld.below hb16) (fun hHeld => ?_)
 clear hK K
 try simp only [Act.put,wp1,wp2,wp3,wp4,wp5,wp6]
 refine wtg (i:=17) (v:=?a31) rfl ?b31 (by assumption) ?c31
 case b31 => (intro w h;have F:=Ok.sees h;clear h;simp only [sees,kBlk,cellsAt,Nat.reduceAdd] at F; go_simp;(try rw [if_neg (by simp; omega)]);try with_reducible rfl)
 try simp only [Act.put,wp1,wp2,wp3,wp4,wp5,wp6]
 refine wtg (i:=18) (v:=?a33) rfl ?b33 (by assumption) ?c33
 case b33 => (intro w h;have F:=Ok.sees h;clear h;simp only [sees,kBlk,cellsAt,Nat.reduceAdd] at F; go_simp;(try rw [if_neg (by simp; omega)]);try with_reducible rfl)
 try simp only [Act.put,wp1,wp2,wp3,wp4,wp5,wp6]
 refine wpAnyH_done (by kernel_rfl) ?_ _
 clear z0 q00 q01 q02 q03
 clear H6
 have H17:=Lib.hid hHeld
 clear hHeld
 have F18:=H17.out.sees
 simp only [sees,kBlk,cellsAt,Nat.reduceAdd] at F18
 obtain ⟨⟨z0,q00,q01,q02,q03,-⟩,-⟩:=F18
 go_wp2_with fail
 go_ret
 exact ⟨rfl,H17.out.bel⟩
theorem r9_Range (r : R4) (h1 : i64B r.c1) (h2 : i64B r.r1) (h3 : i64B r.c2) (h4 : i64B r.r2) (w : World) : Calls Tryz.prog 31 #[.agg #[.int .i64 r.c1,.int .i64 r.r1,.int .i64 r.c2,.int .i64 r.r2]] w fun e w' => e = .returned (.string ⟨(rangeL r).toArray⟩) ∧ Below w.heap.size w w':=by
 obtain ⟨x1,y1,x2,y2⟩:=r
 have hF:=fun W => ref3_Format x1 y1 x2 y2 W
 unfold fmtR at hF
 unfold rangeL
 by_cases hc : checkB ⟨x1,y1,x2,y2⟩ = true
 ·rw [if_pos hc] at hF ⊢
  exact r9_range_0 x1 y1 x2 y2 _ hF w
 ·rw [if_neg hc] at hF ⊢
  refine (r9_range_1 x1 y1 x2 y2 _ (by decide) _ _ _ _ _ (by have:=itoa_len x1 h1; rw [ba_size]; omega) (by have:=itoa_len y1 h2; rw [ba_size]; omega) (by have:=itoa_len x2 h3; rw [ba_size]; omega) (by have:=itoa_len y2 h4; rw [ba_size]; omega) (fun W => r9_Number x1 h1 W) (fun W => r9_Number y1 h2 W) (fun W => r9_Number x2 h3 W) (fun W => r9_Number y2 h4 W) hF w).mono ?_
  rintro e w' ⟨rfl,hb⟩
  refine ⟨?_,hb⟩
  rw [show (⟨#[44]⟩ : ByteArray) = ⟨[44].toArray⟩ from rfl,ba_app,ba_app,ba_app,ba_app,ba_app,ba_app]
  simp [commaL,Lib.join,List.intercalate]
set_option maxRecDepth 100000 in
set_option maxHeartbeats 4000000 in
theorem r9_rights_core (a b c : Nat) (S1 S2 S3 : ByteArray) (hs1 : S1.size ≤ 10000) (hs2 : S2.size ≤ 10000) (hs3 : S3.size ≤ 10000) (hN1 : ∀ W,Calls Tryz.prog 34 #[.int .u64 (a : Nat)] W fun e w' => e = .returned (.string S1) ∧ Below W.heap.size W w') (hN2 : ∀ W,Calls Tryz.prog 34 #[.int .u64 (b : Nat)] W fun e w' => e = .returned (.string S2) ∧ Below W.heap.size W w') (hN3 : ∀ W,Calls Tryz.prog 34 #[.int .u64 (c : Nat)] W fun e w' => e = .returned (.string S3) ∧ Below W.heap.size W w') (w : World) :
  Calls Tryz.prog 33 #[.agg #[.int .u64 (a : Nat),.int .u64 (b : Nat),.int .u64 (c : Nat)]] w fun e w' => e = .returned (.string ((((S1 ++ ⟨#[32]⟩) ++ S2) ++ ⟨#[32]⟩) ++ S3)) ∧ Below w.heap.size w w':=by
 have HN1:=keep hN1
 clear hN1
 have HN2:=keep hN2
 clear hN2
 have HN3:=keep hN3
 clear hN3
 have H1:=Lib.hid ((Ok.start w).alloc w.heap.size 26 [.int .u64 (a : Nat),.int .u64 (b : Nat),.int .u64 (c : Nat)] rfl)
 go_enter Tryz.func33,Tryz.ntmps33
 go_upto_region 1 with fail
 generalize (w.alloc (.cells #[.int .u64 (a : Nat),.int .u64 (b : Nat),.int .u64 (c : Nat)] 26)) = W2 at H1 ⊢
 have F3:=H1.out.sees
 simp only [sees,kBlk,cellsAt,Nat.reduceAdd] at F3
 obtain ⟨⟨z0,q00,q01,q02,-⟩,-⟩:=F3
 refine wp_region_held_drew (S:=fun W => Ok w [kBlk (w.heap.size) 26 [.int .u64 (a : Nat),.int .u64 (b : Nat),.int .u64 (c : Nat)]] W) (by kernel_rfl) H1.out.drew (fun hHeld => ?_)
 refine wtg (i:=0) (v:=?a35) rfl ?b35 (by assumption) ?c35
 case b35 => (intro w h;have F:=Ok.sees h;clear h;simp only [sees,kBlk,cellsAt,Nat.reduceAdd] at F; go_simp;(try rw [if_neg (by simp; omega)]);try with_reducible rfl)
 try simp only [Act.put,wp1,wp2,wp3,wp4,wp6]
 refine wtg (i:=1) (v:=?a37) rfl ?b37 (by assumption) ?c37
 case b37 => (intro w h;have F:=Ok.sees h;clear h;simp only [sees,kBlk,cellsAt,Nat.reduceAdd] at F; go_simp;(try rw [if_neg (by simp; omega)]);try with_reducible rfl)
 try simp only [Act.put,wp1,wp2,wp3,wp4,wp5,wp6]
 refine wtg (i:=4) (v:=?a39) rfl ?b39 (by assumption) ?c39
 case b39 => (intro w h;have F:=Ok.sees h;clear h;simp only [sees,kBlk,cellsAt,Nat.reduceAdd] at F; go_simp;(try rw [if_neg (by simp; omega)]);try with_reducible rfl)
 try simp only [Act.put,wp1,wp2,wp3,wp4,wp5,wp6]
 refine wtg (i:=5) (v:=?a41) rfl ?b41 (by assumption) ?c41
 case b41 => (intro w h;have F:=Ok.sees h;clear h;simp only [sees,kBlk,cellsAt,Nat.reduceAdd] at F; go_simp;(try rw [if_neg (by simp; omega)]);try with_reducible rfl)
 try simp only [Act.put,wp1,wp2,wp3,wp4,wp5,wp6]
 refine wtg (i:=9) (v:=?a43) rfl ?b43 (by assumption) ?c43
 case b43 => (intro w h;have F:=Ok.sees h;clear h;simp only [sees,kBlk,cellsAt,Nat.reduceAdd] at F; go_simp;(try rw [if_neg (by simp; omega)]);try with_reducible rfl)
 try simp only [Act.put,wp1,wp2,wp3,wp4,wp5,wp6]
 refine wtg (i:=10) (v:=?a45) rfl ?b45 (by assumption) ?c45
 case b45 => (intro w h;have F:=Ok.sees h;clear h;simp only [sees,kBlk,cellsAt,Nat.reduceAdd] at F; go_simp;(try rw [if_neg (by simp; omega)]);try with_reducible rfl)
 try simp only [Act.put,wp1,wp2,wp3,wp4,wp5,wp6]
 refine wpAnyH_ready (rs:=[2]) (by kernel_rfl) (by simp) ?_
 refine AllReadyH.cons rfl (fun K hK => ?_) AllReadyH.nil
 go_simp
 refine (HN1.out _).mono ?_
 rintro e w5 ⟨rfl,hb6⟩
 go_wp2_with fail
 refine hK.out _ _ (hHeld.below hb6) (fun hHeld => ?_)
 clear hK K
 try simp only [Act.put,wp1,wp2,wp3,wp4,wp5,wp6]
 refine wtg (i:=3) (v:=?a48) rfl ?b48 (by assumption) ?c48
 case b48 => (intro w h;have F:=Ok.sees h;clear h;simp only [sees,kBlk,cellsAt,Nat.reduceAdd] at F; go_simp;(try rw [if_neg (by simp; omega)]);try with_reducible rfl)
 try simp only [Act.put,wp1,wp2,wp3,wp4,wp5,wp6]
 refine wpAnyH_ready (rs:=[6]) (by kernel_rfl) (by simp) ?_
 refine AllReadyH.cons rfl (fun K hK => ?_) AllReadyH.nil
 go_simp
 refine (HN2.out _).mono ?_
 rintro e w7 ⟨rfl,hb8⟩
 go_wp2_with fail
 refine hK.out _ _ (hHeld.below hb8) (fun hHeld => ?_)
 clear hK K
 try simp only [Act.put,wp1,wp2,wp3,wp4,wp5,wp6]
 refine wtg (i:=7) (v:=?a51) rfl ?b51 (by assumption) ?c51
 case b51 => (intro w h;have F:=Ok.sees h;clear h;simp only [sees,kBlk,cellsAt,Nat.reduceAdd] at F; go_simp;(try rw [if_neg (by simp; omega)]);try with_reducible rfl)
 try simp only [Act.put,wp1,wp2,wp3,wp4,wp5,wp6]
 refine wtg (i:=8) (v:=?a53) rfl ?b53 (by assumption) ?c53
 case b53 => (intro w h;have F:=Ok.sees h;clear h;simp only [sees,kBlk,cellsAt,Nat.reduceAdd] at F; go_simp;(try rw [if_neg (by simp; omega)]);try with_reducible rfl)
 try simp only [Act.put,wp1,wp2,wp3,wp4,wp5,wp6]
 refine wpAnyH_ready (rs:=[11]) (by kernel_rfl) (by simp) ?_
 refine AllReadyH.cons rfl (fun K hK => ?_) AllReadyH.nil
 go_simp
 refine (HN3.out _).mono ?_
 rintro e w9 ⟨rfl,hb10⟩
 go_wp2_with fail
 refine hK.out _ _ (hHeld.below hb10) (fun hHeld => ?_)
 clear hK K
 try simp only [Act.put,wp1,wp2,wp3,wp4,wp5,wp6]
 refine wtg (i:=12) (v:=?a56) rfl ?b56 (by assumption) ?c56
 case b56 => (intro w h;have F:=Ok.sees h;clear h;simp only [sees,kBlk,cellsAt,Nat.reduceAdd] at F; go_simp;(try rw [if_neg (by simp; omega)]);try with_reducible rfl)
 try simp only [Act.put,wp1,wp2,wp3,wp4,wp5,wp6]
 refine wtg (i:=13) (v:=?a58) rfl ?b58 (by assumption) ?c58
 case b58 => (intro w h;have F:=Ok.sees h;clear h;simp only [sees,kBlk,cellsAt,Nat.reduceAdd] at F; go_simp;(try rw [if_neg (by simp; omega)]);try with_reducible rfl)
 try simp only [Act.put,wp1,wp2,wp3,wp4,wp5,wp6]
 refine wpAnyH_done (by kernel_rfl) ?_ _
 clear z0 q00 q01 q02
 clear H1
 have H11:=Lib.hid hHeld
 clear hHeld
 go_wp2_with fail
 go_ret
 exact ⟨rfl,H11.out.bel⟩
theorem r18_Fmt (a : Nat) (h : a < 18446744073709551616) (w : World) : Calls Tryz.prog 34 #[.int .u64 (a : Nat)] w fun e w' => e = .returned (.string ⟨(gfmtL a).toArray⟩) ∧ Below w.heap.size w w':=by
 refine (ref18_Format a w h).mono ?_
 rintro e w' ⟨rfl,rfl⟩
 exact ⟨rfl,Below.refl _ _⟩
theorem r9_Rights (a b c : Nat) (h1 : a < 18446744073709551616) (h2 : b < 18446744073709551616) (h3 : c < 18446744073709551616) (w : World) : Calls Tryz.prog 33 #[.agg #[.int .u64 (a : Nat),.int .u64 (b : Nat),.int .u64 (c : Nat)]] w fun e w' => e = .returned (.string ⟨(Lib.join [gfmtL a,gfmtL b,gfmtL c] [32]).toArray⟩) ∧ Below w.heap.size w w':=by
 refine (r9_rights_core a b c _ _ _ (by rw [ba_size]; exact gfmtL_len a) (by rw [ba_size]; exact gfmtL_len b) (by rw [ba_size]; exact gfmtL_len c) (fun W => r18_Fmt a h1 W) (fun W => r18_Fmt b h2 W) (fun W => r18_Fmt c h3 W) w).mono ?_
 rintro e w' ⟨rfl,hb⟩
 refine ⟨?_,hb⟩
 rw [show (⟨#[32]⟩ : ByteArray) = ⟨[32].toArray⟩ from rfl,ba_app,ba_app,ba_app,ba_app]
 simp [Lib.join,List.intercalate]
end Go.Proofs.YtjbimcdofenmdaaGreatDoor
