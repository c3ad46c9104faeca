/- The reference of chapter 29: numbers, ranges, rights. The contracts of op.must and of the methods that read a line. -/
import Derived.Test.YtmalncmdfmoccaaGreatDoorCRefG
import Derived.Test.YtmalncmdfmoccaaGreatDoorCLnP
import Derived.Test.YtmalncmdfmoccaaGreatDoorCGrpR
import Derived.Test.YtmalncmdfmoccaaGreatDoorCRefC
namespace Go.Proofs.YtmalncmdfmoccaaGreatDoor
open Go.RowKit
theorem ba_app (a b : List UInt8) : (⟨a.toArray⟩ : ByteArray) ++ ⟨b.toArray⟩ = ⟨(a ++ b).toArray⟩:=by
  apply ByteArray.ext; simp
theorem ba_size (a : List UInt8) : (⟨a.toArray⟩ : ByteArray).size = a.length:=rfl
set_option maxRecDepth 100000 in
set_option maxHeartbeats 4000000 in
theorem r9_Number (n : Int) (h : i64B n) (w : World) : Calls Tryz.prog 63 #[.int .i64 n] w fun e w' => e = .returned (.string ⟨(Lib.itoa n).toArray⟩) ∧ Below w.heap.size w w':=by
  obtain ⟨h1,h2⟩:=h
  unfold Lib.itoa
  by_cases hn : n < 0
  · rw [if_pos hn]
    have e1 : IntKind.i64.wrap (n + 1) = n + 1:=Go.IntWalk.i64_in _ (by omega)
    have e2 : IntKind.i64.wrap (-(n + 1)) = -(n + 1):=Go.IntWalk.i64_in _ (by omega)
    have e3 : IntKind.u64.wrap (-(n + 1)) = -(n + 1):=Go.IntWalk.u64_in _ (by omega)
    have e4 : IntKind.u64.wrap (-(n + 1) + 1) = (n.natAbs : Int):=by rw [Go.IntWalk.u64_in _ (by omega)]; omega
    obtain ⟨S,hS⟩ : ∃ S,(⟨(Lib.decDigits n.natAbs).toArray⟩ : ByteArray) = S:=⟨_,rfl⟩
    have hsz : S.size ≤ 20:=by rw [← hS,ba_size]; exact digits_le _ (by omega)
    have hD : ∀ W,Calls Tryz.prog 106 #[.int .u64 (n.natAbs : Nat)] W fun e w' => e = .returned (.string S) ∧ Below W.heap.size W w':=fun W => by rw [← hS]; exact ref1_Digits n.natAbs W (by omega)
    have HD:=keep hD
    have HSS:=keep hS
    clear hD hS
    obtain ⟨a,ha⟩ : ∃ a,n.natAbs = a:=⟨_,rfl⟩
    rw [ha] at e4 HD HSS
    rw [ha]
    clear ha
    go_enter Tryz.func63,Tryz.ntmps63
    go_wp2_with fail
    refine (HD.out _).mono ?_
    rintro e w1 ⟨rfl,hb⟩
    have H:=Lib.hid hb
    clear hb
    go_wp2_with fail
    go_ret
    exact ⟨by rw [← HSS.out]; congr 1,H.out⟩
  · rw [if_neg hn,show n.toNat = n.natAbs by omega]
    have e1 : IntKind.u64.wrap n = (n.natAbs : Int):=by rw [Go.IntWalk.u64_in _ (by omega)]; omega
    have HD:=keep (fun W => ref1_Digits n.natAbs W (by omega))
    obtain ⟨a,ha⟩ : ∃ a,n.natAbs = a:=⟨_,rfl⟩
    rw [ha] at e1 HD
    rw [ha]
    clear ha
    go_enter Tryz.func63,Tryz.ntmps63
    go_wp2_with fail
    refine (HD.out _).mono ?_
    rintro e w1 ⟨rfl,hb⟩
    have H:=Lib.hid hb
    clear hb
    go_wp2_with fail
    go_ret
    exact ⟨rfl,H.out⟩
set_option maxRecDepth 100000 in
set_option maxHeartbeats 4000000 in
theorem r9_range_0 (x1 y1 x2 y2 : Int) (S0 : ByteArray) (hF : ∀ W,Calls Tryz.prog 109 #[.agg #[.int .i64 x1,.int .i64 y1,.int .i64 x2,.int .i64 y2]] W fun e w' => e = .returned (.tuple #[.string S0,.int .i64 0]) ∧ Below W.heap.size W w') (w : World) :
    Calls Tryz.prog 66 #[.agg #[.int .i64 x1,.int .i64 y1,.int .i64 x2,.int .i64 y2]] w fun e w' => e = .returned (.string S0) ∧ Below w.heap.size w w':=by
  have HF:=keep hF
  clear hF
  have H1:=Lib.hid ((Ok.start w).alloc w.heap.size 49 [.int .i64 x1,.int .i64 y1,.int .i64 x2,.int .i64 y2] rfl)
  go_enter Tryz.func66,Tryz.ntmps66
  go_upto_region 1 with fail
  generalize (w.alloc (.cells #[.int .i64 x1,.int .i64 y1,.int .i64 x2,.int .i64 y2] 49)) = W2 at H1 ⊢
  have F3:=H1.out.sees
  simp only [sees,kBlk,cellsAt,Nat.reduceAdd] at F3
  obtain ⟨⟨z0,c0_0,c0_1,c0_2,c0_3,-⟩,-⟩:=F3
  go_wp2_with fail
  refine (HF.out _).mono ?_
  rintro e w4 ⟨rfl,hb5⟩
  clear z0 c0_0 c0_1 c0_2 c0_3
  have H6:=Lib.hid (H1.out.below hb5)
  clear hb5 H1
  have F7:=H6.out.sees
  simp only [sees,kBlk,cellsAt,Nat.reduceAdd] at F7
  obtain ⟨⟨z0,c0_0,c0_1,c0_2,c0_3,-⟩,-⟩:=F7
  go_wp2_with fail
  go_ret
  exact ⟨rfl,H6.out.bel⟩
set_option maxRecDepth 100000 in
set_option maxHeartbeats 4000000 in
theorem r9_range_1 (x1 y1 x2 y2 : Int) (e0 : Int) (he0 : (e0 != 0) = true) (S0 S1 S2 S3 S4 : ByteArray) (hs1 : S1.size ≤ 100) (hs2 : S2.size ≤ 100) (hs3 : S3.size ≤ 100) (hs4 : S4.size ≤ 100) (hN1 : ∀ W,Calls Tryz.prog 63 #[.int .i64 x1] W fun e w' => e = .returned (.string S1) ∧ Below W.heap.size W w') (hN2 : ∀ W,Calls Tryz.prog 63 #[.int .i64 y1] W fun e w' => e = .returned (.string S2) ∧ Below W.heap.size W w') (hN3 : ∀ W,Calls Tryz.prog 63 #[.int .i64 x2] W fun e w' => e = .returned (.string S3) ∧ Below W.heap.size W w') (hN4 : ∀ W,Calls Tryz.prog 63 #[.int .i64 y2] W fun e w' => e = .returned (.string S4) ∧ Below W.heap.size W w') (hF : ∀ W,Calls Tryz.prog 109 #[.agg #[.int .i64 x1,.int .i64 y1,.int .i64 x2,.int .i64 y2]] W fun e w' => e = .returned (.tuple #[.string S0,.int .i64 e0]) ∧ Below W.heap.size W w') (w : World) :
    Calls Tryz.prog 66 #[.agg #[.int .i64 x1,.int .i64 y1,.int .i64 x2,.int .i64 y2]] w fun e w' => e = .returned (.string (((((S1 ++ ⟨#[44]⟩) ++ S2) ++ ⟨#[44]⟩) ++ S3) ++ ⟨#[44]⟩ ++ S4)) ∧ Below w.heap.size w w':=by
  have HF:=keep hF
  clear hF
  have HN1:=keep hN1
  clear hN1
  have HN2:=keep hN2
  clear hN2
  have HN3:=keep hN3
  clear hN3
  have HN4:=keep hN4
  clear hN4
  have H1:=Lib.hid ((Ok.start w).alloc w.heap.size 49 [.int .i64 x1,.int .i64 y1,.int .i64 x2,.int .i64 y2] rfl)
  go_enter Tryz.func66,Tryz.ntmps66
  go_upto_region 1 with fail
  generalize (w.alloc (.cells #[.int .i64 x1,.int .i64 y1,.int .i64 x2,.int .i64 y2] 49)) = W2 at H1 ⊢
  have F3:=H1.out.sees
  simp only [sees,kBlk,cellsAt,Nat.reduceAdd] at F3
  obtain ⟨⟨z0,c0_0,c0_1,c0_2,c0_3,-⟩,-⟩:=F3
  go_wp2_with fail
  refine (HF.out _).mono ?_
  rintro e w4 ⟨rfl,hb5⟩
  clear z0 c0_0 c0_1 c0_2 c0_3
  have H6:=Lib.hid (H1.out.below hb5)
  clear hb5 H1
  have F7:=H6.out.sees
  simp only [sees,kBlk,cellsAt,Nat.reduceAdd] at F7
  obtain ⟨⟨z0,c0_0,c0_1,c0_2,c0_3,-⟩,-⟩:=F7
  go_wp2_with fail
  refine wp_region_held_drew (S:=fun W => Ok w [kBlk (w.heap.size) 49 [.int .i64 x1,.int .i64 y1,.int .i64 x2,.int .i64 y2]] W) (by kernel_rfl) H6.out.drew (fun hHeld => ?_)
  refine wpAnyH_take (i:=0) (v:=?vx1_0) rfl (by kernel_rfl) (by kernel_rfl) (by kernel_rfl) (fun _ _ _ h => h) (Or.inl ⟨by rfl,?hyx1_0⟩) (by assumption) ?restx1_0
  case hyx1_0 => (intro w hSw; have F:=Ok.sees hSw; clear hSw; simp only [sees,kBlk,cellsAt,Nat.reduceAdd] at F; go_simp; (try rw [if_neg (by simp; omega)]); try with_reducible rfl)
  try simp only [Act.put,List.setIfInBounds_toArray,List.set_cons_zero,List.set_cons_succ,List.getElem_toArray,List.getElem_cons_zero]
  refine wpAnyH_take (i:=1) (v:=?vx2_1) rfl (by kernel_rfl) (by kernel_rfl) (by kernel_rfl) (fun _ _ _ h => h) (Or.inl ⟨by rfl,?hyx2_1⟩) (by assumption) ?restx2_1
  case hyx2_1 => (intro w hSw; have F:=Ok.sees hSw; clear hSw; simp only [sees,kBlk,cellsAt,Nat.reduceAdd] at F; go_simp; (try rw [if_neg (by simp; omega)]); try with_reducible rfl)
  try simp only [Act.put,List.setIfInBounds_toArray,List.set_cons_zero,List.set_cons_succ,List.getElem_toArray,List.getElem_cons_succ,List.getElem_cons_zero]
  refine wpAnyH_take (i:=4) (v:=?vx3_4) rfl (by kernel_rfl) (by kernel_rfl) (by kernel_rfl) (fun _ _ _ h => h) (Or.inl ⟨by rfl,?hyx3_4⟩) (by assumption) ?restx3_4
  case hyx3_4 => (intro w hSw; have F:=Ok.sees hSw; clear hSw; simp only [sees,kBlk,cellsAt,Nat.reduceAdd] at F; go_simp; (try rw [if_neg (by simp; omega)]); try with_reducible rfl)
  try simp only [Act.put,List.setIfInBounds_toArray,List.set_cons_zero,List.set_cons_succ,List.getElem_toArray,List.getElem_cons_succ,List.getElem_cons_zero]
  refine wpAnyH_take (i:=5) (v:=?vx4_5) rfl (by kernel_rfl) (by kernel_rfl) (by kernel_rfl) (fun _ _ _ h => h) (Or.inl ⟨by rfl,?hyx4_5⟩) (by assumption) ?restx4_5
  case hyx4_5 => (intro w hSw; have F:=Ok.sees hSw; clear hSw; simp only [sees,kBlk,cellsAt,Nat.reduceAdd] at F; go_simp; (try rw [if_neg (by simp; omega)]); try with_reducible rfl)
  try simp only [Act.put,List.setIfInBounds_toArray,List.set_cons_zero,List.set_cons_succ,List.getElem_toArray,List.getElem_cons_succ,List.getElem_cons_zero]
  refine wpAnyH_take (i:=9) (v:=?vx5_9) rfl (by kernel_rfl) (by kernel_rfl) (by kernel_rfl) (fun _ _ _ h => h) (Or.inl ⟨by rfl,?hyx5_9⟩) (by assumption) ?restx5_9
  case hyx5_9 => (intro w hSw; have F:=Ok.sees hSw; clear hSw; simp only [sees,kBlk,cellsAt,Nat.reduceAdd] at F; go_simp; (try rw [if_neg (by simp; omega)]); try with_reducible rfl)
  try simp only [Act.put,List.setIfInBounds_toArray,List.set_cons_zero,List.set_cons_succ,List.getElem_toArray,List.getElem_cons_succ,List.getElem_cons_zero]
  refine wpAnyH_take (i:=10) (v:=?vx6_10) rfl (by kernel_rfl) (by kernel_rfl) (by kernel_rfl) (fun _ _ _ h => h) (Or.inl ⟨by rfl,?hyx6_10⟩) (by assumption) ?restx6_10
  case hyx6_10 => (intro w hSw; have F:=Ok.sees hSw; clear hSw; simp only [sees,kBlk,cellsAt,Nat.reduceAdd] at F; go_simp; (try rw [if_neg (by simp; omega)]); try with_reducible rfl)
  try simp only [Act.put,List.setIfInBounds_toArray,List.set_cons_zero,List.set_cons_succ,List.getElem_toArray,List.getElem_cons_succ,List.getElem_cons_zero]
  refine wpAnyH_take (i:=14) (v:=?vx7_14) rfl (by kernel_rfl) (by kernel_rfl) (by kernel_rfl) (fun _ _ _ h => h) (Or.inl ⟨by rfl,?hyx7_14⟩) (by assumption) ?restx7_14
  case hyx7_14 => (intro w hSw; have F:=Ok.sees hSw; clear hSw; simp only [sees,kBlk,cellsAt,Nat.reduceAdd] at F; go_simp; (try rw [if_neg (by simp; omega)]); try with_reducible rfl)
  try simp only [Act.put,List.setIfInBounds_toArray,List.set_cons_zero,List.set_cons_succ,List.getElem_toArray,List.getElem_cons_succ,List.getElem_cons_zero]
  refine wpAnyH_take (i:=15) (v:=?vx8_15) rfl (by kernel_rfl) (by kernel_rfl) (by kernel_rfl) (fun _ _ _ h => h) (Or.inl ⟨by rfl,?hyx8_15⟩) (by assumption) ?restx8_15
  case hyx8_15 => (intro w hSw; have F:=Ok.sees hSw; clear hSw; simp only [sees,kBlk,cellsAt,Nat.reduceAdd] at F; go_simp; (try rw [if_neg (by simp; omega)]); try with_reducible rfl)
  try simp only [Act.put,List.setIfInBounds_toArray,List.set_cons_zero,List.set_cons_succ,List.getElem_toArray,List.getElem_cons_succ,List.getElem_cons_zero]
  refine wpAnyH_ready (rs:=[2]) (by kernel_rfl) (by simp) ?_
  refine AllReadyH.cons rfl (fun K hK => ?_) AllReadyH.nil
  go_simp
  refine (HN1.out _).mono ?_
  rintro e w9 ⟨rfl,hb10⟩
  go_wp2_with fail
  refine hK.out _ _ (hHeld.below hb10) (fun hHeld => ?_)
  clear hK K
  try simp only [Act.put,List.setIfInBounds_toArray,List.set_cons_zero,List.set_cons_succ,List.getElem_toArray,List.getElem_cons_succ,List.getElem_cons_zero]
  refine wpAnyH_take (i:=3) (v:=?vx9_3) rfl (by kernel_rfl) (by kernel_rfl) (by kernel_rfl) (fun _ _ _ h => h) (Or.inl ⟨by rfl,?hyx9_3⟩) (by assumption) ?restx9_3
  case hyx9_3 => (intro w hSw; have F:=Ok.sees hSw; clear hSw; simp only [sees,kBlk,cellsAt,Nat.reduceAdd] at F; go_simp; (try rw [if_neg (by simp; omega)]); try with_reducible rfl)
  try simp only [Act.put,List.setIfInBounds_toArray,List.set_cons_zero,List.set_cons_succ,List.getElem_toArray,List.getElem_cons_succ,List.getElem_cons_zero]
  refine wpAnyH_ready (rs:=[6]) (by kernel_rfl) (by simp) ?_
  refine AllReadyH.cons rfl (fun K hK => ?_) AllReadyH.nil
  go_simp
  refine (HN2.out _).mono ?_
  rintro e w11 ⟨rfl,hb12⟩
  go_wp2_with fail
  refine hK.out _ _ (hHeld.below hb12) (fun hHeld => ?_)
  clear hK K
  try simp only [Act.put,List.setIfInBounds_toArray,List.set_cons_zero,List.set_cons_succ,List.getElem_toArray,List.getElem_cons_succ,List.getElem_cons_zero]
  refine wpAnyH_take (i:=7) (v:=?vx10_7) rfl (by kernel_rfl) (by kernel_rfl) (by kernel_rfl) (fun _ _ _ h => h) (Or.inl ⟨by rfl,?hyx10_7⟩) (by assumption) ?restx10_7
  case hyx10_7 => (intro w hSw; have F:=Ok.sees hSw; clear hSw; simp only [sees,kBlk,cellsAt,Nat.reduceAdd] at F; go_simp; (try rw [if_neg (by simp; omega)]); try with_reducible rfl)
  try simp only [Act.put,List.setIfInBounds_toArray,List.set_cons_zero,List.set_cons_succ,List.getElem_toArray,List.getElem_cons_succ,List.getElem_cons_zero]
  refine wpAnyH_take (i:=8) (v:=?vx11_8) rfl (by kernel_rfl) (by kernel_rfl) (by kernel_rfl) (fun _ _ _ h => h) (Or.inl ⟨by rfl,?hyx11_8⟩) (by assumption) ?restx11_8
  case hyx11_8 => (intro w hSw; have F:=Ok.sees hSw; clear hSw; simp only [sees,kBlk,cellsAt,Nat.reduceAdd] at F; go_simp; (try rw [if_neg (by simp; omega)]); try with_reducible rfl)
  try simp only [Act.put,List.setIfInBounds_toArray,List.set_cons_zero,List.set_cons_succ,List.getElem_toArray,List.getElem_cons_succ,List.getElem_cons_zero]
  refine wpAnyH_ready (rs:=[11]) (by kernel_rfl) (by simp) ?_
  refine AllReadyH.cons rfl (fun K hK => ?_) AllReadyH.nil
  go_simp
  refine (HN3.out _).mono ?_
  rintro e w13 ⟨rfl,hb14⟩
  go_wp2_with fail
  refine hK.out _ _ (hHeld.below hb14) (fun hHeld => ?_)
  clear hK K
  try simp only [Act.put,List.setIfInBounds_toArray,List.set_cons_zero,List.set_cons_succ,List.getElem_toArray,List.getElem_cons_succ,List.getElem_cons_zero]
  refine wpAnyH_take (i:=12) (v:=?vx12_12) rfl (by kernel_rfl) (by kernel_rfl) (by kernel_rfl) (fun _ _ _ h => h) (Or.inl ⟨by rfl,?hyx12_12⟩) (by assumption) ?restx12_12
  case hyx12_12 => (intro w hSw; have F:=Ok.sees hSw; clear hSw; simp only [sees,kBlk,cellsAt,Nat.reduceAdd] at F; go_simp; (try rw [if_neg (by simp; omega)]); try with_reducible rfl)
  try simp only [Act.put,List.setIfInBounds_toArray,List.set_cons_zero,List.set_cons_succ,List.getElem_toArray,List.getElem_cons_succ,List.getElem_cons_zero]
  refine wpAnyH_take (i:=13) (v:=?vx13_13) rfl (by kernel_rfl) (by kernel_rfl) (by kernel_rfl) (fun _ _ _ h => h) (Or.inl ⟨by rfl,?hyx13_13⟩) (by assumption) ?restx13_13
  case hyx13_13 => (intro w hSw; have F:=Ok.sees hSw; clear hSw; simp only [sees,kBlk,cellsAt,Nat.reduceAdd] at F; go_simp; (try rw [if_neg (by simp; omega)]); try with_reducible rfl)
  try simp only [Act.put,List.setIfInBounds_toArray,List.set_cons_zero,List.set_cons_succ,List.getElem_toArray,List.getElem_cons_succ,List.getElem_cons_zero]
  refine wpAnyH_ready (rs:=[16]) (by kernel_rfl) (by simp) ?_
  refine AllReadyH.cons rfl (fun K hK => ?_) AllReadyH.nil
  go_simp
  refine (HN4.out _).mono ?_
  rintro e w15 ⟨rfl,hb16⟩
  go_wp2_with fail
  refine hK.out _ _ (hHeld.below hb16) (fun hHeld => ?_)
  clear hK K
  try simp only [Act.put,List.setIfInBounds_toArray,List.set_cons_zero,List.set_cons_succ,List.getElem_toArray,List.getElem_cons_succ,List.getElem_cons_zero]
  refine wpAnyH_take (i:=17) (v:=?vx14_17) rfl (by kernel_rfl) (by kernel_rfl) (by kernel_rfl) (fun _ _ _ h => h) (Or.inl ⟨by rfl,?hyx14_17⟩) (by assumption) ?restx14_17
  case hyx14_17 => (intro w hSw; have F:=Ok.sees hSw; clear hSw; simp only [sees,kBlk,cellsAt,Nat.reduceAdd] at F; go_simp; (try rw [if_neg (by simp; omega)]); try with_reducible rfl)
  try simp only [Act.put,List.setIfInBounds_toArray,List.set_cons_zero,List.set_cons_succ,List.getElem_toArray,List.getElem_cons_succ,List.getElem_cons_zero]
  refine wpAnyH_take (i:=18) (v:=?vx15_18) rfl (by kernel_rfl) (by kernel_rfl) (by kernel_rfl) (fun _ _ _ h => h) (Or.inl ⟨by rfl,?hyx15_18⟩) (by assumption) ?restx15_18
  case hyx15_18 => (intro w hSw; have F:=Ok.sees hSw; clear hSw; simp only [sees,kBlk,cellsAt,Nat.reduceAdd] at F; go_simp; (try rw [if_neg (by simp; omega)]); try with_reducible rfl)
  try simp only [Act.put,List.setIfInBounds_toArray,List.set_cons_zero,List.set_cons_succ,List.getElem_toArray,List.getElem_cons_succ,List.getElem_cons_zero]
  refine wpAnyH_done (by kernel_rfl) ?_ _
  clear z0 c0_0 c0_1 c0_2 c0_3
  clear H6
  have H17:=Lib.hid hHeld
  clear hHeld
  have F18:=H17.out.sees
  simp only [sees,kBlk,cellsAt,Nat.reduceAdd] at F18
  obtain ⟨⟨z0,c0_0,c0_1,c0_2,c0_3,-⟩,-⟩:=F18
  go_wp2_with fail
  go_ret
  exact ⟨rfl,H17.out.bel⟩
theorem r9_Range (r : R4) (h1 : i64B r.c1) (h2 : i64B r.r1) (h3 : i64B r.c2) (h4 : i64B r.r2) (w : World) : Calls Tryz.prog 66 #[.agg #[.int .i64 r.c1,.int .i64 r.r1,.int .i64 r.c2,.int .i64 r.r2]] w fun e w' => e = .returned (.string ⟨(rangeL r).toArray⟩) ∧ Below w.heap.size w w':=by
  obtain ⟨x1,y1,x2,y2⟩:=r
  have hF:=fun W => ref3_Format x1 y1 x2 y2 W
  unfold fmtR at hF
  unfold rangeL
  by_cases hc : checkB ⟨x1,y1,x2,y2⟩ = true
  · rw [if_pos hc] at hF ⊢
    exact r9_range_0 x1 y1 x2 y2 _ hF w
  · rw [if_neg hc] at hF ⊢
    refine (r9_range_1 x1 y1 x2 y2 _ (by decide) _ _ _ _ _ (by have:=itoa_len x1 h1; rw [ba_size]; omega) (by have:=itoa_len y1 h2; rw [ba_size]; omega) (by have:=itoa_len x2 h3; rw [ba_size]; omega) (by have:=itoa_len y2 h4; rw [ba_size]; omega) (fun W => r9_Number x1 h1 W) (fun W => r9_Number y1 h2 W) (fun W => r9_Number x2 h3 W) (fun W => r9_Number y2 h4 W) hF w).mono ?_
    rintro e w' ⟨rfl,hb⟩
    refine ⟨?_,hb⟩
    rw [show (⟨#[44]⟩ : ByteArray) = ⟨[44].toArray⟩ from rfl,ba_app,ba_app,ba_app,ba_app,ba_app,ba_app]
    simp [commaL,Lib.join,List.intercalate]
theorem r18_Fmt (a : Nat) (h : a < 18446744073709551616) (w : World) : Calls Tryz.prog 68 #[.int .u64 (a : Nat)] w fun e w' => e = .returned (.string ⟨(gfmtL a).toArray⟩) ∧ Below w.heap.size w w':=by
  refine (ref18_Format a w h).mono ?_
  rintro e w' ⟨rfl,rfl⟩
  exact ⟨rfl,Below.refl _ _⟩
end Go.Proofs.YtmalncmdfmoccaaGreatDoor
namespace Go.Proofs.YtmalncmdfmoccaaGreatDoor
open Go.RowKit
theorem Atoi_yes (l : List UInt8) (v : Int) (w : World) (hs : l.length ≤ 4294967296) (h : numP l = some v) :
    Calls Tryz.prog 173 #[.string ⟨l.toArray⟩] w fun e w' => e = .returned (.tuple #[.int .i64 v,.nilIface]) ∧ Below w.heap.size w w':=by
  unfold numP at h
  rcases hv : Lib.atoiAll l with x | _ | _
  · rw [hv] at h
    obtain rfl:=Option.some.inj h
    exact (Tryz.strconv_Atoi_ok ⟨l.toArray⟩ (Nat.le_trans hs (by decide)) x hv w).mono fun _ _ ⟨he,hw⟩ => ⟨he,world_cases hw⟩
  · rw [hv] at h; cases h
  · rw [hv] at h; cases h
theorem numP_i64 {l : List UInt8} {v : Int} (h : numP l = some v) : i64B v:=by
  unfold numP at h
  rcases hv : Lib.atoiAll l with x | _ | _
  · rw [hv] at h
    obtain rfl:=Option.some.inj h
    exact Lib.atoiAll_bounds hv
  · rw [hv] at h; cases h
  · rw [hv] at h; cases h
theorem snd_len (l : List UInt8) : (sndW l).length ≤ l.length:=by
  unfold sndW Lib.cut; split <;> simp
def Ln (w0 : World) (ps : List Pers) (lb : Nat) (l : List UInt8) (W : World) : Prop :=
  w0.heap.size ≤ lb ∧ (∀ x ∈ ps,x.far (some lb)) ∧ l.length ≤ 100000 ∧ Ok w0 (kVar lb 200 [.string ⟨l.toArray⟩] :: ps) W
section
variable {w0 w w' : World} {ps : List Pers} {lb : Nat} {l : List UInt8}
theorem Ln.below (h : Ln w0 ps lb l w) (hb : Below w.heap.size w w') : Ln w0 ps lb l w':=⟨h.1,h.2.1,h.2.2.1,h.2.2.2.below hb⟩
theorem Ln.bel (h : Ln w0 ps lb l w) : Below w0.heap.size w0 w:=h.2.2.2.bel
theorem Ln.next (h : Ln w0 ps lb l w) : Ln w0 ps lb (sndW l) (w.setCell ⟨lb,0,none⟩ (.string ⟨(sndW l).toArray⟩)) :=
  ⟨h.1,h.2.1,Nat.le_trans (snd_len l) h.2.2.1,h.2.2.2.set_ (i:=0) (u:=.string ⟨(sndW l).toArray⟩) h.1 h.2.1⟩
end
end Go.Proofs.YtmalncmdfmoccaaGreatDoor
