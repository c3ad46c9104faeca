/- The walk of the law OpPlain. -/
import Derived.Test.YtjbimcdofenmdaaGreatDoorOpL
namespace Go.Proofs.YtjbimcdofenmdaaGreatDoor
open Go.RowKit
set_option maxRecDepth 100000 in
set_option maxHeartbeats 4000000 in
theorem plain_core_001 (k : Nat) (u x1 y1 x2 y2 : Int) (inp : List UInt8) (a b c f t : Nat) (n : Int) (pu px1 py1 px2 py2 : Int) (pinp : List UInt8) (pa pb pc pf pt : Nat) (pn : Int) (hi : inp.length ≤ 600) (g1 : ¬ (k : Int) < 1) (g2 : ¬ (k : Int) > 10) (e9 : ((k : Int) != 9) = false)
    (HPl0 : ∀ w : World,Calls Tryz.prog 17 #[.agg #[.int .u8 (k : Nat),.int .i64 u,.int .i64 x1,.int .i64 y1,.int .i64 x2,.int .i64 y2,.string ⟨inp.toArray⟩,.int .u64 (a : Nat),.int .u64 (b : Nat),.int .u64 (c : Nat),.int .u8 (f : Nat),.int .u64 (t : Nat),.int .i64 n]] w fun e w' => e = .returned (.agg #[.int .u8 (k : Nat),.int .i64 pu,.int .i64 px1,.int .i64 py1,.int .i64 px2,.int .i64 py2,.string ⟨pinp.toArray⟩,.int .u64 (pa : Nat),.int .u64 (pb : Nat),.int .u64 (pc : Nat),.int .u8 (pf : Nat),.int .u64 (pt : Nat),.int .i64 pn]) ∧ Below w.heap.size w w')
    (HPp0 : ∀ w : World,Calls Tryz.prog 17 #[.agg #[.int .u8 (k : Nat),.int .i64 pu,.int .i64 px1,.int .i64 py1,.int .i64 px2,.int .i64 py2,.string ⟨pinp.toArray⟩,.int .u64 (pa : Nat),.int .u64 (pb : Nat),.int .u64 (pc : Nat),.int .u8 (pf : Nat),.int .u64 (pt : Nat),.int .i64 pn]] w fun e w' => e = .returned (.agg #[.int .u8 (k : Nat),.int .i64 pu,.int .i64 px1,.int .i64 py1,.int .i64 px2,.int .i64 py2,.string ⟨pinp.toArray⟩,.int .u64 (pa : Nat),.int .u64 (pb : Nat),.int .u64 (pc : Nat),.int .u8 (pf : Nat),.int .u64 (pt : Nat),.int .i64 pn]) ∧ Below w.heap.size w w')
    (HT0 : ∀ w : World,Calls Tryz.prog 9 #[.agg #[.int .u8 (k : Nat),.int .i64 u,.int .i64 x1,.int .i64 y1,.int .i64 x2,.int .i64 y2,.string ⟨inp.toArray⟩,.int .u64 (a : Nat),.int .u64 (b : Nat),.int .u64 (c : Nat),.int .u8 (f : Nat),.int .u64 (t : Nat),.int .i64 n]] w fun e w' => e = .returned (.tuple #[.agg #[.int .i64 0,.int .i64 0,.int .i64 0,.int .i64 0],.bool false]) ∧ Below w.heap.size w w')
    (HTp0 : ∀ w : World,Calls Tryz.prog 9 #[.agg #[.int .u8 (k : Nat),.int .i64 pu,.int .i64 px1,.int .i64 py1,.int .i64 px2,.int .i64 py2,.string ⟨pinp.toArray⟩,.int .u64 (pa : Nat),.int .u64 (pb : Nat),.int .u64 (pc : Nat),.int .u8 (pf : Nat),.int .u64 (pt : Nat),.int .i64 pn]] w fun e w' => e = .returned (.tuple #[.agg #[.int .i64 0,.int .i64 0,.int .i64 0,.int .i64 0],.bool false]) ∧ Below w.heap.size w w')
    (HM0 : ∀ w : World,Calls Tryz.prog 15 #[.agg #[.int .u8 (k : Nat),.int .i64 u,.int .i64 x1,.int .i64 y1,.int .i64 x2,.int .i64 y2,.string ⟨inp.toArray⟩,.int .u64 (a : Nat),.int .u64 (b : Nat),.int .u64 (c : Nat),.int .u8 (f : Nat),.int .u64 (t : Nat),.int .i64 n]] w fun e w' => e = .returned (.bool true) ∧ Below w.heap.size w w')
    (HMp0 : ∀ w : World,Calls Tryz.prog 15 #[.agg #[.int .u8 (k : Nat),.int .i64 pu,.int .i64 px1,.int .i64 py1,.int .i64 px2,.int .i64 py2,.string ⟨pinp.toArray⟩,.int .u64 (pa : Nat),.int .u64 (pb : Nat),.int .u64 (pc : Nat),.int .u8 (pf : Nat),.int .u64 (pt : Nat),.int .i64 pn]] w fun e w' => e = .returned (.bool true) ∧ Below w.heap.size w w')
    (HC0 : ∀ w : World,Calls Tryz.prog 13 #[.agg #[.int .u8 (k : Nat),.int .i64 u,.int .i64 x1,.int .i64 y1,.int .i64 x2,.int .i64 y2,.string ⟨inp.toArray⟩,.int .u64 (a : Nat),.int .u64 (b : Nat),.int .u64 (c : Nat),.int .u8 (f : Nat),.int .u64 (t : Nat),.int .i64 n]] w fun e w' => e = .returned (.int .i64 4) ∧ Below w.heap.size w w') (w : World) (he : Env6 w) :
    Calls Tryz.prog 7 #[.agg #[.int .u8 (k : Nat),.int .i64 u,.int .i64 x1,.int .i64 y1,.int .i64 x2,.int .i64 y2,.string ⟨inp.toArray⟩,.int .u64 (a : Nat),.int .u64 (b : Nat),.int .u64 (c : Nat),.int .u8 (f : Nat),.int .u64 (t : Nat),.int .i64 n]] w fun e w' => e = .returned (.bool true) ∧ Below w.heap.size w w':=by
  have HE:=keep he
  clear he
  have HPl:=keep HPl0
  clear HPl0
  have HPp:=keep HPp0
  clear HPp0
  have HT:=keep HT0
  clear HT0
  have HTp:=keep HTp0
  clear HTp0
  have HM:=keep HM0
  clear HM0
  have HMp:=keep HMp0
  clear HMp0
  have HC:=keep HC0
  clear HC0
  have gi : ¬ (inp.length : Int) > 600:=by omega
  clear hi
  have H1:=Lib.hid ((Ok.start w).alloc w.heap.size 28 [.int .u8 (k : Nat),.int .i64 u,.int .i64 x1,.int .i64 y1,.int .i64 x2,.int .i64 y2,.string ⟨inp.toArray⟩,.int .u64 (a : Nat),.int .u64 (b : Nat),.int .u64 (c : Nat),.int .u8 (f : Nat),.int .u64 (t : Nat),.int .i64 n] rfl)
  go_enter Tryz.func7,Tryz.ntmps7
  go_upto_region 1 with fail
  generalize (w.alloc (.cells #[.int .u8 (k : Nat),.int .i64 u,.int .i64 x1,.int .i64 y1,.int .i64 x2,.int .i64 y2,.string ⟨inp.toArray⟩,.int .u64 (a : Nat),.int .u64 (b : Nat),.int .u64 (c : Nat),.int .u8 (f : Nat),.int .u64 (t : Nat),.int .i64 n] 28)) = W2 at H1 ⊢
  have F3:=H1.out.sees
  simp only [sees,kBlk,cellsAt,Nat.reduceAdd] at F3
  obtain ⟨⟨z0,c0_0,c0_1,c0_2,c0_3,c0_4,c0_5,c0_6,c0_7,c0_8,c0_9,c0_10,c0_11,c0_12,-⟩,-⟩:=F3
  go_wp2_with fail
  refine (HPl.out _).mono ?_
  rintro e w4 ⟨rfl,hb5⟩
  clear z0 c0_0 c0_1 c0_2 c0_3 c0_4 c0_5 c0_6 c0_7 c0_8 c0_9 c0_10 c0_11 c0_12
  have H6:=Lib.hid (H1.out.below hb5)
  clear hb5 H1
  go_upto_region 4 with fail
  have H7:=Lib.hid (H6.out.alloc w4.heap.size 28 [.int .u8 (k : Nat),.int .i64 pu,.int .i64 px1,.int .i64 py1,.int .i64 px2,.int .i64 py2,.string ⟨pinp.toArray⟩,.int .u64 (pa : Nat),.int .u64 (pb : Nat),.int .u64 (pc : Nat),.int .u8 (pf : Nat),.int .u64 (pt : Nat),.int .i64 pn] rfl)
  clear H6
  generalize (w4.alloc (.cells #[.int .u8 (k : Nat),.int .i64 pu,.int .i64 px1,.int .i64 py1,.int .i64 px2,.int .i64 py2,.string ⟨pinp.toArray⟩,.int .u64 (pa : Nat),.int .u64 (pb : Nat),.int .u64 (pc : Nat),.int .u8 (pf : Nat),.int .u64 (pt : Nat),.int .i64 pn] 28)) = W8 at H7 ⊢
  have F9:=H7.out.sees
  simp only [sees,kBlk,cellsAt,Nat.reduceAdd] at F9
  obtain ⟨⟨z0,c0_0,c0_1,c0_2,c0_3,c0_4,c0_5,c0_6,c0_7,c0_8,c0_9,c0_10,c0_11,c0_12,-⟩,⟨z1,c1_0,c1_1,c1_2,c1_3,c1_4,c1_5,c1_6,c1_7,c1_8,c1_9,c1_10,c1_11,c1_12,-⟩,-⟩:=F9
  go_wp2_with fail
  refine (HT.out _).mono ?_
  rintro e w10 ⟨rfl,hb11⟩
  clear z0 c0_0 c0_1 c0_2 c0_3 c0_4 c0_5 c0_6 c0_7 c0_8 c0_9 c0_10 c0_11 c0_12 z1 c1_0 c1_1 c1_2 c1_3 c1_4 c1_5 c1_6 c1_7 c1_8 c1_9 c1_10 c1_11 c1_12
  have H12:=Lib.hid (H7.out.below hb11)
  clear hb11 H7
  go_upto_region 5 with fail
  have H13:=Lib.hid (H12.out.alloc w10.heap.size 23 [.int .i64 0,.int .i64 0,.int .i64 0,.int .i64 0] rfl)
  clear H12
  generalize (w10.alloc (.cells #[.int .i64 0,.int .i64 0,.int .i64 0,.int .i64 0] 23)) = W14 at H13 ⊢
  have F15:=H13.out.sees
  simp only [sees,kBlk,cellsAt,Nat.reduceAdd] at F15
  obtain ⟨⟨z0,c0_0,c0_1,c0_2,c0_3,-⟩,⟨z1,c1_0,c1_1,c1_2,c1_3,c1_4,c1_5,c1_6,c1_7,c1_8,c1_9,c1_10,c1_11,c1_12,-⟩,⟨z2,c2_0,c2_1,c2_2,c2_3,c2_4,c2_5,c2_6,c2_7,c2_8,c2_9,c2_10,c2_11,c2_12,-⟩,-⟩:=F15
  go_wp2_with fail
  refine (HTp.out _).mono ?_
  rintro e w16 ⟨rfl,hb17⟩
  clear z0 c0_0 c0_1 c0_2 c0_3 z1 c1_0 c1_1 c1_2 c1_3 c1_4 c1_5 c1_6 c1_7 c1_8 c1_9 c1_10 c1_11 c1_12 z2 c2_0 c2_1 c2_2 c2_3 c2_4 c2_5 c2_6 c2_7 c2_8 c2_9 c2_10 c2_11 c2_12
  have H18:=Lib.hid (H13.out.below hb17)
  clear hb17 H13
  go_upto_region 6 with fail
  have H19:=Lib.hid (H18.out.alloc w16.heap.size 23 [.int .i64 0,.int .i64 0,.int .i64 0,.int .i64 0] rfl)
  clear H18
  generalize (w16.alloc (.cells #[.int .i64 0,.int .i64 0,.int .i64 0,.int .i64 0] 23)) = W20 at H19 ⊢
  have F21:=H19.out.sees
  simp only [sees,kBlk,cellsAt,Nat.reduceAdd] at F21
  obtain ⟨⟨z0,c0_0,c0_1,c0_2,c0_3,-⟩,⟨z1,c1_0,c1_1,c1_2,c1_3,-⟩,⟨z2,c2_0,c2_1,c2_2,c2_3,c2_4,c2_5,c2_6,c2_7,c2_8,c2_9,c2_10,c2_11,c2_12,-⟩,⟨z3,c3_0,c3_1,c3_2,c3_3,c3_4,c3_5,c3_6,c3_7,c3_8,c3_9,c3_10,c3_11,c3_12,-⟩,-⟩:=F21
  refine wp_region_held_drew (S:=fun W => Ok w [kBlk (w16.heap.size) 23 [.int .i64 0,.int .i64 0,.int .i64 0,.int .i64 0],kBlk (w10.heap.size) 23 [.int .i64 0,.int .i64 0,.int .i64 0,.int .i64 0],kBlk (w4.heap.size) 28 [.int .u8 (k : Nat),.int .i64 pu,.int .i64 px1,.int .i64 py1,.int .i64 px2,.int .i64 py2,.string ⟨pinp.toArray⟩,.int .u64 (pa : Nat),.int .u64 (pb : Nat),.int .u64 (pc : Nat),.int .u8 (pf : Nat),.int .u64 (pt : Nat),.int .i64 pn],kBlk (w.heap.size) 28 [.int .u8 (k : Nat),.int .i64 u,.int .i64 x1,.int .i64 y1,.int .i64 x2,.int .i64 y2,.string ⟨inp.toArray⟩,.int .u64 (a : Nat),.int .u64 (b : Nat),.int .u64 (c : Nat),.int .u8 (f : Nat),.int .u64 (t : Nat),.int .i64 n]] W) (by kernel_rfl) H19.out.drew (fun hHeld => ?_)
  refine wpAnyH_take (i:=0) (v:=?vx151_0) rfl (by kernel_rfl) (by kernel_rfl) (by kernel_rfl) (fun _ _ _ h => h) (Or.inl ⟨by rfl,?hyx151_0⟩) (by assumption) ?restx151_0
  case hyx151_0 => (intro w hSw; have F:=Ok.sees hSw; clear hSw; simp only [sees,kBlk,cellsAt,Nat.reduceAdd] at F; go_simp; try with_reducible rfl)
  try simp only [Act.put,List.setIfInBounds_toArray,List.set_cons_zero,List.set_cons_succ,List.getElem_toArray,List.getElem_cons_zero]
  refine wpAnyH_take (i:=2) (v:=?vx152_2) rfl (by kernel_rfl) (by kernel_rfl) (by kernel_rfl) (fun _ _ _ h => h) (Or.inl ⟨by rfl,?hyx152_2⟩) (by assumption) ?restx152_2
  case hyx152_2 => (intro w hSw; have F:=Ok.sees hSw; clear hSw; simp only [sees,kBlk,cellsAt,Nat.reduceAdd] at F; go_simp; try with_reducible rfl)
  try simp only [Act.put,List.setIfInBounds_toArray,List.set_cons_zero,List.set_cons_succ,List.getElem_toArray,List.getElem_cons_succ,List.getElem_cons_zero]
  refine wpAnyH_ready (rs:=[1]) (by kernel_rfl) (by simp) ?_
  refine AllReadyH.cons rfl (fun K hK => ?_) AllReadyH.nil
  go_simp
  refine (HPp.out _).mono ?_
  rintro e w23 ⟨rfl,hb24⟩
  go_wp2_with fail
  refine hK.out _ _ (hHeld.below hb24) (fun hHeld => ?_)
  clear hK K
  try simp only [Act.put,List.setIfInBounds_toArray,List.set_cons_zero,List.set_cons_succ,List.getElem_toArray,List.getElem_cons_succ,List.getElem_cons_zero]
  refine wpAnyH_take (i:=3) (v:=?vx153_3) rfl (by kernel_rfl) (by kernel_rfl) (by kernel_rfl) (fun _ _ _ h => h) (Or.inl ⟨by rfl,?hyx153_3⟩) (by assumption) ?restx153_3
  case hyx153_3 => (intro w hSw; have F:=Ok.sees hSw; clear hSw; simp only [sees,kBlk,cellsAt,Nat.reduceAdd] at F; go_simp; try with_reducible rfl)
  try simp only [Act.put,List.setIfInBounds_toArray,List.set_cons_zero,List.set_cons_succ,List.getElem_toArray,List.getElem_cons_succ,List.getElem_cons_zero]
  refine wpAnyH_take (i:=4) (v:=?vx154_4) rfl (by kernel_rfl) (by kernel_rfl) (by kernel_rfl) (fun _ _ _ h => h) (Or.inl ⟨by rfl,?hyx154_4⟩) (by assumption) ?restx154_4
  case hyx154_4 => (intro w hSw; have F:=Ok.sees hSw; clear hSw; simp only [sees,kBlk,cellsAt,Nat.reduceAdd] at F; go_simp; try with_reducible rfl)
  try simp only [Act.put,List.setIfInBounds_toArray,List.set_cons_zero,List.set_cons_succ,List.getElem_toArray,List.getElem_cons_succ,List.getElem_cons_zero]
  refine wpAnyH_take (i:=5) (v:=?vx155_5) rfl (by kernel_rfl) (by kernel_rfl) (by kernel_rfl) (fun _ _ _ h => h) (Or.inl ⟨by rfl,?hyx155_5⟩) (by assumption) ?restx155_5
  case hyx155_5 => (intro w hSw; have F:=Ok.sees hSw; clear hSw; simp only [sees,kBlk,cellsAt,Nat.reduceAdd] at F; go_simp; try with_reducible rfl)
  try simp only [Act.put,List.setIfInBounds_toArray,List.set_cons_zero,List.set_cons_succ,List.getElem_toArray,List.getElem_cons_succ,List.getElem_cons_zero]
  refine wpAnyH_take (i:=6) (v:=?vx156_6) rfl (by kernel_rfl) (by kernel_rfl) (by kernel_rfl) (fun _ _ _ h => h) (Or.inl ⟨by rfl,?hyx156_6⟩) (by assumption) ?restx156_6
  case hyx156_6 => (intro w hSw; have F:=Ok.sees hSw; clear hSw; simp only [sees,kBlk,cellsAt,Nat.reduceAdd] at F; go_simp; try with_reducible rfl)
  try simp only [Act.put,List.setIfInBounds_toArray,List.set_cons_zero,List.set_cons_succ,List.getElem_toArray,List.getElem_cons_succ,List.getElem_cons_zero]
  refine wpAnyH_take (i:=7) (v:=?vx157_7) rfl (by kernel_rfl) (by kernel_rfl) (by kernel_rfl) (fun _ _ _ h => h) (Or.inl ⟨by rfl,?hyx157_7⟩) (by assumption) ?restx157_7
  case hyx157_7 => (intro w hSw; have F:=Ok.sees hSw; clear hSw; simp only [sees,kBlk,cellsAt,Nat.reduceAdd] at F; go_simp; try with_reducible rfl)
  try simp only [Act.put,List.setIfInBounds_toArray,List.set_cons_zero,List.set_cons_succ,List.getElem_toArray,List.getElem_cons_succ,List.getElem_cons_zero]
  refine wpAnyH_take (i:=8) (v:=?vx158_8) rfl (by kernel_rfl) (by kernel_rfl) (by kernel_rfl) (fun _ _ _ h => h) (Or.inl ⟨by rfl,?hyx158_8⟩) (by assumption) ?restx158_8
  case hyx158_8 => (intro w hSw; have F:=Ok.sees hSw; clear hSw; simp only [sees,kBlk,cellsAt,Nat.reduceAdd] at F; go_simp; try with_reducible rfl)
  try simp only [Act.put,List.setIfInBounds_toArray,List.set_cons_zero,List.set_cons_succ,List.getElem_toArray,List.getElem_cons_succ,List.getElem_cons_zero]
  refine wpAnyH_take (i:=9) (v:=?vx159_9) rfl (by kernel_rfl) (by kernel_rfl) (by kernel_rfl) (fun _ _ _ h => h) (Or.inl ⟨by rfl,?hyx159_9⟩) (by assumption) ?restx159_9
  case hyx159_9 => (intro w hSw; have F:=Ok.sees hSw; clear hSw; simp only [sees,kBlk,cellsAt,Nat.reduceAdd] at F; go_simp; try with_reducible rfl)
  try simp only [Act.put,List.setIfInBounds_toArray,List.set_cons_zero,List.set_cons_succ,List.getElem_toArray,List.getElem_cons_succ,List.getElem_cons_zero]
  refine wpAnyH_take (i:=10) (v:=?vx160_10) rfl (by kernel_rfl) (by kernel_rfl) (by kernel_rfl) (fun _ _ _ h => h) (Or.inl ⟨by rfl,?hyx160_10⟩) (by assumption) ?restx160_10
  case hyx160_10 => (intro w hSw; have F:=Ok.sees hSw; clear hSw; simp only [sees,kBlk,cellsAt,Nat.reduceAdd] at F; go_simp; try with_reducible rfl)
  try simp only [Act.put,List.setIfInBounds_toArray,List.set_cons_zero,List.set_cons_succ,List.getElem_toArray,List.getElem_cons_succ,List.getElem_cons_zero]
  refine wpAnyH_take (i:=11) (v:=?vx161_11) rfl (by kernel_rfl) (by kernel_rfl) (by kernel_rfl) (fun _ _ _ h => h) (Or.inl ⟨by rfl,?hyx161_11⟩) (by assumption) ?restx161_11
  case hyx161_11 => (intro w hSw; have F:=Ok.sees hSw; clear hSw; simp only [sees,kBlk,cellsAt,Nat.reduceAdd] at F; go_simp; try with_reducible rfl)
  try simp only [Act.put,List.setIfInBounds_toArray,List.set_cons_zero,List.set_cons_succ,List.getElem_toArray,List.getElem_cons_succ,List.getElem_cons_zero]
  refine wpAnyH_take (i:=12) (v:=?vx162_12) rfl (by kernel_rfl) (by kernel_rfl) (by kernel_rfl) (fun _ _ _ h => h) (Or.inl ⟨by rfl,?hyx162_12⟩) (by assumption) ?restx162_12
  case hyx162_12 => (intro w hSw; have F:=Ok.sees hSw; clear hSw; simp only [sees,kBlk,cellsAt,Nat.reduceAdd] at F; go_simp; try with_reducible rfl)
  try simp only [Act.put,List.setIfInBounds_toArray,List.set_cons_zero,List.set_cons_succ,List.getElem_toArray,List.getElem_cons_succ,List.getElem_cons_zero]
  refine wpAnyH_take (i:=13) (v:=?vx163_13) rfl (by kernel_rfl) (by kernel_rfl) (by kernel_rfl) (fun _ _ _ h => h) (Or.inl ⟨by rfl,?hyx163_13⟩) (by assumption) ?restx163_13
  case hyx163_13 => (intro w hSw; have F:=Ok.sees hSw; clear hSw; simp only [sees,kBlk,cellsAt,Nat.reduceAdd] at F; go_simp; try with_reducible rfl)
  try simp only [Act.put,List.setIfInBounds_toArray,List.set_cons_zero,List.set_cons_succ,List.getElem_toArray,List.getElem_cons_succ,List.getElem_cons_zero]
  refine wpAnyH_take (i:=14) (v:=?vx164_14) rfl (by kernel_rfl) (by kernel_rfl) (by kernel_rfl) (fun _ _ _ h => h) (Or.inl ⟨by rfl,?hyx164_14⟩) (by assumption) ?restx164_14
  case hyx164_14 => (intro w hSw; have F:=Ok.sees hSw; clear hSw; simp only [sees,kBlk,cellsAt,Nat.reduceAdd] at F; go_simp; try with_reducible rfl)
  try simp only [Act.put,List.setIfInBounds_toArray,List.set_cons_zero,List.set_cons_succ,List.getElem_toArray,List.getElem_cons_succ,List.getElem_cons_zero]
  refine wpAnyH_take (i:=15) (v:=?vx165_15) rfl (by kernel_rfl) (by kernel_rfl) (by kernel_rfl) (fun _ _ _ h => h) (Or.inl ⟨by rfl,?hyx165_15⟩) (by assumption) ?restx165_15
  case hyx165_15 => (intro w hSw; have F:=Ok.sees hSw; clear hSw; simp only [sees,kBlk,cellsAt,Nat.reduceAdd] at F; go_simp; try with_reducible rfl)
  try simp only [Act.put,List.setIfInBounds_toArray,List.set_cons_zero,List.set_cons_succ,List.getElem_toArray,List.getElem_cons_succ,List.getElem_cons_zero]
  refine wpAnyH_take (i:=16) (v:=?vx166_16) rfl (by kernel_rfl) (by kernel_rfl) (by kernel_rfl) (fun _ _ _ h => h) (Or.inl ⟨by rfl,?hyx166_16⟩) (by assumption) ?restx166_16
  case hyx166_16 => (intro w hSw; have F:=Ok.sees hSw; clear hSw; simp only [sees,kBlk,cellsAt,Nat.reduceAdd] at F; go_simp; try with_reducible rfl)
  try simp only [Act.put,List.setIfInBounds_toArray,List.set_cons_zero,List.set_cons_succ,List.getElem_toArray,List.getElem_cons_succ,List.getElem_cons_zero]
  refine wpAnyH_take (i:=17) (v:=?vx167_17) rfl (by kernel_rfl) (by kernel_rfl) (by kernel_rfl) (fun _ _ _ h => h) (Or.inl ⟨by rfl,?hyx167_17⟩) (by assumption) ?restx167_17
  case hyx167_17 => (intro w hSw; have F:=Ok.sees hSw; clear hSw; simp only [sees,kBlk,cellsAt,Nat.reduceAdd] at F; go_simp; try with_reducible rfl)
  try simp only [Act.put,List.setIfInBounds_toArray,List.set_cons_zero,List.set_cons_succ,List.getElem_toArray,List.getElem_cons_succ,List.getElem_cons_zero]
  refine wpAnyH_take (i:=18) (v:=?vx168_18) rfl (by kernel_rfl) (by kernel_rfl) (by kernel_rfl) (fun _ _ _ h => h) (Or.inl ⟨by rfl,?hyx168_18⟩) (by assumption) ?restx168_18
  case hyx168_18 => (intro w hSw; have F:=Ok.sees hSw; clear hSw; simp only [sees,kBlk,cellsAt,Nat.reduceAdd] at F; go_simp; try with_reducible rfl)
  try simp only [Act.put,List.setIfInBounds_toArray,List.set_cons_zero,List.set_cons_succ,List.getElem_toArray,List.getElem_cons_succ,List.getElem_cons_zero]
  refine wpAnyH_take (i:=19) (v:=?vx169_19) rfl (by kernel_rfl) (by kernel_rfl) (by kernel_rfl) (fun _ _ _ h => h) (Or.inl ⟨by rfl,?hyx169_19⟩) (by assumption) ?restx169_19
  case hyx169_19 => (intro w hSw; have F:=Ok.sees hSw; clear hSw; simp only [sees,kBlk,cellsAt,Nat.reduceAdd] at F; go_simp; try with_reducible rfl)
  try simp only [Act.put,List.setIfInBounds_toArray,List.set_cons_zero,List.set_cons_succ,List.getElem_toArray,List.getElem_cons_succ,List.getElem_cons_zero]
  refine wpAnyH_take (i:=20) (v:=?vx170_20) rfl (by kernel_rfl) (by kernel_rfl) (by kernel_rfl) (fun _ _ _ h => h) (Or.inl ⟨by rfl,?hyx170_20⟩) (by assumption) ?restx170_20
  case hyx170_20 => (intro w hSw; have F:=Ok.sees hSw; clear hSw; simp only [sees,kBlk,cellsAt,Nat.reduceAdd] at F; go_simp; try with_reducible rfl)
  try simp only [Act.put,List.setIfInBounds_toArray,List.set_cons_zero,List.set_cons_succ,List.getElem_toArray,List.getElem_cons_succ,List.getElem_cons_zero]
  refine wpAnyH_take (i:=21) (v:=?vx171_21) rfl (by kernel_rfl) (by kernel_rfl) (by kernel_rfl) (fun _ _ _ h => h) (Or.inl ⟨by rfl,?hyx171_21⟩) (by assumption) ?restx171_21
  case hyx171_21 => (intro w hSw; have F:=Ok.sees hSw; clear hSw; simp only [sees,kBlk,cellsAt,Nat.reduceAdd] at F; go_simp; try with_reducible rfl)
  try simp only [Act.put,List.setIfInBounds_toArray,List.set_cons_zero,List.set_cons_succ,List.getElem_toArray,List.getElem_cons_succ,List.getElem_cons_zero]
  refine wpAnyH_take (i:=22) (v:=?vx172_22) rfl (by kernel_rfl) (by kernel_rfl) (by kernel_rfl) (fun _ _ _ h => h) (Or.inl ⟨by rfl,?hyx172_22⟩) (by assumption) ?restx172_22
  case hyx172_22 => (intro w hSw; have F:=Ok.sees hSw; clear hSw; simp only [sees,kBlk,cellsAt,Nat.reduceAdd] at F; go_simp; try with_reducible rfl)
  try simp only [Act.put,List.setIfInBounds_toArray,List.set_cons_zero,List.set_cons_succ,List.getElem_toArray,List.getElem_cons_succ,List.getElem_cons_zero]
  refine wpAnyH_take (i:=24) (v:=?vx173_24) rfl (by kernel_rfl) (by kernel_rfl) (by kernel_rfl) (fun _ _ _ h => h) (Or.inl ⟨by rfl,?hyx173_24⟩) (by assumption) ?restx173_24
  case hyx173_24 => (intro w hSw; have F:=Ok.sees hSw; clear hSw; simp only [sees,kBlk,cellsAt,Nat.reduceAdd] at F; go_simp; try with_reducible rfl)
  try simp only [Act.put,List.setIfInBounds_toArray,List.set_cons_zero,List.set_cons_succ,List.getElem_toArray,List.getElem_cons_succ,List.getElem_cons_zero]
  refine wpAnyH_ready (rs:=[23]) (by kernel_rfl) (by simp) ?_
  refine AllReadyH.cons rfl (fun K hK => ?_) AllReadyH.nil
  go_simp
  refine (HMp.out _).mono ?_
  rintro e w25 ⟨rfl,hb26⟩
  go_wp2_with fail
  refine hK.out _ _ (hHeld.below hb26) (fun hHeld => ?_)
  clear hK K
  try simp only [Act.put,List.setIfInBounds_toArray,List.set_cons_zero,List.set_cons_succ,List.getElem_toArray,List.getElem_cons_succ,List.getElem_cons_zero]
  refine wpAnyH_ready (rs:=[25]) (by kernel_rfl) (by simp) ?_
  refine AllReadyH.cons rfl (fun K hK => ?_) AllReadyH.nil
  go_simp
  refine (HM.out _).mono ?_
  rintro e w27 ⟨rfl,hb28⟩
  go_wp2_with fail
  refine hK.out _ _ (hHeld.below hb28) (fun hHeld => ?_)
  clear hK K
  try simp only [Act.put,List.setIfInBounds_toArray,List.set_cons_zero,List.set_cons_succ,List.getElem_toArray,List.getElem_cons_succ,List.getElem_cons_zero]
  refine wpAnyH_take (i:=26) (v:=?vx174_26) rfl (by kernel_rfl) (by kernel_rfl) (by kernel_rfl) (fun _ _ _ h => h) (Or.inl ⟨by rfl,?hyx174_26⟩) (by assumption) ?restx174_26
  case hyx174_26 => (intro w hSw; have F:=Ok.sees hSw; clear hSw; simp only [sees,kBlk,cellsAt,Nat.reduceAdd] at F; go_simp; try with_reducible rfl)
  try simp only [Act.put,List.setIfInBounds_toArray,List.set_cons_zero,List.set_cons_succ,List.getElem_toArray,List.getElem_cons_succ,List.getElem_cons_zero]
  refine wpAnyH_take (i:=27) (v:=?vx175_27) rfl (by kernel_rfl) (by kernel_rfl) (by kernel_rfl) (fun _ _ _ h => h) (Or.inl ⟨by rfl,?hyx175_27⟩) (by assumption) ?restx175_27
  case hyx175_27 => (intro w hSw; have F:=Ok.sees hSw; clear hSw; simp only [sees,kBlk,cellsAt,Nat.reduceAdd] at F; go_simp; try with_reducible rfl)
  try simp only [Act.put,List.setIfInBounds_toArray,List.set_cons_zero,List.set_cons_succ,List.getElem_toArray,List.getElem_cons_succ,List.getElem_cons_zero]
  refine wpAnyH_done (by kernel_rfl) ?_ _
  clear z0 c0_0 c0_1 c0_2 c0_3 z1 c1_0 c1_1 c1_2 c1_3 z2 c2_0 c2_1 c2_2 c2_3 c2_4 c2_5 c2_6 c2_7 c2_8 c2_9 c2_10 c2_11 c2_12 z3 c3_0 c3_1 c3_2 c3_3 c3_4 c3_5 c3_6 c3_7 c3_8 c3_9 c3_10 c3_11 c3_12
  clear H19
  have H29:=Lib.hid hHeld
  clear hHeld
  have F30:=H29.out.sees
  simp only [sees,kBlk,cellsAt,Nat.reduceAdd] at F30
  obtain ⟨⟨z0,c0_0,c0_1,c0_2,c0_3,-⟩,⟨z1,c1_0,c1_1,c1_2,c1_3,-⟩,⟨z2,c2_0,c2_1,c2_2,c2_3,c2_4,c2_5,c2_6,c2_7,c2_8,c2_9,c2_10,c2_11,c2_12,-⟩,⟨z3,c3_0,c3_1,c3_2,c3_3,c3_4,c3_5,c3_6,c3_7,c3_8,c3_9,c3_10,c3_11,c3_12,-⟩,-⟩:=F30
  go_wp2_with fail
  refine (HC.out _).mono ?_
  rintro e w31 ⟨rfl,hb32⟩
  clear z0 c0_0 c0_1 c0_2 c0_3 z1 c1_0 c1_1 c1_2 c1_3 z2 c2_0 c2_1 c2_2 c2_3 c2_4 c2_5 c2_6 c2_7 c2_8 c2_9 c2_10 c2_11 c2_12 z3 c3_0 c3_1 c3_2 c3_3 c3_4 c3_5 c3_6 c3_7 c3_8 c3_9 c3_10 c3_11 c3_12
  have H33:=Lib.hid (H29.out.below hb32)
  clear hb32 H29
  have F34:=H33.out.sees
  simp only [sees,kBlk,cellsAt,Nat.reduceAdd] at F34
  obtain ⟨⟨z0,c0_0,c0_1,c0_2,c0_3,-⟩,⟨z1,c1_0,c1_1,c1_2,c1_3,-⟩,⟨z2,c2_0,c2_1,c2_2,c2_3,c2_4,c2_5,c2_6,c2_7,c2_8,c2_9,c2_10,c2_11,c2_12,-⟩,⟨z3,c3_0,c3_1,c3_2,c3_3,c3_4,c3_5,c3_6,c3_7,c3_8,c3_9,c3_10,c3_11,c3_12,-⟩,-⟩:=F34
  go_wp2_with fail
  refine (HM.out _).mono ?_
  rintro e w35 ⟨rfl,hb36⟩
  clear z0 c0_0 c0_1 c0_2 c0_3 z1 c1_0 c1_1 c1_2 c1_3 z2 c2_0 c2_1 c2_2 c2_3 c2_4 c2_5 c2_6 c2_7 c2_8 c2_9 c2_10 c2_11 c2_12 z3 c3_0 c3_1 c3_2 c3_3 c3_4 c3_5 c3_6 c3_7 c3_8 c3_9 c3_10 c3_11 c3_12
  have H37:=Lib.hid (H33.out.below hb36)
  clear hb36 H33
  have F38:=H37.out.sees
  simp only [sees,kBlk,cellsAt,Nat.reduceAdd] at F38
  obtain ⟨⟨z0,c0_0,c0_1,c0_2,c0_3,-⟩,⟨z1,c1_0,c1_1,c1_2,c1_3,-⟩,⟨z2,c2_0,c2_1,c2_2,c2_3,c2_4,c2_5,c2_6,c2_7,c2_8,c2_9,c2_10,c2_11,c2_12,-⟩,⟨z3,c3_0,c3_1,c3_2,c3_3,c3_4,c3_5,c3_6,c3_7,c3_8,c3_9,c3_10,c3_11,c3_12,-⟩,-⟩:=F38
  go_wp2_with fail
  refine (HM.out _).mono ?_
  rintro e w39 ⟨rfl,hb40⟩
  clear z0 c0_0 c0_1 c0_2 c0_3 z1 c1_0 c1_1 c1_2 c1_3 z2 c2_0 c2_1 c2_2 c2_3 c2_4 c2_5 c2_6 c2_7 c2_8 c2_9 c2_10 c2_11 c2_12 z3 c3_0 c3_1 c3_2 c3_3 c3_4 c3_5 c3_6 c3_7 c3_8 c3_9 c3_10 c3_11 c3_12
  have H41:=Lib.hid (H37.out.below hb40)
  clear hb40 H37
  have F42:=H41.out.sees
  simp only [sees,kBlk,cellsAt,Nat.reduceAdd] at F42
  obtain ⟨⟨z0,c0_0,c0_1,c0_2,c0_3,-⟩,⟨z1,c1_0,c1_1,c1_2,c1_3,-⟩,⟨z2,c2_0,c2_1,c2_2,c2_3,c2_4,c2_5,c2_6,c2_7,c2_8,c2_9,c2_10,c2_11,c2_12,-⟩,⟨z3,c3_0,c3_1,c3_2,c3_3,c3_4,c3_5,c3_6,c3_7,c3_8,c3_9,c3_10,c3_11,c3_12,-⟩,-⟩:=F42
  go_wp2_with fail
  refine (law_known _ (HE.out.below H41.out.bel)).mono ?_
  rintro e w43 ⟨rfl,hb44⟩
  clear z0 c0_0 c0_1 c0_2 c0_3 z1 c1_0 c1_1 c1_2 c1_3 z2 c2_0 c2_1 c2_2 c2_3 c2_4 c2_5 c2_6 c2_7 c2_8 c2_9 c2_10 c2_11 c2_12 z3 c3_0 c3_1 c3_2 c3_3 c3_4 c3_5 c3_6 c3_7 c3_8 c3_9 c3_10 c3_11 c3_12
  have H45:=Lib.hid (H41.out.below hb44)
  clear hb44 H41
  go_wp2_with fail
  go_ret
  exact ⟨rfl,H45.out.bel⟩
set_option maxRecDepth 100000 in
set_option maxHeartbeats 4000000 in
theorem plain_core_000 (k : Nat) (u x1 y1 x2 y2 : Int) (inp : List UInt8) (a b c f t : Nat) (n : Int) (pu px1 py1 px2 py2 : Int) (pinp : List UInt8) (pa pb pc pf pt : Nat) (pn : Int) (hi : inp.length ≤ 600)
    (HPl0 : ∀ w : World,Calls Tryz.prog 17 #[.agg #[.int .u8 (k : Nat),.int .i64 u,.int .i64 x1,.int .i64 y1,.int .i64 x2,.int .i64 y2,.string ⟨inp.toArray⟩,.int .u64 (a : Nat),.int .u64 (b : Nat),.int .u64 (c : Nat),.int .u8 (f : Nat),.int .u64 (t : Nat),.int .i64 n]] w fun e w' => e = .returned (.agg #[.int .u8 (k : Nat),.int .i64 pu,.int .i64 px1,.int .i64 py1,.int .i64 px2,.int .i64 py2,.string ⟨pinp.toArray⟩,.int .u64 (pa : Nat),.int .u64 (pb : Nat),.int .u64 (pc : Nat),.int .u8 (pf : Nat),.int .u64 (pt : Nat),.int .i64 pn]) ∧ Below w.heap.size w w')
    (HPp0 : ∀ w : World,Calls Tryz.prog 17 #[.agg #[.int .u8 (k : Nat),.int .i64 pu,.int .i64 px1,.int .i64 py1,.int .i64 px2,.int .i64 py2,.string ⟨pinp.toArray⟩,.int .u64 (pa : Nat),.int .u64 (pb : Nat),.int .u64 (pc : Nat),.int .u8 (pf : Nat),.int .u64 (pt : Nat),.int .i64 pn]] w fun e w' => e = .returned (.agg #[.int .u8 (k : Nat),.int .i64 pu,.int .i64 px1,.int .i64 py1,.int .i64 px2,.int .i64 py2,.string ⟨pinp.toArray⟩,.int .u64 (pa : Nat),.int .u64 (pb : Nat),.int .u64 (pc : Nat),.int .u8 (pf : Nat),.int .u64 (pt : Nat),.int .i64 pn]) ∧ Below w.heap.size w w')
    (HT0 : ∀ w : World,Calls Tryz.prog 9 #[.agg #[.int .u8 (k : Nat),.int .i64 u,.int .i64 x1,.int .i64 y1,.int .i64 x2,.int .i64 y2,.string ⟨inp.toArray⟩,.int .u64 (a : Nat),.int .u64 (b : Nat),.int .u64 (c : Nat),.int .u8 (f : Nat),.int .u64 (t : Nat),.int .i64 n]] w fun e w' => e = .returned (.tuple #[.agg #[.int .i64 0,.int .i64 0,.int .i64 0,.int .i64 0],.bool false]) ∧ Below w.heap.size w w')
    (HTp0 : ∀ w : World,Calls Tryz.prog 9 #[.agg #[.int .u8 (k : Nat),.int .i64 pu,.int .i64 px1,.int .i64 py1,.int .i64 px2,.int .i64 py2,.string ⟨pinp.toArray⟩,.int .u64 (pa : Nat),.int .u64 (pb : Nat),.int .u64 (pc : Nat),.int .u8 (pf : Nat),.int .u64 (pt : Nat),.int .i64 pn]] w fun e w' => e = .returned (.tuple #[.agg #[.int .i64 0,.int .i64 0,.int .i64 0,.int .i64 0],.bool false]) ∧ Below w.heap.size w w')
    (HM0 : ∀ w : World,Calls Tryz.prog 15 #[.agg #[.int .u8 (k : Nat),.int .i64 u,.int .i64 x1,.int .i64 y1,.int .i64 x2,.int .i64 y2,.string ⟨inp.toArray⟩,.int .u64 (a : Nat),.int .u64 (b : Nat),.int .u64 (c : Nat),.int .u8 (f : Nat),.int .u64 (t : Nat),.int .i64 n]] w fun e w' => e = .returned (.bool false) ∧ Below w.heap.size w w')
    (HMp0 : ∀ w : World,Calls Tryz.prog 15 #[.agg #[.int .u8 (k : Nat),.int .i64 pu,.int .i64 px1,.int .i64 py1,.int .i64 px2,.int .i64 py2,.string ⟨pinp.toArray⟩,.int .u64 (pa : Nat),.int .u64 (pb : Nat),.int .u64 (pc : Nat),.int .u8 (pf : Nat),.int .u64 (pt : Nat),.int .i64 pn]] w fun e w' => e = .returned (.bool false) ∧ Below w.heap.size w w')
    (HC0 : ∀ w : World,Calls Tryz.prog 13 #[.agg #[.int .u8 (k : Nat),.int .i64 u,.int .i64 x1,.int .i64 y1,.int .i64 x2,.int .i64 y2,.string ⟨inp.toArray⟩,.int .u64 (a : Nat),.int .u64 (b : Nat),.int .u64 (c : Nat),.int .u8 (f : Nat),.int .u64 (t : Nat),.int .i64 n]] w fun e w' => e = .returned (.int .i64 4) ∧ Below w.heap.size w w') (w : World) (he : Env6 w) :
    Calls Tryz.prog 7 #[.agg #[.int .u8 (k : Nat),.int .i64 u,.int .i64 x1,.int .i64 y1,.int .i64 x2,.int .i64 y2,.string ⟨inp.toArray⟩,.int .u64 (a : Nat),.int .u64 (b : Nat),.int .u64 (c : Nat),.int .u8 (f : Nat),.int .u64 (t : Nat),.int .i64 n]] w fun e w' => e = .returned (.bool true) ∧ Below w.heap.size w w':=by
  have HE:=keep he
  clear he
  have HPl:=keep HPl0
  clear HPl0
  have HPp:=keep HPp0
  clear HPp0
  have HT:=keep HT0
  clear HT0
  have HTp:=keep HTp0
  clear HTp0
  have HM:=keep HM0
  clear HM0
  have HMp:=keep HMp0
  clear HMp0
  have HC:=keep HC0
  clear HC0
  have gi : ¬ (inp.length : Int) > 600:=by omega
  clear hi
  have H1:=Lib.hid ((Ok.start w).alloc w.heap.size 28 [.int .u8 (k : Nat),.int .i64 u,.int .i64 x1,.int .i64 y1,.int .i64 x2,.int .i64 y2,.string ⟨inp.toArray⟩,.int .u64 (a : Nat),.int .u64 (b : Nat),.int .u64 (c : Nat),.int .u8 (f : Nat),.int .u64 (t : Nat),.int .i64 n] rfl)
  go_enter Tryz.func7,Tryz.ntmps7
  go_upto_region 1 with fail
  generalize (w.alloc (.cells #[.int .u8 (k : Nat),.int .i64 u,.int .i64 x1,.int .i64 y1,.int .i64 x2,.int .i64 y2,.string ⟨inp.toArray⟩,.int .u64 (a : Nat),.int .u64 (b : Nat),.int .u64 (c : Nat),.int .u8 (f : Nat),.int .u64 (t : Nat),.int .i64 n] 28)) = W2 at H1 ⊢
  have F3:=H1.out.sees
  simp only [sees,kBlk,cellsAt,Nat.reduceAdd] at F3
  obtain ⟨⟨z0,c0_0,c0_1,c0_2,c0_3,c0_4,c0_5,c0_6,c0_7,c0_8,c0_9,c0_10,c0_11,c0_12,-⟩,-⟩:=F3
  go_wp2_with fail
  refine (HPl.out _).mono ?_
  rintro e w4 ⟨rfl,hb5⟩
  clear z0 c0_0 c0_1 c0_2 c0_3 c0_4 c0_5 c0_6 c0_7 c0_8 c0_9 c0_10 c0_11 c0_12
  have H6:=Lib.hid (H1.out.below hb5)
  clear hb5 H1
  go_upto_region 4 with fail
  have H7:=Lib.hid (H6.out.alloc w4.heap.size 28 [.int .u8 (k : Nat),.int .i64 pu,.int .i64 px1,.int .i64 py1,.int .i64 px2,.int .i64 py2,.string ⟨pinp.toArray⟩,.int .u64 (pa : Nat),.int .u64 (pb : Nat),.int .u64 (pc : Nat),.int .u8 (pf : Nat),.int .u64 (pt : Nat),.int .i64 pn] rfl)
  clear H6
  generalize (w4.alloc (.cells #[.int .u8 (k : Nat),.int .i64 pu,.int .i64 px1,.int .i64 py1,.int .i64 px2,.int .i64 py2,.string ⟨pinp.toArray⟩,.int .u64 (pa : Nat),.int .u64 (pb : Nat),.int .u64 (pc : Nat),.int .u8 (pf : Nat),.int .u64 (pt : Nat),.int .i64 pn] 28)) = W8 at H7 ⊢
  have F9:=H7.out.sees
  simp only [sees,kBlk,cellsAt,Nat.reduceAdd] at F9
  obtain ⟨⟨z0,c0_0,c0_1,c0_2,c0_3,c0_4,c0_5,c0_6,c0_7,c0_8,c0_9,c0_10,c0_11,c0_12,-⟩,⟨z1,c1_0,c1_1,c1_2,c1_3,c1_4,c1_5,c1_6,c1_7,c1_8,c1_9,c1_10,c1_11,c1_12,-⟩,-⟩:=F9
  go_wp2_with fail
  refine (HT.out _).mono ?_
  rintro e w10 ⟨rfl,hb11⟩
  clear z0 c0_0 c0_1 c0_2 c0_3 c0_4 c0_5 c0_6 c0_7 c0_8 c0_9 c0_10 c0_11 c0_12 z1 c1_0 c1_1 c1_2 c1_3 c1_4 c1_5 c1_6 c1_7 c1_8 c1_9 c1_10 c1_11 c1_12
  have H12:=Lib.hid (H7.out.below hb11)
  clear hb11 H7
  go_upto_region 5 with fail
  have H13:=Lib.hid (H12.out.alloc w10.heap.size 23 [.int .i64 0,.int .i64 0,.int .i64 0,.int .i64 0] rfl)
  clear H12
  generalize (w10.alloc (.cells #[.int .i64 0,.int .i64 0,.int .i64 0,.int .i64 0] 23)) = W14 at H13 ⊢
  have F15:=H13.out.sees
  simp only [sees,kBlk,cellsAt,Nat.reduceAdd] at F15
  obtain ⟨⟨z0,c0_0,c0_1,c0_2,c0_3,-⟩,⟨z1,c1_0,c1_1,c1_2,c1_3,c1_4,c1_5,c1_6,c1_7,c1_8,c1_9,c1_10,c1_11,c1_12,-⟩,⟨z2,c2_0,c2_1,c2_2,c2_3,c2_4,c2_5,c2_6,c2_7,c2_8,c2_9,c2_10,c2_11,c2_12,-⟩,-⟩:=F15
  go_wp2_with fail
  refine (HTp.out _).mono ?_
  rintro e w16 ⟨rfl,hb17⟩
  clear z0 c0_0 c0_1 c0_2 c0_3 z1 c1_0 c1_1 c1_2 c1_3 c1_4 c1_5 c1_6 c1_7 c1_8 c1_9 c1_10 c1_11 c1_12 z2 c2_0 c2_1 c2_2 c2_3 c2_4 c2_5 c2_6 c2_7 c2_8 c2_9 c2_10 c2_11 c2_12
  have H18:=Lib.hid (H13.out.below hb17)
  clear hb17 H13
  go_upto_region 6 with fail
  have H19:=Lib.hid (H18.out.alloc w16.heap.size 23 [.int .i64 0,.int .i64 0,.int .i64 0,.int .i64 0] rfl)
  clear H18
  generalize (w16.alloc (.cells #[.int .i64 0,.int .i64 0,.int .i64 0,.int .i64 0] 23)) = W20 at H19 ⊢
  have F21:=H19.out.sees
  simp only [sees,kBlk,cellsAt,Nat.reduceAdd] at F21
  obtain ⟨⟨z0,c0_0,c0_1,c0_2,c0_3,-⟩,⟨z1,c1_0,c1_1,c1_2,c1_3,-⟩,⟨z2,c2_0,c2_1,c2_2,c2_3,c2_4,c2_5,c2_6,c2_7,c2_8,c2_9,c2_10,c2_11,c2_12,-⟩,⟨z3,c3_0,c3_1,c3_2,c3_3,c3_4,c3_5,c3_6,c3_7,c3_8,c3_9,c3_10,c3_11,c3_12,-⟩,-⟩:=F21
  refine wp_region_held_drew (S:=fun W => Ok w [kBlk (w16.heap.size) 23 [.int .i64 0,.int .i64 0,.int .i64 0,.int .i64 0],kBlk (w10.heap.size) 23 [.int .i64 0,.int .i64 0,.int .i64 0,.int .i64 0],kBlk (w4.heap.size) 28 [.int .u8 (k : Nat),.int .i64 pu,.int .i64 px1,.int .i64 py1,.int .i64 px2,.int .i64 py2,.string ⟨pinp.toArray⟩,.int .u64 (pa : Nat),.int .u64 (pb : Nat),.int .u64 (pc : Nat),.int .u8 (pf : Nat),.int .u64 (pt : Nat),.int .i64 pn],kBlk (w.heap.size) 28 [.int .u8 (k : Nat),.int .i64 u,.int .i64 x1,.int .i64 y1,.int .i64 x2,.int .i64 y2,.string ⟨inp.toArray⟩,.int .u64 (a : Nat),.int .u64 (b : Nat),.int .u64 (c : Nat),.int .u8 (f : Nat),.int .u64 (t : Nat),.int .i64 n]] W) (by kernel_rfl) H19.out.drew (fun hHeld => ?_)
  refine wpAnyH_take (i:=0) (v:=?vx176_0) rfl (by kernel_rfl) (by kernel_rfl) (by kernel_rfl) (fun _ _ _ h => h) (Or.inl ⟨by rfl,?hyx176_0⟩) (by assumption) ?restx176_0
  case hyx176_0 => (intro w hSw; have F:=Ok.sees hSw; clear hSw; simp only [sees,kBlk,cellsAt,Nat.reduceAdd] at F; go_simp; try with_reducible rfl)
  try simp only [Act.put,List.setIfInBounds_toArray,List.set_cons_zero,List.set_cons_succ,List.getElem_toArray,List.getElem_cons_zero]
  refine wpAnyH_take (i:=2) (v:=?vx177_2) rfl (by kernel_rfl) (by kernel_rfl) (by kernel_rfl) (fun _ _ _ h => h) (Or.inl ⟨by rfl,?hyx177_2⟩) (by assumption) ?restx177_2
  case hyx177_2 => (intro w hSw; have F:=Ok.sees hSw; clear hSw; simp only [sees,kBlk,cellsAt,Nat.reduceAdd] at F; go_simp; try with_reducible rfl)
  try simp only [Act.put,List.setIfInBounds_toArray,List.set_cons_zero,List.set_cons_succ,List.getElem_toArray,List.getElem_cons_succ,List.getElem_cons_zero]
  refine wpAnyH_ready (rs:=[1]) (by kernel_rfl) (by simp) ?_
  refine AllReadyH.cons rfl (fun K hK => ?_) AllReadyH.nil
  go_simp
  refine (HPp.out _).mono ?_
  rintro e w23 ⟨rfl,hb24⟩
  go_wp2_with fail
  refine hK.out _ _ (hHeld.below hb24) (fun hHeld => ?_)
  clear hK K
  try simp only [Act.put,List.setIfInBounds_toArray,List.set_cons_zero,List.set_cons_succ,List.getElem_toArray,List.getElem_cons_succ,List.getElem_cons_zero]
  refine wpAnyH_take (i:=3) (v:=?vx178_3) rfl (by kernel_rfl) (by kernel_rfl) (by kernel_rfl) (fun _ _ _ h => h) (Or.inl ⟨by rfl,?hyx178_3⟩) (by assumption) ?restx178_3
  case hyx178_3 => (intro w hSw; have F:=Ok.sees hSw; clear hSw; simp only [sees,kBlk,cellsAt,Nat.reduceAdd] at F; go_simp; try with_reducible rfl)
  try simp only [Act.put,List.setIfInBounds_toArray,List.set_cons_zero,List.set_cons_succ,List.getElem_toArray,List.getElem_cons_succ,List.getElem_cons_zero]
  refine wpAnyH_take (i:=4) (v:=?vx179_4) rfl (by kernel_rfl) (by kernel_rfl) (by kernel_rfl) (fun _ _ _ h => h) (Or.inl ⟨by rfl,?hyx179_4⟩) (by assumption) ?restx179_4
  case hyx179_4 => (intro w hSw; have F:=Ok.sees hSw; clear hSw; simp only [sees,kBlk,cellsAt,Nat.reduceAdd] at F; go_simp; try with_reducible rfl)
  try simp only [Act.put,List.setIfInBounds_toArray,List.set_cons_zero,List.set_cons_succ,List.getElem_toArray,List.getElem_cons_succ,List.getElem_cons_zero]
  refine wpAnyH_take (i:=5) (v:=?vx180_5) rfl (by kernel_rfl) (by kernel_rfl) (by kernel_rfl) (fun _ _ _ h => h) (Or.inl ⟨by rfl,?hyx180_5⟩) (by assumption) ?restx180_5
  case hyx180_5 => (intro w hSw; have F:=Ok.sees hSw; clear hSw; simp only [sees,kBlk,cellsAt,Nat.reduceAdd] at F; go_simp; try with_reducible rfl)
  try simp only [Act.put,List.setIfInBounds_toArray,List.set_cons_zero,List.set_cons_succ,List.getElem_toArray,List.getElem_cons_succ,List.getElem_cons_zero]
  refine wpAnyH_take (i:=6) (v:=?vx181_6) rfl (by kernel_rfl) (by kernel_rfl) (by kernel_rfl) (fun _ _ _ h => h) (Or.inl ⟨by rfl,?hyx181_6⟩) (by assumption) ?restx181_6
  case hyx181_6 => (intro w hSw; have F:=Ok.sees hSw; clear hSw; simp only [sees,kBlk,cellsAt,Nat.reduceAdd] at F; go_simp; try with_reducible rfl)
  try simp only [Act.put,List.setIfInBounds_toArray,List.set_cons_zero,List.set_cons_succ,List.getElem_toArray,List.getElem_cons_succ,List.getElem_cons_zero]
  refine wpAnyH_take (i:=7) (v:=?vx182_7) rfl (by kernel_rfl) (by kernel_rfl) (by kernel_rfl) (fun _ _ _ h => h) (Or.inl ⟨by rfl,?hyx182_7⟩) (by assumption) ?restx182_7
  case hyx182_7 => (intro w hSw; have F:=Ok.sees hSw; clear hSw; simp only [sees,kBlk,cellsAt,Nat.reduceAdd] at F; go_simp; try with_reducible rfl)
  try simp only [Act.put,List.setIfInBounds_toArray,List.set_cons_zero,List.set_cons_succ,List.getElem_toArray,List.getElem_cons_succ,List.getElem_cons_zero]
  refine wpAnyH_take (i:=8) (v:=?vx183_8) rfl (by kernel_rfl) (by kernel_rfl) (by kernel_rfl) (fun _ _ _ h => h) (Or.inl ⟨by rfl,?hyx183_8⟩) (by assumption) ?restx183_8
  case hyx183_8 => (intro w hSw; have F:=Ok.sees hSw; clear hSw; simp only [sees,kBlk,cellsAt,Nat.reduceAdd] at F; go_simp; try with_reducible rfl)
  try simp only [Act.put,List.setIfInBounds_toArray,List.set_cons_zero,List.set_cons_succ,List.getElem_toArray,List.getElem_cons_succ,List.getElem_cons_zero]
  refine wpAnyH_take (i:=9) (v:=?vx184_9) rfl (by kernel_rfl) (by kernel_rfl) (by kernel_rfl) (fun _ _ _ h => h) (Or.inl ⟨by rfl,?hyx184_9⟩) (by assumption) ?restx184_9
  case hyx184_9 => (intro w hSw; have F:=Ok.sees hSw; clear hSw; simp only [sees,kBlk,cellsAt,Nat.reduceAdd] at F; go_simp; try with_reducible rfl)
  try simp only [Act.put,List.setIfInBounds_toArray,List.set_cons_zero,List.set_cons_succ,List.getElem_toArray,List.getElem_cons_succ,List.getElem_cons_zero]
  refine wpAnyH_take (i:=10) (v:=?vx185_10) rfl (by kernel_rfl) (by kernel_rfl) (by kernel_rfl) (fun _ _ _ h => h) (Or.inl ⟨by rfl,?hyx185_10⟩) (by assumption) ?restx185_10
  case hyx185_10 => (intro w hSw; have F:=Ok.sees hSw; clear hSw; simp only [sees,kBlk,cellsAt,Nat.reduceAdd] at F; go_simp; try with_reducible rfl)
  try simp only [Act.put,List.setIfInBounds_toArray,List.set_cons_zero,List.set_cons_succ,List.getElem_toArray,List.getElem_cons_succ,List.getElem_cons_zero]
  refine wpAnyH_take (i:=11) (v:=?vx186_11) rfl (by kernel_rfl) (by kernel_rfl) (by kernel_rfl) (fun _ _ _ h => h) (Or.inl ⟨by rfl,?hyx186_11⟩) (by assumption) ?restx186_11
  case hyx186_11 => (intro w hSw; have F:=Ok.sees hSw; clear hSw; simp only [sees,kBlk,cellsAt,Nat.reduceAdd] at F; go_simp; try with_reducible rfl)
  try simp only [Act.put,List.setIfInBounds_toArray,List.set_cons_zero,List.set_cons_succ,List.getElem_toArray,List.getElem_cons_succ,List.getElem_cons_zero]
  refine wpAnyH_take (i:=12) (v:=?vx187_12) rfl (by kernel_rfl) (by kernel_rfl) (by kernel_rfl) (fun _ _ _ h => h) (Or.inl ⟨by rfl,?hyx187_12⟩) (by assumption) ?restx187_12
  case hyx187_12 => (intro w hSw; have F:=Ok.sees hSw; clear hSw; simp only [sees,kBlk,cellsAt,Nat.reduceAdd] at F; go_simp; try with_reducible rfl)
  try simp only [Act.put,List.setIfInBounds_toArray,List.set_cons_zero,List.set_cons_succ,List.getElem_toArray,List.getElem_cons_succ,List.getElem_cons_zero]
  refine wpAnyH_take (i:=13) (v:=?vx188_13) rfl (by kernel_rfl) (by kernel_rfl) (by kernel_rfl) (fun _ _ _ h => h) (Or.inl ⟨by rfl,?hyx188_13⟩) (by assumption) ?restx188_13
  case hyx188_13 => (intro w hSw; have F:=Ok.sees hSw; clear hSw; simp only [sees,kBlk,cellsAt,Nat.reduceAdd] at F; go_simp; try with_reducible rfl)
  try simp only [Act.put,List.setIfInBounds_toArray,List.set_cons_zero,List.set_cons_succ,List.getElem_toArray,List.getElem_cons_succ,List.getElem_cons_zero]
  refine wpAnyH_take (i:=14) (v:=?vx189_14) rfl (by kernel_rfl) (by kernel_rfl) (by kernel_rfl) (fun _ _ _ h => h) (Or.inl ⟨by rfl,?hyx189_14⟩) (by assumption) ?restx189_14
  case hyx189_14 => (intro w hSw; have F:=Ok.sees hSw; clear hSw; simp only [sees,kBlk,cellsAt,Nat.reduceAdd] at F; go_simp; try with_reducible rfl)
  try simp only [Act.put,List.setIfInBounds_toArray,List.set_cons_zero,List.set_cons_succ,List.getElem_toArray,List.getElem_cons_succ,List.getElem_cons_zero]
  refine wpAnyH_take (i:=15) (v:=?vx190_15) rfl (by kernel_rfl) (by kernel_rfl) (by kernel_rfl) (fun _ _ _ h => h) (Or.inl ⟨by rfl,?hyx190_15⟩) (by assumption) ?restx190_15
  case hyx190_15 => (intro w hSw; have F:=Ok.sees hSw; clear hSw; simp only [sees,kBlk,cellsAt,Nat.reduceAdd] at F; go_simp; try with_reducible rfl)
  try simp only [Act.put,List.setIfInBounds_toArray,List.set_cons_zero,List.set_cons_succ,List.getElem_toArray,List.getElem_cons_succ,List.getElem_cons_zero]
  refine wpAnyH_take (i:=16) (v:=?vx191_16) rfl (by kernel_rfl) (by kernel_rfl) (by kernel_rfl) (fun _ _ _ h => h) (Or.inl ⟨by rfl,?hyx191_16⟩) (by assumption) ?restx191_16
  case hyx191_16 => (intro w hSw; have F:=Ok.sees hSw; clear hSw; simp only [sees,kBlk,cellsAt,Nat.reduceAdd] at F; go_simp; try with_reducible rfl)
  try simp only [Act.put,List.setIfInBounds_toArray,List.set_cons_zero,List.set_cons_succ,List.getElem_toArray,List.getElem_cons_succ,List.getElem_cons_zero]
  refine wpAnyH_take (i:=17) (v:=?vx192_17) rfl (by kernel_rfl) (by kernel_rfl) (by kernel_rfl) (fun _ _ _ h => h) (Or.inl ⟨by rfl,?hyx192_17⟩) (by assumption) ?restx192_17
  case hyx192_17 => (intro w hSw; have F:=Ok.sees hSw; clear hSw; simp only [sees,kBlk,cellsAt,Nat.reduceAdd] at F; go_simp; try with_reducible rfl)
  try simp only [Act.put,List.setIfInBounds_toArray,List.set_cons_zero,List.set_cons_succ,List.getElem_toArray,List.getElem_cons_succ,List.getElem_cons_zero]
  refine wpAnyH_take (i:=18) (v:=?vx193_18) rfl (by kernel_rfl) (by kernel_rfl) (by kernel_rfl) (fun _ _ _ h => h) (Or.inl ⟨by rfl,?hyx193_18⟩) (by assumption) ?restx193_18
  case hyx193_18 => (intro w hSw; have F:=Ok.sees hSw; clear hSw; simp only [sees,kBlk,cellsAt,Nat.reduceAdd] at F; go_simp; try with_reducible rfl)
  try simp only [Act.put,List.setIfInBounds_toArray,List.set_cons_zero,List.set_cons_succ,List.getElem_toArray,List.getElem_cons_succ,List.getElem_cons_zero]
  refine wpAnyH_take (i:=19) (v:=?vx194_19) rfl (by kernel_rfl) (by kernel_rfl) (by kernel_rfl) (fun _ _ _ h => h) (Or.inl ⟨by rfl,?hyx194_19⟩) (by assumption) ?restx194_19
  case hyx194_19 => (intro w hSw; have F:=Ok.sees hSw; clear hSw; simp only [sees,kBlk,cellsAt,Nat.reduceAdd] at F; go_simp; try with_reducible rfl)
  try simp only [Act.put,List.setIfInBounds_toArray,List.set_cons_zero,List.set_cons_succ,List.getElem_toArray,List.getElem_cons_succ,List.getElem_cons_zero]
  refine wpAnyH_take (i:=20) (v:=?vx195_20) rfl (by kernel_rfl) (by kernel_rfl) (by kernel_rfl) (fun _ _ _ h => h) (Or.inl ⟨by rfl,?hyx195_20⟩) (by assumption) ?restx195_20
  case hyx195_20 => (intro w hSw; have F:=Ok.sees hSw; clear hSw; simp only [sees,kBlk,cellsAt,Nat.reduceAdd] at F; go_simp; try with_reducible rfl)
  try simp only [Act.put,List.setIfInBounds_toArray,List.set_cons_zero,List.set_cons_succ,List.getElem_toArray,List.getElem_cons_succ,List.getElem_cons_zero]
  refine wpAnyH_take (i:=21) (v:=?vx196_21) rfl (by kernel_rfl) (by kernel_rfl) (by kernel_rfl) (fun _ _ _ h => h) (Or.inl ⟨by rfl,?hyx196_21⟩) (by assumption) ?restx196_21
  case hyx196_21 => (intro w hSw; have F:=Ok.sees hSw; clear hSw; simp only [sees,kBlk,cellsAt,Nat.reduceAdd] at F; go_simp; try with_reducible rfl)
  try simp only [Act.put,List.setIfInBounds_toArray,List.set_cons_zero,List.set_cons_succ,List.getElem_toArray,List.getElem_cons_succ,List.getElem_cons_zero]
  refine wpAnyH_take (i:=22) (v:=?vx197_22) rfl (by kernel_rfl) (by kernel_rfl) (by kernel_rfl) (fun _ _ _ h => h) (Or.inl ⟨by rfl,?hyx197_22⟩) (by assumption) ?restx197_22
  case hyx197_22 => (intro w hSw; have F:=Ok.sees hSw; clear hSw; simp only [sees,kBlk,cellsAt,Nat.reduceAdd] at F; go_simp; try with_reducible rfl)
  try simp only [Act.put,List.setIfInBounds_toArray,List.set_cons_zero,List.set_cons_succ,List.getElem_toArray,List.getElem_cons_succ,List.getElem_cons_zero]
  refine wpAnyH_take (i:=24) (v:=?vx198_24) rfl (by kernel_rfl) (by kernel_rfl) (by kernel_rfl) (fun _ _ _ h => h) (Or.inl ⟨by rfl,?hyx198_24⟩) (by assumption) ?restx198_24
  case hyx198_24 => (intro w hSw; have F:=Ok.sees hSw; clear hSw; simp only [sees,kBlk,cellsAt,Nat.reduceAdd] at F; go_simp; try with_reducible rfl)
  try simp only [Act.put,List.setIfInBounds_toArray,List.set_cons_zero,List.set_cons_succ,List.getElem_toArray,List.getElem_cons_succ,List.getElem_cons_zero]
  refine wpAnyH_ready (rs:=[23]) (by kernel_rfl) (by simp) ?_
  refine AllReadyH.cons rfl (fun K hK => ?_) AllReadyH.nil
  go_simp
  refine (HMp.out _).mono ?_
  rintro e w25 ⟨rfl,hb26⟩
  go_wp2_with fail
  refine hK.out _ _ (hHeld.below hb26) (fun hHeld => ?_)
  clear hK K
  try simp only [Act.put,List.setIfInBounds_toArray,List.set_cons_zero,List.set_cons_succ,List.getElem_toArray,List.getElem_cons_succ,List.getElem_cons_zero]
  refine wpAnyH_ready (rs:=[25]) (by kernel_rfl) (by simp) ?_
  refine AllReadyH.cons rfl (fun K hK => ?_) AllReadyH.nil
  go_simp
  refine (HM.out _).mono ?_
  rintro e w27 ⟨rfl,hb28⟩
  go_wp2_with fail
  refine hK.out _ _ (hHeld.below hb28) (fun hHeld => ?_)
  clear hK K
  try simp only [Act.put,List.setIfInBounds_toArray,List.set_cons_zero,List.set_cons_succ,List.getElem_toArray,List.getElem_cons_succ,List.getElem_cons_zero]
  refine wpAnyH_take (i:=26) (v:=?vx199_26) rfl (by kernel_rfl) (by kernel_rfl) (by kernel_rfl) (fun _ _ _ h => h) (Or.inl ⟨by rfl,?hyx199_26⟩) (by assumption) ?restx199_26
  case hyx199_26 => (intro w hSw; have F:=Ok.sees hSw; clear hSw; simp only [sees,kBlk,cellsAt,Nat.reduceAdd] at F; go_simp; try with_reducible rfl)
  try simp only [Act.put,List.setIfInBounds_toArray,List.set_cons_zero,List.set_cons_succ,List.getElem_toArray,List.getElem_cons_succ,List.getElem_cons_zero]
  refine wpAnyH_take (i:=27) (v:=?vx200_27) rfl (by kernel_rfl) (by kernel_rfl) (by kernel_rfl) (fun _ _ _ h => h) (Or.inl ⟨by rfl,?hyx200_27⟩) (by assumption) ?restx200_27
  case hyx200_27 => (intro w hSw; have F:=Ok.sees hSw; clear hSw; simp only [sees,kBlk,cellsAt,Nat.reduceAdd] at F; go_simp; try with_reducible rfl)
  try simp only [Act.put,List.setIfInBounds_toArray,List.set_cons_zero,List.set_cons_succ,List.getElem_toArray,List.getElem_cons_succ,List.getElem_cons_zero]
  refine wpAnyH_done (by kernel_rfl) ?_ _
  clear z0 c0_0 c0_1 c0_2 c0_3 z1 c1_0 c1_1 c1_2 c1_3 z2 c2_0 c2_1 c2_2 c2_3 c2_4 c2_5 c2_6 c2_7 c2_8 c2_9 c2_10 c2_11 c2_12 z3 c3_0 c3_1 c3_2 c3_3 c3_4 c3_5 c3_6 c3_7 c3_8 c3_9 c3_10 c3_11 c3_12
  clear H19
  have H29:=Lib.hid hHeld
  clear hHeld
  have F30:=H29.out.sees
  simp only [sees,kBlk,cellsAt,Nat.reduceAdd] at F30
  obtain ⟨⟨z0,c0_0,c0_1,c0_2,c0_3,-⟩,⟨z1,c1_0,c1_1,c1_2,c1_3,-⟩,⟨z2,c2_0,c2_1,c2_2,c2_3,c2_4,c2_5,c2_6,c2_7,c2_8,c2_9,c2_10,c2_11,c2_12,-⟩,⟨z3,c3_0,c3_1,c3_2,c3_3,c3_4,c3_5,c3_6,c3_7,c3_8,c3_9,c3_10,c3_11,c3_12,-⟩,-⟩:=F30
  go_wp2_with fail
  refine (HC.out _).mono ?_
  rintro e w31 ⟨rfl,hb32⟩
  clear z0 c0_0 c0_1 c0_2 c0_3 z1 c1_0 c1_1 c1_2 c1_3 z2 c2_0 c2_1 c2_2 c2_3 c2_4 c2_5 c2_6 c2_7 c2_8 c2_9 c2_10 c2_11 c2_12 z3 c3_0 c3_1 c3_2 c3_3 c3_4 c3_5 c3_6 c3_7 c3_8 c3_9 c3_10 c3_11 c3_12
  have H33:=Lib.hid (H29.out.below hb32)
  clear hb32 H29
  have F34:=H33.out.sees
  simp only [sees,kBlk,cellsAt,Nat.reduceAdd] at F34
  obtain ⟨⟨z0,c0_0,c0_1,c0_2,c0_3,-⟩,⟨z1,c1_0,c1_1,c1_2,c1_3,-⟩,⟨z2,c2_0,c2_1,c2_2,c2_3,c2_4,c2_5,c2_6,c2_7,c2_8,c2_9,c2_10,c2_11,c2_12,-⟩,⟨z3,c3_0,c3_1,c3_2,c3_3,c3_4,c3_5,c3_6,c3_7,c3_8,c3_9,c3_10,c3_11,c3_12,-⟩,-⟩:=F34
  go_wp2_with fail
  refine (HM.out _).mono ?_
  rintro e w35 ⟨rfl,hb36⟩
  clear z0 c0_0 c0_1 c0_2 c0_3 z1 c1_0 c1_1 c1_2 c1_3 z2 c2_0 c2_1 c2_2 c2_3 c2_4 c2_5 c2_6 c2_7 c2_8 c2_9 c2_10 c2_11 c2_12 z3 c3_0 c3_1 c3_2 c3_3 c3_4 c3_5 c3_6 c3_7 c3_8 c3_9 c3_10 c3_11 c3_12
  have H37:=Lib.hid (H33.out.below hb36)
  clear hb36 H33
  have F38:=H37.out.sees
  simp only [sees,kBlk,cellsAt,Nat.reduceAdd] at F38
  obtain ⟨⟨z0,c0_0,c0_1,c0_2,c0_3,-⟩,⟨z1,c1_0,c1_1,c1_2,c1_3,-⟩,⟨z2,c2_0,c2_1,c2_2,c2_3,c2_4,c2_5,c2_6,c2_7,c2_8,c2_9,c2_10,c2_11,c2_12,-⟩,⟨z3,c3_0,c3_1,c3_2,c3_3,c3_4,c3_5,c3_6,c3_7,c3_8,c3_9,c3_10,c3_11,c3_12,-⟩,-⟩:=F38
  go_wp2_with fail
  refine (HM.out _).mono ?_
  rintro e w39 ⟨rfl,hb40⟩
  clear z0 c0_0 c0_1 c0_2 c0_3 z1 c1_0 c1_1 c1_2 c1_3 z2 c2_0 c2_1 c2_2 c2_3 c2_4 c2_5 c2_6 c2_7 c2_8 c2_9 c2_10 c2_11 c2_12 z3 c3_0 c3_1 c3_2 c3_3 c3_4 c3_5 c3_6 c3_7 c3_8 c3_9 c3_10 c3_11 c3_12
  have H41:=Lib.hid (H37.out.below hb40)
  clear hb40 H37
  have F42:=H41.out.sees
  simp only [sees,kBlk,cellsAt,Nat.reduceAdd] at F42
  obtain ⟨⟨z0,c0_0,c0_1,c0_2,c0_3,-⟩,⟨z1,c1_0,c1_1,c1_2,c1_3,-⟩,⟨z2,c2_0,c2_1,c2_2,c2_3,c2_4,c2_5,c2_6,c2_7,c2_8,c2_9,c2_10,c2_11,c2_12,-⟩,⟨z3,c3_0,c3_1,c3_2,c3_3,c3_4,c3_5,c3_6,c3_7,c3_8,c3_9,c3_10,c3_11,c3_12,-⟩,-⟩:=F42
  go_wp2_with fail
  refine (law_known _ (HE.out.below H41.out.bel)).mono ?_
  rintro e w43 ⟨rfl,hb44⟩
  clear z0 c0_0 c0_1 c0_2 c0_3 z1 c1_0 c1_1 c1_2 c1_3 z2 c2_0 c2_1 c2_2 c2_3 c2_4 c2_5 c2_6 c2_7 c2_8 c2_9 c2_10 c2_11 c2_12 z3 c3_0 c3_1 c3_2 c3_3 c3_4 c3_5 c3_6 c3_7 c3_8 c3_9 c3_10 c3_11 c3_12
  have H45:=Lib.hid (H41.out.below hb44)
  clear hb44 H41
  go_wp2_with fail
  go_ret
  exact ⟨rfl,H45.out.bel⟩
set_option maxRecDepth 100000 in
set_option maxHeartbeats 4000000 in
theorem plain_long (k : Nat) (u x1 y1 x2 y2 : Int) (inp : List UInt8) (a b c f t : Nat) (n : Int) (hi : 600 < inp.length) (w : World) (he : Env6 w) :
    Calls Tryz.prog 7 #[.agg #[.int .u8 (k : Nat),.int .i64 u,.int .i64 x1,.int .i64 y1,.int .i64 x2,.int .i64 y2,.string ⟨inp.toArray⟩,.int .u64 (a : Nat),.int .u64 (b : Nat),.int .u64 (c : Nat),.int .u8 (f : Nat),.int .u64 (t : Nat),.int .i64 n]] w fun e w' => e = .returned (.bool true) ∧ Below w.heap.size w w':=by
  have HE:=keep he
  clear he
  have gi : (inp.length : Int) > 600:=by omega
  clear hi
  have H1:=Lib.hid ((Ok.start w).alloc w.heap.size 28 [.int .u8 (k : Nat),.int .i64 u,.int .i64 x1,.int .i64 y1,.int .i64 x2,.int .i64 y2,.string ⟨inp.toArray⟩,.int .u64 (a : Nat),.int .u64 (b : Nat),.int .u64 (c : Nat),.int .u8 (f : Nat),.int .u64 (t : Nat),.int .i64 n] rfl)
  go_enter Tryz.func7,Tryz.ntmps7
  go_upto_region 1 with fail
  generalize (w.alloc (.cells #[.int .u8 (k : Nat),.int .i64 u,.int .i64 x1,.int .i64 y1,.int .i64 x2,.int .i64 y2,.string ⟨inp.toArray⟩,.int .u64 (a : Nat),.int .u64 (b : Nat),.int .u64 (c : Nat),.int .u8 (f : Nat),.int .u64 (t : Nat),.int .i64 n] 28)) = W2 at H1 ⊢
  have F3:=H1.out.sees
  simp only [sees,kBlk,cellsAt,Nat.reduceAdd] at F3
  obtain ⟨⟨z0,c0_0,c0_1,c0_2,c0_3,c0_4,c0_5,c0_6,c0_7,c0_8,c0_9,c0_10,c0_11,c0_12,-⟩,-⟩:=F3
  go_wp2_with fail
  refine (law_known _ (HE.out.below H1.out.bel)).mono ?_
  rintro e w4 ⟨rfl,hb5⟩
  clear z0 c0_0 c0_1 c0_2 c0_3 c0_4 c0_5 c0_6 c0_7 c0_8 c0_9 c0_10 c0_11 c0_12
  have H6:=Lib.hid (H1.out.below hb5)
  clear hb5 H1
  go_wp2_with fail
  go_ret
  exact ⟨rfl,H6.out.bel⟩
end Go.Proofs.YtjbimcdofenmdaaGreatDoor
