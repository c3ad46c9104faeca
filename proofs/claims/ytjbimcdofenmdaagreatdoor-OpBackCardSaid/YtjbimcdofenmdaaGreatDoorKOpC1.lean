/- The contract of op.Check. -/
import Derived.Test.YtjbimcdofenmdaaGreatDoorKOpB
import Derived.Test.YtjbimcdofenmdaaGreatDoorKLexO
namespace Go.Proofs.YtjbimcdofenmdaaGreatDoor
open Go.RowKit
theorem ne13 {ρ : Type} (A B : ρ) (k a b c f t pk pa pb pc pf pt : Nat) (u x1 y1 x2 y2 n pu px1 py1 px2 py2 pn : Int) (inp pinp : List UInt8) :
    (if (k : Int) = (pk : Int) then (if u = pu then (if x1 = px1 then (if y1 = py1 then (if x2 = px2 then (if y2 = py2 then (if inp = pinp then (if (a : Int) = (pa : Int) then (if (b : Int) = (pb : Int) then (if (c : Int) = (pc : Int) then (if (f : Int) = (pf : Int) then (if (t : Int) = (pt : Int) then (if n = pn then A else B) else B) else B) else B) else B) else B) else B) else B) else B) else B) else B) else B) else B) = if (⟨k,u,⟨x1,y1,x2,y2⟩,inp,a,b,c,f,t,n⟩ : OpV) = ⟨pk,pu,⟨px1,py1,px2,py2⟩,pinp,pa,pb,pc,pf,pt,pn⟩ then A else B:=by
  simp only [OpV.mk.injEq,R4.mk.injEq,Int.ofNat_inj]
  by_cases h1 : k = pk <;> by_cases h2 : u = pu <;> by_cases h3 : x1 = px1 <;> by_cases h4 : y1 = py1 <;> by_cases h5 : x2 = px2 <;> by_cases h6 : y2 = py2 <;> simp only [h1,h2,h3,h4,h5,h6,if_true,if_false,true_and,false_and,and_true]
  by_cases h7 : inp = pinp <;> by_cases h8 : a = pa <;> by_cases h9 : b = pb <;> by_cases h10 : c = pc <;> by_cases h11 : f = pf <;> by_cases h12 : t = pt <;> simp only [h7,h8,h9,h10,h11,h12,if_true,if_false,true_and,false_and]
set_option maxRecDepth 100000 in
set_option maxHeartbeats 4000000 in
theorem check_lo (k : Nat) (hk : k < 1) (u x1 y1 x2 y2 : Int) (inp : List UInt8) (a b c f t : Nat) (n : Int) (w : World) :
    Calls Tryz.prog 13 #[.agg #[.int .u8 (k : Nat),.int .i64 u,.int .i64 x1,.int .i64 y1,.int .i64 x2,.int .i64 y2,.string ⟨inp.toArray⟩,.int .u64 (a : Nat),.int .u64 (b : Nat),.int .u64 (c : Nat),.int .u8 (f : Nat),.int .u64 (t : Nat),.int .i64 n]] w fun e w' => e = .returned (.int .i64 4) ∧ Below w.heap.size w w':=by
  have g1 : (k : Int) < 1:=by omega
  skip
  have H1:=Lib.hid ((Ok.start w).alloc w.heap.size 28 [.int .u8 (k : Nat),.int .i64 u,.int .i64 x1,.int .i64 y1,.int .i64 x2,.int .i64 y2,.string ⟨inp.toArray⟩,.int .u64 (a : Nat),.int .u64 (b : Nat),.int .u64 (c : Nat),.int .u8 (f : Nat),.int .u64 (t : Nat),.int .i64 n] rfl)
  go_enter Tryz.func13,Tryz.ntmps13
  go_upto_region 1 with fail
  generalize (w.alloc (.cells #[.int .u8 (k : Nat),.int .i64 u,.int .i64 x1,.int .i64 y1,.int .i64 x2,.int .i64 y2,.string ⟨inp.toArray⟩,.int .u64 (a : Nat),.int .u64 (b : Nat),.int .u64 (c : Nat),.int .u8 (f : Nat),.int .u64 (t : Nat),.int .i64 n] 28)) = W2 at H1 ⊢
  have F3:=H1.out.sees
  simp only [sees,kBlk,cellsAt,Nat.reduceAdd] at F3
  obtain ⟨⟨z0,c0_0,c0_1,c0_2,c0_3,c0_4,c0_5,c0_6,c0_7,c0_8,c0_9,c0_10,c0_11,c0_12,-⟩,-⟩:=F3
  refine wp_region_held_drew (S:=fun W => Ok w [kBlk (w.heap.size) 28 [.int .u8 (k : Nat),.int .i64 u,.int .i64 x1,.int .i64 y1,.int .i64 x2,.int .i64 y2,.string ⟨inp.toArray⟩,.int .u64 (a : Nat),.int .u64 (b : Nat),.int .u64 (c : Nat),.int .u8 (f : Nat),.int .u64 (t : Nat),.int .i64 n]] W) (by kernel_rfl) H1.out.drew (fun hHeld => ?_)
  refine wpAnyH_take (i:=0) (v:=?vx1_0) rfl (by kernel_rfl) (by kernel_rfl) (by kernel_rfl) (fun _ _ _ h => h) (Or.inl ⟨by rfl,?hyx1_0⟩) (by assumption) ?restx1_0
  case hyx1_0 => (intro w hSw; have F:=Ok.sees hSw; clear hSw; simp only [sees,kBlk,cellsAt,Nat.reduceAdd] at F; go_simp; try with_reducible rfl)
  try simp only [Act.put,List.setIfInBounds_toArray,List.set_cons_zero,List.set_cons_succ,List.getElem_toArray,List.getElem_cons_zero]
  refine wpAnyH_take (i:=1) (v:=?vx2_1) rfl (by kernel_rfl) (by kernel_rfl) (by kernel_rfl) (fun _ _ _ h => h) (Or.inl ⟨by rfl,?hyx2_1⟩) (by assumption) ?restx2_1
  case hyx2_1 => (intro w hSw; have F:=Ok.sees hSw; clear hSw; simp only [sees,kBlk,cellsAt,Nat.reduceAdd] at F; go_simp; try with_reducible rfl)
  try simp only [Act.put,List.setIfInBounds_toArray,List.set_cons_zero,List.set_cons_succ,List.getElem_toArray,List.getElem_cons_succ,List.getElem_cons_zero]
  refine wpAnyH_take (i:=2) (v:=?vx3_2) rfl (by kernel_rfl) (by kernel_rfl) (by kernel_rfl) (fun _ _ _ h => h) (Or.inl ⟨by rfl,?hyx3_2⟩) (by assumption) ?restx3_2
  case hyx3_2 => (intro w hSw; have F:=Ok.sees hSw; clear hSw; simp only [sees,kBlk,cellsAt,Nat.reduceAdd] at F; go_simp; try with_reducible rfl)
  try simp only [Act.put,List.setIfInBounds_toArray,List.set_cons_zero,List.set_cons_succ,List.getElem_toArray,List.getElem_cons_succ,List.getElem_cons_zero]
  refine wpAnyH_take (i:=3) (v:=?vx4_3) rfl (by kernel_rfl) (by kernel_rfl) (by kernel_rfl) (fun _ _ _ h => h) (Or.inl ⟨by rfl,?hyx4_3⟩) (by assumption) ?restx4_3
  case hyx4_3 => (intro w hSw; have F:=Ok.sees hSw; clear hSw; simp only [sees,kBlk,cellsAt,Nat.reduceAdd] at F; go_simp; try with_reducible rfl)
  try simp only [Act.put,List.setIfInBounds_toArray,List.set_cons_zero,List.set_cons_succ,List.getElem_toArray,List.getElem_cons_succ,List.getElem_cons_zero]
  refine wpAnyH_take (i:=4) (v:=undef) rfl (by kernel_rfl) (by kernel_rfl) (by kernel_rfl) (fun _ _ _ h => h) (Or.inr ⟨by rfl,rfl⟩) (by assumption) ?_
  try simp only [Act.put,List.setIfInBounds_toArray,List.set_cons_zero,List.set_cons_succ,List.getElem_toArray,List.getElem_cons_succ,List.getElem_cons_zero]
  refine wpAnyH_take (i:=5) (v:=undef) rfl (by kernel_rfl) (by kernel_rfl) (by kernel_rfl) (fun _ _ _ h => h) (Or.inr ⟨by rfl,rfl⟩) (by assumption) ?_
  try simp only [Act.put,List.setIfInBounds_toArray,List.set_cons_zero,List.set_cons_succ,List.getElem_toArray,List.getElem_cons_succ,List.getElem_cons_zero]
  refine wpAnyH_take (i:=6) (v:=undef) rfl (by kernel_rfl) (by kernel_rfl) (by kernel_rfl) (fun _ _ _ h => h) (Or.inr ⟨by rfl,rfl⟩) (by assumption) ?_
  try simp only [Act.put,List.setIfInBounds_toArray,List.set_cons_zero,List.set_cons_succ,List.getElem_toArray,List.getElem_cons_succ,List.getElem_cons_zero]
  refine wpAnyH_take (i:=7) (v:=?vx8_7) rfl (by kernel_rfl) (by kernel_rfl) (by kernel_rfl) (fun _ _ _ h => h) (Or.inl ⟨by rfl,?hyx8_7⟩) (by assumption) ?restx8_7
  case hyx8_7 => (intro w hSw; have F:=Ok.sees hSw; clear hSw; simp only [sees,kBlk,cellsAt,Nat.reduceAdd] at F; go_simp; try with_reducible rfl)
  try simp only [Act.put,List.setIfInBounds_toArray,List.set_cons_zero,List.set_cons_succ,List.getElem_toArray,List.getElem_cons_succ,List.getElem_cons_zero]
  refine wpAnyH_take (i:=8) (v:=?vx9_8) rfl (by kernel_rfl) (by kernel_rfl) (by kernel_rfl) (fun _ _ _ h => h) (Or.inl ⟨by rfl,?hyx9_8⟩) (by assumption) ?restx9_8
  case hyx9_8 => (intro w hSw; have F:=Ok.sees hSw; clear hSw; simp only [sees,kBlk,cellsAt,Nat.reduceAdd] at F; go_simp; try with_reducible rfl)
  try simp only [Act.put,List.setIfInBounds_toArray,List.set_cons_zero,List.set_cons_succ,List.getElem_toArray,List.getElem_cons_succ,List.getElem_cons_zero]
  refine wpAnyH_take (i:=9) (v:=undef) rfl (by kernel_rfl) (by kernel_rfl) (by kernel_rfl) (fun _ _ _ h => h) (Or.inr ⟨by rfl,rfl⟩) (by assumption) ?_
  try simp only [Act.put,List.setIfInBounds_toArray,List.set_cons_zero,List.set_cons_succ,List.getElem_toArray,List.getElem_cons_succ,List.getElem_cons_zero]
  refine wpAnyH_take (i:=10) (v:=undef) rfl (by kernel_rfl) (by kernel_rfl) (by kernel_rfl) (fun _ _ _ h => h) (Or.inr ⟨by rfl,rfl⟩) (by assumption) ?_
  try simp only [Act.put,List.setIfInBounds_toArray,List.set_cons_zero,List.set_cons_succ,List.getElem_toArray,List.getElem_cons_succ,List.getElem_cons_zero]
  refine wpAnyH_take (i:=11) (v:=undef) rfl (by kernel_rfl) (by kernel_rfl) (by kernel_rfl) (fun _ _ _ h => h) (Or.inr ⟨by rfl,rfl⟩) (by assumption) ?_
  try simp only [Act.put,List.setIfInBounds_toArray,List.set_cons_zero,List.set_cons_succ,List.getElem_toArray,List.getElem_cons_succ,List.getElem_cons_zero]
  refine wpAnyH_take (i:=12) (v:=undef) rfl (by kernel_rfl) (by kernel_rfl) (by kernel_rfl) (fun _ _ _ h => h) (Or.inr ⟨by rfl,rfl⟩) (by assumption) ?_
  try simp only [Act.put,List.setIfInBounds_toArray,List.set_cons_zero,List.set_cons_succ,List.getElem_toArray,List.getElem_cons_succ,List.getElem_cons_zero]
  refine wpAnyH_take (i:=13) (v:=?vx14_13) rfl (by kernel_rfl) (by kernel_rfl) (by kernel_rfl) (fun _ _ _ h => h) (Or.inl ⟨by rfl,?hyx14_13⟩) (by assumption) ?restx14_13
  case hyx14_13 => (intro w hSw; have F:=Ok.sees hSw; clear hSw; simp only [sees,kBlk,cellsAt,Nat.reduceAdd] at F; go_simp; try with_reducible rfl)
  try simp only [Act.put,List.setIfInBounds_toArray,List.set_cons_zero,List.set_cons_succ,List.getElem_toArray,List.getElem_cons_succ,List.getElem_cons_zero]
  refine wpAnyH_done (by kernel_rfl) ?_ _
  clear z0 c0_0 c0_1 c0_2 c0_3 c0_4 c0_5 c0_6 c0_7 c0_8 c0_9 c0_10 c0_11 c0_12
  clear H1
  have H5:=Lib.hid hHeld
  clear hHeld
  go_wp2_with fail
  go_ret
  exact ⟨rfl,H5.out.bel⟩
set_option maxRecDepth 100000 in
set_option maxHeartbeats 4000000 in
theorem check_hi (k : Nat) (hk : 10 < k) (u x1 y1 x2 y2 : Int) (inp : List UInt8) (a b c f t : Nat) (n : Int) (w : World) :
    Calls Tryz.prog 13 #[.agg #[.int .u8 (k : Nat),.int .i64 u,.int .i64 x1,.int .i64 y1,.int .i64 x2,.int .i64 y2,.string ⟨inp.toArray⟩,.int .u64 (a : Nat),.int .u64 (b : Nat),.int .u64 (c : Nat),.int .u8 (f : Nat),.int .u64 (t : Nat),.int .i64 n]] w fun e w' => e = .returned (.int .i64 4) ∧ Below w.heap.size w w':=by
  have g1 : ¬ (k : Int) < 1:=by omega
  have g2 : (k : Int) > 10:=by omega
  have H1:=Lib.hid ((Ok.start w).alloc w.heap.size 28 [.int .u8 (k : Nat),.int .i64 u,.int .i64 x1,.int .i64 y1,.int .i64 x2,.int .i64 y2,.string ⟨inp.toArray⟩,.int .u64 (a : Nat),.int .u64 (b : Nat),.int .u64 (c : Nat),.int .u8 (f : Nat),.int .u64 (t : Nat),.int .i64 n] rfl)
  go_enter Tryz.func13,Tryz.ntmps13
  go_upto_region 1 with fail
  generalize (w.alloc (.cells #[.int .u8 (k : Nat),.int .i64 u,.int .i64 x1,.int .i64 y1,.int .i64 x2,.int .i64 y2,.string ⟨inp.toArray⟩,.int .u64 (a : Nat),.int .u64 (b : Nat),.int .u64 (c : Nat),.int .u8 (f : Nat),.int .u64 (t : Nat),.int .i64 n] 28)) = W2 at H1 ⊢
  have F3:=H1.out.sees
  simp only [sees,kBlk,cellsAt,Nat.reduceAdd] at F3
  obtain ⟨⟨z0,c0_0,c0_1,c0_2,c0_3,c0_4,c0_5,c0_6,c0_7,c0_8,c0_9,c0_10,c0_11,c0_12,-⟩,-⟩:=F3
  refine wp_region_held_drew (S:=fun W => Ok w [kBlk (w.heap.size) 28 [.int .u8 (k : Nat),.int .i64 u,.int .i64 x1,.int .i64 y1,.int .i64 x2,.int .i64 y2,.string ⟨inp.toArray⟩,.int .u64 (a : Nat),.int .u64 (b : Nat),.int .u64 (c : Nat),.int .u8 (f : Nat),.int .u64 (t : Nat),.int .i64 n]] W) (by kernel_rfl) H1.out.drew (fun hHeld => ?_)
  refine wpAnyH_take (i:=0) (v:=?vx15_0) rfl (by kernel_rfl) (by kernel_rfl) (by kernel_rfl) (fun _ _ _ h => h) (Or.inl ⟨by rfl,?hyx15_0⟩) (by assumption) ?restx15_0
  case hyx15_0 => (intro w hSw; have F:=Ok.sees hSw; clear hSw; simp only [sees,kBlk,cellsAt,Nat.reduceAdd] at F; go_simp; try with_reducible rfl)
  try simp only [Act.put,List.setIfInBounds_toArray,List.set_cons_zero,List.set_cons_succ,List.getElem_toArray,List.getElem_cons_zero]
  refine wpAnyH_take (i:=1) (v:=?vx16_1) rfl (by kernel_rfl) (by kernel_rfl) (by kernel_rfl) (fun _ _ _ h => h) (Or.inl ⟨by rfl,?hyx16_1⟩) (by assumption) ?restx16_1
  case hyx16_1 => (intro w hSw; have F:=Ok.sees hSw; clear hSw; simp only [sees,kBlk,cellsAt,Nat.reduceAdd] at F; go_simp; try with_reducible rfl)
  try simp only [Act.put,List.setIfInBounds_toArray,List.set_cons_zero,List.set_cons_succ,List.getElem_toArray,List.getElem_cons_succ,List.getElem_cons_zero]
  refine wpAnyH_take (i:=2) (v:=?vx17_2) rfl (by kernel_rfl) (by kernel_rfl) (by kernel_rfl) (fun _ _ _ h => h) (Or.inl ⟨by rfl,?hyx17_2⟩) (by assumption) ?restx17_2
  case hyx17_2 => (intro w hSw; have F:=Ok.sees hSw; clear hSw; simp only [sees,kBlk,cellsAt,Nat.reduceAdd] at F; go_simp; try with_reducible rfl)
  try simp only [Act.put,List.setIfInBounds_toArray,List.set_cons_zero,List.set_cons_succ,List.getElem_toArray,List.getElem_cons_succ,List.getElem_cons_zero]
  refine wpAnyH_take (i:=3) (v:=?vx18_3) rfl (by kernel_rfl) (by kernel_rfl) (by kernel_rfl) (fun _ _ _ h => h) (Or.inl ⟨by rfl,?hyx18_3⟩) (by assumption) ?restx18_3
  case hyx18_3 => (intro w hSw; have F:=Ok.sees hSw; clear hSw; simp only [sees,kBlk,cellsAt,Nat.reduceAdd] at F; go_simp; try with_reducible rfl)
  try simp only [Act.put,List.setIfInBounds_toArray,List.set_cons_zero,List.set_cons_succ,List.getElem_toArray,List.getElem_cons_succ,List.getElem_cons_zero]
  refine wpAnyH_take (i:=4) (v:=?vx19_4) rfl (by kernel_rfl) (by kernel_rfl) (by kernel_rfl) (fun _ _ _ h => h) (Or.inl ⟨by rfl,?hyx19_4⟩) (by assumption) ?restx19_4
  case hyx19_4 => (intro w hSw; have F:=Ok.sees hSw; clear hSw; simp only [sees,kBlk,cellsAt,Nat.reduceAdd] at F; go_simp; try with_reducible rfl)
  try simp only [Act.put,List.setIfInBounds_toArray,List.set_cons_zero,List.set_cons_succ,List.getElem_toArray,List.getElem_cons_succ,List.getElem_cons_zero]
  refine wpAnyH_take (i:=5) (v:=?vx20_5) rfl (by kernel_rfl) (by kernel_rfl) (by kernel_rfl) (fun _ _ _ h => h) (Or.inl ⟨by rfl,?hyx20_5⟩) (by assumption) ?restx20_5
  case hyx20_5 => (intro w hSw; have F:=Ok.sees hSw; clear hSw; simp only [sees,kBlk,cellsAt,Nat.reduceAdd] at F; go_simp; try with_reducible rfl)
  try simp only [Act.put,List.setIfInBounds_toArray,List.set_cons_zero,List.set_cons_succ,List.getElem_toArray,List.getElem_cons_succ,List.getElem_cons_zero]
  refine wpAnyH_take (i:=6) (v:=?vx21_6) rfl (by kernel_rfl) (by kernel_rfl) (by kernel_rfl) (fun _ _ _ h => h) (Or.inl ⟨by rfl,?hyx21_6⟩) (by assumption) ?restx21_6
  case hyx21_6 => (intro w hSw; have F:=Ok.sees hSw; clear hSw; simp only [sees,kBlk,cellsAt,Nat.reduceAdd] at F; go_simp; try with_reducible rfl)
  try simp only [Act.put,List.setIfInBounds_toArray,List.set_cons_zero,List.set_cons_succ,List.getElem_toArray,List.getElem_cons_succ,List.getElem_cons_zero]
  refine wpAnyH_take (i:=7) (v:=?vx22_7) rfl (by kernel_rfl) (by kernel_rfl) (by kernel_rfl) (fun _ _ _ h => h) (Or.inl ⟨by rfl,?hyx22_7⟩) (by assumption) ?restx22_7
  case hyx22_7 => (intro w hSw; have F:=Ok.sees hSw; clear hSw; simp only [sees,kBlk,cellsAt,Nat.reduceAdd] at F; go_simp; try with_reducible rfl)
  try simp only [Act.put,List.setIfInBounds_toArray,List.set_cons_zero,List.set_cons_succ,List.getElem_toArray,List.getElem_cons_succ,List.getElem_cons_zero]
  refine wpAnyH_take (i:=8) (v:=?vx23_8) rfl (by kernel_rfl) (by kernel_rfl) (by kernel_rfl) (fun _ _ _ h => h) (Or.inl ⟨by rfl,?hyx23_8⟩) (by assumption) ?restx23_8
  case hyx23_8 => (intro w hSw; have F:=Ok.sees hSw; clear hSw; simp only [sees,kBlk,cellsAt,Nat.reduceAdd] at F; go_simp; try with_reducible rfl)
  try simp only [Act.put,List.setIfInBounds_toArray,List.set_cons_zero,List.set_cons_succ,List.getElem_toArray,List.getElem_cons_succ,List.getElem_cons_zero]
  refine wpAnyH_take (i:=9) (v:=undef) rfl (by kernel_rfl) (by kernel_rfl) (by kernel_rfl) (fun _ _ _ h => h) (Or.inr ⟨by rfl,rfl⟩) (by assumption) ?_
  try simp only [Act.put,List.setIfInBounds_toArray,List.set_cons_zero,List.set_cons_succ,List.getElem_toArray,List.getElem_cons_succ,List.getElem_cons_zero]
  refine wpAnyH_take (i:=10) (v:=undef) rfl (by kernel_rfl) (by kernel_rfl) (by kernel_rfl) (fun _ _ _ h => h) (Or.inr ⟨by rfl,rfl⟩) (by assumption) ?_
  try simp only [Act.put,List.setIfInBounds_toArray,List.set_cons_zero,List.set_cons_succ,List.getElem_toArray,List.getElem_cons_succ,List.getElem_cons_zero]
  refine wpAnyH_take (i:=11) (v:=undef) rfl (by kernel_rfl) (by kernel_rfl) (by kernel_rfl) (fun _ _ _ h => h) (Or.inr ⟨by rfl,rfl⟩) (by assumption) ?_
  try simp only [Act.put,List.setIfInBounds_toArray,List.set_cons_zero,List.set_cons_succ,List.getElem_toArray,List.getElem_cons_succ,List.getElem_cons_zero]
  refine wpAnyH_take (i:=12) (v:=undef) rfl (by kernel_rfl) (by kernel_rfl) (by kernel_rfl) (fun _ _ _ h => h) (Or.inr ⟨by rfl,rfl⟩) (by assumption) ?_
  try simp only [Act.put,List.setIfInBounds_toArray,List.set_cons_zero,List.set_cons_succ,List.getElem_toArray,List.getElem_cons_succ,List.getElem_cons_zero]
  refine wpAnyH_take (i:=13) (v:=?vx28_13) rfl (by kernel_rfl) (by kernel_rfl) (by kernel_rfl) (fun _ _ _ h => h) (Or.inl ⟨by rfl,?hyx28_13⟩) (by assumption) ?restx28_13
  case hyx28_13 => (intro w hSw; have F:=Ok.sees hSw; clear hSw; simp only [sees,kBlk,cellsAt,Nat.reduceAdd] at F; go_simp; try with_reducible rfl)
  try simp only [Act.put,List.setIfInBounds_toArray,List.set_cons_zero,List.set_cons_succ,List.getElem_toArray,List.getElem_cons_succ,List.getElem_cons_zero]
  refine wpAnyH_done (by kernel_rfl) ?_ _
  clear z0 c0_0 c0_1 c0_2 c0_3 c0_4 c0_5 c0_6 c0_7 c0_8 c0_9 c0_10 c0_11 c0_12
  clear H1
  have H5:=Lib.hid hHeld
  clear hHeld
  go_wp2_with fail
  go_ret
  exact ⟨rfl,H5.out.bel⟩
set_option maxRecDepth 100000 in
set_option maxHeartbeats 4000000 in
theorem check_ne (k : Nat) (hk1 : 1 ≤ k) (hk2 : k ≤ 10) (u x1 y1 x2 y2 : Int) (inp : List UInt8) (a b c f t : Nat) (n : Int) (pu px1 py1 px2 py2 : Int) (pinp : List UInt8) (pk pa pb pc pf pt : Nat) (pn : Int) (HP : ∀ w : World,Calls Tryz.prog 17 #[.agg #[.int .u8 (k : Nat),.int .i64 u,.int .i64 x1,.int .i64 y1,.int .i64 x2,.int .i64 y2,.string ⟨inp.toArray⟩,.int .u64 (a : Nat),.int .u64 (b : Nat),.int .u64 (c : Nat),.int .u8 (f : Nat),.int .u64 (t : Nat),.int .i64 n]] w fun e w' => e = .returned (.agg #[.int .u8 (pk : Nat),.int .i64 pu,.int .i64 px1,.int .i64 py1,.int .i64 px2,.int .i64 py2,.string ⟨pinp.toArray⟩,.int .u64 (pa : Nat),.int .u64 (pb : Nat),.int .u64 (pc : Nat),.int .u8 (pf : Nat),.int .u64 (pt : Nat),.int .i64 pn]) ∧ Below w.heap.size w w') (hne : ¬ (⟨k,u,⟨x1,y1,x2,y2⟩,inp,a,b,c,f,t,n⟩ : OpV) = ⟨pk,pu,⟨px1,py1,px2,py2⟩,pinp,pa,pb,pc,pf,pt,pn⟩) (w : World) :
    Calls Tryz.prog 13 #[.agg #[.int .u8 (k : Nat),.int .i64 u,.int .i64 x1,.int .i64 y1,.int .i64 x2,.int .i64 y2,.string ⟨inp.toArray⟩,.int .u64 (a : Nat),.int .u64 (b : Nat),.int .u64 (c : Nat),.int .u8 (f : Nat),.int .u64 (t : Nat),.int .i64 n]] w fun e w' => e = .returned (.int .i64 4) ∧ Below w.heap.size w w':=by
  have HPV:=keep HP
  clear HP
  have HNE:=keep hne
  clear hne
  have g1 : ¬ (k : Int) < 1:=by omega
  have g2 : ¬ (k : Int) > 10:=by omega
  have H1:=Lib.hid ((Ok.start w).alloc w.heap.size 28 [.int .u8 (k : Nat),.int .i64 u,.int .i64 x1,.int .i64 y1,.int .i64 x2,.int .i64 y2,.string ⟨inp.toArray⟩,.int .u64 (a : Nat),.int .u64 (b : Nat),.int .u64 (c : Nat),.int .u8 (f : Nat),.int .u64 (t : Nat),.int .i64 n] rfl)
  go_enter Tryz.func13,Tryz.ntmps13
  go_upto_region 1 with fail
  generalize (w.alloc (.cells #[.int .u8 (k : Nat),.int .i64 u,.int .i64 x1,.int .i64 y1,.int .i64 x2,.int .i64 y2,.string ⟨inp.toArray⟩,.int .u64 (a : Nat),.int .u64 (b : Nat),.int .u64 (c : Nat),.int .u8 (f : Nat),.int .u64 (t : Nat),.int .i64 n] 28)) = W2 at H1 ⊢
  have F3:=H1.out.sees
  simp only [sees,kBlk,cellsAt,Nat.reduceAdd] at F3
  obtain ⟨⟨z0,c0_0,c0_1,c0_2,c0_3,c0_4,c0_5,c0_6,c0_7,c0_8,c0_9,c0_10,c0_11,c0_12,-⟩,-⟩:=F3
  refine wp_region_held_drew (S:=fun W => Ok w [kBlk (w.heap.size) 28 [.int .u8 (k : Nat),.int .i64 u,.int .i64 x1,.int .i64 y1,.int .i64 x2,.int .i64 y2,.string ⟨inp.toArray⟩,.int .u64 (a : Nat),.int .u64 (b : Nat),.int .u64 (c : Nat),.int .u8 (f : Nat),.int .u64 (t : Nat),.int .i64 n]] W) (by kernel_rfl) H1.out.drew (fun hHeld => ?_)
  refine wpAnyH_take (i:=0) (v:=?vx29_0) rfl (by kernel_rfl) (by kernel_rfl) (by kernel_rfl) (fun _ _ _ h => h) (Or.inl ⟨by rfl,?hyx29_0⟩) (by assumption) ?restx29_0
  case hyx29_0 => (intro w hSw; have F:=Ok.sees hSw; clear hSw; simp only [sees,kBlk,cellsAt,Nat.reduceAdd] at F; go_simp; (try rw [ne13,if_neg HNE.out]); try with_reducible rfl)
  try simp only [Act.put,List.setIfInBounds_toArray,List.set_cons_zero,List.set_cons_succ,List.getElem_toArray,List.getElem_cons_zero]
  refine wpAnyH_take (i:=1) (v:=?vx30_1) rfl (by kernel_rfl) (by kernel_rfl) (by kernel_rfl) (fun _ _ _ h => h) (Or.inl ⟨by rfl,?hyx30_1⟩) (by assumption) ?restx30_1
  case hyx30_1 => (intro w hSw; have F:=Ok.sees hSw; clear hSw; simp only [sees,kBlk,cellsAt,Nat.reduceAdd] at F; go_simp; (try rw [ne13,if_neg HNE.out]); try with_reducible rfl)
  try simp only [Act.put,List.setIfInBounds_toArray,List.set_cons_zero,List.set_cons_succ,List.getElem_toArray,List.getElem_cons_succ,List.getElem_cons_zero]
  refine wpAnyH_take (i:=2) (v:=?vx31_2) rfl (by kernel_rfl) (by kernel_rfl) (by kernel_rfl) (fun _ _ _ h => h) (Or.inl ⟨by rfl,?hyx31_2⟩) (by assumption) ?restx31_2
  case hyx31_2 => (intro w hSw; have F:=Ok.sees hSw; clear hSw; simp only [sees,kBlk,cellsAt,Nat.reduceAdd] at F; go_simp; (try rw [ne13,if_neg HNE.out]); try with_reducible rfl)
  try simp only [Act.put,List.setIfInBounds_toArray,List.set_cons_zero,List.set_cons_succ,List.getElem_toArray,List.getElem_cons_succ,List.getElem_cons_zero]
  refine wpAnyH_take (i:=3) (v:=?vx32_3) rfl (by kernel_rfl) (by kernel_rfl) (by kernel_rfl) (fun _ _ _ h => h) (Or.inl ⟨by rfl,?hyx32_3⟩) (by assumption) ?restx32_3
  case hyx32_3 => (intro w hSw; have F:=Ok.sees hSw; clear hSw; simp only [sees,kBlk,cellsAt,Nat.reduceAdd] at F; go_simp; (try rw [ne13,if_neg HNE.out]); try with_reducible rfl)
  try simp only [Act.put,List.setIfInBounds_toArray,List.set_cons_zero,List.set_cons_succ,List.getElem_toArray,List.getElem_cons_succ,List.getElem_cons_zero]
  refine wpAnyH_take (i:=4) (v:=?vx33_4) rfl (by kernel_rfl) (by kernel_rfl) (by kernel_rfl) (fun _ _ _ h => h) (Or.inl ⟨by rfl,?hyx33_4⟩) (by assumption) ?restx33_4
  case hyx33_4 => (intro w hSw; have F:=Ok.sees hSw; clear hSw; simp only [sees,kBlk,cellsAt,Nat.reduceAdd] at F; go_simp; (try rw [ne13,if_neg HNE.out]); try with_reducible rfl)
  try simp only [Act.put,List.setIfInBounds_toArray,List.set_cons_zero,List.set_cons_succ,List.getElem_toArray,List.getElem_cons_succ,List.getElem_cons_zero]
  refine wpAnyH_take (i:=5) (v:=?vx34_5) rfl (by kernel_rfl) (by kernel_rfl) (by kernel_rfl) (fun _ _ _ h => h) (Or.inl ⟨by rfl,?hyx34_5⟩) (by assumption) ?restx34_5
  case hyx34_5 => (intro w hSw; have F:=Ok.sees hSw; clear hSw; simp only [sees,kBlk,cellsAt,Nat.reduceAdd] at F; go_simp; (try rw [ne13,if_neg HNE.out]); try with_reducible rfl)
  try simp only [Act.put,List.setIfInBounds_toArray,List.set_cons_zero,List.set_cons_succ,List.getElem_toArray,List.getElem_cons_succ,List.getElem_cons_zero]
  refine wpAnyH_take (i:=6) (v:=?vx35_6) rfl (by kernel_rfl) (by kernel_rfl) (by kernel_rfl) (fun _ _ _ h => h) (Or.inl ⟨by rfl,?hyx35_6⟩) (by assumption) ?restx35_6
  case hyx35_6 => (intro w hSw; have F:=Ok.sees hSw; clear hSw; simp only [sees,kBlk,cellsAt,Nat.reduceAdd] at F; go_simp; (try rw [ne13,if_neg HNE.out]); try with_reducible rfl)
  try simp only [Act.put,List.setIfInBounds_toArray,List.set_cons_zero,List.set_cons_succ,List.getElem_toArray,List.getElem_cons_succ,List.getElem_cons_zero]
  refine wpAnyH_take (i:=7) (v:=?vx36_7) rfl (by kernel_rfl) (by kernel_rfl) (by kernel_rfl) (fun _ _ _ h => h) (Or.inl ⟨by rfl,?hyx36_7⟩) (by assumption) ?restx36_7
  case hyx36_7 => (intro w hSw; have F:=Ok.sees hSw; clear hSw; simp only [sees,kBlk,cellsAt,Nat.reduceAdd] at F; go_simp; (try rw [ne13,if_neg HNE.out]); try with_reducible rfl)
  try simp only [Act.put,List.setIfInBounds_toArray,List.set_cons_zero,List.set_cons_succ,List.getElem_toArray,List.getElem_cons_succ,List.getElem_cons_zero]
  refine wpAnyH_take (i:=8) (v:=?vx37_8) rfl (by kernel_rfl) (by kernel_rfl) (by kernel_rfl) (fun _ _ _ h => h) (Or.inl ⟨by rfl,?hyx37_8⟩) (by assumption) ?restx37_8
  case hyx37_8 => (intro w hSw; have F:=Ok.sees hSw; clear hSw; simp only [sees,kBlk,cellsAt,Nat.reduceAdd] at F; go_simp; (try rw [ne13,if_neg HNE.out]); try with_reducible rfl)
  try simp only [Act.put,List.setIfInBounds_toArray,List.set_cons_zero,List.set_cons_succ,List.getElem_toArray,List.getElem_cons_succ,List.getElem_cons_zero]
  refine wpAnyH_take (i:=9) (v:=?vx38_9) rfl (by kernel_rfl) (by kernel_rfl) (by kernel_rfl) (fun _ _ _ h => h) (Or.inl ⟨by rfl,?hyx38_9⟩) (by assumption) ?restx38_9
  case hyx38_9 => (intro w hSw; have F:=Ok.sees hSw; clear hSw; simp only [sees,kBlk,cellsAt,Nat.reduceAdd] at F; go_simp; (try rw [ne13,if_neg HNE.out]); try with_reducible rfl)
  try simp only [Act.put,List.setIfInBounds_toArray,List.set_cons_zero,List.set_cons_succ,List.getElem_toArray,List.getElem_cons_succ,List.getElem_cons_zero]
  refine wpAnyH_take (i:=10) (v:=?vx39_10) rfl (by kernel_rfl) (by kernel_rfl) (by kernel_rfl) (fun _ _ _ h => h) (Or.inl ⟨by rfl,?hyx39_10⟩) (by assumption) ?restx39_10
  case hyx39_10 => (intro w hSw; have F:=Ok.sees hSw; clear hSw; simp only [sees,kBlk,cellsAt,Nat.reduceAdd] at F; go_simp; (try rw [ne13,if_neg HNE.out]); try with_reducible rfl)
  try simp only [Act.put,List.setIfInBounds_toArray,List.set_cons_zero,List.set_cons_succ,List.getElem_toArray,List.getElem_cons_succ,List.getElem_cons_zero]
  refine wpAnyH_ready (rs:=[11]) (by kernel_rfl) (by simp) ?_
  refine AllReadyH.cons rfl (fun K hK => ?_) AllReadyH.nil
  go_simp
  refine (HPV.out _).mono ?_
  rintro e w5 ⟨rfl,hb6⟩
  go_wp2_with fail
  refine hK.out _ _ (hHeld.below hb6) (fun hHeld => ?_)
  clear hK K
  try simp only [Act.put,List.setIfInBounds_toArray,List.set_cons_zero,List.set_cons_succ,List.getElem_toArray,List.getElem_cons_succ,List.getElem_cons_zero]
  refine wpAnyH_take (i:=12) (v:=?vx40_12) rfl (by kernel_rfl) (by kernel_rfl) (by kernel_rfl) (fun _ _ _ h => h) (Or.inl ⟨by rfl,?hyx40_12⟩) (by assumption) ?restx40_12
  case hyx40_12 => (intro w hSw; have F:=Ok.sees hSw; clear hSw; simp only [sees,kBlk,cellsAt,Nat.reduceAdd] at F; go_simp; (try rw [ne13,if_neg HNE.out]); try with_reducible rfl)
  try simp only [Act.put,List.setIfInBounds_toArray,List.set_cons_zero,List.set_cons_succ,List.getElem_toArray,List.getElem_cons_succ,List.getElem_cons_zero]
  refine wpAnyH_take (i:=13) (v:=?vx41_13) rfl (by kernel_rfl) (by kernel_rfl) (by kernel_rfl) (fun _ _ _ h => h) (Or.inl ⟨by rfl,?hyx41_13⟩) (by assumption) ?restx41_13
  case hyx41_13 => (intro w hSw; have F:=Ok.sees hSw; clear hSw; simp only [sees,kBlk,cellsAt,Nat.reduceAdd] at F; go_simp; (try rw [ne13,if_neg HNE.out]); try with_reducible rfl)
  try simp only [Act.put,List.setIfInBounds_toArray,List.set_cons_zero,List.set_cons_succ,List.getElem_toArray,List.getElem_cons_succ,List.getElem_cons_zero]
  refine wpAnyH_done (by kernel_rfl) ?_ _
  clear z0 c0_0 c0_1 c0_2 c0_3 c0_4 c0_5 c0_6 c0_7 c0_8 c0_9 c0_10 c0_11 c0_12
  clear H1
  have H7:=Lib.hid hHeld
  clear hHeld
  go_wp2_with fail
  go_ret
  exact ⟨rfl,H7.out.bel⟩
set_option maxRecDepth 100000 in
set_option maxHeartbeats 4000000 in
theorem check_3_no1 (u x1 y1 x2 y2 : Int) (inp : List UInt8) (a b c f t : Nat) (n : Int) (h1 : ¬ x1 = x2) (HP : ∀ w : World,Calls Tryz.prog 17 #[.agg #[.int .u8 3,.int .i64 u,.int .i64 x1,.int .i64 y1,.int .i64 x2,.int .i64 y2,.string ⟨inp.toArray⟩,.int .u64 (a : Nat),.int .u64 (b : Nat),.int .u64 (c : Nat),.int .u8 (f : Nat),.int .u64 (t : Nat),.int .i64 n]] w fun e w' => e = .returned (.agg #[.int .u8 3,.int .i64 u,.int .i64 x1,.int .i64 y1,.int .i64 x2,.int .i64 y2,.string ⟨inp.toArray⟩,.int .u64 (a : Nat),.int .u64 (b : Nat),.int .u64 (c : Nat),.int .u8 (f : Nat),.int .u64 (t : Nat),.int .i64 n]) ∧ Below w.heap.size w w') (w : World) :
    Calls Tryz.prog 13 #[.agg #[.int .u8 3,.int .i64 u,.int .i64 x1,.int .i64 y1,.int .i64 x2,.int .i64 y2,.string ⟨inp.toArray⟩,.int .u64 (a : Nat),.int .u64 (b : Nat),.int .u64 (c : Nat),.int .u8 (f : Nat),.int .u64 (t : Nat),.int .i64 n]] w fun e w' => e = .returned (.int .i64 4) ∧ Below w.heap.size w w':=by
  have HPV:=keep HP
  clear HP
  have e1 : (x1 == x2) = false:=by simpa using h1
  have H1:=Lib.hid ((Ok.start w).alloc w.heap.size 28 [.int .u8 3,.int .i64 u,.int .i64 x1,.int .i64 y1,.int .i64 x2,.int .i64 y2,.string ⟨inp.toArray⟩,.int .u64 (a : Nat),.int .u64 (b : Nat),.int .u64 (c : Nat),.int .u8 (f : Nat),.int .u64 (t : Nat),.int .i64 n] rfl)
  go_enter Tryz.func13,Tryz.ntmps13
  go_upto_region 1 with fail
  generalize (w.alloc (.cells #[.int .u8 3,.int .i64 u,.int .i64 x1,.int .i64 y1,.int .i64 x2,.int .i64 y2,.string ⟨inp.toArray⟩,.int .u64 (a : Nat),.int .u64 (b : Nat),.int .u64 (c : Nat),.int .u8 (f : Nat),.int .u64 (t : Nat),.int .i64 n] 28)) = W2 at H1 ⊢
  have F3:=H1.out.sees
  simp only [sees,kBlk,cellsAt,Nat.reduceAdd] at F3
  obtain ⟨⟨z0,c0_0,c0_1,c0_2,c0_3,c0_4,c0_5,c0_6,c0_7,c0_8,c0_9,c0_10,c0_11,c0_12,-⟩,-⟩:=F3
  refine wp_region_held_drew (S:=fun W => Ok w [kBlk (w.heap.size) 28 [.int .u8 3,.int .i64 u,.int .i64 x1,.int .i64 y1,.int .i64 x2,.int .i64 y2,.string ⟨inp.toArray⟩,.int .u64 (a : Nat),.int .u64 (b : Nat),.int .u64 (c : Nat),.int .u8 (f : Nat),.int .u64 (t : Nat),.int .i64 n]] W) (by kernel_rfl) H1.out.drew (fun hHeld => ?_)
  refine wpAnyH_take (i:=0) (v:=?vx42_0) rfl (by kernel_rfl) (by kernel_rfl) (by kernel_rfl) (fun _ _ _ h => h) (Or.inl ⟨by rfl,?hyx42_0⟩) (by assumption) ?restx42_0
  case hyx42_0 => (intro w hSw; have F:=Ok.sees hSw; clear hSw; simp only [sees,kBlk,cellsAt,Nat.reduceAdd] at F; go_simp; try with_reducible rfl)
  try simp only [Act.put,List.setIfInBounds_toArray,List.set_cons_zero,List.set_cons_succ,List.getElem_toArray,List.getElem_cons_zero]
  refine wpAnyH_take (i:=1) (v:=?vx43_1) rfl (by kernel_rfl) (by kernel_rfl) (by kernel_rfl) (fun _ _ _ h => h) (Or.inl ⟨by rfl,?hyx43_1⟩) (by assumption) ?restx43_1
  case hyx43_1 => (intro w hSw; have F:=Ok.sees hSw; clear hSw; simp only [sees,kBlk,cellsAt,Nat.reduceAdd] at F; go_simp; try with_reducible rfl)
  try simp only [Act.put,List.setIfInBounds_toArray,List.set_cons_zero,List.set_cons_succ,List.getElem_toArray,List.getElem_cons_succ,List.getElem_cons_zero]
  refine wpAnyH_take (i:=2) (v:=?vx44_2) rfl (by kernel_rfl) (by kernel_rfl) (by kernel_rfl) (fun _ _ _ h => h) (Or.inl ⟨by rfl,?hyx44_2⟩) (by assumption) ?restx44_2
  case hyx44_2 => (intro w hSw; have F:=Ok.sees hSw; clear hSw; simp only [sees,kBlk,cellsAt,Nat.reduceAdd] at F; go_simp; try with_reducible rfl)
  try simp only [Act.put,List.setIfInBounds_toArray,List.set_cons_zero,List.set_cons_succ,List.getElem_toArray,List.getElem_cons_succ,List.getElem_cons_zero]
  refine wpAnyH_take (i:=3) (v:=?vx45_3) rfl (by kernel_rfl) (by kernel_rfl) (by kernel_rfl) (fun _ _ _ h => h) (Or.inl ⟨by rfl,?hyx45_3⟩) (by assumption) ?restx45_3
  case hyx45_3 => (intro w hSw; have F:=Ok.sees hSw; clear hSw; simp only [sees,kBlk,cellsAt,Nat.reduceAdd] at F; go_simp; try with_reducible rfl)
  try simp only [Act.put,List.setIfInBounds_toArray,List.set_cons_zero,List.set_cons_succ,List.getElem_toArray,List.getElem_cons_succ,List.getElem_cons_zero]
  refine wpAnyH_take (i:=4) (v:=?vx46_4) rfl (by kernel_rfl) (by kernel_rfl) (by kernel_rfl) (fun _ _ _ h => h) (Or.inl ⟨by rfl,?hyx46_4⟩) (by assumption) ?restx46_4
  case hyx46_4 => (intro w hSw; have F:=Ok.sees hSw; clear hSw; simp only [sees,kBlk,cellsAt,Nat.reduceAdd] at F; go_simp; try with_reducible rfl)
  try simp only [Act.put,List.setIfInBounds_toArray,List.set_cons_zero,List.set_cons_succ,List.getElem_toArray,List.getElem_cons_succ,List.getElem_cons_zero]
  refine wpAnyH_take (i:=5) (v:=?vx47_5) rfl (by kernel_rfl) (by kernel_rfl) (by kernel_rfl) (fun _ _ _ h => h) (Or.inl ⟨by rfl,?hyx47_5⟩) (by assumption) ?restx47_5
  case hyx47_5 => (intro w hSw; have F:=Ok.sees hSw; clear hSw; simp only [sees,kBlk,cellsAt,Nat.reduceAdd] at F; go_simp; try with_reducible rfl)
  try simp only [Act.put,List.setIfInBounds_toArray,List.set_cons_zero,List.set_cons_succ,List.getElem_toArray,List.getElem_cons_succ,List.getElem_cons_zero]
  refine wpAnyH_take (i:=6) (v:=?vx48_6) rfl (by kernel_rfl) (by kernel_rfl) (by kernel_rfl) (fun _ _ _ h => h) (Or.inl ⟨by rfl,?hyx48_6⟩) (by assumption) ?restx48_6
  case hyx48_6 => (intro w hSw; have F:=Ok.sees hSw; clear hSw; simp only [sees,kBlk,cellsAt,Nat.reduceAdd] at F; go_simp; try with_reducible rfl)
  try simp only [Act.put,List.setIfInBounds_toArray,List.set_cons_zero,List.set_cons_succ,List.getElem_toArray,List.getElem_cons_succ,List.getElem_cons_zero]
  refine wpAnyH_take (i:=7) (v:=?vx49_7) rfl (by kernel_rfl) (by kernel_rfl) (by kernel_rfl) (fun _ _ _ h => h) (Or.inl ⟨by rfl,?hyx49_7⟩) (by assumption) ?restx49_7
  case hyx49_7 => (intro w hSw; have F:=Ok.sees hSw; clear hSw; simp only [sees,kBlk,cellsAt,Nat.reduceAdd] at F; go_simp; try with_reducible rfl)
  try simp only [Act.put,List.setIfInBounds_toArray,List.set_cons_zero,List.set_cons_succ,List.getElem_toArray,List.getElem_cons_succ,List.getElem_cons_zero]
  refine wpAnyH_take (i:=8) (v:=?vx50_8) rfl (by kernel_rfl) (by kernel_rfl) (by kernel_rfl) (fun _ _ _ h => h) (Or.inl ⟨by rfl,?hyx50_8⟩) (by assumption) ?restx50_8
  case hyx50_8 => (intro w hSw; have F:=Ok.sees hSw; clear hSw; simp only [sees,kBlk,cellsAt,Nat.reduceAdd] at F; go_simp; try with_reducible rfl)
  try simp only [Act.put,List.setIfInBounds_toArray,List.set_cons_zero,List.set_cons_succ,List.getElem_toArray,List.getElem_cons_succ,List.getElem_cons_zero]
  refine wpAnyH_take (i:=9) (v:=?vx51_9) rfl (by kernel_rfl) (by kernel_rfl) (by kernel_rfl) (fun _ _ _ h => h) (Or.inl ⟨by rfl,?hyx51_9⟩) (by assumption) ?restx51_9
  case hyx51_9 => (intro w hSw; have F:=Ok.sees hSw; clear hSw; simp only [sees,kBlk,cellsAt,Nat.reduceAdd] at F; go_simp; try with_reducible rfl)
  try simp only [Act.put,List.setIfInBounds_toArray,List.set_cons_zero,List.set_cons_succ,List.getElem_toArray,List.getElem_cons_succ,List.getElem_cons_zero]
  refine wpAnyH_take (i:=10) (v:=?vx52_10) rfl (by kernel_rfl) (by kernel_rfl) (by kernel_rfl) (fun _ _ _ h => h) (Or.inl ⟨by rfl,?hyx52_10⟩) (by assumption) ?restx52_10
  case hyx52_10 => (intro w hSw; have F:=Ok.sees hSw; clear hSw; simp only [sees,kBlk,cellsAt,Nat.reduceAdd] at F; go_simp; try with_reducible rfl)
  try simp only [Act.put,List.setIfInBounds_toArray,List.set_cons_zero,List.set_cons_succ,List.getElem_toArray,List.getElem_cons_succ,List.getElem_cons_zero]
  refine wpAnyH_ready (rs:=[11]) (by kernel_rfl) (by simp) ?_
  refine AllReadyH.cons rfl (fun K hK => ?_) AllReadyH.nil
  go_simp
  refine (HPV.out _).mono ?_
  rintro e w5 ⟨rfl,hb6⟩
  go_wp2_with fail
  refine hK.out _ _ (hHeld.below hb6) (fun hHeld => ?_)
  clear hK K
  try simp only [Act.put,List.setIfInBounds_toArray,List.set_cons_zero,List.set_cons_succ,List.getElem_toArray,List.getElem_cons_succ,List.getElem_cons_zero]
  refine wpAnyH_take (i:=12) (v:=?vx53_12) rfl (by kernel_rfl) (by kernel_rfl) (by kernel_rfl) (fun _ _ _ h => h) (Or.inl ⟨by rfl,?hyx53_12⟩) (by assumption) ?restx53_12
  case hyx53_12 => (intro w hSw; have F:=Ok.sees hSw; clear hSw; simp only [sees,kBlk,cellsAt,Nat.reduceAdd] at F; go_simp; try with_reducible rfl)
  try simp only [Act.put,List.setIfInBounds_toArray,List.set_cons_zero,List.set_cons_succ,List.getElem_toArray,List.getElem_cons_succ,List.getElem_cons_zero]
  refine wpAnyH_take (i:=13) (v:=?vx54_13) rfl (by kernel_rfl) (by kernel_rfl) (by kernel_rfl) (fun _ _ _ h => h) (Or.inl ⟨by rfl,?hyx54_13⟩) (by assumption) ?restx54_13
  case hyx54_13 => (intro w hSw; have F:=Ok.sees hSw; clear hSw; simp only [sees,kBlk,cellsAt,Nat.reduceAdd] at F; go_simp; try with_reducible rfl)
  try simp only [Act.put,List.setIfInBounds_toArray,List.set_cons_zero,List.set_cons_succ,List.getElem_toArray,List.getElem_cons_succ,List.getElem_cons_zero]
  refine wpAnyH_done (by kernel_rfl) ?_ _
  clear z0 c0_0 c0_1 c0_2 c0_3 c0_4 c0_5 c0_6 c0_7 c0_8 c0_9 c0_10 c0_11 c0_12
  clear H1
  have H7:=Lib.hid hHeld
  clear hHeld
  have F8:=H7.out.sees
  simp only [sees,kBlk,cellsAt,Nat.reduceAdd] at F8
  obtain ⟨⟨z0,c0_0,c0_1,c0_2,c0_3,c0_4,c0_5,c0_6,c0_7,c0_8,c0_9,c0_10,c0_11,c0_12,-⟩,-⟩:=F8
  go_wp2_with fail
  go_ret
  exact ⟨rfl,H7.out.bel⟩
set_option maxRecDepth 100000 in
set_option maxHeartbeats 4000000 in
theorem check_3_no2 (u x1 y1 y2 : Int) (inp : List UInt8) (a b c f t : Nat) (n : Int) (h1 : ¬ y1 = y2) (HP : ∀ w : World,Calls Tryz.prog 17 #[.agg #[.int .u8 3,.int .i64 u,.int .i64 x1,.int .i64 y1,.int .i64 x1,.int .i64 y2,.string ⟨inp.toArray⟩,.int .u64 (a : Nat),.int .u64 (b : Nat),.int .u64 (c : Nat),.int .u8 (f : Nat),.int .u64 (t : Nat),.int .i64 n]] w fun e w' => e = .returned (.agg #[.int .u8 3,.int .i64 u,.int .i64 x1,.int .i64 y1,.int .i64 x1,.int .i64 y2,.string ⟨inp.toArray⟩,.int .u64 (a : Nat),.int .u64 (b : Nat),.int .u64 (c : Nat),.int .u8 (f : Nat),.int .u64 (t : Nat),.int .i64 n]) ∧ Below w.heap.size w w') (w : World) :
    Calls Tryz.prog 13 #[.agg #[.int .u8 3,.int .i64 u,.int .i64 x1,.int .i64 y1,.int .i64 x1,.int .i64 y2,.string ⟨inp.toArray⟩,.int .u64 (a : Nat),.int .u64 (b : Nat),.int .u64 (c : Nat),.int .u8 (f : Nat),.int .u64 (t : Nat),.int .i64 n]] w fun e w' => e = .returned (.int .i64 4) ∧ Below w.heap.size w w':=by
  have HPV:=keep HP
  clear HP
  have e1 : (y1 == y2) = false:=by simpa using h1
  have H1:=Lib.hid ((Ok.start w).alloc w.heap.size 28 [.int .u8 3,.int .i64 u,.int .i64 x1,.int .i64 y1,.int .i64 x1,.int .i64 y2,.string ⟨inp.toArray⟩,.int .u64 (a : Nat),.int .u64 (b : Nat),.int .u64 (c : Nat),.int .u8 (f : Nat),.int .u64 (t : Nat),.int .i64 n] rfl)
  go_enter Tryz.func13,Tryz.ntmps13
  go_upto_region 1 with fail
  generalize (w.alloc (.cells #[.int .u8 3,.int .i64 u,.int .i64 x1,.int .i64 y1,.int .i64 x1,.int .i64 y2,.string ⟨inp.toArray⟩,.int .u64 (a : Nat),.int .u64 (b : Nat),.int .u64 (c : Nat),.int .u8 (f : Nat),.int .u64 (t : Nat),.int .i64 n] 28)) = W2 at H1 ⊢
  have F3:=H1.out.sees
  simp only [sees,kBlk,cellsAt,Nat.reduceAdd] at F3
  obtain ⟨⟨z0,c0_0,c0_1,c0_2,c0_3,c0_4,c0_5,c0_6,c0_7,c0_8,c0_9,c0_10,c0_11,c0_12,-⟩,-⟩:=F3
  refine wp_region_held_drew (S:=fun W => Ok w [kBlk (w.heap.size) 28 [.int .u8 3,.int .i64 u,.int .i64 x1,.int .i64 y1,.int .i64 x1,.int .i64 y2,.string ⟨inp.toArray⟩,.int .u64 (a : Nat),.int .u64 (b : Nat),.int .u64 (c : Nat),.int .u8 (f : Nat),.int .u64 (t : Nat),.int .i64 n]] W) (by kernel_rfl) H1.out.drew (fun hHeld => ?_)
  refine wpAnyH_take (i:=0) (v:=?vx55_0) rfl (by kernel_rfl) (by kernel_rfl) (by kernel_rfl) (fun _ _ _ h => h) (Or.inl ⟨by rfl,?hyx55_0⟩) (by assumption) ?restx55_0
  case hyx55_0 => (intro w hSw; have F:=Ok.sees hSw; clear hSw; simp only [sees,kBlk,cellsAt,Nat.reduceAdd] at F; go_simp; try with_reducible rfl)
  try simp only [Act.put,List.setIfInBounds_toArray,List.set_cons_zero,List.set_cons_succ,List.getElem_toArray,List.getElem_cons_zero]
  refine wpAnyH_take (i:=1) (v:=?vx56_1) rfl (by kernel_rfl) (by kernel_rfl) (by kernel_rfl) (fun _ _ _ h => h) (Or.inl ⟨by rfl,?hyx56_1⟩) (by assumption) ?restx56_1
  case hyx56_1 => (intro w hSw; have F:=Ok.sees hSw; clear hSw; simp only [sees,kBlk,cellsAt,Nat.reduceAdd] at F; go_simp; try with_reducible rfl)
  try simp only [Act.put,List.setIfInBounds_toArray,List.set_cons_zero,List.set_cons_succ,List.getElem_toArray,List.getElem_cons_succ,List.getElem_cons_zero]
  refine wpAnyH_take (i:=2) (v:=?vx57_2) rfl (by kernel_rfl) (by kernel_rfl) (by kernel_rfl) (fun _ _ _ h => h) (Or.inl ⟨by rfl,?hyx57_2⟩) (by assumption) ?restx57_2
  case hyx57_2 => (intro w hSw; have F:=Ok.sees hSw; clear hSw; simp only [sees,kBlk,cellsAt,Nat.reduceAdd] at F; go_simp; try with_reducible rfl)
  try simp only [Act.put,List.setIfInBounds_toArray,List.set_cons_zero,List.set_cons_succ,List.getElem_toArray,List.getElem_cons_succ,List.getElem_cons_zero]
  refine wpAnyH_take (i:=3) (v:=?vx58_3) rfl (by kernel_rfl) (by kernel_rfl) (by kernel_rfl) (fun _ _ _ h => h) (Or.inl ⟨by rfl,?hyx58_3⟩) (by assumption) ?restx58_3
  case hyx58_3 => (intro w hSw; have F:=Ok.sees hSw; clear hSw; simp only [sees,kBlk,cellsAt,Nat.reduceAdd] at F; go_simp; try with_reducible rfl)
  try simp only [Act.put,List.setIfInBounds_toArray,List.set_cons_zero,List.set_cons_succ,List.getElem_toArray,List.getElem_cons_succ,List.getElem_cons_zero]
  refine wpAnyH_take (i:=4) (v:=?vx59_4) rfl (by kernel_rfl) (by kernel_rfl) (by kernel_rfl) (fun _ _ _ h => h) (Or.inl ⟨by rfl,?hyx59_4⟩) (by assumption) ?restx59_4
  case hyx59_4 => (intro w hSw; have F:=Ok.sees hSw; clear hSw; simp only [sees,kBlk,cellsAt,Nat.reduceAdd] at F; go_simp; try with_reducible rfl)
  try simp only [Act.put,List.setIfInBounds_toArray,List.set_cons_zero,List.set_cons_succ,List.getElem_toArray,List.getElem_cons_succ,List.getElem_cons_zero]
  refine wpAnyH_take (i:=5) (v:=?vx60_5) rfl (by kernel_rfl) (by kernel_rfl) (by kernel_rfl) (fun _ _ _ h => h) (Or.inl ⟨by rfl,?hyx60_5⟩) (by assumption) ?restx60_5
  case hyx60_5 => (intro w hSw; have F:=Ok.sees hSw; clear hSw; simp only [sees,kBlk,cellsAt,Nat.reduceAdd] at F; go_simp; try with_reducible rfl)
  try simp only [Act.put,List.setIfInBounds_toArray,List.set_cons_zero,List.set_cons_succ,List.getElem_toArray,List.getElem_cons_succ,List.getElem_cons_zero]
  refine wpAnyH_take (i:=6) (v:=?vx61_6) rfl (by kernel_rfl) (by kernel_rfl) (by kernel_rfl) (fun _ _ _ h => h) (Or.inl ⟨by rfl,?hyx61_6⟩) (by assumption) ?restx61_6
  case hyx61_6 => (intro w hSw; have F:=Ok.sees hSw; clear hSw; simp only [sees,kBlk,cellsAt,Nat.reduceAdd] at F; go_simp; try with_reducible rfl)
  try simp only [Act.put,List.setIfInBounds_toArray,List.set_cons_zero,List.set_cons_succ,List.getElem_toArray,List.getElem_cons_succ,List.getElem_cons_zero]
  refine wpAnyH_take (i:=7) (v:=?vx62_7) rfl (by kernel_rfl) (by kernel_rfl) (by kernel_rfl) (fun _ _ _ h => h) (Or.inl ⟨by rfl,?hyx62_7⟩) (by assumption) ?restx62_7
  case hyx62_7 => (intro w hSw; have F:=Ok.sees hSw; clear hSw; simp only [sees,kBlk,cellsAt,Nat.reduceAdd] at F; go_simp; try with_reducible rfl)
  try simp only [Act.put,List.setIfInBounds_toArray,List.set_cons_zero,List.set_cons_succ,List.getElem_toArray,List.getElem_cons_succ,List.getElem_cons_zero]
  refine wpAnyH_take (i:=8) (v:=?vx63_8) rfl (by kernel_rfl) (by kernel_rfl) (by kernel_rfl) (fun _ _ _ h => h) (Or.inl ⟨by rfl,?hyx63_8⟩) (by assumption) ?restx63_8
  case hyx63_8 => (intro w hSw; have F:=Ok.sees hSw; clear hSw; simp only [sees,kBlk,cellsAt,Nat.reduceAdd] at F; go_simp; try with_reducible rfl)
  try simp only [Act.put,List.setIfInBounds_toArray,List.set_cons_zero,List.set_cons_succ,List.getElem_toArray,List.getElem_cons_succ,List.getElem_cons_zero]
  refine wpAnyH_take (i:=9) (v:=?vx64_9) rfl (by kernel_rfl) (by kernel_rfl) (by kernel_rfl) (fun _ _ _ h => h) (Or.inl ⟨by rfl,?hyx64_9⟩) (by assumption) ?restx64_9
  case hyx64_9 => (intro w hSw; have F:=Ok.sees hSw; clear hSw; simp only [sees,kBlk,cellsAt,Nat.reduceAdd] at F; go_simp; try with_reducible rfl)
  try simp only [Act.put,List.setIfInBounds_toArray,List.set_cons_zero,List.set_cons_succ,List.getElem_toArray,List.getElem_cons_succ,List.getElem_cons_zero]
  refine wpAnyH_take (i:=10) (v:=?vx65_10) rfl (by kernel_rfl) (by kernel_rfl) (by kernel_rfl) (fun _ _ _ h => h) (Or.inl ⟨by rfl,?hyx65_10⟩) (by assumption) ?restx65_10
  case hyx65_10 => (intro w hSw; have F:=Ok.sees hSw; clear hSw; simp only [sees,kBlk,cellsAt,Nat.reduceAdd] at F; go_simp; try with_reducible rfl)
  try simp only [Act.put,List.setIfInBounds_toArray,List.set_cons_zero,List.set_cons_succ,List.getElem_toArray,List.getElem_cons_succ,List.getElem_cons_zero]
  refine wpAnyH_ready (rs:=[11]) (by kernel_rfl) (by simp) ?_
  refine AllReadyH.cons rfl (fun K hK => ?_) AllReadyH.nil
  go_simp
  refine (HPV.out _).mono ?_
  rintro e w5 ⟨rfl,hb6⟩
  go_wp2_with fail
  refine hK.out _ _ (hHeld.below hb6) (fun hHeld => ?_)
  clear hK K
  try simp only [Act.put,List.setIfInBounds_toArray,List.set_cons_zero,List.set_cons_succ,List.getElem_toArray,List.getElem_cons_succ,List.getElem_cons_zero]
  refine wpAnyH_take (i:=12) (v:=?vx66_12) rfl (by kernel_rfl) (by kernel_rfl) (by kernel_rfl) (fun _ _ _ h => h) (Or.inl ⟨by rfl,?hyx66_12⟩) (by assumption) ?restx66_12
  case hyx66_12 => (intro w hSw; have F:=Ok.sees hSw; clear hSw; simp only [sees,kBlk,cellsAt,Nat.reduceAdd] at F; go_simp; try with_reducible rfl)
  try simp only [Act.put,List.setIfInBounds_toArray,List.set_cons_zero,List.set_cons_succ,List.getElem_toArray,List.getElem_cons_succ,List.getElem_cons_zero]
  refine wpAnyH_take (i:=13) (v:=?vx67_13) rfl (by kernel_rfl) (by kernel_rfl) (by kernel_rfl) (fun _ _ _ h => h) (Or.inl ⟨by rfl,?hyx67_13⟩) (by assumption) ?restx67_13
  case hyx67_13 => (intro w hSw; have F:=Ok.sees hSw; clear hSw; simp only [sees,kBlk,cellsAt,Nat.reduceAdd] at F; go_simp; try with_reducible rfl)
  try simp only [Act.put,List.setIfInBounds_toArray,List.set_cons_zero,List.set_cons_succ,List.getElem_toArray,List.getElem_cons_succ,List.getElem_cons_zero]
  refine wpAnyH_done (by kernel_rfl) ?_ _
  clear z0 c0_0 c0_1 c0_2 c0_3 c0_4 c0_5 c0_6 c0_7 c0_8 c0_9 c0_10 c0_11 c0_12
  clear H1
  have H7:=Lib.hid hHeld
  clear hHeld
  have F8:=H7.out.sees
  simp only [sees,kBlk,cellsAt,Nat.reduceAdd] at F8
  obtain ⟨⟨z0,c0_0,c0_1,c0_2,c0_3,c0_4,c0_5,c0_6,c0_7,c0_8,c0_9,c0_10,c0_11,c0_12,-⟩,-⟩:=F8
  go_wp2_with fail
  go_ret
  exact ⟨rfl,H7.out.bel⟩
set_option maxRecDepth 100000 in
set_option maxHeartbeats 4000000 in
theorem check_3_ok (u x1 y1 : Int) (inp : List UInt8) (a b c f t : Nat) (n : Int) (hs : inp.length ≤ 4611686018427387904) (hc : checkT inp = 0) (HP : ∀ w : World,Calls Tryz.prog 17 #[.agg #[.int .u8 3,.int .i64 u,.int .i64 x1,.int .i64 y1,.int .i64 x1,.int .i64 y1,.string ⟨inp.toArray⟩,.int .u64 (a : Nat),.int .u64 (b : Nat),.int .u64 (c : Nat),.int .u8 (f : Nat),.int .u64 (t : Nat),.int .i64 n]] w fun e w' => e = .returned (.agg #[.int .u8 3,.int .i64 u,.int .i64 x1,.int .i64 y1,.int .i64 x1,.int .i64 y1,.string ⟨inp.toArray⟩,.int .u64 (a : Nat),.int .u64 (b : Nat),.int .u64 (c : Nat),.int .u8 (f : Nat),.int .u64 (t : Nat),.int .i64 n]) ∧ Below w.heap.size w w') (w : World) :
    Calls Tryz.prog 13 #[.agg #[.int .u8 3,.int .i64 u,.int .i64 x1,.int .i64 y1,.int .i64 x1,.int .i64 y1,.string ⟨inp.toArray⟩,.int .u64 (a : Nat),.int .u64 (b : Nat),.int .u64 (c : Nat),.int .u8 (f : Nat),.int .u64 (t : Nat),.int .i64 n]] w fun e w' => e = .returned (.int .i64 0) ∧ Below w.heap.size w w':=by
  have HPV:=keep HP
  clear HP
  have HC:=keep hc
  clear hc
  have H1:=Lib.hid ((Ok.start w).alloc w.heap.size 28 [.int .u8 3,.int .i64 u,.int .i64 x1,.int .i64 y1,.int .i64 x1,.int .i64 y1,.string ⟨inp.toArray⟩,.int .u64 (a : Nat),.int .u64 (b : Nat),.int .u64 (c : Nat),.int .u8 (f : Nat),.int .u64 (t : Nat),.int .i64 n] rfl)
  go_enter Tryz.func13,Tryz.ntmps13
  go_upto_region 1 with fail
  generalize (w.alloc (.cells #[.int .u8 3,.int .i64 u,.int .i64 x1,.int .i64 y1,.int .i64 x1,.int .i64 y1,.string ⟨inp.toArray⟩,.int .u64 (a : Nat),.int .u64 (b : Nat),.int .u64 (c : Nat),.int .u8 (f : Nat),.int .u64 (t : Nat),.int .i64 n] 28)) = W2 at H1 ⊢
  have F3:=H1.out.sees
  simp only [sees,kBlk,cellsAt,Nat.reduceAdd] at F3
  obtain ⟨⟨z0,c0_0,c0_1,c0_2,c0_3,c0_4,c0_5,c0_6,c0_7,c0_8,c0_9,c0_10,c0_11,c0_12,-⟩,-⟩:=F3
  refine wp_region_held_drew (S:=fun W => Ok w [kBlk (w.heap.size) 28 [.int .u8 3,.int .i64 u,.int .i64 x1,.int .i64 y1,.int .i64 x1,.int .i64 y1,.string ⟨inp.toArray⟩,.int .u64 (a : Nat),.int .u64 (b : Nat),.int .u64 (c : Nat),.int .u8 (f : Nat),.int .u64 (t : Nat),.int .i64 n]] W) (by kernel_rfl) H1.out.drew (fun hHeld => ?_)
  refine wpAnyH_take (i:=0) (v:=?vx68_0) rfl (by kernel_rfl) (by kernel_rfl) (by kernel_rfl) (fun _ _ _ h => h) (Or.inl ⟨by rfl,?hyx68_0⟩) (by assumption) ?restx68_0
  case hyx68_0 => (intro w hSw; have F:=Ok.sees hSw; clear hSw; simp only [sees,kBlk,cellsAt,Nat.reduceAdd] at F; go_simp; try with_reducible rfl)
  try simp only [Act.put,List.setIfInBounds_toArray,List.set_cons_zero,List.set_cons_succ,List.getElem_toArray,List.getElem_cons_zero]
  refine wpAnyH_take (i:=1) (v:=?vx69_1) rfl (by kernel_rfl) (by kernel_rfl) (by kernel_rfl) (fun _ _ _ h => h) (Or.inl ⟨by rfl,?hyx69_1⟩) (by assumption) ?restx69_1
  case hyx69_1 => (intro w hSw; have F:=Ok.sees hSw; clear hSw; simp only [sees,kBlk,cellsAt,Nat.reduceAdd] at F; go_simp; try with_reducible rfl)
  try simp only [Act.put,List.setIfInBounds_toArray,List.set_cons_zero,List.set_cons_succ,List.getElem_toArray,List.getElem_cons_succ,List.getElem_cons_zero]
  refine wpAnyH_take (i:=2) (v:=?vx70_2) rfl (by kernel_rfl) (by kernel_rfl) (by kernel_rfl) (fun _ _ _ h => h) (Or.inl ⟨by rfl,?hyx70_2⟩) (by assumption) ?restx70_2
  case hyx70_2 => (intro w hSw; have F:=Ok.sees hSw; clear hSw; simp only [sees,kBlk,cellsAt,Nat.reduceAdd] at F; go_simp; try with_reducible rfl)
  try simp only [Act.put,List.setIfInBounds_toArray,List.set_cons_zero,List.set_cons_succ,List.getElem_toArray,List.getElem_cons_succ,List.getElem_cons_zero]
  refine wpAnyH_take (i:=3) (v:=?vx71_3) rfl (by kernel_rfl) (by kernel_rfl) (by kernel_rfl) (fun _ _ _ h => h) (Or.inl ⟨by rfl,?hyx71_3⟩) (by assumption) ?restx71_3
  case hyx71_3 => (intro w hSw; have F:=Ok.sees hSw; clear hSw; simp only [sees,kBlk,cellsAt,Nat.reduceAdd] at F; go_simp; try with_reducible rfl)
  try simp only [Act.put,List.setIfInBounds_toArray,List.set_cons_zero,List.set_cons_succ,List.getElem_toArray,List.getElem_cons_succ,List.getElem_cons_zero]
  refine wpAnyH_take (i:=4) (v:=?vx72_4) rfl (by kernel_rfl) (by kernel_rfl) (by kernel_rfl) (fun _ _ _ h => h) (Or.inl ⟨by rfl,?hyx72_4⟩) (by assumption) ?restx72_4
  case hyx72_4 => (intro w hSw; have F:=Ok.sees hSw; clear hSw; simp only [sees,kBlk,cellsAt,Nat.reduceAdd] at F; go_simp; try with_reducible rfl)
  try simp only [Act.put,List.setIfInBounds_toArray,List.set_cons_zero,List.set_cons_succ,List.getElem_toArray,List.getElem_cons_succ,List.getElem_cons_zero]
  refine wpAnyH_take (i:=5) (v:=?vx73_5) rfl (by kernel_rfl) (by kernel_rfl) (by kernel_rfl) (fun _ _ _ h => h) (Or.inl ⟨by rfl,?hyx73_5⟩) (by assumption) ?restx73_5
  case hyx73_5 => (intro w hSw; have F:=Ok.sees hSw; clear hSw; simp only [sees,kBlk,cellsAt,Nat.reduceAdd] at F; go_simp; try with_reducible rfl)
  try simp only [Act.put,List.setIfInBounds_toArray,List.set_cons_zero,List.set_cons_succ,List.getElem_toArray,List.getElem_cons_succ,List.getElem_cons_zero]
  refine wpAnyH_take (i:=6) (v:=?vx74_6) rfl (by kernel_rfl) (by kernel_rfl) (by kernel_rfl) (fun _ _ _ h => h) (Or.inl ⟨by rfl,?hyx74_6⟩) (by assumption) ?restx74_6
  case hyx74_6 => (intro w hSw; have F:=Ok.sees hSw; clear hSw; simp only [sees,kBlk,cellsAt,Nat.reduceAdd] at F; go_simp; try with_reducible rfl)
  try simp only [Act.put,List.setIfInBounds_toArray,List.set_cons_zero,List.set_cons_succ,List.getElem_toArray,List.getElem_cons_succ,List.getElem_cons_zero]
  refine wpAnyH_take (i:=7) (v:=?vx75_7) rfl (by kernel_rfl) (by kernel_rfl) (by kernel_rfl) (fun _ _ _ h => h) (Or.inl ⟨by rfl,?hyx75_7⟩) (by assumption) ?restx75_7
  case hyx75_7 => (intro w hSw; have F:=Ok.sees hSw; clear hSw; simp only [sees,kBlk,cellsAt,Nat.reduceAdd] at F; go_simp; try with_reducible rfl)
  try simp only [Act.put,List.setIfInBounds_toArray,List.set_cons_zero,List.set_cons_succ,List.getElem_toArray,List.getElem_cons_succ,List.getElem_cons_zero]
  refine wpAnyH_take (i:=8) (v:=?vx76_8) rfl (by kernel_rfl) (by kernel_rfl) (by kernel_rfl) (fun _ _ _ h => h) (Or.inl ⟨by rfl,?hyx76_8⟩) (by assumption) ?restx76_8
  case hyx76_8 => (intro w hSw; have F:=Ok.sees hSw; clear hSw; simp only [sees,kBlk,cellsAt,Nat.reduceAdd] at F; go_simp; try with_reducible rfl)
  try simp only [Act.put,List.setIfInBounds_toArray,List.set_cons_zero,List.set_cons_succ,List.getElem_toArray,List.getElem_cons_succ,List.getElem_cons_zero]
  refine wpAnyH_take (i:=9) (v:=?vx77_9) rfl (by kernel_rfl) (by kernel_rfl) (by kernel_rfl) (fun _ _ _ h => h) (Or.inl ⟨by rfl,?hyx77_9⟩) (by assumption) ?restx77_9
  case hyx77_9 => (intro w hSw; have F:=Ok.sees hSw; clear hSw; simp only [sees,kBlk,cellsAt,Nat.reduceAdd] at F; go_simp; try with_reducible rfl)
  try simp only [Act.put,List.setIfInBounds_toArray,List.set_cons_zero,List.set_cons_succ,List.getElem_toArray,List.getElem_cons_succ,List.getElem_cons_zero]
  refine wpAnyH_take (i:=10) (v:=?vx78_10) rfl (by kernel_rfl) (by kernel_rfl) (by kernel_rfl) (fun _ _ _ h => h) (Or.inl ⟨by rfl,?hyx78_10⟩) (by assumption) ?restx78_10
  case hyx78_10 => (intro w hSw; have F:=Ok.sees hSw; clear hSw; simp only [sees,kBlk,cellsAt,Nat.reduceAdd] at F; go_simp; try with_reducible rfl)
  try simp only [Act.put,List.setIfInBounds_toArray,List.set_cons_zero,List.set_cons_succ,List.getElem_toArray,List.getElem_cons_succ,List.getElem_cons_zero]
  refine wpAnyH_ready (rs:=[11]) (by kernel_rfl) (by simp) ?_
  refine AllReadyH.cons rfl (fun K hK => ?_) AllReadyH.nil
  go_simp
  refine (HPV.out _).mono ?_
  rintro e w5 ⟨rfl,hb6⟩
  go_wp2_with fail
  refine hK.out _ _ (hHeld.below hb6) (fun hHeld => ?_)
  clear hK K
  try simp only [Act.put,List.setIfInBounds_toArray,List.set_cons_zero,List.set_cons_succ,List.getElem_toArray,List.getElem_cons_succ,List.getElem_cons_zero]
  refine wpAnyH_take (i:=12) (v:=?vx79_12) rfl (by kernel_rfl) (by kernel_rfl) (by kernel_rfl) (fun _ _ _ h => h) (Or.inl ⟨by rfl,?hyx79_12⟩) (by assumption) ?restx79_12
  case hyx79_12 => (intro w hSw; have F:=Ok.sees hSw; clear hSw; simp only [sees,kBlk,cellsAt,Nat.reduceAdd] at F; go_simp; try with_reducible rfl)
  try simp only [Act.put,List.setIfInBounds_toArray,List.set_cons_zero,List.set_cons_succ,List.getElem_toArray,List.getElem_cons_succ,List.getElem_cons_zero]
  refine wpAnyH_take (i:=13) (v:=?vx80_13) rfl (by kernel_rfl) (by kernel_rfl) (by kernel_rfl) (fun _ _ _ h => h) (Or.inl ⟨by rfl,?hyx80_13⟩) (by assumption) ?restx80_13
  case hyx80_13 => (intro w hSw; have F:=Ok.sees hSw; clear hSw; simp only [sees,kBlk,cellsAt,Nat.reduceAdd] at F; go_simp; try with_reducible rfl)
  try simp only [Act.put,List.setIfInBounds_toArray,List.set_cons_zero,List.set_cons_succ,List.getElem_toArray,List.getElem_cons_succ,List.getElem_cons_zero]
  refine wpAnyH_done (by kernel_rfl) ?_ _
  clear z0 c0_0 c0_1 c0_2 c0_3 c0_4 c0_5 c0_6 c0_7 c0_8 c0_9 c0_10 c0_11 c0_12
  clear H1
  have H7:=Lib.hid hHeld
  clear hHeld
  have F8:=H7.out.sees
  simp only [sees,kBlk,cellsAt,Nat.reduceAdd] at F8
  obtain ⟨⟨z0,c0_0,c0_1,c0_2,c0_3,c0_4,c0_5,c0_6,c0_7,c0_8,c0_9,c0_10,c0_11,c0_12,-⟩,-⟩:=F8
  go_wp2_with fail
  refine (glyph_Check ⟨inp.toArray⟩ _ hs).mono ?_
  rintro e w9 ⟨rfl,hb10⟩
  clear z0 c0_0 c0_1 c0_2 c0_3 c0_4 c0_5 c0_6 c0_7 c0_8 c0_9 c0_10 c0_11 c0_12
  have H11:=Lib.hid (H7.out.below hb10)
  clear hb10 H7
  rw [show (⟨inp.toArray⟩ : ByteArray).data.toList = inp from rfl]
  rw [HC.out]
  go_wp2_with fail
  go_ret
  exact ⟨rfl,H11.out.bel⟩
set_option maxRecDepth 100000 in
set_option maxHeartbeats 4000000 in
theorem check_3_bad (u x1 y1 : Int) (inp : List UInt8) (a b c f t : Nat) (n : Int) (hs : inp.length ≤ 4611686018427387904) (hc : ¬ checkT inp = 0) (HP : ∀ w : World,Calls Tryz.prog 17 #[.agg #[.int .u8 3,.int .i64 u,.int .i64 x1,.int .i64 y1,.int .i64 x1,.int .i64 y1,.string ⟨inp.toArray⟩,.int .u64 (a : Nat),.int .u64 (b : Nat),.int .u64 (c : Nat),.int .u8 (f : Nat),.int .u64 (t : Nat),.int .i64 n]] w fun e w' => e = .returned (.agg #[.int .u8 3,.int .i64 u,.int .i64 x1,.int .i64 y1,.int .i64 x1,.int .i64 y1,.string ⟨inp.toArray⟩,.int .u64 (a : Nat),.int .u64 (b : Nat),.int .u64 (c : Nat),.int .u8 (f : Nat),.int .u64 (t : Nat),.int .i64 n]) ∧ Below w.heap.size w w') (w : World) :
    Calls Tryz.prog 13 #[.agg #[.int .u8 3,.int .i64 u,.int .i64 x1,.int .i64 y1,.int .i64 x1,.int .i64 y1,.string ⟨inp.toArray⟩,.int .u64 (a : Nat),.int .u64 (b : Nat),.int .u64 (c : Nat),.int .u8 (f : Nat),.int .u64 (t : Nat),.int .i64 n]] w fun e w' => e = .returned (.int .i64 4) ∧ Below w.heap.size w w':=by
  have HPV:=keep HP
  clear HP
  have HC:=keep hc
  clear hc
  have H1:=Lib.hid ((Ok.start w).alloc w.heap.size 28 [.int .u8 3,.int .i64 u,.int .i64 x1,.int .i64 y1,.int .i64 x1,.int .i64 y1,.string ⟨inp.toArray⟩,.int .u64 (a : Nat),.int .u64 (b : Nat),.int .u64 (c : Nat),.int .u8 (f : Nat),.int .u64 (t : Nat),.int .i64 n] rfl)
  go_enter Tryz.func13,Tryz.ntmps13
  go_upto_region 1 with fail
  generalize (w.alloc (.cells #[.int .u8 3,.int .i64 u,.int .i64 x1,.int .i64 y1,.int .i64 x1,.int .i64 y1,.string ⟨inp.toArray⟩,.int .u64 (a : Nat),.int .u64 (b : Nat),.int .u64 (c : Nat),.int .u8 (f : Nat),.int .u64 (t : Nat),.int .i64 n] 28)) = W2 at H1 ⊢
  have F3:=H1.out.sees
  simp only [sees,kBlk,cellsAt,Nat.reduceAdd] at F3
  obtain ⟨⟨z0,c0_0,c0_1,c0_2,c0_3,c0_4,c0_5,c0_6,c0_7,c0_8,c0_9,c0_10,c0_11,c0_12,-⟩,-⟩:=F3
  refine wp_region_held_drew (S:=fun W => Ok w [kBlk (w.heap.size) 28 [.int .u8 3,.int .i64 u,.int .i64 x1,.int .i64 y1,.int .i64 x1,.int .i64 y1,.string ⟨inp.toArray⟩,.int .u64 (a : Nat),.int .u64 (b : Nat),.int .u64 (c : Nat),.int .u8 (f : Nat),.int .u64 (t : Nat),.int .i64 n]] W) (by kernel_rfl) H1.out.drew (fun hHeld => ?_)
  refine wpAnyH_take (i:=0) (v:=?vx81_0) rfl (by kernel_rfl) (by kernel_rfl) (by kernel_rfl) (fun _ _ _ h => h) (Or.inl ⟨by rfl,?hyx81_0⟩) (by assumption) ?restx81_0
  case hyx81_0 => (intro w hSw; have F:=Ok.sees hSw; clear hSw; simp only [sees,kBlk,cellsAt,Nat.reduceAdd] at F; go_simp; try with_reducible rfl)
  try simp only [Act.put,List.setIfInBounds_toArray,List.set_cons_zero,List.set_cons_succ,List.getElem_toArray,List.getElem_cons_zero]
  refine wpAnyH_take (i:=1) (v:=?vx82_1) rfl (by kernel_rfl) (by kernel_rfl) (by kernel_rfl) (fun _ _ _ h => h) (Or.inl ⟨by rfl,?hyx82_1⟩) (by assumption) ?restx82_1
  case hyx82_1 => (intro w hSw; have F:=Ok.sees hSw; clear hSw; simp only [sees,kBlk,cellsAt,Nat.reduceAdd] at F; go_simp; try with_reducible rfl)
  try simp only [Act.put,List.setIfInBounds_toArray,List.set_cons_zero,List.set_cons_succ,List.getElem_toArray,List.getElem_cons_succ,List.getElem_cons_zero]
  refine wpAnyH_take (i:=2) (v:=?vx83_2) rfl (by kernel_rfl) (by kernel_rfl) (by kernel_rfl) (fun _ _ _ h => h) (Or.inl ⟨by rfl,?hyx83_2⟩) (by assumption) ?restx83_2
  case hyx83_2 => (intro w hSw; have F:=Ok.sees hSw; clear hSw; simp only [sees,kBlk,cellsAt,Nat.reduceAdd] at F; go_simp; try with_reducible rfl)
  try simp only [Act.put,List.setIfInBounds_toArray,List.set_cons_zero,List.set_cons_succ,List.getElem_toArray,List.getElem_cons_succ,List.getElem_cons_zero]
  refine wpAnyH_take (i:=3) (v:=?vx84_3) rfl (by kernel_rfl) (by kernel_rfl) (by kernel_rfl) (fun _ _ _ h => h) (Or.inl ⟨by rfl,?hyx84_3⟩) (by assumption) ?restx84_3
  case hyx84_3 => (intro w hSw; have F:=Ok.sees hSw; clear hSw; simp only [sees,kBlk,cellsAt,Nat.reduceAdd] at F; go_simp; try with_reducible rfl)
  try simp only [Act.put,List.setIfInBounds_toArray,List.set_cons_zero,List.set_cons_succ,List.getElem_toArray,List.getElem_cons_succ,List.getElem_cons_zero]
  refine wpAnyH_take (i:=4) (v:=?vx85_4) rfl (by kernel_rfl) (by kernel_rfl) (by kernel_rfl) (fun _ _ _ h => h) (Or.inl ⟨by rfl,?hyx85_4⟩) (by assumption) ?restx85_4
  case hyx85_4 => (intro w hSw; have F:=Ok.sees hSw; clear hSw; simp only [sees,kBlk,cellsAt,Nat.reduceAdd] at F; go_simp; try with_reducible rfl)
  try simp only [Act.put,List.setIfInBounds_toArray,List.set_cons_zero,List.set_cons_succ,List.getElem_toArray,List.getElem_cons_succ,List.getElem_cons_zero]
  refine wpAnyH_take (i:=5) (v:=?vx86_5) rfl (by kernel_rfl) (by kernel_rfl) (by kernel_rfl) (fun _ _ _ h => h) (Or.inl ⟨by rfl,?hyx86_5⟩) (by assumption) ?restx86_5
  case hyx86_5 => (intro w hSw; have F:=Ok.sees hSw; clear hSw; simp only [sees,kBlk,cellsAt,Nat.reduceAdd] at F; go_simp; try with_reducible rfl)
  try simp only [Act.put,List.setIfInBounds_toArray,List.set_cons_zero,List.set_cons_succ,List.getElem_toArray,List.getElem_cons_succ,List.getElem_cons_zero]
  refine wpAnyH_take (i:=6) (v:=?vx87_6) rfl (by kernel_rfl) (by kernel_rfl) (by kernel_rfl) (fun _ _ _ h => h) (Or.inl ⟨by rfl,?hyx87_6⟩) (by assumption) ?restx87_6
  case hyx87_6 => (intro w hSw; have F:=Ok.sees hSw; clear hSw; simp only [sees,kBlk,cellsAt,Nat.reduceAdd] at F; go_simp; try with_reducible rfl)
  try simp only [Act.put,List.setIfInBounds_toArray,List.set_cons_zero,List.set_cons_succ,List.getElem_toArray,List.getElem_cons_succ,List.getElem_cons_zero]
  refine wpAnyH_take (i:=7) (v:=?vx88_7) rfl (by kernel_rfl) (by kernel_rfl) (by kernel_rfl) (fun _ _ _ h => h) (Or.inl ⟨by rfl,?hyx88_7⟩) (by assumption) ?restx88_7
  case hyx88_7 => (intro w hSw; have F:=Ok.sees hSw; clear hSw; simp only [sees,kBlk,cellsAt,Nat.reduceAdd] at F; go_simp; try with_reducible rfl)
  try simp only [Act.put,List.setIfInBounds_toArray,List.set_cons_zero,List.set_cons_succ,List.getElem_toArray,List.getElem_cons_succ,List.getElem_cons_zero]
  refine wpAnyH_take (i:=8) (v:=?vx89_8) rfl (by kernel_rfl) (by kernel_rfl) (by kernel_rfl) (fun _ _ _ h => h) (Or.inl ⟨by rfl,?hyx89_8⟩) (by assumption) ?restx89_8
  case hyx89_8 => (intro w hSw; have F:=Ok.sees hSw; clear hSw; simp only [sees,kBlk,cellsAt,Nat.reduceAdd] at F; go_simp; try with_reducible rfl)
  try simp only [Act.put,List.setIfInBounds_toArray,List.set_cons_zero,List.set_cons_succ,List.getElem_toArray,List.getElem_cons_succ,List.getElem_cons_zero]
  refine wpAnyH_take (i:=9) (v:=?vx90_9) rfl (by kernel_rfl) (by kernel_rfl) (by kernel_rfl) (fun _ _ _ h => h) (Or.inl ⟨by rfl,?hyx90_9⟩) (by assumption) ?restx90_9
  case hyx90_9 => (intro w hSw; have F:=Ok.sees hSw; clear hSw; simp only [sees,kBlk,cellsAt,Nat.reduceAdd] at F; go_simp; try with_reducible rfl)
  try simp only [Act.put,List.setIfInBounds_toArray,List.set_cons_zero,List.set_cons_succ,List.getElem_toArray,List.getElem_cons_succ,List.getElem_cons_zero]
  refine wpAnyH_take (i:=10) (v:=?vx91_10) rfl (by kernel_rfl) (by kernel_rfl) (by kernel_rfl) (fun _ _ _ h => h) (Or.inl ⟨by rfl,?hyx91_10⟩) (by assumption) ?restx91_10
  case hyx91_10 => (intro w hSw; have F:=Ok.sees hSw; clear hSw; simp only [sees,kBlk,cellsAt,Nat.reduceAdd] at F; go_simp; try with_reducible rfl)
  try simp only [Act.put,List.setIfInBounds_toArray,List.set_cons_zero,List.set_cons_succ,List.getElem_toArray,List.getElem_cons_succ,List.getElem_cons_zero]
  refine wpAnyH_ready (rs:=[11]) (by kernel_rfl) (by simp) ?_
  refine AllReadyH.cons rfl (fun K hK => ?_) AllReadyH.nil
  go_simp
  refine (HPV.out _).mono ?_
  rintro e w5 ⟨rfl,hb6⟩
  go_wp2_with fail
  refine hK.out _ _ (hHeld.below hb6) (fun hHeld => ?_)
  clear hK K
  try simp only [Act.put,List.setIfInBounds_toArray,List.set_cons_zero,List.set_cons_succ,List.getElem_toArray,List.getElem_cons_succ,List.getElem_cons_zero]
  refine wpAnyH_take (i:=12) (v:=?vx92_12) rfl (by kernel_rfl) (by kernel_rfl) (by kernel_rfl) (fun _ _ _ h => h) (Or.inl ⟨by rfl,?hyx92_12⟩) (by assumption) ?restx92_12
  case hyx92_12 => (intro w hSw; have F:=Ok.sees hSw; clear hSw; simp only [sees,kBlk,cellsAt,Nat.reduceAdd] at F; go_simp; try with_reducible rfl)
  try simp only [Act.put,List.setIfInBounds_toArray,List.set_cons_zero,List.set_cons_succ,List.getElem_toArray,List.getElem_cons_succ,List.getElem_cons_zero]
  refine wpAnyH_take (i:=13) (v:=?vx93_13) rfl (by kernel_rfl) (by kernel_rfl) (by kernel_rfl) (fun _ _ _ h => h) (Or.inl ⟨by rfl,?hyx93_13⟩) (by assumption) ?restx93_13
  case hyx93_13 => (intro w hSw; have F:=Ok.sees hSw; clear hSw; simp only [sees,kBlk,cellsAt,Nat.reduceAdd] at F; go_simp; try with_reducible rfl)
  try simp only [Act.put,List.setIfInBounds_toArray,List.set_cons_zero,List.set_cons_succ,List.getElem_toArray,List.getElem_cons_succ,List.getElem_cons_zero]
  refine wpAnyH_done (by kernel_rfl) ?_ _
  clear z0 c0_0 c0_1 c0_2 c0_3 c0_4 c0_5 c0_6 c0_7 c0_8 c0_9 c0_10 c0_11 c0_12
  clear H1
  have H7:=Lib.hid hHeld
  clear hHeld
  have F8:=H7.out.sees
  simp only [sees,kBlk,cellsAt,Nat.reduceAdd] at F8
  obtain ⟨⟨z0,c0_0,c0_1,c0_2,c0_3,c0_4,c0_5,c0_6,c0_7,c0_8,c0_9,c0_10,c0_11,c0_12,-⟩,-⟩:=F8
  go_wp2_with fail
  refine (glyph_Check ⟨inp.toArray⟩ _ hs).mono ?_
  rintro e w9 ⟨rfl,hb10⟩
  clear z0 c0_0 c0_1 c0_2 c0_3 c0_4 c0_5 c0_6 c0_7 c0_8 c0_9 c0_10 c0_11 c0_12
  have H11:=Lib.hid (H7.out.below hb10)
  clear hb10 H7
  rw [show (⟨inp.toArray⟩ : ByteArray).data.toList = inp from rfl]
  obtain ⟨z,hz⟩ : ∃ z,checkT inp = z:=⟨_,rfl⟩
  have hz0 : (z != 0) = true:=by have:=HC.out; rw [hz] at this; simpa using this
  rw [hz]
  clear hz
  go_wp2_with fail
  go_ret
  exact ⟨rfl,H11.out.bel⟩
set_option maxRecDepth 100000 in
set_option maxHeartbeats 4000000 in
theorem check_6_no1 (u x1 y1 x2 y2 : Int) (inp : List UInt8) (a b c f t : Nat) (n : Int) (h1 : ¬ x1 = x2) (HP : ∀ w : World,Calls Tryz.prog 17 #[.agg #[.int .u8 6,.int .i64 u,.int .i64 x1,.int .i64 y1,.int .i64 x2,.int .i64 y2,.string ⟨inp.toArray⟩,.int .u64 (a : Nat),.int .u64 (b : Nat),.int .u64 (c : Nat),.int .u8 (f : Nat),.int .u64 (t : Nat),.int .i64 n]] w fun e w' => e = .returned (.agg #[.int .u8 6,.int .i64 u,.int .i64 x1,.int .i64 y1,.int .i64 x2,.int .i64 y2,.string ⟨inp.toArray⟩,.int .u64 (a : Nat),.int .u64 (b : Nat),.int .u64 (c : Nat),.int .u8 (f : Nat),.int .u64 (t : Nat),.int .i64 n]) ∧ Below w.heap.size w w') (w : World) :
    Calls Tryz.prog 13 #[.agg #[.int .u8 6,.int .i64 u,.int .i64 x1,.int .i64 y1,.int .i64 x2,.int .i64 y2,.string ⟨inp.toArray⟩,.int .u64 (a : Nat),.int .u64 (b : Nat),.int .u64 (c : Nat),.int .u8 (f : Nat),.int .u64 (t : Nat),.int .i64 n]] w fun e w' => e = .returned (.int .i64 4) ∧ Below w.heap.size w w':=by
  have HPV:=keep HP
  clear HP
  have e1 : (x1 == x2) = false:=by simpa using h1
  have H1:=Lib.hid ((Ok.start w).alloc w.heap.size 28 [.int .u8 6,.int .i64 u,.int .i64 x1,.int .i64 y1,.int .i64 x2,.int .i64 y2,.string ⟨inp.toArray⟩,.int .u64 (a : Nat),.int .u64 (b : Nat),.int .u64 (c : Nat),.int .u8 (f : Nat),.int .u64 (t : Nat),.int .i64 n] rfl)
  go_enter Tryz.func13,Tryz.ntmps13
  go_upto_region 1 with fail
  generalize (w.alloc (.cells #[.int .u8 6,.int .i64 u,.int .i64 x1,.int .i64 y1,.int .i64 x2,.int .i64 y2,.string ⟨inp.toArray⟩,.int .u64 (a : Nat),.int .u64 (b : Nat),.int .u64 (c : Nat),.int .u8 (f : Nat),.int .u64 (t : Nat),.int .i64 n] 28)) = W2 at H1 ⊢
  have F3:=H1.out.sees
  simp only [sees,kBlk,cellsAt,Nat.reduceAdd] at F3
  obtain ⟨⟨z0,c0_0,c0_1,c0_2,c0_3,c0_4,c0_5,c0_6,c0_7,c0_8,c0_9,c0_10,c0_11,c0_12,-⟩,-⟩:=F3
  refine wp_region_held_drew (S:=fun W => Ok w [kBlk (w.heap.size) 28 [.int .u8 6,.int .i64 u,.int .i64 x1,.int .i64 y1,.int .i64 x2,.int .i64 y2,.string ⟨inp.toArray⟩,.int .u64 (a : Nat),.int .u64 (b : Nat),.int .u64 (c : Nat),.int .u8 (f : Nat),.int .u64 (t : Nat),.int .i64 n]] W) (by kernel_rfl) H1.out.drew (fun hHeld => ?_)
  refine wpAnyH_take (i:=0) (v:=?vx94_0) rfl (by kernel_rfl) (by kernel_rfl) (by kernel_rfl) (fun _ _ _ h => h) (Or.inl ⟨by rfl,?hyx94_0⟩) (by assumption) ?restx94_0
  case hyx94_0 => (intro w hSw; have F:=Ok.sees hSw; clear hSw; simp only [sees,kBlk,cellsAt,Nat.reduceAdd] at F; go_simp; try with_reducible rfl)
  try simp only [Act.put,List.setIfInBounds_toArray,List.set_cons_zero,List.set_cons_succ,List.getElem_toArray,List.getElem_cons_zero]
  refine wpAnyH_take (i:=1) (v:=?vx95_1) rfl (by kernel_rfl) (by kernel_rfl) (by kernel_rfl) (fun _ _ _ h => h) (Or.inl ⟨by rfl,?hyx95_1⟩) (by assumption) ?restx95_1
  case hyx95_1 => (intro w hSw; have F:=Ok.sees hSw; clear hSw; simp only [sees,kBlk,cellsAt,Nat.reduceAdd] at F; go_simp; try with_reducible rfl)
  try simp only [Act.put,List.setIfInBounds_toArray,List.set_cons_zero,List.set_cons_succ,List.getElem_toArray,List.getElem_cons_succ,List.getElem_cons_zero]
  refine wpAnyH_take (i:=2) (v:=?vx96_2) rfl (by kernel_rfl) (by kernel_rfl) (by kernel_rfl) (fun _ _ _ h => h) (Or.inl ⟨by rfl,?hyx96_2⟩) (by assumption) ?restx96_2
  case hyx96_2 => (intro w hSw; have F:=Ok.sees hSw; clear hSw; simp only [sees,kBlk,cellsAt,Nat.reduceAdd] at F; go_simp; try with_reducible rfl)
  try simp only [Act.put,List.setIfInBounds_toArray,List.set_cons_zero,List.set_cons_succ,List.getElem_toArray,List.getElem_cons_succ,List.getElem_cons_zero]
  refine wpAnyH_take (i:=3) (v:=?vx97_3) rfl (by kernel_rfl) (by kernel_rfl) (by kernel_rfl) (fun _ _ _ h => h) (Or.inl ⟨by rfl,?hyx97_3⟩) (by assumption) ?restx97_3
  case hyx97_3 => (intro w hSw; have F:=Ok.sees hSw; clear hSw; simp only [sees,kBlk,cellsAt,Nat.reduceAdd] at F; go_simp; try with_reducible rfl)
  try simp only [Act.put,List.setIfInBounds_toArray,List.set_cons_zero,List.set_cons_succ,List.getElem_toArray,List.getElem_cons_succ,List.getElem_cons_zero]
  refine wpAnyH_take (i:=4) (v:=?vx98_4) rfl (by kernel_rfl) (by kernel_rfl) (by kernel_rfl) (fun _ _ _ h => h) (Or.inl ⟨by rfl,?hyx98_4⟩) (by assumption) ?restx98_4
  case hyx98_4 => (intro w hSw; have F:=Ok.sees hSw; clear hSw; simp only [sees,kBlk,cellsAt,Nat.reduceAdd] at F; go_simp; try with_reducible rfl)
  try simp only [Act.put,List.setIfInBounds_toArray,List.set_cons_zero,List.set_cons_succ,List.getElem_toArray,List.getElem_cons_succ,List.getElem_cons_zero]
  refine wpAnyH_take (i:=5) (v:=?vx99_5) rfl (by kernel_rfl) (by kernel_rfl) (by kernel_rfl) (fun _ _ _ h => h) (Or.inl ⟨by rfl,?hyx99_5⟩) (by assumption) ?restx99_5
  case hyx99_5 => (intro w hSw; have F:=Ok.sees hSw; clear hSw; simp only [sees,kBlk,cellsAt,Nat.reduceAdd] at F; go_simp; try with_reducible rfl)
  try simp only [Act.put,List.setIfInBounds_toArray,List.set_cons_zero,List.set_cons_succ,List.getElem_toArray,List.getElem_cons_succ,List.getElem_cons_zero]
  refine wpAnyH_take (i:=6) (v:=?vx100_6) rfl (by kernel_rfl) (by kernel_rfl) (by kernel_rfl) (fun _ _ _ h => h) (Or.inl ⟨by rfl,?hyx100_6⟩) (by assumption) ?restx100_6
  case hyx100_6 => (intro w hSw; have F:=Ok.sees hSw; clear hSw; simp only [sees,kBlk,cellsAt,Nat.reduceAdd] at F; go_simp; try with_reducible rfl)
  try simp only [Act.put,List.setIfInBounds_toArray,List.set_cons_zero,List.set_cons_succ,List.getElem_toArray,List.getElem_cons_succ,List.getElem_cons_zero]
  refine wpAnyH_take (i:=7) (v:=?vx101_7) rfl (by kernel_rfl) (by kernel_rfl) (by kernel_rfl) (fun _ _ _ h => h) (Or.inl ⟨by rfl,?hyx101_7⟩) (by assumption) ?restx101_7
  case hyx101_7 => (intro w hSw; have F:=Ok.sees hSw; clear hSw; simp only [sees,kBlk,cellsAt,Nat.reduceAdd] at F; go_simp; try with_reducible rfl)
  try simp only [Act.put,List.setIfInBounds_toArray,List.set_cons_zero,List.set_cons_succ,List.getElem_toArray,List.getElem_cons_succ,List.getElem_cons_zero]
  refine wpAnyH_take (i:=8) (v:=?vx102_8) rfl (by kernel_rfl) (by kernel_rfl) (by kernel_rfl) (fun _ _ _ h => h) (Or.inl ⟨by rfl,?hyx102_8⟩) (by assumption) ?restx102_8
  case hyx102_8 => (intro w hSw; have F:=Ok.sees hSw; clear hSw; simp only [sees,kBlk,cellsAt,Nat.reduceAdd] at F; go_simp; try with_reducible rfl)
  try simp only [Act.put,List.setIfInBounds_toArray,List.set_cons_zero,List.set_cons_succ,List.getElem_toArray,List.getElem_cons_succ,List.getElem_cons_zero]
  refine wpAnyH_take (i:=9) (v:=?vx103_9) rfl (by kernel_rfl) (by kernel_rfl) (by kernel_rfl) (fun _ _ _ h => h) (Or.inl ⟨by rfl,?hyx103_9⟩) (by assumption) ?restx103_9
  case hyx103_9 => (intro w hSw; have F:=Ok.sees hSw; clear hSw; simp only [sees,kBlk,cellsAt,Nat.reduceAdd] at F; go_simp; try with_reducible rfl)
  try simp only [Act.put,List.setIfInBounds_toArray,List.set_cons_zero,List.set_cons_succ,List.getElem_toArray,List.getElem_cons_succ,List.getElem_cons_zero]
  refine wpAnyH_take (i:=10) (v:=?vx104_10) rfl (by kernel_rfl) (by kernel_rfl) (by kernel_rfl) (fun _ _ _ h => h) (Or.inl ⟨by rfl,?hyx104_10⟩) (by assumption) ?restx104_10
  case hyx104_10 => (intro w hSw; have F:=Ok.sees hSw; clear hSw; simp only [sees,kBlk,cellsAt,Nat.reduceAdd] at F; go_simp; try with_reducible rfl)
  try simp only [Act.put,List.setIfInBounds_toArray,List.set_cons_zero,List.set_cons_succ,List.getElem_toArray,List.getElem_cons_succ,List.getElem_cons_zero]
  refine wpAnyH_ready (rs:=[11]) (by kernel_rfl) (by simp) ?_
  refine AllReadyH.cons rfl (fun K hK => ?_) AllReadyH.nil
  go_simp
  refine (HPV.out _).mono ?_
  rintro e w5 ⟨rfl,hb6⟩
  go_wp2_with fail
  refine hK.out _ _ (hHeld.below hb6) (fun hHeld => ?_)
  clear hK K
  try simp only [Act.put,List.setIfInBounds_toArray,List.set_cons_zero,List.set_cons_succ,List.getElem_toArray,List.getElem_cons_succ,List.getElem_cons_zero]
  refine wpAnyH_take (i:=12) (v:=?vx105_12) rfl (by kernel_rfl) (by kernel_rfl) (by kernel_rfl) (fun _ _ _ h => h) (Or.inl ⟨by rfl,?hyx105_12⟩) (by assumption) ?restx105_12
  case hyx105_12 => (intro w hSw; have F:=Ok.sees hSw; clear hSw; simp only [sees,kBlk,cellsAt,Nat.reduceAdd] at F; go_simp; try with_reducible rfl)
  try simp only [Act.put,List.setIfInBounds_toArray,List.set_cons_zero,List.set_cons_succ,List.getElem_toArray,List.getElem_cons_succ,List.getElem_cons_zero]
  refine wpAnyH_take (i:=13) (v:=?vx106_13) rfl (by kernel_rfl) (by kernel_rfl) (by kernel_rfl) (fun _ _ _ h => h) (Or.inl ⟨by rfl,?hyx106_13⟩) (by assumption) ?restx106_13
  case hyx106_13 => (intro w hSw; have F:=Ok.sees hSw; clear hSw; simp only [sees,kBlk,cellsAt,Nat.reduceAdd] at F; go_simp; try with_reducible rfl)
  try simp only [Act.put,List.setIfInBounds_toArray,List.set_cons_zero,List.set_cons_succ,List.getElem_toArray,List.getElem_cons_succ,List.getElem_cons_zero]
  refine wpAnyH_done (by kernel_rfl) ?_ _
  clear z0 c0_0 c0_1 c0_2 c0_3 c0_4 c0_5 c0_6 c0_7 c0_8 c0_9 c0_10 c0_11 c0_12
  clear H1
  have H7:=Lib.hid hHeld
  clear hHeld
  have F8:=H7.out.sees
  simp only [sees,kBlk,cellsAt,Nat.reduceAdd] at F8
  obtain ⟨⟨z0,c0_0,c0_1,c0_2,c0_3,c0_4,c0_5,c0_6,c0_7,c0_8,c0_9,c0_10,c0_11,c0_12,-⟩,-⟩:=F8
  go_wp2_with fail
  go_ret
  exact ⟨rfl,H7.out.bel⟩
set_option maxRecDepth 100000 in
set_option maxHeartbeats 4000000 in
theorem check_6_no2 (u x1 y1 y2 : Int) (inp : List UInt8) (a b c f t : Nat) (n : Int) (h1 : ¬ y1 = y2) (HP : ∀ w : World,Calls Tryz.prog 17 #[.agg #[.int .u8 6,.int .i64 u,.int .i64 x1,.int .i64 y1,.int .i64 x1,.int .i64 y2,.string ⟨inp.toArray⟩,.int .u64 (a : Nat),.int .u64 (b : Nat),.int .u64 (c : Nat),.int .u8 (f : Nat),.int .u64 (t : Nat),.int .i64 n]] w fun e w' => e = .returned (.agg #[.int .u8 6,.int .i64 u,.int .i64 x1,.int .i64 y1,.int .i64 x1,.int .i64 y2,.string ⟨inp.toArray⟩,.int .u64 (a : Nat),.int .u64 (b : Nat),.int .u64 (c : Nat),.int .u8 (f : Nat),.int .u64 (t : Nat),.int .i64 n]) ∧ Below w.heap.size w w') (w : World) :
    Calls Tryz.prog 13 #[.agg #[.int .u8 6,.int .i64 u,.int .i64 x1,.int .i64 y1,.int .i64 x1,.int .i64 y2,.string ⟨inp.toArray⟩,.int .u64 (a : Nat),.int .u64 (b : Nat),.int .u64 (c : Nat),.int .u8 (f : Nat),.int .u64 (t : Nat),.int .i64 n]] w fun e w' => e = .returned (.int .i64 4) ∧ Below w.heap.size w w':=by
  have HPV:=keep HP
  clear HP
  have e1 : (y1 == y2) = false:=by simpa using h1
  have H1:=Lib.hid ((Ok.start w).alloc w.heap.size 28 [.int .u8 6,.int .i64 u,.int .i64 x1,.int .i64 y1,.int .i64 x1,.int .i64 y2,.string ⟨inp.toArray⟩,.int .u64 (a : Nat),.int .u64 (b : Nat),.int .u64 (c : Nat),.int .u8 (f : Nat),.int .u64 (t : Nat),.int .i64 n] rfl)
  go_enter Tryz.func13,Tryz.ntmps13
  go_upto_region 1 with fail
  generalize (w.alloc (.cells #[.int .u8 6,.int .i64 u,.int .i64 x1,.int .i64 y1,.int .i64 x1,.int .i64 y2,.string ⟨inp.toArray⟩,.int .u64 (a : Nat),.int .u64 (b : Nat),.int .u64 (c : Nat),.int .u8 (f : Nat),.int .u64 (t : Nat),.int .i64 n] 28)) = W2 at H1 ⊢
  have F3:=H1.out.sees
  simp only [sees,kBlk,cellsAt,Nat.reduceAdd] at F3
  obtain ⟨⟨z0,c0_0,c0_1,c0_2,c0_3,c0_4,c0_5,c0_6,c0_7,c0_8,c0_9,c0_10,c0_11,c0_12,-⟩,-⟩:=F3
  refine wp_region_held_drew (S:=fun W => Ok w [kBlk (w.heap.size) 28 [.int .u8 6,.int .i64 u,.int .i64 x1,.int .i64 y1,.int .i64 x1,.int .i64 y2,.string ⟨inp.toArray⟩,.int .u64 (a : Nat),.int .u64 (b : Nat),.int .u64 (c : Nat),.int .u8 (f : Nat),.int .u64 (t : Nat),.int .i64 n]] W) (by kernel_rfl) H1.out.drew (fun hHeld => ?_)
  refine wpAnyH_take (i:=0) (v:=?vx107_0) rfl (by kernel_rfl) (by kernel_rfl) (by kernel_rfl) (fun _ _ _ h => h) (Or.inl ⟨by rfl,?hyx107_0⟩) (by assumption) ?restx107_0
  case hyx107_0 => (intro w hSw; have F:=Ok.sees hSw; clear hSw; simp only [sees,kBlk,cellsAt,Nat.reduceAdd] at F; go_simp; try with_reducible rfl)
  try simp only [Act.put,List.setIfInBounds_toArray,List.set_cons_zero,List.set_cons_succ,List.getElem_toArray,List.getElem_cons_zero]
  refine wpAnyH_take (i:=1) (v:=?vx108_1) rfl (by kernel_rfl) (by kernel_rfl) (by kernel_rfl) (fun _ _ _ h => h) (Or.inl ⟨by rfl,?hyx108_1⟩) (by assumption) ?restx108_1
  case hyx108_1 => (intro w hSw; have F:=Ok.sees hSw; clear hSw; simp only [sees,kBlk,cellsAt,Nat.reduceAdd] at F; go_simp; try with_reducible rfl)
  try simp only [Act.put,List.setIfInBounds_toArray,List.set_cons_zero,List.set_cons_succ,List.getElem_toArray,List.getElem_cons_succ,List.getElem_cons_zero]
  refine wpAnyH_take (i:=2) (v:=?vx109_2) rfl (by kernel_rfl) (by kernel_rfl) (by kernel_rfl) (fun _ _ _ h => h) (Or.inl ⟨by rfl,?hyx109_2⟩) (by assumption) ?restx109_2
  case hyx109_2 => (intro w hSw; have F:=Ok.sees hSw; clear hSw; simp only [sees,kBlk,cellsAt,Nat.reduceAdd] at F; go_simp; try with_reducible rfl)
  try simp only [Act.put,List.setIfInBounds_toArray,List.set_cons_zero,List.set_cons_succ,List.getElem_toArray,List.getElem_cons_succ,List.getElem_cons_zero]
  refine wpAnyH_take (i:=3) (v:=?vx110_3) rfl (by kernel_rfl) (by kernel_rfl) (by kernel_rfl) (fun _ _ _ h => h) (Or.inl ⟨by rfl,?hyx110_3⟩) (by assumption) ?restx110_3
  case hyx110_3 => (intro w hSw; have F:=Ok.sees hSw; clear hSw; simp only [sees,kBlk,cellsAt,Nat.reduceAdd] at F; go_simp; try with_reducible rfl)
  try simp only [Act.put,List.setIfInBounds_toArray,List.set_cons_zero,List.set_cons_succ,List.getElem_toArray,List.getElem_cons_succ,List.getElem_cons_zero]
  refine wpAnyH_take (i:=4) (v:=?vx111_4) rfl (by kernel_rfl) (by kernel_rfl) (by kernel_rfl) (fun _ _ _ h => h) (Or.inl ⟨by rfl,?hyx111_4⟩) (by assumption) ?restx111_4
  case hyx111_4 => (intro w hSw; have F:=Ok.sees hSw; clear hSw; simp only [sees,kBlk,cellsAt,Nat.reduceAdd] at F; go_simp; try with_reducible rfl)
  try simp only [Act.put,List.setIfInBounds_toArray,List.set_cons_zero,List.set_cons_succ,List.getElem_toArray,List.getElem_cons_succ,List.getElem_cons_zero]
  refine wpAnyH_take (i:=5) (v:=?vx112_5) rfl (by kernel_rfl) (by kernel_rfl) (by kernel_rfl) (fun _ _ _ h => h) (Or.inl ⟨by rfl,?hyx112_5⟩) (by assumption) ?restx112_5
  case hyx112_5 => (intro w hSw; have F:=Ok.sees hSw; clear hSw; simp only [sees,kBlk,cellsAt,Nat.reduceAdd] at F; go_simp; try with_reducible rfl)
  try simp only [Act.put,List.setIfInBounds_toArray,List.set_cons_zero,List.set_cons_succ,List.getElem_toArray,List.getElem_cons_succ,List.getElem_cons_zero]
  refine wpAnyH_take (i:=6) (v:=?vx113_6) rfl (by kernel_rfl) (by kernel_rfl) (by kernel_rfl) (fun _ _ _ h => h) (Or.inl ⟨by rfl,?hyx113_6⟩) (by assumption) ?restx113_6
  case hyx113_6 => (intro w hSw; have F:=Ok.sees hSw; clear hSw; simp only [sees,kBlk,cellsAt,Nat.reduceAdd] at F; go_simp; try with_reducible rfl)
  try simp only [Act.put,List.setIfInBounds_toArray,List.set_cons_zero,List.set_cons_succ,List.getElem_toArray,List.getElem_cons_succ,List.getElem_cons_zero]
  refine wpAnyH_take (i:=7) (v:=?vx114_7) rfl (by kernel_rfl) (by kernel_rfl) (by kernel_rfl) (fun _ _ _ h => h) (Or.inl ⟨by rfl,?hyx114_7⟩) (by assumption) ?restx114_7
  case hyx114_7 => (intro w hSw; have F:=Ok.sees hSw; clear hSw; simp only [sees,kBlk,cellsAt,Nat.reduceAdd] at F; go_simp; try with_reducible rfl)
  try simp only [Act.put,List.setIfInBounds_toArray,List.set_cons_zero,List.set_cons_succ,List.getElem_toArray,List.getElem_cons_succ,List.getElem_cons_zero]
  refine wpAnyH_take (i:=8) (v:=?vx115_8) rfl (by kernel_rfl) (by kernel_rfl) (by kernel_rfl) (fun _ _ _ h => h) (Or.inl ⟨by rfl,?hyx115_8⟩) (by assumption) ?restx115_8
  case hyx115_8 => (intro w hSw; have F:=Ok.sees hSw; clear hSw; simp only [sees,kBlk,cellsAt,Nat.reduceAdd] at F; go_simp; try with_reducible rfl)
  try simp only [Act.put,List.setIfInBounds_toArray,List.set_cons_zero,List.set_cons_succ,List.getElem_toArray,List.getElem_cons_succ,List.getElem_cons_zero]
  refine wpAnyH_take (i:=9) (v:=?vx116_9) rfl (by kernel_rfl) (by kernel_rfl) (by kernel_rfl) (fun _ _ _ h => h) (Or.inl ⟨by rfl,?hyx116_9⟩) (by assumption) ?restx116_9
  case hyx116_9 => (intro w hSw; have F:=Ok.sees hSw; clear hSw; simp only [sees,kBlk,cellsAt,Nat.reduceAdd] at F; go_simp; try with_reducible rfl)
  try simp only [Act.put,List.setIfInBounds_toArray,List.set_cons_zero,List.set_cons_succ,List.getElem_toArray,List.getElem_cons_succ,List.getElem_cons_zero]
  refine wpAnyH_take (i:=10) (v:=?vx117_10) rfl (by kernel_rfl) (by kernel_rfl) (by kernel_rfl) (fun _ _ _ h => h) (Or.inl ⟨by rfl,?hyx117_10⟩) (by assumption) ?restx117_10
  case hyx117_10 => (intro w hSw; have F:=Ok.sees hSw; clear hSw; simp only [sees,kBlk,cellsAt,Nat.reduceAdd] at F; go_simp; try with_reducible rfl)
  try simp only [Act.put,List.setIfInBounds_toArray,List.set_cons_zero,List.set_cons_succ,List.getElem_toArray,List.getElem_cons_succ,List.getElem_cons_zero]
  refine wpAnyH_ready (rs:=[11]) (by kernel_rfl) (by simp) ?_
  refine AllReadyH.cons rfl (fun K hK => ?_) AllReadyH.nil
  go_simp
  refine (HPV.out _).mono ?_
  rintro e w5 ⟨rfl,hb6⟩
  go_wp2_with fail
  refine hK.out _ _ (hHeld.below hb6) (fun hHeld => ?_)
  clear hK K
  try simp only [Act.put,List.setIfInBounds_toArray,List.set_cons_zero,List.set_cons_succ,List.getElem_toArray,List.getElem_cons_succ,List.getElem_cons_zero]
  refine wpAnyH_take (i:=12) (v:=?vx118_12) rfl (by kernel_rfl) (by kernel_rfl) (by kernel_rfl) (fun _ _ _ h => h) (Or.inl ⟨by rfl,?hyx118_12⟩) (by assumption) ?restx118_12
  case hyx118_12 => (intro w hSw; have F:=Ok.sees hSw; clear hSw; simp only [sees,kBlk,cellsAt,Nat.reduceAdd] at F; go_simp; try with_reducible rfl)
  try simp only [Act.put,List.setIfInBounds_toArray,List.set_cons_zero,List.set_cons_succ,List.getElem_toArray,List.getElem_cons_succ,List.getElem_cons_zero]
  refine wpAnyH_take (i:=13) (v:=?vx119_13) rfl (by kernel_rfl) (by kernel_rfl) (by kernel_rfl) (fun _ _ _ h => h) (Or.inl ⟨by rfl,?hyx119_13⟩) (by assumption) ?restx119_13
  case hyx119_13 => (intro w hSw; have F:=Ok.sees hSw; clear hSw; simp only [sees,kBlk,cellsAt,Nat.reduceAdd] at F; go_simp; try with_reducible rfl)
  try simp only [Act.put,List.setIfInBounds_toArray,List.set_cons_zero,List.set_cons_succ,List.getElem_toArray,List.getElem_cons_succ,List.getElem_cons_zero]
  refine wpAnyH_done (by kernel_rfl) ?_ _
  clear z0 c0_0 c0_1 c0_2 c0_3 c0_4 c0_5 c0_6 c0_7 c0_8 c0_9 c0_10 c0_11 c0_12
  clear H1
  have H7:=Lib.hid hHeld
  clear hHeld
  have F8:=H7.out.sees
  simp only [sees,kBlk,cellsAt,Nat.reduceAdd] at F8
  obtain ⟨⟨z0,c0_0,c0_1,c0_2,c0_3,c0_4,c0_5,c0_6,c0_7,c0_8,c0_9,c0_10,c0_11,c0_12,-⟩,-⟩:=F8
  go_wp2_with fail
  go_ret
  exact ⟨rfl,H7.out.bel⟩
set_option maxRecDepth 100000 in
set_option maxHeartbeats 4000000 in
theorem check_6_ok (u x1 y1 : Int) (inp : List UInt8) (a b c f t : Nat) (n : Int) (hs : inp.length ≤ 4611686018427387904) (hc : checkT inp = 0) (HP : ∀ w : World,Calls Tryz.prog 17 #[.agg #[.int .u8 6,.int .i64 u,.int .i64 x1,.int .i64 y1,.int .i64 x1,.int .i64 y1,.string ⟨inp.toArray⟩,.int .u64 (a : Nat),.int .u64 (b : Nat),.int .u64 (c : Nat),.int .u8 (f : Nat),.int .u64 (t : Nat),.int .i64 n]] w fun e w' => e = .returned (.agg #[.int .u8 6,.int .i64 u,.int .i64 x1,.int .i64 y1,.int .i64 x1,.int .i64 y1,.string ⟨inp.toArray⟩,.int .u64 (a : Nat),.int .u64 (b : Nat),.int .u64 (c : Nat),.int .u8 (f : Nat),.int .u64 (t : Nat),.int .i64 n]) ∧ Below w.heap.size w w') (w : World) :
    Calls Tryz.prog 13 #[.agg #[.int .u8 6,.int .i64 u,.int .i64 x1,.int .i64 y1,.int .i64 x1,.int .i64 y1,.string ⟨inp.toArray⟩,.int .u64 (a : Nat),.int .u64 (b : Nat),.int .u64 (c : Nat),.int .u8 (f : Nat),.int .u64 (t : Nat),.int .i64 n]] w fun e w' => e = .returned (.int .i64 0) ∧ Below w.heap.size w w':=by
  have HPV:=keep HP
  clear HP
  have HC:=keep hc
  clear hc
  have H1:=Lib.hid ((Ok.start w).alloc w.heap.size 28 [.int .u8 6,.int .i64 u,.int .i64 x1,.int .i64 y1,.int .i64 x1,.int .i64 y1,.string ⟨inp.toArray⟩,.int .u64 (a : Nat),.int .u64 (b : Nat),.int .u64 (c : Nat),.int .u8 (f : Nat),.int .u64 (t : Nat),.int .i64 n] rfl)
  go_enter Tryz.func13,Tryz.ntmps13
  go_upto_region 1 with fail
  generalize (w.alloc (.cells #[.int .u8 6,.int .i64 u,.int .i64 x1,.int .i64 y1,.int .i64 x1,.int .i64 y1,.string ⟨inp.toArray⟩,.int .u64 (a : Nat),.int .u64 (b : Nat),.int .u64 (c : Nat),.int .u8 (f : Nat),.int .u64 (t : Nat),.int .i64 n] 28)) = W2 at H1 ⊢
  have F3:=H1.out.sees
  simp only [sees,kBlk,cellsAt,Nat.reduceAdd] at F3
  obtain ⟨⟨z0,c0_0,c0_1,c0_2,c0_3,c0_4,c0_5,c0_6,c0_7,c0_8,c0_9,c0_10,c0_11,c0_12,-⟩,-⟩:=F3
  refine wp_region_held_drew (S:=fun W => Ok w [kBlk (w.heap.size) 28 [.int .u8 6,.int .i64 u,.int .i64 x1,.int .i64 y1,.int .i64 x1,.int .i64 y1,.string ⟨inp.toArray⟩,.int .u64 (a : Nat),.int .u64 (b : Nat),.int .u64 (c : Nat),.int .u8 (f : Nat),.int .u64 (t : Nat),.int .i64 n]] W) (by kernel_rfl) H1.out.drew (fun hHeld => ?_)
  refine wpAnyH_take (i:=0) (v:=?vx120_0) rfl (by kernel_rfl) (by kernel_rfl) (by kernel_rfl) (fun _ _ _ h => h) (Or.inl ⟨by rfl,?hyx120_0⟩) (by assumption) ?restx120_0
  case hyx120_0 => (intro w hSw; have F:=Ok.sees hSw; clear hSw; simp only [sees,kBlk,cellsAt,Nat.reduceAdd] at F; go_simp; try with_reducible rfl)
  try simp only [Act.put,List.setIfInBounds_toArray,List.set_cons_zero,List.set_cons_succ,List.getElem_toArray,List.getElem_cons_zero]
  refine wpAnyH_take (i:=1) (v:=?vx121_1) rfl (by kernel_rfl) (by kernel_rfl) (by kernel_rfl) (fun _ _ _ h => h) (Or.inl ⟨by rfl,?hyx121_1⟩) (by assumption) ?restx121_1
  case hyx121_1 => (intro w hSw; have F:=Ok.sees hSw; clear hSw; simp only [sees,kBlk,cellsAt,Nat.reduceAdd] at F; go_simp; try with_reducible rfl)
  try simp only [Act.put,List.setIfInBounds_toArray,List.set_cons_zero,List.set_cons_succ,List.getElem_toArray,List.getElem_cons_succ,List.getElem_cons_zero]
  refine wpAnyH_take (i:=2) (v:=?vx122_2) rfl (by kernel_rfl) (by kernel_rfl) (by kernel_rfl) (fun _ _ _ h => h) (Or.inl ⟨by rfl,?hyx122_2⟩) (by assumption) ?restx122_2
  case hyx122_2 => (intro w hSw; have F:=Ok.sees hSw; clear hSw; simp only [sees,kBlk,cellsAt,Nat.reduceAdd] at F; go_simp; try with_reducible rfl)
  try simp only [Act.put,List.setIfInBounds_toArray,List.set_cons_zero,List.set_cons_succ,List.getElem_toArray,List.getElem_cons_succ,List.getElem_cons_zero]
  refine wpAnyH_take (i:=3) (v:=?vx123_3) rfl (by kernel_rfl) (by kernel_rfl) (by kernel_rfl) (fun _ _ _ h => h) (Or.inl ⟨by rfl,?hyx123_3⟩) (by assumption) ?restx123_3
  case hyx123_3 => (intro w hSw; have F:=Ok.sees hSw; clear hSw; simp only [sees,kBlk,cellsAt,Nat.reduceAdd] at F; go_simp; try with_reducible rfl)
  try simp only [Act.put,List.setIfInBounds_toArray,List.set_cons_zero,List.set_cons_succ,List.getElem_toArray,List.getElem_cons_succ,List.getElem_cons_zero]
  refine wpAnyH_take (i:=4) (v:=?vx124_4) rfl (by kernel_rfl) (by kernel_rfl) (by kernel_rfl) (fun _ _ _ h => h) (Or.inl ⟨by rfl,?hyx124_4⟩) (by assumption) ?restx124_4
  case hyx124_4 => (intro w hSw; have F:=Ok.sees hSw; clear hSw; simp only [sees,kBlk,cellsAt,Nat.reduceAdd] at F; go_simp; try with_reducible rfl)
  try simp only [Act.put,List.setIfInBounds_toArray,List.set_cons_zero,List.set_cons_succ,List.getElem_toArray,List.getElem_cons_succ,List.getElem_cons_zero]
  refine wpAnyH_take (i:=5) (v:=?vx125_5) rfl (by kernel_rfl) (by kernel_rfl) (by kernel_rfl) (fun _ _ _ h => h) (Or.inl ⟨by rfl,?hyx125_5⟩) (by assumption) ?restx125_5
  case hyx125_5 => (intro w hSw; have F:=Ok.sees hSw; clear hSw; simp only [sees,kBlk,cellsAt,Nat.reduceAdd] at F; go_simp; try with_reducible rfl)
  try simp only [Act.put,List.setIfInBounds_toArray,List.set_cons_zero,List.set_cons_succ,List.getElem_toArray,List.getElem_cons_succ,List.getElem_cons_zero]
  refine wpAnyH_take (i:=6) (v:=?vx126_6) rfl (by kernel_rfl) (by kernel_rfl) (by kernel_rfl) (fun _ _ _ h => h) (Or.inl ⟨by rfl,?hyx126_6⟩) (by assumption) ?restx126_6
  case hyx126_6 => (intro w hSw; have F:=Ok.sees hSw; clear hSw; simp only [sees,kBlk,cellsAt,Nat.reduceAdd] at F; go_simp; try with_reducible rfl)
  try simp only [Act.put,List.setIfInBounds_toArray,List.set_cons_zero,List.set_cons_succ,List.getElem_toArray,List.getElem_cons_succ,List.getElem_cons_zero]
  refine wpAnyH_take (i:=7) (v:=?vx127_7) rfl (by kernel_rfl) (by kernel_rfl) (by kernel_rfl) (fun _ _ _ h => h) (Or.inl ⟨by rfl,?hyx127_7⟩) (by assumption) ?restx127_7
  case hyx127_7 => (intro w hSw; have F:=Ok.sees hSw; clear hSw; simp only [sees,kBlk,cellsAt,Nat.reduceAdd] at F; go_simp; try with_reducible rfl)
  try simp only [Act.put,List.setIfInBounds_toArray,List.set_cons_zero,List.set_cons_succ,List.getElem_toArray,List.getElem_cons_succ,List.getElem_cons_zero]
  refine wpAnyH_take (i:=8) (v:=?vx128_8) rfl (by kernel_rfl) (by kernel_rfl) (by kernel_rfl) (fun _ _ _ h => h) (Or.inl ⟨by rfl,?hyx128_8⟩) (by assumption) ?restx128_8
  case hyx128_8 => (intro w hSw; have F:=Ok.sees hSw; clear hSw; simp only [sees,kBlk,cellsAt,Nat.reduceAdd] at F; go_simp; try with_reducible rfl)
  try simp only [Act.put,List.setIfInBounds_toArray,List.set_cons_zero,List.set_cons_succ,List.getElem_toArray,List.getElem_cons_succ,List.getElem_cons_zero]
  refine wpAnyH_take (i:=9) (v:=?vx129_9) rfl (by kernel_rfl) (by kernel_rfl) (by kernel_rfl) (fun _ _ _ h => h) (Or.inl ⟨by rfl,?hyx129_9⟩) (by assumption) ?restx129_9
  case hyx129_9 => (intro w hSw; have F:=Ok.sees hSw; clear hSw; simp only [sees,kBlk,cellsAt,Nat.reduceAdd] at F; go_simp; try with_reducible rfl)
  try simp only [Act.put,List.setIfInBounds_toArray,List.set_cons_zero,List.set_cons_succ,List.getElem_toArray,List.getElem_cons_succ,List.getElem_cons_zero]
  refine wpAnyH_take (i:=10) (v:=?vx130_10) rfl (by kernel_rfl) (by kernel_rfl) (by kernel_rfl) (fun _ _ _ h => h) (Or.inl ⟨by rfl,?hyx130_10⟩) (by assumption) ?restx130_10
  case hyx130_10 => (intro w hSw; have F:=Ok.sees hSw; clear hSw; simp only [sees,kBlk,cellsAt,Nat.reduceAdd] at F; go_simp; try with_reducible rfl)
  try simp only [Act.put,List.setIfInBounds_toArray,List.set_cons_zero,List.set_cons_succ,List.getElem_toArray,List.getElem_cons_succ,List.getElem_cons_zero]
  refine wpAnyH_ready (rs:=[11]) (by kernel_rfl) (by simp) ?_
  refine AllReadyH.cons rfl (fun K hK => ?_) AllReadyH.nil
  go_simp
  refine (HPV.out _).mono ?_
  rintro e w5 ⟨rfl,hb6⟩
  go_wp2_with fail
  refine hK.out _ _ (hHeld.below hb6) (fun hHeld => ?_)
  clear hK K
  try simp only [Act.put,List.setIfInBounds_toArray,List.set_cons_zero,List.set_cons_succ,List.getElem_toArray,List.getElem_cons_succ,List.getElem_cons_zero]
  refine wpAnyH_take (i:=12) (v:=?vx131_12) rfl (by kernel_rfl) (by kernel_rfl) (by kernel_rfl) (fun _ _ _ h => h) (Or.inl ⟨by rfl,?hyx131_12⟩) (by assumption) ?restx131_12
  case hyx131_12 => (intro w hSw; have F:=Ok.sees hSw; clear hSw; simp only [sees,kBlk,cellsAt,Nat.reduceAdd] at F; go_simp; try with_reducible rfl)
  try simp only [Act.put,List.setIfInBounds_toArray,List.set_cons_zero,List.set_cons_succ,List.getElem_toArray,List.getElem_cons_succ,List.getElem_cons_zero]
  refine wpAnyH_take (i:=13) (v:=?vx132_13) rfl (by kernel_rfl) (by kernel_rfl) (by kernel_rfl) (fun _ _ _ h => h) (Or.inl ⟨by rfl,?hyx132_13⟩) (by assumption) ?restx132_13
  case hyx132_13 => (intro w hSw; have F:=Ok.sees hSw; clear hSw; simp only [sees,kBlk,cellsAt,Nat.reduceAdd] at F; go_simp; try with_reducible rfl)
  try simp only [Act.put,List.setIfInBounds_toArray,List.set_cons_zero,List.set_cons_succ,List.getElem_toArray,List.getElem_cons_succ,List.getElem_cons_zero]
  refine wpAnyH_done (by kernel_rfl) ?_ _
  clear z0 c0_0 c0_1 c0_2 c0_3 c0_4 c0_5 c0_6 c0_7 c0_8 c0_9 c0_10 c0_11 c0_12
  clear H1
  have H7:=Lib.hid hHeld
  clear hHeld
  have F8:=H7.out.sees
  simp only [sees,kBlk,cellsAt,Nat.reduceAdd] at F8
  obtain ⟨⟨z0,c0_0,c0_1,c0_2,c0_3,c0_4,c0_5,c0_6,c0_7,c0_8,c0_9,c0_10,c0_11,c0_12,-⟩,-⟩:=F8
  go_wp2_with fail
  refine (glyph_Check ⟨inp.toArray⟩ _ hs).mono ?_
  rintro e w9 ⟨rfl,hb10⟩
  clear z0 c0_0 c0_1 c0_2 c0_3 c0_4 c0_5 c0_6 c0_7 c0_8 c0_9 c0_10 c0_11 c0_12
  have H11:=Lib.hid (H7.out.below hb10)
  clear hb10 H7
  rw [show (⟨inp.toArray⟩ : ByteArray).data.toList = inp from rfl]
  rw [HC.out]
  go_wp2_with fail
  go_ret
  exact ⟨rfl,H11.out.bel⟩
set_option maxRecDepth 100000 in
set_option maxHeartbeats 4000000 in
theorem check_6_bad (u x1 y1 : Int) (inp : List UInt8) (a b c f t : Nat) (n : Int) (hs : inp.length ≤ 4611686018427387904) (hc : ¬ checkT inp = 0) (HP : ∀ w : World,Calls Tryz.prog 17 #[.agg #[.int .u8 6,.int .i64 u,.int .i64 x1,.int .i64 y1,.int .i64 x1,.int .i64 y1,.string ⟨inp.toArray⟩,.int .u64 (a : Nat),.int .u64 (b : Nat),.int .u64 (c : Nat),.int .u8 (f : Nat),.int .u64 (t : Nat),.int .i64 n]] w fun e w' => e = .returned (.agg #[.int .u8 6,.int .i64 u,.int .i64 x1,.int .i64 y1,.int .i64 x1,.int .i64 y1,.string ⟨inp.toArray⟩,.int .u64 (a : Nat),.int .u64 (b : Nat),.int .u64 (c : Nat),.int .u8 (f : Nat),.int .u64 (t : Nat),.int .i64 n]) ∧ Below w.heap.size w w') (w : World) :
    Calls Tryz.prog 13 #[.agg #[.int .u8 6,.int .i64 u,.int .i64 x1,.int .i64 y1,.int .i64 x1,.int .i64 y1,.string ⟨inp.toArray⟩,.int .u64 (a : Nat),.int .u64 (b : Nat),.int .u64 (c : Nat),.int .u8 (f : Nat),.int .u64 (t : Nat),.int .i64 n]] w fun e w' => e = .returned (.int .i64 4) ∧ Below w.heap.size w w':=by
  have HPV:=keep HP
  clear HP
  have HC:=keep hc
  clear hc
  have H1:=Lib.hid ((Ok.start w).alloc w.heap.size 28 [.int .u8 6,.int .i64 u,.int .i64 x1,.int .i64 y1,.int .i64 x1,.int .i64 y1,.string ⟨inp.toArray⟩,.int .u64 (a : Nat),.int .u64 (b : Nat),.int .u64 (c : Nat),.int .u8 (f : Nat),.int .u64 (t : Nat),.int .i64 n] rfl)
  go_enter Tryz.func13,Tryz.ntmps13
  go_upto_region 1 with fail
  generalize (w.alloc (.cells #[.int .u8 6,.int .i64 u,.int .i64 x1,.int .i64 y1,.int .i64 x1,.int .i64 y1,.string ⟨inp.toArray⟩,.int .u64 (a : Nat),.int .u64 (b : Nat),.int .u64 (c : Nat),.int .u8 (f : Nat),.int .u64 (t : Nat),.int .i64 n] 28)) = W2 at H1 ⊢
  have F3:=H1.out.sees
  simp only [sees,kBlk,cellsAt,Nat.reduceAdd] at F3
  obtain ⟨⟨z0,c0_0,c0_1,c0_2,c0_3,c0_4,c0_5,c0_6,c0_7,c0_8,c0_9,c0_10,c0_11,c0_12,-⟩,-⟩:=F3
  refine wp_region_held_drew (S:=fun W => Ok w [kBlk (w.heap.size) 28 [.int .u8 6,.int .i64 u,.int .i64 x1,.int .i64 y1,.int .i64 x1,.int .i64 y1,.string ⟨inp.toArray⟩,.int .u64 (a : Nat),.int .u64 (b : Nat),.int .u64 (c : Nat),.int .u8 (f : Nat),.int .u64 (t : Nat),.int .i64 n]] W) (by kernel_rfl) H1.out.drew (fun hHeld => ?_)
  refine wpAnyH_take (i:=0) (v:=?vx133_0) rfl (by kernel_rfl) (by kernel_rfl) (by kernel_rfl) (fun _ _ _ h => h) (Or.inl ⟨by rfl,?hyx133_0⟩) (by assumption) ?restx133_0
  case hyx133_0 => (intro w hSw; have F:=Ok.sees hSw; clear hSw; simp only [sees,kBlk,cellsAt,Nat.reduceAdd] at F; go_simp; try with_reducible rfl)
  try simp only [Act.put,List.setIfInBounds_toArray,List.set_cons_zero,List.set_cons_succ,List.getElem_toArray,List.getElem_cons_zero]
  refine wpAnyH_take (i:=1) (v:=?vx134_1) rfl (by kernel_rfl) (by kernel_rfl) (by kernel_rfl) (fun _ _ _ h => h) (Or.inl ⟨by rfl,?hyx134_1⟩) (by assumption) ?restx134_1
  case hyx134_1 => (intro w hSw; have F:=Ok.sees hSw; clear hSw; simp only [sees,kBlk,cellsAt,Nat.reduceAdd] at F; go_simp; try with_reducible rfl)
  try simp only [Act.put,List.setIfInBounds_toArray,List.set_cons_zero,List.set_cons_succ,List.getElem_toArray,List.getElem_cons_succ,List.getElem_cons_zero]
  refine wpAnyH_take (i:=2) (v:=?vx135_2) rfl (by kernel_rfl) (by kernel_rfl) (by kernel_rfl) (fun _ _ _ h => h) (Or.inl ⟨by rfl,?hyx135_2⟩) (by assumption) ?restx135_2
  case hyx135_2 => (intro w hSw; have F:=Ok.sees hSw; clear hSw; simp only [sees,kBlk,cellsAt,Nat.reduceAdd] at F; go_simp; try with_reducible rfl)
  try simp only [Act.put,List.setIfInBounds_toArray,List.set_cons_zero,List.set_cons_succ,List.getElem_toArray,List.getElem_cons_succ,List.getElem_cons_zero]
  refine wpAnyH_take (i:=3) (v:=?vx136_3) rfl (by kernel_rfl) (by kernel_rfl) (by kernel_rfl) (fun _ _ _ h => h) (Or.inl ⟨by rfl,?hyx136_3⟩) (by assumption) ?restx136_3
  case hyx136_3 => (intro w hSw; have F:=Ok.sees hSw; clear hSw; simp only [sees,kBlk,cellsAt,Nat.reduceAdd] at F; go_simp; try with_reducible rfl)
  try simp only [Act.put,List.setIfInBounds_toArray,List.set_cons_zero,List.set_cons_succ,List.getElem_toArray,List.getElem_cons_succ,List.getElem_cons_zero]
  refine wpAnyH_take (i:=4) (v:=?vx137_4) rfl (by kernel_rfl) (by kernel_rfl) (by kernel_rfl) (fun _ _ _ h => h) (Or.inl ⟨by rfl,?hyx137_4⟩) (by assumption) ?restx137_4
  case hyx137_4 => (intro w hSw; have F:=Ok.sees hSw; clear hSw; simp only [sees,kBlk,cellsAt,Nat.reduceAdd] at F; go_simp; try with_reducible rfl)
  try simp only [Act.put,List.setIfInBounds_toArray,List.set_cons_zero,List.set_cons_succ,List.getElem_toArray,List.getElem_cons_succ,List.getElem_cons_zero]
  refine wpAnyH_take (i:=5) (v:=?vx138_5) rfl (by kernel_rfl) (by kernel_rfl) (by kernel_rfl) (fun _ _ _ h => h) (Or.inl ⟨by rfl,?hyx138_5⟩) (by assumption) ?restx138_5
  case hyx138_5 => (intro w hSw; have F:=Ok.sees hSw; clear hSw; simp only [sees,kBlk,cellsAt,Nat.reduceAdd] at F; go_simp; try with_reducible rfl)
  try simp only [Act.put,List.setIfInBounds_toArray,List.set_cons_zero,List.set_cons_succ,List.getElem_toArray,List.getElem_cons_succ,List.getElem_cons_zero]
  refine wpAnyH_take (i:=6) (v:=?vx139_6) rfl (by kernel_rfl) (by kernel_rfl) (by kernel_rfl) (fun _ _ _ h => h) (Or.inl ⟨by rfl,?hyx139_6⟩) (by assumption) ?restx139_6
  case hyx139_6 => (intro w hSw; have F:=Ok.sees hSw; clear hSw; simp only [sees,kBlk,cellsAt,Nat.reduceAdd] at F; go_simp; try with_reducible rfl)
  try simp only [Act.put,List.setIfInBounds_toArray,List.set_cons_zero,List.set_cons_succ,List.getElem_toArray,List.getElem_cons_succ,List.getElem_cons_zero]
  refine wpAnyH_take (i:=7) (v:=?vx140_7) rfl (by kernel_rfl) (by kernel_rfl) (by kernel_rfl) (fun _ _ _ h => h) (Or.inl ⟨by rfl,?hyx140_7⟩) (by assumption) ?restx140_7
  case hyx140_7 => (intro w hSw; have F:=Ok.sees hSw; clear hSw; simp only [sees,kBlk,cellsAt,Nat.reduceAdd] at F; go_simp; try with_reducible rfl)
  try simp only [Act.put,List.setIfInBounds_toArray,List.set_cons_zero,List.set_cons_succ,List.getElem_toArray,List.getElem_cons_succ,List.getElem_cons_zero]
  refine wpAnyH_take (i:=8) (v:=?vx141_8) rfl (by kernel_rfl) (by kernel_rfl) (by kernel_rfl) (fun _ _ _ h => h) (Or.inl ⟨by rfl,?hyx141_8⟩) (by assumption) ?restx141_8
  case hyx141_8 => (intro w hSw; have F:=Ok.sees hSw; clear hSw; simp only [sees,kBlk,cellsAt,Nat.reduceAdd] at F; go_simp; try with_reducible rfl)
  try simp only [Act.put,List.setIfInBounds_toArray,List.set_cons_zero,List.set_cons_succ,List.getElem_toArray,List.getElem_cons_succ,List.getElem_cons_zero]
  refine wpAnyH_take (i:=9) (v:=?vx142_9) rfl (by kernel_rfl) (by kernel_rfl) (by kernel_rfl) (fun _ _ _ h => h) (Or.inl ⟨by rfl,?hyx142_9⟩) (by assumption) ?restx142_9
  case hyx142_9 => (intro w hSw; have F:=Ok.sees hSw; clear hSw; simp only [sees,kBlk,cellsAt,Nat.reduceAdd] at F; go_simp; try with_reducible rfl)
  try simp only [Act.put,List.setIfInBounds_toArray,List.set_cons_zero,List.set_cons_succ,List.getElem_toArray,List.getElem_cons_succ,List.getElem_cons_zero]
  refine wpAnyH_take (i:=10) (v:=?vx143_10) rfl (by kernel_rfl) (by kernel_rfl) (by kernel_rfl) (fun _ _ _ h => h) (Or.inl ⟨by rfl,?hyx143_10⟩) (by assumption) ?restx143_10
  case hyx143_10 => (intro w hSw; have F:=Ok.sees hSw; clear hSw; simp only [sees,kBlk,cellsAt,Nat.reduceAdd] at F; go_simp; try with_reducible rfl)
  try simp only [Act.put,List.setIfInBounds_toArray,List.set_cons_zero,List.set_cons_succ,List.getElem_toArray,List.getElem_cons_succ,List.getElem_cons_zero]
  refine wpAnyH_ready (rs:=[11]) (by kernel_rfl) (by simp) ?_
  refine AllReadyH.cons rfl (fun K hK => ?_) AllReadyH.nil
  go_simp
  refine (HPV.out _).mono ?_
  rintro e w5 ⟨rfl,hb6⟩
  go_wp2_with fail
  refine hK.out _ _ (hHeld.below hb6) (fun hHeld => ?_)
  clear hK K
  try simp only [Act.put,List.setIfInBounds_toArray,List.set_cons_zero,List.set_cons_succ,List.getElem_toArray,List.getElem_cons_succ,List.getElem_cons_zero]
  refine wpAnyH_take (i:=12) (v:=?vx144_12) rfl (by kernel_rfl) (by kernel_rfl) (by kernel_rfl) (fun _ _ _ h => h) (Or.inl ⟨by rfl,?hyx144_12⟩) (by assumption) ?restx144_12
  case hyx144_12 => (intro w hSw; have F:=Ok.sees hSw; clear hSw; simp only [sees,kBlk,cellsAt,Nat.reduceAdd] at F; go_simp; try with_reducible rfl)
  try simp only [Act.put,List.setIfInBounds_toArray,List.set_cons_zero,List.set_cons_succ,List.getElem_toArray,List.getElem_cons_succ,List.getElem_cons_zero]
  refine wpAnyH_take (i:=13) (v:=?vx145_13) rfl (by kernel_rfl) (by kernel_rfl) (by kernel_rfl) (fun _ _ _ h => h) (Or.inl ⟨by rfl,?hyx145_13⟩) (by assumption) ?restx145_13
  case hyx145_13 => (intro w hSw; have F:=Ok.sees hSw; clear hSw; simp only [sees,kBlk,cellsAt,Nat.reduceAdd] at F; go_simp; try with_reducible rfl)
  try simp only [Act.put,List.setIfInBounds_toArray,List.set_cons_zero,List.set_cons_succ,List.getElem_toArray,List.getElem_cons_succ,List.getElem_cons_zero]
  refine wpAnyH_done (by kernel_rfl) ?_ _
  clear z0 c0_0 c0_1 c0_2 c0_3 c0_4 c0_5 c0_6 c0_7 c0_8 c0_9 c0_10 c0_11 c0_12
  clear H1
  have H7:=Lib.hid hHeld
  clear hHeld
  have F8:=H7.out.sees
  simp only [sees,kBlk,cellsAt,Nat.reduceAdd] at F8
  obtain ⟨⟨z0,c0_0,c0_1,c0_2,c0_3,c0_4,c0_5,c0_6,c0_7,c0_8,c0_9,c0_10,c0_11,c0_12,-⟩,-⟩:=F8
  go_wp2_with fail
  refine (glyph_Check ⟨inp.toArray⟩ _ hs).mono ?_
  rintro e w9 ⟨rfl,hb10⟩
  clear z0 c0_0 c0_1 c0_2 c0_3 c0_4 c0_5 c0_6 c0_7 c0_8 c0_9 c0_10 c0_11 c0_12
  have H11:=Lib.hid (H7.out.below hb10)
  clear hb10 H7
  rw [show (⟨inp.toArray⟩ : ByteArray).data.toList = inp from rfl]
  obtain ⟨z,hz⟩ : ∃ z,checkT inp = z:=⟨_,rfl⟩
  have hz0 : (z != 0) = true:=by have:=HC.out; rw [hz] at this; simpa using this
  rw [hz]
  clear hz
  go_wp2_with fail
  go_ret
  exact ⟨rfl,H11.out.bel⟩
set_option maxRecDepth 100000 in
set_option maxHeartbeats 4000000 in
theorem check_8_lo (u x1 y1 x2 y2 : Int) (inp : List UInt8) (a b c f t : Nat) (n : Int) (h1 : f < 1) (HP : ∀ w : World,Calls Tryz.prog 17 #[.agg #[.int .u8 8,.int .i64 u,.int .i64 x1,.int .i64 y1,.int .i64 x2,.int .i64 y2,.string ⟨inp.toArray⟩,.int .u64 (a : Nat),.int .u64 (b : Nat),.int .u64 (c : Nat),.int .u8 (f : Nat),.int .u64 (t : Nat),.int .i64 n]] w fun e w' => e = .returned (.agg #[.int .u8 8,.int .i64 u,.int .i64 x1,.int .i64 y1,.int .i64 x2,.int .i64 y2,.string ⟨inp.toArray⟩,.int .u64 (a : Nat),.int .u64 (b : Nat),.int .u64 (c : Nat),.int .u8 (f : Nat),.int .u64 (t : Nat),.int .i64 n]) ∧ Below w.heap.size w w') (w : World) :
    Calls Tryz.prog 13 #[.agg #[.int .u8 8,.int .i64 u,.int .i64 x1,.int .i64 y1,.int .i64 x2,.int .i64 y2,.string ⟨inp.toArray⟩,.int .u64 (a : Nat),.int .u64 (b : Nat),.int .u64 (c : Nat),.int .u8 (f : Nat),.int .u64 (t : Nat),.int .i64 n]] w fun e w' => e = .returned (.int .i64 4) ∧ Below w.heap.size w w':=by
  have HPV:=keep HP
  clear HP
  have e1 : (f : Int) < 1:=by omega
  have H1:=Lib.hid ((Ok.start w).alloc w.heap.size 28 [.int .u8 8,.int .i64 u,.int .i64 x1,.int .i64 y1,.int .i64 x2,.int .i64 y2,.string ⟨inp.toArray⟩,.int .u64 (a : Nat),.int .u64 (b : Nat),.int .u64 (c : Nat),.int .u8 (f : Nat),.int .u64 (t : Nat),.int .i64 n] rfl)
  go_enter Tryz.func13,Tryz.ntmps13
  go_upto_region 1 with fail
  generalize (w.alloc (.cells #[.int .u8 8,.int .i64 u,.int .i64 x1,.int .i64 y1,.int .i64 x2,.int .i64 y2,.string ⟨inp.toArray⟩,.int .u64 (a : Nat),.int .u64 (b : Nat),.int .u64 (c : Nat),.int .u8 (f : Nat),.int .u64 (t : Nat),.int .i64 n] 28)) = W2 at H1 ⊢
  have F3:=H1.out.sees
  simp only [sees,kBlk,cellsAt,Nat.reduceAdd] at F3
  obtain ⟨⟨z0,c0_0,c0_1,c0_2,c0_3,c0_4,c0_5,c0_6,c0_7,c0_8,c0_9,c0_10,c0_11,c0_12,-⟩,-⟩:=F3
  refine wp_region_held_drew (S:=fun W => Ok w [kBlk (w.heap.size) 28 [.int .u8 8,.int .i64 u,.int .i64 x1,.int .i64 y1,.int .i64 x2,.int .i64 y2,.string ⟨inp.toArray⟩,.int .u64 (a : Nat),.int .u64 (b : Nat),.int .u64 (c : Nat),.int .u8 (f : Nat),.int .u64 (t : Nat),.int .i64 n]] W) (by kernel_rfl) H1.out.drew (fun hHeld => ?_)
  refine wpAnyH_take (i:=0) (v:=?vx146_0) rfl (by kernel_rfl) (by kernel_rfl) (by kernel_rfl) (fun _ _ _ h => h) (Or.inl ⟨by rfl,?hyx146_0⟩) (by assumption) ?restx146_0
  case hyx146_0 => (intro w hSw; have F:=Ok.sees hSw; clear hSw; simp only [sees,kBlk,cellsAt,Nat.reduceAdd] at F; go_simp; try with_reducible rfl)
  try simp only [Act.put,List.setIfInBounds_toArray,List.set_cons_zero,List.set_cons_succ,List.getElem_toArray,List.getElem_cons_zero]
  refine wpAnyH_take (i:=1) (v:=?vx147_1) rfl (by kernel_rfl) (by kernel_rfl) (by kernel_rfl) (fun _ _ _ h => h) (Or.inl ⟨by rfl,?hyx147_1⟩) (by assumption) ?restx147_1
  case hyx147_1 => (intro w hSw; have F:=Ok.sees hSw; clear hSw; simp only [sees,kBlk,cellsAt,Nat.reduceAdd] at F; go_simp; try with_reducible rfl)
  try simp only [Act.put,List.setIfInBounds_toArray,List.set_cons_zero,List.set_cons_succ,List.getElem_toArray,List.getElem_cons_succ,List.getElem_cons_zero]
  refine wpAnyH_take (i:=2) (v:=?vx148_2) rfl (by kernel_rfl) (by kernel_rfl) (by kernel_rfl) (fun _ _ _ h => h) (Or.inl ⟨by rfl,?hyx148_2⟩) (by assumption) ?restx148_2
  case hyx148_2 => (intro w hSw; have F:=Ok.sees hSw; clear hSw; simp only [sees,kBlk,cellsAt,Nat.reduceAdd] at F; go_simp; try with_reducible rfl)
  try simp only [Act.put,List.setIfInBounds_toArray,List.set_cons_zero,List.set_cons_succ,List.getElem_toArray,List.getElem_cons_succ,List.getElem_cons_zero]
  refine wpAnyH_take (i:=3) (v:=?vx149_3) rfl (by kernel_rfl) (by kernel_rfl) (by kernel_rfl) (fun _ _ _ h => h) (Or.inl ⟨by rfl,?hyx149_3⟩) (by assumption) ?restx149_3
  case hyx149_3 => (intro w hSw; have F:=Ok.sees hSw; clear hSw; simp only [sees,kBlk,cellsAt,Nat.reduceAdd] at F; go_simp; try with_reducible rfl)
  try simp only [Act.put,List.setIfInBounds_toArray,List.set_cons_zero,List.set_cons_succ,List.getElem_toArray,List.getElem_cons_succ,List.getElem_cons_zero]
  refine wpAnyH_take (i:=4) (v:=?vx150_4) rfl (by kernel_rfl) (by kernel_rfl) (by kernel_rfl) (fun _ _ _ h => h) (Or.inl ⟨by rfl,?hyx150_4⟩) (by assumption) ?restx150_4
  case hyx150_4 => (intro w hSw; have F:=Ok.sees hSw; clear hSw; simp only [sees,kBlk,cellsAt,Nat.reduceAdd] at F; go_simp; try with_reducible rfl)
  try simp only [Act.put,List.setIfInBounds_toArray,List.set_cons_zero,List.set_cons_succ,List.getElem_toArray,List.getElem_cons_succ,List.getElem_cons_zero]
  refine wpAnyH_take (i:=5) (v:=?vx151_5) rfl (by kernel_rfl) (by kernel_rfl) (by kernel_rfl) (fun _ _ _ h => h) (Or.inl ⟨by rfl,?hyx151_5⟩) (by assumption) ?restx151_5
  case hyx151_5 => (intro w hSw; have F:=Ok.sees hSw; clear hSw; simp only [sees,kBlk,cellsAt,Nat.reduceAdd] at F; go_simp; try with_reducible rfl)
  try simp only [Act.put,List.setIfInBounds_toArray,List.set_cons_zero,List.set_cons_succ,List.getElem_toArray,List.getElem_cons_succ,List.getElem_cons_zero]
  refine wpAnyH_take (i:=6) (v:=?vx152_6) rfl (by kernel_rfl) (by kernel_rfl) (by kernel_rfl) (fun _ _ _ h => h) (Or.inl ⟨by rfl,?hyx152_6⟩) (by assumption) ?restx152_6
  case hyx152_6 => (intro w hSw; have F:=Ok.sees hSw; clear hSw; simp only [sees,kBlk,cellsAt,Nat.reduceAdd] at F; go_simp; try with_reducible rfl)
  try simp only [Act.put,List.setIfInBounds_toArray,List.set_cons_zero,List.set_cons_succ,List.getElem_toArray,List.getElem_cons_succ,List.getElem_cons_zero]
  refine wpAnyH_take (i:=7) (v:=?vx153_7) rfl (by kernel_rfl) (by kernel_rfl) (by kernel_rfl) (fun _ _ _ h => h) (Or.inl ⟨by rfl,?hyx153_7⟩) (by assumption) ?restx153_7
  case hyx153_7 => (intro w hSw; have F:=Ok.sees hSw; clear hSw; simp only [sees,kBlk,cellsAt,Nat.reduceAdd] at F; go_simp; try with_reducible rfl)
  try simp only [Act.put,List.setIfInBounds_toArray,List.set_cons_zero,List.set_cons_succ,List.getElem_toArray,List.getElem_cons_succ,List.getElem_cons_zero]
  refine wpAnyH_take (i:=8) (v:=?vx154_8) rfl (by kernel_rfl) (by kernel_rfl) (by kernel_rfl) (fun _ _ _ h => h) (Or.inl ⟨by rfl,?hyx154_8⟩) (by assumption) ?restx154_8
  case hyx154_8 => (intro w hSw; have F:=Ok.sees hSw; clear hSw; simp only [sees,kBlk,cellsAt,Nat.reduceAdd] at F; go_simp; try with_reducible rfl)
  try simp only [Act.put,List.setIfInBounds_toArray,List.set_cons_zero,List.set_cons_succ,List.getElem_toArray,List.getElem_cons_succ,List.getElem_cons_zero]
  refine wpAnyH_take (i:=9) (v:=?vx155_9) rfl (by kernel_rfl) (by kernel_rfl) (by kernel_rfl) (fun _ _ _ h => h) (Or.inl ⟨by rfl,?hyx155_9⟩) (by assumption) ?restx155_9
  case hyx155_9 => (intro w hSw; have F:=Ok.sees hSw; clear hSw; simp only [sees,kBlk,cellsAt,Nat.reduceAdd] at F; go_simp; try with_reducible rfl)
  try simp only [Act.put,List.setIfInBounds_toArray,List.set_cons_zero,List.set_cons_succ,List.getElem_toArray,List.getElem_cons_succ,List.getElem_cons_zero]
  refine wpAnyH_take (i:=10) (v:=?vx156_10) rfl (by kernel_rfl) (by kernel_rfl) (by kernel_rfl) (fun _ _ _ h => h) (Or.inl ⟨by rfl,?hyx156_10⟩) (by assumption) ?restx156_10
  case hyx156_10 => (intro w hSw; have F:=Ok.sees hSw; clear hSw; simp only [sees,kBlk,cellsAt,Nat.reduceAdd] at F; go_simp; try with_reducible rfl)
  try simp only [Act.put,List.setIfInBounds_toArray,List.set_cons_zero,List.set_cons_succ,List.getElem_toArray,List.getElem_cons_succ,List.getElem_cons_zero]
  refine wpAnyH_ready (rs:=[11]) (by kernel_rfl) (by simp) ?_
  refine AllReadyH.cons rfl (fun K hK => ?_) AllReadyH.nil
  go_simp
  refine (HPV.out _).mono ?_
  rintro e w5 ⟨rfl,hb6⟩
  go_wp2_with fail
  refine hK.out _ _ (hHeld.below hb6) (fun hHeld => ?_)
  clear hK K
  try simp only [Act.put,List.setIfInBounds_toArray,List.set_cons_zero,List.set_cons_succ,List.getElem_toArray,List.getElem_cons_succ,List.getElem_cons_zero]
  refine wpAnyH_take (i:=12) (v:=?vx157_12) rfl (by kernel_rfl) (by kernel_rfl) (by kernel_rfl) (fun _ _ _ h => h) (Or.inl ⟨by rfl,?hyx157_12⟩) (by assumption) ?restx157_12
  case hyx157_12 => (intro w hSw; have F:=Ok.sees hSw; clear hSw; simp only [sees,kBlk,cellsAt,Nat.reduceAdd] at F; go_simp; try with_reducible rfl)
  try simp only [Act.put,List.setIfInBounds_toArray,List.set_cons_zero,List.set_cons_succ,List.getElem_toArray,List.getElem_cons_succ,List.getElem_cons_zero]
  refine wpAnyH_take (i:=13) (v:=?vx158_13) rfl (by kernel_rfl) (by kernel_rfl) (by kernel_rfl) (fun _ _ _ h => h) (Or.inl ⟨by rfl,?hyx158_13⟩) (by assumption) ?restx158_13
  case hyx158_13 => (intro w hSw; have F:=Ok.sees hSw; clear hSw; simp only [sees,kBlk,cellsAt,Nat.reduceAdd] at F; go_simp; try with_reducible rfl)
  try simp only [Act.put,List.setIfInBounds_toArray,List.set_cons_zero,List.set_cons_succ,List.getElem_toArray,List.getElem_cons_succ,List.getElem_cons_zero]
  refine wpAnyH_done (by kernel_rfl) ?_ _
  clear z0 c0_0 c0_1 c0_2 c0_3 c0_4 c0_5 c0_6 c0_7 c0_8 c0_9 c0_10 c0_11 c0_12
  clear H1
  have H7:=Lib.hid hHeld
  clear hHeld
  have F8:=H7.out.sees
  simp only [sees,kBlk,cellsAt,Nat.reduceAdd] at F8
  obtain ⟨⟨z0,c0_0,c0_1,c0_2,c0_3,c0_4,c0_5,c0_6,c0_7,c0_8,c0_9,c0_10,c0_11,c0_12,-⟩,-⟩:=F8
  go_wp2_with fail
  all_goals go_ret
  all_goals exact ⟨rfl,H7.out.bel⟩
set_option maxRecDepth 100000 in
set_option maxHeartbeats 4000000 in
theorem check_8_hi (u x1 y1 x2 y2 : Int) (inp : List UInt8) (a b c f t : Nat) (n : Int) (h1 : 31 < f) (HP : ∀ w : World,Calls Tryz.prog 17 #[.agg #[.int .u8 8,.int .i64 u,.int .i64 x1,.int .i64 y1,.int .i64 x2,.int .i64 y2,.string ⟨inp.toArray⟩,.int .u64 (a : Nat),.int .u64 (b : Nat),.int .u64 (c : Nat),.int .u8 (f : Nat),.int .u64 (t : Nat),.int .i64 n]] w fun e w' => e = .returned (.agg #[.int .u8 8,.int .i64 u,.int .i64 x1,.int .i64 y1,.int .i64 x2,.int .i64 y2,.string ⟨inp.toArray⟩,.int .u64 (a : Nat),.int .u64 (b : Nat),.int .u64 (c : Nat),.int .u8 (f : Nat),.int .u64 (t : Nat),.int .i64 n]) ∧ Below w.heap.size w w') (w : World) :
    Calls Tryz.prog 13 #[.agg #[.int .u8 8,.int .i64 u,.int .i64 x1,.int .i64 y1,.int .i64 x2,.int .i64 y2,.string ⟨inp.toArray⟩,.int .u64 (a : Nat),.int .u64 (b : Nat),.int .u64 (c : Nat),.int .u8 (f : Nat),.int .u64 (t : Nat),.int .i64 n]] w fun e w' => e = .returned (.int .i64 4) ∧ Below w.heap.size w w':=by
  have HPV:=keep HP
  clear HP
  have e1 : ¬ (f : Int) < 1:=by omega
  have e2 : (f : Int) > 31:=by omega
  have H1:=Lib.hid ((Ok.start w).alloc w.heap.size 28 [.int .u8 8,.int .i64 u,.int .i64 x1,.int .i64 y1,.int .i64 x2,.int .i64 y2,.string ⟨inp.toArray⟩,.int .u64 (a : Nat),.int .u64 (b : Nat),.int .u64 (c : Nat),.int .u8 (f : Nat),.int .u64 (t : Nat),.int .i64 n] rfl)
  go_enter Tryz.func13,Tryz.ntmps13
  go_upto_region 1 with fail
  generalize (w.alloc (.cells #[.int .u8 8,.int .i64 u,.int .i64 x1,.int .i64 y1,.int .i64 x2,.int .i64 y2,.string ⟨inp.toArray⟩,.int .u64 (a : Nat),.int .u64 (b : Nat),.int .u64 (c : Nat),.int .u8 (f : Nat),.int .u64 (t : Nat),.int .i64 n] 28)) = W2 at H1 ⊢
  have F3:=H1.out.sees
  simp only [sees,kBlk,cellsAt,Nat.reduceAdd] at F3
  obtain ⟨⟨z0,c0_0,c0_1,c0_2,c0_3,c0_4,c0_5,c0_6,c0_7,c0_8,c0_9,c0_10,c0_11,c0_12,-⟩,-⟩:=F3
  refine wp_region_held_drew (S:=fun W => Ok w [kBlk (w.heap.size) 28 [.int .u8 8,.int .i64 u,.int .i64 x1,.int .i64 y1,.int .i64 x2,.int .i64 y2,.string ⟨inp.toArray⟩,.int .u64 (a : Nat),.int .u64 (b : Nat),.int .u64 (c : Nat),.int .u8 (f : Nat),.int .u64 (t : Nat),.int .i64 n]] W) (by kernel_rfl) H1.out.drew (fun hHeld => ?_)
  refine wpAnyH_take (i:=0) (v:=?vx159_0) rfl (by kernel_rfl) (by kernel_rfl) (by kernel_rfl) (fun _ _ _ h => h) (Or.inl ⟨by rfl,?hyx159_0⟩) (by assumption) ?restx159_0
  case hyx159_0 => (intro w hSw; have F:=Ok.sees hSw; clear hSw; simp only [sees,kBlk,cellsAt,Nat.reduceAdd] at F; go_simp; try with_reducible rfl)
  try simp only [Act.put,List.setIfInBounds_toArray,List.set_cons_zero,List.set_cons_succ,List.getElem_toArray,List.getElem_cons_zero]
  refine wpAnyH_take (i:=1) (v:=?vx160_1) rfl (by kernel_rfl) (by kernel_rfl) (by kernel_rfl) (fun _ _ _ h => h) (Or.inl ⟨by rfl,?hyx160_1⟩) (by assumption) ?restx160_1
  case hyx160_1 => (intro w hSw; have F:=Ok.sees hSw; clear hSw; simp only [sees,kBlk,cellsAt,Nat.reduceAdd] at F; go_simp; try with_reducible rfl)
  try simp only [Act.put,List.setIfInBounds_toArray,List.set_cons_zero,List.set_cons_succ,List.getElem_toArray,List.getElem_cons_succ,List.getElem_cons_zero]
  refine wpAnyH_take (i:=2) (v:=?vx161_2) rfl (by kernel_rfl) (by kernel_rfl) (by kernel_rfl) (fun _ _ _ h => h) (Or.inl ⟨by rfl,?hyx161_2⟩) (by assumption) ?restx161_2
  case hyx161_2 => (intro w hSw; have F:=Ok.sees hSw; clear hSw; simp only [sees,kBlk,cellsAt,Nat.reduceAdd] at F; go_simp; try with_reducible rfl)
  try simp only [Act.put,List.setIfInBounds_toArray,List.set_cons_zero,List.set_cons_succ,List.getElem_toArray,List.getElem_cons_succ,List.getElem_cons_zero]
  refine wpAnyH_take (i:=3) (v:=?vx162_3) rfl (by kernel_rfl) (by kernel_rfl) (by kernel_rfl) (fun _ _ _ h => h) (Or.inl ⟨by rfl,?hyx162_3⟩) (by assumption) ?restx162_3
  case hyx162_3 => (intro w hSw; have F:=Ok.sees hSw; clear hSw; simp only [sees,kBlk,cellsAt,Nat.reduceAdd] at F; go_simp; try with_reducible rfl)
  try simp only [Act.put,List.setIfInBounds_toArray,List.set_cons_zero,List.set_cons_succ,List.getElem_toArray,List.getElem_cons_succ,List.getElem_cons_zero]
  refine wpAnyH_take (i:=4) (v:=?vx163_4) rfl (by kernel_rfl) (by kernel_rfl) (by kernel_rfl) (fun _ _ _ h => h) (Or.inl ⟨by rfl,?hyx163_4⟩) (by assumption) ?restx163_4
  case hyx163_4 => (intro w hSw; have F:=Ok.sees hSw; clear hSw; simp only [sees,kBlk,cellsAt,Nat.reduceAdd] at F; go_simp; try with_reducible rfl)
  try simp only [Act.put,List.setIfInBounds_toArray,List.set_cons_zero,List.set_cons_succ,List.getElem_toArray,List.getElem_cons_succ,List.getElem_cons_zero]
  refine wpAnyH_take (i:=5) (v:=?vx164_5) rfl (by kernel_rfl) (by kernel_rfl) (by kernel_rfl) (fun _ _ _ h => h) (Or.inl ⟨by rfl,?hyx164_5⟩) (by assumption) ?restx164_5
  case hyx164_5 => (intro w hSw; have F:=Ok.sees hSw; clear hSw; simp only [sees,kBlk,cellsAt,Nat.reduceAdd] at F; go_simp; try with_reducible rfl)
  try simp only [Act.put,List.setIfInBounds_toArray,List.set_cons_zero,List.set_cons_succ,List.getElem_toArray,List.getElem_cons_succ,List.getElem_cons_zero]
  refine wpAnyH_take (i:=6) (v:=?vx165_6) rfl (by kernel_rfl) (by kernel_rfl) (by kernel_rfl) (fun _ _ _ h => h) (Or.inl ⟨by rfl,?hyx165_6⟩) (by assumption) ?restx165_6
  case hyx165_6 => (intro w hSw; have F:=Ok.sees hSw; clear hSw; simp only [sees,kBlk,cellsAt,Nat.reduceAdd] at F; go_simp; try with_reducible rfl)
  try simp only [Act.put,List.setIfInBounds_toArray,List.set_cons_zero,List.set_cons_succ,List.getElem_toArray,List.getElem_cons_succ,List.getElem_cons_zero]
  refine wpAnyH_take (i:=7) (v:=?vx166_7) rfl (by kernel_rfl) (by kernel_rfl) (by kernel_rfl) (fun _ _ _ h => h) (Or.inl ⟨by rfl,?hyx166_7⟩) (by assumption) ?restx166_7
  case hyx166_7 => (intro w hSw; have F:=Ok.sees hSw; clear hSw; simp only [sees,kBlk,cellsAt,Nat.reduceAdd] at F; go_simp; try with_reducible rfl)
  try simp only [Act.put,List.setIfInBounds_toArray,List.set_cons_zero,List.set_cons_succ,List.getElem_toArray,List.getElem_cons_succ,List.getElem_cons_zero]
  refine wpAnyH_take (i:=8) (v:=?vx167_8) rfl (by kernel_rfl) (by kernel_rfl) (by kernel_rfl) (fun _ _ _ h => h) (Or.inl ⟨by rfl,?hyx167_8⟩) (by assumption) ?restx167_8
  case hyx167_8 => (intro w hSw; have F:=Ok.sees hSw; clear hSw; simp only [sees,kBlk,cellsAt,Nat.reduceAdd] at F; go_simp; try with_reducible rfl)
  try simp only [Act.put,List.setIfInBounds_toArray,List.set_cons_zero,List.set_cons_succ,List.getElem_toArray,List.getElem_cons_succ,List.getElem_cons_zero]
  refine wpAnyH_take (i:=9) (v:=?vx168_9) rfl (by kernel_rfl) (by kernel_rfl) (by kernel_rfl) (fun _ _ _ h => h) (Or.inl ⟨by rfl,?hyx168_9⟩) (by assumption) ?restx168_9
  case hyx168_9 => (intro w hSw; have F:=Ok.sees hSw; clear hSw; simp only [sees,kBlk,cellsAt,Nat.reduceAdd] at F; go_simp; try with_reducible rfl)
  try simp only [Act.put,List.setIfInBounds_toArray,List.set_cons_zero,List.set_cons_succ,List.getElem_toArray,List.getElem_cons_succ,List.getElem_cons_zero]
  refine wpAnyH_take (i:=10) (v:=?vx169_10) rfl (by kernel_rfl) (by kernel_rfl) (by kernel_rfl) (fun _ _ _ h => h) (Or.inl ⟨by rfl,?hyx169_10⟩) (by assumption) ?restx169_10
  case hyx169_10 => (intro w hSw; have F:=Ok.sees hSw; clear hSw; simp only [sees,kBlk,cellsAt,Nat.reduceAdd] at F; go_simp; try with_reducible rfl)
  try simp only [Act.put,List.setIfInBounds_toArray,List.set_cons_zero,List.set_cons_succ,List.getElem_toArray,List.getElem_cons_succ,List.getElem_cons_zero]
  refine wpAnyH_ready (rs:=[11]) (by kernel_rfl) (by simp) ?_
  refine AllReadyH.cons rfl (fun K hK => ?_) AllReadyH.nil
  go_simp
  refine (HPV.out _).mono ?_
  rintro e w5 ⟨rfl,hb6⟩
  go_wp2_with fail
  refine hK.out _ _ (hHeld.below hb6) (fun hHeld => ?_)
  clear hK K
  try simp only [Act.put,List.setIfInBounds_toArray,List.set_cons_zero,List.set_cons_succ,List.getElem_toArray,List.getElem_cons_succ,List.getElem_cons_zero]
  refine wpAnyH_take (i:=12) (v:=?vx170_12) rfl (by kernel_rfl) (by kernel_rfl) (by kernel_rfl) (fun _ _ _ h => h) (Or.inl ⟨by rfl,?hyx170_12⟩) (by assumption) ?restx170_12
  case hyx170_12 => (intro w hSw; have F:=Ok.sees hSw; clear hSw; simp only [sees,kBlk,cellsAt,Nat.reduceAdd] at F; go_simp; try with_reducible rfl)
  try simp only [Act.put,List.setIfInBounds_toArray,List.set_cons_zero,List.set_cons_succ,List.getElem_toArray,List.getElem_cons_succ,List.getElem_cons_zero]
  refine wpAnyH_take (i:=13) (v:=?vx171_13) rfl (by kernel_rfl) (by kernel_rfl) (by kernel_rfl) (fun _ _ _ h => h) (Or.inl ⟨by rfl,?hyx171_13⟩) (by assumption) ?restx171_13
  case hyx171_13 => (intro w hSw; have F:=Ok.sees hSw; clear hSw; simp only [sees,kBlk,cellsAt,Nat.reduceAdd] at F; go_simp; try with_reducible rfl)
  try simp only [Act.put,List.setIfInBounds_toArray,List.set_cons_zero,List.set_cons_succ,List.getElem_toArray,List.getElem_cons_succ,List.getElem_cons_zero]
  refine wpAnyH_done (by kernel_rfl) ?_ _
  clear z0 c0_0 c0_1 c0_2 c0_3 c0_4 c0_5 c0_6 c0_7 c0_8 c0_9 c0_10 c0_11 c0_12
  clear H1
  have H7:=Lib.hid hHeld
  clear hHeld
  have F8:=H7.out.sees
  simp only [sees,kBlk,cellsAt,Nat.reduceAdd] at F8
  obtain ⟨⟨z0,c0_0,c0_1,c0_2,c0_3,c0_4,c0_5,c0_6,c0_7,c0_8,c0_9,c0_10,c0_11,c0_12,-⟩,-⟩:=F8
  go_wp2_with fail
  all_goals go_ret
  all_goals exact ⟨rfl,H7.out.bel⟩
set_option maxRecDepth 100000 in
set_option maxHeartbeats 4000000 in
theorem check_8_yes (u x1 y1 x2 y2 : Int) (inp : List UInt8) (a b c f t : Nat) (n : Int) (h1 : 1 ≤ f) (h2 : f ≤ 31) (HP : ∀ w : World,Calls Tryz.prog 17 #[.agg #[.int .u8 8,.int .i64 u,.int .i64 x1,.int .i64 y1,.int .i64 x2,.int .i64 y2,.string ⟨inp.toArray⟩,.int .u64 (a : Nat),.int .u64 (b : Nat),.int .u64 (c : Nat),.int .u8 (f : Nat),.int .u64 (t : Nat),.int .i64 n]] w fun e w' => e = .returned (.agg #[.int .u8 8,.int .i64 u,.int .i64 x1,.int .i64 y1,.int .i64 x2,.int .i64 y2,.string ⟨inp.toArray⟩,.int .u64 (a : Nat),.int .u64 (b : Nat),.int .u64 (c : Nat),.int .u8 (f : Nat),.int .u64 (t : Nat),.int .i64 n]) ∧ Below w.heap.size w w') (w : World) :
    Calls Tryz.prog 13 #[.agg #[.int .u8 8,.int .i64 u,.int .i64 x1,.int .i64 y1,.int .i64 x2,.int .i64 y2,.string ⟨inp.toArray⟩,.int .u64 (a : Nat),.int .u64 (b : Nat),.int .u64 (c : Nat),.int .u8 (f : Nat),.int .u64 (t : Nat),.int .i64 n]] w fun e w' => e = .returned (.int .i64 0) ∧ Below w.heap.size w w':=by
  have HPV:=keep HP
  clear HP
  have e1 : ¬ (f : Int) < 1:=by omega
  have e2 : ¬ (f : Int) > 31:=by omega
  have H1:=Lib.hid ((Ok.start w).alloc w.heap.size 28 [.int .u8 8,.int .i64 u,.int .i64 x1,.int .i64 y1,.int .i64 x2,.int .i64 y2,.string ⟨inp.toArray⟩,.int .u64 (a : Nat),.int .u64 (b : Nat),.int .u64 (c : Nat),.int .u8 (f : Nat),.int .u64 (t : Nat),.int .i64 n] rfl)
  go_enter Tryz.func13,Tryz.ntmps13
  go_upto_region 1 with fail
  generalize (w.alloc (.cells #[.int .u8 8,.int .i64 u,.int .i64 x1,.int .i64 y1,.int .i64 x2,.int .i64 y2,.string ⟨inp.toArray⟩,.int .u64 (a : Nat),.int .u64 (b : Nat),.int .u64 (c : Nat),.int .u8 (f : Nat),.int .u64 (t : Nat),.int .i64 n] 28)) = W2 at H1 ⊢
  have F3:=H1.out.sees
  simp only [sees,kBlk,cellsAt,Nat.reduceAdd] at F3
  obtain ⟨⟨z0,c0_0,c0_1,c0_2,c0_3,c0_4,c0_5,c0_6,c0_7,c0_8,c0_9,c0_10,c0_11,c0_12,-⟩,-⟩:=F3
  refine wp_region_held_drew (S:=fun W => Ok w [kBlk (w.heap.size) 28 [.int .u8 8,.int .i64 u,.int .i64 x1,.int .i64 y1,.int .i64 x2,.int .i64 y2,.string ⟨inp.toArray⟩,.int .u64 (a : Nat),.int .u64 (b : Nat),.int .u64 (c : Nat),.int .u8 (f : Nat),.int .u64 (t : Nat),.int .i64 n]] W) (by kernel_rfl) H1.out.drew (fun hHeld => ?_)
  refine wpAnyH_take (i:=0) (v:=?vx172_0) rfl (by kernel_rfl) (by kernel_rfl) (by kernel_rfl) (fun _ _ _ h => h) (Or.inl ⟨by rfl,?hyx172_0⟩) (by assumption) ?restx172_0
  case hyx172_0 => (intro w hSw; have F:=Ok.sees hSw; clear hSw; simp only [sees,kBlk,cellsAt,Nat.reduceAdd] at F; go_simp; try with_reducible rfl)
  try simp only [Act.put,List.setIfInBounds_toArray,List.set_cons_zero,List.set_cons_succ,List.getElem_toArray,List.getElem_cons_zero]
  refine wpAnyH_take (i:=1) (v:=?vx173_1) rfl (by kernel_rfl) (by kernel_rfl) (by kernel_rfl) (fun _ _ _ h => h) (Or.inl ⟨by rfl,?hyx173_1⟩) (by assumption) ?restx173_1
  case hyx173_1 => (intro w hSw; have F:=Ok.sees hSw; clear hSw; simp only [sees,kBlk,cellsAt,Nat.reduceAdd] at F; go_simp; try with_reducible rfl)
  try simp only [Act.put,List.setIfInBounds_toArray,List.set_cons_zero,List.set_cons_succ,List.getElem_toArray,List.getElem_cons_succ,List.getElem_cons_zero]
  refine wpAnyH_take (i:=2) (v:=?vx174_2) rfl (by kernel_rfl) (by kernel_rfl) (by kernel_rfl) (fun _ _ _ h => h) (Or.inl ⟨by rfl,?hyx174_2⟩) (by assumption) ?restx174_2
  case hyx174_2 => (intro w hSw; have F:=Ok.sees hSw; clear hSw; simp only [sees,kBlk,cellsAt,Nat.reduceAdd] at F; go_simp; try with_reducible rfl)
  try simp only [Act.put,List.setIfInBounds_toArray,List.set_cons_zero,List.set_cons_succ,List.getElem_toArray,List.getElem_cons_succ,List.getElem_cons_zero]
  refine wpAnyH_take (i:=3) (v:=?vx175_3) rfl (by kernel_rfl) (by kernel_rfl) (by kernel_rfl) (fun _ _ _ h => h) (Or.inl ⟨by rfl,?hyx175_3⟩) (by assumption) ?restx175_3
  case hyx175_3 => (intro w hSw; have F:=Ok.sees hSw; clear hSw; simp only [sees,kBlk,cellsAt,Nat.reduceAdd] at F; go_simp; try with_reducible rfl)
  try simp only [Act.put,List.setIfInBounds_toArray,List.set_cons_zero,List.set_cons_succ,List.getElem_toArray,List.getElem_cons_succ,List.getElem_cons_zero]
  refine wpAnyH_take (i:=4) (v:=?vx176_4) rfl (by kernel_rfl) (by kernel_rfl) (by kernel_rfl) (fun _ _ _ h => h) (Or.inl ⟨by rfl,?hyx176_4⟩) (by assumption) ?restx176_4
  case hyx176_4 => (intro w hSw; have F:=Ok.sees hSw; clear hSw; simp only [sees,kBlk,cellsAt,Nat.reduceAdd] at F; go_simp; try with_reducible rfl)
  try simp only [Act.put,List.setIfInBounds_toArray,List.set_cons_zero,List.set_cons_succ,List.getElem_toArray,List.getElem_cons_succ,List.getElem_cons_zero]
  refine wpAnyH_take (i:=5) (v:=?vx177_5) rfl (by kernel_rfl) (by kernel_rfl) (by kernel_rfl) (fun _ _ _ h => h) (Or.inl ⟨by rfl,?hyx177_5⟩) (by assumption) ?restx177_5
  case hyx177_5 => (intro w hSw; have F:=Ok.sees hSw; clear hSw; simp only [sees,kBlk,cellsAt,Nat.reduceAdd] at F; go_simp; try with_reducible rfl)
  try simp only [Act.put,List.setIfInBounds_toArray,List.set_cons_zero,List.set_cons_succ,List.getElem_toArray,List.getElem_cons_succ,List.getElem_cons_zero]
  refine wpAnyH_take (i:=6) (v:=?vx178_6) rfl (by kernel_rfl) (by kernel_rfl) (by kernel_rfl) (fun _ _ _ h => h) (Or.inl ⟨by rfl,?hyx178_6⟩) (by assumption) ?restx178_6
  case hyx178_6 => (intro w hSw; have F:=Ok.sees hSw; clear hSw; simp only [sees,kBlk,cellsAt,Nat.reduceAdd] at F; go_simp; try with_reducible rfl)
  try simp only [Act.put,List.setIfInBounds_toArray,List.set_cons_zero,List.set_cons_succ,List.getElem_toArray,List.getElem_cons_succ,List.getElem_cons_zero]
  refine wpAnyH_take (i:=7) (v:=?vx179_7) rfl (by kernel_rfl) (by kernel_rfl) (by kernel_rfl) (fun _ _ _ h => h) (Or.inl ⟨by rfl,?hyx179_7⟩) (by assumption) ?restx179_7
  case hyx179_7 => (intro w hSw; have F:=Ok.sees hSw; clear hSw; simp only [sees,kBlk,cellsAt,Nat.reduceAdd] at F; go_simp; try with_reducible rfl)
  try simp only [Act.put,List.setIfInBounds_toArray,List.set_cons_zero,List.set_cons_succ,List.getElem_toArray,List.getElem_cons_succ,List.getElem_cons_zero]
  refine wpAnyH_take (i:=8) (v:=?vx180_8) rfl (by kernel_rfl) (by kernel_rfl) (by kernel_rfl) (fun _ _ _ h => h) (Or.inl ⟨by rfl,?hyx180_8⟩) (by assumption) ?restx180_8
  case hyx180_8 => (intro w hSw; have F:=Ok.sees hSw; clear hSw; simp only [sees,kBlk,cellsAt,Nat.reduceAdd] at F; go_simp; try with_reducible rfl)
  try simp only [Act.put,List.setIfInBounds_toArray,List.set_cons_zero,List.set_cons_succ,List.getElem_toArray,List.getElem_cons_succ,List.getElem_cons_zero]
  refine wpAnyH_take (i:=9) (v:=?vx181_9) rfl (by kernel_rfl) (by kernel_rfl) (by kernel_rfl) (fun _ _ _ h => h) (Or.inl ⟨by rfl,?hyx181_9⟩) (by assumption) ?restx181_9
  case hyx181_9 => (intro w hSw; have F:=Ok.sees hSw; clear hSw; simp only [sees,kBlk,cellsAt,Nat.reduceAdd] at F; go_simp; try with_reducible rfl)
  try simp only [Act.put,List.setIfInBounds_toArray,List.set_cons_zero,List.set_cons_succ,List.getElem_toArray,List.getElem_cons_succ,List.getElem_cons_zero]
  refine wpAnyH_take (i:=10) (v:=?vx182_10) rfl (by kernel_rfl) (by kernel_rfl) (by kernel_rfl) (fun _ _ _ h => h) (Or.inl ⟨by rfl,?hyx182_10⟩) (by assumption) ?restx182_10
  case hyx182_10 => (intro w hSw; have F:=Ok.sees hSw; clear hSw; simp only [sees,kBlk,cellsAt,Nat.reduceAdd] at F; go_simp; try with_reducible rfl)
  try simp only [Act.put,List.setIfInBounds_toArray,List.set_cons_zero,List.set_cons_succ,List.getElem_toArray,List.getElem_cons_succ,List.getElem_cons_zero]
  refine wpAnyH_ready (rs:=[11]) (by kernel_rfl) (by simp) ?_
  refine AllReadyH.cons rfl (fun K hK => ?_) AllReadyH.nil
  go_simp
  refine (HPV.out _).mono ?_
  rintro e w5 ⟨rfl,hb6⟩
  go_wp2_with fail
  refine hK.out _ _ (hHeld.below hb6) (fun hHeld => ?_)
  clear hK K
  try simp only [Act.put,List.setIfInBounds_toArray,List.set_cons_zero,List.set_cons_succ,List.getElem_toArray,List.getElem_cons_succ,List.getElem_cons_zero]
  refine wpAnyH_take (i:=12) (v:=?vx183_12) rfl (by kernel_rfl) (by kernel_rfl) (by kernel_rfl) (fun _ _ _ h => h) (Or.inl ⟨by rfl,?hyx183_12⟩) (by assumption) ?restx183_12
  case hyx183_12 => (intro w hSw; have F:=Ok.sees hSw; clear hSw; simp only [sees,kBlk,cellsAt,Nat.reduceAdd] at F; go_simp; try with_reducible rfl)
  try simp only [Act.put,List.setIfInBounds_toArray,List.set_cons_zero,List.set_cons_succ,List.getElem_toArray,List.getElem_cons_succ,List.getElem_cons_zero]
  refine wpAnyH_take (i:=13) (v:=?vx184_13) rfl (by kernel_rfl) (by kernel_rfl) (by kernel_rfl) (fun _ _ _ h => h) (Or.inl ⟨by rfl,?hyx184_13⟩) (by assumption) ?restx184_13
  case hyx184_13 => (intro w hSw; have F:=Ok.sees hSw; clear hSw; simp only [sees,kBlk,cellsAt,Nat.reduceAdd] at F; go_simp; try with_reducible rfl)
  try simp only [Act.put,List.setIfInBounds_toArray,List.set_cons_zero,List.set_cons_succ,List.getElem_toArray,List.getElem_cons_succ,List.getElem_cons_zero]
  refine wpAnyH_done (by kernel_rfl) ?_ _
  clear z0 c0_0 c0_1 c0_2 c0_3 c0_4 c0_5 c0_6 c0_7 c0_8 c0_9 c0_10 c0_11 c0_12
  clear H1
  have H7:=Lib.hid hHeld
  clear hHeld
  have F8:=H7.out.sees
  simp only [sees,kBlk,cellsAt,Nat.reduceAdd] at F8
  obtain ⟨⟨z0,c0_0,c0_1,c0_2,c0_3,c0_4,c0_5,c0_6,c0_7,c0_8,c0_9,c0_10,c0_11,c0_12,-⟩,-⟩:=F8
  go_wp2_with fail
  all_goals go_ret
  all_goals exact ⟨rfl,H7.out.bel⟩
set_option maxRecDepth 100000 in
set_option maxHeartbeats 4000000 in
theorem check_else (k : Nat) (hk1 : 1 ≤ k) (hk2 : k ≤ 10) (h3 : k ≠ 3) (h6 : k ≠ 6) (h8 : k ≠ 8) (u x1 y1 x2 y2 : Int) (inp : List UInt8) (a b c f t : Nat) (n : Int) (HP : ∀ w : World,Calls Tryz.prog 17 #[.agg #[.int .u8 (k : Nat),.int .i64 u,.int .i64 x1,.int .i64 y1,.int .i64 x2,.int .i64 y2,.string ⟨inp.toArray⟩,.int .u64 (a : Nat),.int .u64 (b : Nat),.int .u64 (c : Nat),.int .u8 (f : Nat),.int .u64 (t : Nat),.int .i64 n]] w fun e w' => e = .returned (.agg #[.int .u8 (k : Nat),.int .i64 u,.int .i64 x1,.int .i64 y1,.int .i64 x2,.int .i64 y2,.string ⟨inp.toArray⟩,.int .u64 (a : Nat),.int .u64 (b : Nat),.int .u64 (c : Nat),.int .u8 (f : Nat),.int .u64 (t : Nat),.int .i64 n]) ∧ Below w.heap.size w w') (w : World) :
    Calls Tryz.prog 13 #[.agg #[.int .u8 (k : Nat),.int .i64 u,.int .i64 x1,.int .i64 y1,.int .i64 x2,.int .i64 y2,.string ⟨inp.toArray⟩,.int .u64 (a : Nat),.int .u64 (b : Nat),.int .u64 (c : Nat),.int .u8 (f : Nat),.int .u64 (t : Nat),.int .i64 n]] w fun e w' => e = .returned (.int .i64 0) ∧ Below w.heap.size w w':=by
  have HPV:=keep HP
  clear HP
  have g1 : ¬ (k : Int) < 1:=by omega
  have g2 : ¬ (k : Int) > 10:=by omega
  have e3 : ((k : Int) == 3) = false:=by simp; omega
  have e6 : ((k : Int) == 6) = false:=by simp; omega
  have e8 : ((k : Int) == 8) = false:=by simp; omega
  have H1:=Lib.hid ((Ok.start w).alloc w.heap.size 28 [.int .u8 (k : Nat),.int .i64 u,.int .i64 x1,.int .i64 y1,.int .i64 x2,.int .i64 y2,.string ⟨inp.toArray⟩,.int .u64 (a : Nat),.int .u64 (b : Nat),.int .u64 (c : Nat),.int .u8 (f : Nat),.int .u64 (t : Nat),.int .i64 n] rfl)
  go_enter Tryz.func13,Tryz.ntmps13
  go_upto_region 1 with fail
  generalize (w.alloc (.cells #[.int .u8 (k : Nat),.int .i64 u,.int .i64 x1,.int .i64 y1,.int .i64 x2,.int .i64 y2,.string ⟨inp.toArray⟩,.int .u64 (a : Nat),.int .u64 (b : Nat),.int .u64 (c : Nat),.int .u8 (f : Nat),.int .u64 (t : Nat),.int .i64 n] 28)) = W2 at H1 ⊢
  have F3:=H1.out.sees
  simp only [sees,kBlk,cellsAt,Nat.reduceAdd] at F3
  obtain ⟨⟨z0,c0_0,c0_1,c0_2,c0_3,c0_4,c0_5,c0_6,c0_7,c0_8,c0_9,c0_10,c0_11,c0_12,-⟩,-⟩:=F3
  refine wp_region_held_drew (S:=fun W => Ok w [kBlk (w.heap.size) 28 [.int .u8 (k : Nat),.int .i64 u,.int .i64 x1,.int .i64 y1,.int .i64 x2,.int .i64 y2,.string ⟨inp.toArray⟩,.int .u64 (a : Nat),.int .u64 (b : Nat),.int .u64 (c : Nat),.int .u8 (f : Nat),.int .u64 (t : Nat),.int .i64 n]] W) (by kernel_rfl) H1.out.drew (fun hHeld => ?_)
  refine wpAnyH_take (i:=0) (v:=?vx185_0) rfl (by kernel_rfl) (by kernel_rfl) (by kernel_rfl) (fun _ _ _ h => h) (Or.inl ⟨by rfl,?hyx185_0⟩) (by assumption) ?restx185_0
  case hyx185_0 => (intro w hSw; have F:=Ok.sees hSw; clear hSw; simp only [sees,kBlk,cellsAt,Nat.reduceAdd] at F; go_simp; try with_reducible rfl)
  try simp only [Act.put,List.setIfInBounds_toArray,List.set_cons_zero,List.set_cons_succ,List.getElem_toArray,List.getElem_cons_zero]
  refine wpAnyH_take (i:=1) (v:=?vx186_1) rfl (by kernel_rfl) (by kernel_rfl) (by kernel_rfl) (fun _ _ _ h => h) (Or.inl ⟨by rfl,?hyx186_1⟩) (by assumption) ?restx186_1
  case hyx186_1 => (intro w hSw; have F:=Ok.sees hSw; clear hSw; simp only [sees,kBlk,cellsAt,Nat.reduceAdd] at F; go_simp; try with_reducible rfl)
  try simp only [Act.put,List.setIfInBounds_toArray,List.set_cons_zero,List.set_cons_succ,List.getElem_toArray,List.getElem_cons_succ,List.getElem_cons_zero]
  refine wpAnyH_take (i:=2) (v:=?vx187_2) rfl (by kernel_rfl) (by kernel_rfl) (by kernel_rfl) (fun _ _ _ h => h) (Or.inl ⟨by rfl,?hyx187_2⟩) (by assumption) ?restx187_2
  case hyx187_2 => (intro w hSw; have F:=Ok.sees hSw; clear hSw; simp only [sees,kBlk,cellsAt,Nat.reduceAdd] at F; go_simp; try with_reducible rfl)
  try simp only [Act.put,List.setIfInBounds_toArray,List.set_cons_zero,List.set_cons_succ,List.getElem_toArray,List.getElem_cons_succ,List.getElem_cons_zero]
  refine wpAnyH_take (i:=3) (v:=?vx188_3) rfl (by kernel_rfl) (by kernel_rfl) (by kernel_rfl) (fun _ _ _ h => h) (Or.inl ⟨by rfl,?hyx188_3⟩) (by assumption) ?restx188_3
  case hyx188_3 => (intro w hSw; have F:=Ok.sees hSw; clear hSw; simp only [sees,kBlk,cellsAt,Nat.reduceAdd] at F; go_simp; try with_reducible rfl)
  try simp only [Act.put,List.setIfInBounds_toArray,List.set_cons_zero,List.set_cons_succ,List.getElem_toArray,List.getElem_cons_succ,List.getElem_cons_zero]
  refine wpAnyH_take (i:=4) (v:=?vx189_4) rfl (by kernel_rfl) (by kernel_rfl) (by kernel_rfl) (fun _ _ _ h => h) (Or.inl ⟨by rfl,?hyx189_4⟩) (by assumption) ?restx189_4
  case hyx189_4 => (intro w hSw; have F:=Ok.sees hSw; clear hSw; simp only [sees,kBlk,cellsAt,Nat.reduceAdd] at F; go_simp; try with_reducible rfl)
  try simp only [Act.put,List.setIfInBounds_toArray,List.set_cons_zero,List.set_cons_succ,List.getElem_toArray,List.getElem_cons_succ,List.getElem_cons_zero]
  refine wpAnyH_take (i:=5) (v:=?vx190_5) rfl (by kernel_rfl) (by kernel_rfl) (by kernel_rfl) (fun _ _ _ h => h) (Or.inl ⟨by rfl,?hyx190_5⟩) (by assumption) ?restx190_5
  case hyx190_5 => (intro w hSw; have F:=Ok.sees hSw; clear hSw; simp only [sees,kBlk,cellsAt,Nat.reduceAdd] at F; go_simp; try with_reducible rfl)
  try simp only [Act.put,List.setIfInBounds_toArray,List.set_cons_zero,List.set_cons_succ,List.getElem_toArray,List.getElem_cons_succ,List.getElem_cons_zero]
  refine wpAnyH_take (i:=6) (v:=?vx191_6) rfl (by kernel_rfl) (by kernel_rfl) (by kernel_rfl) (fun _ _ _ h => h) (Or.inl ⟨by rfl,?hyx191_6⟩) (by assumption) ?restx191_6
  case hyx191_6 => (intro w hSw; have F:=Ok.sees hSw; clear hSw; simp only [sees,kBlk,cellsAt,Nat.reduceAdd] at F; go_simp; try with_reducible rfl)
  try simp only [Act.put,List.setIfInBounds_toArray,List.set_cons_zero,List.set_cons_succ,List.getElem_toArray,List.getElem_cons_succ,List.getElem_cons_zero]
  refine wpAnyH_take (i:=7) (v:=?vx192_7) rfl (by kernel_rfl) (by kernel_rfl) (by kernel_rfl) (fun _ _ _ h => h) (Or.inl ⟨by rfl,?hyx192_7⟩) (by assumption) ?restx192_7
  case hyx192_7 => (intro w hSw; have F:=Ok.sees hSw; clear hSw; simp only [sees,kBlk,cellsAt,Nat.reduceAdd] at F; go_simp; try with_reducible rfl)
  try simp only [Act.put,List.setIfInBounds_toArray,List.set_cons_zero,List.set_cons_succ,List.getElem_toArray,List.getElem_cons_succ,List.getElem_cons_zero]
  refine wpAnyH_take (i:=8) (v:=?vx193_8) rfl (by kernel_rfl) (by kernel_rfl) (by kernel_rfl) (fun _ _ _ h => h) (Or.inl ⟨by rfl,?hyx193_8⟩) (by assumption) ?restx193_8
  case hyx193_8 => (intro w hSw; have F:=Ok.sees hSw; clear hSw; simp only [sees,kBlk,cellsAt,Nat.reduceAdd] at F; go_simp; try with_reducible rfl)
  try simp only [Act.put,List.setIfInBounds_toArray,List.set_cons_zero,List.set_cons_succ,List.getElem_toArray,List.getElem_cons_succ,List.getElem_cons_zero]
  refine wpAnyH_take (i:=9) (v:=?vx194_9) rfl (by kernel_rfl) (by kernel_rfl) (by kernel_rfl) (fun _ _ _ h => h) (Or.inl ⟨by rfl,?hyx194_9⟩) (by assumption) ?restx194_9
  case hyx194_9 => (intro w hSw; have F:=Ok.sees hSw; clear hSw; simp only [sees,kBlk,cellsAt,Nat.reduceAdd] at F; go_simp; try with_reducible rfl)
  try simp only [Act.put,List.setIfInBounds_toArray,List.set_cons_zero,List.set_cons_succ,List.getElem_toArray,List.getElem_cons_succ,List.getElem_cons_zero]
  refine wpAnyH_take (i:=10) (v:=?vx195_10) rfl (by kernel_rfl) (by kernel_rfl) (by kernel_rfl) (fun _ _ _ h => h) (Or.inl ⟨by rfl,?hyx195_10⟩) (by assumption) ?restx195_10
  case hyx195_10 => (intro w hSw; have F:=Ok.sees hSw; clear hSw; simp only [sees,kBlk,cellsAt,Nat.reduceAdd] at F; go_simp; try with_reducible rfl)
  try simp only [Act.put,List.setIfInBounds_toArray,List.set_cons_zero,List.set_cons_succ,List.getElem_toArray,List.getElem_cons_succ,List.getElem_cons_zero]
  refine wpAnyH_ready (rs:=[11]) (by kernel_rfl) (by simp) ?_
  refine AllReadyH.cons rfl (fun K hK => ?_) AllReadyH.nil
  go_simp
  refine (HPV.out _).mono ?_
  rintro e w5 ⟨rfl,hb6⟩
  go_wp2_with fail
  refine hK.out _ _ (hHeld.below hb6) (fun hHeld => ?_)
  clear hK K
  try simp only [Act.put,List.setIfInBounds_toArray,List.set_cons_zero,List.set_cons_succ,List.getElem_toArray,List.getElem_cons_succ,List.getElem_cons_zero]
  refine wpAnyH_take (i:=12) (v:=?vx196_12) rfl (by kernel_rfl) (by kernel_rfl) (by kernel_rfl) (fun _ _ _ h => h) (Or.inl ⟨by rfl,?hyx196_12⟩) (by assumption) ?restx196_12
  case hyx196_12 => (intro w hSw; have F:=Ok.sees hSw; clear hSw; simp only [sees,kBlk,cellsAt,Nat.reduceAdd] at F; go_simp; try with_reducible rfl)
  try simp only [Act.put,List.setIfInBounds_toArray,List.set_cons_zero,List.set_cons_succ,List.getElem_toArray,List.getElem_cons_succ,List.getElem_cons_zero]
  refine wpAnyH_take (i:=13) (v:=?vx197_13) rfl (by kernel_rfl) (by kernel_rfl) (by kernel_rfl) (fun _ _ _ h => h) (Or.inl ⟨by rfl,?hyx197_13⟩) (by assumption) ?restx197_13
  case hyx197_13 => (intro w hSw; have F:=Ok.sees hSw; clear hSw; simp only [sees,kBlk,cellsAt,Nat.reduceAdd] at F; go_simp; try with_reducible rfl)
  try simp only [Act.put,List.setIfInBounds_toArray,List.set_cons_zero,List.set_cons_succ,List.getElem_toArray,List.getElem_cons_succ,List.getElem_cons_zero]
  refine wpAnyH_done (by kernel_rfl) ?_ _
  clear z0 c0_0 c0_1 c0_2 c0_3 c0_4 c0_5 c0_6 c0_7 c0_8 c0_9 c0_10 c0_11 c0_12
  clear H1
  have H7:=Lib.hid hHeld
  clear hHeld
  have F8:=H7.out.sees
  simp only [sees,kBlk,cellsAt,Nat.reduceAdd] at F8
  obtain ⟨⟨z0,c0_0,c0_1,c0_2,c0_3,c0_4,c0_5,c0_6,c0_7,c0_8,c0_9,c0_10,c0_11,c0_12,-⟩,-⟩:=F8
  go_wp2_with fail
  all_goals go_ret
  all_goals exact ⟨rfl,H7.out.bel⟩
end Go.Proofs.YtjbimcdofenmdaaGreatDoor
