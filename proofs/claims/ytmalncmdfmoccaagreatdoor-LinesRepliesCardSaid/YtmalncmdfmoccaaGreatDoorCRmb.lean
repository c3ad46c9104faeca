/- Chapter 42's reference: address, Event, Shown. -/
import Derived.Test.YtmalncmdfmoccaaGreatDoorCRma
namespace Go.Proofs.YtmalncmdfmoccaaGreatDoor
open Go.RowKit
set_option maxRecDepth 100000 in
set_option maxHeartbeats 8000000 in
theorem rn_address (c r : Int) (h1 : i64B c) (h2 : i64B r) (w : World) :
    Calls Tryz.prog 69 #[.agg #[.int .i64 c,.int .i64 r]] w fun e w' => e = .returned (.string ⟨(rangeL ⟨c,r,c,r⟩).toArray⟩) ∧ Below w.heap.size w w':=by
  have HR:=keep (fun W => r9_Range ⟨c,r,c,r⟩ h1 h2 h1 h2 W)
  obtain ⟨L,hL⟩ : ∃ L : List UInt8,rangeL ⟨c,r,c,r⟩ = L:=⟨_,rfl⟩
  rw [hL] at HR ⊢
  clear hL h1 h2
  dsimp only at HR
  have H1:=Lib.hid ((Ok.start w).alloc w.heap.size 45 [.int .i64 c,.int .i64 r] rfl)
  go_enter Tryz.func69,Tryz.ntmps69
  go_upto_region 1 with fail
  generalize (w.alloc (.cells #[.int .i64 c,.int .i64 r] 45)) = W2 at H1 ⊢
  have F3:=H1.out.sees
  simp only [sees,kBlk,cellsAt,Nat.reduceAdd] at F3
  obtain ⟨⟨z0,c0_0,c0_1,-⟩,-⟩:=F3
  go_wp2_with fail
  refine (ref_One c r _).mono ?_
  rintro e w4 ⟨rfl,hb5⟩
  clear z0 c0_0 c0_1
  have H6:=Lib.hid (H1.out.below hb5)
  clear hb5 H1
  have F7:=H6.out.sees
  simp only [sees,kBlk,cellsAt,Nat.reduceAdd] at F7
  obtain ⟨⟨z0,c0_0,c0_1,-⟩,-⟩:=F7
  go_wp2_with fail
  refine (HR.out _).mono ?_
  rintro e w8 ⟨rfl,hb9⟩
  clear z0 c0_0 c0_1
  have H10:=Lib.hid (H6.out.below hb9)
  clear hb9 H6
  go_wp2_with fail
  go_ret
  exact ⟨rfl,H10.out.bel⟩
set_option maxRecDepth 100000 in
set_option maxHeartbeats 8000000 in
theorem rn_event (st us : Int) (k : Nat) (x1 y1 x2 y2 : Int) (d : Bool) (t : Nat) (b1 : i64B st) (b2 : i64B us) (bk : k < 256) (h1 : i64B x1) (h2 : i64B y1) (h3 : i64B x2) (h4 : i64B y2) (bt : t < 18446744073709551616) (w : World) :
    Calls Tryz.prog 35 #[.agg #[.int .i64 st,.int .i64 us,.int .u8 (k : Nat),.int .i64 x1,.int .i64 y1,.int .i64 x2,.int .i64 y2,.bool d,.int .u64 (t : Nat)]] w fun e w' => e = .returned (.string ⟨(evL ⟨st,us,k,⟨x1,y1,x2,y2⟩,d,t⟩).toArray⟩) ∧ Below w.heap.size w w':=by
  have HLN:=keep (join_le [[101,118,101,110,116],Lib.itoa st,Lib.itoa us,Lib.itoa (k : Nat),rangeL ⟨x1,y1,x2,y2⟩,yesL d,gfmtL t] 10000 (by
    intro x hx
    simp only [List.mem_cons,List.not_mem_nil,or_false] at hx
    rcases hx with rfl | rfl | rfl | rfl | rfl | rfl | rfl
    all_goals first | decide | exact Nat.le_trans (itoa_len _ (by assumption)) (by decide) | exact Nat.le_trans (itoa_len _ ⟨by omega,by omega⟩) (by decide) | exact rangeL_len _ (by assumption) (by assumption) (by assumption) (by assumption) | exact gfmtL_lenL _ | (unfold yesL; split <;> decide)))
  have B1:=keep b1
  have B2:=keep b2
  have BK:=keep (show i64B (k : Nat) from ⟨by omega,by omega⟩)
  have HWK:=keep (show IntKind.i64.wrap (k : Int) = (k : Int) from Go.IntWalk.i64_in _ (by omega))
  have HR:=keep (fun W => r9_Range ⟨x1,y1,x2,y2⟩ h1 h2 h3 h4 W)
  have BT:=keep bt
  have HLL:=keep (show Lib.join [[101,118,101,110,116],Lib.itoa st,Lib.itoa us,Lib.itoa (k : Nat),rangeL ⟨x1,y1,x2,y2⟩,yesL d,gfmtL t] [32] = evL ⟨st,us,k,⟨x1,y1,x2,y2⟩,d,t⟩ from rfl)
  obtain ⟨L,hL⟩ : ∃ L,evL ⟨st,us,k,⟨x1,y1,x2,y2⟩,d,t⟩ = L:=⟨_,rfl⟩
  obtain ⟨RT,hRT⟩ : ∃ R,rangeL ⟨x1,y1,x2,y2⟩ = R:=⟨_,rfl⟩
  obtain ⟨YT,hYT⟩ : ∃ R,yesL d = R:=⟨_,rfl⟩
  have HC:=keep (fun W => rn_yes d ⟨#[121,101,115]⟩ ⟨#[110,111]⟩ W)
  rw [show (if d then ⟨#[121,101,115]⟩ else ⟨#[110,111]⟩ : ByteArray) = ⟨YT.toArray⟩ by rw [← hYT]; cases d <;> rfl] at HC
  rw [hL,hRT,hYT] at HLL
  rw [hRT,hYT] at HLN
  rw [hRT] at HR
  rw [hL]
  clear b1 b2 bk h1 h2 h3 h4 bt hL hRT hYT
  dsimp only at HR
  have H1:=Lib.hid ((Ok.start w).alloc w.heap.size 71 [.int .i64 st,.int .i64 us,.int .u8 (k : Nat),.int .i64 x1,.int .i64 y1,.int .i64 x2,.int .i64 y2,.bool d,.int .u64 (t : Nat)] rfl)
  go_enter Tryz.func35,Tryz.ntmps35
  go_upto_region 1 with fail
  generalize (w.alloc (.cells #[.int .i64 st,.int .i64 us,.int .u8 (k : Nat),.int .i64 x1,.int .i64 y1,.int .i64 x2,.int .i64 y2,.bool d,.int .u64 (t : Nat)] 71)) = W2 at H1 ⊢
  refine wp_region_held_drew (S:=fun W => Ok w [kBlk (w.heap.size) 71 [.int .i64 st,.int .i64 us,.int .u8 (k : Nat),.int .i64 x1,.int .i64 y1,.int .i64 x2,.int .i64 y2,.bool d,.int .u64 (t : Nat)]] W) (by kernel_rfl) H1.out.drew (fun hHeld => ?_)
  have H3:=Lib.hid H1.out.drew
  clear H1
  generalize W2.drew = W4 at hHeld H3 ⊢
  refine wpAnyH_take (i:=0) (v:=?vx1_0) rfl (by kernel_rfl) (by kernel_rfl) (by kernel_rfl) (fun _ _ _ h => h) (Or.inl ⟨by rfl,?hyx1_0⟩) (by assumption) ?restx1_0
  case hyx1_0 => (intro w hSw; have F:=Ok.sees hSw; clear hSw; simp only [sees,kBlk,cellsAt,Nat.reduceAdd] at F; go_simp; try with_reducible rfl)
  try simp only [Act.put,List.setIfInBounds_toArray,List.set_cons_zero,List.set_cons_succ,List.getElem_toArray,List.getElem_cons_zero]
  refine wpAnyH_take (i:=1) (v:=?vx2_1) rfl (by kernel_rfl) (by kernel_rfl) (by kernel_rfl) (fun _ _ _ h => h) (Or.inl ⟨by rfl,?hyx2_1⟩) (by assumption) ?restx2_1
  case hyx2_1 => (intro w hSw; have F:=Ok.sees hSw; clear hSw; simp only [sees,kBlk,cellsAt,Nat.reduceAdd] at F; go_simp; try with_reducible rfl)
  try simp only [Act.put,List.setIfInBounds_toArray,List.set_cons_zero,List.set_cons_succ,List.getElem_toArray,List.getElem_cons_succ,List.getElem_cons_zero]
  refine wpAnyH_take (i:=3) (v:=?vx3_3) rfl (by kernel_rfl) (by kernel_rfl) (by kernel_rfl) (fun _ _ _ h => h) (Or.inl ⟨by rfl,?hyx3_3⟩) (by assumption) ?restx3_3
  case hyx3_3 => (intro w hSw; have F:=Ok.sees hSw; clear hSw; simp only [sees,kBlk,cellsAt,Nat.reduceAdd] at F; go_simp; try with_reducible rfl)
  try simp only [Act.put,List.setIfInBounds_toArray,List.set_cons_zero,List.set_cons_succ,List.getElem_toArray,List.getElem_cons_succ,List.getElem_cons_zero]
  refine wpAnyH_take (i:=4) (v:=?vx4_4) rfl (by kernel_rfl) (by kernel_rfl) (by kernel_rfl) (fun _ _ _ h => h) (Or.inl ⟨by rfl,?hyx4_4⟩) (by assumption) ?restx4_4
  case hyx4_4 => (intro w hSw; have F:=Ok.sees hSw; clear hSw; simp only [sees,kBlk,cellsAt,Nat.reduceAdd] at F; go_simp; try with_reducible rfl)
  try simp only [Act.put,List.setIfInBounds_toArray,List.set_cons_zero,List.set_cons_succ,List.getElem_toArray,List.getElem_cons_succ,List.getElem_cons_zero]
  refine wpAnyH_take (i:=6) (v:=?vx5_6) rfl (by kernel_rfl) (by kernel_rfl) (by kernel_rfl) (fun _ _ _ h => h) (Or.inl ⟨by rfl,?hyx5_6⟩) (by assumption) ?restx5_6
  case hyx5_6 => (intro w hSw; have F:=Ok.sees hSw; clear hSw; simp only [sees,kBlk,cellsAt,Nat.reduceAdd] at F; go_simp; try with_reducible rfl)
  try simp only [Act.put,List.setIfInBounds_toArray,List.set_cons_zero,List.set_cons_succ,List.getElem_toArray,List.getElem_cons_succ,List.getElem_cons_zero]
  refine wpAnyH_take (i:=7) (v:=?vx6_7) rfl (by kernel_rfl) (by kernel_rfl) (by kernel_rfl) (fun _ _ _ h => h) (Or.inl ⟨by rfl,?hyx6_7⟩) (by assumption) ?restx6_7
  case hyx6_7 => (intro w hSw; have F:=Ok.sees hSw; clear hSw; simp only [sees,kBlk,cellsAt,Nat.reduceAdd] at F; go_simp; try with_reducible rfl)
  try simp only [Act.put,List.setIfInBounds_toArray,List.set_cons_zero,List.set_cons_succ,List.getElem_toArray,List.getElem_cons_succ,List.getElem_cons_zero]
  refine wpAnyH_take (i:=8) (v:=?vx7_8) rfl (by kernel_rfl) (by kernel_rfl) (by kernel_rfl) (fun _ _ _ h => h) (Or.inl ⟨by rfl,?hyx7_8⟩) (by assumption) ?restx7_8
  case hyx7_8 => (intro w hSw; have F:=Ok.sees hSw; clear hSw; simp only [sees,kBlk,cellsAt,Nat.reduceAdd] at F; go_simp; try with_reducible rfl)
  try simp only [Act.put,List.setIfInBounds_toArray,List.set_cons_zero,List.set_cons_succ,List.getElem_toArray,List.getElem_cons_succ,List.getElem_cons_zero]
  refine wpAnyH_take (i:=10) (v:=?vx8_10) rfl (by kernel_rfl) (by kernel_rfl) (by kernel_rfl) (fun _ _ _ h => h) (Or.inl ⟨by rfl,?hyx8_10⟩) (by assumption) ?restx8_10
  case hyx8_10 => (intro w hSw; have F:=Ok.sees hSw; clear hSw; simp only [sees,kBlk,cellsAt,Nat.reduceAdd] at F; go_simp; try with_reducible rfl)
  try simp only [Act.put,List.setIfInBounds_toArray,List.set_cons_zero,List.set_cons_succ,List.getElem_toArray,List.getElem_cons_succ,List.getElem_cons_zero]
  refine wpAnyH_take (i:=11) (v:=?vx9_11) rfl (by kernel_rfl) (by kernel_rfl) (by kernel_rfl) (fun _ _ _ h => h) (Or.inl ⟨by rfl,?hyx9_11⟩) (by assumption) ?restx9_11
  case hyx9_11 => (intro w hSw; have F:=Ok.sees hSw; clear hSw; simp only [sees,kBlk,cellsAt,Nat.reduceAdd] at F; go_simp; try with_reducible rfl)
  try simp only [Act.put,List.setIfInBounds_toArray,List.set_cons_zero,List.set_cons_succ,List.getElem_toArray,List.getElem_cons_succ,List.getElem_cons_zero]
  refine wpAnyH_take (i:=13) (v:=?vx10_13) rfl (by kernel_rfl) (by kernel_rfl) (by kernel_rfl) (fun _ _ _ h => h) (Or.inl ⟨by rfl,?hyx10_13⟩) (by assumption) ?restx10_13
  case hyx10_13 => (intro w hSw; have F:=Ok.sees hSw; clear hSw; simp only [sees,kBlk,cellsAt,Nat.reduceAdd] at F; go_simp; try with_reducible rfl)
  try simp only [Act.put,List.setIfInBounds_toArray,List.set_cons_zero,List.set_cons_succ,List.getElem_toArray,List.getElem_cons_succ,List.getElem_cons_zero]
  refine wpAnyH_take (i:=14) (v:=?vx11_14) rfl (by kernel_rfl) (by kernel_rfl) (by kernel_rfl) (fun _ _ _ h => h) (Or.inl ⟨by rfl,?hyx11_14⟩) (by assumption) ?restx11_14
  case hyx11_14 => (intro w hSw; have F:=Ok.sees hSw; clear hSw; simp only [sees,kBlk,cellsAt,Nat.reduceAdd] at F; go_simp; try with_reducible rfl)
  try simp only [Act.put,List.setIfInBounds_toArray,List.set_cons_zero,List.set_cons_succ,List.getElem_toArray,List.getElem_cons_succ,List.getElem_cons_zero]
  refine wpAnyH_take (i:=16) (v:=?vx12_16) rfl (by kernel_rfl) (by kernel_rfl) (by kernel_rfl) (fun _ _ _ h => h) (Or.inl ⟨by rfl,?hyx12_16⟩) (by assumption) ?restx12_16
  case hyx12_16 => (intro w hSw; have F:=Ok.sees hSw; clear hSw; simp only [sees,kBlk,cellsAt,Nat.reduceAdd] at F; go_simp; try with_reducible rfl)
  try simp only [Act.put,List.setIfInBounds_toArray,List.set_cons_zero,List.set_cons_succ,List.getElem_toArray,List.getElem_cons_succ,List.getElem_cons_zero]
  refine wpAnyH_take (i:=17) (v:=?vx13_17) rfl (by kernel_rfl) (by kernel_rfl) (by kernel_rfl) (fun _ _ _ h => h) (Or.inl ⟨by rfl,?hyx13_17⟩) (by assumption) ?restx13_17
  case hyx13_17 => (intro w hSw; have F:=Ok.sees hSw; clear hSw; simp only [sees,kBlk,cellsAt,Nat.reduceAdd] at F; go_simp; try with_reducible rfl)
  try simp only [Act.put,List.setIfInBounds_toArray,List.set_cons_zero,List.set_cons_succ,List.getElem_toArray,List.getElem_cons_succ,List.getElem_cons_zero]
  refine wpAnyH_ready (rs:=[2]) (by kernel_rfl) (by simp) ?_
  refine AllReadyH.cons rfl (fun K hK => ?_) AllReadyH.nil
  go_simp
  refine (rn_num st B1.out _).mono ?_
  rintro e w5 ⟨rfl,hb6⟩
  go_wp2_with fail
  have H7:=Lib.hid (H3.out.below hb6)
  clear hb6 H3
  refine hK.out _ _ (H7.out) (fun hHeld => ?_)
  clear hK K
  try simp only [Act.put,List.setIfInBounds_toArray,List.set_cons_zero,List.set_cons_succ,List.getElem_toArray,List.getElem_cons_succ,List.getElem_cons_zero]
  refine wpAnyH_ready (rs:=[5]) (by kernel_rfl) (by simp) ?_
  refine AllReadyH.cons rfl (fun K hK => ?_) AllReadyH.nil
  go_simp
  refine (rn_num us B2.out _).mono ?_
  rintro e w8 ⟨rfl,hb9⟩
  go_wp2_with fail
  have H10:=Lib.hid (H7.out.below hb9)
  clear hb9 H7
  refine hK.out _ _ (H10.out) (fun hHeld => ?_)
  clear hK K
  try simp only [Act.put,List.setIfInBounds_toArray,List.set_cons_zero,List.set_cons_succ,List.getElem_toArray,List.getElem_cons_succ,List.getElem_cons_zero]
  refine wpAnyH_ready (rs:=[9]) (by kernel_rfl) (by simp) ?_
  refine AllReadyH.cons rfl (fun K hK => ?_) AllReadyH.nil
  go_simp
  rw [HWK.out]
  refine (rn_num (k : Nat) BK.out _).mono ?_
  rintro e w11 ⟨rfl,hb12⟩
  go_wp2_with fail
  have H13:=Lib.hid (H10.out.below hb12)
  clear hb12 H10
  refine hK.out _ _ (H13.out) (fun hHeld => ?_)
  clear hK K
  try simp only [Act.put,List.setIfInBounds_toArray,List.set_cons_zero,List.set_cons_succ,List.getElem_toArray,List.getElem_cons_succ,List.getElem_cons_zero]
  refine wpAnyH_ready (rs:=[12]) (by kernel_rfl) (by simp) ?_
  refine AllReadyH.cons rfl (fun K hK => ?_) AllReadyH.nil
  go_simp
  refine (HR.out _).mono ?_
  rintro e w14 ⟨rfl,hb15⟩
  go_wp2_with fail
  have H16:=Lib.hid (H13.out.below hb15)
  clear hb15 H13
  refine hK.out _ _ (H16.out) (fun hHeld => ?_)
  clear hK K
  try simp only [Act.put,List.setIfInBounds_toArray,List.set_cons_zero,List.set_cons_succ,List.getElem_toArray,List.getElem_cons_succ,List.getElem_cons_zero]
  refine wpAnyH_ready (rs:=[15]) (by kernel_rfl) (by simp) ?_
  refine AllReadyH.cons rfl (fun K hK => ?_) AllReadyH.nil
  go_simp
  refine (HC.out _).mono ?_
  rintro e w17 ⟨rfl,hb18⟩
  go_wp2_with fail
  have H19:=Lib.hid (H16.out.below hb18)
  clear hb18 H16
  refine hK.out _ _ (H19.out) (fun hHeld => ?_)
  clear hK K
  try simp only [Act.put,List.setIfInBounds_toArray,List.set_cons_zero,List.set_cons_succ,List.getElem_toArray,List.getElem_cons_succ,List.getElem_cons_zero]
  refine wpAnyH_ready (rs:=[18]) (by kernel_rfl) (by simp) ?_
  refine AllReadyH.cons rfl (fun K hK => ?_) AllReadyH.nil
  go_simp
  refine (r18_Fmt t BT.out _).mono ?_
  rintro e w20 ⟨rfl,hb21⟩
  go_wp2_with fail
  have H22:=Lib.hid (H19.out.below hb21)
  clear hb21 H19
  refine hK.out _ _ (H22.out) (fun hHeld => ?_)
  clear hK K
  try simp only [Act.put,List.setIfInBounds_toArray,List.set_cons_zero,List.set_cons_succ,List.getElem_toArray,List.getElem_cons_succ,List.getElem_cons_zero]
  refine wpAnyH_ready (rs:=[19]) (by kernel_rfl) (by simp) ?_
  refine AllReadyH.cons rfl (fun K hK => ?_) AllReadyH.nil
  go_simp
  have H23:=Lib.hid (H22.out.alloc (w20.heap.size) 9 [.string ⟨([101,118,101,110,116]).toArray⟩,.string ⟨(Lib.itoa st).toArray⟩,.string ⟨(Lib.itoa us).toArray⟩,.string ⟨(Lib.itoa (k : Nat)).toArray⟩,.string ⟨(RT).toArray⟩,.string ⟨(YT).toArray⟩,.string ⟨(gfmtL t).toArray⟩] rfl)
  clear H22
  refine hK.out _ _ (H23.out.tail) (fun hHeld => ?_)
  clear hK K
  try simp only [Act.put,List.setIfInBounds_toArray,List.set_cons_zero,List.set_cons_succ,List.getElem_toArray,List.getElem_cons_succ,List.getElem_cons_zero]
  generalize (w20.alloc (.cells #[.string ⟨([101,118,101,110,116]).toArray⟩,.string ⟨(Lib.itoa st).toArray⟩,.string ⟨(Lib.itoa us).toArray⟩,.string ⟨(Lib.itoa (k : Nat)).toArray⟩,.string ⟨(RT).toArray⟩,.string ⟨(YT).toArray⟩,.string ⟨(gfmtL t).toArray⟩] 9)) = W24 at H23 hHeld ⊢
  refine wpAnyH_ready (rs:=[20]) (by kernel_rfl) (by simp) ?_
  refine AllReadyH.cons rfl (fun K hK => ?_) AllReadyH.nil
  have h9:=H23.out.all _ (List.mem_cons_self ..)
  have hb9 : Blk W24 (w20.heap.size) 9 (strsV [[101,118,101,110,116],Lib.itoa st,Lib.itoa us,Lib.itoa (k : Nat),RT,YT,gfmtL t]).toArray:=h9
  clear h9
  go_simp
  refine (rn_join [[101,118,101,110,116],Lib.itoa st,Lib.itoa us,Lib.itoa (k : Nat),RT,YT,gfmtL t] hb9 rfl (by simp) (Nat.le_trans HLN.out (by simp))).mono ?_
  rintro e w25 ⟨rfl,hb26⟩
  rw [HLL.out]
  go_wp2_with fail
  have H27:=Lib.hid (H23.out.below hb26)
  clear hb26 H23
  refine hK.out _ _ (H27.out.tail) (fun hHeld => ?_)
  clear hK K
  try simp only [Act.put,List.setIfInBounds_toArray,List.set_cons_zero,List.set_cons_succ,List.getElem_toArray,List.getElem_cons_succ,List.getElem_cons_zero]
  refine wpAnyH_take (i:=21) (v:=?vx14_21) rfl (by kernel_rfl) (by kernel_rfl) (by kernel_rfl) (fun _ _ _ h => h) (Or.inl ⟨by rfl,?hyx14_21⟩) (by assumption) ?restx14_21
  case hyx14_21 => (intro w hSw; have F:=Ok.sees hSw; clear hSw; simp only [sees,kBlk,cellsAt,Nat.reduceAdd] at F; go_simp; try with_reducible rfl)
  try simp only [Act.put,List.setIfInBounds_toArray,List.set_cons_zero,List.set_cons_succ,List.getElem_toArray,List.getElem_cons_succ,List.getElem_cons_zero]
  refine wpAnyH_done (by kernel_rfl) ?_ _
  clear hHeld
  go_wp2_with fail
  go_ret
  exact ⟨rfl,H27.out.bel⟩
set_option maxRecDepth 100000 in
set_option maxHeartbeats 8000000 in
theorem rn_shown (st c0 r0 nd : Int) (k : Nat) (x1 y1 x2 y2 gr : Int) (t : Nat) (b1 : i64B st) (b2 : i64B c0) (b3 : i64B r0) (b4 : i64B nd) (bk : k < 256) (h1 : i64B x1) (h2 : i64B y1) (h3 : i64B x2) (h4 : i64B y2) (b5 : i64B gr) (bt : t < 18446744073709551616) (w : World) :
    Calls Tryz.prog 36 #[.agg #[.int .i64 st,.int .i64 c0,.int .i64 r0,.int .i64 nd,.int .u8 (k : Nat),.int .i64 x1,.int .i64 y1,.int .i64 x2,.int .i64 y2,.int .i64 gr,.int .u64 (t : Nat)]] w fun e w' => e = .returned (.string ⟨(rlL ⟨st,c0,r0,nd,k,⟨x1,y1,x2,y2⟩,gr,t⟩).toArray⟩) ∧ Below w.heap.size w w':=by
  have HLN:=keep (join_le [[115,104,111,119,110],Lib.itoa st,rangeL ⟨c0,r0,c0,r0⟩,Lib.itoa nd,Lib.itoa (k : Nat),rangeL ⟨x1,y1,x2,y2⟩,Lib.itoa gr,gfmtL t] 10000 (by
    intro x hx
    simp only [List.mem_cons,List.not_mem_nil,or_false] at hx
    rcases hx with rfl | rfl | rfl | rfl | rfl | rfl | rfl | rfl
    all_goals first | decide | exact Nat.le_trans (itoa_len _ (by assumption)) (by decide) | exact Nat.le_trans (itoa_len _ ⟨by omega,by omega⟩) (by decide) | exact rangeL_len _ (by assumption) (by assumption) (by assumption) (by assumption) | exact gfmtL_lenL _ | (unfold yesL; split <;> decide)))
  have B1:=keep b1
  have B4:=keep b4
  have B5:=keep b5
  have BK:=keep (show i64B (k : Nat) from ⟨by omega,by omega⟩)
  have HWK:=keep (show IntKind.i64.wrap (k : Int) = (k : Int) from Go.IntWalk.i64_in _ (by omega))
  have HR:=keep (fun W => r9_Range ⟨x1,y1,x2,y2⟩ h1 h2 h3 h4 W)
  have HA:=keep (fun W => rn_address c0 r0 b2 b3 W)
  have BT:=keep bt
  have HLL:=keep (show Lib.join [[115,104,111,119,110],Lib.itoa st,rangeL ⟨c0,r0,c0,r0⟩,Lib.itoa nd,Lib.itoa (k : Nat),rangeL ⟨x1,y1,x2,y2⟩,Lib.itoa gr,gfmtL t] [32] = rlL ⟨st,c0,r0,nd,k,⟨x1,y1,x2,y2⟩,gr,t⟩ from rfl)
  obtain ⟨L,hL⟩ : ∃ L,rlL ⟨st,c0,r0,nd,k,⟨x1,y1,x2,y2⟩,gr,t⟩ = L:=⟨_,rfl⟩
  obtain ⟨RT,hRT⟩ : ∃ R,rangeL ⟨x1,y1,x2,y2⟩ = R:=⟨_,rfl⟩
  obtain ⟨AT,hAT⟩ : ∃ R,rangeL ⟨c0,r0,c0,r0⟩ = R:=⟨_,rfl⟩
  rw [hL,hRT,hAT] at HLL
  rw [hRT,hAT] at HLN
  rw [hRT] at HR
  rw [hAT] at HA
  rw [hL]
  clear b1 b2 b3 b4 b5 bk h1 h2 h3 h4 bt hL hRT hAT
  dsimp only at HR
  have H1:=Lib.hid ((Ok.start w).alloc w.heap.size 76 [.int .i64 st,.int .i64 c0,.int .i64 r0,.int .i64 nd,.int .u8 (k : Nat),.int .i64 x1,.int .i64 y1,.int .i64 x2,.int .i64 y2,.int .i64 gr,.int .u64 (t : Nat)] rfl)
  go_enter Tryz.func36,Tryz.ntmps36
  go_upto_region 1 with fail
  generalize (w.alloc (.cells #[.int .i64 st,.int .i64 c0,.int .i64 r0,.int .i64 nd,.int .u8 (k : Nat),.int .i64 x1,.int .i64 y1,.int .i64 x2,.int .i64 y2,.int .i64 gr,.int .u64 (t : Nat)] 76)) = W2 at H1 ⊢
  refine wp_region_held_drew (S:=fun W => Ok w [kBlk (w.heap.size) 76 [.int .i64 st,.int .i64 c0,.int .i64 r0,.int .i64 nd,.int .u8 (k : Nat),.int .i64 x1,.int .i64 y1,.int .i64 x2,.int .i64 y2,.int .i64 gr,.int .u64 (t : Nat)]] W) (by kernel_rfl) H1.out.drew (fun hHeld => ?_)
  have H3:=Lib.hid H1.out.drew
  clear H1
  generalize W2.drew = W4 at hHeld H3 ⊢
  refine wpAnyH_take (i:=0) (v:=?vx15_0) rfl (by kernel_rfl) (by kernel_rfl) (by kernel_rfl) (fun _ _ _ h => h) (Or.inl ⟨by rfl,?hyx15_0⟩) (by assumption) ?restx15_0
  case hyx15_0 => (intro w hSw; have F:=Ok.sees hSw; clear hSw; simp only [sees,kBlk,cellsAt,Nat.reduceAdd] at F; go_simp; try with_reducible rfl)
  try simp only [Act.put,List.setIfInBounds_toArray,List.set_cons_zero,List.set_cons_succ,List.getElem_toArray,List.getElem_cons_zero]
  refine wpAnyH_take (i:=1) (v:=?vx16_1) rfl (by kernel_rfl) (by kernel_rfl) (by kernel_rfl) (fun _ _ _ h => h) (Or.inl ⟨by rfl,?hyx16_1⟩) (by assumption) ?restx16_1
  case hyx16_1 => (intro w hSw; have F:=Ok.sees hSw; clear hSw; simp only [sees,kBlk,cellsAt,Nat.reduceAdd] at F; go_simp; try with_reducible rfl)
  try simp only [Act.put,List.setIfInBounds_toArray,List.set_cons_zero,List.set_cons_succ,List.getElem_toArray,List.getElem_cons_succ,List.getElem_cons_zero]
  refine wpAnyH_take (i:=3) (v:=?vx17_3) rfl (by kernel_rfl) (by kernel_rfl) (by kernel_rfl) (fun _ _ _ h => h) (Or.inl ⟨by rfl,?hyx17_3⟩) (by assumption) ?restx17_3
  case hyx17_3 => (intro w hSw; have F:=Ok.sees hSw; clear hSw; simp only [sees,kBlk,cellsAt,Nat.reduceAdd] at F; go_simp; try with_reducible rfl)
  try simp only [Act.put,List.setIfInBounds_toArray,List.set_cons_zero,List.set_cons_succ,List.getElem_toArray,List.getElem_cons_succ,List.getElem_cons_zero]
  refine wpAnyH_take (i:=4) (v:=?vx18_4) rfl (by kernel_rfl) (by kernel_rfl) (by kernel_rfl) (fun _ _ _ h => h) (Or.inl ⟨by rfl,?hyx18_4⟩) (by assumption) ?restx18_4
  case hyx18_4 => (intro w hSw; have F:=Ok.sees hSw; clear hSw; simp only [sees,kBlk,cellsAt,Nat.reduceAdd] at F; go_simp; try with_reducible rfl)
  try simp only [Act.put,List.setIfInBounds_toArray,List.set_cons_zero,List.set_cons_succ,List.getElem_toArray,List.getElem_cons_succ,List.getElem_cons_zero]
  refine wpAnyH_take (i:=5) (v:=?vx19_5) rfl (by kernel_rfl) (by kernel_rfl) (by kernel_rfl) (fun _ _ _ h => h) (Or.inl ⟨by rfl,?hyx19_5⟩) (by assumption) ?restx19_5
  case hyx19_5 => (intro w hSw; have F:=Ok.sees hSw; clear hSw; simp only [sees,kBlk,cellsAt,Nat.reduceAdd] at F; go_simp; try with_reducible rfl)
  try simp only [Act.put,List.setIfInBounds_toArray,List.set_cons_zero,List.set_cons_succ,List.getElem_toArray,List.getElem_cons_succ,List.getElem_cons_zero]
  refine wpAnyH_take (i:=7) (v:=?vx20_7) rfl (by kernel_rfl) (by kernel_rfl) (by kernel_rfl) (fun _ _ _ h => h) (Or.inl ⟨by rfl,?hyx20_7⟩) (by assumption) ?restx20_7
  case hyx20_7 => (intro w hSw; have F:=Ok.sees hSw; clear hSw; simp only [sees,kBlk,cellsAt,Nat.reduceAdd] at F; go_simp; try with_reducible rfl)
  try simp only [Act.put,List.setIfInBounds_toArray,List.set_cons_zero,List.set_cons_succ,List.getElem_toArray,List.getElem_cons_succ,List.getElem_cons_zero]
  refine wpAnyH_take (i:=8) (v:=?vx21_8) rfl (by kernel_rfl) (by kernel_rfl) (by kernel_rfl) (fun _ _ _ h => h) (Or.inl ⟨by rfl,?hyx21_8⟩) (by assumption) ?restx21_8
  case hyx21_8 => (intro w hSw; have F:=Ok.sees hSw; clear hSw; simp only [sees,kBlk,cellsAt,Nat.reduceAdd] at F; go_simp; try with_reducible rfl)
  try simp only [Act.put,List.setIfInBounds_toArray,List.set_cons_zero,List.set_cons_succ,List.getElem_toArray,List.getElem_cons_succ,List.getElem_cons_zero]
  refine wpAnyH_take (i:=9) (v:=?vx22_9) rfl (by kernel_rfl) (by kernel_rfl) (by kernel_rfl) (fun _ _ _ h => h) (Or.inl ⟨by rfl,?hyx22_9⟩) (by assumption) ?restx22_9
  case hyx22_9 => (intro w hSw; have F:=Ok.sees hSw; clear hSw; simp only [sees,kBlk,cellsAt,Nat.reduceAdd] at F; go_simp; try with_reducible rfl)
  try simp only [Act.put,List.setIfInBounds_toArray,List.set_cons_zero,List.set_cons_succ,List.getElem_toArray,List.getElem_cons_succ,List.getElem_cons_zero]
  refine wpAnyH_take (i:=11) (v:=?vx23_11) rfl (by kernel_rfl) (by kernel_rfl) (by kernel_rfl) (fun _ _ _ h => h) (Or.inl ⟨by rfl,?hyx23_11⟩) (by assumption) ?restx23_11
  case hyx23_11 => (intro w hSw; have F:=Ok.sees hSw; clear hSw; simp only [sees,kBlk,cellsAt,Nat.reduceAdd] at F; go_simp; try with_reducible rfl)
  try simp only [Act.put,List.setIfInBounds_toArray,List.set_cons_zero,List.set_cons_succ,List.getElem_toArray,List.getElem_cons_succ,List.getElem_cons_zero]
  refine wpAnyH_take (i:=12) (v:=?vx24_12) rfl (by kernel_rfl) (by kernel_rfl) (by kernel_rfl) (fun _ _ _ h => h) (Or.inl ⟨by rfl,?hyx24_12⟩) (by assumption) ?restx24_12
  case hyx24_12 => (intro w hSw; have F:=Ok.sees hSw; clear hSw; simp only [sees,kBlk,cellsAt,Nat.reduceAdd] at F; go_simp; try with_reducible rfl)
  try simp only [Act.put,List.setIfInBounds_toArray,List.set_cons_zero,List.set_cons_succ,List.getElem_toArray,List.getElem_cons_succ,List.getElem_cons_zero]
  refine wpAnyH_take (i:=13) (v:=?vx25_13) rfl (by kernel_rfl) (by kernel_rfl) (by kernel_rfl) (fun _ _ _ h => h) (Or.inl ⟨by rfl,?hyx25_13⟩) (by assumption) ?restx25_13
  case hyx25_13 => (intro w hSw; have F:=Ok.sees hSw; clear hSw; simp only [sees,kBlk,cellsAt,Nat.reduceAdd] at F; go_simp; try with_reducible rfl)
  try simp only [Act.put,List.setIfInBounds_toArray,List.set_cons_zero,List.set_cons_succ,List.getElem_toArray,List.getElem_cons_succ,List.getElem_cons_zero]
  refine wpAnyH_take (i:=15) (v:=?vx26_15) rfl (by kernel_rfl) (by kernel_rfl) (by kernel_rfl) (fun _ _ _ h => h) (Or.inl ⟨by rfl,?hyx26_15⟩) (by assumption) ?restx26_15
  case hyx26_15 => (intro w hSw; have F:=Ok.sees hSw; clear hSw; simp only [sees,kBlk,cellsAt,Nat.reduceAdd] at F; go_simp; try with_reducible rfl)
  try simp only [Act.put,List.setIfInBounds_toArray,List.set_cons_zero,List.set_cons_succ,List.getElem_toArray,List.getElem_cons_succ,List.getElem_cons_zero]
  refine wpAnyH_take (i:=16) (v:=?vx27_16) rfl (by kernel_rfl) (by kernel_rfl) (by kernel_rfl) (fun _ _ _ h => h) (Or.inl ⟨by rfl,?hyx27_16⟩) (by assumption) ?restx27_16
  case hyx27_16 => (intro w hSw; have F:=Ok.sees hSw; clear hSw; simp only [sees,kBlk,cellsAt,Nat.reduceAdd] at F; go_simp; try with_reducible rfl)
  try simp only [Act.put,List.setIfInBounds_toArray,List.set_cons_zero,List.set_cons_succ,List.getElem_toArray,List.getElem_cons_succ,List.getElem_cons_zero]
  refine wpAnyH_take (i:=18) (v:=?vx28_18) rfl (by kernel_rfl) (by kernel_rfl) (by kernel_rfl) (fun _ _ _ h => h) (Or.inl ⟨by rfl,?hyx28_18⟩) (by assumption) ?restx28_18
  case hyx28_18 => (intro w hSw; have F:=Ok.sees hSw; clear hSw; simp only [sees,kBlk,cellsAt,Nat.reduceAdd] at F; go_simp; try with_reducible rfl)
  try simp only [Act.put,List.setIfInBounds_toArray,List.set_cons_zero,List.set_cons_succ,List.getElem_toArray,List.getElem_cons_succ,List.getElem_cons_zero]
  refine wpAnyH_take (i:=19) (v:=?vx29_19) rfl (by kernel_rfl) (by kernel_rfl) (by kernel_rfl) (fun _ _ _ h => h) (Or.inl ⟨by rfl,?hyx29_19⟩) (by assumption) ?restx29_19
  case hyx29_19 => (intro w hSw; have F:=Ok.sees hSw; clear hSw; simp only [sees,kBlk,cellsAt,Nat.reduceAdd] at F; go_simp; try with_reducible rfl)
  try simp only [Act.put,List.setIfInBounds_toArray,List.set_cons_zero,List.set_cons_succ,List.getElem_toArray,List.getElem_cons_succ,List.getElem_cons_zero]
  refine wpAnyH_take (i:=21) (v:=?vx30_21) rfl (by kernel_rfl) (by kernel_rfl) (by kernel_rfl) (fun _ _ _ h => h) (Or.inl ⟨by rfl,?hyx30_21⟩) (by assumption) ?restx30_21
  case hyx30_21 => (intro w hSw; have F:=Ok.sees hSw; clear hSw; simp only [sees,kBlk,cellsAt,Nat.reduceAdd] at F; go_simp; try with_reducible rfl)
  try simp only [Act.put,List.setIfInBounds_toArray,List.set_cons_zero,List.set_cons_succ,List.getElem_toArray,List.getElem_cons_succ,List.getElem_cons_zero]
  refine wpAnyH_take (i:=22) (v:=?vx31_22) rfl (by kernel_rfl) (by kernel_rfl) (by kernel_rfl) (fun _ _ _ h => h) (Or.inl ⟨by rfl,?hyx31_22⟩) (by assumption) ?restx31_22
  case hyx31_22 => (intro w hSw; have F:=Ok.sees hSw; clear hSw; simp only [sees,kBlk,cellsAt,Nat.reduceAdd] at F; go_simp; try with_reducible rfl)
  try simp only [Act.put,List.setIfInBounds_toArray,List.set_cons_zero,List.set_cons_succ,List.getElem_toArray,List.getElem_cons_succ,List.getElem_cons_zero]
  refine wpAnyH_ready (rs:=[2]) (by kernel_rfl) (by simp) ?_
  refine AllReadyH.cons rfl (fun K hK => ?_) AllReadyH.nil
  go_simp
  refine (rn_num st B1.out _).mono ?_
  rintro e w5 ⟨rfl,hb6⟩
  go_wp2_with fail
  have H7:=Lib.hid (H3.out.below hb6)
  clear hb6 H3
  refine hK.out _ _ (H7.out) (fun hHeld => ?_)
  clear hK K
  try simp only [Act.put,List.setIfInBounds_toArray,List.set_cons_zero,List.set_cons_succ,List.getElem_toArray,List.getElem_cons_succ,List.getElem_cons_zero]
  refine wpAnyH_ready (rs:=[6]) (by kernel_rfl) (by simp) ?_
  refine AllReadyH.cons rfl (fun K hK => ?_) AllReadyH.nil
  go_simp
  refine (HA.out _).mono ?_
  rintro e w8 ⟨rfl,hb9⟩
  go_wp2_with fail
  have H10:=Lib.hid (H7.out.below hb9)
  clear hb9 H7
  refine hK.out _ _ (H10.out) (fun hHeld => ?_)
  clear hK K
  try simp only [Act.put,List.setIfInBounds_toArray,List.set_cons_zero,List.set_cons_succ,List.getElem_toArray,List.getElem_cons_succ,List.getElem_cons_zero]
  refine wpAnyH_ready (rs:=[10]) (by kernel_rfl) (by simp) ?_
  refine AllReadyH.cons rfl (fun K hK => ?_) AllReadyH.nil
  go_simp
  refine (rn_num nd B4.out _).mono ?_
  rintro e w11 ⟨rfl,hb12⟩
  go_wp2_with fail
  have H13:=Lib.hid (H10.out.below hb12)
  clear hb12 H10
  refine hK.out _ _ (H13.out) (fun hHeld => ?_)
  clear hK K
  try simp only [Act.put,List.setIfInBounds_toArray,List.set_cons_zero,List.set_cons_succ,List.getElem_toArray,List.getElem_cons_succ,List.getElem_cons_zero]
  refine wpAnyH_ready (rs:=[14]) (by kernel_rfl) (by simp) ?_
  refine AllReadyH.cons rfl (fun K hK => ?_) AllReadyH.nil
  go_simp
  rw [HWK.out]
  refine (rn_num (k : Nat) BK.out _).mono ?_
  rintro e w14 ⟨rfl,hb15⟩
  go_wp2_with fail
  have H16:=Lib.hid (H13.out.below hb15)
  clear hb15 H13
  refine hK.out _ _ (H16.out) (fun hHeld => ?_)
  clear hK K
  try simp only [Act.put,List.setIfInBounds_toArray,List.set_cons_zero,List.set_cons_succ,List.getElem_toArray,List.getElem_cons_succ,List.getElem_cons_zero]
  refine wpAnyH_ready (rs:=[17]) (by kernel_rfl) (by simp) ?_
  refine AllReadyH.cons rfl (fun K hK => ?_) AllReadyH.nil
  go_simp
  refine (HR.out _).mono ?_
  rintro e w17 ⟨rfl,hb18⟩
  go_wp2_with fail
  have H19:=Lib.hid (H16.out.below hb18)
  clear hb18 H16
  refine hK.out _ _ (H19.out) (fun hHeld => ?_)
  clear hK K
  try simp only [Act.put,List.setIfInBounds_toArray,List.set_cons_zero,List.set_cons_succ,List.getElem_toArray,List.getElem_cons_succ,List.getElem_cons_zero]
  refine wpAnyH_ready (rs:=[20]) (by kernel_rfl) (by simp) ?_
  refine AllReadyH.cons rfl (fun K hK => ?_) AllReadyH.nil
  go_simp
  refine (rn_num gr B5.out _).mono ?_
  rintro e w20 ⟨rfl,hb21⟩
  go_wp2_with fail
  have H22:=Lib.hid (H19.out.below hb21)
  clear hb21 H19
  refine hK.out _ _ (H22.out) (fun hHeld => ?_)
  clear hK K
  try simp only [Act.put,List.setIfInBounds_toArray,List.set_cons_zero,List.set_cons_succ,List.getElem_toArray,List.getElem_cons_succ,List.getElem_cons_zero]
  refine wpAnyH_ready (rs:=[23]) (by kernel_rfl) (by simp) ?_
  refine AllReadyH.cons rfl (fun K hK => ?_) AllReadyH.nil
  go_simp
  refine (r18_Fmt t BT.out _).mono ?_
  rintro e w23 ⟨rfl,hb24⟩
  go_wp2_with fail
  have H25:=Lib.hid (H22.out.below hb24)
  clear hb24 H22
  refine hK.out _ _ (H25.out) (fun hHeld => ?_)
  clear hK K
  try simp only [Act.put,List.setIfInBounds_toArray,List.set_cons_zero,List.set_cons_succ,List.getElem_toArray,List.getElem_cons_succ,List.getElem_cons_zero]
  refine wpAnyH_ready (rs:=[24]) (by kernel_rfl) (by simp) ?_
  refine AllReadyH.cons rfl (fun K hK => ?_) AllReadyH.nil
  go_simp
  have H26:=Lib.hid (H25.out.alloc (w23.heap.size) 9 [.string ⟨([115,104,111,119,110]).toArray⟩,.string ⟨(Lib.itoa st).toArray⟩,.string ⟨(AT).toArray⟩,.string ⟨(Lib.itoa nd).toArray⟩,.string ⟨(Lib.itoa (k : Nat)).toArray⟩,.string ⟨(RT).toArray⟩,.string ⟨(Lib.itoa gr).toArray⟩,.string ⟨(gfmtL t).toArray⟩] rfl)
  clear H25
  refine hK.out _ _ (H26.out.tail) (fun hHeld => ?_)
  clear hK K
  try simp only [Act.put,List.setIfInBounds_toArray,List.set_cons_zero,List.set_cons_succ,List.getElem_toArray,List.getElem_cons_succ,List.getElem_cons_zero]
  generalize (w23.alloc (.cells #[.string ⟨([115,104,111,119,110]).toArray⟩,.string ⟨(Lib.itoa st).toArray⟩,.string ⟨(AT).toArray⟩,.string ⟨(Lib.itoa nd).toArray⟩,.string ⟨(Lib.itoa (k : Nat)).toArray⟩,.string ⟨(RT).toArray⟩,.string ⟨(Lib.itoa gr).toArray⟩,.string ⟨(gfmtL t).toArray⟩] 9)) = W27 at H26 hHeld ⊢
  refine wpAnyH_ready (rs:=[25]) (by kernel_rfl) (by simp) ?_
  refine AllReadyH.cons rfl (fun K hK => ?_) AllReadyH.nil
  have h9:=H26.out.all _ (List.mem_cons_self ..)
  have hb9 : Blk W27 (w23.heap.size) 9 (strsV [[115,104,111,119,110],Lib.itoa st,AT,Lib.itoa nd,Lib.itoa (k : Nat),RT,Lib.itoa gr,gfmtL t]).toArray:=h9
  clear h9
  go_simp
  refine (rn_join [[115,104,111,119,110],Lib.itoa st,AT,Lib.itoa nd,Lib.itoa (k : Nat),RT,Lib.itoa gr,gfmtL t] hb9 rfl (by simp) (Nat.le_trans HLN.out (by simp))).mono ?_
  rintro e w28 ⟨rfl,hb29⟩
  rw [HLL.out]
  go_wp2_with fail
  have H30:=Lib.hid (H26.out.below hb29)
  clear hb29 H26
  refine hK.out _ _ (H30.out.tail) (fun hHeld => ?_)
  clear hK K
  try simp only [Act.put,List.setIfInBounds_toArray,List.set_cons_zero,List.set_cons_succ,List.getElem_toArray,List.getElem_cons_succ,List.getElem_cons_zero]
  refine wpAnyH_take (i:=26) (v:=?vx32_26) rfl (by kernel_rfl) (by kernel_rfl) (by kernel_rfl) (fun _ _ _ h => h) (Or.inl ⟨by rfl,?hyx32_26⟩) (by assumption) ?restx32_26
  case hyx32_26 => (intro w hSw; have F:=Ok.sees hSw; clear hSw; simp only [sees,kBlk,cellsAt,Nat.reduceAdd] at F; go_simp; try with_reducible rfl)
  try simp only [Act.put,List.setIfInBounds_toArray,List.set_cons_zero,List.set_cons_succ,List.getElem_toArray,List.getElem_cons_succ,List.getElem_cons_zero]
  refine wpAnyH_done (by kernel_rfl) ?_ _
  clear hHeld
  go_wp2_with fail
  go_ret
  exact ⟨rfl,H30.out.bel⟩
end Go.Proofs.YtmalncmdfmoccaaGreatDoor
