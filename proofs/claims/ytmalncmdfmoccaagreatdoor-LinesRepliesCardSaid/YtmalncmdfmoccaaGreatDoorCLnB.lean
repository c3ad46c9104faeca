/- Chapter 42: the lines of events and releases. -/
import Derived.Test.YtmalncmdfmoccaaGreatDoorCLnA
import Derived.Test.YtmalncmdfmoccaaGreatDoorCLnP
import Derived.Test.YtmalncmdfmoccaaGreatDoorCLexM
namespace Go.Proofs.YtmalncmdfmoccaaGreatDoor
open Go.RowKit
set_option maxRecDepth 100000 in
set_option maxHeartbeats 8000000 in
theorem ln_event (st us : Int) (k : Nat) (x1 y1 x2 y2 : Int) (d : Bool) (t : Nat) (b1 : i64B st) (b2 : i64B us) (bk : k < 256) (h1 : i64B x1) (h2 : i64B y1) (h3 : i64B x2) (h4 : i64B y2) (bt : t < 18446744073709551616) (w : World) (he : Env6 w) :
    Calls Tryz.prog 25 #[.agg #[.int .i64 st,.int .i64 us,.int .u8 (k : Nat),.int .i64 x1,.int .i64 y1,.int .i64 x2,.int .i64 y2,.bool d,.int .u64 (t : Nat)]] w fun e w' => e = .returned (.string ⟨(evL ⟨st,us,k,⟨x1,y1,x2,y2⟩,d,t⟩).toArray⟩) ∧ Below w.heap.size w w':=by
  have HLN:=keep (join_le [[101,118,101,110,116],Lib.itoa st,Lib.itoa us,Lib.itoa (k : Nat),rangeL ⟨x1,y1,x2,y2⟩,yesL d,gfmtL t] 10000 (by
    intro x hx
    simp only [List.mem_cons,List.not_mem_nil,or_false] at hx
    rcases hx with rfl | rfl | rfl | rfl | rfl | rfl | rfl
    all_goals first | decide | exact Nat.le_trans (itoa_len _ (by assumption)) (by decide) | exact Nat.le_trans (itoa_len _ ⟨by omega,by omega⟩) (by decide) | exact rangeL_len _ (by assumption) (by assumption) (by assumption) (by assumption) | exact gfmtL_lenL _ | (unfold yesL; split <;> decide)))
  have HE:=keep he
  have B1:=keep b1
  have B2:=keep b2
  have BK:=keep (show i64B (k : Nat) from ⟨by omega,by omega⟩)
  have HWK:=keep (show IntKind.i64.wrap (k : Int) = (k : Int) from Go.IntWalk.i64_in _ (by omega))
  have HR:=keep (fun W h => ln_ranged x1 y1 x2 y2 h1 h2 h3 h4 W h)
  have BT:=keep bt
  have HLL:=keep (show Lib.join [[101,118,101,110,116],Lib.itoa st,Lib.itoa us,Lib.itoa (k : Nat),rangeL ⟨x1,y1,x2,y2⟩,yesL d,gfmtL t] [32] = evL ⟨st,us,k,⟨x1,y1,x2,y2⟩,d,t⟩ from rfl)
  obtain ⟨L,hL⟩ : ∃ L,evL ⟨st,us,k,⟨x1,y1,x2,y2⟩,d,t⟩ = L:=⟨_,rfl⟩
  obtain ⟨RT,hRT⟩ : ∃ R,rangeL ⟨x1,y1,x2,y2⟩ = R:=⟨_,rfl⟩
  obtain ⟨YT,hYT⟩ : ∃ R,yesL d = R:=⟨_,rfl⟩
  have HC:=keep (fun W => ln_choose d ⟨#[121,101,115]⟩ ⟨#[110,111]⟩ W)
  rw [show (if d then ⟨#[121,101,115]⟩ else ⟨#[110,111]⟩ : ByteArray) = ⟨YT.toArray⟩ by rw [← hYT]; cases d <;> rfl] at HC
  rw [hL,hRT,hYT] at HLL
  rw [hRT,hYT] at HLN
  rw [hRT] at HR
  rw [hL]
  clear he b1 b2 bk h1 h2 h3 h4 bt hL hRT hYT
  have H1:=Lib.hid ((Ok.start w).alloc w.heap.size 71 [.int .i64 st,.int .i64 us,.int .u8 (k : Nat),.int .i64 x1,.int .i64 y1,.int .i64 x2,.int .i64 y2,.bool d,.int .u64 (t : Nat)] rfl)
  go_enter Tryz.func25,Tryz.ntmps25
  go_upto_region 1 with fail
  generalize (w.alloc (.cells #[.int .i64 st,.int .i64 us,.int .u8 (k : Nat),.int .i64 x1,.int .i64 y1,.int .i64 x2,.int .i64 y2,.bool d,.int .u64 (t : Nat)] 71)) = W2 at H1 ⊢
  refine wp_region_held_drew (S:=fun W => Ok w [kBlk (w.heap.size) 71 [.int .i64 st,.int .i64 us,.int .u8 (k : Nat),.int .i64 x1,.int .i64 y1,.int .i64 x2,.int .i64 y2,.bool d,.int .u64 (t : Nat)]] W) (by kernel_rfl) H1.out.drew (fun hHeld => ?_)
  have H3:=Lib.hid H1.out.drew
  clear H1
  generalize W2.drew = W4 at hHeld H3 ⊢
  refine wpAnyH_take (i:=0) (v:=?vx10_0) rfl (by kernel_rfl) (by kernel_rfl) (by kernel_rfl) (fun _ _ _ h => h) (Or.inl ⟨by rfl,?hyx10_0⟩) (by assumption) ?restx10_0
  case hyx10_0 => (intro w hSw; have F:=Ok.sees hSw; clear hSw; simp only [sees,kBlk,cellsAt,Nat.reduceAdd] at F; go_simp; try with_reducible rfl)
  try simp only [Act.put,List.setIfInBounds_toArray,List.set_cons_zero,List.set_cons_succ,List.getElem_toArray,List.getElem_cons_zero]
  refine wpAnyH_take (i:=1) (v:=?vx11_1) rfl (by kernel_rfl) (by kernel_rfl) (by kernel_rfl) (fun _ _ _ h => h) (Or.inl ⟨by rfl,?hyx11_1⟩) (by assumption) ?restx11_1
  case hyx11_1 => (intro w hSw; have F:=Ok.sees hSw; clear hSw; simp only [sees,kBlk,cellsAt,Nat.reduceAdd] at F; go_simp; try with_reducible rfl)
  try simp only [Act.put,List.setIfInBounds_toArray,List.set_cons_zero,List.set_cons_succ,List.getElem_toArray,List.getElem_cons_succ,List.getElem_cons_zero]
  refine wpAnyH_take (i:=3) (v:=?vx12_3) rfl (by kernel_rfl) (by kernel_rfl) (by kernel_rfl) (fun _ _ _ h => h) (Or.inl ⟨by rfl,?hyx12_3⟩) (by assumption) ?restx12_3
  case hyx12_3 => (intro w hSw; have F:=Ok.sees hSw; clear hSw; simp only [sees,kBlk,cellsAt,Nat.reduceAdd] at F; go_simp; try with_reducible rfl)
  try simp only [Act.put,List.setIfInBounds_toArray,List.set_cons_zero,List.set_cons_succ,List.getElem_toArray,List.getElem_cons_succ,List.getElem_cons_zero]
  refine wpAnyH_take (i:=4) (v:=?vx13_4) rfl (by kernel_rfl) (by kernel_rfl) (by kernel_rfl) (fun _ _ _ h => h) (Or.inl ⟨by rfl,?hyx13_4⟩) (by assumption) ?restx13_4
  case hyx13_4 => (intro w hSw; have F:=Ok.sees hSw; clear hSw; simp only [sees,kBlk,cellsAt,Nat.reduceAdd] at F; go_simp; try with_reducible rfl)
  try simp only [Act.put,List.setIfInBounds_toArray,List.set_cons_zero,List.set_cons_succ,List.getElem_toArray,List.getElem_cons_succ,List.getElem_cons_zero]
  refine wpAnyH_take (i:=6) (v:=?vx14_6) rfl (by kernel_rfl) (by kernel_rfl) (by kernel_rfl) (fun _ _ _ h => h) (Or.inl ⟨by rfl,?hyx14_6⟩) (by assumption) ?restx14_6
  case hyx14_6 => (intro w hSw; have F:=Ok.sees hSw; clear hSw; simp only [sees,kBlk,cellsAt,Nat.reduceAdd] at F; go_simp; try with_reducible rfl)
  try simp only [Act.put,List.setIfInBounds_toArray,List.set_cons_zero,List.set_cons_succ,List.getElem_toArray,List.getElem_cons_succ,List.getElem_cons_zero]
  refine wpAnyH_take (i:=7) (v:=?vx15_7) rfl (by kernel_rfl) (by kernel_rfl) (by kernel_rfl) (fun _ _ _ h => h) (Or.inl ⟨by rfl,?hyx15_7⟩) (by assumption) ?restx15_7
  case hyx15_7 => (intro w hSw; have F:=Ok.sees hSw; clear hSw; simp only [sees,kBlk,cellsAt,Nat.reduceAdd] at F; go_simp; try with_reducible rfl)
  try simp only [Act.put,List.setIfInBounds_toArray,List.set_cons_zero,List.set_cons_succ,List.getElem_toArray,List.getElem_cons_succ,List.getElem_cons_zero]
  refine wpAnyH_take (i:=8) (v:=?vx16_8) rfl (by kernel_rfl) (by kernel_rfl) (by kernel_rfl) (fun _ _ _ h => h) (Or.inl ⟨by rfl,?hyx16_8⟩) (by assumption) ?restx16_8
  case hyx16_8 => (intro w hSw; have F:=Ok.sees hSw; clear hSw; simp only [sees,kBlk,cellsAt,Nat.reduceAdd] at F; go_simp; try with_reducible rfl)
  try simp only [Act.put,List.setIfInBounds_toArray,List.set_cons_zero,List.set_cons_succ,List.getElem_toArray,List.getElem_cons_succ,List.getElem_cons_zero]
  refine wpAnyH_take (i:=10) (v:=?vx17_10) rfl (by kernel_rfl) (by kernel_rfl) (by kernel_rfl) (fun _ _ _ h => h) (Or.inl ⟨by rfl,?hyx17_10⟩) (by assumption) ?restx17_10
  case hyx17_10 => (intro w hSw; have F:=Ok.sees hSw; clear hSw; simp only [sees,kBlk,cellsAt,Nat.reduceAdd] at F; go_simp; try with_reducible rfl)
  try simp only [Act.put,List.setIfInBounds_toArray,List.set_cons_zero,List.set_cons_succ,List.getElem_toArray,List.getElem_cons_succ,List.getElem_cons_zero]
  refine wpAnyH_take (i:=11) (v:=?vx18_11) rfl (by kernel_rfl) (by kernel_rfl) (by kernel_rfl) (fun _ _ _ h => h) (Or.inl ⟨by rfl,?hyx18_11⟩) (by assumption) ?restx18_11
  case hyx18_11 => (intro w hSw; have F:=Ok.sees hSw; clear hSw; simp only [sees,kBlk,cellsAt,Nat.reduceAdd] at F; go_simp; try with_reducible rfl)
  try simp only [Act.put,List.setIfInBounds_toArray,List.set_cons_zero,List.set_cons_succ,List.getElem_toArray,List.getElem_cons_succ,List.getElem_cons_zero]
  refine wpAnyH_take (i:=13) (v:=?vx19_13) rfl (by kernel_rfl) (by kernel_rfl) (by kernel_rfl) (fun _ _ _ h => h) (Or.inl ⟨by rfl,?hyx19_13⟩) (by assumption) ?restx19_13
  case hyx19_13 => (intro w hSw; have F:=Ok.sees hSw; clear hSw; simp only [sees,kBlk,cellsAt,Nat.reduceAdd] at F; go_simp; try with_reducible rfl)
  try simp only [Act.put,List.setIfInBounds_toArray,List.set_cons_zero,List.set_cons_succ,List.getElem_toArray,List.getElem_cons_succ,List.getElem_cons_zero]
  refine wpAnyH_take (i:=14) (v:=?vx20_14) rfl (by kernel_rfl) (by kernel_rfl) (by kernel_rfl) (fun _ _ _ h => h) (Or.inl ⟨by rfl,?hyx20_14⟩) (by assumption) ?restx20_14
  case hyx20_14 => (intro w hSw; have F:=Ok.sees hSw; clear hSw; simp only [sees,kBlk,cellsAt,Nat.reduceAdd] at F; go_simp; try with_reducible rfl)
  try simp only [Act.put,List.setIfInBounds_toArray,List.set_cons_zero,List.set_cons_succ,List.getElem_toArray,List.getElem_cons_succ,List.getElem_cons_zero]
  refine wpAnyH_take (i:=16) (v:=?vx21_16) rfl (by kernel_rfl) (by kernel_rfl) (by kernel_rfl) (fun _ _ _ h => h) (Or.inl ⟨by rfl,?hyx21_16⟩) (by assumption) ?restx21_16
  case hyx21_16 => (intro w hSw; have F:=Ok.sees hSw; clear hSw; simp only [sees,kBlk,cellsAt,Nat.reduceAdd] at F; go_simp; try with_reducible rfl)
  try simp only [Act.put,List.setIfInBounds_toArray,List.set_cons_zero,List.set_cons_succ,List.getElem_toArray,List.getElem_cons_succ,List.getElem_cons_zero]
  refine wpAnyH_take (i:=17) (v:=?vx22_17) rfl (by kernel_rfl) (by kernel_rfl) (by kernel_rfl) (fun _ _ _ h => h) (Or.inl ⟨by rfl,?hyx22_17⟩) (by assumption) ?restx22_17
  case hyx22_17 => (intro w hSw; have F:=Ok.sees hSw; clear hSw; simp only [sees,kBlk,cellsAt,Nat.reduceAdd] at F; go_simp; try with_reducible rfl)
  try simp only [Act.put,List.setIfInBounds_toArray,List.set_cons_zero,List.set_cons_succ,List.getElem_toArray,List.getElem_cons_succ,List.getElem_cons_zero]
  refine wpAnyH_ready (rs:=[2]) (by kernel_rfl) (by simp) ?_
  refine AllReadyH.cons rfl (fun K hK => ?_) AllReadyH.nil
  go_simp
  refine (ln_num st B1.out _ (HE.out.below H3.out.bel)).mono ?_
  rintro e w5 ⟨rfl,hb6⟩
  go_wp2_with fail
  have H7:=Lib.hid (H3.out.below hb6)
  clear hb6 H3
  refine hK.out _ _ (H7.out) (fun hHeld => ?_)
  clear hK K
  try simp only [Act.put,List.setIfInBounds_toArray,List.set_cons_zero,List.set_cons_succ,List.getElem_toArray,List.getElem_cons_succ,List.getElem_cons_zero]
  refine wpAnyH_ready (rs:=[5]) (by kernel_rfl) (by simp) ?_
  refine AllReadyH.cons rfl (fun K hK => ?_) AllReadyH.nil
  go_simp
  refine (ln_num us B2.out _ (HE.out.below H7.out.bel)).mono ?_
  rintro e w8 ⟨rfl,hb9⟩
  go_wp2_with fail
  have H10:=Lib.hid (H7.out.below hb9)
  clear hb9 H7
  refine hK.out _ _ (H10.out) (fun hHeld => ?_)
  clear hK K
  try simp only [Act.put,List.setIfInBounds_toArray,List.set_cons_zero,List.set_cons_succ,List.getElem_toArray,List.getElem_cons_succ,List.getElem_cons_zero]
  refine wpAnyH_ready (rs:=[9]) (by kernel_rfl) (by simp) ?_
  refine AllReadyH.cons rfl (fun K hK => ?_) AllReadyH.nil
  go_simp
  rw [HWK.out]
  refine (ln_num (k : Nat) BK.out _ (HE.out.below H10.out.bel)).mono ?_
  rintro e w11 ⟨rfl,hb12⟩
  go_wp2_with fail
  have H13:=Lib.hid (H10.out.below hb12)
  clear hb12 H10
  refine hK.out _ _ (H13.out) (fun hHeld => ?_)
  clear hK K
  try simp only [Act.put,List.setIfInBounds_toArray,List.set_cons_zero,List.set_cons_succ,List.getElem_toArray,List.getElem_cons_succ,List.getElem_cons_zero]
  refine wpAnyH_ready (rs:=[12]) (by kernel_rfl) (by simp) ?_
  refine AllReadyH.cons rfl (fun K hK => ?_) AllReadyH.nil
  go_simp
  refine (HR.out _ (HE.out.below H13.out.bel)).mono ?_
  rintro e w14 ⟨rfl,hb15⟩
  go_wp2_with fail
  have H16:=Lib.hid (H13.out.below hb15)
  clear hb15 H13
  refine hK.out _ _ (H16.out) (fun hHeld => ?_)
  clear hK K
  try simp only [Act.put,List.setIfInBounds_toArray,List.set_cons_zero,List.set_cons_succ,List.getElem_toArray,List.getElem_cons_succ,List.getElem_cons_zero]
  refine wpAnyH_ready (rs:=[15]) (by kernel_rfl) (by simp) ?_
  refine AllReadyH.cons rfl (fun K hK => ?_) AllReadyH.nil
  go_simp
  refine (HC.out _).mono ?_
  rintro e w17 ⟨rfl,hb18⟩
  go_wp2_with fail
  have H19:=Lib.hid (H16.out.below hb18)
  clear hb18 H16
  refine hK.out _ _ (H19.out) (fun hHeld => ?_)
  clear hK K
  try simp only [Act.put,List.setIfInBounds_toArray,List.set_cons_zero,List.set_cons_succ,List.getElem_toArray,List.getElem_cons_succ,List.getElem_cons_zero]
  refine wpAnyH_ready (rs:=[18]) (by kernel_rfl) (by simp) ?_
  refine AllReadyH.cons rfl (fun K hK => ?_) AllReadyH.nil
  go_simp
  refine (group_format t _ BT.out (HE.out.below H19.out.bel).2.1).mono ?_
  rintro e w20 ⟨rfl,hb21⟩
  rw [show byt (gfmtL t) = ⟨(gfmtL t).toArray⟩ from rfl]
  go_wp2_with fail
  have H22:=Lib.hid (H19.out.below hb21)
  clear hb21 H19
  refine hK.out _ _ (H22.out) (fun hHeld => ?_)
  clear hK K
  try simp only [Act.put,List.setIfInBounds_toArray,List.set_cons_zero,List.set_cons_succ,List.getElem_toArray,List.getElem_cons_succ,List.getElem_cons_zero]
  refine wpAnyH_ready (rs:=[19]) (by kernel_rfl) (by simp) ?_
  refine AllReadyH.cons rfl (fun K hK => ?_) AllReadyH.nil
  go_simp
  have H23:=Lib.hid (H22.out.alloc (w20.heap.size) 9 [.string ⟨([101,118,101,110,116]).toArray⟩,.string ⟨(Lib.itoa st).toArray⟩,.string ⟨(Lib.itoa us).toArray⟩,.string ⟨(Lib.itoa (k : Nat)).toArray⟩,.string ⟨(RT).toArray⟩,.string ⟨(YT).toArray⟩,.string ⟨(gfmtL t).toArray⟩] rfl)
  clear H22
  refine hK.out _ _ (H23.out.tail) (fun hHeld => ?_)
  clear hK K
  try simp only [Act.put,List.setIfInBounds_toArray,List.set_cons_zero,List.set_cons_succ,List.getElem_toArray,List.getElem_cons_succ,List.getElem_cons_zero]
  generalize (w20.alloc (.cells #[.string ⟨([101,118,101,110,116]).toArray⟩,.string ⟨(Lib.itoa st).toArray⟩,.string ⟨(Lib.itoa us).toArray⟩,.string ⟨(Lib.itoa (k : Nat)).toArray⟩,.string ⟨(RT).toArray⟩,.string ⟨(YT).toArray⟩,.string ⟨(gfmtL t).toArray⟩] 9)) = W24 at H23 hHeld ⊢
  refine wpAnyH_ready (rs:=[20]) (by kernel_rfl) (by simp) ?_
  refine AllReadyH.cons rfl (fun K hK => ?_) AllReadyH.nil
  have h9:=H23.out.all _ (List.mem_cons_self ..)
  have hb9 : Blk W24 (w20.heap.size) 9 (strsV [[101,118,101,110,116],Lib.itoa st,Lib.itoa us,Lib.itoa (k : Nat),RT,YT,gfmtL t]).toArray:=h9
  clear h9
  go_simp
  refine (ln_join [[101,118,101,110,116],Lib.itoa st,Lib.itoa us,Lib.itoa (k : Nat),RT,YT,gfmtL t] hb9 rfl (by simp) (Nat.le_trans HLN.out (by simp))).mono ?_
  rintro e w25 ⟨rfl,hb26⟩
  rw [HLL.out]
  go_wp2_with fail
  have H27:=Lib.hid (H23.out.below hb26)
  clear hb26 H23
  refine hK.out _ _ (H27.out.tail) (fun hHeld => ?_)
  clear hK K
  try simp only [Act.put,List.setIfInBounds_toArray,List.set_cons_zero,List.set_cons_succ,List.getElem_toArray,List.getElem_cons_succ,List.getElem_cons_zero]
  refine wpAnyH_take (i:=21) (v:=?vx23_21) rfl (by kernel_rfl) (by kernel_rfl) (by kernel_rfl) (fun _ _ _ h => h) (Or.inl ⟨by rfl,?hyx23_21⟩) (by assumption) ?restx23_21
  case hyx23_21 => (intro w hSw; have F:=Ok.sees hSw; clear hSw; simp only [sees,kBlk,cellsAt,Nat.reduceAdd] at F; go_simp; try with_reducible rfl)
  try simp only [Act.put,List.setIfInBounds_toArray,List.set_cons_zero,List.set_cons_succ,List.getElem_toArray,List.getElem_cons_succ,List.getElem_cons_zero]
  refine wpAnyH_done (by kernel_rfl) ?_ _
  clear hHeld
  go_wp2_with fail
  go_ret
  exact ⟨rfl,H27.out.bel⟩
set_option maxRecDepth 100000 in
set_option maxHeartbeats 8000000 in
theorem ln_shown (st c0 r0 nd : Int) (k : Nat) (x1 y1 x2 y2 gr : Int) (t : Nat) (b1 : i64B st) (b2 : i64B c0) (b3 : i64B r0) (b4 : i64B nd) (bk : k < 256) (h1 : i64B x1) (h2 : i64B y1) (h3 : i64B x2) (h4 : i64B y2) (b5 : i64B gr) (bt : t < 18446744073709551616) (w : World) (he : Env6 w) :
    Calls Tryz.prog 26 #[.agg #[.int .i64 st,.int .i64 c0,.int .i64 r0,.int .i64 nd,.int .u8 (k : Nat),.int .i64 x1,.int .i64 y1,.int .i64 x2,.int .i64 y2,.int .i64 gr,.int .u64 (t : Nat)]] w fun e w' => e = .returned (.string ⟨(rlL ⟨st,c0,r0,nd,k,⟨x1,y1,x2,y2⟩,gr,t⟩).toArray⟩) ∧ Below w.heap.size w w':=by
  have HLN:=keep (join_le [[115,104,111,119,110],Lib.itoa st,rangeL ⟨c0,r0,c0,r0⟩,Lib.itoa nd,Lib.itoa (k : Nat),rangeL ⟨x1,y1,x2,y2⟩,Lib.itoa gr,gfmtL t] 10000 (by
    intro x hx
    simp only [List.mem_cons,List.not_mem_nil,or_false] at hx
    rcases hx with rfl | rfl | rfl | rfl | rfl | rfl | rfl | rfl
    all_goals first | decide | exact Nat.le_trans (itoa_len _ (by assumption)) (by decide) | exact Nat.le_trans (itoa_len _ ⟨by omega,by omega⟩) (by decide) | exact rangeL_len _ (by assumption) (by assumption) (by assumption) (by assumption) | exact gfmtL_lenL _ | (unfold yesL; split <;> decide)))
  have HE:=keep he
  have B1:=keep b1
  have B4:=keep b4
  have B5:=keep b5
  have BK:=keep (show i64B (k : Nat) from ⟨by omega,by omega⟩)
  have HWK:=keep (show IntKind.i64.wrap (k : Int) = (k : Int) from Go.IntWalk.i64_in _ (by omega))
  have HR:=keep (fun W h => ln_ranged x1 y1 x2 y2 h1 h2 h3 h4 W h)
  have HA:=keep (fun W h => ln_ranged c0 r0 c0 r0 b2 b3 b2 b3 W h)
  have BT:=keep bt
  have HLL:=keep (show Lib.join [[115,104,111,119,110],Lib.itoa st,rangeL ⟨c0,r0,c0,r0⟩,Lib.itoa nd,Lib.itoa (k : Nat),rangeL ⟨x1,y1,x2,y2⟩,Lib.itoa gr,gfmtL t] [32] = rlL ⟨st,c0,r0,nd,k,⟨x1,y1,x2,y2⟩,gr,t⟩ from rfl)
  obtain ⟨L,hL⟩ : ∃ L,rlL ⟨st,c0,r0,nd,k,⟨x1,y1,x2,y2⟩,gr,t⟩ = L:=⟨_,rfl⟩
  obtain ⟨RT,hRT⟩ : ∃ R,rangeL ⟨x1,y1,x2,y2⟩ = R:=⟨_,rfl⟩
  obtain ⟨AT,hAT⟩ : ∃ R,rangeL ⟨c0,r0,c0,r0⟩ = R:=⟨_,rfl⟩
  rw [hL,hRT,hAT] at HLL
  rw [hRT,hAT] at HLN
  rw [hRT] at HR
  rw [hAT] at HA
  rw [hL]
  clear he b1 b2 b3 b4 b5 bk h1 h2 h3 h4 bt hL hRT hAT
  have H1:=Lib.hid ((Ok.start w).alloc w.heap.size 76 [.int .i64 st,.int .i64 c0,.int .i64 r0,.int .i64 nd,.int .u8 (k : Nat),.int .i64 x1,.int .i64 y1,.int .i64 x2,.int .i64 y2,.int .i64 gr,.int .u64 (t : Nat)] rfl)
  go_enter Tryz.func26,Tryz.ntmps26
  go_upto_region 1 with fail
  generalize (w.alloc (.cells #[.int .i64 st,.int .i64 c0,.int .i64 r0,.int .i64 nd,.int .u8 (k : Nat),.int .i64 x1,.int .i64 y1,.int .i64 x2,.int .i64 y2,.int .i64 gr,.int .u64 (t : Nat)] 76)) = W2 at H1 ⊢
  refine wp_region_held_drew (S:=fun W => Ok w [kBlk (w.heap.size) 76 [.int .i64 st,.int .i64 c0,.int .i64 r0,.int .i64 nd,.int .u8 (k : Nat),.int .i64 x1,.int .i64 y1,.int .i64 x2,.int .i64 y2,.int .i64 gr,.int .u64 (t : Nat)]] W) (by kernel_rfl) H1.out.drew (fun hHeld => ?_)
  have H3:=Lib.hid H1.out.drew
  clear H1
  generalize W2.drew = W4 at hHeld H3 ⊢
  refine wpAnyH_take (i:=0) (v:=?vx24_0) rfl (by kernel_rfl) (by kernel_rfl) (by kernel_rfl) (fun _ _ _ h => h) (Or.inl ⟨by rfl,?hyx24_0⟩) (by assumption) ?restx24_0
  case hyx24_0 => (intro w hSw; have F:=Ok.sees hSw; clear hSw; simp only [sees,kBlk,cellsAt,Nat.reduceAdd] at F; go_simp; try with_reducible rfl)
  try simp only [Act.put,List.setIfInBounds_toArray,List.set_cons_zero,List.set_cons_succ,List.getElem_toArray,List.getElem_cons_zero]
  refine wpAnyH_take (i:=1) (v:=?vx25_1) rfl (by kernel_rfl) (by kernel_rfl) (by kernel_rfl) (fun _ _ _ h => h) (Or.inl ⟨by rfl,?hyx25_1⟩) (by assumption) ?restx25_1
  case hyx25_1 => (intro w hSw; have F:=Ok.sees hSw; clear hSw; simp only [sees,kBlk,cellsAt,Nat.reduceAdd] at F; go_simp; try with_reducible rfl)
  try simp only [Act.put,List.setIfInBounds_toArray,List.set_cons_zero,List.set_cons_succ,List.getElem_toArray,List.getElem_cons_succ,List.getElem_cons_zero]
  refine wpAnyH_take (i:=3) (v:=?vx26_3) rfl (by kernel_rfl) (by kernel_rfl) (by kernel_rfl) (fun _ _ _ h => h) (Or.inl ⟨by rfl,?hyx26_3⟩) (by assumption) ?restx26_3
  case hyx26_3 => (intro w hSw; have F:=Ok.sees hSw; clear hSw; simp only [sees,kBlk,cellsAt,Nat.reduceAdd] at F; go_simp; try with_reducible rfl)
  try simp only [Act.put,List.setIfInBounds_toArray,List.set_cons_zero,List.set_cons_succ,List.getElem_toArray,List.getElem_cons_succ,List.getElem_cons_zero]
  refine wpAnyH_take (i:=4) (v:=?vx27_4) rfl (by kernel_rfl) (by kernel_rfl) (by kernel_rfl) (fun _ _ _ h => h) (Or.inl ⟨by rfl,?hyx27_4⟩) (by assumption) ?restx27_4
  case hyx27_4 => (intro w hSw; have F:=Ok.sees hSw; clear hSw; simp only [sees,kBlk,cellsAt,Nat.reduceAdd] at F; go_simp; try with_reducible rfl)
  try simp only [Act.put,List.setIfInBounds_toArray,List.set_cons_zero,List.set_cons_succ,List.getElem_toArray,List.getElem_cons_succ,List.getElem_cons_zero]
  refine wpAnyH_take (i:=5) (v:=?vx28_5) rfl (by kernel_rfl) (by kernel_rfl) (by kernel_rfl) (fun _ _ _ h => h) (Or.inl ⟨by rfl,?hyx28_5⟩) (by assumption) ?restx28_5
  case hyx28_5 => (intro w hSw; have F:=Ok.sees hSw; clear hSw; simp only [sees,kBlk,cellsAt,Nat.reduceAdd] at F; go_simp; try with_reducible rfl)
  try simp only [Act.put,List.setIfInBounds_toArray,List.set_cons_zero,List.set_cons_succ,List.getElem_toArray,List.getElem_cons_succ,List.getElem_cons_zero]
  refine wpAnyH_take (i:=8) (v:=?vx29_8) rfl (by kernel_rfl) (by kernel_rfl) (by kernel_rfl) (fun _ _ _ h => h) (Or.inl ⟨by rfl,?hyx29_8⟩) (by assumption) ?restx29_8
  case hyx29_8 => (intro w hSw; have F:=Ok.sees hSw; clear hSw; simp only [sees,kBlk,cellsAt,Nat.reduceAdd] at F; go_simp; try with_reducible rfl)
  try simp only [Act.put,List.setIfInBounds_toArray,List.set_cons_zero,List.set_cons_succ,List.getElem_toArray,List.getElem_cons_succ,List.getElem_cons_zero]
  refine wpAnyH_take (i:=9) (v:=?vx30_9) rfl (by kernel_rfl) (by kernel_rfl) (by kernel_rfl) (fun _ _ _ h => h) (Or.inl ⟨by rfl,?hyx30_9⟩) (by assumption) ?restx30_9
  case hyx30_9 => (intro w hSw; have F:=Ok.sees hSw; clear hSw; simp only [sees,kBlk,cellsAt,Nat.reduceAdd] at F; go_simp; try with_reducible rfl)
  try simp only [Act.put,List.setIfInBounds_toArray,List.set_cons_zero,List.set_cons_succ,List.getElem_toArray,List.getElem_cons_succ,List.getElem_cons_zero]
  refine wpAnyH_take (i:=10) (v:=?vx31_10) rfl (by kernel_rfl) (by kernel_rfl) (by kernel_rfl) (fun _ _ _ h => h) (Or.inl ⟨by rfl,?hyx31_10⟩) (by assumption) ?restx31_10
  case hyx31_10 => (intro w hSw; have F:=Ok.sees hSw; clear hSw; simp only [sees,kBlk,cellsAt,Nat.reduceAdd] at F; go_simp; try with_reducible rfl)
  try simp only [Act.put,List.setIfInBounds_toArray,List.set_cons_zero,List.set_cons_succ,List.getElem_toArray,List.getElem_cons_succ,List.getElem_cons_zero]
  refine wpAnyH_take (i:=12) (v:=?vx32_12) rfl (by kernel_rfl) (by kernel_rfl) (by kernel_rfl) (fun _ _ _ h => h) (Or.inl ⟨by rfl,?hyx32_12⟩) (by assumption) ?restx32_12
  case hyx32_12 => (intro w hSw; have F:=Ok.sees hSw; clear hSw; simp only [sees,kBlk,cellsAt,Nat.reduceAdd] at F; go_simp; try with_reducible rfl)
  try simp only [Act.put,List.setIfInBounds_toArray,List.set_cons_zero,List.set_cons_succ,List.getElem_toArray,List.getElem_cons_succ,List.getElem_cons_zero]
  refine wpAnyH_take (i:=13) (v:=?vx33_13) rfl (by kernel_rfl) (by kernel_rfl) (by kernel_rfl) (fun _ _ _ h => h) (Or.inl ⟨by rfl,?hyx33_13⟩) (by assumption) ?restx33_13
  case hyx33_13 => (intro w hSw; have F:=Ok.sees hSw; clear hSw; simp only [sees,kBlk,cellsAt,Nat.reduceAdd] at F; go_simp; try with_reducible rfl)
  try simp only [Act.put,List.setIfInBounds_toArray,List.set_cons_zero,List.set_cons_succ,List.getElem_toArray,List.getElem_cons_succ,List.getElem_cons_zero]
  refine wpAnyH_take (i:=14) (v:=?vx34_14) rfl (by kernel_rfl) (by kernel_rfl) (by kernel_rfl) (fun _ _ _ h => h) (Or.inl ⟨by rfl,?hyx34_14⟩) (by assumption) ?restx34_14
  case hyx34_14 => (intro w hSw; have F:=Ok.sees hSw; clear hSw; simp only [sees,kBlk,cellsAt,Nat.reduceAdd] at F; go_simp; try with_reducible rfl)
  try simp only [Act.put,List.setIfInBounds_toArray,List.set_cons_zero,List.set_cons_succ,List.getElem_toArray,List.getElem_cons_succ,List.getElem_cons_zero]
  refine wpAnyH_take (i:=16) (v:=?vx35_16) rfl (by kernel_rfl) (by kernel_rfl) (by kernel_rfl) (fun _ _ _ h => h) (Or.inl ⟨by rfl,?hyx35_16⟩) (by assumption) ?restx35_16
  case hyx35_16 => (intro w hSw; have F:=Ok.sees hSw; clear hSw; simp only [sees,kBlk,cellsAt,Nat.reduceAdd] at F; go_simp; try with_reducible rfl)
  try simp only [Act.put,List.setIfInBounds_toArray,List.set_cons_zero,List.set_cons_succ,List.getElem_toArray,List.getElem_cons_succ,List.getElem_cons_zero]
  refine wpAnyH_take (i:=17) (v:=?vx36_17) rfl (by kernel_rfl) (by kernel_rfl) (by kernel_rfl) (fun _ _ _ h => h) (Or.inl ⟨by rfl,?hyx36_17⟩) (by assumption) ?restx36_17
  case hyx36_17 => (intro w hSw; have F:=Ok.sees hSw; clear hSw; simp only [sees,kBlk,cellsAt,Nat.reduceAdd] at F; go_simp; try with_reducible rfl)
  try simp only [Act.put,List.setIfInBounds_toArray,List.set_cons_zero,List.set_cons_succ,List.getElem_toArray,List.getElem_cons_succ,List.getElem_cons_zero]
  refine wpAnyH_take (i:=19) (v:=?vx37_19) rfl (by kernel_rfl) (by kernel_rfl) (by kernel_rfl) (fun _ _ _ h => h) (Or.inl ⟨by rfl,?hyx37_19⟩) (by assumption) ?restx37_19
  case hyx37_19 => (intro w hSw; have F:=Ok.sees hSw; clear hSw; simp only [sees,kBlk,cellsAt,Nat.reduceAdd] at F; go_simp; try with_reducible rfl)
  try simp only [Act.put,List.setIfInBounds_toArray,List.set_cons_zero,List.set_cons_succ,List.getElem_toArray,List.getElem_cons_succ,List.getElem_cons_zero]
  refine wpAnyH_take (i:=20) (v:=?vx38_20) rfl (by kernel_rfl) (by kernel_rfl) (by kernel_rfl) (fun _ _ _ h => h) (Or.inl ⟨by rfl,?hyx38_20⟩) (by assumption) ?restx38_20
  case hyx38_20 => (intro w hSw; have F:=Ok.sees hSw; clear hSw; simp only [sees,kBlk,cellsAt,Nat.reduceAdd] at F; go_simp; try with_reducible rfl)
  try simp only [Act.put,List.setIfInBounds_toArray,List.set_cons_zero,List.set_cons_succ,List.getElem_toArray,List.getElem_cons_succ,List.getElem_cons_zero]
  refine wpAnyH_take (i:=22) (v:=?vx39_22) rfl (by kernel_rfl) (by kernel_rfl) (by kernel_rfl) (fun _ _ _ h => h) (Or.inl ⟨by rfl,?hyx39_22⟩) (by assumption) ?restx39_22
  case hyx39_22 => (intro w hSw; have F:=Ok.sees hSw; clear hSw; simp only [sees,kBlk,cellsAt,Nat.reduceAdd] at F; go_simp; try with_reducible rfl)
  try simp only [Act.put,List.setIfInBounds_toArray,List.set_cons_zero,List.set_cons_succ,List.getElem_toArray,List.getElem_cons_succ,List.getElem_cons_zero]
  refine wpAnyH_take (i:=23) (v:=?vx40_23) rfl (by kernel_rfl) (by kernel_rfl) (by kernel_rfl) (fun _ _ _ h => h) (Or.inl ⟨by rfl,?hyx40_23⟩) (by assumption) ?restx40_23
  case hyx40_23 => (intro w hSw; have F:=Ok.sees hSw; clear hSw; simp only [sees,kBlk,cellsAt,Nat.reduceAdd] at F; go_simp; try with_reducible rfl)
  try simp only [Act.put,List.setIfInBounds_toArray,List.set_cons_zero,List.set_cons_succ,List.getElem_toArray,List.getElem_cons_succ,List.getElem_cons_zero]
  refine wpAnyH_ready (rs:=[2]) (by kernel_rfl) (by simp) ?_
  refine AllReadyH.cons rfl (fun K hK => ?_) AllReadyH.nil
  go_simp
  refine (ln_num st B1.out _ (HE.out.below H3.out.bel)).mono ?_
  rintro e w5 ⟨rfl,hb6⟩
  go_wp2_with fail
  have H7:=Lib.hid (H3.out.below hb6)
  clear hb6 H3
  refine hK.out _ _ (H7.out) (fun hHeld => ?_)
  clear hK K
  try simp only [Act.put,List.setIfInBounds_toArray,List.set_cons_zero,List.set_cons_succ,List.getElem_toArray,List.getElem_cons_succ,List.getElem_cons_zero]
  refine wpAnyH_ready (rs:=[6]) (by kernel_rfl) (by simp) ?_
  refine AllReadyH.cons rfl (fun K hK => ?_) AllReadyH.nil
  go_simp
  refine (rect_One c0 r0 _).mono ?_
  rintro e w8 ⟨rfl,hb9⟩
  go_wp2_with fail
  have H10:=Lib.hid (H7.out.below hb9)
  clear hb9 H7
  refine hK.out _ _ (H10.out) (fun hHeld => ?_)
  clear hK K
  try simp only [Act.put,List.setIfInBounds_toArray,List.set_cons_zero,List.set_cons_succ,List.getElem_toArray,List.getElem_cons_succ,List.getElem_cons_zero]
  refine wpAnyH_ready (rs:=[7]) (by kernel_rfl) (by simp) ?_
  refine AllReadyH.cons rfl (fun K hK => ?_) AllReadyH.nil
  go_simp
  refine (HA.out _ (HE.out.below H10.out.bel)).mono ?_
  rintro e w11 ⟨rfl,hb12⟩
  go_wp2_with fail
  have H13:=Lib.hid (H10.out.below hb12)
  clear hb12 H10
  refine hK.out _ _ (H13.out) (fun hHeld => ?_)
  clear hK K
  try simp only [Act.put,List.setIfInBounds_toArray,List.set_cons_zero,List.set_cons_succ,List.getElem_toArray,List.getElem_cons_succ,List.getElem_cons_zero]
  refine wpAnyH_ready (rs:=[11]) (by kernel_rfl) (by simp) ?_
  refine AllReadyH.cons rfl (fun K hK => ?_) AllReadyH.nil
  go_simp
  refine (ln_num nd B4.out _ (HE.out.below H13.out.bel)).mono ?_
  rintro e w14 ⟨rfl,hb15⟩
  go_wp2_with fail
  have H16:=Lib.hid (H13.out.below hb15)
  clear hb15 H13
  refine hK.out _ _ (H16.out) (fun hHeld => ?_)
  clear hK K
  try simp only [Act.put,List.setIfInBounds_toArray,List.set_cons_zero,List.set_cons_succ,List.getElem_toArray,List.getElem_cons_succ,List.getElem_cons_zero]
  refine wpAnyH_ready (rs:=[15]) (by kernel_rfl) (by simp) ?_
  refine AllReadyH.cons rfl (fun K hK => ?_) AllReadyH.nil
  go_simp
  rw [HWK.out]
  refine (ln_num (k : Nat) BK.out _ (HE.out.below H16.out.bel)).mono ?_
  rintro e w17 ⟨rfl,hb18⟩
  go_wp2_with fail
  have H19:=Lib.hid (H16.out.below hb18)
  clear hb18 H16
  refine hK.out _ _ (H19.out) (fun hHeld => ?_)
  clear hK K
  try simp only [Act.put,List.setIfInBounds_toArray,List.set_cons_zero,List.set_cons_succ,List.getElem_toArray,List.getElem_cons_succ,List.getElem_cons_zero]
  refine wpAnyH_ready (rs:=[18]) (by kernel_rfl) (by simp) ?_
  refine AllReadyH.cons rfl (fun K hK => ?_) AllReadyH.nil
  go_simp
  refine (HR.out _ (HE.out.below H19.out.bel)).mono ?_
  rintro e w20 ⟨rfl,hb21⟩
  go_wp2_with fail
  have H22:=Lib.hid (H19.out.below hb21)
  clear hb21 H19
  refine hK.out _ _ (H22.out) (fun hHeld => ?_)
  clear hK K
  try simp only [Act.put,List.setIfInBounds_toArray,List.set_cons_zero,List.set_cons_succ,List.getElem_toArray,List.getElem_cons_succ,List.getElem_cons_zero]
  refine wpAnyH_ready (rs:=[21]) (by kernel_rfl) (by simp) ?_
  refine AllReadyH.cons rfl (fun K hK => ?_) AllReadyH.nil
  go_simp
  refine (ln_num gr B5.out _ (HE.out.below H22.out.bel)).mono ?_
  rintro e w23 ⟨rfl,hb24⟩
  go_wp2_with fail
  have H25:=Lib.hid (H22.out.below hb24)
  clear hb24 H22
  refine hK.out _ _ (H25.out) (fun hHeld => ?_)
  clear hK K
  try simp only [Act.put,List.setIfInBounds_toArray,List.set_cons_zero,List.set_cons_succ,List.getElem_toArray,List.getElem_cons_succ,List.getElem_cons_zero]
  refine wpAnyH_ready (rs:=[24]) (by kernel_rfl) (by simp) ?_
  refine AllReadyH.cons rfl (fun K hK => ?_) AllReadyH.nil
  go_simp
  refine (group_format t _ BT.out (HE.out.below H25.out.bel).2.1).mono ?_
  rintro e w26 ⟨rfl,hb27⟩
  rw [show byt (gfmtL t) = ⟨(gfmtL t).toArray⟩ from rfl]
  go_wp2_with fail
  have H28:=Lib.hid (H25.out.below hb27)
  clear hb27 H25
  refine hK.out _ _ (H28.out) (fun hHeld => ?_)
  clear hK K
  try simp only [Act.put,List.setIfInBounds_toArray,List.set_cons_zero,List.set_cons_succ,List.getElem_toArray,List.getElem_cons_succ,List.getElem_cons_zero]
  refine wpAnyH_ready (rs:=[25]) (by kernel_rfl) (by simp) ?_
  refine AllReadyH.cons rfl (fun K hK => ?_) AllReadyH.nil
  go_simp
  have H29:=Lib.hid (H28.out.alloc (w26.heap.size) 9 [.string ⟨([115,104,111,119,110]).toArray⟩,.string ⟨(Lib.itoa st).toArray⟩,.string ⟨(AT).toArray⟩,.string ⟨(Lib.itoa nd).toArray⟩,.string ⟨(Lib.itoa (k : Nat)).toArray⟩,.string ⟨(RT).toArray⟩,.string ⟨(Lib.itoa gr).toArray⟩,.string ⟨(gfmtL t).toArray⟩] rfl)
  clear H28
  refine hK.out _ _ (H29.out.tail) (fun hHeld => ?_)
  clear hK K
  try simp only [Act.put,List.setIfInBounds_toArray,List.set_cons_zero,List.set_cons_succ,List.getElem_toArray,List.getElem_cons_succ,List.getElem_cons_zero]
  generalize (w26.alloc (.cells #[.string ⟨([115,104,111,119,110]).toArray⟩,.string ⟨(Lib.itoa st).toArray⟩,.string ⟨(AT).toArray⟩,.string ⟨(Lib.itoa nd).toArray⟩,.string ⟨(Lib.itoa (k : Nat)).toArray⟩,.string ⟨(RT).toArray⟩,.string ⟨(Lib.itoa gr).toArray⟩,.string ⟨(gfmtL t).toArray⟩] 9)) = W30 at H29 hHeld ⊢
  refine wpAnyH_ready (rs:=[26]) (by kernel_rfl) (by simp) ?_
  refine AllReadyH.cons rfl (fun K hK => ?_) AllReadyH.nil
  have h9:=H29.out.all _ (List.mem_cons_self ..)
  have hb9 : Blk W30 (w26.heap.size) 9 (strsV [[115,104,111,119,110],Lib.itoa st,AT,Lib.itoa nd,Lib.itoa (k : Nat),RT,Lib.itoa gr,gfmtL t]).toArray:=h9
  clear h9
  go_simp
  refine (ln_join [[115,104,111,119,110],Lib.itoa st,AT,Lib.itoa nd,Lib.itoa (k : Nat),RT,Lib.itoa gr,gfmtL t] hb9 rfl (by simp) (Nat.le_trans HLN.out (by simp))).mono ?_
  rintro e w31 ⟨rfl,hb32⟩
  rw [HLL.out]
  go_wp2_with fail
  have H33:=Lib.hid (H29.out.below hb32)
  clear hb32 H29
  refine hK.out _ _ (H33.out.tail) (fun hHeld => ?_)
  clear hK K
  try simp only [Act.put,List.setIfInBounds_toArray,List.set_cons_zero,List.set_cons_succ,List.getElem_toArray,List.getElem_cons_succ,List.getElem_cons_zero]
  refine wpAnyH_take (i:=27) (v:=?vx41_27) rfl (by kernel_rfl) (by kernel_rfl) (by kernel_rfl) (fun _ _ _ h => h) (Or.inl ⟨by rfl,?hyx41_27⟩) (by assumption) ?restx41_27
  case hyx41_27 => (intro w hSw; have F:=Ok.sees hSw; clear hSw; simp only [sees,kBlk,cellsAt,Nat.reduceAdd] at F; go_simp; try with_reducible rfl)
  try simp only [Act.put,List.setIfInBounds_toArray,List.set_cons_zero,List.set_cons_succ,List.getElem_toArray,List.getElem_cons_succ,List.getElem_cons_zero]
  refine wpAnyH_done (by kernel_rfl) ?_ _
  clear hHeld
  go_wp2_with fail
  go_ret
  exact ⟨rfl,H33.out.bel⟩
end Go.Proofs.YtmalncmdfmoccaaGreatDoor
