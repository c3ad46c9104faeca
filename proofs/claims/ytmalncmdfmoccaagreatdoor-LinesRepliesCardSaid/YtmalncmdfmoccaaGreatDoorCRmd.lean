/- Chapter 42's reference: Reply. -/
import Derived.Test.YtmalncmdfmoccaaGreatDoorCRmc
import Derived.Deep.DeepCutAuto
namespace Go.Proofs.YtmalncmdfmoccaaGreatDoor
open Go.RowKit
attribute [local go_sem high] eq_val
theorem rn_check (s : ByteArray) (hs : s.size ≤ 4611686018427387904) (w : World) : Calls Tryz.prog 28 #[.string s] w fun e w' => e = .returned (.int .i64 (checkT s.data.toList)) ∧ Below w.heap.size w w':=by
  refine (ref4_Check s w hs).mono ?_
  rintro e w' ⟨h,rfl⟩
  exact ⟨h,Below.refl _ _⟩
set_option maxRecDepth 100000 in
set_option maxHeartbeats 8000000 in
theorem rn_reply (c : Nat) (at_ : Int) (grid : List VlL) (TX : ByteArray) (evs : List EvD) (rls : List RlD) (ct : Int) (ga ea ra : Option Addr) (gc ec rc : Nat) (w : World) (ho : RpD.Ok ⟨c,at_,grid,TX.data.toList,evs,rls,ct⟩) (hc : c < 256) (hx : TX.size ≤ 4611686018427387904) (hz : ∀ v ∈ grid,v.2.2.length ≤ 100000) (hgr : RowsAt w ga 3 (grid.map vlRow)) (her : RowsAt w ea 9 (evs.map evRow)) (hrr : RowsAt w ra 11 (rls.map rlRow)) :
    Calls Tryz.prog 10 #[.agg #[.int .u8 (c : Nat),.int .i64 at_,.slice ga grid.length gc,.string TX,.slice ea evs.length ec,.slice ra rls.length rc,.int .i64 ct]] w fun e w' => e = .returned (.tuple #[.string ⟨(replyE ⟨c,at_,grid,TX.data.toList,evs,rls,ct⟩).1.toArray⟩,.int .i64 (replyE ⟨c,at_,grid,TX.data.toList,evs,rls,ct⟩).2]) ∧ Below w.heap.size w w':=by
  obtain ⟨i0,hi,hz0,hz1,hz2⟩:=info_parts info_str
  have HO:=keep ho
  have HX:=Lib.hid hx
  have HG:=keep hgr
  have HEV:=keep her
  have HRL:=keep hrr
  have HLZ:=keep hz
  have bgn:=ho.gl
  have ben:=ho.el
  have brn:=ho.rl
  have HCU:=keep hc
  have hwk : IntKind.i64.wrap (c : Int) = (c : Int):=Go.IntWalk.i64_in _ (by omega)
  obtain ⟨RV,hRV⟩ : ∃ R,replyE ⟨c,at_,grid,TX.data.toList,evs,rls,ct⟩ = R:=⟨_,rfl⟩
  rw [hRV]
  have HRB:=keep (fun (h : ¬ goodR ⟨c,at_,grid,TX.data.toList,evs,rls,ct⟩) => hRV.symm.trans (reply_no h))
  have HRG:=keep (fun (h : goodR ⟨c,at_,grid,TX.data.toList,evs,rls,ct⟩) => hRV.symm.trans (reply_yes h))
  obtain ⟨q,hq⟩ : ∃ q,checkT TX.data.toList = q:=⟨_,rfl⟩
  have HQ:=keep hq
  obtain ⟨gn,hgn⟩ : ∃ n,grid.length = n:=⟨_,rfl⟩
  obtain ⟨en,hen⟩ : ∃ n,evs.length = n:=⟨_,rfl⟩
  obtain ⟨rn,hrn⟩ : ∃ n,rls.length = n:=⟨_,rfl⟩
  have HGN:=keep hgn
  have HEN:=keep hen
  have HRN:=keep hrn
  simp only at bgn ben brn
  rw [hgn] at bgn ⊢
  rw [hen] at ben ⊢
  rw [hrn] at brn ⊢
  clear ho hx hgr her hrr hz hc hRV hq hgn hen hrn
  have H1:=Lib.hid ((Ok.start w).alloc w.heap.size 26 [.int .u8 (c : Nat),.int .i64 at_,.slice ga gn gc,.string TX,.slice ea en ec,.slice ra rn rc,.int .i64 ct] rfl)
  go_enter Tryz.func10,Tryz.ntmps10
  go_upto_region 1 with fail
  generalize (w.alloc (.cells #[.int .u8 (c : Nat),.int .i64 at_,.slice ga gn gc,.string TX,.slice ea en ec,.slice ra rn rc,.int .i64 ct] 26)) = W2 at H1 ⊢
  have F3:=H1.out.sees
  simp only [sees,kBlk,cellsAt,Nat.reduceAdd] at F3
  obtain ⟨⟨z0,c0_0,c0_1,c0_2,c0_3,c0_4,c0_5,c0_6,-⟩,-⟩:=F3
  by_cases c9 : (c : Int) > 8
  · go_wp2_with fail
    exact bodyPost_ret (v:=.tuple #[.string ⟨#[]⟩,.int .i64 2]) (by simp [results,Tryz.results10,go_sem]) rfl ⟨by rw [HRB.out (fun h => by have:=h.1.1; simp only at this; omega)],H1.out.bel⟩
  by_cases p1 : at_ < 0
  · go_wp2_with fail
    exact bodyPost_ret (v:=.tuple #[.string ⟨#[]⟩,.int .i64 2]) (by simp [results,Tryz.results10,go_sem]) rfl ⟨by rw [HRB.out (fun h => by have:=h.1.2.1; simp only at this; omega)],H1.out.bel⟩
  by_cases p2 : ct < 0
  · go_wp2_with fail
    exact bodyPost_ret (v:=.tuple #[.string ⟨#[]⟩,.int .i64 2]) (by simp [results,Tryz.results10,go_sem]) rfl ⟨by rw [HRB.out (fun h => by have:=h.1.2.2.1; simp only at this; omega)],H1.out.bel⟩
  go_wp2_with fail
  refine (rn_check TX HX.out _).mono ?_
  rintro e w4 ⟨rfl,hb5⟩
  rw [HQ.out]
  clear z0 c0_0 c0_1 c0_2 c0_3 c0_4 c0_5 c0_6
  have H6:=Lib.hid (H1.out.below hb5)
  clear hb5 H1
  have F7:=H6.out.sees
  simp only [sees,kBlk,cellsAt,Nat.reduceAdd] at F7
  obtain ⟨⟨z0,c0_0,c0_1,c0_2,c0_3,c0_4,c0_5,c0_6,-⟩,-⟩:=F7
  by_cases q0 : q = 0
  · subst q0
    have HH:=keep (show headB ⟨c,at_,grid,TX.data.toList,evs,rls,ct⟩ from ⟨by simp only; omega,by simp only; omega,by simp only; omega,HQ.out⟩)
    obtain ⟨wd,hwd⟩ : ∃ x,(codeN[c]?).getD [] = x:=⟨_,rfl⟩
    have HWD:=keep (fun W => rn_word c (by omega) W)
    rw [hwd] at HWD
    go_wp2_with fail
    refine (HWD.out _).mono ?_
    rintro e w8 ⟨rfl,hb9⟩
    clear z0 c0_0 c0_1 c0_2 c0_3 c0_4 c0_5 c0_6
    have H10:=Lib.hid (H6.out.below hb9)
    clear hb9 H6
    have F11:=H10.out.sees
    simp only [sees,kBlk,cellsAt,Nat.reduceAdd] at F11
    obtain ⟨⟨z0,c0_0,c0_1,c0_2,c0_3,c0_4,c0_5,c0_6,-⟩,-⟩:=F11
    go_upto_region 4 with fail
    obtain ⟨L0,hL0⟩ : ∃ L,[wd] = L:=⟨_,rfl⟩
    obtain ⟨L1,hL1⟩ : ∃ L,L0 ++ secN kAt at_ = L:=⟨_,rfl⟩
    obtain ⟨L2,hL2⟩ : ∃ L,L1 ++ secN kCnt ct = L:=⟨_,rfl⟩
    obtain ⟨L3,hL3⟩ : ∃ L,L2 ++ secT TX.data.toList = L:=⟨_,rfl⟩
    obtain ⟨L4,hL4⟩ : ∃ L,L3 ++ secN kGrid (gn : Nat) = L:=⟨_,rfl⟩
    obtain ⟨L5,hL5⟩ : ∃ L,L4 ++ grid.map valT = L:=⟨_,rfl⟩
    obtain ⟨L6,hL6⟩ : ∃ L,L5 ++ secN kEvs (en : Nat) = L:=⟨_,rfl⟩
    obtain ⟨L7,hL7⟩ : ∃ L,L6 ++ evs.map evL = L:=⟨_,rfl⟩
    obtain ⟨L8,hL8⟩ : ∃ L,L7 ++ secN kRls (rn : Nat) = L:=⟨_,rfl⟩
    have b0 : L0.length ≤ 1:=by rw [← hL0]; simp
    have b1 : L1.length ≤ 3:=by rw [← hL1,List.length_append]; have:=secN_le kAt at_; omega
    have b2 : L2.length ≤ 5:=by rw [← hL2,List.length_append]; have:=secN_le kCnt ct; omega
    have b3 : L3.length ≤ 7:=by rw [← hL3,List.length_append]; have:=secT_le TX.data.toList; omega
    have b4 : L4.length ≤ 9:=by rw [← hL4,List.length_append]; have:=secN_le kGrid (gn : Nat); omega
    have b5 : L5.length ≤ 1009:=by rw [← hL5,List.length_append,List.length_map,HGN.out]; omega
    have b6 : L6.length ≤ 1011:=by rw [← hL6,List.length_append]; have:=secN_le kEvs (en : Nat); omega
    have b7 : L7.length ≤ 2011:=by rw [← hL7,List.length_append,List.length_map,HEN.out]; omega
    have b8 : L8.length ≤ 2013:=by rw [← hL8,List.length_append]; have:=secN_le kRls (rn : Nat); omega
    have HRW:=keep (show replyW ⟨c,at_,grid,TX.data.toList,evs,rls,ct⟩ = L8 ++ rls.map rlL by
      rw [← hL8,← hL7,← hL6,← hL5,← hL4,← hL3,← hL2,← hL1,← hL0,← hwd]
      unfold replyW
      simp only [HGN.out,HEN.out,HRN.out,List.append_assoc,List.cons_append,List.nil_append])
    have HL9:=keep HRW.out.symm
    have HL1:=keep hL1
    have HL2:=keep hL2
    have HL3:=keep hL3
    have HL4:=keep hL4
    have HL5:=keep hL5
    have HL6:=keep hL6
    have HL7:=keep hL7
    have HL8:=keep hL8
    have H12:=Lib.hid (show OkRow w [kBlk (w.heap.size) 26 [.int .u8 (c : Nat),.int .i64 at_,.slice ga gn gc,.string TX,.slice ea en ec,.slice ra rn rc,.int .i64 ct]] 9 1 (.slice (some ⟨w8.heap.size,0,none⟩) 1 1) 1 (strsV [wd]) (w8.alloc (.cells #[.string ⟨wd.toArray⟩] 9)) from OkRow.of_new (H10.out.drop [kBlk (w.heap.size) 26 [.int .u8 (c : Nat),.int .i64 at_,.slice ga gn gc,.string TX,.slice ea en ec,.slice ra rn rc,.int .i64 ct]] (by simp)) ((Below.refl _ _).alloc (Nat.le_refl _) _) (World.ownsRow_lit w8 #[.string ⟨wd.toArray⟩] 1 (Nat.le_refl _) (by decide) rfl))
    clear z0 c0_0 c0_1 c0_2 c0_3 c0_4 c0_5 c0_6
    clear H10 hL1 hL2 hL3 hL4 hL5 hL6 hL7 hL8 hwd
    obtain ⟨q9,hq9⟩ : ∃ q,w8.heap.size = q:=⟨_,rfl⟩
    generalize (w8.alloc (.cells #[.string ⟨wd.toArray⟩] 9)) = W9 at H12 ⊢
    rw [hq9] at H12 ⊢
    clear hq9
    obtain ⟨lv,hlv⟩ : ∃ v : Value,.slice (some ⟨q9,0,none⟩) 1 1 = v:=⟨_,rfl⟩
    rw [hlv] at H12 ⊢
    have H12b:=Lib.hid (show OkRow w [kBlk (w.heap.size) 26 [.int .u8 (c : Nat),.int .i64 at_,.slice ga gn gc,.string TX,.slice ea en ec,.slice ra rn rc,.int .i64 ct]] 9 1 lv L0.length (strsV L0) W9 from by rw [← hL0]; exact H12.out)
    clear H12 hlv hL0
    have F13:=H12b.out.ok.sees
    simp only [sees,kBlk,cellsAt,Nat.reduceAdd] at F13
    obtain ⟨⟨z0,c0_0,c0_1,c0_2,c0_3,c0_4,c0_5,c0_6,-⟩,-⟩:=F13
    go_upto_if 34 with fail
    go_cut [4] (fun lv wx => Hid (OkRow w [kBlk (w.heap.size) 26 [.int .u8 (c : Nat),.int .i64 at_,.slice ga gn gc,.string TX,.slice ea en ec,.slice ra rn rc,.int .i64 ct]] 9 1 lv L1.length (strsV L1) wx))
    case first =>
      by_cases hp : at_ > 0
      · go_wp2_with fail
        refine (rn_num (at_) HO.out.at_ _).mono ?_
        rintro e w14 ⟨rfl,hb15⟩
        clear z0 c0_0 c0_1 c0_2 c0_3 c0_4 c0_5 c0_6
        have H16:=Lib.hid (H12b.out.below hb15)
        clear hb15 H12b
        have F17:=H16.out.ok.sees
        simp only [sees,kBlk,cellsAt,Nat.reduceAdd] at F17
        obtain ⟨⟨z0,c0_0,c0_1,c0_2,c0_3,c0_4,c0_5,c0_6,-⟩,-⟩:=F17
        go_wp2_with (at_builtin; refine wpList_append_lies _ rfl _ _ _ rfl w.heap.size 9 i0 _ 1 16 Tryz.underlying63 hi hz0 hz1 hz2 rfl (by omega) _ _ _ rfl (H16.out.own.alloc _) ⟨w14.heap.size,0,none⟩ 2 2 [.string ⟨#[97,116]⟩,.string ⟨(Lib.itoa (at_)).toArray⟩] rfl rfl (World.news_of_block (cs:=#[.string ⟨#[97,116]⟩,.string ⟨(Lib.itoa (at_)).toArray⟩]) (t:=9) (fr:=(0,0)) (heap_alloc_new _ _)) (by intro u hu; simp at hu; rcases hu with rfl | rfl <;> rfl) (by omega) (by unfold maxLen; omega) (by omega) (by have:=H16.out.ok.bel.size; simp; omega) _ rfl ?_; intro g3 cap3 w3 hown3 hgrow3 hat3 hlt3)
        clear z0 c0_0 c0_1 c0_2 c0_3 c0_4 c0_5 c0_6
        have H18:=Lib.hid (show OkRow w [kBlk (w.heap.size) 26 [.int .u8 (c : Nat),.int .i64 at_,.slice ga gn gc,.string TX,.slice ea en ec,.slice ra rn rc,.int .i64 ct]] 9 1 (.slice (some ⟨g3,0,none⟩) (L0.length + 2) cap3) (L0.length + 2) (strsV L0 ++ strsV [[97,116],Lib.itoa (at_)]) w3 from (H16.out.alloc_obj _).appended hown3 hgrow3 hat3)
        clear hown3 hgrow3 hat3 H16
        go_meet
        rw [← HL1.out,secN_yes hp,List.length_append,strsV_ap]
        exact H18
      · go_wp2_with fail
        go_meet
        rw [← HL1.out,secN_no hp,List.append_nil]
        exact H12b
    case rest =>
      clear z0 c0_0 c0_1 c0_2 c0_3 c0_4 c0_5 c0_6
      clear H12b
      have H14:=hcut
      clear hcut
      have F15:=H14.out.ok.sees
      simp only [sees,kBlk,cellsAt,Nat.reduceAdd] at F15
      obtain ⟨⟨z0,c0_0,c0_1,c0_2,c0_3,c0_4,c0_5,c0_6,-⟩,-⟩:=F15
      go_upto_if 43 with fail
      go_cut [4] (fun lv wx => Hid (OkRow w [kBlk (w.heap.size) 26 [.int .u8 (c : Nat),.int .i64 at_,.slice ga gn gc,.string TX,.slice ea en ec,.slice ra rn rc,.int .i64 ct]] 9 1 lv L2.length (strsV L2) wx))
      case first =>
        by_cases hp : ct > 0
        · go_wp2_with fail
          refine (rn_num (ct) HO.out.count _).mono ?_
          rintro e w16 ⟨rfl,hb17⟩
          clear z0 c0_0 c0_1 c0_2 c0_3 c0_4 c0_5 c0_6
          have H18:=Lib.hid (H14.out.below hb17)
          clear hb17 H14
          have F19:=H18.out.ok.sees
          simp only [sees,kBlk,cellsAt,Nat.reduceAdd] at F19
          obtain ⟨⟨z0,c0_0,c0_1,c0_2,c0_3,c0_4,c0_5,c0_6,-⟩,-⟩:=F19
          go_wp2_with (at_builtin; refine wpList_append_lies _ rfl _ _ _ rfl w.heap.size 9 i0 _ 1 16 Tryz.underlying63 hi hz0 hz1 hz2 rfl (by omega) _ _ _ rfl (H18.out.own.alloc _) ⟨w16.heap.size,0,none⟩ 2 2 [.string ⟨#[99,111,117,110,116]⟩,.string ⟨(Lib.itoa (ct)).toArray⟩] rfl rfl (World.news_of_block (cs:=#[.string ⟨#[99,111,117,110,116]⟩,.string ⟨(Lib.itoa (ct)).toArray⟩]) (t:=9) (fr:=(0,0)) (heap_alloc_new _ _)) (by intro u hu; simp at hu; rcases hu with rfl | rfl <;> rfl) (by omega) (by unfold maxLen; omega) (by omega) (by have:=H18.out.ok.bel.size; simp; omega) _ rfl ?_; intro g3 cap3 w3 hown3 hgrow3 hat3 hlt3)
          clear z0 c0_0 c0_1 c0_2 c0_3 c0_4 c0_5 c0_6
          have H20:=Lib.hid (show OkRow w [kBlk (w.heap.size) 26 [.int .u8 (c : Nat),.int .i64 at_,.slice ga gn gc,.string TX,.slice ea en ec,.slice ra rn rc,.int .i64 ct]] 9 1 (.slice (some ⟨g3,0,none⟩) (L1.length + 2) cap3) (L1.length + 2) (strsV L1 ++ strsV [[99,111,117,110,116],Lib.itoa (ct)]) w3 from (H18.out.alloc_obj _).appended hown3 hgrow3 hat3)
          clear hown3 hgrow3 hat3 H18
          go_meet
          rw [← HL2.out,secN_yes hp,List.length_append,strsV_ap]
          exact H20
        · go_wp2_with fail
          go_meet
          rw [← HL2.out,secN_no hp,List.append_nil]
          exact H14
      case rest =>
        clear z0 c0_0 c0_1 c0_2 c0_3 c0_4 c0_5 c0_6
        clear H14
        have H16:=hcut
        clear hcut
        have HQT:=keep (show quoteT TX.data.toList = quoteS TX.data.toList by unfold quoteT; rw [if_pos HQ.out])
        have F17:=H16.out.ok.sees
        simp only [sees,kBlk,cellsAt,Nat.reduceAdd] at F17
        obtain ⟨⟨z0,c0_0,c0_1,c0_2,c0_3,c0_4,c0_5,c0_6,-⟩,-⟩:=F17
        go_upto_if 52 with fail
        go_cut [4] (fun lv wx => Hid (OkRow w [kBlk (w.heap.size) 26 [.int .u8 (c : Nat),.int .i64 at_,.slice ga gn gc,.string TX,.slice ea en ec,.slice ra rn rc,.int .i64 ct]] 9 1 lv L3.length (strsV L3) wx))
        case first =>
          by_cases hp : TX.data.toList = []
          · have hte : TX.toList.isEmpty = true:=by rw [toL,hp]; rfl
            rw [hte]
            simp only [Bool.not_true]
            go_wp2_with fail
            go_meet
            rw [← HL3.out,show secT TX.data.toList = [] from if_pos hp,List.append_nil]
            exact H16
          · have hte : TX.toList.isEmpty = false:=by rw [toL]; cases h9 : TX.data.toList with
              | nil => exact absurd h9 hp
              | cons => rfl
            rw [hte]
            simp only [Bool.not_false]
            go_wp2_with fail
            refine (rn_literal TX HX.out _).mono ?_
            rintro e w18 ⟨rfl,hb19⟩
            rw [HQT.out]
            clear z0 c0_0 c0_1 c0_2 c0_3 c0_4 c0_5 c0_6
            have H20:=Lib.hid (H16.out.below hb19)
            clear hb19 H16
            have F21:=H20.out.ok.sees
            simp only [sees,kBlk,cellsAt,Nat.reduceAdd] at F21
            obtain ⟨⟨z0,c0_0,c0_1,c0_2,c0_3,c0_4,c0_5,c0_6,-⟩,-⟩:=F21
            go_wp2_with (at_builtin; refine wpList_append_lies _ rfl _ _ _ rfl w.heap.size 9 i0 _ 1 16 Tryz.underlying63 hi hz0 hz1 hz2 rfl (by omega) _ _ _ rfl (H20.out.own.alloc _) ⟨w18.heap.size,0,none⟩ 2 2 [.string ⟨#[116,101,120,116]⟩,.string ⟨(quoteS TX.data.toList).toArray⟩] rfl rfl (World.news_of_block (cs:=#[.string ⟨#[116,101,120,116]⟩,.string ⟨(quoteS TX.data.toList).toArray⟩]) (t:=9) (fr:=(0,0)) (heap_alloc_new _ _)) (by intro u hu; simp at hu; rcases hu with rfl | rfl <;> rfl) (by omega) (by unfold maxLen; omega) (by omega) (by have:=H20.out.ok.bel.size; simp; omega) _ rfl ?_; intro g3 cap3 w3 hown3 hgrow3 hat3 hlt3)
            clear z0 c0_0 c0_1 c0_2 c0_3 c0_4 c0_5 c0_6
            have H22:=Lib.hid (show OkRow w [kBlk (w.heap.size) 26 [.int .u8 (c : Nat),.int .i64 at_,.slice ga gn gc,.string TX,.slice ea en ec,.slice ra rn rc,.int .i64 ct]] 9 1 (.slice (some ⟨g3,0,none⟩) (L2.length + 2) cap3) (L2.length + 2) (strsV L2 ++ strsV [[116,101,120,116],quoteS TX.data.toList]) w3 from (H20.out.alloc_obj _).appended hown3 hgrow3 hat3)
            clear hown3 hgrow3 hat3 H20
            go_meet
            rw [← HL3.out,show secT TX.data.toList = [[116,101,120,116],quoteS TX.data.toList] from if_neg hp,List.length_append,strsV_ap]
            exact H22
        case rest =>
          clear z0 c0_0 c0_1 c0_2 c0_3 c0_4 c0_5 c0_6
          clear H16
          have H18:=hcut
          clear hcut
          have F19:=H18.out.ok.sees
          simp only [sees,kBlk,cellsAt,Nat.reduceAdd] at F19
          obtain ⟨⟨z0,c0_0,c0_1,c0_2,c0_3,c0_4,c0_5,c0_6,-⟩,-⟩:=F19
          go_upto_if 62 with fail
          go_cut [4] (fun lv wx => Hid (OkRow w [kBlk (w.heap.size) 26 [.int .u8 (c : Nat),.int .i64 at_,.slice ga gn gc,.string TX,.slice ea en ec,.slice ra rn rc,.int .i64 ct]] 9 1 lv L4.length (strsV L4) wx))
          case first =>
            by_cases hp : (gn : Int) > 0
            · go_wp2_with fail
              refine (rn_num ((gn : Nat) : Int) ⟨by omega,by omega⟩ _).mono ?_
              rintro e w20 ⟨rfl,hb21⟩
              clear z0 c0_0 c0_1 c0_2 c0_3 c0_4 c0_5 c0_6
              have H22:=Lib.hid (H18.out.below hb21)
              clear hb21 H18
              have F23:=H22.out.ok.sees
              simp only [sees,kBlk,cellsAt,Nat.reduceAdd] at F23
              obtain ⟨⟨z0,c0_0,c0_1,c0_2,c0_3,c0_4,c0_5,c0_6,-⟩,-⟩:=F23
              go_wp2_with (at_builtin; refine wpList_append_lies _ rfl _ _ _ rfl w.heap.size 9 i0 _ 1 16 Tryz.underlying63 hi hz0 hz1 hz2 rfl (by omega) _ _ _ rfl (H22.out.own.alloc _) ⟨w20.heap.size,0,none⟩ 2 2 [.string ⟨#[103,114,105,100]⟩,.string ⟨(Lib.itoa ((gn : Nat) : Int)).toArray⟩] rfl rfl (World.news_of_block (cs:=#[.string ⟨#[103,114,105,100]⟩,.string ⟨(Lib.itoa ((gn : Nat) : Int)).toArray⟩]) (t:=9) (fr:=(0,0)) (heap_alloc_new _ _)) (by intro u hu; simp at hu; rcases hu with rfl | rfl <;> rfl) (by omega) (by unfold maxLen; omega) (by omega) (by have:=H22.out.ok.bel.size; simp; omega) _ rfl ?_; intro g3 cap3 w3 hown3 hgrow3 hat3 hlt3)
              clear z0 c0_0 c0_1 c0_2 c0_3 c0_4 c0_5 c0_6
              have H24:=Lib.hid (show OkRow w [kBlk (w.heap.size) 26 [.int .u8 (c : Nat),.int .i64 at_,.slice ga gn gc,.string TX,.slice ea en ec,.slice ra rn rc,.int .i64 ct]] 9 1 (.slice (some ⟨g3,0,none⟩) (L3.length + 2) cap3) (L3.length + 2) (strsV L3 ++ strsV [[103,114,105,100],Lib.itoa ((gn : Nat) : Int)]) w3 from (H22.out.alloc_obj _).appended hown3 hgrow3 hat3)
              clear hown3 hgrow3 hat3 H22
              go_meet
              rw [← HL4.out,secN_yes hp,List.length_append,strsV_ap]
              exact H24
            · go_wp2_with fail
              go_meet
              rw [← HL4.out,secN_no hp,List.append_nil]
              exact H18
          case rest =>
            clear z0 c0_0 c0_1 c0_2 c0_3 c0_4 c0_5 c0_6
            clear H18
            have H20:=hcut
            clear hcut
            have F21:=H20.out.ok.sees
            simp only [sees,kBlk,cellsAt,Nat.reduceAdd] at F21
            obtain ⟨⟨z0,c0_0,c0_1,c0_2,c0_3,c0_4,c0_5,c0_6,-⟩,-⟩:=F21
            go_wp2_with fail
            go_loopw [4,5] (fun lv iv wr => ∃ i : Nat,i ≤ gn ∧ iv = .int .i64 (i : Int) ∧ Keep (∀ v ∈ grid.take i,goodL v) ∧ Hid (OkRow w [kBlk (w.heap.size) 26 [.int .u8 (c : Nat),.int .i64 at_,.slice ga gn gc,.string TX,.slice ea en ec,.slice ra rn rc,.int .i64 ct]] 9 1 lv (L4 ++ (grid.take i).map valT).length (strsV (L4 ++ (grid.take i).map valT)) wr)) (fun _ iv _ => gn - (intOf iv).toNat)
            case atStart => exact ⟨0,Nat.zero_le _,rfl,keep (by simp),by rw [List.take_zero,List.map_nil,List.append_nil]; exact H20⟩
            case round =>
              clear z0 c0_0 c0_1 c0_2 c0_3 c0_4 c0_5 c0_6
              clear H20
              obtain ⟨i,hi_,rfl,HGD,HQR⟩:=hrel
              obtain ⟨wg,rfl⟩ : ∃ wz : World,wz = wr:=⟨_,rfl⟩
              by_cases hlt : (i : Int) < (gn : Int)
              · obtain ⟨x,hx⟩ : ∃ x,grid[i]? = some x:=⟨_,List.getElem?_eq_getElem (by rw [HGN.out]; omega)⟩
                obtain ⟨bb,oo,haa,hBB,hcc⟩:=rows_atL (HG.out.below HQR.out.ok.bel) (i:=i) (r:=vlRow x) (by rw [List.getElem?_map,hx]; rfl)
                subst haa
                have HXX:=keep hx
                have HXM:=keep (List.mem_of_getElem? hx)
                obtain ⟨k,n,t⟩:=x
                obtain ⟨S,hS⟩ : ∃ S : ByteArray,(⟨t.toArray⟩ : ByteArray) = S:=⟨_,rfl⟩
                have HSd:=keep (show S.data.toList = t by rw [← hS])
                have HSZ:=Lib.hid (show S.size ≤ 4611686018427387904 from by rw [← hS]; show t.toArray.size ≤ _; rw [List.size_toArray]; have:=HLZ.out _ HXM.out; simp only at this; omega) -- (⟨t.toArray⟩ : ByteArray).size ≤ 4611686018427387904 from by show t.toArray.size ≤ _; rw [List.size_toArray]; have:=HLZ.out _ HXM.out; simp only at this; omega)
                have HNB:=keep (HO.out.nums _ HXM.out)
                simp only at HNB
                have e0:=hcc 0 _ rfl
                have e1:=hcc 1 _ rfl
                have e2:=hcc 2 _ rfl
                clear hx hcc
                simp only [Nat.add_zero] at e0 e1 e2
                rw [hS] at e2
                clear hS
                obtain ⟨La,hLa⟩ : ∃ L,L4 ++ (grid.take i).map valT = L:=⟨_,rfl⟩
                rw [hLa] at HQR
                have bla : La.length ≤ 4000:=by rw [← hLa,List.length_append,List.length_map,List.length_take]; omega
                have HLA:=keep hLa
                clear hLa
                have F22:=HQR.out.ok.sees
                simp only [sees,kBlk,cellsAt,Nat.reduceAdd] at F22
                obtain ⟨⟨z0,c0_0,c0_1,c0_2,c0_3,c0_4,c0_5,c0_6,-⟩,-⟩:=F22
                go_upto_region 16 with fail
                clear z0 c0_0 c0_1 c0_2 c0_3 c0_4 c0_5 c0_6
                have H23:=Lib.hid (HQR.out.alloc wg.heap.size 59 [.int .u8 (k : Nat),.int .i64 n,.string S] rfl)
                generalize (wg.alloc (.cells #[.int .u8 (k : Nat),.int .i64 n,.string S] 59)) = WE at H23 ⊢
                clear HQR hBB e0 e1 e2
                have F24:=H23.out.ok.sees
                simp only [sees,kBlk,cellsAt,Nat.reduceAdd] at F24
                obtain ⟨⟨z0,c0_0,c0_1,c0_2,-⟩,⟨z1,c1_0,c1_1,c1_2,c1_3,c1_4,c1_5,c1_6,-⟩,-⟩:=F24
                have HN:=keep (shows_not (k:=k) (n:=n) (s:=S))
                have HY:=keep (shows_cell (k:=k) (n:=n) (t:=t))
                rw [HSd.out] at HN
                obtain ⟨B,hB⟩ : ∃ B,showsB (k,n,t) = B:=⟨_,rfl⟩
                rw [hB] at HN HY
                obtain ⟨E,hE⟩ : ∃ E,valE k n t = E:=⟨_,rfl⟩
                rw [hE] at HN HY
                have HVE:=keep (show valE k n S.data.toList = E from by rw [HSd.out]; exact hE)
                have HBK:=keep hB
                clear hE hB
                clear z0 c0_0 c0_1 c0_2 z1 c1_0 c1_1 c1_2 c1_3 c1_4 c1_5 c1_6
                have HFR:=keep H23.out.far
                have HP:=Lib.hid H23.out.pers
                clear H23
                by_cases h0 : E = 0
                · subst h0
                  have HBT:=keep (HBK.out.trans (HY.out rfl))
                  clear HN HY HBK
                  have F25:=HP.out.sees
                  simp only [sees,kBlk,cellsAt,Nat.reduceAdd] at F25
                  obtain ⟨-,⟨z1,c1_0,c1_1,c1_2,-⟩,⟨z2,c2_0,c2_1,c2_2,c2_3,c2_4,c2_5,c2_6,-⟩,-⟩:=F25
                  refine wp_region_held_drew (S:=fun W => Ok w [kRow w.heap.size 9 1 u4 La.length (strsV La),kBlk (wg.heap.size) 59 [.int .u8 (k : Nat),.int .i64 n,.string S],kBlk (w.heap.size) 26 [.int .u8 (c : Nat),.int .i64 at_,.slice (some ⟨bb,oo,none⟩) gn gc,.string TX,.slice ea en ec,.slice ra rn rc,.int .i64 ct]] W) (by kernel_rfl) HP.out.drew (fun hHeld => ?_)
                  refine wpAnyH_take (i:=0) (v:=?vx1_0) rfl (by kernel_rfl) (by kernel_rfl) (by kernel_rfl) (fun _ _ _ h => h) (Or.inl ⟨by rfl,?hyx1_0⟩) (by assumption) ?restx1_0
                  case hyx1_0 => (intro w hSw; have F:=Ok.sees hSw; clear hSw; simp only [sees,kBlk,cellsAt,Nat.reduceAdd] at F; go_simp; try with_reducible rfl)
                  try simp only [Act.put,List.setIfInBounds_toArray,List.set_cons_zero,List.set_cons_succ,List.getElem_toArray,List.getElem_cons_zero]
                  refine wpAnyH_ready (rs:=[1]) (by kernel_rfl) (by simp) ?_
                  refine AllReadyH.cons rfl (fun K hK => ?_) AllReadyH.nil
                  go_simp
                  refine (ref5_CheckV k n S HSZ.out HNB.out.1 _).mono ?_
                  rintro e w27 ⟨rfl,hb28⟩
                  rw [HVE.out]
                  go_wp2_with fail
                  refine hK.out _ _ (hHeld.below hb28) (fun hHeld => ?_)
                  clear hK K
                  try simp only [Act.put,List.setIfInBounds_toArray,List.set_cons_zero,List.set_cons_succ,List.getElem_toArray,List.getElem_cons_succ,List.getElem_cons_zero]
                  refine wpAnyH_take (i:=2) (v:=?vx2_2) rfl (by kernel_rfl) (by kernel_rfl) (by kernel_rfl) (fun _ _ _ h => h) (Or.inl ⟨by rfl,?hyx2_2⟩) (by assumption) ?restx2_2
                  case hyx2_2 => (intro w hSw; have F:=Ok.sees hSw; clear hSw; simp only [sees,kBlk,cellsAt,Nat.reduceAdd] at F; go_simp; try with_reducible rfl)
                  try simp only [Act.put,List.setIfInBounds_toArray,List.set_cons_zero,List.set_cons_succ,List.getElem_toArray,List.getElem_cons_succ,List.getElem_cons_zero]
                  refine wpAnyH_take (i:=3) (v:=?vx3_3) rfl (by kernel_rfl) (by kernel_rfl) (by kernel_rfl) (fun _ _ _ h => h) (Or.inl ⟨by rfl,?hyx3_3⟩) (by assumption) ?restx3_3
                  case hyx3_3 => (intro w hSw; have F:=Ok.sees hSw; clear hSw; simp only [sees,kBlk,cellsAt,Nat.reduceAdd] at F; go_simp; try with_reducible rfl)
                  try simp only [Act.put,List.setIfInBounds_toArray,List.set_cons_zero,List.set_cons_succ,List.getElem_toArray,List.getElem_cons_succ,List.getElem_cons_zero]
                  refine wpAnyH_take (i:=4) (v:=undef) rfl (by kernel_rfl) (by kernel_rfl) (by kernel_rfl) (fun _ _ _ h => h) (Or.inr ⟨by rfl,rfl⟩) (by assumption) ?_
                  try simp only [Act.put,List.setIfInBounds_toArray,List.set_cons_zero,List.set_cons_succ,List.getElem_toArray,List.getElem_cons_succ,List.getElem_cons_zero]
                  refine wpAnyH_take (i:=5) (v:=undef) rfl (by kernel_rfl) (by kernel_rfl) (by kernel_rfl) (fun _ _ _ h => h) (Or.inr ⟨by rfl,rfl⟩) (by assumption) ?_
                  try simp only [Act.put,List.setIfInBounds_toArray,List.set_cons_zero,List.set_cons_succ,List.getElem_toArray,List.getElem_cons_succ,List.getElem_cons_zero]
                  refine wpAnyH_take (i:=6) (v:=undef) rfl (by kernel_rfl) (by kernel_rfl) (by kernel_rfl) (fun _ _ _ h => h) (Or.inr ⟨by rfl,rfl⟩) (by assumption) ?_
                  try simp only [Act.put,List.setIfInBounds_toArray,List.set_cons_zero,List.set_cons_succ,List.getElem_toArray,List.getElem_cons_succ,List.getElem_cons_zero]
                  refine wpAnyH_take (i:=7) (v:=?vx7_7) rfl (by kernel_rfl) (by kernel_rfl) (by kernel_rfl) (fun _ _ _ h => h) (Or.inl ⟨by rfl,?hyx7_7⟩) (by assumption) ?restx7_7
                  case hyx7_7 => (intro w hSw; have F:=Ok.sees hSw; clear hSw; simp only [sees,kBlk,cellsAt,Nat.reduceAdd] at F; go_simp; try with_reducible rfl)
                  try simp only [Act.put,List.setIfInBounds_toArray,List.set_cons_zero,List.set_cons_succ,List.getElem_toArray,List.getElem_cons_succ,List.getElem_cons_zero]
                  refine wpAnyH_done (by kernel_rfl) ?_ _
                  clear z1 c1_0 c1_1 c1_2 z2 c2_0 c2_1 c2_2 c2_3 c2_4 c2_5 c2_6
                  clear HP
                  have H29:=Lib.hid hHeld
                  clear hHeld
                  have H30:=Lib.hid (OkRow.back H29.out HFR.out)
                  clear H29
                  have F31:=H30.out.ok.sees
                  simp only [sees,kBlk,cellsAt,Nat.reduceAdd] at F31
                  obtain ⟨⟨z0,c0_0,c0_1,c0_2,-⟩,⟨z1,c1_0,c1_1,c1_2,c1_3,c1_4,c1_5,c1_6,-⟩,-⟩:=F31
                  have HGX:=keep ((shows_iff _).1 HBT.out)
                  go_wp2_with fail
                  refine (rn_value k n S HSZ.out HNB.out.1 HNB.out.2 (by rw [HSd.out]; exact HGX.out) _).mono ?_
                  rintro e w32 ⟨rfl,hb33⟩
                  rw [HSd.out]
                  clear z0 c0_0 c0_1 c0_2 z1 c1_0 c1_1 c1_2 c1_3 c1_4 c1_5 c1_6
                  have H34:=Lib.hid (H30.out.below hb33)
                  clear hb33 H30
                  have F35:=H34.out.ok.sees
                  simp only [sees,kBlk,cellsAt,Nat.reduceAdd] at F35
                  obtain ⟨⟨z0,c0_0,c0_1,c0_2,-⟩,⟨z1,c1_0,c1_1,c1_2,c1_3,c1_4,c1_5,c1_6,-⟩,-⟩:=F35
                  go_wp2_with (at_builtin; refine wpList_append_lies _ rfl _ _ _ rfl w.heap.size 9 i0 _ 1 16 Tryz.underlying63 hi hz0 hz1 hz2 rfl (by omega) _ _ _ rfl (H34.out.own.alloc _) ⟨w32.heap.size,0,none⟩ 1 1 [.string ⟨(valT (k,n,t)).toArray⟩] rfl rfl (World.news_of_block (cs:=#[.string ⟨(valT (k,n,t)).toArray⟩]) (t:=9) (fr:=(0,0)) (heap_alloc_new _ _)) (by intro u hu; simp at hu; rcases hu with rfl <;> rfl) (by omega) (by unfold maxLen; omega) (by omega) (by have:=H34.out.ok.bel.size; simp; omega) _ rfl ?_; intro g3 cap3 w3 hown3 hgrow3 hat3 hlt3)
                  clear z0 c0_0 c0_1 c0_2 z1 c1_0 c1_1 c1_2 c1_3 c1_4 c1_5 c1_6
                  have H36:=Lib.hid (show OkRow w [kBlk wg.heap.size 59 [.int .u8 (k : Nat),.int .i64 n,.string S],kBlk (w.heap.size) 26 [.int .u8 (c : Nat),.int .i64 at_,.slice (some ⟨bb,oo,none⟩) gn gc,.string TX,.slice ea en ec,.slice ra rn rc,.int .i64 ct]] 9 1 (.slice (some ⟨g3,0,none⟩) (La.length + 1) cap3) (La.length + 1) (strsV La ++ strsV [valT (k,n,t)]) w3 from (H34.out.alloc_obj _).appended hown3 hgrow3 hat3)
                  clear hown3 hgrow3 hat3 H34
                  go_roundw
                  case rel => exact ⟨i + 1,by omega,by go_num,keep (by rw [take_snoc HXX.out]; intro v hv; rcases List.mem_append.1 hv with hv | hv; exact HGD.out v hv; rw [List.mem_singleton] at hv; subst hv; exact HGX.out),by rw [take_snoc HXX.out,List.map_append,← List.append_assoc,HLA.out,List.length_append,strsV_ap]; exact Lib.hid (H36.out.drop [kBlk (w.heap.size) 26 [.int .u8 (c : Nat),.int .i64 at_,.slice (some ⟨bb,oo,none⟩) gn gc,.string TX,.slice ea en ec,.slice ra rn rc,.int .i64 ct]] (by simp))⟩
                  case measure => simp [intOf]; omega
                · have he : (E == 0) = false:=by simpa using h0
                  have hne : (E != 0) = true:=by simpa using h0
                  have hq:=HN.out h0
                  have HBT:=keep (HBK.out.trans hq.symm)
                  clear HN HY HBK hq h0 B
                  have F25:=HP.out.sees
                  simp only [sees,kBlk,cellsAt,Nat.reduceAdd] at F25
                  obtain ⟨-,⟨z1,c1_0,c1_1,c1_2,-⟩,⟨z2,c2_0,c2_1,c2_2,c2_3,c2_4,c2_5,c2_6,-⟩,-⟩:=F25
                  refine wp_region_held_drew (S:=fun W => Ok w [kRow w.heap.size 9 1 u4 La.length (strsV La),kBlk (wg.heap.size) 59 [.int .u8 (k : Nat),.int .i64 n,.string S],kBlk (w.heap.size) 26 [.int .u8 (c : Nat),.int .i64 at_,.slice (some ⟨bb,oo,none⟩) gn gc,.string TX,.slice ea en ec,.slice ra rn rc,.int .i64 ct]] W) (by kernel_rfl) HP.out.drew (fun hHeld => ?_)
                  refine wpAnyH_take (i:=0) (v:=?vx8_0) rfl (by kernel_rfl) (by kernel_rfl) (by kernel_rfl) (fun _ _ _ h => h) (Or.inl ⟨by rfl,?hyx8_0⟩) (by assumption) ?restx8_0
                  case hyx8_0 => (intro w hSw; have F:=Ok.sees hSw; clear hSw; simp only [sees,kBlk,cellsAt,Nat.reduceAdd] at F; go_simp; try with_reducible rfl)
                  try simp only [Act.put,List.setIfInBounds_toArray,List.set_cons_zero,List.set_cons_succ,List.getElem_toArray,List.getElem_cons_zero]
                  refine wpAnyH_ready (rs:=[1]) (by kernel_rfl) (by simp) ?_
                  refine AllReadyH.cons rfl (fun K hK => ?_) AllReadyH.nil
                  go_simp
                  refine (ref5_CheckV k n S HSZ.out HNB.out.1 _).mono ?_
                  rintro e w27 ⟨rfl,hb28⟩
                  rw [HVE.out]
                  go_wp2_with fail
                  refine hK.out _ _ (hHeld.below hb28) (fun hHeld => ?_)
                  clear hK K
                  try simp only [Act.put,List.setIfInBounds_toArray,List.set_cons_zero,List.set_cons_succ,List.getElem_toArray,List.getElem_cons_succ,List.getElem_cons_zero]
                  refine wpAnyH_take (i:=2) (v:=?vx9_2) rfl (by kernel_rfl) (by kernel_rfl) (by kernel_rfl) (fun _ _ _ h => h) (Or.inl ⟨by rfl,?hyx9_2⟩) (by assumption) ?restx9_2
                  case hyx9_2 => (intro w hSw; have F:=Ok.sees hSw; clear hSw; simp only [sees,kBlk,cellsAt,Nat.reduceAdd] at F; go_simp; try with_reducible rfl)
                  try simp only [Act.put,List.setIfInBounds_toArray,List.set_cons_zero,List.set_cons_succ,List.getElem_toArray,List.getElem_cons_succ,List.getElem_cons_zero]
                  refine wpAnyH_take (i:=3) (v:=?vx10_3) rfl (by kernel_rfl) (by kernel_rfl) (by kernel_rfl) (fun _ _ _ h => h) (Or.inl ⟨by rfl,?hyx10_3⟩) (by assumption) ?restx10_3
                  case hyx10_3 => (intro w hSw; have F:=Ok.sees hSw; clear hSw; simp only [sees,kBlk,cellsAt,Nat.reduceAdd] at F; go_simp; try with_reducible rfl)
                  try simp only [Act.put,List.setIfInBounds_toArray,List.set_cons_zero,List.set_cons_succ,List.getElem_toArray,List.getElem_cons_succ,List.getElem_cons_zero]
                  refine wpAnyH_take (i:=4) (v:=?vx11_4) rfl (by kernel_rfl) (by kernel_rfl) (by kernel_rfl) (fun _ _ _ h => h) (Or.inl ⟨by rfl,?hyx11_4⟩) (by assumption) ?restx11_4
                  case hyx11_4 => (intro w hSw; have F:=Ok.sees hSw; clear hSw; simp only [sees,kBlk,cellsAt,Nat.reduceAdd] at F; go_simp; try with_reducible rfl)
                  try simp only [Act.put,List.setIfInBounds_toArray,List.set_cons_zero,List.set_cons_succ,List.getElem_toArray,List.getElem_cons_succ,List.getElem_cons_zero]
                  refine wpAnyH_ready (rs:=[5]) (by kernel_rfl) (by simp) ?_
                  refine AllReadyH.cons rfl (fun K hK => ?_) AllReadyH.nil
                  go_simp
                  refine (ref5_Fail7 _).mono ?_
                  rintro e w29 ⟨rfl,hb30⟩
                  go_wp2_with fail
                  refine hK.out _ _ (hHeld.below hb30) (fun hHeld => ?_)
                  clear hK K
                  try simp only [Act.put,List.setIfInBounds_toArray,List.set_cons_zero,List.set_cons_succ,List.getElem_toArray,List.getElem_cons_succ,List.getElem_cons_zero]
                  refine wpAnyH_take (i:=6) (v:=?vx12_6) rfl (by kernel_rfl) (by kernel_rfl) (by kernel_rfl) (fun _ _ _ h => h) (Or.inl ⟨by rfl,?hyx12_6⟩) (by assumption) ?restx12_6
                  case hyx12_6 => (intro w hSw; have F:=Ok.sees hSw; clear hSw; simp only [sees,kBlk,cellsAt,Nat.reduceAdd] at F; go_simp; try with_reducible rfl)
                  try simp only [Act.put,List.setIfInBounds_toArray,List.set_cons_zero,List.set_cons_succ,List.getElem_toArray,List.getElem_cons_succ,List.getElem_cons_zero]
                  refine wpAnyH_take (i:=7) (v:=?vx13_7) rfl (by kernel_rfl) (by kernel_rfl) (by kernel_rfl) (fun _ _ _ h => h) (Or.inl ⟨by rfl,?hyx13_7⟩) (by assumption) ?restx13_7
                  case hyx13_7 => (intro w hSw; have F:=Ok.sees hSw; clear hSw; simp only [sees,kBlk,cellsAt,Nat.reduceAdd] at F; go_simp; try with_reducible rfl)
                  try simp only [Act.put,List.setIfInBounds_toArray,List.set_cons_zero,List.set_cons_succ,List.getElem_toArray,List.getElem_cons_succ,List.getElem_cons_zero]
                  refine wpAnyH_done (by kernel_rfl) ?_ _
                  clear z1 c1_0 c1_1 c1_2 z2 c2_0 c2_1 c2_2 c2_3 c2_4 c2_5 c2_6
                  clear HP
                  have H31:=Lib.hid hHeld
                  clear hHeld
                  have H32:=Lib.hid (OkRow.back H31.out HFR.out)
                  clear H31
                  have F33:=H32.out.ok.sees
                  simp only [sees,kBlk,cellsAt,Nat.reduceAdd] at F33
                  obtain ⟨⟨z0,c0_0,c0_1,c0_2,-⟩,⟨z1,c1_0,c1_1,c1_2,c1_3,c1_4,c1_5,c1_6,-⟩,-⟩:=F33
                  cases hgd : eq3 (k : Nat) n 4 7 S.toList []
                  · have HNO:=keep (HBT.out.trans hgd)
                    go_wp2_with fail
                    exact bodyPost_ret (v:=.tuple #[.string ⟨#[]⟩,.int .i64 2]) (by simp [results,Tryz.results10,go_sem]) rfl ⟨by rw [HRB.out (fun h => by have:=(shows_iff _).2 (h.2 _ HXM.out); rw [HNO.out] at this; cases this)],H32.out.ok.bel⟩
                  · have HGX:=keep ((shows_iff _).1 (HBT.out.trans hgd))
                    go_wp2_with fail
                    refine (rn_value k n S HSZ.out HNB.out.1 HNB.out.2 (by rw [HSd.out]; exact HGX.out) _).mono ?_
                    rintro e w34 ⟨rfl,hb35⟩
                    rw [HSd.out]
                    clear z0 c0_0 c0_1 c0_2 z1 c1_0 c1_1 c1_2 c1_3 c1_4 c1_5 c1_6
                    have H36:=Lib.hid (H32.out.below hb35)
                    clear hb35 H32
                    have F37:=H36.out.ok.sees
                    simp only [sees,kBlk,cellsAt,Nat.reduceAdd] at F37
                    obtain ⟨⟨z0,c0_0,c0_1,c0_2,-⟩,⟨z1,c1_0,c1_1,c1_2,c1_3,c1_4,c1_5,c1_6,-⟩,-⟩:=F37
                    go_wp2_with (at_builtin; refine wpList_append_lies _ rfl _ _ _ rfl w.heap.size 9 i0 _ 1 16 Tryz.underlying63 hi hz0 hz1 hz2 rfl (by omega) _ _ _ rfl (H36.out.own.alloc _) ⟨w34.heap.size,0,none⟩ 1 1 [.string ⟨(valT (k,n,t)).toArray⟩] rfl rfl (World.news_of_block (cs:=#[.string ⟨(valT (k,n,t)).toArray⟩]) (t:=9) (fr:=(0,0)) (heap_alloc_new _ _)) (by intro u hu; simp at hu; rcases hu with rfl <;> rfl) (by omega) (by unfold maxLen; omega) (by omega) (by have:=H36.out.ok.bel.size; simp; omega) _ rfl ?_; intro g3 cap3 w3 hown3 hgrow3 hat3 hlt3)
                    clear z0 c0_0 c0_1 c0_2 z1 c1_0 c1_1 c1_2 c1_3 c1_4 c1_5 c1_6
                    have H38:=Lib.hid (show OkRow w [kBlk wg.heap.size 59 [.int .u8 (k : Nat),.int .i64 n,.string S],kBlk (w.heap.size) 26 [.int .u8 (c : Nat),.int .i64 at_,.slice (some ⟨bb,oo,none⟩) gn gc,.string TX,.slice ea en ec,.slice ra rn rc,.int .i64 ct]] 9 1 (.slice (some ⟨g3,0,none⟩) (La.length + 1) cap3) (La.length + 1) (strsV La ++ strsV [valT (k,n,t)]) w3 from (H36.out.alloc_obj _).appended hown3 hgrow3 hat3)
                    clear hown3 hgrow3 hat3 H36
                    go_roundw
                    case rel => exact ⟨i + 1,by omega,by go_num,keep (by rw [take_snoc HXX.out]; intro v hv; rcases List.mem_append.1 hv with hv | hv; exact HGD.out v hv; rw [List.mem_singleton] at hv; subst hv; exact HGX.out),by rw [take_snoc HXX.out,List.map_append,← List.append_assoc,HLA.out,List.length_append,strsV_ap]; exact Lib.hid (H38.out.drop [kBlk (w.heap.size) 26 [.int .u8 (c : Nat),.int .i64 at_,.slice (some ⟨bb,oo,none⟩) gn gc,.string TX,.slice ea en ec,.slice ra rn rc,.int .i64 ct]] (by simp))⟩
                    case measure => simp [intOf]; omega
              · obtain rfl : gn = i:=by omega
                have HF:=keep (List.take_of_length_le (l:=grid) (i:=gn) (by rw [HGN.out]; exact Nat.le_refl _))
                rw [HF.out,HL5.out] at HQR
                rw [HF.out] at HGD
                have HGG:=keep (show goodR ⟨c,at_,grid,TX.data.toList,evs,rls,ct⟩ from ⟨HH.out,fun v hv => HGD.out v hv⟩)
                clear hlt hi_ HF HGD
                have F22:=HQR.out.ok.sees
                simp only [sees,kBlk,cellsAt,Nat.reduceAdd] at F22
                obtain ⟨⟨z0,c0_0,c0_1,c0_2,c0_3,c0_4,c0_5,c0_6,-⟩,-⟩:=F22
                go_upto_if 98 with fail
                go_cut [4] (fun lv wx => Hid (OkRow w [kBlk (w.heap.size) 26 [.int .u8 (c : Nat),.int .i64 at_,.slice ga gn gc,.string TX,.slice ea en ec,.slice ra rn rc,.int .i64 ct]] 9 1 lv L6.length (strsV L6) wx))
                case first =>
                  by_cases hp : (en : Int) > 0
                  · go_wp2_with fail
                    refine (rn_num ((en : Nat) : Int) ⟨by omega,by omega⟩ _).mono ?_
                    rintro e w23 ⟨rfl,hb24⟩
                    clear z0 c0_0 c0_1 c0_2 c0_3 c0_4 c0_5 c0_6
                    have H25:=Lib.hid (HQR.out.below hb24)
                    clear hb24 HQR
                    have F26:=H25.out.ok.sees
                    simp only [sees,kBlk,cellsAt,Nat.reduceAdd] at F26
                    obtain ⟨⟨z0,c0_0,c0_1,c0_2,c0_3,c0_4,c0_5,c0_6,-⟩,-⟩:=F26
                    go_wp2_with (at_builtin; refine wpList_append_lies _ rfl _ _ _ rfl w.heap.size 9 i0 _ 1 16 Tryz.underlying63 hi hz0 hz1 hz2 rfl (by omega) _ _ _ rfl (H25.out.own.alloc _) ⟨w23.heap.size,0,none⟩ 2 2 [.string ⟨#[101,118,101,110,116,115]⟩,.string ⟨(Lib.itoa ((en : Nat) : Int)).toArray⟩] rfl rfl (World.news_of_block (cs:=#[.string ⟨#[101,118,101,110,116,115]⟩,.string ⟨(Lib.itoa ((en : Nat) : Int)).toArray⟩]) (t:=9) (fr:=(0,0)) (heap_alloc_new _ _)) (by intro u hu; simp at hu; rcases hu with rfl | rfl <;> rfl) (by omega) (by unfold maxLen; omega) (by omega) (by have:=H25.out.ok.bel.size; simp; omega) _ rfl ?_; intro g3 cap3 w3 hown3 hgrow3 hat3 hlt3)
                    clear z0 c0_0 c0_1 c0_2 c0_3 c0_4 c0_5 c0_6
                    have H27:=Lib.hid (show OkRow w [kBlk (w.heap.size) 26 [.int .u8 (c : Nat),.int .i64 at_,.slice ga gn gc,.string TX,.slice ea en ec,.slice ra rn rc,.int .i64 ct]] 9 1 (.slice (some ⟨g3,0,none⟩) (L5.length + 2) cap3) (L5.length + 2) (strsV L5 ++ strsV [[101,118,101,110,116,115],Lib.itoa ((en : Nat) : Int)]) w3 from (H25.out.alloc_obj _).appended hown3 hgrow3 hat3)
                    clear hown3 hgrow3 hat3 H25
                    go_meet
                    rw [← HL6.out,secN_yes hp,List.length_append,strsV_ap]
                    exact H27
                  · go_wp2_with fail
                    go_meet
                    rw [← HL6.out,secN_no hp,List.append_nil]
                    exact HQR
                case rest =>
                  clear z0 c0_0 c0_1 c0_2 c0_3 c0_4 c0_5 c0_6
                  clear HQR
                  have H23:=hcut
                  clear hcut
                  have F24:=H23.out.ok.sees
                  simp only [sees,kBlk,cellsAt,Nat.reduceAdd] at F24
                  obtain ⟨⟨z0,c0_0,c0_1,c0_2,c0_3,c0_4,c0_5,c0_6,-⟩,-⟩:=F24
                  go_wp2_with fail
                  go_loopw [4,7] (fun lv iv wr => ∃ i : Nat,i ≤ en ∧ iv = .int .i64 (i : Int) ∧ Hid (OkRow w [kBlk (w.heap.size) 26 [.int .u8 (c : Nat),.int .i64 at_,.slice ga gn gc,.string TX,.slice ea en ec,.slice ra rn rc,.int .i64 ct]] 9 1 lv (L6 ++ (evs.take i).map evL).length (strsV (L6 ++ (evs.take i).map evL)) wr)) (fun _ iv _ => en - (intOf iv).toNat)
                  case atStart => exact ⟨0,Nat.zero_le _,rfl,by rw [List.take_zero,List.map_nil,List.append_nil]; exact H23⟩
                  case round =>
                    clear z0 c0_0 c0_1 c0_2 c0_3 c0_4 c0_5 c0_6
                    clear H23
                    obtain ⟨i,hi_,rfl,HQR⟩:=hrel
                    obtain ⟨we,rfl⟩ : ∃ wz : World,wz = wr:=⟨_,rfl⟩
                    by_cases hlt : (i : Int) < (en : Int)
                    · obtain ⟨x,hx⟩ : ∃ x,evs[i]? = some x:=⟨_,List.getElem?_eq_getElem (by rw [HEN.out]; omega)⟩
                      obtain ⟨bb,oo,haa,hBB,hcc⟩:=rows_atL (HEV.out.below HQR.out.ok.bel) (i:=i) (r:=evRow x) (by rw [List.getElem?_map,hx]; rfl)
                      subst haa
                      have HXX:=keep hx
                      have HXM:=keep (List.mem_of_getElem? hx)
                      have HXO:=keep (HO.out.evs _ HXM.out)
                      obtain ⟨st,us,k,⟨x1,y1,x2,y2⟩,d,t⟩:=x
                      have e0:=hcc 0 _ rfl
                      have e1:=hcc 1 _ rfl
                      have e2:=hcc 2 _ rfl
                      have e3:=hcc 3 _ rfl
                      have e4:=hcc 4 _ rfl
                      have e5:=hcc 5 _ rfl
                      have e6:=hcc 6 _ rfl
                      have e7:=hcc 7 _ rfl
                      have e8:=hcc 8 _ rfl
                      clear hx hcc
                      simp only [Nat.add_zero] at e0 e1 e2 e3 e4 e5 e6 e7 e8
                      obtain ⟨La,hLa⟩ : ∃ L,L6 ++ (evs.take i).map evL = L:=⟨_,rfl⟩
                      rw [hLa] at HQR
                      have bla : La.length ≤ 4000:=by rw [← hLa,List.length_append,List.length_map,List.length_take]; omega
                      have HLA:=keep hLa
                      clear hLa
                      have F25:=HQR.out.ok.sees
                      simp only [sees,kBlk,cellsAt,Nat.reduceAdd] at F25
                      obtain ⟨⟨z0,c0_0,c0_1,c0_2,c0_3,c0_4,c0_5,c0_6,-⟩,-⟩:=F25
                      go_wp2_with fail
                      refine (rn_event st us k x1 y1 x2 y2 d t HXO.out.step HXO.out.user HXO.out.kind HXO.out.c1 HXO.out.r1 HXO.out.c2 HXO.out.r2 HXO.out.tg _).mono ?_
                      rintro e w26 ⟨rfl,hb27⟩
                      clear z0 c0_0 c0_1 c0_2 c0_3 c0_4 c0_5 c0_6
                      have H28:=Lib.hid (HQR.out.below hb27)
                      clear hb27 HQR
                      have F29:=H28.out.ok.sees
                      simp only [sees,kBlk,cellsAt,Nat.reduceAdd] at F29
                      obtain ⟨⟨z0,c0_0,c0_1,c0_2,c0_3,c0_4,c0_5,c0_6,-⟩,-⟩:=F29
                      clear hBB e0 e1 e2 e3 e4 e5 e6 e7 e8
                      go_wp2_with (at_builtin; refine wpList_append_lies _ rfl _ _ _ rfl w.heap.size 9 i0 _ 1 16 Tryz.underlying63 hi hz0 hz1 hz2 rfl (by omega) _ _ _ rfl (H28.out.own.alloc _) ⟨w26.heap.size,0,none⟩ 1 1 [.string ⟨(evL ⟨st,us,k,⟨x1,y1,x2,y2⟩,d,t⟩).toArray⟩] rfl rfl (World.news_of_block (cs:=#[.string ⟨(evL ⟨st,us,k,⟨x1,y1,x2,y2⟩,d,t⟩).toArray⟩]) (t:=9) (fr:=(0,0)) (heap_alloc_new _ _)) (by intro u hu; simp at hu; rcases hu with rfl <;> rfl) (by omega) (by unfold maxLen; omega) (by omega) (by have:=H28.out.ok.bel.size; simp; omega) _ rfl ?_; intro g3 cap3 w3 hown3 hgrow3 hat3 hlt3)
                      clear z0 c0_0 c0_1 c0_2 c0_3 c0_4 c0_5 c0_6
                      have H30:=Lib.hid (show OkRow w [kBlk (w.heap.size) 26 [.int .u8 (c : Nat),.int .i64 at_,.slice ga gn gc,.string TX,.slice (some ⟨bb,oo,none⟩) en ec,.slice ra rn rc,.int .i64 ct]] 9 1 (.slice (some ⟨g3,0,none⟩) (La.length + 1) cap3) (La.length + 1) (strsV La ++ strsV [evL ⟨st,us,k,⟨x1,y1,x2,y2⟩,d,t⟩]) w3 from (H28.out.alloc_obj _).appended hown3 hgrow3 hat3)
                      clear hown3 hgrow3 hat3 H28
                      go_roundw
                      case rel => exact ⟨i + 1,by omega,by go_num,by rw [take_snoc HXX.out,List.map_append,← List.append_assoc,HLA.out,List.length_append,strsV_ap]; exact Lib.hid (H30.out.drop [kBlk (w.heap.size) 26 [.int .u8 (c : Nat),.int .i64 at_,.slice ga gn gc,.string TX,.slice (some ⟨bb,oo,none⟩) en ec,.slice ra rn rc,.int .i64 ct]] (by simp))⟩
                      case measure => simp [intOf]; omega
                    · obtain rfl : en = i:=by omega
                      have HF:=keep (List.take_of_length_le (l:=evs) (i:=en) (by rw [HEN.out]; exact Nat.le_refl _))
                      rw [HF.out,HL7.out] at HQR
                      clear hlt hi_ HF
                      have F25:=HQR.out.ok.sees
                      simp only [sees,kBlk,cellsAt,Nat.reduceAdd] at F25
                      obtain ⟨⟨z0,c0_0,c0_1,c0_2,c0_3,c0_4,c0_5,c0_6,-⟩,-⟩:=F25
                      go_upto_if 125 with fail
                      go_cut [4] (fun lv wx => Hid (OkRow w [kBlk (w.heap.size) 26 [.int .u8 (c : Nat),.int .i64 at_,.slice ga gn gc,.string TX,.slice ea en ec,.slice ra rn rc,.int .i64 ct]] 9 1 lv L8.length (strsV L8) wx))
                      case first =>
                        by_cases hp : (rn : Int) > 0
                        · go_wp2_with fail
                          refine (rn_num ((rn : Nat) : Int) ⟨by omega,by omega⟩ _).mono ?_
                          rintro e w26 ⟨rfl,hb27⟩
                          clear z0 c0_0 c0_1 c0_2 c0_3 c0_4 c0_5 c0_6
                          have H28:=Lib.hid (HQR.out.below hb27)
                          clear hb27 HQR
                          have F29:=H28.out.ok.sees
                          simp only [sees,kBlk,cellsAt,Nat.reduceAdd] at F29
                          obtain ⟨⟨z0,c0_0,c0_1,c0_2,c0_3,c0_4,c0_5,c0_6,-⟩,-⟩:=F29
                          go_wp2_with (at_builtin; refine wpList_append_lies _ rfl _ _ _ rfl w.heap.size 9 i0 _ 1 16 Tryz.underlying63 hi hz0 hz1 hz2 rfl (by omega) _ _ _ rfl (H28.out.own.alloc _) ⟨w26.heap.size,0,none⟩ 2 2 [.string ⟨#[114,101,108,101,97,115,101,115]⟩,.string ⟨(Lib.itoa ((rn : Nat) : Int)).toArray⟩] rfl rfl (World.news_of_block (cs:=#[.string ⟨#[114,101,108,101,97,115,101,115]⟩,.string ⟨(Lib.itoa ((rn : Nat) : Int)).toArray⟩]) (t:=9) (fr:=(0,0)) (heap_alloc_new _ _)) (by intro u hu; simp at hu; rcases hu with rfl | rfl <;> rfl) (by omega) (by unfold maxLen; omega) (by omega) (by have:=H28.out.ok.bel.size; simp; omega) _ rfl ?_; intro g3 cap3 w3 hown3 hgrow3 hat3 hlt3)
                          clear z0 c0_0 c0_1 c0_2 c0_3 c0_4 c0_5 c0_6
                          have H30:=Lib.hid (show OkRow w [kBlk (w.heap.size) 26 [.int .u8 (c : Nat),.int .i64 at_,.slice ga gn gc,.string TX,.slice ea en ec,.slice ra rn rc,.int .i64 ct]] 9 1 (.slice (some ⟨g3,0,none⟩) (L7.length + 2) cap3) (L7.length + 2) (strsV L7 ++ strsV [[114,101,108,101,97,115,101,115],Lib.itoa ((rn : Nat) : Int)]) w3 from (H28.out.alloc_obj _).appended hown3 hgrow3 hat3)
                          clear hown3 hgrow3 hat3 H28
                          go_meet
                          rw [← HL8.out,secN_yes hp,List.length_append,strsV_ap]
                          exact H30
                        · go_wp2_with fail
                          go_meet
                          rw [← HL8.out,secN_no hp,List.append_nil]
                          exact HQR
                      case rest =>
                        clear z0 c0_0 c0_1 c0_2 c0_3 c0_4 c0_5 c0_6
                        clear HQR
                        have H26:=hcut
                        clear hcut
                        have F27:=H26.out.ok.sees
                        simp only [sees,kBlk,cellsAt,Nat.reduceAdd] at F27
                        obtain ⟨⟨z0,c0_0,c0_1,c0_2,c0_3,c0_4,c0_5,c0_6,-⟩,-⟩:=F27
                        go_wp2_with fail
                        go_loopw [4,8] (fun lv iv wr => ∃ i : Nat,i ≤ rn ∧ iv = .int .i64 (i : Int) ∧ Hid (OkRow w [kBlk (w.heap.size) 26 [.int .u8 (c : Nat),.int .i64 at_,.slice ga gn gc,.string TX,.slice ea en ec,.slice ra rn rc,.int .i64 ct]] 9 1 lv (L8 ++ (rls.take i).map rlL).length (strsV (L8 ++ (rls.take i).map rlL)) wr)) (fun _ iv _ => rn - (intOf iv).toNat)
                        case atStart => exact ⟨0,Nat.zero_le _,rfl,by rw [List.take_zero,List.map_nil,List.append_nil]; exact H26⟩
                        case round =>
                          clear z0 c0_0 c0_1 c0_2 c0_3 c0_4 c0_5 c0_6
                          clear H26
                          obtain ⟨i,hi_,rfl,HQR⟩:=hrel
                          obtain ⟨wr_,rfl⟩ : ∃ wz : World,wz = wr:=⟨_,rfl⟩
                          by_cases hlt : (i : Int) < (rn : Int)
                          · obtain ⟨x,hx⟩ : ∃ x,rls[i]? = some x:=⟨_,List.getElem?_eq_getElem (by rw [HRN.out]; omega)⟩
                            obtain ⟨bb,oo,haa,hBB,hcc⟩:=rows_atL (HRL.out.below HQR.out.ok.bel) (i:=i) (r:=rlRow x) (by rw [List.getElem?_map,hx]; rfl)
                            subst haa
                            have HXX:=keep hx
                            have HXM:=keep (List.mem_of_getElem? hx)
                            have HXO:=keep (HO.out.rls _ HXM.out)
                            obtain ⟨st,c0,r0,nd,k,⟨x1,y1,x2,y2⟩,gr,t⟩:=x
                            have e0:=hcc 0 _ rfl
                            have e1:=hcc 1 _ rfl
                            have e2:=hcc 2 _ rfl
                            have e3:=hcc 3 _ rfl
                            have e4:=hcc 4 _ rfl
                            have e5:=hcc 5 _ rfl
                            have e6:=hcc 6 _ rfl
                            have e7:=hcc 7 _ rfl
                            have e8:=hcc 8 _ rfl
                            have e9:=hcc 9 _ rfl
                            have e10:=hcc 10 _ rfl
                            clear hx hcc
                            simp only [Nat.add_zero] at e0 e1 e2 e3 e4 e5 e6 e7 e8 e9 e10
                            obtain ⟨La,hLa⟩ : ∃ L,L8 ++ (rls.take i).map rlL = L:=⟨_,rfl⟩
                            rw [hLa] at HQR
                            have bla : La.length ≤ 4000:=by rw [← hLa,List.length_append,List.length_map,List.length_take]; omega
                            have HLA:=keep hLa
                            clear hLa
                            have F28:=HQR.out.ok.sees
                            simp only [sees,kBlk,cellsAt,Nat.reduceAdd] at F28
                            obtain ⟨⟨z0,c0_0,c0_1,c0_2,c0_3,c0_4,c0_5,c0_6,-⟩,-⟩:=F28
                            go_wp2_with fail
                            refine (rn_shown st c0 r0 nd k x1 y1 x2 y2 gr t HXO.out.step HXO.out.col HXO.out.row HXO.out.node HXO.out.fn HXO.out.c1 HXO.out.r1 HXO.out.c2 HXO.out.r2 HXO.out.grant HXO.out.tg _).mono ?_
                            rintro e w29 ⟨rfl,hb30⟩
                            clear z0 c0_0 c0_1 c0_2 c0_3 c0_4 c0_5 c0_6
                            have H31:=Lib.hid (HQR.out.below hb30)
                            clear hb30 HQR
                            have F32:=H31.out.ok.sees
                            simp only [sees,kBlk,cellsAt,Nat.reduceAdd] at F32
                            obtain ⟨⟨z0,c0_0,c0_1,c0_2,c0_3,c0_4,c0_5,c0_6,-⟩,-⟩:=F32
                            clear hBB e0 e1 e2 e3 e4 e5 e6 e7 e8 e9 e10
                            go_wp2_with (at_builtin; refine wpList_append_lies _ rfl _ _ _ rfl w.heap.size 9 i0 _ 1 16 Tryz.underlying63 hi hz0 hz1 hz2 rfl (by omega) _ _ _ rfl (H31.out.own.alloc _) ⟨w29.heap.size,0,none⟩ 1 1 [.string ⟨(rlL ⟨st,c0,r0,nd,k,⟨x1,y1,x2,y2⟩,gr,t⟩).toArray⟩] rfl rfl (World.news_of_block (cs:=#[.string ⟨(rlL ⟨st,c0,r0,nd,k,⟨x1,y1,x2,y2⟩,gr,t⟩).toArray⟩]) (t:=9) (fr:=(0,0)) (heap_alloc_new _ _)) (by intro u hu; simp at hu; rcases hu with rfl <;> rfl) (by omega) (by unfold maxLen; omega) (by omega) (by have:=H31.out.ok.bel.size; simp; omega) _ rfl ?_; intro g3 cap3 w3 hown3 hgrow3 hat3 hlt3)
                            clear z0 c0_0 c0_1 c0_2 c0_3 c0_4 c0_5 c0_6
                            have H33:=Lib.hid (show OkRow w [kBlk (w.heap.size) 26 [.int .u8 (c : Nat),.int .i64 at_,.slice ga gn gc,.string TX,.slice ea en ec,.slice (some ⟨bb,oo,none⟩) rn rc,.int .i64 ct]] 9 1 (.slice (some ⟨g3,0,none⟩) (La.length + 1) cap3) (La.length + 1) (strsV La ++ strsV [rlL ⟨st,c0,r0,nd,k,⟨x1,y1,x2,y2⟩,gr,t⟩]) w3 from (H31.out.alloc_obj _).appended hown3 hgrow3 hat3)
                            clear hown3 hgrow3 hat3 H31
                            go_roundw
                            case rel => exact ⟨i + 1,by omega,by go_num,by rw [take_snoc HXX.out,List.map_append,← List.append_assoc,HLA.out,List.length_append,strsV_ap]; exact Lib.hid (H33.out.drop [kBlk (w.heap.size) 26 [.int .u8 (c : Nat),.int .i64 at_,.slice ga gn gc,.string TX,.slice ea en ec,.slice (some ⟨bb,oo,none⟩) rn rc,.int .i64 ct]] (by simp))⟩
                            case measure => simp [intOf]; omega
                          · obtain rfl : rn = i:=by omega
                            have HF:=keep (List.take_of_length_le (l:=rls) (i:=rn) (by rw [HRN.out]; exact Nat.le_refl _))
                            rw [HF.out,HL9.out] at HQR
                            have HJN:=keep (reply_le HO.out HGG.out)
                            obtain ⟨LW,hLW⟩ : ∃ L,replyW ⟨c,at_,grid,TX.data.toList,evs,rls,ct⟩ = L:=⟨_,rfl⟩
                            rw [hLW] at HQR HJN
                            have hne : LW ≠ []:=by rw [← hLW]; unfold replyW; simp
                            have HRE:=keep (show replyL ⟨c,at_,grid,TX.data.toList,evs,rls,ct⟩ = Lib.join LW [32] by rw [← hLW]; rfl)
                            clear hLW
                            have F28:=HQR.out.ok.sees
                            simp only [sees,kBlk,cellsAt,Nat.reduceAdd] at F28
                            obtain ⟨⟨z0,c0_0,c0_1,c0_2,c0_3,c0_4,c0_5,c0_6,-⟩,-⟩:=F28
                            go_wp2_with fail
                            refine (rn_join_own LW HQR.out.own hne HJN.out.1 HJN.out.2).mono ?_
                            rintro e w99 ⟨rfl,hb⟩
                            have HZ:=Lib.hid (HQR.out.below hb)
                            clear hb
                            go_wp2_with fail
                            exact bodyPost_ret (v:=.tuple #[.string ⟨(Lib.join LW [32]).toArray⟩,.int .i64 0]) (by simp [results,Tryz.results10,go_sem]) rfl ⟨by rw [HRG.out HGG.out,HRE.out],HZ.out.ok.bel⟩
  · have q1 : (q != 0) = true:=by simpa using q0
    go_wp2_with fail
    exact bodyPost_ret (v:=.tuple #[.string ⟨#[]⟩,.int .i64 2]) (by simp [results,Tryz.results10,go_sem]) rfl ⟨by rw [HRB.out (fun h => by have:=h.1.2.2.2; simp only at this; rw [HQ.out] at this; exact q0 this)],H6.out.bel⟩
end Go.Proofs.YtmalncmdfmoccaaGreatDoor
