/- Chapter 42: lines.Reply. -/
import Derived.Test.YtmalncmdfmoccaaGreatDoorCLnC
import Derived.Test.YtmalncmdfmoccaaGreatDoorCGiv
import Derived.Deep.DeepCutAuto
namespace Go.Proofs.YtmalncmdfmoccaaGreatDoor
open Go.RowKit
def vlRow (v : VlL) : List Value:=[.int .u8 (v.1 : Nat),.int .i64 v.2.1,.string ⟨v.2.2.toArray⟩]
def evRow (x : EvD) : List Value:=[.int .i64 x.step,.int .i64 x.user,.int .u8 (x.kind : Nat),.int .i64 x.rect.c1,.int .i64 x.rect.r1,.int .i64 x.rect.c2,.int .i64 x.rect.r2,.bool x.done,.int .u64 (x.tg : Nat)]
def rlRow (x : RlD) : List Value:=[.int .i64 x.step,.int .i64 x.col,.int .i64 x.row,.int .i64 x.node,.int .u8 (x.fn : Nat),.int .i64 x.rect.c1,.int .i64 x.rect.r1,.int .i64 x.rect.c2,.int .i64 x.rect.r2,.int .i64 x.grant,.int .u64 (x.tg : Nat)]
theorem strsV_ap (a b : List (List UInt8)) : strsV (a ++ b) = strsV a ++ strsV b:=by unfold strsV; rw [List.map_append]
theorem code_some {c : Nat} (h : c ≤ 8) : codeN[c]? = some ((codeN[c]?).getD []):=by
  have : c < codeN.length:=by show c < 9; omega
  rw [List.getElem?_eq_getElem this]; rfl
theorem secN_yes {kw : List UInt8} {n : Int} (h : n > 0) : secN kw n = [kw,Lib.itoa n]:=if_pos h
theorem secN_no {kw : List UInt8} {n : Int} (h : n ≤ 0) : secN kw n = []:=if_neg (by omega)
theorem secN_le (kw : List UInt8) (n : Int) : (secN kw n).length ≤ 2:=by unfold secN; split <;> simp
theorem secT_le (t : List UInt8) : (secT t).length ≤ 2:=by unfold secT; split <;> simp
theorem rows_atL {w : World} {a : Option Addr} {s : Nat} {l : List (List Value)} (h : RowsAt w a s l) {i : Nat} {r : List Value} (hi : l[i]? = some r) : ∃ b o,a = some ⟨b,o,none⟩ ∧ b < w.heap.size ∧ ∀ j v,r[j]? = some v → w.cell? ⟨b,o + i * s + j,none⟩ = some v:=by
  obtain ⟨b,o,e,h1,h2⟩:=h (by rintro rfl; cases hi)
  exact ⟨b,o,e,h1,fun j v hj => by rw [Nat.add_assoc]; exact h2 i r hi j v hj⟩
theorem ev_len (x : EvD) (h : x.Ok) : (evL x).length ≤ 100000:=by
  refine Nat.le_trans (join_le (evW x) 10000 fun w hw => ?_) (by simp [evW])
  simp only [evW,List.mem_cons,List.not_mem_nil,or_false] at hw
  have hk:=h.kind
  rcases hw with rfl | rfl | rfl | rfl | rfl | rfl | rfl
  · decide
  · exact Nat.le_trans (itoa_len _ h.step) (by decide)
  · exact Nat.le_trans (itoa_len _ h.user) (by decide)
  · exact Nat.le_trans (itoa_len _ ⟨by omega,by omega⟩) (by decide)
  · exact rangeL_len _ h.c1 h.r1 h.c2 h.r2
  · unfold yesL; split <;> decide
  · exact gfmtL_lenL _
theorem rl_len (x : RlD) (h : x.Ok) : (rlL x).length ≤ 100000:=by
  refine Nat.le_trans (join_le (rlW x) 10000 fun w hw => ?_) (by simp [rlW])
  simp only [rlW,List.mem_cons,List.not_mem_nil,or_false] at hw
  have hk:=h.fn
  rcases hw with rfl | rfl | rfl | rfl | rfl | rfl | rfl | rfl
  · decide
  · exact Nat.le_trans (itoa_len _ h.step) (by decide)
  · exact rangeL_len _ h.col h.row h.col h.row
  · exact Nat.le_trans (itoa_len _ h.node) (by decide)
  · exact Nat.le_trans (itoa_len _ ⟨by omega,by omega⟩) (by decide)
  · exact rangeL_len _ h.c1 h.r1 h.c2 h.r2
  · exact Nat.le_trans (itoa_len _ h.grant) (by decide)
  · exact gfmtL_lenL _
theorem quote_short {t : List UInt8} (h : checkT t = 0) : (quoteS t).length ≤ 1000:=by
  have hl : t.length ≤ 256:=by
    unfold checkT at h
    split at h
    · exact absurd h (by decide)
    · omega
  have hq : ∀ l : List UInt8,(l.flatMap quoteB).length ≤ 2 * l.length:=by
    intro l
    induction l with
    | nil => simp
    | cons b l ih =>
      rw [List.flatMap_cons,List.length_append,List.length_cons]
      have : (quoteB b).length ≤ 2:=by unfold quoteB; split <;> simp
      omega
  have:=hq t
  unfold quoteS
  rw [List.length_cons,List.length_append]
  simp only [List.length_cons,List.length_nil]
  omega
theorem secN_short (kw : List UInt8) (hk : kw.length ≤ 10) (n : Int) (hn : i64B n) : ∀ w ∈ secN kw n,w.length ≤ 100000:=by
  intro w hw
  unfold secN at hw
  split at hw
  · simp only [List.mem_cons,List.not_mem_nil,or_false] at hw
    rcases hw with rfl | rfl
    · omega
    · exact Nat.le_trans (itoa_len _ hn) (by decide)
  · cases hw
theorem reply_le {r : RpD} (o : r.Ok) (g : goodR r) : (replyW r).length ≤ 100000 ∧ (Lib.join (replyW r) [32]).length ≤ 140737488355328:=by
  have hl : (replyW r).length ≤ 5000:=by
    have h1:=secN_le kAt r.at_
    have h2:=secN_le kCnt r.count
    have h3:=secT_le r.text
    have h4:=secN_le kGrid (r.grid.length : Nat)
    have h5:=secN_le kEvs (r.evs.length : Nat)
    have h6:=secN_le kRls (r.rls.length : Nat)
    have g1:=o.gl
    have g2:=o.el
    have g3:=o.rl
    unfold replyW
    simp only [List.length_cons,List.length_append,List.length_map]
    omega
  have g1:=o.gl
  have g2:=o.el
  have g3:=o.rl
  refine ⟨by omega,Nat.le_trans (join_le (replyW r) 100000 fun w hw => ?_) (by omega)⟩
  unfold replyW at hw
  rcases List.mem_cons.1 hw with rfl | hw
  · have key : ∀ k : Fin 9,((codeN[k.1]?).getD []).length ≤ 10:=by decide
    exact Nat.le_trans (key ⟨r.code,by have:=g.1.1; omega⟩) (by decide)
  · simp only [List.mem_append] at hw
    rcases hw with hw | hw | hw | (hw | hw) | (hw | hw) | (hw | hw)
    · exact secN_short _ (by decide) _ o.at_ w hw
    · exact secN_short _ (by decide) _ o.count w hw
    · unfold secT at hw
      split at hw
      · cases hw
      · simp only [List.mem_cons,List.not_mem_nil,or_false] at hw
        rcases hw with rfl | rfl
        · decide
        · exact Nat.le_trans (quote_short g.1.2.2.2) (by decide)
    · exact secN_short _ (by decide) _ ⟨by omega,by omega⟩ w hw
    · obtain ⟨v,hv,rfl⟩:=List.mem_map.1 hw
      rcases good_fix (g.2 v hv) with h | ⟨n,rfl,-⟩ | ⟨t,rfl,h⟩
      · exact Nat.le_trans ((show ∀ v ∈ fixV,(valT v).length ≤ 10 by decide) v h) (by decide)
      · exact Nat.le_trans (decS_len n (o.nums _ hv).1 (o.nums _ hv).2) (by decide)
      · exact Nat.le_trans (quote_short h) (by decide)
    · exact secN_short _ (by decide) _ ⟨by omega,by omega⟩ w hw
    · obtain ⟨v,hv,rfl⟩:=List.mem_map.1 hw
      exact ev_len v (o.evs v hv)
    · exact secN_short _ (by decide) _ ⟨by omega,by omega⟩ w hw
    · obtain ⟨v,hv,rfl⟩:=List.mem_map.1 hw
      exact rl_len v (o.rls v hv)
theorem take_snoc {α : Type} {l : List α} {i : Nat} {x : α} (h : l[i]? = some x) : l.take (i + 1) = l.take i ++ [x]:=by
  obtain ⟨hi,rfl⟩:=List.getElem?_eq_some_iff.1 h
  rw [List.take_succ_eq_append_getElem hi]
set_option maxRecDepth 100000 in
set_option maxHeartbeats 8000000 in
theorem ln_reply (c : Nat) (at_ : Int) (grid : List VlL) (TX : ByteArray) (evs : List EvD) (rls : List RlD) (ct : Int) (ga ea ra : Option Addr) (gc ec rc : Nat) (w : World) (ho : RpD.Ok ⟨c,at_,grid,TX.data.toList,evs,rls,ct⟩) (hc : c < 256) (hx : TX.size ≤ 4611686018427387904) (hz : ∀ v ∈ grid,v.2.2.length ≤ 100000) (hgr : RowsAt w ga 3 (grid.map vlRow)) (her : RowsAt w ea 9 (evs.map evRow)) (hrr : RowsAt w ra 11 (rls.map rlRow)) (he : LEnv w) :
    Calls Tryz.prog 9 #[.agg #[.int .u8 (c : Nat),.int .i64 at_,.slice ga grid.length gc,.string TX,.slice ea evs.length ec,.slice ra rls.length rc,.int .i64 ct]] w fun e w' => e = .returned (.tuple #[.string ⟨(replyE ⟨c,at_,grid,TX.data.toList,evs,rls,ct⟩).1.toArray⟩,.int .i64 (replyE ⟨c,at_,grid,TX.data.toList,evs,rls,ct⟩).2]) ∧ Below w.heap.size w w':=by
  obtain ⟨i0,hi,hz0,hz1,hz2⟩:=info_parts info_str
  have HE:=keep he
  have HO:=keep ho
  have HX:=Lib.hid hx
  have HG:=keep hgr
  have HEV:=keep her
  have HRL:=keep hrr
  have HLZ:=keep hz
  have bgn:=ho.gl
  have ben:=ho.el
  have brn:=ho.rl
  have HCU:=keep hc
  have hwk : IntKind.i64.wrap (c : Int) = (c : Int):=Go.IntWalk.i64_in _ (by omega)
  obtain ⟨RV,hRV⟩ : ∃ R,replyE ⟨c,at_,grid,TX.data.toList,evs,rls,ct⟩ = R:=⟨_,rfl⟩
  rw [hRV]
  have HRB:=keep (fun (h : ¬ goodR ⟨c,at_,grid,TX.data.toList,evs,rls,ct⟩) => hRV.symm.trans (reply_no h))
  have HRG:=keep (fun (h : goodR ⟨c,at_,grid,TX.data.toList,evs,rls,ct⟩) => hRV.symm.trans (reply_yes h))
  obtain ⟨q,hq⟩ : ∃ q,checkT TX.data.toList = q:=⟨_,rfl⟩
  have HQ:=keep hq
  obtain ⟨gn,hgn⟩ : ∃ n,grid.length = n:=⟨_,rfl⟩
  obtain ⟨en,hen⟩ : ∃ n,evs.length = n:=⟨_,rfl⟩
  obtain ⟨rn,hrn⟩ : ∃ n,rls.length = n:=⟨_,rfl⟩
  have HGN:=keep hgn
  have HEN:=keep hen
  have HRN:=keep hrn
  simp only at bgn ben brn
  rw [hgn] at bgn ⊢
  rw [hen] at ben ⊢
  rw [hrn] at brn ⊢
  clear he ho hx hgr her hrr hz hc hRV hq hgn hen hrn
  have H1:=Lib.hid ((Ok.start w).alloc w.heap.size 26 [.int .u8 (c : Nat),.int .i64 at_,.slice ga gn gc,.string TX,.slice ea en ec,.slice ra rn rc,.int .i64 ct] rfl)
  go_enter Tryz.func9,Tryz.ntmps9
  go_upto_region 1 with fail
  generalize (w.alloc (.cells #[.int .u8 (c : Nat),.int .i64 at_,.slice ga gn gc,.string TX,.slice ea en ec,.slice ra rn rc,.int .i64 ct] 26)) = W2 at H1 ⊢
  go_wp2_with fail
  refine (ln_codes _).mono ?_
  rintro e w3 ⟨g,rfl,hg,hb4⟩
  have H5:=Lib.hid ((H1.out.below hb4).add (kBlk g 9 (strsV codeN)) hg)
  clear hb4 hg H1
  have F6:=H5.out.sees
  simp only [sees,kBlk,cellsAt,Nat.reduceAdd] at F6
  obtain ⟨-,⟨z1,c1_0,c1_1,c1_2,c1_3,c1_4,c1_5,c1_6,-⟩,-⟩:=F6
  by_cases c9 : (c : Int) ≥ 9
  · go_wp2_with fail
    exact bodyPost_ret (v:=.tuple #[.string ⟨#[]⟩,.int .i64 2]) (by simp [results,Tryz.results9,go_sem]) rfl ⟨by rw [HRB.out (fun h => by have:=h.1.1; simp only at this; omega)],H5.out.bel⟩
  by_cases p1 : at_ < 0
  · go_wp2_with fail
    exact bodyPost_ret (v:=.tuple #[.string ⟨#[]⟩,.int .i64 2]) (by simp [results,Tryz.results9,go_sem]) rfl ⟨by rw [HRB.out (fun h => by have:=h.1.2.1; simp only at this; omega)],H5.out.bel⟩
  by_cases p2 : ct < 0
  · go_wp2_with fail
    exact bodyPost_ret (v:=.tuple #[.string ⟨#[]⟩,.int .i64 2]) (by simp [results,Tryz.results9,go_sem]) rfl ⟨by rw [HRB.out (fun h => by have:=h.1.2.2.1; simp only at this; omega)],H5.out.bel⟩
  go_wp2_with fail
  refine (glyph_Check TX _ HX.out).mono ?_
  rintro e w7 ⟨rfl,hb8⟩
  rw [HQ.out]
  clear z1 c1_0 c1_1 c1_2 c1_3 c1_4 c1_5 c1_6
  have H9:=Lib.hid (H5.out.below hb8)
  clear hb8 H5
  have F10:=H9.out.sees
  simp only [sees,kBlk,cellsAt,Nat.reduceAdd] at F10
  obtain ⟨-,⟨z1,c1_0,c1_1,c1_2,c1_3,c1_4,c1_5,c1_6,-⟩,-⟩:=F10
  by_cases q0 : q = 0
  · subst q0
    have HH:=keep (show headB ⟨c,at_,grid,TX.data.toList,evs,rls,ct⟩ from ⟨by simp only; omega,by simp only; omega,by simp only; omega,HQ.out⟩)
    obtain ⟨wd,hwd⟩ : ∃ x,(codeN[c]?).getD [] = x:=⟨_,rfl⟩
    have hcw : w7.cell? ⟨g,c,none⟩ = some (.string ⟨wd.toArray⟩):=by
      have hgB : Blk w7 g 9 (strsV codeN).toArray:=H9.out.get (kBlk g 9 (strsV codeN)) (by simp)
      rw [hgB.cell c,List.getElem?_toArray]
      unfold strsV
      rw [List.getElem?_map,code_some (by omega),hwd]
      rfl
    go_upto_region 5 with fail
    obtain ⟨L0,hL0⟩ : ∃ L,[wd] = L:=⟨_,rfl⟩
    obtain ⟨L1,hL1⟩ : ∃ L,L0 ++ secN kAt at_ = L:=⟨_,rfl⟩
    obtain ⟨L2,hL2⟩ : ∃ L,L1 ++ secN kCnt ct = L:=⟨_,rfl⟩
    obtain ⟨L3,hL3⟩ : ∃ L,L2 ++ secT TX.data.toList = L:=⟨_,rfl⟩
    obtain ⟨L4,hL4⟩ : ∃ L,L3 ++ secN kGrid (gn : Nat) = L:=⟨_,rfl⟩
    obtain ⟨L5,hL5⟩ : ∃ L,L4 ++ grid.map valT = L:=⟨_,rfl⟩
    obtain ⟨L6,hL6⟩ : ∃ L,L5 ++ secN kEvs (en : Nat) = L:=⟨_,rfl⟩
    obtain ⟨L7,hL7⟩ : ∃ L,L6 ++ evs.map evL = L:=⟨_,rfl⟩
    obtain ⟨L8,hL8⟩ : ∃ L,L7 ++ secN kRls (rn : Nat) = L:=⟨_,rfl⟩
    have b0 : L0.length ≤ 1:=by rw [← hL0]; simp
    have b1 : L1.length ≤ 3:=by rw [← hL1,List.length_append]; have:=secN_le kAt at_; omega
    have b2 : L2.length ≤ 5:=by rw [← hL2,List.length_append]; have:=secN_le kCnt ct; omega
    have b3 : L3.length ≤ 7:=by rw [← hL3,List.length_append]; have:=secT_le TX.data.toList; omega
    have b4 : L4.length ≤ 9:=by rw [← hL4,List.length_append]; have:=secN_le kGrid (gn : Nat); omega
    have b5 : L5.length ≤ 1009:=by rw [← hL5,List.length_append,List.length_map,HGN.out]; omega
    have b6 : L6.length ≤ 1011:=by rw [← hL6,List.length_append]; have:=secN_le kEvs (en : Nat); omega
    have b7 : L7.length ≤ 2011:=by rw [← hL7,List.length_append,List.length_map,HEN.out]; omega
    have b8 : L8.length ≤ 2013:=by rw [← hL8,List.length_append]; have:=secN_le kRls (rn : Nat); omega
    have HRW:=keep (show replyW ⟨c,at_,grid,TX.data.toList,evs,rls,ct⟩ = L8 ++ rls.map rlL by
      rw [← hL8,← hL7,← hL6,← hL5,← hL4,← hL3,← hL2,← hL1,← hL0,← hwd]
      unfold replyW
      simp only [HGN.out,HEN.out,HRN.out,List.append_assoc,List.cons_append,List.nil_append])
    have HL9:=keep HRW.out.symm
    have HL1:=keep hL1
    have HL2:=keep hL2
    have HL3:=keep hL3
    have HL4:=keep hL4
    have HL5:=keep hL5
    have HL6:=keep hL6
    have HL7:=keep hL7
    have HL8:=keep hL8
    have H11:=Lib.hid (show OkRow w [kBlk (w.heap.size) 26 [.int .u8 (c : Nat),.int .i64 at_,.slice ga gn gc,.string TX,.slice ea en ec,.slice ra rn rc,.int .i64 ct]] 9 1 (.slice (some ⟨w7.heap.size,0,none⟩) 1 1) 1 (strsV [wd]) (w7.alloc (.cells #[.string ⟨wd.toArray⟩] 9)) from OkRow.of_new (H9.out.drop [kBlk (w.heap.size) 26 [.int .u8 (c : Nat),.int .i64 at_,.slice ga gn gc,.string TX,.slice ea en ec,.slice ra rn rc,.int .i64 ct]] (by simp)) ((Below.refl _ _).alloc (Nat.le_refl _) _) (World.ownsRow_lit w7 #[.string ⟨wd.toArray⟩] 1 (Nat.le_refl _) (by decide) rfl))
    clear z1 c1_0 c1_1 c1_2 c1_3 c1_4 c1_5 c1_6
    clear H9 hcw hL1 hL2 hL3 hL4 hL5 hL6 hL7 hL8 hwd
    obtain ⟨q9,hq9⟩ : ∃ q,w7.heap.size = q:=⟨_,rfl⟩
    generalize (w7.alloc (.cells #[.string ⟨wd.toArray⟩] 9)) = W9 at H11 ⊢
    rw [hq9] at H11 ⊢
    clear hq9
    obtain ⟨lv,hlv⟩ : ∃ v : Value,.slice (some ⟨q9,0,none⟩) 1 1 = v:=⟨_,rfl⟩
    rw [hlv] at H11 ⊢
    have H11b:=Lib.hid (show OkRow w [kBlk (w.heap.size) 26 [.int .u8 (c : Nat),.int .i64 at_,.slice ga gn gc,.string TX,.slice ea en ec,.slice ra rn rc,.int .i64 ct]] 9 1 lv L0.length (strsV L0) W9 from by rw [← hL0]; exact H11.out)
    clear H11 hlv hL0
    have F12:=H11b.out.ok.sees
    simp only [sees,kBlk,cellsAt,Nat.reduceAdd] at F12
    obtain ⟨⟨z0,c0_0,c0_1,c0_2,c0_3,c0_4,c0_5,c0_6,-⟩,-⟩:=F12
    go_upto_if 45 with fail
    go_cut [5] (fun lv wx => Hid (OkRow w [kBlk (w.heap.size) 26 [.int .u8 (c : Nat),.int .i64 at_,.slice ga gn gc,.string TX,.slice ea en ec,.slice ra rn rc,.int .i64 ct]] 9 1 lv L1.length (strsV L1) wx))
    case first =>
      by_cases hp : at_ > 0
      · go_wp2_with fail
        refine (ln_num (at_) HO.out.at_ _ (HE.out.below H11b.out.ok.bel).1).mono ?_
        rintro e w13 ⟨rfl,hb14⟩
        clear z0 c0_0 c0_1 c0_2 c0_3 c0_4 c0_5 c0_6
        have H15:=Lib.hid (H11b.out.below hb14)
        clear hb14 H11b
        have F16:=H15.out.ok.sees
        simp only [sees,kBlk,cellsAt,Nat.reduceAdd] at F16
        obtain ⟨⟨z0,c0_0,c0_1,c0_2,c0_3,c0_4,c0_5,c0_6,-⟩,-⟩:=F16
        go_wp2_with (at_builtin; refine wpList_append_lies _ rfl _ _ _ rfl w.heap.size 9 i0 _ 1 16 Tryz.underlying63 hi hz0 hz1 hz2 rfl (by omega) _ _ _ rfl (H15.out.own.alloc _) ⟨w13.heap.size,0,none⟩ 2 2 [.string ⟨#[97,116]⟩,.string ⟨(Lib.itoa (at_)).toArray⟩] rfl rfl (World.news_of_block (cs:=#[.string ⟨#[97,116]⟩,.string ⟨(Lib.itoa (at_)).toArray⟩]) (t:=9) (fr:=(0,0)) (heap_alloc_new _ _)) (by intro u hu; simp at hu; rcases hu with rfl | rfl <;> rfl) (by omega) (by unfold maxLen; omega) (by omega) (by have:=H15.out.ok.bel.size; simp; omega) _ rfl ?_; intro g3 cap3 w3 hown3 hgrow3 hat3 hlt3)
        clear z0 c0_0 c0_1 c0_2 c0_3 c0_4 c0_5 c0_6
        have H17:=Lib.hid (show OkRow w [kBlk (w.heap.size) 26 [.int .u8 (c : Nat),.int .i64 at_,.slice ga gn gc,.string TX,.slice ea en ec,.slice ra rn rc,.int .i64 ct]] 9 1 (.slice (some ⟨g3,0,none⟩) (L0.length + 2) cap3) (L0.length + 2) (strsV L0 ++ strsV [[97,116],Lib.itoa (at_)]) w3 from (H15.out.alloc_obj _).appended hown3 hgrow3 hat3)
        clear hown3 hgrow3 hat3 H15
        go_meet
        rw [← HL1.out,secN_yes hp,List.length_append,strsV_ap]
        exact H17
      · go_wp2_with fail
        go_meet
        rw [← HL1.out,secN_no hp,List.append_nil]
        exact H11b
    case rest =>
      clear z0 c0_0 c0_1 c0_2 c0_3 c0_4 c0_5 c0_6
      clear H11b
      have H13:=hcut
      clear hcut
      have F14:=H13.out.ok.sees
      simp only [sees,kBlk,cellsAt,Nat.reduceAdd] at F14
      obtain ⟨⟨z0,c0_0,c0_1,c0_2,c0_3,c0_4,c0_5,c0_6,-⟩,-⟩:=F14
      go_upto_if 54 with fail
      go_cut [5] (fun lv wx => Hid (OkRow w [kBlk (w.heap.size) 26 [.int .u8 (c : Nat),.int .i64 at_,.slice ga gn gc,.string TX,.slice ea en ec,.slice ra rn rc,.int .i64 ct]] 9 1 lv L2.length (strsV L2) wx))
      case first =>
        by_cases hp : ct > 0
        · go_wp2_with fail
          refine (ln_num (ct) HO.out.count _ (HE.out.below H13.out.ok.bel).1).mono ?_
          rintro e w15 ⟨rfl,hb16⟩
          clear z0 c0_0 c0_1 c0_2 c0_3 c0_4 c0_5 c0_6
          have H17:=Lib.hid (H13.out.below hb16)
          clear hb16 H13
          have F18:=H17.out.ok.sees
          simp only [sees,kBlk,cellsAt,Nat.reduceAdd] at F18
          obtain ⟨⟨z0,c0_0,c0_1,c0_2,c0_3,c0_4,c0_5,c0_6,-⟩,-⟩:=F18
          go_wp2_with (at_builtin; refine wpList_append_lies _ rfl _ _ _ rfl w.heap.size 9 i0 _ 1 16 Tryz.underlying63 hi hz0 hz1 hz2 rfl (by omega) _ _ _ rfl (H17.out.own.alloc _) ⟨w15.heap.size,0,none⟩ 2 2 [.string ⟨#[99,111,117,110,116]⟩,.string ⟨(Lib.itoa (ct)).toArray⟩] rfl rfl (World.news_of_block (cs:=#[.string ⟨#[99,111,117,110,116]⟩,.string ⟨(Lib.itoa (ct)).toArray⟩]) (t:=9) (fr:=(0,0)) (heap_alloc_new _ _)) (by intro u hu; simp at hu; rcases hu with rfl | rfl <;> rfl) (by omega) (by unfold maxLen; omega) (by omega) (by have:=H17.out.ok.bel.size; simp; omega) _ rfl ?_; intro g3 cap3 w3 hown3 hgrow3 hat3 hlt3)
          clear z0 c0_0 c0_1 c0_2 c0_3 c0_4 c0_5 c0_6
          have H19:=Lib.hid (show OkRow w [kBlk (w.heap.size) 26 [.int .u8 (c : Nat),.int .i64 at_,.slice ga gn gc,.string TX,.slice ea en ec,.slice ra rn rc,.int .i64 ct]] 9 1 (.slice (some ⟨g3,0,none⟩) (L1.length + 2) cap3) (L1.length + 2) (strsV L1 ++ strsV [[99,111,117,110,116],Lib.itoa (ct)]) w3 from (H17.out.alloc_obj _).appended hown3 hgrow3 hat3)
          clear hown3 hgrow3 hat3 H17
          go_meet
          rw [← HL2.out,secN_yes hp,List.length_append,strsV_ap]
          exact H19
        · go_wp2_with fail
          go_meet
          rw [← HL2.out,secN_no hp,List.append_nil]
          exact H13
      case rest =>
        clear z0 c0_0 c0_1 c0_2 c0_3 c0_4 c0_5 c0_6
        clear H13
        have H15:=hcut
        clear hcut
        have HQT:=keep (show quoteT TX.data.toList = quoteS TX.data.toList by unfold quoteT; rw [if_pos HQ.out])
        have F16:=H15.out.ok.sees
        simp only [sees,kBlk,cellsAt,Nat.reduceAdd] at F16
        obtain ⟨⟨z0,c0_0,c0_1,c0_2,c0_3,c0_4,c0_5,c0_6,-⟩,-⟩:=F16
        go_upto_if 63 with fail
        go_cut [5] (fun lv wx => Hid (OkRow w [kBlk (w.heap.size) 26 [.int .u8 (c : Nat),.int .i64 at_,.slice ga gn gc,.string TX,.slice ea en ec,.slice ra rn rc,.int .i64 ct]] 9 1 lv L3.length (strsV L3) wx))
        case first =>
          by_cases hp : TX.data.toList = []
          · have hte : TX.toList.isEmpty = true:=by rw [toL,hp]; rfl
            rw [hte]
            simp only [Bool.not_true]
            go_wp2_with fail
            go_meet
            rw [← HL3.out,show secT TX.data.toList = [] from if_pos hp,List.append_nil]
            exact H15
          · have hte : TX.toList.isEmpty = false:=by rw [toL]; cases h9 : TX.data.toList with
              | nil => exact absurd h9 hp
              | cons => rfl
            rw [hte]
            simp only [Bool.not_false]
            go_wp2_with fail
            refine (glyph_Quote TX _ HX.out (HE.out.below H15.out.ok.bel).1.2.2.1).mono ?_
            rintro e w17 ⟨rfl,hb18⟩
            rw [HQT.out,HQ.out]
            clear z0 c0_0 c0_1 c0_2 c0_3 c0_4 c0_5 c0_6
            have H19:=Lib.hid (H15.out.below hb18)
            clear hb18 H15
            have F20:=H19.out.ok.sees
            simp only [sees,kBlk,cellsAt,Nat.reduceAdd] at F20
            obtain ⟨⟨z0,c0_0,c0_1,c0_2,c0_3,c0_4,c0_5,c0_6,-⟩,-⟩:=F20
            go_wp2_with (at_builtin; refine wpList_append_lies _ rfl _ _ _ rfl w.heap.size 9 i0 _ 1 16 Tryz.underlying63 hi hz0 hz1 hz2 rfl (by omega) _ _ _ rfl (H19.out.own.alloc _) ⟨w17.heap.size,0,none⟩ 2 2 [.string ⟨#[116,101,120,116]⟩,.string ⟨(quoteS TX.data.toList).toArray⟩] rfl rfl (World.news_of_block (cs:=#[.string ⟨#[116,101,120,116]⟩,.string ⟨(quoteS TX.data.toList).toArray⟩]) (t:=9) (fr:=(0,0)) (heap_alloc_new _ _)) (by intro u hu; simp at hu; rcases hu with rfl | rfl <;> rfl) (by omega) (by unfold maxLen; omega) (by omega) (by have:=H19.out.ok.bel.size; simp; omega) _ rfl ?_; intro g3 cap3 w3 hown3 hgrow3 hat3 hlt3)
            clear z0 c0_0 c0_1 c0_2 c0_3 c0_4 c0_5 c0_6
            have H21:=Lib.hid (show OkRow w [kBlk (w.heap.size) 26 [.int .u8 (c : Nat),.int .i64 at_,.slice ga gn gc,.string TX,.slice ea en ec,.slice ra rn rc,.int .i64 ct]] 9 1 (.slice (some ⟨g3,0,none⟩) (L2.length + 2) cap3) (L2.length + 2) (strsV L2 ++ strsV [[116,101,120,116],quoteS TX.data.toList]) w3 from (H19.out.alloc_obj _).appended hown3 hgrow3 hat3)
            clear hown3 hgrow3 hat3 H19
            go_meet
            rw [← HL3.out,show secT TX.data.toList = [[116,101,120,116],quoteS TX.data.toList] from if_neg hp,List.length_append,strsV_ap]
            exact H21
        case rest =>
          clear z0 c0_0 c0_1 c0_2 c0_3 c0_4 c0_5 c0_6
          clear H15
          have H17:=hcut
          clear hcut
          have F18:=H17.out.ok.sees
          simp only [sees,kBlk,cellsAt,Nat.reduceAdd] at F18
          obtain ⟨⟨z0,c0_0,c0_1,c0_2,c0_3,c0_4,c0_5,c0_6,-⟩,-⟩:=F18
          go_upto_if 77 with fail
          go_cut [5] (fun lv wx => Hid (OkRow w [kBlk (w.heap.size) 26 [.int .u8 (c : Nat),.int .i64 at_,.slice ga gn gc,.string TX,.slice ea en ec,.slice ra rn rc,.int .i64 ct]] 9 1 lv L4.length (strsV L4) wx))
          case first =>
            by_cases hp : (gn : Int) > 0
            · go_wp2_with fail
              refine (ln_num ((gn : Nat) : Int) ⟨by omega,by omega⟩ _ (HE.out.below H17.out.ok.bel).1).mono ?_
              rintro e w19 ⟨rfl,hb20⟩
              clear z0 c0_0 c0_1 c0_2 c0_3 c0_4 c0_5 c0_6
              have H21:=Lib.hid (H17.out.below hb20)
              clear hb20 H17
              have F22:=H21.out.ok.sees
              simp only [sees,kBlk,cellsAt,Nat.reduceAdd] at F22
              obtain ⟨⟨z0,c0_0,c0_1,c0_2,c0_3,c0_4,c0_5,c0_6,-⟩,-⟩:=F22
              go_wp2_with (at_builtin; refine wpList_append_lies _ rfl _ _ _ rfl w.heap.size 9 i0 _ 1 16 Tryz.underlying63 hi hz0 hz1 hz2 rfl (by omega) _ _ _ rfl (H21.out.own.alloc _) ⟨w19.heap.size,0,none⟩ 2 2 [.string ⟨#[103,114,105,100]⟩,.string ⟨(Lib.itoa ((gn : Nat) : Int)).toArray⟩] rfl rfl (World.news_of_block (cs:=#[.string ⟨#[103,114,105,100]⟩,.string ⟨(Lib.itoa ((gn : Nat) : Int)).toArray⟩]) (t:=9) (fr:=(0,0)) (heap_alloc_new _ _)) (by intro u hu; simp at hu; rcases hu with rfl | rfl <;> rfl) (by omega) (by unfold maxLen; omega) (by omega) (by have:=H21.out.ok.bel.size; simp; omega) _ rfl ?_; intro g3 cap3 w3 hown3 hgrow3 hat3 hlt3)
              clear z0 c0_0 c0_1 c0_2 c0_3 c0_4 c0_5 c0_6
              have H23:=Lib.hid (show OkRow w [kBlk (w.heap.size) 26 [.int .u8 (c : Nat),.int .i64 at_,.slice ga gn gc,.string TX,.slice ea en ec,.slice ra rn rc,.int .i64 ct]] 9 1 (.slice (some ⟨g3,0,none⟩) (L3.length + 2) cap3) (L3.length + 2) (strsV L3 ++ strsV [[103,114,105,100],Lib.itoa ((gn : Nat) : Int)]) w3 from (H21.out.alloc_obj _).appended hown3 hgrow3 hat3)
              clear hown3 hgrow3 hat3 H21
              go_meet
              rw [← HL4.out,secN_yes hp,List.length_append,strsV_ap]
              exact H23
            · go_wp2_with fail
              go_meet
              rw [← HL4.out,secN_no hp,List.append_nil]
              exact H17
          case rest =>
            clear z0 c0_0 c0_1 c0_2 c0_3 c0_4 c0_5 c0_6
            clear H17
            have H19:=hcut
            clear hcut
            have F20:=H19.out.ok.sees
            simp only [sees,kBlk,cellsAt,Nat.reduceAdd] at F20
            obtain ⟨⟨z0,c0_0,c0_1,c0_2,c0_3,c0_4,c0_5,c0_6,-⟩,-⟩:=F20
            go_wp2_with fail
            go_loopw [5,88] (fun lv iv wr => ∃ i : Nat,i ≤ gn ∧ iv = .int .i64 (i : Int) ∧ Keep (∀ v ∈ grid.take i,goodL v) ∧ Hid (OkRow w [kBlk (w.heap.size) 26 [.int .u8 (c : Nat),.int .i64 at_,.slice ga gn gc,.string TX,.slice ea en ec,.slice ra rn rc,.int .i64 ct]] 9 1 lv (L4 ++ (grid.take i).map valT).length (strsV (L4 ++ (grid.take i).map valT)) wr)) (fun _ iv _ => gn - (intOf iv).toNat)
            case atStart => exact ⟨0,Nat.zero_le _,rfl,keep (by simp),by rw [List.take_zero,List.map_nil,List.append_nil]; exact H19⟩
            case round =>
              clear z0 c0_0 c0_1 c0_2 c0_3 c0_4 c0_5 c0_6
              clear H19
              obtain ⟨i,hi_,rfl,HGD,HQR⟩:=hrel
              obtain ⟨wg,rfl⟩ : ∃ wz : World,wz = wr:=⟨_,rfl⟩
              by_cases hlt : (i : Int) < (gn : Int)
              · obtain ⟨x,hx⟩ : ∃ x,grid[i]? = some x:=⟨_,List.getElem?_eq_getElem (by rw [HGN.out]; omega)⟩
                obtain ⟨bb,oo,haa,hBB,hcc⟩:=rows_atL (HG.out.below HQR.out.ok.bel) (i:=i) (r:=vlRow x) (by rw [List.getElem?_map,hx]; rfl)
                subst haa
                have HXX:=keep hx
                have HXM:=keep (List.mem_of_getElem? hx)
                obtain ⟨k,n,t⟩:=x
                have HSZ:=Lib.hid (show (⟨t.toArray⟩ : ByteArray).size ≤ 4611686018427387904 from by show t.toArray.size ≤ _; rw [List.size_toArray]; have:=HLZ.out _ HXM.out; simp only at this; omega)
                have HNB:=keep (HO.out.nums _ HXM.out)
                simp only at HNB
                have e0:=hcc 0 _ rfl
                have e1:=hcc 1 _ rfl
                have e2:=hcc 2 _ rfl
                clear hx hcc
                simp only [Nat.add_zero] at e0 e1 e2
                obtain ⟨La,hLa⟩ : ∃ L,L4 ++ (grid.take i).map valT = L:=⟨_,rfl⟩
                rw [hLa] at HQR
                have bla : La.length ≤ 4000:=by rw [← hLa,List.length_append,List.length_map,List.length_take]; omega
                have HLA:=keep hLa
                clear hLa
                have F21:=HQR.out.ok.sees
                simp only [sees,kBlk,cellsAt,Nat.reduceAdd] at F21
                obtain ⟨⟨z0,c0_0,c0_1,c0_2,c0_3,c0_4,c0_5,c0_6,-⟩,-⟩:=F21
                go_upto_region 17 with fail
                clear z0 c0_0 c0_1 c0_2 c0_3 c0_4 c0_5 c0_6
                have H22:=Lib.hid (HQR.out.alloc wg.heap.size 59 [.int .u8 (k : Nat),.int .i64 n,.string ⟨t.toArray⟩] rfl)
                generalize (wg.alloc (.cells #[.int .u8 (k : Nat),.int .i64 n,.string ⟨t.toArray⟩] 59)) = WE at H22 ⊢
                clear HQR hBB e0 e1 e2
                have F23:=H22.out.ok.sees
                simp only [sees,kBlk,cellsAt,Nat.reduceAdd] at F23
                obtain ⟨⟨z0,c0_0,c0_1,c0_2,-⟩,⟨z1,c1_0,c1_1,c1_2,c1_3,c1_4,c1_5,c1_6,-⟩,-⟩:=F23
                go_wp2_with fail
                refine (ln_shows k n ⟨t.toArray⟩ HSZ.out _).mono ?_
                rintro e w24 ⟨rfl,hb25⟩
                rw [show (⟨t.toArray⟩ : ByteArray).data.toList = t from rfl]
                clear z0 c0_0 c0_1 c0_2 z1 c1_0 c1_1 c1_2 c1_3 c1_4 c1_5 c1_6
                have H26:=Lib.hid (H22.out.below hb25)
                clear hb25 H22
                have F27:=H26.out.ok.sees
                simp only [sees,kBlk,cellsAt,Nat.reduceAdd] at F27
                obtain ⟨⟨z0,c0_0,c0_1,c0_2,-⟩,⟨z1,c1_0,c1_1,c1_2,c1_3,c1_4,c1_5,c1_6,-⟩,-⟩:=F27
                cases hgd : showsB (k,n,t)
                · go_wp2_with fail
                  exact bodyPost_ret (v:=.tuple #[.string ⟨#[]⟩,.int .i64 2]) (by simp [results,Tryz.results9,go_sem]) rfl ⟨by rw [HRB.out (fun h => by have:=(shows_iff _).2 (h.2 _ HXM.out); rw [hgd] at this; cases this)],H26.out.ok.bel⟩
                · have HGX:=keep ((shows_iff _).1 hgd)
                  clear hgd
                  go_wp2_with fail
                  refine (ln_value k n ⟨t.toArray⟩ HSZ.out HNB.out.1 HNB.out.2 HGX.out _ (HE.out.below H26.out.ok.bel)).mono ?_
                  rintro e w28 ⟨rfl,hb29⟩
                  rw [show (⟨t.toArray⟩ : ByteArray).data.toList = t from rfl]
                  clear z0 c0_0 c0_1 c0_2 z1 c1_0 c1_1 c1_2 c1_3 c1_4 c1_5 c1_6
                  have H30:=Lib.hid (H26.out.below hb29)
                  clear hb29 H26
                  have F31:=H30.out.ok.sees
                  simp only [sees,kBlk,cellsAt,Nat.reduceAdd] at F31
                  obtain ⟨⟨z0,c0_0,c0_1,c0_2,-⟩,⟨z1,c1_0,c1_1,c1_2,c1_3,c1_4,c1_5,c1_6,-⟩,-⟩:=F31
                  go_wp2_with (at_builtin; refine wpList_append_lies _ rfl _ _ _ rfl w.heap.size 9 i0 _ 1 16 Tryz.underlying63 hi hz0 hz1 hz2 rfl (by omega) _ _ _ rfl (H30.out.own.alloc _) ⟨w28.heap.size,0,none⟩ 1 1 [.string ⟨(valT (k,n,t)).toArray⟩] rfl rfl (World.news_of_block (cs:=#[.string ⟨(valT (k,n,t)).toArray⟩]) (t:=9) (fr:=(0,0)) (heap_alloc_new _ _)) (by intro u hu; simp at hu; rcases hu with rfl <;> rfl) (by omega) (by unfold maxLen; omega) (by omega) (by have:=H30.out.ok.bel.size; simp; omega) _ rfl ?_; intro g3 cap3 w3 hown3 hgrow3 hat3 hlt3)
                  clear z0 c0_0 c0_1 c0_2 z1 c1_0 c1_1 c1_2 c1_3 c1_4 c1_5 c1_6
                  have H32:=Lib.hid (show OkRow w [kBlk wg.heap.size 59 [.int .u8 (k : Nat),.int .i64 n,.string ⟨t.toArray⟩],kBlk (w.heap.size) 26 [.int .u8 (c : Nat),.int .i64 at_,.slice (some ⟨bb,oo,none⟩) gn gc,.string TX,.slice ea en ec,.slice ra rn rc,.int .i64 ct]] 9 1 (.slice (some ⟨g3,0,none⟩) (La.length + 1) cap3) (La.length + 1) (strsV La ++ strsV [valT (k,n,t)]) w3 from (H30.out.alloc_obj _).appended hown3 hgrow3 hat3)
                  clear hown3 hgrow3 hat3 H30
                  go_roundw
                  case rel => exact ⟨i + 1,by omega,by go_num,keep (by rw [take_snoc HXX.out]; intro v hv; rcases List.mem_append.1 hv with hv | hv; exact HGD.out v hv; rw [List.mem_singleton] at hv; subst hv; exact HGX.out),by rw [take_snoc HXX.out,List.map_append,← List.append_assoc,HLA.out,List.length_append,strsV_ap]; exact Lib.hid (H32.out.drop [kBlk (w.heap.size) 26 [.int .u8 (c : Nat),.int .i64 at_,.slice (some ⟨bb,oo,none⟩) gn gc,.string TX,.slice ea en ec,.slice ra rn rc,.int .i64 ct]] (by simp))⟩
                  case measure => simp [intOf]; omega
              · obtain rfl : gn = i:=by omega
                have HF:=keep (List.take_of_length_le (l:=grid) (i:=gn) (by rw [HGN.out]; exact Nat.le_refl _))
                rw [HF.out,HL5.out] at HQR
                rw [HF.out] at HGD
                have HGG:=keep (show goodR ⟨c,at_,grid,TX.data.toList,evs,rls,ct⟩ from ⟨HH.out,fun v hv => HGD.out v hv⟩)
                clear hlt hi_ HF HGD
                have F21:=HQR.out.ok.sees
                simp only [sees,kBlk,cellsAt,Nat.reduceAdd] at F21
                obtain ⟨⟨z0,c0_0,c0_1,c0_2,c0_3,c0_4,c0_5,c0_6,-⟩,-⟩:=F21
                go_upto_if 104 with fail
                go_cut [5] (fun lv wx => Hid (OkRow w [kBlk (w.heap.size) 26 [.int .u8 (c : Nat),.int .i64 at_,.slice ga gn gc,.string TX,.slice ea en ec,.slice ra rn rc,.int .i64 ct]] 9 1 lv L6.length (strsV L6) wx))
                case first =>
                  by_cases hp : (en : Int) > 0
                  · go_wp2_with fail
                    refine (ln_num ((en : Nat) : Int) ⟨by omega,by omega⟩ _ (HE.out.below HQR.out.ok.bel).1).mono ?_
                    rintro e w22 ⟨rfl,hb23⟩
                    clear z0 c0_0 c0_1 c0_2 c0_3 c0_4 c0_5 c0_6
                    have H24:=Lib.hid (HQR.out.below hb23)
                    clear hb23 HQR
                    have F25:=H24.out.ok.sees
                    simp only [sees,kBlk,cellsAt,Nat.reduceAdd] at F25
                    obtain ⟨⟨z0,c0_0,c0_1,c0_2,c0_3,c0_4,c0_5,c0_6,-⟩,-⟩:=F25
                    go_wp2_with (at_builtin; refine wpList_append_lies _ rfl _ _ _ rfl w.heap.size 9 i0 _ 1 16 Tryz.underlying63 hi hz0 hz1 hz2 rfl (by omega) _ _ _ rfl (H24.out.own.alloc _) ⟨w22.heap.size,0,none⟩ 2 2 [.string ⟨#[101,118,101,110,116,115]⟩,.string ⟨(Lib.itoa ((en : Nat) : Int)).toArray⟩] rfl rfl (World.news_of_block (cs:=#[.string ⟨#[101,118,101,110,116,115]⟩,.string ⟨(Lib.itoa ((en : Nat) : Int)).toArray⟩]) (t:=9) (fr:=(0,0)) (heap_alloc_new _ _)) (by intro u hu; simp at hu; rcases hu with rfl | rfl <;> rfl) (by omega) (by unfold maxLen; omega) (by omega) (by have:=H24.out.ok.bel.size; simp; omega) _ rfl ?_; intro g3 cap3 w3 hown3 hgrow3 hat3 hlt3)
                    clear z0 c0_0 c0_1 c0_2 c0_3 c0_4 c0_5 c0_6
                    have H26:=Lib.hid (show OkRow w [kBlk (w.heap.size) 26 [.int .u8 (c : Nat),.int .i64 at_,.slice ga gn gc,.string TX,.slice ea en ec,.slice ra rn rc,.int .i64 ct]] 9 1 (.slice (some ⟨g3,0,none⟩) (L5.length + 2) cap3) (L5.length + 2) (strsV L5 ++ strsV [[101,118,101,110,116,115],Lib.itoa ((en : Nat) : Int)]) w3 from (H24.out.alloc_obj _).appended hown3 hgrow3 hat3)
                    clear hown3 hgrow3 hat3 H24
                    go_meet
                    rw [← HL6.out,secN_yes hp,List.length_append,strsV_ap]
                    exact H26
                  · go_wp2_with fail
                    go_meet
                    rw [← HL6.out,secN_no hp,List.append_nil]
                    exact HQR
                case rest =>
                  clear z0 c0_0 c0_1 c0_2 c0_3 c0_4 c0_5 c0_6
                  clear HQR
                  have H22:=hcut
                  clear hcut
                  have F23:=H22.out.ok.sees
                  simp only [sees,kBlk,cellsAt,Nat.reduceAdd] at F23
                  obtain ⟨⟨z0,c0_0,c0_1,c0_2,c0_3,c0_4,c0_5,c0_6,-⟩,-⟩:=F23
                  go_wp2_with fail
                  go_loopw [5,115] (fun lv iv wr => ∃ i : Nat,i ≤ en ∧ iv = .int .i64 (i : Int) ∧ Hid (OkRow w [kBlk (w.heap.size) 26 [.int .u8 (c : Nat),.int .i64 at_,.slice ga gn gc,.string TX,.slice ea en ec,.slice ra rn rc,.int .i64 ct]] 9 1 lv (L6 ++ (evs.take i).map evL).length (strsV (L6 ++ (evs.take i).map evL)) wr)) (fun _ iv _ => en - (intOf iv).toNat)
                  case atStart => exact ⟨0,Nat.zero_le _,rfl,by rw [List.take_zero,List.map_nil,List.append_nil]; exact H22⟩
                  case round =>
                    clear z0 c0_0 c0_1 c0_2 c0_3 c0_4 c0_5 c0_6
                    clear H22
                    obtain ⟨i,hi_,rfl,HQR⟩:=hrel
                    obtain ⟨we,rfl⟩ : ∃ wz : World,wz = wr:=⟨_,rfl⟩
                    by_cases hlt : (i : Int) < (en : Int)
                    · obtain ⟨x,hx⟩ : ∃ x,evs[i]? = some x:=⟨_,List.getElem?_eq_getElem (by rw [HEN.out]; omega)⟩
                      obtain ⟨bb,oo,haa,hBB,hcc⟩:=rows_atL (HEV.out.below HQR.out.ok.bel) (i:=i) (r:=evRow x) (by rw [List.getElem?_map,hx]; rfl)
                      subst haa
                      have HXX:=keep hx
                      have HXM:=keep (List.mem_of_getElem? hx)
                      have HXO:=keep (HO.out.evs _ HXM.out)
                      obtain ⟨st,us,k,⟨x1,y1,x2,y2⟩,d,t⟩:=x
                      have e0:=hcc 0 _ rfl
                      have e1:=hcc 1 _ rfl
                      have e2:=hcc 2 _ rfl
                      have e3:=hcc 3 _ rfl
                      have e4:=hcc 4 _ rfl
                      have e5:=hcc 5 _ rfl
                      have e6:=hcc 6 _ rfl
                      have e7:=hcc 7 _ rfl
                      have e8:=hcc 8 _ rfl
                      clear hx hcc
                      simp only [Nat.add_zero] at e0 e1 e2 e3 e4 e5 e6 e7 e8
                      obtain ⟨La,hLa⟩ : ∃ L,L6 ++ (evs.take i).map evL = L:=⟨_,rfl⟩
                      rw [hLa] at HQR
                      have bla : La.length ≤ 4000:=by rw [← hLa,List.length_append,List.length_map,List.length_take]; omega
                      have HLA:=keep hLa
                      clear hLa
                      have F24:=HQR.out.ok.sees
                      simp only [sees,kBlk,cellsAt,Nat.reduceAdd] at F24
                      obtain ⟨⟨z0,c0_0,c0_1,c0_2,c0_3,c0_4,c0_5,c0_6,-⟩,-⟩:=F24
                      go_upto_region 26 with fail
                      clear z0 c0_0 c0_1 c0_2 c0_3 c0_4 c0_5 c0_6
                      have H25:=Lib.hid (HQR.out.alloc we.heap.size 71 [.int .i64 st,.int .i64 us,.int .u8 (k : Nat),.int .i64 x1,.int .i64 y1,.int .i64 x2,.int .i64 y2,.bool d,.int .u64 (t : Nat)] rfl)
                      generalize (we.alloc (.cells #[.int .i64 st,.int .i64 us,.int .u8 (k : Nat),.int .i64 x1,.int .i64 y1,.int .i64 x2,.int .i64 y2,.bool d,.int .u64 (t : Nat)] 71)) = WE at H25 ⊢
                      clear HQR hBB e0 e1 e2 e3 e4 e5 e6 e7 e8
                      have F26:=H25.out.ok.sees
                      simp only [sees,kBlk,cellsAt,Nat.reduceAdd] at F26
                      obtain ⟨⟨z0,c0_0,c0_1,c0_2,c0_3,c0_4,c0_5,c0_6,c0_7,c0_8,-⟩,⟨z1,c1_0,c1_1,c1_2,c1_3,c1_4,c1_5,c1_6,-⟩,-⟩:=F26
                      go_wp2_with fail
                      refine (ln_event st us k x1 y1 x2 y2 d t HXO.out.step HXO.out.user HXO.out.kind HXO.out.c1 HXO.out.r1 HXO.out.c2 HXO.out.r2 HXO.out.tg _ (HE.out.below H25.out.ok.bel).1).mono ?_
                      rintro e w27 ⟨rfl,hb28⟩
                      clear z0 c0_0 c0_1 c0_2 c0_3 c0_4 c0_5 c0_6 c0_7 c0_8 z1 c1_0 c1_1 c1_2 c1_3 c1_4 c1_5 c1_6
                      have H29:=Lib.hid (H25.out.below hb28)
                      clear hb28 H25
                      have F30:=H29.out.ok.sees
                      simp only [sees,kBlk,cellsAt,Nat.reduceAdd] at F30
                      obtain ⟨⟨z0,c0_0,c0_1,c0_2,c0_3,c0_4,c0_5,c0_6,c0_7,c0_8,-⟩,⟨z1,c1_0,c1_1,c1_2,c1_3,c1_4,c1_5,c1_6,-⟩,-⟩:=F30
                      go_wp2_with (at_builtin; refine wpList_append_lies _ rfl _ _ _ rfl w.heap.size 9 i0 _ 1 16 Tryz.underlying63 hi hz0 hz1 hz2 rfl (by omega) _ _ _ rfl (H29.out.own.alloc _) ⟨w27.heap.size,0,none⟩ 1 1 [.string ⟨(evL ⟨st,us,k,⟨x1,y1,x2,y2⟩,d,t⟩).toArray⟩] rfl rfl (World.news_of_block (cs:=#[.string ⟨(evL ⟨st,us,k,⟨x1,y1,x2,y2⟩,d,t⟩).toArray⟩]) (t:=9) (fr:=(0,0)) (heap_alloc_new _ _)) (by intro u hu; simp at hu; rcases hu with rfl <;> rfl) (by omega) (by unfold maxLen; omega) (by omega) (by have:=H29.out.ok.bel.size; simp; omega) _ rfl ?_; intro g3 cap3 w3 hown3 hgrow3 hat3 hlt3)
                      clear z0 c0_0 c0_1 c0_2 c0_3 c0_4 c0_5 c0_6 c0_7 c0_8 z1 c1_0 c1_1 c1_2 c1_3 c1_4 c1_5 c1_6
                      have H31:=Lib.hid (show OkRow w [kBlk we.heap.size 71 [.int .i64 st,.int .i64 us,.int .u8 (k : Nat),.int .i64 x1,.int .i64 y1,.int .i64 x2,.int .i64 y2,.bool d,.int .u64 (t : Nat)],kBlk (w.heap.size) 26 [.int .u8 (c : Nat),.int .i64 at_,.slice ga gn gc,.string TX,.slice (some ⟨bb,oo,none⟩) en ec,.slice ra rn rc,.int .i64 ct]] 9 1 (.slice (some ⟨g3,0,none⟩) (La.length + 1) cap3) (La.length + 1) (strsV La ++ strsV [evL ⟨st,us,k,⟨x1,y1,x2,y2⟩,d,t⟩]) w3 from (H29.out.alloc_obj _).appended hown3 hgrow3 hat3)
                      clear hown3 hgrow3 hat3 H29
                      go_roundw
                      case rel => exact ⟨i + 1,by omega,by go_num,by rw [take_snoc HXX.out,List.map_append,← List.append_assoc,HLA.out,List.length_append,strsV_ap]; exact Lib.hid (H31.out.drop [kBlk (w.heap.size) 26 [.int .u8 (c : Nat),.int .i64 at_,.slice ga gn gc,.string TX,.slice (some ⟨bb,oo,none⟩) en ec,.slice ra rn rc,.int .i64 ct]] (by simp))⟩
                      case measure => simp [intOf]; omega
                    · obtain rfl : en = i:=by omega
                      have HF:=keep (List.take_of_length_le (l:=evs) (i:=en) (by rw [HEN.out]; exact Nat.le_refl _))
                      rw [HF.out,HL7.out] at HQR
                      clear hlt hi_ HF
                      have F24:=HQR.out.ok.sees
                      simp only [sees,kBlk,cellsAt,Nat.reduceAdd] at F24
                      obtain ⟨⟨z0,c0_0,c0_1,c0_2,c0_3,c0_4,c0_5,c0_6,-⟩,-⟩:=F24
                      go_upto_if 128 with fail
                      go_cut [5] (fun lv wx => Hid (OkRow w [kBlk (w.heap.size) 26 [.int .u8 (c : Nat),.int .i64 at_,.slice ga gn gc,.string TX,.slice ea en ec,.slice ra rn rc,.int .i64 ct]] 9 1 lv L8.length (strsV L8) wx))
                      case first =>
                        by_cases hp : (rn : Int) > 0
                        · go_wp2_with fail
                          refine (ln_num ((rn : Nat) : Int) ⟨by omega,by omega⟩ _ (HE.out.below HQR.out.ok.bel).1).mono ?_
                          rintro e w25 ⟨rfl,hb26⟩
                          clear z0 c0_0 c0_1 c0_2 c0_3 c0_4 c0_5 c0_6
                          have H27:=Lib.hid (HQR.out.below hb26)
                          clear hb26 HQR
                          have F28:=H27.out.ok.sees
                          simp only [sees,kBlk,cellsAt,Nat.reduceAdd] at F28
                          obtain ⟨⟨z0,c0_0,c0_1,c0_2,c0_3,c0_4,c0_5,c0_6,-⟩,-⟩:=F28
                          go_wp2_with (at_builtin; refine wpList_append_lies _ rfl _ _ _ rfl w.heap.size 9 i0 _ 1 16 Tryz.underlying63 hi hz0 hz1 hz2 rfl (by omega) _ _ _ rfl (H27.out.own.alloc _) ⟨w25.heap.size,0,none⟩ 2 2 [.string ⟨#[114,101,108,101,97,115,101,115]⟩,.string ⟨(Lib.itoa ((rn : Nat) : Int)).toArray⟩] rfl rfl (World.news_of_block (cs:=#[.string ⟨#[114,101,108,101,97,115,101,115]⟩,.string ⟨(Lib.itoa ((rn : Nat) : Int)).toArray⟩]) (t:=9) (fr:=(0,0)) (heap_alloc_new _ _)) (by intro u hu; simp at hu; rcases hu with rfl | rfl <;> rfl) (by omega) (by unfold maxLen; omega) (by omega) (by have:=H27.out.ok.bel.size; simp; omega) _ rfl ?_; intro g3 cap3 w3 hown3 hgrow3 hat3 hlt3)
                          clear z0 c0_0 c0_1 c0_2 c0_3 c0_4 c0_5 c0_6
                          have H29:=Lib.hid (show OkRow w [kBlk (w.heap.size) 26 [.int .u8 (c : Nat),.int .i64 at_,.slice ga gn gc,.string TX,.slice ea en ec,.slice ra rn rc,.int .i64 ct]] 9 1 (.slice (some ⟨g3,0,none⟩) (L7.length + 2) cap3) (L7.length + 2) (strsV L7 ++ strsV [[114,101,108,101,97,115,101,115],Lib.itoa ((rn : Nat) : Int)]) w3 from (H27.out.alloc_obj _).appended hown3 hgrow3 hat3)
                          clear hown3 hgrow3 hat3 H27
                          go_meet
                          rw [← HL8.out,secN_yes hp,List.length_append,strsV_ap]
                          exact H29
                        · go_wp2_with fail
                          go_meet
                          rw [← HL8.out,secN_no hp,List.append_nil]
                          exact HQR
                      case rest =>
                        clear z0 c0_0 c0_1 c0_2 c0_3 c0_4 c0_5 c0_6
                        clear HQR
                        have H25:=hcut
                        clear hcut
                        have F26:=H25.out.ok.sees
                        simp only [sees,kBlk,cellsAt,Nat.reduceAdd] at F26
                        obtain ⟨⟨z0,c0_0,c0_1,c0_2,c0_3,c0_4,c0_5,c0_6,-⟩,-⟩:=F26
                        go_wp2_with fail
                        go_loopw [5,139] (fun lv iv wr => ∃ i : Nat,i ≤ rn ∧ iv = .int .i64 (i : Int) ∧ Hid (OkRow w [kBlk (w.heap.size) 26 [.int .u8 (c : Nat),.int .i64 at_,.slice ga gn gc,.string TX,.slice ea en ec,.slice ra rn rc,.int .i64 ct]] 9 1 lv (L8 ++ (rls.take i).map rlL).length (strsV (L8 ++ (rls.take i).map rlL)) wr)) (fun _ iv _ => rn - (intOf iv).toNat)
                        case atStart => exact ⟨0,Nat.zero_le _,rfl,by rw [List.take_zero,List.map_nil,List.append_nil]; exact H25⟩
                        case round =>
                          clear z0 c0_0 c0_1 c0_2 c0_3 c0_4 c0_5 c0_6
                          clear H25
                          obtain ⟨i,hi_,rfl,HQR⟩:=hrel
                          obtain ⟨wr_,rfl⟩ : ∃ wz : World,wz = wr:=⟨_,rfl⟩
                          by_cases hlt : (i : Int) < (rn : Int)
                          · obtain ⟨x,hx⟩ : ∃ x,rls[i]? = some x:=⟨_,List.getElem?_eq_getElem (by rw [HRN.out]; omega)⟩
                            obtain ⟨bb,oo,haa,hBB,hcc⟩:=rows_atL (HRL.out.below HQR.out.ok.bel) (i:=i) (r:=rlRow x) (by rw [List.getElem?_map,hx]; rfl)
                            subst haa
                            have HXX:=keep hx
                            have HXM:=keep (List.mem_of_getElem? hx)
                            have HXO:=keep (HO.out.rls _ HXM.out)
                            obtain ⟨st,c0,r0,nd,k,⟨x1,y1,x2,y2⟩,gr,t⟩:=x
                            have e0:=hcc 0 _ rfl
                            have e1:=hcc 1 _ rfl
                            have e2:=hcc 2 _ rfl
                            have e3:=hcc 3 _ rfl
                            have e4:=hcc 4 _ rfl
                            have e5:=hcc 5 _ rfl
                            have e6:=hcc 6 _ rfl
                            have e7:=hcc 7 _ rfl
                            have e8:=hcc 8 _ rfl
                            have e9:=hcc 9 _ rfl
                            have e10:=hcc 10 _ rfl
                            clear hx hcc
                            simp only [Nat.add_zero] at e0 e1 e2 e3 e4 e5 e6 e7 e8 e9 e10
                            obtain ⟨La,hLa⟩ : ∃ L,L8 ++ (rls.take i).map rlL = L:=⟨_,rfl⟩
                            rw [hLa] at HQR
                            have bla : La.length ≤ 4000:=by rw [← hLa,List.length_append,List.length_map,List.length_take]; omega
                            have HLA:=keep hLa
                            clear hLa
                            have F27:=HQR.out.ok.sees
                            simp only [sees,kBlk,cellsAt,Nat.reduceAdd] at F27
                            obtain ⟨⟨z0,c0_0,c0_1,c0_2,c0_3,c0_4,c0_5,c0_6,-⟩,-⟩:=F27
                            go_upto_region 33 with fail
                            clear z0 c0_0 c0_1 c0_2 c0_3 c0_4 c0_5 c0_6
                            have H28:=Lib.hid (HQR.out.alloc wr_.heap.size 76 [.int .i64 st,.int .i64 c0,.int .i64 r0,.int .i64 nd,.int .u8 (k : Nat),.int .i64 x1,.int .i64 y1,.int .i64 x2,.int .i64 y2,.int .i64 gr,.int .u64 (t : Nat)] rfl)
                            generalize (wr_.alloc (.cells #[.int .i64 st,.int .i64 c0,.int .i64 r0,.int .i64 nd,.int .u8 (k : Nat),.int .i64 x1,.int .i64 y1,.int .i64 x2,.int .i64 y2,.int .i64 gr,.int .u64 (t : Nat)] 76)) = WE at H28 ⊢
                            clear HQR hBB e0 e1 e2 e3 e4 e5 e6 e7 e8 e9 e10
                            have F29:=H28.out.ok.sees
                            simp only [sees,kBlk,cellsAt,Nat.reduceAdd] at F29
                            obtain ⟨⟨z0,c0_0,c0_1,c0_2,c0_3,c0_4,c0_5,c0_6,c0_7,c0_8,c0_9,c0_10,-⟩,⟨z1,c1_0,c1_1,c1_2,c1_3,c1_4,c1_5,c1_6,-⟩,-⟩:=F29
                            go_wp2_with fail
                            refine (ln_shown st c0 r0 nd k x1 y1 x2 y2 gr t HXO.out.step HXO.out.col HXO.out.row HXO.out.node HXO.out.fn HXO.out.c1 HXO.out.r1 HXO.out.c2 HXO.out.r2 HXO.out.grant HXO.out.tg _ (HE.out.below H28.out.ok.bel).1).mono ?_
                            rintro e w30 ⟨rfl,hb31⟩
                            clear z0 c0_0 c0_1 c0_2 c0_3 c0_4 c0_5 c0_6 c0_7 c0_8 c0_9 c0_10 z1 c1_0 c1_1 c1_2 c1_3 c1_4 c1_5 c1_6
                            have H32:=Lib.hid (H28.out.below hb31)
                            clear hb31 H28
                            have F33:=H32.out.ok.sees
                            simp only [sees,kBlk,cellsAt,Nat.reduceAdd] at F33
                            obtain ⟨⟨z0,c0_0,c0_1,c0_2,c0_3,c0_4,c0_5,c0_6,c0_7,c0_8,c0_9,c0_10,-⟩,⟨z1,c1_0,c1_1,c1_2,c1_3,c1_4,c1_5,c1_6,-⟩,-⟩:=F33
                            go_wp2_with (at_builtin; refine wpList_append_lies _ rfl _ _ _ rfl w.heap.size 9 i0 _ 1 16 Tryz.underlying63 hi hz0 hz1 hz2 rfl (by omega) _ _ _ rfl (H32.out.own.alloc _) ⟨w30.heap.size,0,none⟩ 1 1 [.string ⟨(rlL ⟨st,c0,r0,nd,k,⟨x1,y1,x2,y2⟩,gr,t⟩).toArray⟩] rfl rfl (World.news_of_block (cs:=#[.string ⟨(rlL ⟨st,c0,r0,nd,k,⟨x1,y1,x2,y2⟩,gr,t⟩).toArray⟩]) (t:=9) (fr:=(0,0)) (heap_alloc_new _ _)) (by intro u hu; simp at hu; rcases hu with rfl <;> rfl) (by omega) (by unfold maxLen; omega) (by omega) (by have:=H32.out.ok.bel.size; simp; omega) _ rfl ?_; intro g3 cap3 w3 hown3 hgrow3 hat3 hlt3)
                            clear z0 c0_0 c0_1 c0_2 c0_3 c0_4 c0_5 c0_6 c0_7 c0_8 c0_9 c0_10 z1 c1_0 c1_1 c1_2 c1_3 c1_4 c1_5 c1_6
                            have H34:=Lib.hid (show OkRow w [kBlk wr_.heap.size 76 [.int .i64 st,.int .i64 c0,.int .i64 r0,.int .i64 nd,.int .u8 (k : Nat),.int .i64 x1,.int .i64 y1,.int .i64 x2,.int .i64 y2,.int .i64 gr,.int .u64 (t : Nat)],kBlk (w.heap.size) 26 [.int .u8 (c : Nat),.int .i64 at_,.slice ga gn gc,.string TX,.slice ea en ec,.slice (some ⟨bb,oo,none⟩) rn rc,.int .i64 ct]] 9 1 (.slice (some ⟨g3,0,none⟩) (La.length + 1) cap3) (La.length + 1) (strsV La ++ strsV [rlL ⟨st,c0,r0,nd,k,⟨x1,y1,x2,y2⟩,gr,t⟩]) w3 from (H32.out.alloc_obj _).appended hown3 hgrow3 hat3)
                            clear hown3 hgrow3 hat3 H32
                            go_roundw
                            case rel => exact ⟨i + 1,by omega,by go_num,by rw [take_snoc HXX.out,List.map_append,← List.append_assoc,HLA.out,List.length_append,strsV_ap]; exact Lib.hid (H34.out.drop [kBlk (w.heap.size) 26 [.int .u8 (c : Nat),.int .i64 at_,.slice ga gn gc,.string TX,.slice ea en ec,.slice (some ⟨bb,oo,none⟩) rn rc,.int .i64 ct]] (by simp))⟩
                            case measure => simp [intOf]; omega
                          · obtain rfl : rn = i:=by omega
                            have HF:=keep (List.take_of_length_le (l:=rls) (i:=rn) (by rw [HRN.out]; exact Nat.le_refl _))
                            rw [HF.out,HL9.out] at HQR
                            have HJN:=keep (reply_le HO.out HGG.out)
                            obtain ⟨LW,hLW⟩ : ∃ L,replyW ⟨c,at_,grid,TX.data.toList,evs,rls,ct⟩ = L:=⟨_,rfl⟩
                            rw [hLW] at HQR HJN
                            have hne : LW ≠ []:=by rw [← hLW]; unfold replyW; simp
                            have HRE:=keep (show replyL ⟨c,at_,grid,TX.data.toList,evs,rls,ct⟩ = Lib.join LW [32] by rw [← hLW]; rfl)
                            clear hLW
                            have F27:=HQR.out.ok.sees
                            simp only [sees,kBlk,cellsAt,Nat.reduceAdd] at F27
                            obtain ⟨⟨z0,c0_0,c0_1,c0_2,c0_3,c0_4,c0_5,c0_6,-⟩,-⟩:=F27
                            go_wp2_with fail
                            refine (ln_join_own LW HQR.out.own hne HJN.out.1 HJN.out.2).mono ?_
                            rintro e w99 ⟨rfl,hb⟩
                            have HZ:=Lib.hid (HQR.out.below hb)
                            clear hb
                            go_wp2_with fail
                            exact bodyPost_ret (v:=.tuple #[.string ⟨(Lib.join LW [32]).toArray⟩,.int .i64 0]) (by simp [results,Tryz.results9,go_sem]) rfl ⟨by rw [HRG.out HGG.out,HRE.out],HZ.out.ok.bel⟩
  · have q1 : (q != 0) = true:=by simpa using q0
    go_wp2_with fail
    exact bodyPost_ret (v:=.tuple #[.string ⟨#[]⟩,.int .i64 2]) (by simp [results,Tryz.results9,go_sem]) rfl ⟨by rw [HRB.out (fun h => by have:=h.1.2.2.2; simp only at this; rw [HQ.out] at this; exact q0 this)],H9.out.bel⟩
end Go.Proofs.YtmalncmdfmoccaaGreatDoor
