/- Chapter 42: shows, value, codes. -/
import Derived.Test.YtmalncmdfmoccaaGreatDoorCLnB
namespace Go.Proofs.YtmalncmdfmoccaaGreatDoor
open Go.RowKit
attribute [local go_sem high] eq_val
open Classical in
noncomputable def showsB (v : VlL) : Bool:=decide (goodL v)
open Classical in
theorem shows_iff (v : VlL) : showsB v = true ↔ goodL v:=decide_eq_true_iff
theorem shows_cell {k : Nat} {n : Int} {t : List UInt8} (h : valE k n t = 0) : showsB (k,n,t) = true:=(shows_iff _).2 (.inl (Classical.byContradiction fun g => by rw [valE_no g] at h; exact absurd h (by decide)))
theorem shows_not {k : Nat} {n : Int} {s : ByteArray} (h : valE k n s.data.toList ≠ 0) : eq3 (k : Nat) n 4 7 s.toList [] = showsB (k,n,s.data.toList):=by
  rw [Bool.eq_iff_iff,eq3_iff,shows_iff,toL]
  constructor
  · rintro ⟨h1,rfl,h3⟩
    have h1 : k = 4:=by omega
    subst h1
    rw [h3]; exact .inr rfl
  · rintro (g | g)
    · exact absurd (valE_yes g) h
    · have e1 : k = 4:=congrArg (fun v : VlL => v.1) g
      have e2 : n = 7:=congrArg (fun v : VlL => v.2.1) g
      have e3 : s.data.toList = []:=congrArg (fun v : VlL => v.2.2) g
      subst e1 e2
      exact ⟨rfl,rfl,e3⟩
set_option maxRecDepth 100000 in
set_option maxHeartbeats 8000000 in
theorem ln_shows (k : Nat) (n : Int) (s : ByteArray) (hs : s.size ≤ 4611686018427387904) (w : World) :
    Calls Tryz.prog 23 #[.agg #[.int .u8 (k : Nat),.int .i64 n,.string s]] w fun e w' => e = .returned (.bool (showsB (k,n,s.data.toList))) ∧ Below w.heap.size w w':=by
  have HS:=Lib.hid hs
  have HN:=keep (shows_not (k:=k) (n:=n) (s:=s))
  have HY:=keep (shows_cell (k:=k) (n:=n) (t:=s.data.toList))
  obtain ⟨B,hB⟩ : ∃ B,showsB (k,n,s.data.toList) = B:=⟨_,rfl⟩
  rw [hB] at HN HY ⊢
  obtain ⟨E,hE⟩ : ∃ E,valE k n s.data.toList = E:=⟨_,rfl⟩
  rw [hE] at HN HY
  have HVE:=keep hE
  clear hB hE hs
  by_cases h0 : E = 0
  · subst h0
    obtain rfl : B = true:=HY.out rfl
    have H1:=Lib.hid ((Ok.start w).alloc w.heap.size 59 [.int .u8 (k : Nat),.int .i64 n,.string s] rfl)
    go_enter Tryz.func23,Tryz.ntmps23
    go_upto_region 1 with fail
    generalize (w.alloc (.cells #[.int .u8 (k : Nat),.int .i64 n,.string s] 59)) = W2 at H1 ⊢
    refine wp_region_held_drew (S:=fun W => Ok w [kBlk (w.heap.size) 59 [.int .u8 (k : Nat),.int .i64 n,.string s]] W) (by kernel_rfl) H1.out.drew (fun hHeld => ?_)
    refine wpAnyH_take (i:=0) (v:=?vx1_0) rfl (by kernel_rfl) (by kernel_rfl) (by kernel_rfl) (fun _ _ _ h => h) (Or.inl ⟨by rfl,?hyx1_0⟩) (by assumption) ?restx1_0
    case hyx1_0 => (intro w hSw; have F:=Ok.sees hSw; clear hSw; simp only [sees,kBlk,cellsAt,Nat.reduceAdd] at F; go_simp; try with_reducible rfl)
    try simp only [Act.put,List.setIfInBounds_toArray,List.set_cons_zero,List.set_cons_succ,List.getElem_toArray,List.getElem_cons_zero]
    refine wpAnyH_ready (rs:=[1]) (by kernel_rfl) (by simp) ?_
    refine AllReadyH.cons rfl (fun K hK => ?_) AllReadyH.nil
    go_simp
    refine (val_Check k n s HS.out _).mono ?_
    rintro e w4 ⟨rfl,hb5⟩
    rw [HVE.out]
    go_wp2_with fail
    refine hK.out _ _ (hHeld.below hb5) (fun hHeld => ?_)
    clear hK K
    try simp only [Act.put,List.setIfInBounds_toArray,List.set_cons_zero,List.set_cons_succ,List.getElem_toArray,List.getElem_cons_succ,List.getElem_cons_zero]
    refine wpAnyH_take (i:=2) (v:=?vx2_2) rfl (by kernel_rfl) (by kernel_rfl) (by kernel_rfl) (fun _ _ _ h => h) (Or.inl ⟨by rfl,?hyx2_2⟩) (by assumption) ?restx2_2
    case hyx2_2 => (intro w hSw; have F:=Ok.sees hSw; clear hSw; simp only [sees,kBlk,cellsAt,Nat.reduceAdd] at F; go_simp; try with_reducible rfl)
    try simp only [Act.put,List.setIfInBounds_toArray,List.set_cons_zero,List.set_cons_succ,List.getElem_toArray,List.getElem_cons_succ,List.getElem_cons_zero]
    refine wpAnyH_take (i:=3) (v:=?vx3_3) rfl (by kernel_rfl) (by kernel_rfl) (by kernel_rfl) (fun _ _ _ h => h) (Or.inl ⟨by rfl,?hyx3_3⟩) (by assumption) ?restx3_3
    case hyx3_3 => (intro w hSw; have F:=Ok.sees hSw; clear hSw; simp only [sees,kBlk,cellsAt,Nat.reduceAdd] at F; go_simp; try with_reducible rfl)
    try simp only [Act.put,List.setIfInBounds_toArray,List.set_cons_zero,List.set_cons_succ,List.getElem_toArray,List.getElem_cons_succ,List.getElem_cons_zero]
    refine wpAnyH_take (i:=4) (v:=undef) rfl (by kernel_rfl) (by kernel_rfl) (by kernel_rfl) (fun _ _ _ h => h) (Or.inr ⟨by rfl,rfl⟩) (by assumption) ?_
    try simp only [Act.put,List.setIfInBounds_toArray,List.set_cons_zero,List.set_cons_succ,List.getElem_toArray,List.getElem_cons_succ,List.getElem_cons_zero]
    refine wpAnyH_take (i:=5) (v:=undef) rfl (by kernel_rfl) (by kernel_rfl) (by kernel_rfl) (fun _ _ _ h => h) (Or.inr ⟨by rfl,rfl⟩) (by assumption) ?_
    try simp only [Act.put,List.setIfInBounds_toArray,List.set_cons_zero,List.set_cons_succ,List.getElem_toArray,List.getElem_cons_succ,List.getElem_cons_zero]
    refine wpAnyH_take (i:=6) (v:=undef) rfl (by kernel_rfl) (by kernel_rfl) (by kernel_rfl) (fun _ _ _ h => h) (Or.inr ⟨by rfl,rfl⟩) (by assumption) ?_
    try simp only [Act.put,List.setIfInBounds_toArray,List.set_cons_zero,List.set_cons_succ,List.getElem_toArray,List.getElem_cons_succ,List.getElem_cons_zero]
    refine wpAnyH_take (i:=7) (v:=?vx7_7) rfl (by kernel_rfl) (by kernel_rfl) (by kernel_rfl) (fun _ _ _ h => h) (Or.inl ⟨by rfl,?hyx7_7⟩) (by assumption) ?restx7_7
    case hyx7_7 => (intro w hSw; have F:=Ok.sees hSw; clear hSw; simp only [sees,kBlk,cellsAt,Nat.reduceAdd] at F; go_simp; try with_reducible rfl)
    try simp only [Act.put,List.setIfInBounds_toArray,List.set_cons_zero,List.set_cons_succ,List.getElem_toArray,List.getElem_cons_succ,List.getElem_cons_zero]
    refine wpAnyH_take (i:=8) (v:=?vx8_8) rfl (by kernel_rfl) (by kernel_rfl) (by kernel_rfl) (fun _ _ _ h => h) (Or.inl ⟨by rfl,?hyx8_8⟩) (by assumption) ?restx8_8
    case hyx8_8 => (intro w hSw; have F:=Ok.sees hSw; clear hSw; simp only [sees,kBlk,cellsAt,Nat.reduceAdd] at F; go_simp; try with_reducible rfl)
    try simp only [Act.put,List.setIfInBounds_toArray,List.set_cons_zero,List.set_cons_succ,List.getElem_toArray,List.getElem_cons_succ,List.getElem_cons_zero]
    refine wpAnyH_done (by kernel_rfl) ?_ _
    clear H1
    have H6:=Lib.hid hHeld
    clear hHeld
    have F7:=H6.out.sees
    simp only [sees,kBlk,cellsAt,Nat.reduceAdd] at F7
    obtain ⟨⟨z0,c0_0,c0_1,c0_2,-⟩,-⟩:=F7
    go_wp2_with fail
    go_ret
    exact ⟨rfl,H6.out.bel⟩
  · have he : (E == 0) = false:=by simpa using h0
    obtain rfl : eq3 (k : Nat) n 4 7 s.toList [] = B:=HN.out h0
    clear h0
    have H1:=Lib.hid ((Ok.start w).alloc w.heap.size 59 [.int .u8 (k : Nat),.int .i64 n,.string s] rfl)
    go_enter Tryz.func23,Tryz.ntmps23
    go_upto_region 1 with fail
    generalize (w.alloc (.cells #[.int .u8 (k : Nat),.int .i64 n,.string s] 59)) = W2 at H1 ⊢
    refine wp_region_held_drew (S:=fun W => Ok w [kBlk (w.heap.size) 59 [.int .u8 (k : Nat),.int .i64 n,.string s]] W) (by kernel_rfl) H1.out.drew (fun hHeld => ?_)
    refine wpAnyH_take (i:=0) (v:=?vx9_0) rfl (by kernel_rfl) (by kernel_rfl) (by kernel_rfl) (fun _ _ _ h => h) (Or.inl ⟨by rfl,?hyx9_0⟩) (by assumption) ?restx9_0
    case hyx9_0 => (intro w hSw; have F:=Ok.sees hSw; clear hSw; simp only [sees,kBlk,cellsAt,Nat.reduceAdd] at F; go_simp; try with_reducible rfl)
    try simp only [Act.put,List.setIfInBounds_toArray,List.set_cons_zero,List.set_cons_succ,List.getElem_toArray,List.getElem_cons_zero]
    refine wpAnyH_ready (rs:=[1]) (by kernel_rfl) (by simp) ?_
    refine AllReadyH.cons rfl (fun K hK => ?_) AllReadyH.nil
    go_simp
    refine (val_Check k n s HS.out _).mono ?_
    rintro e w4 ⟨rfl,hb5⟩
    rw [HVE.out]
    go_wp2_with fail
    refine hK.out _ _ (hHeld.below hb5) (fun hHeld => ?_)
    clear hK K
    try simp only [Act.put,List.setIfInBounds_toArray,List.set_cons_zero,List.set_cons_succ,List.getElem_toArray,List.getElem_cons_succ,List.getElem_cons_zero]
    refine wpAnyH_take (i:=2) (v:=?vx10_2) rfl (by kernel_rfl) (by kernel_rfl) (by kernel_rfl) (fun _ _ _ h => h) (Or.inl ⟨by rfl,?hyx10_2⟩) (by assumption) ?restx10_2
    case hyx10_2 => (intro w hSw; have F:=Ok.sees hSw; clear hSw; simp only [sees,kBlk,cellsAt,Nat.reduceAdd] at F; go_simp; try with_reducible rfl)
    try simp only [Act.put,List.setIfInBounds_toArray,List.set_cons_zero,List.set_cons_succ,List.getElem_toArray,List.getElem_cons_succ,List.getElem_cons_zero]
    refine wpAnyH_take (i:=3) (v:=?vx11_3) rfl (by kernel_rfl) (by kernel_rfl) (by kernel_rfl) (fun _ _ _ h => h) (Or.inl ⟨by rfl,?hyx11_3⟩) (by assumption) ?restx11_3
    case hyx11_3 => (intro w hSw; have F:=Ok.sees hSw; clear hSw; simp only [sees,kBlk,cellsAt,Nat.reduceAdd] at F; go_simp; try with_reducible rfl)
    try simp only [Act.put,List.setIfInBounds_toArray,List.set_cons_zero,List.set_cons_succ,List.getElem_toArray,List.getElem_cons_succ,List.getElem_cons_zero]
    refine wpAnyH_take (i:=4) (v:=?vx12_4) rfl (by kernel_rfl) (by kernel_rfl) (by kernel_rfl) (fun _ _ _ h => h) (Or.inl ⟨by rfl,?hyx12_4⟩) (by assumption) ?restx12_4
    case hyx12_4 => (intro w hSw; have F:=Ok.sees hSw; clear hSw; simp only [sees,kBlk,cellsAt,Nat.reduceAdd] at F; go_simp; try with_reducible rfl)
    try simp only [Act.put,List.setIfInBounds_toArray,List.set_cons_zero,List.set_cons_succ,List.getElem_toArray,List.getElem_cons_succ,List.getElem_cons_zero]
    refine wpAnyH_ready (rs:=[5]) (by kernel_rfl) (by simp) ?_
    refine AllReadyH.cons rfl (fun K hK => ?_) AllReadyH.nil
    go_simp
    refine (fail_code 7 (by decide) (by decide) _).mono ?_
    rintro e w6 ⟨rfl,hb7⟩
    go_wp2_with fail
    refine hK.out _ _ (hHeld.below hb7) (fun hHeld => ?_)
    clear hK K
    try simp only [Act.put,List.setIfInBounds_toArray,List.set_cons_zero,List.set_cons_succ,List.getElem_toArray,List.getElem_cons_succ,List.getElem_cons_zero]
    refine wpAnyH_take (i:=6) (v:=?vx13_6) rfl (by kernel_rfl) (by kernel_rfl) (by kernel_rfl) (fun _ _ _ h => h) (Or.inl ⟨by rfl,?hyx13_6⟩) (by assumption) ?restx13_6
    case hyx13_6 => (intro w hSw; have F:=Ok.sees hSw; clear hSw; simp only [sees,kBlk,cellsAt,Nat.reduceAdd] at F; go_simp; try with_reducible rfl)
    try simp only [Act.put,List.setIfInBounds_toArray,List.set_cons_zero,List.set_cons_succ,List.getElem_toArray,List.getElem_cons_succ,List.getElem_cons_zero]
    refine wpAnyH_take (i:=7) (v:=?vx14_7) rfl (by kernel_rfl) (by kernel_rfl) (by kernel_rfl) (fun _ _ _ h => h) (Or.inl ⟨by rfl,?hyx14_7⟩) (by assumption) ?restx14_7
    case hyx14_7 => (intro w hSw; have F:=Ok.sees hSw; clear hSw; simp only [sees,kBlk,cellsAt,Nat.reduceAdd] at F; go_simp; try with_reducible rfl)
    try simp only [Act.put,List.setIfInBounds_toArray,List.set_cons_zero,List.set_cons_succ,List.getElem_toArray,List.getElem_cons_succ,List.getElem_cons_zero]
    refine wpAnyH_take (i:=8) (v:=?vx15_8) rfl (by kernel_rfl) (by kernel_rfl) (by kernel_rfl) (fun _ _ _ h => h) (Or.inl ⟨by rfl,?hyx15_8⟩) (by assumption) ?restx15_8
    case hyx15_8 => (intro w hSw; have F:=Ok.sees hSw; clear hSw; simp only [sees,kBlk,cellsAt,Nat.reduceAdd] at F; go_simp; try with_reducible rfl)
    try simp only [Act.put,List.setIfInBounds_toArray,List.set_cons_zero,List.set_cons_succ,List.getElem_toArray,List.getElem_cons_succ,List.getElem_cons_zero]
    refine wpAnyH_done (by kernel_rfl) ?_ _
    clear H1
    have H8:=Lib.hid hHeld
    clear hHeld
    have F9:=H8.out.sees
    simp only [sees,kBlk,cellsAt,Nat.reduceAdd] at F9
    obtain ⟨⟨z0,c0_0,c0_1,c0_2,-⟩,-⟩:=F9
    go_wp2_with fail
    go_ret
    exact ⟨rfl,H8.out.bel⟩
set_option maxRecDepth 100000 in
set_option maxHeartbeats 8000000 in
theorem ln_value (k : Nat) (n : Int) (s : ByteArray) (hs : s.size ≤ 4611686018427387904) (h1 : -9223372036854775808 ≤ n) (h2 : n ≤ 9223372036854775807) (hg : goodL (k,n,s.data.toList)) (w : World) (he : LEnv w) :
    Calls Tryz.prog 24 #[.agg #[.int .u8 (k : Nat),.int .i64 n,.string s]] w fun e w' => e = .returned (.string ⟨(valT (k,n,s.data.toList)).toArray⟩) ∧ Below w.heap.size w w':=by
  have HE:=keep he
  have HS:=Lib.hid hs
  have HSH:=keep (show k ≠ 0 → k ≠ 3 → ∀ W,LEnv W → Calls Tryz.prog 56 #[.agg #[.int .u8 (k : Nat),.int .i64 n,.string s]] W fun e w' => e = .returned (.string ⟨(showV k n s.data.toList).toArray⟩) ∧ Below W.heap.size W w' from by
    intro g0 g3 W hW
    rcases hg with hg | hg
    · exact val_Show k n s hs h1 h2 W hW.2 hg
    · have e1 : k = 4:=congrArg (fun v : VlL => v.1) hg
      have e2 : n = 7:=congrArg (fun v : VlL => v.2.1) hg
      have e3 : s.data.toList = []:=congrArg (fun v : VlL => v.2.2) hg
      clear hg
      subst e1 e2
      have e : s = ⟨#[]⟩:=by
        apply Classical.byContradiction
        intro h
        exact (str_nil h).1 e3
      subst e
      exact show_err 7 (by decide) (by decide) W hW.2)
  have HQ:=keep (show k = 3 → quoteT s.data.toList = quoteS s.data.toList from by
    intro g
    subst g
    rcases hg with hg | hg
    · rcases hg with ⟨h,-⟩ | ⟨h,-⟩ | ⟨h,-⟩ | ⟨-,-,h⟩ | ⟨h,-⟩
      · cases h
      · cases h
      · cases h
      · unfold quoteT
        rw [if_pos h]
      · cases h
    · cases hg)
  have HD:=keep (fun W => dec_Format n W h1 h2)
  clear he hs hg h1 h2
  by_cases g0 : k = 0
  · subst g0
    rw [show valT (0,n,s.data.toList) = [45] from rfl]
    have H1:=Lib.hid ((Ok.start w).alloc w.heap.size 59 [.int .u8 0,.int .i64 n,.string s] rfl)
    go_enter Tryz.func24,Tryz.ntmps24
    go_upto_region 1 with fail
    generalize (w.alloc (.cells #[.int .u8 0,.int .i64 n,.string s] 59)) = W2 at H1 ⊢
    have F3:=H1.out.sees
    simp only [sees,kBlk,cellsAt,Nat.reduceAdd] at F3
    obtain ⟨⟨z0,c0_0,c0_1,c0_2,-⟩,-⟩:=F3
    go_wp2_with fail
    go_ret
    exact ⟨rfl,H1.out.bel⟩
  by_cases g1 : k = 1
  · subst g1
    rw [show valT (1,n,s.data.toList) = decS n from rfl]
    have H1:=Lib.hid ((Ok.start w).alloc w.heap.size 59 [.int .u8 1,.int .i64 n,.string s] rfl)
    go_enter Tryz.func24,Tryz.ntmps24
    go_upto_region 1 with fail
    generalize (w.alloc (.cells #[.int .u8 1,.int .i64 n,.string s] 59)) = W2 at H1 ⊢
    have F3:=H1.out.sees
    simp only [sees,kBlk,cellsAt,Nat.reduceAdd] at F3
    obtain ⟨⟨z0,c0_0,c0_1,c0_2,-⟩,-⟩:=F3
    go_wp2_with fail
    refine (HD.out _).mono ?_
    rintro e w4 ⟨rfl,hb5⟩
    clear z0 c0_0 c0_1 c0_2
    have H6:=Lib.hid (H1.out.below hb5)
    clear hb5 H1
    have F7:=H6.out.sees
    simp only [sees,kBlk,cellsAt,Nat.reduceAdd] at F7
    obtain ⟨⟨z0,c0_0,c0_1,c0_2,-⟩,-⟩:=F7
    go_wp2_with fail
    go_ret
    exact ⟨rfl,H6.out.bel⟩
  by_cases g3 : k = 3
  · have hq:=HQ.out g3
    subst g3
    rw [show valT (3,n,s.data.toList) = quoteS s.data.toList from rfl,← hq]
    clear hq
    have H1:=Lib.hid ((Ok.start w).alloc w.heap.size 59 [.int .u8 3,.int .i64 n,.string s] rfl)
    go_enter Tryz.func24,Tryz.ntmps24
    go_upto_region 1 with fail
    generalize (w.alloc (.cells #[.int .u8 3,.int .i64 n,.string s] 59)) = W2 at H1 ⊢
    have F3:=H1.out.sees
    simp only [sees,kBlk,cellsAt,Nat.reduceAdd] at F3
    obtain ⟨⟨z0,c0_0,c0_1,c0_2,-⟩,-⟩:=F3
    go_wp2_with fail
    refine (glyph_Quote s _ HS.out (HE.out.below H1.out.bel).1.2.2.1).mono ?_
    rintro e w4 ⟨rfl,hb5⟩
    clear z0 c0_0 c0_1 c0_2
    have H6:=Lib.hid (H1.out.below hb5)
    clear hb5 H1
    have F7:=H6.out.sees
    simp only [sees,kBlk,cellsAt,Nat.reduceAdd] at F7
    obtain ⟨⟨z0,c0_0,c0_1,c0_2,-⟩,-⟩:=F7
    go_wp2_with fail
    go_ret
    exact ⟨rfl,H6.out.bel⟩
  have HW:=keep (HSH.out g0 g3)
  have k0 : ((k : Int) == 0) = false:=by simp; omega
  have k1 : ((k : Int) == 1) = false:=by simp; omega
  have k3 : ((k : Int) == 3) = false:=by simp; omega
  rw [show valT (k,n,s.data.toList) = showV k n s.data.toList by unfold valT; rw [if_neg g0,if_neg g3]]
  clear g0 g1 g3
  have H1:=Lib.hid ((Ok.start w).alloc w.heap.size 59 [.int .u8 (k : Nat),.int .i64 n,.string s] rfl)
  go_enter Tryz.func24,Tryz.ntmps24
  go_upto_region 1 with fail
  generalize (w.alloc (.cells #[.int .u8 (k : Nat),.int .i64 n,.string s] 59)) = W2 at H1 ⊢
  have F3:=H1.out.sees
  simp only [sees,kBlk,cellsAt,Nat.reduceAdd] at F3
  obtain ⟨⟨z0,c0_0,c0_1,c0_2,-⟩,-⟩:=F3
  go_wp2_with fail
  refine (HW.out _ (HE.out.below H1.out.bel)).mono ?_
  rintro e w4 ⟨rfl,hb5⟩
  clear z0 c0_0 c0_1 c0_2
  have H6:=Lib.hid (H1.out.below hb5)
  clear hb5 H1
  have F7:=H6.out.sees
  simp only [sees,kBlk,cellsAt,Nat.reduceAdd] at F7
  obtain ⟨⟨z0,c0_0,c0_1,c0_2,-⟩,-⟩:=F7
  go_wp2_with fail
  go_ret
  exact ⟨rfl,H6.out.bel⟩
set_option maxRecDepth 100000 in
set_option maxHeartbeats 8000000 in
theorem ln_codes (w : World) :
    Calls Tryz.prog 19 #[] w fun e w' => ∃ g,e = .returned (.slice (some ⟨g,0,none⟩) 9 9) ∧ (kBlk g 9 (strsV codeN)).p w' ∧ Below w.heap.size w w':=by
  obtain ⟨P,hP⟩ : ∃ P : Ending → World → Prop,(fun (e : Ending) (w' : World) => ∃ g,e = .returned (.slice (some ⟨g,0,none⟩) 9 9) ∧ (kBlk g 9 (strsV codeN)).p w' ∧ Below w.heap.size w w') = P:=⟨_,rfl⟩
  rw [hP]
  have HPP:=keep hP
  clear hP
  have H0:=Lib.hid (Ok.start w)
  go_enter Tryz.func19,Tryz.ntmps19
  go_wp2_with fail
  first
    | go_ret
    | skip
  have H1:=Lib.hid (H0.out.alloc w.heap.size 9 [.string ⟨#[100,111,110,101]⟩,.string ⟨#[102,111,114,109]⟩,.string ⟨#[117,110,107,110,111,119,110]⟩,.string ⟨#[111,117,116]⟩,.string ⟨#[102,117,108,108]⟩,.string ⟨#[114,101,102,117,115,101,100]⟩,.string ⟨#[115,121,110,116,97,120]⟩,.string ⟨#[108,105,109,105,116]⟩,.string ⟨#[109,105,115,115,105,110,103]⟩] rfl)
  rw [← HPP.out]
  exact ⟨_,rfl,H1.out.get (kBlk w.heap.size 9 [.string ⟨#[100,111,110,101]⟩,.string ⟨#[102,111,114,109]⟩,.string ⟨#[117,110,107,110,111,119,110]⟩,.string ⟨#[111,117,116]⟩,.string ⟨#[102,117,108,108]⟩,.string ⟨#[114,101,102,117,115,101,100]⟩,.string ⟨#[115,121,110,116,97,120]⟩,.string ⟨#[108,105,109,105,116]⟩,.string ⟨#[109,105,115,115,105,110,103]⟩]) (by simp),H1.out.bel⟩
end Go.Proofs.YtmalncmdfmoccaaGreatDoor
