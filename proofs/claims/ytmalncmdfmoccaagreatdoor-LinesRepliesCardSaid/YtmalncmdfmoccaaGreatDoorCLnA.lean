/- Chapter 42: lines.num, join, choose, ranged. -/
import Derived.Test.YtmalncmdfmoccaaGreatDoorCLnP
import Derived.Test.YtmalncmdfmoccaaGreatDoorCShw
import Derived.Test.YtmalncmdfmoccaaGreatDoorCLexO
namespace Go.Proofs.YtmalncmdfmoccaaGreatDoor
open Go.RowKit
def LEnv (w : World) : Prop:=Env6 w ∧ Words w
theorem LEnv.below {w w' : World} (h : LEnv w) (hb : Below w.heap.size w w') : LEnv w':=⟨h.1.below hb,h.2.below hb⟩
theorem gfmtL_lenL (s : Nat) : (gfmtL s).length ≤ 10000:=by
  have h:=textW_len s 64
  unfold gfmtL
  split
  · decide
  · split
    · decide
    · omega
theorem formatS_lenL (c r : Int) : (formatS c r).1.length ≤ 3000:=by
  cases hv : validN c r
  · rw [formatS_bad c r hv]; simp
  · have:=validN_parts hv
    rw [formatS_good c r hv]
    have h1:=lettersN_len c.toNat (by omega)
    have h2:=dec_len r.toNat (by omega)
    simp; omega
theorem rangeL_len (r : R4) (h1 : i64B r.c1) (h2 : i64B r.r1) (h3 : i64B r.c2) (h4 : i64B r.r2) : (rangeL r).length ≤ 10000:=by
  unfold rangeL
  split
  · have e1:=formatS_lenL r.c1 r.r1
    have e2:=formatS_lenL r.c2 r.r2
    unfold fmtL
    rw [List.length_append]
    split
    · simp; omega
    · rw [List.length_cons]; omega
  · exact Nat.le_trans (comma_len r h1 h2 h3 h4) (by decide)
theorem join_le (ws : List (List UInt8)) (b : Nat) (h : ∀ w ∈ ws,w.length ≤ b) : (Lib.join ws [32]).length ≤ ws.length * (b + 1):=by
  induction ws with
  | nil => exact Nat.zero_le _
  | cons x r ih =>
    cases r with
    | nil => rw [Lib.join_one]; have:=h x (by simp); simp; omega
    | cons y r =>
      have h1:=h x (by simp)
      have h2:=ih fun w hw => h w (by simp [List.mem_cons.1 hw])
      rw [join_two]
      rw [List.length_cons,Nat.add_mul]
      simp only [List.length_append,List.length_cons] at h2 ⊢
      omega
set_option maxRecDepth 100000 in
set_option maxHeartbeats 8000000 in
theorem ln_num (n : Int) (h : i64B n) (w : World) (he : Env6 w) :
    Calls Tryz.prog 21 #[.int .i64 n] w fun e w' => e = .returned (.string ⟨(Lib.itoa n).toArray⟩) ∧ Below w.heap.size w w':=by
  have HE:=keep he
  have HN:=keep h
  clear he h
  have H1:=Lib.hid (Ok.start w)
  go_enter Tryz.func21,Tryz.ntmps21
  go_wp2_with fail
  refine (Itoa6 n HN.out _ (HE.out.below H1.out.bel)).mono ?_
  rintro e w2 ⟨rfl,hb3⟩
  have H4:=Lib.hid (H1.out.below hb3)
  clear hb3 H1
  go_wp2_with fail
  go_ret
  exact ⟨rfl,H4.out.bel⟩
set_option maxRecDepth 100000 in
set_option maxHeartbeats 8000000 in
theorem ln_join {w : World} {g n : Nat} (l : List (List UInt8)) (h : Blk w g 9 (strsV l).toArray) (hn : l.length = n) (hl : l.length ≤ 100000) (hlen : (Lib.join l [32]).length ≤ 140737488355328) :
    Calls Tryz.prog 27 #[.slice (some ⟨g,0,none⟩) n n] w fun e w' => e = .returned (.string ⟨(Lib.join l [32]).toArray⟩) ∧ Below w.heap.size w w':=by
  have HJ:=keep (join_blk l 32 h hn hl hlen)
  clear h hn hl hlen
  have H1:=Lib.hid (Ok.start w)
  go_enter Tryz.func27,Tryz.ntmps27
  go_wp2_with fail
  refine (HJ.out).mono ?_
  rintro e w2 ⟨rfl,hb3⟩
  have H4:=Lib.hid (H1.out.below hb3)
  clear hb3 H1
  go_wp2_with fail
  go_ret
  exact ⟨rfl,H4.out.bel⟩
set_option maxRecDepth 100000 in
set_option maxHeartbeats 8000000 in
theorem ln_join_own {w : World} {base : Nat} {v : Value} (l : List (List UInt8)) (h : w.ownsRow base 9 1 v l.length (strsV l)) (hne : l ≠ []) (hl : l.length ≤ 100000) (hlen : (Lib.join l [32]).length ≤ 140737488355328) :
    Calls Tryz.prog 27 #[v] w fun e w' => e = .returned (.string ⟨(Lib.join l [32]).toArray⟩) ∧ Below w.heap.size w w':=by
  have HJ:=keep (join_own l 32 h hne hl hlen)
  clear h hne hl hlen
  have H1:=Lib.hid (Ok.start w)
  go_enter Tryz.func27,Tryz.ntmps27
  go_wp2_with fail
  refine (HJ.out).mono ?_
  rintro e w2 ⟨rfl,hb3⟩
  have H4:=Lib.hid (H1.out.below hb3)
  clear hb3 H1
  go_wp2_with fail
  go_ret
  exact ⟨rfl,H4.out.bel⟩
set_option maxRecDepth 100000 in
set_option maxHeartbeats 8000000 in
theorem ln_choose (b : Bool) (x y : ByteArray) (w : World) :
    Calls Tryz.prog 58 #[.bool b,.string x,.string y] w fun e w' => e = .returned (.string (if b then x else y)) ∧ Below w.heap.size w w':=by
  cases b
  · have H1:=Lib.hid (Ok.start w)
    go_enter Tryz.func58,Tryz.ntmps58
    go_wp2_with fail
    go_ret
    exact ⟨rfl,H1.out.bel⟩
  · have H1:=Lib.hid (Ok.start w)
    go_enter Tryz.func58,Tryz.ntmps58
    go_wp2_with fail
    go_ret
    exact ⟨rfl,H1.out.bel⟩
set_option maxRecDepth 100000 in
set_option maxHeartbeats 8000000 in
theorem ln_ranged (x1 y1 x2 y2 : Int) (h1 : i64B x1) (h2 : i64B y1) (h3 : i64B x2) (h4 : i64B y2) (w : World) (he : Env6 w) :
    Calls Tryz.prog 57 #[.agg #[.int .i64 x1,.int .i64 y1,.int .i64 x2,.int .i64 y2]] w fun e w' => e = .returned (.string ⟨(rangeL ⟨x1,y1,x2,y2⟩).toArray⟩) ∧ Below w.heap.size w w':=by
  have HE:=keep he
  have H1:=keep h1
  have H2:=keep h2
  have H3:=keep h3
  have H4:=keep h4
  clear he h1 h2 h3 h4
  obtain ⟨L,hL⟩ : ∃ L,rangeL ⟨x1,y1,x2,y2⟩ = L:=⟨_,rfl⟩
  rw [hL]
  have HL:=keep hL
  clear hL
  obtain ⟨Q,hQ⟩ : ∃ Q,fmtR ⟨x1,y1,x2,y2⟩ = Q:=⟨_,rfl⟩
  have HQ:=keep hQ
  clear hQ
  have H11:=Lib.hid ((Ok.start w).alloc w.heap.size 49 [.int .i64 x1,.int .i64 y1,.int .i64 x2,.int .i64 y2] rfl)
  go_enter Tryz.func57,Tryz.ntmps57
  go_wp2_with fail
  generalize (w.alloc (.cells #[.int .i64 x1,.int .i64 y1,.int .i64 x2,.int .i64 y2] 49)) = W12 at H11 ⊢
  refine (rect_Format x1 y1 x2 y2 _ (HE.out.below H11.out.bel).1).mono ?_
  rintro e w13 ⟨rfl,hb14⟩
  rw [HQ.out]
  have H15:=Lib.hid (H11.out.below hb14)
  clear hb14 H11
  have F16:=H15.out.sees
  simp only [sees,kBlk,cellsAt,Nat.reduceAdd] at F16
  obtain ⟨⟨z0,c0_0,c0_1,c0_2,c0_3,-⟩,-⟩:=F16
  cases hc : checkB ⟨x1,y1,x2,y2⟩
  · have hq : Q = ([],3):=by rw [← HQ.out,fmtR_no hc]
    subst hq
    clear HQ
    go_upto_region 4 with fail
    have HLL:=keep (show Lib.join [Lib.itoa x1,Lib.itoa y1,Lib.itoa x2,Lib.itoa y2] [44] = L by rw [← HL.out]; unfold rangeL; rw [if_neg (by rw [hc]; decide)]; rfl)
    have HLN:=keep (comma_len ⟨x1,y1,x2,y2⟩ H1.out H2.out H3.out H4.out)
    refine wp_region_held_drew (S:=fun W => Ok w [kBlk (w.heap.size) 49 [.int .i64 x1,.int .i64 y1,.int .i64 x2,.int .i64 y2]] W) (by kernel_rfl) H15.out.drew (fun hHeld => ?_)
    clear z0 c0_0 c0_1 c0_2 c0_3
    have H17:=Lib.hid H15.out.drew
    clear H15
    generalize w13.drew = W18 at hHeld H17 ⊢
    refine wpAnyH_take (i:=0) (v:=?vx1_0) rfl (by kernel_rfl) (by kernel_rfl) (by kernel_rfl) (fun _ _ _ h => h) (Or.inl ⟨by rfl,?hyx1_0⟩) (by assumption) ?restx1_0
    case hyx1_0 => (intro w hSw; have F:=Ok.sees hSw; clear hSw; simp only [sees,kBlk,cellsAt,Nat.reduceAdd] at F; go_simp; try with_reducible rfl)
    try simp only [Act.put,List.setIfInBounds_toArray,List.set_cons_zero,List.set_cons_succ,List.getElem_toArray,List.getElem_cons_zero]
    refine wpAnyH_take (i:=1) (v:=?vx2_1) rfl (by kernel_rfl) (by kernel_rfl) (by kernel_rfl) (fun _ _ _ h => h) (Or.inl ⟨by rfl,?hyx2_1⟩) (by assumption) ?restx2_1
    case hyx2_1 => (intro w hSw; have F:=Ok.sees hSw; clear hSw; simp only [sees,kBlk,cellsAt,Nat.reduceAdd] at F; go_simp; try with_reducible rfl)
    try simp only [Act.put,List.setIfInBounds_toArray,List.set_cons_zero,List.set_cons_succ,List.getElem_toArray,List.getElem_cons_succ,List.getElem_cons_zero]
    refine wpAnyH_take (i:=3) (v:=?vx3_3) rfl (by kernel_rfl) (by kernel_rfl) (by kernel_rfl) (fun _ _ _ h => h) (Or.inl ⟨by rfl,?hyx3_3⟩) (by assumption) ?restx3_3
    case hyx3_3 => (intro w hSw; have F:=Ok.sees hSw; clear hSw; simp only [sees,kBlk,cellsAt,Nat.reduceAdd] at F; go_simp; try with_reducible rfl)
    try simp only [Act.put,List.setIfInBounds_toArray,List.set_cons_zero,List.set_cons_succ,List.getElem_toArray,List.getElem_cons_succ,List.getElem_cons_zero]
    refine wpAnyH_take (i:=4) (v:=?vx4_4) rfl (by kernel_rfl) (by kernel_rfl) (by kernel_rfl) (fun _ _ _ h => h) (Or.inl ⟨by rfl,?hyx4_4⟩) (by assumption) ?restx4_4
    case hyx4_4 => (intro w hSw; have F:=Ok.sees hSw; clear hSw; simp only [sees,kBlk,cellsAt,Nat.reduceAdd] at F; go_simp; try with_reducible rfl)
    try simp only [Act.put,List.setIfInBounds_toArray,List.set_cons_zero,List.set_cons_succ,List.getElem_toArray,List.getElem_cons_succ,List.getElem_cons_zero]
    refine wpAnyH_take (i:=6) (v:=?vx5_6) rfl (by kernel_rfl) (by kernel_rfl) (by kernel_rfl) (fun _ _ _ h => h) (Or.inl ⟨by rfl,?hyx5_6⟩) (by assumption) ?restx5_6
    case hyx5_6 => (intro w hSw; have F:=Ok.sees hSw; clear hSw; simp only [sees,kBlk,cellsAt,Nat.reduceAdd] at F; go_simp; try with_reducible rfl)
    try simp only [Act.put,List.setIfInBounds_toArray,List.set_cons_zero,List.set_cons_succ,List.getElem_toArray,List.getElem_cons_succ,List.getElem_cons_zero]
    refine wpAnyH_take (i:=7) (v:=?vx6_7) rfl (by kernel_rfl) (by kernel_rfl) (by kernel_rfl) (fun _ _ _ h => h) (Or.inl ⟨by rfl,?hyx6_7⟩) (by assumption) ?restx6_7
    case hyx6_7 => (intro w hSw; have F:=Ok.sees hSw; clear hSw; simp only [sees,kBlk,cellsAt,Nat.reduceAdd] at F; go_simp; try with_reducible rfl)
    try simp only [Act.put,List.setIfInBounds_toArray,List.set_cons_zero,List.set_cons_succ,List.getElem_toArray,List.getElem_cons_succ,List.getElem_cons_zero]
    refine wpAnyH_take (i:=9) (v:=?vx7_9) rfl (by kernel_rfl) (by kernel_rfl) (by kernel_rfl) (fun _ _ _ h => h) (Or.inl ⟨by rfl,?hyx7_9⟩) (by assumption) ?restx7_9
    case hyx7_9 => (intro w hSw; have F:=Ok.sees hSw; clear hSw; simp only [sees,kBlk,cellsAt,Nat.reduceAdd] at F; go_simp; try with_reducible rfl)
    try simp only [Act.put,List.setIfInBounds_toArray,List.set_cons_zero,List.set_cons_succ,List.getElem_toArray,List.getElem_cons_succ,List.getElem_cons_zero]
    refine wpAnyH_take (i:=10) (v:=?vx8_10) rfl (by kernel_rfl) (by kernel_rfl) (by kernel_rfl) (fun _ _ _ h => h) (Or.inl ⟨by rfl,?hyx8_10⟩) (by assumption) ?restx8_10
    case hyx8_10 => (intro w hSw; have F:=Ok.sees hSw; clear hSw; simp only [sees,kBlk,cellsAt,Nat.reduceAdd] at F; go_simp; try with_reducible rfl)
    try simp only [Act.put,List.setIfInBounds_toArray,List.set_cons_zero,List.set_cons_succ,List.getElem_toArray,List.getElem_cons_succ,List.getElem_cons_zero]
    refine wpAnyH_ready (rs:=[2]) (by kernel_rfl) (by simp) ?_
    refine AllReadyH.cons rfl (fun K hK => ?_) AllReadyH.nil
    go_simp
    refine (ln_num x1 H1.out _ (HE.out.below H17.out.bel)).mono ?_
    rintro e w19 ⟨rfl,hb20⟩
    go_wp2_with fail
    have H21:=Lib.hid (H17.out.below hb20)
    clear hb20 H17
    refine hK.out _ _ (H21.out) (fun hHeld => ?_)
    clear hK K
    try simp only [Act.put,List.setIfInBounds_toArray,List.set_cons_zero,List.set_cons_succ,List.getElem_toArray,List.getElem_cons_succ,List.getElem_cons_zero]
    refine wpAnyH_ready (rs:=[5]) (by kernel_rfl) (by simp) ?_
    refine AllReadyH.cons rfl (fun K hK => ?_) AllReadyH.nil
    go_simp
    refine (ln_num y1 H2.out _ (HE.out.below H21.out.bel)).mono ?_
    rintro e w22 ⟨rfl,hb23⟩
    go_wp2_with fail
    have H24:=Lib.hid (H21.out.below hb23)
    clear hb23 H21
    refine hK.out _ _ (H24.out) (fun hHeld => ?_)
    clear hK K
    try simp only [Act.put,List.setIfInBounds_toArray,List.set_cons_zero,List.set_cons_succ,List.getElem_toArray,List.getElem_cons_succ,List.getElem_cons_zero]
    refine wpAnyH_ready (rs:=[8]) (by kernel_rfl) (by simp) ?_
    refine AllReadyH.cons rfl (fun K hK => ?_) AllReadyH.nil
    go_simp
    refine (ln_num x2 H3.out _ (HE.out.below H24.out.bel)).mono ?_
    rintro e w25 ⟨rfl,hb26⟩
    go_wp2_with fail
    have H27:=Lib.hid (H24.out.below hb26)
    clear hb26 H24
    refine hK.out _ _ (H27.out) (fun hHeld => ?_)
    clear hK K
    try simp only [Act.put,List.setIfInBounds_toArray,List.set_cons_zero,List.set_cons_succ,List.getElem_toArray,List.getElem_cons_succ,List.getElem_cons_zero]
    refine wpAnyH_ready (rs:=[11]) (by kernel_rfl) (by simp) ?_
    refine AllReadyH.cons rfl (fun K hK => ?_) AllReadyH.nil
    go_simp
    refine (ln_num y2 H4.out _ (HE.out.below H27.out.bel)).mono ?_
    rintro e w28 ⟨rfl,hb29⟩
    go_wp2_with fail
    have H30:=Lib.hid (H27.out.below hb29)
    clear hb29 H27
    refine hK.out _ _ (H30.out) (fun hHeld => ?_)
    clear hK K
    try simp only [Act.put,List.setIfInBounds_toArray,List.set_cons_zero,List.set_cons_succ,List.getElem_toArray,List.getElem_cons_succ,List.getElem_cons_zero]
    refine wpAnyH_ready (rs:=[12]) (by kernel_rfl) (by simp) ?_
    refine AllReadyH.cons rfl (fun K hK => ?_) AllReadyH.nil
    go_simp
    have H31:=Lib.hid (H30.out.alloc (w28.heap.size) 9 [.string ⟨(Lib.itoa x1).toArray⟩,.string ⟨(Lib.itoa y1).toArray⟩,.string ⟨(Lib.itoa x2).toArray⟩,.string ⟨(Lib.itoa y2).toArray⟩] rfl)
    clear H30
    refine hK.out _ _ (H31.out.tail) (fun hHeld => ?_)
    clear hK K
    try simp only [Act.put,List.setIfInBounds_toArray,List.set_cons_zero,List.set_cons_succ,List.getElem_toArray,List.getElem_cons_succ,List.getElem_cons_zero]
    generalize (w28.alloc (.cells #[.string ⟨(Lib.itoa x1).toArray⟩,.string ⟨(Lib.itoa y1).toArray⟩,.string ⟨(Lib.itoa x2).toArray⟩,.string ⟨(Lib.itoa y2).toArray⟩] 9)) = W32 at H31 hHeld ⊢
    refine wpAnyH_ready (rs:=[13]) (by kernel_rfl) (by simp) ?_
    refine AllReadyH.cons rfl (fun K hK => ?_) AllReadyH.nil
    have h9:=H31.out.all _ (List.mem_cons_self ..)
    have hb9 : Blk W32 (w28.heap.size) 9 (strsV [Lib.itoa x1,Lib.itoa y1,Lib.itoa x2,Lib.itoa y2]).toArray:=h9
    clear h9
    go_simp
    refine (join_blk [Lib.itoa x1,Lib.itoa y1,Lib.itoa x2,Lib.itoa y2] 44 hb9 rfl (by simp) (Nat.le_trans HLN.out (by decide))).mono ?_
    rintro e w33 ⟨rfl,hb34⟩
    rw [HLL.out]
    go_wp2_with fail
    have H35:=Lib.hid (H31.out.below hb34)
    clear hb34 H31
    refine hK.out _ _ (H35.out.tail) (fun hHeld => ?_)
    clear hK K
    try simp only [Act.put,List.setIfInBounds_toArray,List.set_cons_zero,List.set_cons_succ,List.getElem_toArray,List.getElem_cons_succ,List.getElem_cons_zero]
    refine wpAnyH_take (i:=14) (v:=?vx9_14) rfl (by kernel_rfl) (by kernel_rfl) (by kernel_rfl) (fun _ _ _ h => h) (Or.inl ⟨by rfl,?hyx9_14⟩) (by assumption) ?restx9_14
    case hyx9_14 => (intro w hSw; have F:=Ok.sees hSw; clear hSw; simp only [sees,kBlk,cellsAt,Nat.reduceAdd] at F; go_simp; try with_reducible rfl)
    try simp only [Act.put,List.setIfInBounds_toArray,List.set_cons_zero,List.set_cons_succ,List.getElem_toArray,List.getElem_cons_succ,List.getElem_cons_zero]
    refine wpAnyH_done (by kernel_rfl) ?_ _
    clear hHeld
    go_wp2_with fail
    go_ret
    exact ⟨rfl,H35.out.bel⟩
  · have hq : Q = (L,0):=by rw [← HQ.out,fmtR_yes hc,← HL.out]; unfold rangeL; rw [if_pos hc]
    subst hq
    clear HQ
    go_wp2_with fail
    go_ret
    exact ⟨rfl,H15.out.bel⟩
end Go.Proofs.YtmalncmdfmoccaaGreatDoor
