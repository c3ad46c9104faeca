/- Chapter 42: the reader of lines: word, int, book; bookLine. -/
import Derived.Test.YtmalncmdfmoccaaGreatDoorCLnW
import Derived.Test.YtmalncmdfmoccaaGreatDoorCRng
namespace Go.Proofs.YtmalncmdfmoccaaGreatDoor
open Go.RowKit
theorem cells_next {w : World} {b i : Nat} (l : List Value) (j : Nat) (h : cellsFrom w b i (j + 1) l) : cellsFrom w b (i + 1) j l:=by
  induction l generalizing j with
  | nil => exact trivial
  | cons v l ih => exact ⟨by rw [show i + 1 + j = i + (j + 1) from by omega]; exact h.1,ih _ h.2⟩
def Rd (w0 : World) (ps : List Pers) (rb : Nat) (v0 v1 v2 v3 v4 v5 v6 v7 : Value) (part : Int) (l : List (List UInt8)) (W : World) : Prop :=
  w0.heap.size ≤ rb ∧ (∀ x ∈ ps,x.far (some rb)) ∧ ∃ (a : Option Addr) (b i c : Nat),b ≠ rb ∧ l.length ≤ c ∧ c ≤ 1000000 ∧ (l ≠ [] → a = some ⟨b,i,none⟩) ∧ Ok w0 (kVar rb 89 [v0,v1,v2,v3,v4,v5,v6,v7,.int .i64 part,.slice a l.length c,.bool false] :: kCells b i (strsV l) :: ps) W
section
variable {w0 w w' : World} {ps : List Pers} {rb : Nat} {v0 v1 v2 v3 v4 v5 v6 v7 : Value} {part : Int} {l : List (List UInt8)}
theorem Rd.below (h : Rd w0 ps rb v0 v1 v2 v3 v4 v5 v6 v7 part l w) (hb : Below w.heap.size w w') : Rd w0 ps rb v0 v1 v2 v3 v4 v5 v6 v7 part l w':=by
  obtain ⟨h1,h2,a,b,i,c,h3,h4,h5,h6,h7⟩:=h
  exact ⟨h1,h2,a,b,i,c,h3,h4,h5,h6,h7.below hb⟩
theorem Rd.bel (h : Rd w0 ps rb v0 v1 v2 v3 v4 v5 v6 v7 part l w) : Below w0.heap.size w0 w:=by
  obtain ⟨-,-,a,b,i,c,-,-,-,-,h7⟩:=h
  exact h7.bel
end
def RdTook (v : Value) (w0 : World) (ps : List Pers) (rb : Nat) (v0 v1 v2 v3 v4 v5 v6 v7 : Value) (part : Int) (l : List (List UInt8)) (e : Ending) (w' : World) : Prop:=e = .returned v ∧ Rd w0 ps rb v0 v1 v2 v3 v4 v5 v6 v7 part l w'
set_option maxRecDepth 100000 in
set_option maxHeartbeats 8000000 in
theorem rd_word (w0 : World) (ps : List Pers) (rb : Nat) (v0 v1 v2 v3 v4 v5 v6 v7 : Value) (part : Int) (x : List UInt8) (l : List (List UInt8)) (w : World) (h : Rd w0 ps rb v0 v1 v2 v3 v4 v5 v6 v7 part (x :: l) w) :
    Calls Tryz.prog 73 #[.pointer (some ⟨rb,0,none⟩)] w (RdTook (.string ⟨x.toArray⟩) w0 ps rb v0 v1 v2 v3 v4 v5 v6 v7 part l):=by
  obtain ⟨h1,h2,a,b,i,c,h3,h4,h5,h6,h7⟩:=h
  obtain rfl:=h6 (by simp)
  clear h6
  obtain ⟨S,hS⟩ : ∃ S : ByteArray,⟨x.toArray⟩ = S:=⟨_,rfl⟩
  obtain ⟨n,hn⟩ : ∃ n,(x :: l).length = n:=⟨_,rfl⟩
  obtain ⟨m,hm⟩ : ∃ m,l.length = m:=⟨_,rfl⟩
  have hnm : n = m + 1:=by rw [← hn,← hm]; rfl
  rw [hn] at h4 h7
  have hcs : strsV (x :: l) = .string S :: strsV l:=by rw [← hS]; rfl
  rw [hcs] at h7
  rw [hS]
  have H:=Lib.hid h7
  have HFA:=keep h2
  have HN:=keep hnm
  have HM:=keep hm
  clear h7 h2 hcs hS hn hm
  have hfar : ∀ y ∈ kCells b i (.string S :: strsV l) :: ps,y.far (some rb):=by
    intro y hy
    rcases List.mem_cons.1 hy with rfl | hy
    · show some b ≠ some rb
      simp; exact h3
    · exact HFA.out y hy
  have HFR:=keep hfar
  clear hfar
  obtain ⟨R,hR⟩ : ∃ R,RdTook (.string S) w0 ps rb v0 v1 v2 v3 v4 v5 v6 v7 part l = R:=⟨_,rfl⟩
  rw [hR]
  have HRR:=keep hR
  clear hR
  have F:=H.out.sees
  simp only [sees,kVar,kCells,cellsAt,cellsFrom,Nat.reduceAdd,Nat.add_zero] at F
  obtain ⟨⟨⟨z0,f0⟩,-,-,-,-,-,-,-,-,-,c9,c10,-⟩,⟨z1,d0,-⟩,-⟩:=F
  have hpos : ((n : Int) == 0) = false:=by rw [beq_eq_false_iff_ne]; omega
  have h0 : (0 : Int) < (n : Int):=by omega
  have h01 : (1 : Int) ≤ (n : Int):=by omega
  have h02 : (1 : Int) ≤ (c : Int):=by omega
  have h03 : (n : Int) ≤ (c : Int):=by omega
  have hlen : ((n : Int) - 1).toNat = m:=by omega
  have hend : ∀ (w' : World) (u : Option Addr) (k : Nat),m ≤ k → k ≤ 1000000 → (m ≠ 0 → u = some ⟨b,i + 1,none⟩) → w' = w.setCell ⟨rb,9,none⟩ (.slice u m k) → Rd w0 ps rb v0 v1 v2 v3 v4 v5 v6 v7 part l w':=by
    rintro w' u k hk hk2 hu rfl
    refine ⟨h1,HFA.out,u,b,i + 1,k,h3,by rw [HM.out]; exact hk,hk2,fun hl => hu fun h => hl (List.length_eq_zero_iff.1 (by rw [HM.out,h])),?_⟩
    have hs:=H.out.set_ (i:=9) (u:=.slice u m k) h1 HFR.out
    rw [HM.out]
    refine ⟨hs.bel,fun y hy => ?_⟩
    rcases List.mem_cons.1 hy with rfl | hy
    · exact hs.all _ (List.mem_cons_self ..)
    rcases List.mem_cons.1 hy with rfl | hy
    · have h:=hs.all (kCells b i (.string S :: strsV l)) (List.mem_cons_of_mem _ (List.mem_cons_self ..))
      exact ⟨h.1,cells_next _ _ h.2.2⟩
    · exact hs.all _ (List.mem_cons_of_mem _ (List.mem_cons_of_mem _ hy))
  have HEND:=keep hend
  clear hend
  go_enter Tryz.func73,Tryz.ntmps73
  by_cases hc1 : c = 1
  · subst hc1
    have hn1 : n = 1:=by omega
    have hm0 : m = 0:=by omega
    subst hn1 hm0
    clear hnm hlen h4 h5 h02 h03
    go_wp2_with fail
    rw [← HRR.out]
    exact ⟨rfl,HEND.out _ _ _ (Nat.le_refl _) (by omega) (by simp) rfl⟩
  · have h04 : ((c : Int) - 1).toNat = c - 1:=by omega
    have HX:=keep (show m ≤ c - 1 ∧ c - 1 ≤ 1000000 by omega)
    clear hnm h4 h5
    go_wp2_with fail
    rw [← HRR.out]
    exact ⟨rfl,HEND.out _ _ (c - 1) HX.out.1 HX.out.2 (fun _ => rfl) (by rw [show n - 1 = m from by have:=HN.out; omega])⟩
set_option maxRecDepth 100000 in
set_option maxHeartbeats 8000000 in
theorem rd_int (w0 : World) (ps : List Pers) (rb : Nat) (v0 v1 v2 v3 v4 v5 v6 v7 : Value) (part : Int) (x : List UInt8) (l : List (List UInt8)) (w : World) (h : Rd w0 ps rb v0 v1 v2 v3 v4 v5 v6 v7 part (x :: l) w) (v : Int) (hx : x.length ≤ 100000) (hv : numP x = some v) :
    Calls Tryz.prog 121 #[.pointer (some ⟨rb,0,none⟩)] w (RdTook (.int .i64 v) w0 ps rb v0 v1 v2 v3 v4 v5 v6 v7 part l):=by
  have H:=keep h
  have HV:=keep hv
  clear h hv
  obtain ⟨R,hR⟩ : ∃ R,RdTook (.int .i64 v) w0 ps rb v0 v1 v2 v3 v4 v5 v6 v7 part l = R:=⟨_,rfl⟩
  rw [hR]
  have HRR:=keep hR
  clear hR
  go_enter Tryz.func121,Tryz.ntmps121
  go_wp2_with fail
  refine (rd_word w0 ps rb v0 v1 v2 v3 v4 v5 v6 v7 part x l _ H.out).mono ?_
  rintro e w1 ⟨rfl,h1⟩
  have H1:=keep h1
  clear h1 H
  go_wp2_with fail
  refine (Atoi_yes x v _ (Nat.le_trans hx (by decide)) HV.out).mono ?_
  rintro e w2 ⟨rfl,hb⟩
  have H2:=H1.out.below hb
  clear hb H1
  obtain ⟨h1,h2,a,b,i,c,h3,h4,h5,h6,h7⟩:=H2
  have HH:=keep (show w0.heap.size ≤ rb ∧ (∀ x ∈ ps,x.far (some rb)) ∧ b ≠ rb ∧ l.length ≤ c ∧ c ≤ 1000000 ∧ (l ≠ [] → a = some ⟨b,i,none⟩) from ⟨h1,h2,h3,h4,h5,h6⟩)
  have H:=Lib.hid h7
  clear h1 h2 h3 h4 h5 h6 h7
  obtain ⟨n,hn⟩ : ∃ n,l.length = n:=⟨_,rfl⟩
  rw [hn] at H
  have HN:=keep hn
  clear hn
  have F:=H.out.sees
  simp only [sees,kVar,kCells,cellsAt,Nat.reduceAdd] at F
  obtain ⟨⟨⟨z0,f0⟩,-,-,-,-,-,-,-,-,-,c9,c10,-⟩,-⟩:=F
  have HS:=keep (show RdTook (.int .i64 v) w0 ps rb v0 v1 v2 v3 v4 v5 v6 v7 part l (.returned (.int .i64 v)) (w2.setCell ⟨rb,10,none⟩ (.bool false)) from by
    obtain ⟨h1,h2,h3,h4,h5,h6⟩:=HH.out
    have hfar : ∀ y ∈ kCells b i (strsV l) :: ps,y.far (some rb):=by
      intro y hy
      rcases List.mem_cons.1 hy with rfl | hy
      · show some b ≠ some rb
        simp; exact h3
      · exact h2 y hy
    have hs:=H.out.set_ (i:=10) (u:=.bool false) h1 hfar
    exact ⟨rfl,h1,h2,a,b,i,c,h3,h4,h5,h6,by rw [HN.out]; exact hs⟩)
  go_wp2_with fail
  rw [← HRR.out]
  exact HS.out
def bookL (u st : Int) : List UInt8:=Lib.join [[98,111,111,107],Lib.itoa u,Lib.itoa st] [32]
set_option maxRecDepth 100000 in
set_option maxHeartbeats 8000000 in
theorem book_line (u st : Int) (a1 : Option Addr) (n1 k1 : Nat) (a2 : Option Addr) (n2 k2 : Nat) (a3 : Option Addr) (n3 k3 : Nat) (a4 : Option Addr) (n4 k4 : Nat) (a5 : Option Addr) (n5 k5 : Nat) (b1 : i64B u) (b2 : i64B st) (w : World) (he : Env6 w) :
    Calls Tryz.prog 84 #[.agg #[.int .i64 u,.slice a1 n1 k1,.slice a2 n2 k2,.slice a3 n3 k3,.slice a4 n4 k4,.slice a5 n5 k5,.int .i64 st]] w fun e w' => e = .returned (.string ⟨(bookL u st).toArray⟩) ∧ Below w.heap.size w w':=by
  have HE:=keep he
  clear he
  have HLN:=keep (join_le [[98,111,111,107],Lib.itoa u,Lib.itoa st] 10000 (by
    intro x hx
    simp only [List.mem_cons,List.not_mem_nil,or_false] at hx
    rcases hx with rfl | rfl | rfl
    all_goals first | decide | exact Nat.le_trans (itoa_len _ (by assumption)) (by decide)))
  have B1:=keep b1
  have B2:=keep b2
  clear b1 b2
  obtain ⟨L,hL⟩ : ∃ L,bookL u st = L:=⟨_,rfl⟩
  rw [hL]
  have HL:=keep (show Lib.join [[98,111,111,107],Lib.itoa u,Lib.itoa st] [32] = L from hL)
  clear hL
  have H1:=Lib.hid ((Ok.start w).alloc w.heap.size 38 [.int .i64 u,.slice a1 n1 k1,.slice a2 n2 k2,.slice a3 n3 k3,.slice a4 n4 k4,.slice a5 n5 k5,.int .i64 st] rfl)
  go_enter Tryz.func84,Tryz.ntmps84
  go_upto_region 1 with fail
  generalize (w.alloc (.cells #[.int .i64 u,.slice a1 n1 k1,.slice a2 n2 k2,.slice a3 n3 k3,.slice a4 n4 k4,.slice a5 n5 k5,.int .i64 st] 38)) = W2 at H1 ⊢
  have F3:=H1.out.sees
  simp only [sees,kBlk,cellsAt,Nat.reduceAdd] at F3
  obtain ⟨⟨z0,c0_0,c0_1,c0_2,c0_3,c0_4,c0_5,c0_6,-⟩,-⟩:=F3
  refine wp_region_held_drew (S:=fun W => Ok w [kBlk (w.heap.size) 38 [.int .i64 u,.slice a1 n1 k1,.slice a2 n2 k2,.slice a3 n3 k3,.slice a4 n4 k4,.slice a5 n5 k5,.int .i64 st]] W) (by kernel_rfl) H1.out.drew (fun hHeld => ?_)
  clear z0 c0_0 c0_1 c0_2 c0_3 c0_4 c0_5 c0_6
  have H4:=Lib.hid H1.out.drew
  clear H1
  generalize W2.drew = W5 at hHeld H4 ⊢
  refine wpAnyH_take (i:=0) (v:=?vx1_0) rfl (by kernel_rfl) (by kernel_rfl) (by kernel_rfl) (fun _ _ _ h => h) (Or.inl ⟨by rfl,?hyx1_0⟩) (by assumption) ?restx1_0
  case hyx1_0 => (intro w hSw; have F:=Ok.sees hSw; clear hSw; simp only [sees,kBlk,cellsAt,Nat.reduceAdd] at F; go_simp; try with_reducible rfl)
  try simp only [Act.put,List.setIfInBounds_toArray,List.set_cons_zero,List.set_cons_succ,List.getElem_toArray,List.getElem_cons_zero]
  refine wpAnyH_take (i:=1) (v:=?vx2_1) rfl (by kernel_rfl) (by kernel_rfl) (by kernel_rfl) (fun _ _ _ h => h) (Or.inl ⟨by rfl,?hyx2_1⟩) (by assumption) ?restx2_1
  case hyx2_1 => (intro w hSw; have F:=Ok.sees hSw; clear hSw; simp only [sees,kBlk,cellsAt,Nat.reduceAdd] at F; go_simp; try with_reducible rfl)
  try simp only [Act.put,List.setIfInBounds_toArray,List.set_cons_zero,List.set_cons_succ,List.getElem_toArray,List.getElem_cons_succ,List.getElem_cons_zero]
  refine wpAnyH_take (i:=3) (v:=?vx3_3) rfl (by kernel_rfl) (by kernel_rfl) (by kernel_rfl) (fun _ _ _ h => h) (Or.inl ⟨by rfl,?hyx3_3⟩) (by assumption) ?restx3_3
  case hyx3_3 => (intro w hSw; have F:=Ok.sees hSw; clear hSw; simp only [sees,kBlk,cellsAt,Nat.reduceAdd] at F; go_simp; try with_reducible rfl)
  try simp only [Act.put,List.setIfInBounds_toArray,List.set_cons_zero,List.set_cons_succ,List.getElem_toArray,List.getElem_cons_succ,List.getElem_cons_zero]
  refine wpAnyH_take (i:=4) (v:=?vx4_4) rfl (by kernel_rfl) (by kernel_rfl) (by kernel_rfl) (fun _ _ _ h => h) (Or.inl ⟨by rfl,?hyx4_4⟩) (by assumption) ?restx4_4
  case hyx4_4 => (intro w hSw; have F:=Ok.sees hSw; clear hSw; simp only [sees,kBlk,cellsAt,Nat.reduceAdd] at F; go_simp; try with_reducible rfl)
  try simp only [Act.put,List.setIfInBounds_toArray,List.set_cons_zero,List.set_cons_succ,List.getElem_toArray,List.getElem_cons_succ,List.getElem_cons_zero]
  refine wpAnyH_ready (rs:=[2]) (by kernel_rfl) (by simp) ?_
  refine AllReadyH.cons rfl (fun K hK => ?_) AllReadyH.nil
  go_simp
  refine (ln_num u B1.out _ (HE.out.below H4.out.bel)).mono ?_
  rintro e w6 ⟨rfl,hb7⟩
  go_wp2_with fail
  have H8:=Lib.hid (H4.out.below hb7)
  clear hb7 H4
  refine hK.out _ _ (H8.out) (fun hHeld => ?_)
  clear hK K
  try simp only [Act.put,List.setIfInBounds_toArray,List.set_cons_zero,List.set_cons_succ,List.getElem_toArray,List.getElem_cons_succ,List.getElem_cons_zero]
  refine wpAnyH_ready (rs:=[5]) (by kernel_rfl) (by simp) ?_
  refine AllReadyH.cons rfl (fun K hK => ?_) AllReadyH.nil
  go_simp
  refine (ln_num st B2.out _ (HE.out.below H8.out.bel)).mono ?_
  rintro e w9 ⟨rfl,hb10⟩
  go_wp2_with fail
  have H11:=Lib.hid (H8.out.below hb10)
  clear hb10 H8
  refine hK.out _ _ (H11.out) (fun hHeld => ?_)
  clear hK K
  try simp only [Act.put,List.setIfInBounds_toArray,List.set_cons_zero,List.set_cons_succ,List.getElem_toArray,List.getElem_cons_succ,List.getElem_cons_zero]
  refine wpAnyH_ready (rs:=[6]) (by kernel_rfl) (by simp) ?_
  refine AllReadyH.cons rfl (fun K hK => ?_) AllReadyH.nil
  go_simp
  have H12:=Lib.hid (H11.out.alloc (w9.heap.size) 9 [.string ⟨([98,111,111,107]).toArray⟩,.string ⟨(Lib.itoa u).toArray⟩,.string ⟨(Lib.itoa st).toArray⟩] rfl)
  clear H11
  refine hK.out _ _ (H12.out.tail) (fun hHeld => ?_)
  clear hK K
  try simp only [Act.put,List.setIfInBounds_toArray,List.set_cons_zero,List.set_cons_succ,List.getElem_toArray,List.getElem_cons_succ,List.getElem_cons_zero]
  generalize (w9.alloc (.cells #[.string ⟨([98,111,111,107]).toArray⟩,.string ⟨(Lib.itoa u).toArray⟩,.string ⟨(Lib.itoa st).toArray⟩] 9)) = W13 at H12 hHeld ⊢
  refine wpAnyH_ready (rs:=[7]) (by kernel_rfl) (by simp) ?_
  refine AllReadyH.cons rfl (fun K hK => ?_) AllReadyH.nil
  have h9:=H12.out.all _ (List.mem_cons_self ..)
  have hb9 : Blk W13 (w9.heap.size) 9 (strsV [[98,111,111,107],Lib.itoa u,Lib.itoa st]).toArray:=h9
  clear h9
  go_simp
  refine (ln_join [[98,111,111,107],Lib.itoa u,Lib.itoa st] hb9 rfl (by simp) (Nat.le_trans HLN.out (by simp))).mono ?_
  rintro e w14 ⟨rfl,hb15⟩
  rw [HL.out]
  go_wp2_with fail
  have H16:=Lib.hid (H12.out.below hb15)
  clear hb15 H12
  refine hK.out _ _ (H16.out.tail) (fun hHeld => ?_)
  clear hK K
  try simp only [Act.put,List.setIfInBounds_toArray,List.set_cons_zero,List.set_cons_succ,List.getElem_toArray,List.getElem_cons_succ,List.getElem_cons_zero]
  refine wpAnyH_take (i:=8) (v:=?vx5_8) rfl (by kernel_rfl) (by kernel_rfl) (by kernel_rfl) (fun _ _ _ h => h) (Or.inl ⟨by rfl,?hyx5_8⟩) (by assumption) ?restx5_8
  case hyx5_8 => (intro w hSw; have F:=Ok.sees hSw; clear hSw; simp only [sees,kBlk,cellsAt,Nat.reduceAdd] at F; go_simp; try with_reducible rfl)
  try simp only [Act.put,List.setIfInBounds_toArray,List.set_cons_zero,List.set_cons_succ,List.getElem_toArray,List.getElem_cons_succ,List.getElem_cons_zero]
  refine wpAnyH_done (by kernel_rfl) ?_ _
  clear hHeld
  go_wp2_with fail
  go_ret
  exact ⟨rfl,H16.out.bel⟩
set_option maxRecDepth 100000 in
set_option maxHeartbeats 8000000 in
theorem rd_book (w0 : World) (ps : List Pers) (rb : Nat) (u0 s0 : Int) (a1 : Option Addr) (n1 k1 : Nat) (a2 : Option Addr) (n2 k2 : Nat) (a3 : Option Addr) (n3 k3 : Nat) (a4 : Option Addr) (n4 k4 : Nat) (a5 : Option Addr) (n5 k5 : Nat) (v7 : Value) (part : Int) (x y : List UInt8) (l : List (List UInt8)) (w : World) (h : Rd w0 ps rb (.int .i64 u0) (.slice a1 n1 k1) (.slice a2 n2 k2) (.slice a3 n3 k3) (.slice a4 n4 k4) (.slice a5 n5 k5) (.int .i64 s0) v7 part (x :: y :: l) w) (he : Env6 w0) (u st : Int) (hx : x.length ≤ 100000) (hy : y.length ≤ 100000) (hu : numP x = some u) (hs : numP y = some st) :
    Calls Tryz.prog 75 #[.pointer (some ⟨rb,0,none⟩)] w (RdTook (.string ⟨(bookL u st).toArray⟩) w0 ps rb (.int .i64 u) (.slice a1 n1 k1) (.slice a2 n2 k2) (.slice a3 n3 k3) (.slice a4 n4 k4) (.slice a5 n5 k5) (.int .i64 st) v7 part l):=by
  have H:=keep h
  have HU:=keep hu
  have HS:=keep hs
  have HE:=keep he
  clear h hu hs he
  obtain ⟨R,hR⟩ : ∃ R,RdTook (.string ⟨(bookL u st).toArray⟩) w0 ps rb (.int .i64 u) (.slice a1 n1 k1) (.slice a2 n2 k2) (.slice a3 n3 k3) (.slice a4 n4 k4) (.slice a5 n5 k5) (.int .i64 st) v7 part l = R:=⟨_,rfl⟩
  rw [hR]
  have HRR:=keep hR
  clear hR
  go_enter Tryz.func75,Tryz.ntmps75
  go_wp2_with fail
  refine (rd_int w0 ps rb _ _ _ _ _ _ _ _ part x (y :: l) _ H.out u hx HU.out).mono ?_
  rintro e w1 ⟨rfl,h1⟩
  have H1:=keep h1
  clear h1 H
  go_wp2_with fail
  refine (rd_int w0 ps rb _ _ _ _ _ _ _ _ part y l _ H1.out st hy HS.out).mono ?_
  rintro e w2 ⟨rfl,H2⟩
  clear H1
  obtain ⟨h1,h2,a,b,i,c,h3,h4,h5,h6,h7⟩:=H2
  have HH:=keep (show w0.heap.size ≤ rb ∧ (∀ x ∈ ps,x.far (some rb)) ∧ b ≠ rb ∧ l.length ≤ c ∧ c ≤ 1000000 ∧ (l ≠ [] → a = some ⟨b,i,none⟩) from ⟨h1,h2,h3,h4,h5,h6⟩)
  have H:=Lib.hid h7
  clear h1 h2 h3 h4 h5 h6 h7
  obtain ⟨n,hn⟩ : ∃ n,l.length = n:=⟨_,rfl⟩
  rw [hn] at H
  have HN:=keep hn
  clear hn
  have F:=H.out.sees
  simp only [sees,kVar,kCells,cellsAt,Nat.reduceAdd] at F
  obtain ⟨⟨⟨z0,f0⟩,c0,c1,c2,c3,c4,c5,c6,c7,c8,c9,c10,-⟩,-⟩:=F
  have hfar : ∀ y ∈ kCells b i (strsV l) :: ps,y.far (some rb):=by
    intro y hy
    rcases List.mem_cons.1 hy with rfl | hy
    · show some b ≠ some rb
      simp; exact HH.out.2.2.1
    · exact HH.out.2.1 y hy
  have H3:=Lib.hid ((H.out.set_ (i:=0) (u:=.int .i64 u) HH.out.1 hfar).set_ (i:=6) (u:=.int .i64 st) HH.out.1 hfar)
  simp only [List.set_cons_zero,List.set_cons_succ] at H3
  go_upto_region 2 with fail
  generalize ((w2.setCell ⟨rb,0,none⟩ (.int .i64 u)).setCell ⟨rb,6,none⟩ (.int .i64 st)) = W3 at H3 ⊢
  clear H z0 f0 c0 c1 c2 c3 c4 c5 c6 c7 c8 c9 c10 hfar
  have F:=H3.out.sees
  simp only [sees,kVar,kCells,cellsAt,Nat.reduceAdd] at F
  obtain ⟨⟨⟨z0,f0⟩,c0,c1,c2,c3,c4,c5,c6,c7,c8,c9,c10,-⟩,-⟩:=F
  go_wp2_with fail
  refine (book_line u st a1 n1 k1 a2 n2 k2 a3 n3 k3 a4 n4 k4 a5 n5 k5 (numP_i64 HU.out) (numP_i64 HS.out) _ (HE.out.below H3.out.bel)).mono ?_
  rintro e w4 ⟨rfl,hb⟩
  have H4:=Lib.hid (H3.out.below hb)
  clear hb H3 z0 f0 c0 c1 c2 c3 c4 c5 c6 c7 c8 c9 c10
  go_wp2_with fail
  rw [← HRR.out]
  obtain ⟨h1,h2,h3,h4,h5,h6⟩:=HH.out
  exact ⟨rfl,h1,h2,a,b,i,c,h3,h4,h5,h6,by rw [HN.out]; exact H4.out⟩
end Go.Proofs.YtmalncmdfmoccaaGreatDoor
