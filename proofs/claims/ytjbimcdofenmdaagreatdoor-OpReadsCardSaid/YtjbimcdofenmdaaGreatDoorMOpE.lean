/- The contract of op.Format. -/
import Derived.Test.YtjbimcdofenmdaaGreatDoorMOpC
import Derived.Test.YtjbimcdofenmdaaGreatDoorMOk
import Derived.Test.YtjbimcdofenmdaaGreatDoorMOpD
namespace Go.Proofs.YtjbimcdofenmdaaGreatDoor
open Go.RowKit
theorem index_words (k : Nat) (h : k ≤ 10) (w : World) : (Instr.index 48 (.agg wordsA.toArray) (.int .u8 (k : Nat))).run Tryz.prog w = .ok (.string ⟨(wordK k).toArray⟩) w:=by
 rcases (show k = 0 ∨ k = 1 ∨ k = 2 ∨ k = 3 ∨ k = 4 ∨ k = 5 ∨ k = 6 ∨ k = 7 ∨ k = 8 ∨ k = 9 ∨ k = 10 by omega) with rfl | rfl | rfl | rfl | rfl | rfl | rfl | rfl | rfl | rfl | rfl <;> kernel_rfl
theorem quote_good {l : List UInt8} (h : textB l = true) : quoteT l = quoteS l:=by
 have : checkT l = 0:=by
  unfold textB at h
  rw [Bool.and_eq_true,decide_eq_true_eq] at h
  unfold checkT
  rw [if_neg (by omega),if_pos h.2]
 unfold quoteT
 rw [if_pos this]
theorem byt_cells (l : List UInt8) : byt l = ⟨l.toArray⟩:=rfl
theorem target_yes (k : Nat) (hu : usesR k = true) (u x1 y1 x2 y2 : Int) (inp : List UInt8) (a b c f t : Nat) (n : Int) (w : World) : Calls Tryz.prog 9 #[.agg #[.int .u8 (k : Nat),.int .i64 u,.int .i64 x1,.int .i64 y1,.int .i64 x2,.int .i64 y2,.string ⟨inp.toArray⟩,.int .u64 (a : Nat),.int .u64 (b : Nat),.int .u64 (c : Nat),.int .u8 (f : Nat),.int .u64 (t : Nat),.int .i64 n]] w fun e w' => e = .returned (.tuple #[.agg #[.int .i64 x1,.int .i64 y1,.int .i64 x2,.int .i64 y2],.bool true]) ∧ Below w.heap.size w w':=by
 have h:=op_Target ⟨k,u,⟨x1,y1,x2,y2⟩,inp,a,b,c,f,t,n⟩ w
 simp only [hu,if_true] at h
 exact h
theorem target_not (k : Nat) (hu : usesR k = false) (u x1 y1 x2 y2 : Int) (inp : List UInt8) (a b c f t : Nat) (n : Int) (w : World) : Calls Tryz.prog 9 #[.agg #[.int .u8 (k : Nat),.int .i64 u,.int .i64 x1,.int .i64 y1,.int .i64 x2,.int .i64 y2,.string ⟨inp.toArray⟩,.int .u64 (a : Nat),.int .u64 (b : Nat),.int .u64 (c : Nat),.int .u8 (f : Nat),.int .u64 (t : Nat),.int .i64 n]] w fun e w' => e = .returned (.tuple #[.agg #[.int .i64 0,.int .i64 0,.int .i64 0,.int .i64 0],.bool false]) ∧ Below w.heap.size w w':=by
 have h:=op_Target ⟨k,u,⟨x1,y1,x2,y2⟩,inp,a,b,c,f,t,n⟩ w
 simp only [hu,Bool.false_eq_true,if_false] at h
 exact h
theorem dec_len20 (u : Nat) (h : u < 256) : i64B (u : Int):=⟨by omega,by omega⟩
theorem gfmtL_len (s : Nat) : (gfmtL s).length ≤ 10000:=by
 have h:=textW_len s 64
 unfold gfmtL
 split
 ·decide
 ·split
  ·decide
  ·omega
theorem line_len (x : OpV) (hg : goodV x) (ho : x.Ok) : (lineL x).length ≤ 100000:=by
 have hj : ∀ ws : List (List UInt8),(∀ w ∈ ws,w.length ≤ 10001) → (Lib.join ws [32]).length ≤ ws.length * 10002:=by
  intro ws
  induction ws with
  | nil => intro _; exact Nat.zero_le _
  | cons x r ih =>
   intro h
   cases r with
   | nil => rw [Lib.join_one]; have:=h x (by simp); simp; omega
   | cons y r =>
    have h1:=h x (by simp)
    have h2:=ih fun w hw => h w (by simp [List.mem_cons.1 hw])
    rw [join_two]
    simp only [List.length_append,List.length_cons] at h2 ⊢
    omega
 have ht:=hg.2.2.2.2.1
 unfold textB at ht
 rw [Bool.and_eq_true,decide_eq_true_eq] at ht
 have hq : (quoteS x.input).length ≤ 600:=by
  have:=quote_len2 x.input
  unfold quoteS
  simp only [List.length_cons,List.length_append,List.length_nil]; omega
 have hw : ∀ k,(wordK k).length ≤ 7:=by
  intro k; unfold wordK; split <;> decide
 have hr : (rangeL x.rect).length ≤ 6001:=by
  unfold rangeL
  split
  ·exact fmtL_len _
  ·have:=comma_len x.rect ho.c1 ho.r1 ho.c2 ho.r2; omega
 have hn : (lineW x).length ≤ 6:=by
  unfold lineW tailW
  simp only [List.length_cons,List.length_append]
  (repeat' split) <;> simp
 have hall : ∀ w ∈ lineW x,w.length ≤ 10001:=by
  intro w hm
  have hu:=itoa_len x.user ho.user
  have hi:=itoa_len x.idx ho.idx
  have hf:=itoa_len x.fns (dec_len20 _ ho.fns)
  have g1:=gfmtL_len x.rd
  have g2:=gfmtL_len x.wr
  have g3:=gfmtL_len x.ow
  have g4:=gfmtL_len x.tg
  have hk:=hw x.kind
  unfold lineW tailW at hm
  simp only [List.mem_cons,List.mem_append] at hm
  rcases hm with rfl | rfl | hm | hm
  ·omega
  ·omega
  ·split at hm
   ·rw [List.mem_singleton] at hm; subst hm; omega
   ·cases hm
  ·(repeat' split at hm) <;> simp only [List.mem_cons,List.not_mem_nil,or_false] at hm
   ·subst hm; omega
   ·rcases hm with rfl | rfl | rfl <;> omega
   ·rcases hm with rfl | rfl <;> omega
   ·subst hm; omega
 have:=hj (lineW x) hall
 unfold lineL
 omega
set_option maxRecDepth 100000 in
set_option maxHeartbeats 4000000 in
theorem op_Format_good (k : Nat) (u x1 y1 x2 y2 : Int) (inp : List UInt8) (a b c f t : Nat) (n : Int) (hg : goodV ⟨k,u,⟨x1,y1,x2,y2⟩,inp,a,b,c,f,t,n⟩) (ho : OpV.Ok ⟨k,u,⟨x1,y1,x2,y2⟩,inp,a,b,c,f,t,n⟩) (w : World) (he : Env6 w) :
  Calls Tryz.prog 11 #[.agg #[.int .u8 (k : Nat),.int .i64 u,.int .i64 x1,.int .i64 y1,.int .i64 x2,.int .i64 y2,.string ⟨inp.toArray⟩,.int .u64 (a : Nat),.int .u64 (b : Nat),.int .u64 (c : Nat),.int .u8 (f : Nat),.int .u64 (t : Nat),.int .i64 n]] w fun e w' => e = .returned (.tuple #[.string ⟨(formatV ⟨k,u,⟨x1,y1,x2,y2⟩,inp,a,b,c,f,t,n⟩).1.toArray⟩,.int .i64 (formatV ⟨k,u,⟨x1,y1,x2,y2⟩,inp,a,b,c,f,t,n⟩).2]) ∧ Below w.heap.size w w':=by
 obtain ⟨i0,hi,hz0,hz1,hz2⟩:=info_parts info_str
 have HE:=keep he
 have HG:=keep hg
 have HOK:=keep ho
 have HCV:=keep (show checkV ⟨k,u,⟨x1,y1,x2,y2⟩,inp,a,b,c,f,t,n⟩ = 0 by unfold checkV; rw [if_pos hg])
 have HFV:=keep (show formatV ⟨k,u,⟨x1,y1,x2,y2⟩,inp,a,b,c,f,t,n⟩ = (lineL ⟨k,u,⟨x1,y1,x2,y2⟩,inp,a,b,c,f,t,n⟩,0) by unfold formatV; rw [if_pos hg])
 have HLT:=keep (show inp.length ≤ 4611686018427387904 by
  have h1:=hg.2.2.2.2.1
  unfold textB at h1
  rw [Bool.and_eq_true,decide_eq_true_eq] at h1
  exact Nat.le_trans h1.1 (by decide))
 have hk10 : k ≤ 10:=hg.2.1
 have hix:=index_words k hk10
 clear he hg ho
 have H11:=Lib.hid ((Ok.start w).alloc w.heap.size 28 [.int .u8 (k : Nat),.int .i64 u,.int .i64 x1,.int .i64 y1,.int .i64 x2,.int .i64 y2,.string ⟨inp.toArray⟩,.int .u64 (a : Nat),.int .u64 (b : Nat),.int .u64 (c : Nat),.int .u8 (f : Nat),.int .u64 (t : Nat),.int .i64 n] rfl)
 go_enter Tryz.func11,Tryz.ntmps11
 go_upto_region 1 with fail
 generalize (w.alloc (.cells #[.int .u8 (k : Nat),.int .i64 u,.int .i64 x1,.int .i64 y1,.int .i64 x2,.int .i64 y2,.string ⟨inp.toArray⟩,.int .u64 (a : Nat),.int .u64 (b : Nat),.int .u64 (c : Nat),.int .u8 (f : Nat),.int .u64 (t : Nat),.int .i64 n] 28)) = W12 at H11 ⊢
 have F13:=H11.out.sees
 simp only [sees,kBlk,cellsAt,Nat.reduceAdd] at F13
 obtain ⟨⟨z0,c0_0,c0_1,c0_2,c0_3,c0_4,c0_5,c0_6,c0_7,c0_8,c0_9,c0_10,c0_11,c0_12,-⟩,-⟩:=F13
 go_wp2_with fail
 refine (op_Check ⟨k,u,⟨x1,y1,x2,y2⟩,inp,a,b,c,f,t,n⟩ _ HLT.out).mono ?_
 rintro e w14 ⟨rfl,hb15⟩
 rw [HCV.out]
 clear z0 c0_0 c0_1 c0_2 c0_3 c0_4 c0_5 c0_6 c0_7 c0_8 c0_9 c0_10 c0_11 c0_12
 have H16:=Lib.hid (H11.out.below hb15)
 clear hb15 H11
 go_upto_region 4 with fail
 refine wp_region_held_drew (S:=fun W => Ok w [kBlk (w.heap.size) 28 [.int .u8 (k : Nat),.int .i64 u,.int .i64 x1,.int .i64 y1,.int .i64 x2,.int .i64 y2,.string ⟨inp.toArray⟩,.int .u64 (a : Nat),.int .u64 (b : Nat),.int .u64 (c : Nat),.int .u8 (f : Nat),.int .u64 (t : Nat),.int .i64 n]] W) (by kernel_rfl) H16.out.drew (fun hHeld => ?_)
 have H17:=Lib.hid H16.out.drew
 clear H16
 generalize w14.drew = W18 at hHeld H17 ⊢
 refine wtg (i:=1) (v:=?a1) rfl ?b1 (by assumption) ?c1
 case b1 => (intro w hSw; have F:=Ok.sees hSw; clear hSw; simp only [sees,kBlk,cellsAt,Nat.reduceAdd] at F; go_simp; (try rw [hix]); try with_reducible rfl)
 try simp only [Act.put,wp1,wp2,wp3,wp4,wp5,wp6]
 refine wtg (i:=2) (v:=?a3) rfl ?b3 (by assumption) ?c3
 case b3 => (intro w hSw; have F:=Ok.sees hSw; clear hSw; simp only [sees,kBlk,cellsAt,Nat.reduceAdd] at F; go_simp; (try rw [hix]); try with_reducible rfl)
 try simp only [Act.put,wp1,wp2,wp3,wp4,wp5,wp6]
 refine wtg (i:=4) (v:=?a5) rfl ?b5 (by assumption) ?c5
 case b5 => (intro w hSw; have F:=Ok.sees hSw; clear hSw; simp only [sees,kBlk,cellsAt,Nat.reduceAdd] at F; go_simp; (try rw [hix]); try with_reducible rfl)
 try simp only [Act.put,wp1,wp2,wp3,wp4,wp5,wp6]
 refine wtg (i:=5) (v:=?a7) rfl ?b7 (by assumption) ?c7
 case b7 => (intro w hSw; have F:=Ok.sees hSw; clear hSw; simp only [sees,kBlk,cellsAt,Nat.reduceAdd] at F; go_simp; (try rw [hix]); try with_reducible rfl)
 try simp only [Act.put,wp1,wp2,wp3,wp4,wp5,wp6]
 refine wpAnyH_ready (rs:=[0]) (by kernel_rfl) (by simp) ?_
 refine AllReadyH.cons rfl (fun K hK => ?_) AllReadyH.nil
 go_simp
 refine (op_words _).mono ?_
 rintro e w19 ⟨rfl,hb20⟩
 go_wp2_with fail
 have H21:=Lib.hid (H17.out.below hb20)
 clear hb20 H17
 refine hK.out _ _ (H21.out) (fun hHeld => ?_)
 clear hK K
 try simp only [Act.put,wp1,wp2,wp3,wp4,wp5,wp6]
 refine wtg (i:=3) (v:=?a10) rfl ?b10 (by assumption) ?c10
 case b10 => (intro w hSw; have F:=Ok.sees hSw; clear hSw; simp only [sees,kBlk,cellsAt,Nat.reduceAdd] at F; go_simp; (try rw [hix]); try with_reducible rfl)
 try simp only [Act.put,wp1,wp2,wp3,wp4,wp5,wp6]
 refine wpAnyH_ready (rs:=[6]) (by kernel_rfl) (by simp) ?_
 refine AllReadyH.cons rfl (fun K hK => ?_) AllReadyH.nil
 go_simp
 refine (Itoa6 u HOK.out.user _ (HE.out.below H21.out.bel)).mono ?_
 rintro e w22 ⟨rfl,hb23⟩
 go_wp2_with fail
 have H24:=Lib.hid (H21.out.below hb23)
 clear hb23 H21
 refine hK.out _ _ (H24.out) (fun hHeld => ?_)
 clear hK K
 try simp only [Act.put,wp1,wp2,wp3,wp4,wp5,wp6]
 refine wpAnyH_ready (rs:=[7]) (by kernel_rfl) (by simp) ?_
 refine AllReadyH.cons rfl (fun K hK => ?_) AllReadyH.nil
 go_simp
 have H25:=Lib.hid (show OkRow w [kBlk w.heap.size 28 [.int .u8 (k : Nat),.int .i64 u,.int .i64 x1,.int .i64 y1,.int .i64 x2,.int .i64 y2,.string ⟨inp.toArray⟩,.int .u64 (a : Nat),.int .u64 (b : Nat),.int .u64 (c : Nat),.int .u8 (f : Nat),.int .u64 (t : Nat),.int .i64 n]] 9 1 (.slice (some ⟨w22.heap.size,0,none⟩) 2 2) 2 (strsV [wordK k,Lib.itoa u]) (w22.alloc (.cells #[.string ⟨(wordK k).toArray⟩,.string ⟨(Lib.itoa u).toArray⟩] 9)) from OkRow.of_new H24.out ((Below.refl _ _).alloc (Nat.le_refl _) _) (World.ownsRow_lit w22 #[.string ⟨(wordK k).toArray⟩,.string ⟨(Lib.itoa u).toArray⟩] 2 (Nat.le_refl _) (by decide) rfl))
 clear H24
 refine hK.out _ _ (H25.out.ok) (fun hHeld => ?_)
 clear hK K
 try simp only [Act.put,wp1,wp2,wp3,wp4,wp5,wp6]
 obtain ⟨g27,hg27⟩ : ∃ g27,w22.heap.size = g27:=⟨_,rfl⟩
 generalize (w22.alloc (.cells #[.string ⟨(wordK k).toArray⟩,.string ⟨(Lib.itoa u).toArray⟩] 9)) = W26 at H25 hHeld ⊢
 rw [hg27] at H25 ⊢
 clear hg27
 refine wtg (i:=8) (v:=?a14) rfl ?b14 (by assumption) ?c14
 case b14 => (intro w hSw; have F:=Ok.sees hSw; clear hSw; simp only [sees,kBlk,cellsAt,Nat.reduceAdd] at F; go_simp; (try rw [hix]); try with_reducible rfl)
 try simp only [Act.put,wp1,wp2,wp3,wp4,wp5,wp6]
 refine wpAnyH_done (by kernel_rfl) ?_ _
 clear hHeld hix
 have F28:=H25.out.ok.sees
 simp only [sees,kBlk,cellsAt,Nat.reduceAdd] at F28
 obtain ⟨⟨zx,cx0,cx1,cx2,cx3,cx4,cx5,cx6,cx7,cx8,cx9,cx10,cx11,cx12,-⟩,-⟩:=F28
 go_upto_region 5 with fail
 go_wp2_with fail
 cases hu : usesR k
 ·refine (target_not k hu u x1 y1 x2 y2 inp a b c f t n _).mono ?_
  rintro e w29 ⟨rfl,hb⟩
  clear zx cx0 cx1 cx2 cx3 cx4 cx5 cx6 cx7 cx8 cx9 cx10 cx11 cx12
  have H30:=Lib.hid (H25.out.below hb)
  clear hb H25
  go_upto_region 8 with fail
  have H31:=Lib.hid (H30.out.alloc_obj (.cells #[.int .i64 0,.int .i64 0,.int .i64 0,.int .i64 0] 23))
  clear H30
  generalize (w29.alloc (.cells #[.int .i64 0,.int .i64 0,.int .i64 0,.int .i64 0] 23)) = W32 at H31 ⊢
  have F33:=H31.out.ok.sees
  simp only [sees,kBlk,cellsAt,Nat.reduceAdd] at F33
  obtain ⟨⟨zx,cx0,cx1,cx2,cx3,cx4,cx5,cx6,cx7,cx8,cx9,cx10,cx11,cx12,-⟩,-⟩:=F33
  by_cases h9 : k = 9
  ·have e3 : ((k : Int) == 3) = false:=by simp; omega
   have h3 : ¬ k = 3:=by omega
   have e7 : ((k : Int) == 7) = false:=by simp; omega
   have h7 : ¬ k = 7:=by omega
   have e8 : ((k : Int) == 8) = false:=by simp; omega
   have h8 : ¬ k = 8:=by omega
   have e9 : ((k : Int) == 9) = true:=by simp; omega
   have HK9:=keep h9
   clear h9
   go_wp2_with fail
   refine (Itoa6 n HOK.out.idx _ (HE.out.below H31.out.ok.bel)).mono ?_
   rintro e w34 ⟨rfl,hb⟩
   clear zx cx0 cx1 cx2 cx3 cx4 cx5 cx6 cx7 cx8 cx9 cx10 cx11 cx12
   have H35:=Lib.hid (H31.out.below hb)
   clear hb H31
   go_upto_region 18 with (at_builtin; refine wpList_append_lies _ rfl _ _ _ rfl w.heap.size 9 i0 _ 1 16 Tryz.underlying44 hi hz0 hz1 hz2 rfl (by omega) _ _ _ rfl (H35.out.own.alloc _) ⟨w34.heap.size,0,none⟩ 1 1 [.string ⟨(Lib.itoa n).toArray⟩] rfl rfl (World.news_of_block (cs:=#[.string ⟨(Lib.itoa n).toArray⟩]) (t:=9) (fr:=(0,0)) (heap_alloc_new _ _)) (by intro u hu; simp at hu; rcases hu with rfl <;> rfl) (by omega) (by unfold maxLen; omega) (by omega) (by have:=H35.out.ok.bel.size; simp; omega) _ rfl ?_; intro g3 cap3 w3 hown3 hgrow3 hat3 hlt3)
   have H36:=Lib.hid (show OkRow w [kBlk w.heap.size 28 [.int .u8 (k : Nat),.int .i64 u,.int .i64 x1,.int .i64 y1,.int .i64 x2,.int .i64 y2,.string ⟨inp.toArray⟩,.int .u64 (a : Nat),.int .u64 (b : Nat),.int .u64 (c : Nat),.int .u8 (f : Nat),.int .u64 (t : Nat),.int .i64 n]] 9 1 (.slice (some ⟨g3,0,none⟩) 3 cap3) 3 (strsV [wordK k,Lib.itoa u,Lib.itoa n]) w3 from (H35.out.alloc_obj _).appended hown3 hgrow3 hat3)
   clear hown3 hgrow3 hat3 H35
   have HLL:=keep (show [wordK k,Lib.itoa u,Lib.itoa n] = lineW ⟨k,u,⟨x1,y1,x2,y2⟩,inp,a,b,c,f,t,n⟩ by unfold lineW tailW; simp only [hu,Bool.false_eq_true,if_false,List.nil_append,if_neg h3,if_neg h7,if_neg h8,if_pos HK9.out])
   have HLN:=keep (line_len ⟨k,u,⟨x1,y1,x2,y2⟩,inp,a,b,c,f,t,n⟩ HG.out HOK.out)
   unfold lineL at HLN
   rw [← HLL.out] at HLN
   go_wp2_with fail
   refine (join_own [wordK k,Lib.itoa u,Lib.itoa n] 32 H36.out.own (by simp) (by simp) (Nat.le_trans HLN.out (by decide))).mono ?_
   rintro e w99 ⟨rfl,hb⟩
   rw [HLL.out]
   have HZ:=Lib.hid (H36.out.below hb)
   clear hb
   go_wp2_with fail
   exact bodyPost_ret (v:=.tuple #[.string ⟨(Lib.join (lineW ⟨k,u,⟨x1,y1,x2,y2⟩,inp,a,b,c,f,t,n⟩) [32]).toArray⟩,.int .i64 0]) (by simp [results,Tryz.results11,go_sem]) rfl ⟨by rw [HFV.out]; rfl,HZ.out.ok.bel⟩
  have e3 : ((k : Int) == 3) = false:=by simp; unfold usesR at hu; simp at hu; omega
  have e7 : ((k : Int) == 7) = false:=by simp; unfold usesR at hu; simp at hu; omega
  have e8 : ((k : Int) == 8) = false:=by simp; unfold usesR at hu; simp at hu; omega
  have e9 : ((k : Int) == 9) = false:=by simp; omega
  have h3 : ¬ k = 3:=by unfold usesR at hu; simp at hu; omega
  have h7 : ¬ k = 7:=by unfold usesR at hu; simp at hu; omega
  have h8 : ¬ k = 8:=by unfold usesR at hu; simp at hu; omega
  go_upto_region 18 with fail
  clear zx cx0 cx1 cx2 cx3 cx4 cx5 cx6 cx7 cx8 cx9 cx10 cx11 cx12
  have HLL:=keep (show [wordK k,Lib.itoa u] = lineW ⟨k,u,⟨x1,y1,x2,y2⟩,inp,a,b,c,f,t,n⟩ by unfold lineW tailW; simp only [hu,Bool.false_eq_true,if_false,List.append_nil,if_neg h3,if_neg h7,if_neg h8,if_neg h9])
  have HLN:=keep (line_len ⟨k,u,⟨x1,y1,x2,y2⟩,inp,a,b,c,f,t,n⟩ HG.out HOK.out)
  unfold lineL at HLN
  rw [← HLL.out] at HLN
  go_wp2_with fail
  refine (join_own [wordK k,Lib.itoa u] 32 H31.out.own (by simp) (by simp) (Nat.le_trans HLN.out (by decide))).mono ?_
  rintro e w99 ⟨rfl,hb⟩
  rw [HLL.out]
  have HZ:=Lib.hid (H31.out.below hb)
  clear hb
  go_wp2_with fail
  exact bodyPost_ret (v:=.tuple #[.string ⟨(Lib.join (lineW ⟨k,u,⟨x1,y1,x2,y2⟩,inp,a,b,c,f,t,n⟩) [32]).toArray⟩,.int .i64 0]) (by simp [results,Tryz.results11,go_sem]) rfl ⟨by rw [HFV.out]; rfl,HZ.out.ok.bel⟩
 ·refine (target_yes k hu u x1 y1 x2 y2 inp a b c f t n _).mono ?_
  rintro e w29 ⟨rfl,hb⟩
  clear zx cx0 cx1 cx2 cx3 cx4 cx5 cx6 cx7 cx8 cx9 cx10 cx11 cx12
  have H30:=Lib.hid (H25.out.below hb)
  clear hb H25
  go_upto_region 7 with fail
  have H31:=Lib.hid ((H30.out.alloc w29.heap.size 23 [.int .i64 x1,.int .i64 y1,.int .i64 x2,.int .i64 y2] rfl))
  clear H30
  generalize (w29.alloc (.cells #[.int .i64 x1,.int .i64 y1,.int .i64 x2,.int .i64 y2] 23)) = W32 at H31 ⊢
  obtain ⟨q33,hq33⟩ : ∃ q33,w29.heap.size = q33:=⟨_,rfl⟩
  rw [hq33] at H31 ⊢
  clear hq33
  have F34:=H31.out.ok.sees
  simp only [sees,kBlk,cellsAt,Nat.reduceAdd] at F34
  obtain ⟨⟨zr,cr0,cr1,cr2,cr3,-⟩,-⟩:=F34
  go_wp2_with fail
  refine (op_ranged x1 y1 x2 y2 HOK.out.c1 HOK.out.r1 HOK.out.c2 HOK.out.r2 _ (HE.out.below H31.out.ok.bel)).mono ?_
  rintro e w35 ⟨rfl,hb⟩
  clear zr cr0 cr1 cr2 cr3
  have H36:=Lib.hid ((H31.out.below hb).tail)
  clear hb H31
  go_upto_region 8 with (at_builtin; refine wpList_append_lies _ rfl _ _ _ rfl w.heap.size 9 i0 _ 1 16 Tryz.underlying44 hi hz0 hz1 hz2 rfl (by omega) _ _ _ rfl (H36.out.own.alloc _) ⟨w35.heap.size,0,none⟩ 1 1 [.string ⟨(rangeL ⟨x1,y1,x2,y2⟩).toArray⟩] rfl rfl (World.news_of_block (cs:=#[.string ⟨(rangeL ⟨x1,y1,x2,y2⟩).toArray⟩]) (t:=9) (fr:=(0,0)) (heap_alloc_new _ _)) (by intro u hu; simp at hu; rcases hu with rfl <;> rfl) (by omega) (by unfold maxLen; omega) (by omega) (by have:=H36.out.ok.bel.size; simp; omega) _ rfl ?_; intro g3 cap3 w3 hown3 hgrow3 hat3 hlt3)
  have H37:=Lib.hid (show OkRow w [kBlk w.heap.size 28 [.int .u8 (k : Nat),.int .i64 u,.int .i64 x1,.int .i64 y1,.int .i64 x2,.int .i64 y2,.string ⟨inp.toArray⟩,.int .u64 (a : Nat),.int .u64 (b : Nat),.int .u64 (c : Nat),.int .u8 (f : Nat),.int .u64 (t : Nat),.int .i64 n]] 9 1 (.slice (some ⟨g3,0,none⟩) 3 cap3) 3 (strsV [wordK k,Lib.itoa u,rangeL ⟨x1,y1,x2,y2⟩]) w3 from (H36.out.alloc_obj _).appended hown3 hgrow3 hat3)
  clear hown3 hgrow3 hat3 H36
  have F38:=H37.out.ok.sees
  simp only [sees,kBlk,cellsAt,Nat.reduceAdd] at F38
  obtain ⟨⟨zx,cx0,cx1,cx2,cx3,cx4,cx5,cx6,cx7,cx8,cx9,cx10,cx11,cx12,-⟩,-⟩:=F38
  by_cases h3 : k = 3
  ·have e3 : ((k : Int) == 3) = true:=by simp; omega
   have HK3:=keep h3
   clear h3
   go_wp2_with fail
   refine (glyph_Quote ⟨inp.toArray⟩ _ HLT.out ((HE.out.below H37.out.ok.bel).2.2.1)).mono ?_
   rintro e w39 ⟨rfl,hb⟩
   clear zx cx0 cx1 cx2 cx3 cx4 cx5 cx6 cx7 cx8 cx9 cx10 cx11 cx12
   rw [show (⟨inp.toArray⟩ : ByteArray).data.toList = inp from rfl,quote_good HG.out.2.2.2.2.1]
   have H40:=Lib.hid (H37.out.below hb)
   clear hb H37
   go_upto_region 18 with (at_builtin; refine wpList_append_lies _ rfl _ _ _ rfl w.heap.size 9 i0 _ 1 16 Tryz.underlying44 hi hz0 hz1 hz2 rfl (by omega) _ _ _ rfl (H40.out.own.alloc _) ⟨w39.heap.size,0,none⟩ 1 1 [.string ⟨(quoteS inp).toArray⟩] rfl rfl (World.news_of_block (cs:=#[.string ⟨(quoteS inp).toArray⟩]) (t:=9) (fr:=(0,0)) (heap_alloc_new _ _)) (by intro u hu; simp at hu; rcases hu with rfl <;> rfl) (by omega) (by unfold maxLen; omega) (by omega) (by have:=H40.out.ok.bel.size; simp; omega) _ rfl ?_; intro g3 cap3 w3 hown3 hgrow3 hat3 hlt3)
   have H41:=Lib.hid (show OkRow w [kBlk w.heap.size 28 [.int .u8 (k : Nat),.int .i64 u,.int .i64 x1,.int .i64 y1,.int .i64 x2,.int .i64 y2,.string ⟨inp.toArray⟩,.int .u64 (a : Nat),.int .u64 (b : Nat),.int .u64 (c : Nat),.int .u8 (f : Nat),.int .u64 (t : Nat),.int .i64 n]] 9 1 (.slice (some ⟨g3,0,none⟩) 4 cap3) 4 (strsV [wordK k,Lib.itoa u,rangeL ⟨x1,y1,x2,y2⟩,quoteS inp]) w3 from (H40.out.alloc_obj _).appended hown3 hgrow3 hat3)
   clear hown3 hgrow3 hat3 H40
   have HLL:=keep (show [wordK k,Lib.itoa u,rangeL ⟨x1,y1,x2,y2⟩,quoteS inp] = lineW ⟨k,u,⟨x1,y1,x2,y2⟩,inp,a,b,c,f,t,n⟩ by unfold lineW tailW; simp only [hu,if_true,List.cons_append,List.nil_append,if_pos HK3.out])
   have HLN:=keep (line_len ⟨k,u,⟨x1,y1,x2,y2⟩,inp,a,b,c,f,t,n⟩ HG.out HOK.out)
   unfold lineL at HLN
   rw [← HLL.out] at HLN
   go_wp2_with fail
   refine (join_own [wordK k,Lib.itoa u,rangeL ⟨x1,y1,x2,y2⟩,quoteS inp] 32 H41.out.own (by simp) (by simp) (Nat.le_trans HLN.out (by decide))).mono ?_
   rintro e w99 ⟨rfl,hb⟩
   rw [HLL.out]
   have HZ:=Lib.hid (H41.out.below hb)
   clear hb
   go_wp2_with fail
   exact bodyPost_ret (v:=.tuple #[.string ⟨(Lib.join (lineW ⟨k,u,⟨x1,y1,x2,y2⟩,inp,a,b,c,f,t,n⟩) [32]).toArray⟩,.int .i64 0]) (by simp [results,Tryz.results11,go_sem]) rfl ⟨by rw [HFV.out]; rfl,HZ.out.ok.bel⟩
  by_cases h7 : k = 7
  ·have e3 : ((k : Int) == 3) = false:=by simp; omega
   have e7 : ((k : Int) == 7) = true:=by simp; omega
   have HK7:=keep h7
   clear h7
   go_upto_region 13 with fail
   clear zx cx0 cx1 cx2 cx3 cx4 cx5 cx6 cx7 cx8 cx9 cx10 cx11 cx12
   refine wp_region_held_drew (S:=fun W => Ok w [kBlk w.heap.size 28 [.int .u8 (k : Nat),.int .i64 u,.int .i64 x1,.int .i64 y1,.int .i64 x2,.int .i64 y2,.string ⟨inp.toArray⟩,.int .u64 (a : Nat),.int .u64 (b : Nat),.int .u64 (c : Nat),.int .u8 (f : Nat),.int .u64 (t : Nat),.int .i64 n]] W) (by kernel_rfl) H37.out.ok.drew (fun hHeld => ?_)
   have H39:=Lib.hid H37.out.drew
   clear H37
   generalize w3.drew = W40 at hHeld H39 ⊢
   refine wtg (i:=0) (v:=?a16) rfl ?b16 (by assumption) ?c16
   case b16 => (intro w hSw; have F:=Ok.sees hSw; clear hSw; simp only [sees,kBlk,cellsAt,Nat.reduceAdd] at F; go_simp; (try rw [hix]); try with_reducible rfl)
   try simp only [Act.put,wp1,wp2,wp3,wp4,wp6]
   refine wtg (i:=1) (v:=?a18) rfl ?b18 (by assumption) ?c18
   case b18 => (intro w hSw; have F:=Ok.sees hSw; clear hSw; simp only [sees,kBlk,cellsAt,Nat.reduceAdd] at F; go_simp; (try rw [hix]); try with_reducible rfl)
   try simp only [Act.put,wp1,wp2,wp3,wp4,wp5,wp6]
   refine wtg (i:=2) (v:=?a20) rfl ?b20 (by assumption) ?c20
   case b20 => (intro w hSw; have F:=Ok.sees hSw; clear hSw; simp only [sees,kBlk,cellsAt,Nat.reduceAdd] at F; go_simp; (try rw [hix]); try with_reducible rfl)
   try simp only [Act.put,wp1,wp2,wp3,wp4,wp5,wp6]
   refine wtg (i:=3) (v:=?a22) rfl ?b22 (by assumption) ?c22
   case b22 => (intro w hSw; have F:=Ok.sees hSw; clear hSw; simp only [sees,kBlk,cellsAt,Nat.reduceAdd] at F; go_simp; (try rw [hix]); try with_reducible rfl)
   try simp only [Act.put,wp1,wp2,wp3,wp4,wp5,wp6]
   refine wtg (i:=5) (v:=?a24) rfl ?b24 (by assumption) ?c24
   case b24 => (intro w hSw; have F:=Ok.sees hSw; clear hSw; simp only [sees,kBlk,cellsAt,Nat.reduceAdd] at F; go_simp; (try rw [hix]); try with_reducible rfl)
   try simp only [Act.put,wp1,wp2,wp3,wp4,wp5,wp6]
   refine wtg (i:=6) (v:=?a26) rfl ?b26 (by assumption) ?c26
   case b26 => (intro w hSw; have F:=Ok.sees hSw; clear hSw; simp only [sees,kBlk,cellsAt,Nat.reduceAdd] at F; go_simp; (try rw [hix]); try with_reducible rfl)
   try simp only [Act.put,wp1,wp2,wp3,wp4,wp5,wp6]
   refine wtg (i:=7) (v:=?a28) rfl ?b28 (by assumption) ?c28
   case b28 => (intro w hSw; have F:=Ok.sees hSw; clear hSw; simp only [sees,kBlk,cellsAt,Nat.reduceAdd] at F; go_simp; (try rw [hix]); try with_reducible rfl)
   try simp only [Act.put,wp1,wp2,wp3,wp4,wp5,wp6]
   refine wtg (i:=9) (v:=?a30) rfl ?b30 (by assumption) ?c30
   case b30 => (intro w hSw; have F:=Ok.sees hSw; clear hSw; simp only [sees,kBlk,cellsAt,Nat.reduceAdd] at F; go_simp; (try rw [hix]); try with_reducible rfl)
   try simp only [Act.put,wp1,wp2,wp3,wp4,wp5,wp6]
   refine wtg (i:=10) (v:=?a32) rfl ?b32 (by assumption) ?c32
   case b32 => (intro w hSw; have F:=Ok.sees hSw; clear hSw; simp only [sees,kBlk,cellsAt,Nat.reduceAdd] at F; go_simp; (try rw [hix]); try with_reducible rfl)
   try simp only [Act.put,wp1,wp2,wp3,wp4,wp5,wp6]
   refine wtg (i:=11) (v:=?a34) rfl ?b34 (by assumption) ?c34
   case b34 => (intro w hSw; have F:=Ok.sees hSw; clear hSw; simp only [sees,kBlk,cellsAt,Nat.reduceAdd] at F; go_simp; (try rw [hix]); try with_reducible rfl)
   try simp only [Act.put,wp1,wp2,wp3,wp4,wp5,wp6]
   refine wpAnyH_ready (rs:=[4]) (by kernel_rfl) (by simp) ?_
   refine AllReadyH.cons rfl (fun K hK => ?_) AllReadyH.nil
   go_simp
   refine (group_format a _ HOK.out.rd (HE.out.below H39.out.ok.bel).2.1).mono ?_
   rintro e w41 ⟨rfl,hb42⟩
   rw [byt_cells]
   go_wp2_with fail
   have H43:=Lib.hid (H39.out.below hb42)
   clear hb42 H39
   refine hK.out _ _ (H43.out.ok) (fun hHeld => ?_)
   clear hK K
   try simp only [Act.put,wp1,wp2,wp3,wp4,wp5,wp6]
   refine wpAnyH_ready (rs:=[8]) (by kernel_rfl) (by simp) ?_
   refine AllReadyH.cons rfl (fun K hK => ?_) AllReadyH.nil
   go_simp
   refine (group_format b _ HOK.out.wr (HE.out.below H43.out.ok.bel).2.1).mono ?_
   rintro e w44 ⟨rfl,hb45⟩
   rw [byt_cells]
   go_wp2_with fail
   have H46:=Lib.hid (H43.out.below hb45)
   clear hb45 H43
   refine hK.out _ _ (H46.out.ok) (fun hHeld => ?_)
   clear hK K
   try simp only [Act.put,wp1,wp2,wp3,wp4,wp5,wp6]
   refine wpAnyH_ready (rs:=[12]) (by kernel_rfl) (by simp) ?_
   refine AllReadyH.cons rfl (fun K hK => ?_) AllReadyH.nil
   go_simp
   refine (group_format c _ HOK.out.ow (HE.out.below H46.out.ok.bel).2.1).mono ?_
   rintro e w47 ⟨rfl,hb48⟩
   rw [byt_cells]
   go_wp2_with fail
   have H49:=Lib.hid (H46.out.below hb48)
   clear hb48 H46
   refine hK.out _ _ (H49.out.ok) (fun hHeld => ?_)
   clear hK K
   try simp only [Act.put,wp1,wp2,wp3,wp4,wp5,wp6]
   refine wpAnyH_ready (rs:=[13]) (by kernel_rfl) (by simp) ?_
   refine AllReadyH.cons rfl (fun K hK => ?_) AllReadyH.nil
   go_simp
   have H50:=Lib.hid (H49.out.alloc_obj (.cells #[.string ⟨(gfmtL a).toArray⟩,.string ⟨(gfmtL b).toArray⟩,.string ⟨(gfmtL c).toArray⟩] 9))
   clear H49
   refine hK.out _ _ (H50.out.ok) (fun hHeld => ?_)
   clear hK K
   try simp only [Act.put,wp1,wp2,wp3,wp4,wp5,wp6]
   refine wpAnyH_ready (rs:=[14]) (by kernel_rfl) (by simp) ?_
   refine AllReadyH.cons rfl (fun K hK => ?_) AllReadyH.nil
   refine step_append_lies _ (by rfl) _ _ _ (by rfl) w.heap.size 9 i0 _ 1 16 Tryz.underlying44 hi hz0 hz1 hz2 rfl (by omega) _ _ _ (by rfl) H50.out.own ⟨w47.heap.size,0,none⟩ 3 3 [.string ⟨(gfmtL a).toArray⟩,.string ⟨(gfmtL b).toArray⟩,.string ⟨(gfmtL c).toArray⟩] (by rfl) (by rfl) (World.news_of_block (cs:=#[.string ⟨(gfmtL a).toArray⟩,.string ⟨(gfmtL b).toArray⟩,.string ⟨(gfmtL c).toArray⟩]) (t:=9) (fr:=(0,0)) (heap_alloc_new _ _)) (by intro u hu; simp at hu; rcases hu with rfl | rfl | rfl <;> rfl) (by omega) (by unfold maxLen; omega) (by omega) H50.out.ok.bel.size _ rfl ?_
   intro g3 cap3 w3 hown3 hgrow3 hat3 hlt3
   have H51:=Lib.hid (show OkRow w [kBlk w.heap.size 28 [.int .u8 (k : Nat),.int .i64 u,.int .i64 x1,.int .i64 y1,.int .i64 x2,.int .i64 y2,.string ⟨inp.toArray⟩,.int .u64 (a : Nat),.int .u64 (b : Nat),.int .u64 (c : Nat),.int .u8 (f : Nat),.int .u64 (t : Nat),.int .i64 n]] 9 1 (.slice (some ⟨g3,0,none⟩) 6 cap3) 6 (strsV [wordK k,Lib.itoa u,rangeL ⟨x1,y1,x2,y2⟩,gfmtL a,gfmtL b,gfmtL c]) w3 from H50.out.appended hown3 hgrow3 hat3)
   clear hown3 hgrow3 hat3 H50
   refine hK.out _ _ (H51.out.ok) (fun hHeld => ?_)
   clear hK K
   try simp only [Act.put,wp1,wp2,wp3,wp4,wp5,wp6]
   refine wtg (i:=15) (v:=?a41) rfl ?b41 (by assumption) ?c41
   case b41 => (intro w hSw; have F:=Ok.sees hSw; clear hSw; simp only [sees,kBlk,cellsAt,Nat.reduceAdd] at F; go_simp; (try rw [hix]); try with_reducible rfl)
   try simp only [Act.put,wp1,wp2,wp3,wp4,wp5,wp6]
   refine wpAnyH_done (by kernel_rfl) ?_ _
   clear hHeld
   go_upto_region 18 with fail
   have HLL:=keep (show [wordK k,Lib.itoa u,rangeL ⟨x1,y1,x2,y2⟩,gfmtL a,gfmtL b,gfmtL c] = lineW ⟨k,u,⟨x1,y1,x2,y2⟩,inp,a,b,c,f,t,n⟩ by unfold lineW tailW; simp only [hu,if_true,List.cons_append,List.nil_append,if_neg h3,if_pos HK7.out])
   have HLN:=keep (line_len ⟨k,u,⟨x1,y1,x2,y2⟩,inp,a,b,c,f,t,n⟩ HG.out HOK.out)
   unfold lineL at HLN
   rw [← HLL.out] at HLN
   go_wp2_with fail
   refine (join_own [wordK k,Lib.itoa u,rangeL ⟨x1,y1,x2,y2⟩,gfmtL a,gfmtL b,gfmtL c] 32 H51.out.own (by simp) (by simp) (Nat.le_trans HLN.out (by decide))).mono ?_
   rintro e w99 ⟨rfl,hb⟩
   rw [HLL.out]
   have HZ:=Lib.hid (H51.out.below hb)
   clear hb
   go_wp2_with fail
   exact bodyPost_ret (v:=.tuple #[.string ⟨(Lib.join (lineW ⟨k,u,⟨x1,y1,x2,y2⟩,inp,a,b,c,f,t,n⟩) [32]).toArray⟩,.int .i64 0]) (by simp [results,Tryz.results11,go_sem]) rfl ⟨by rw [HFV.out]; rfl,HZ.out.ok.bel⟩
  by_cases h8 : k = 8
  ·have e3 : ((k : Int) == 3) = false:=by simp; omega
   have e7 : ((k : Int) == 7) = false:=by simp; omega
   have e8 : ((k : Int) == 8) = true:=by simp; omega
   have HK8:=keep h8
   clear h8
   go_upto_region 15 with fail
   clear zx cx0 cx1 cx2 cx3 cx4 cx5 cx6 cx7 cx8 cx9 cx10 cx11 cx12
   refine wp_region_held_drew (S:=fun W => Ok w [kBlk w.heap.size 28 [.int .u8 (k : Nat),.int .i64 u,.int .i64 x1,.int .i64 y1,.int .i64 x2,.int .i64 y2,.string ⟨inp.toArray⟩,.int .u64 (a : Nat),.int .u64 (b : Nat),.int .u64 (c : Nat),.int .u8 (f : Nat),.int .u64 (t : Nat),.int .i64 n]] W) (by kernel_rfl) H37.out.ok.drew (fun hHeld => ?_)
   have H39:=Lib.hid H37.out.drew
   clear H37
   generalize w3.drew = W40 at hHeld H39 ⊢
   refine wtg (i:=0) (v:=?a43) rfl ?b43 (by assumption) ?c43
   case b43 => (intro w hSw; have F:=Ok.sees hSw; clear hSw; simp only [sees,kBlk,cellsAt,Nat.reduceAdd] at F; go_simp; (try rw [hix]); try with_reducible rfl)
   try simp only [Act.put,wp1,wp2,wp3,wp4,wp6]
   refine wtg (i:=1) (v:=?a45) rfl ?b45 (by assumption) ?c45
   case b45 => (intro w hSw; have F:=Ok.sees hSw; clear hSw; simp only [sees,kBlk,cellsAt,Nat.reduceAdd] at F; go_simp; (try rw [hix]); try with_reducible rfl)
   try simp only [Act.put,wp1,wp2,wp3,wp4,wp5,wp6]
   refine wtg (i:=2) (v:=?a47) rfl ?b47 (by assumption) ?c47
   case b47 => (intro w hSw; have F:=Ok.sees hSw; clear hSw; simp only [sees,kBlk,cellsAt,Nat.reduceAdd] at F; go_simp; (try rw [hix]); try with_reducible rfl)
   try simp only [Act.put,wp1,wp2,wp3,wp4,wp5,wp6]
   refine wtg (i:=3) (v:=?a49) rfl ?b49 (by assumption) ?c49
   case b49 => (intro w hSw; have F:=Ok.sees hSw; clear hSw; simp only [sees,kBlk,cellsAt,Nat.reduceAdd] at F; go_simp; (try rw [hix]); try with_reducible rfl)
   try simp only [Act.put,wp1,wp2,wp3,wp4,wp5,wp6]
   refine wtg (i:=5) (v:=?a51) rfl ?b51 (by assumption) ?c51
   case b51 => (intro w hSw; have F:=Ok.sees hSw; clear hSw; simp only [sees,kBlk,cellsAt,Nat.reduceAdd] at F; go_simp; (try rw [hix]); try with_reducible rfl)
   try simp only [Act.put,wp1,wp2,wp3,wp4,wp5,wp6]
   refine wtg (i:=6) (v:=?a53) rfl ?b53 (by assumption) ?c53
   case b53 => (intro w hSw; have F:=Ok.sees hSw; clear hSw; simp only [sees,kBlk,cellsAt,Nat.reduceAdd] at F; go_simp; (try rw [hix]); try with_reducible rfl)
   try simp only [Act.put,wp1,wp2,wp3,wp4,wp5,wp6]
   refine wpAnyH_ready (rs:=[4]) (by kernel_rfl) (by simp) ?_
   refine AllReadyH.cons rfl (fun K hK => ?_) AllReadyH.nil
   go_simp
   rw [show IntKind.i64.wrap (f : Int) = (f : Int) from Go.IntWalk.i64_in _ (by have:=HOK.out.fns; dsimp only at this; omega)]
   refine (Itoa6 f (dec_len20 _ HOK.out.fns) _ (HE.out.below H39.out.ok.bel)).mono ?_
   rintro e w41 ⟨rfl,hb42⟩
   go_wp2_with fail
   have H43:=Lib.hid (H39.out.below hb42)
   clear hb42 H39
   refine hK.out _ _ (H43.out.ok) (fun hHeld => ?_)
   clear hK K
   try simp only [Act.put,wp1,wp2,wp3,wp4,wp5,wp6]
   refine wpAnyH_ready (rs:=[7]) (by kernel_rfl) (by simp) ?_
   refine AllReadyH.cons rfl (fun K hK => ?_) AllReadyH.nil
   go_simp
   refine (group_format t _ HOK.out.tg (HE.out.below H43.out.ok.bel).2.1).mono ?_
   rintro e w44 ⟨rfl,hb45⟩
   rw [byt_cells]
   go_wp2_with fail
   have H46:=Lib.hid (H43.out.below hb45)
   clear hb45 H43
   refine hK.out _ _ (H46.out.ok) (fun hHeld => ?_)
   clear hK K
   try simp only [Act.put,wp1,wp2,wp3,wp4,wp5,wp6]
   refine wpAnyH_ready (rs:=[8]) (by kernel_rfl) (by simp) ?_
   refine AllReadyH.cons rfl (fun K hK => ?_) AllReadyH.nil
   go_simp
   have H47:=Lib.hid (H46.out.alloc_obj (.cells #[.string ⟨(Lib.itoa f).toArray⟩,.string ⟨(gfmtL t).toArray⟩] 9))
   clear H46
   refine hK.out _ _ (H47.out.ok) (fun hHeld => ?_)
   clear hK K
   try simp only [Act.put,wp1,wp2,wp3,wp4,wp5,wp6]
   refine wpAnyH_ready (rs:=[9]) (by kernel_rfl) (by simp) ?_
   refine AllReadyH.cons rfl (fun K hK => ?_) AllReadyH.nil
   refine step_append_lies _ (by rfl) _ _ _ (by rfl) w.heap.size 9 i0 _ 1 16 Tryz.underlying44 hi hz0 hz1 hz2 rfl (by omega) _ _ _ (by rfl) H47.out.own ⟨w44.heap.size,0,none⟩ 2 2 [.string ⟨(Lib.itoa f).toArray⟩,.string ⟨(gfmtL t).toArray⟩] (by rfl) (by rfl) (World.news_of_block (cs:=#[.string ⟨(Lib.itoa f).toArray⟩,.string ⟨(gfmtL t).toArray⟩]) (t:=9) (fr:=(0,0)) (heap_alloc_new _ _)) (by intro u hu; simp at hu; rcases hu with rfl | rfl <;> rfl) (by omega) (by unfold maxLen; omega) (by omega) H47.out.ok.bel.size _ rfl ?_
   intro g3 cap3 w3 hown3 hgrow3 hat3 hlt3
   have H48:=Lib.hid (show OkRow w [kBlk w.heap.size 28 [.int .u8 (k : Nat),.int .i64 u,.int .i64 x1,.int .i64 y1,.int .i64 x2,.int .i64 y2,.string ⟨inp.toArray⟩,.int .u64 (a : Nat),.int .u64 (b : Nat),.int .u64 (c : Nat),.int .u8 (f : Nat),.int .u64 (t : Nat),.int .i64 n]] 9 1 (.slice (some ⟨g3,0,none⟩) 5 cap3) 5 (strsV [wordK k,Lib.itoa u,rangeL ⟨x1,y1,x2,y2⟩,Lib.itoa f,gfmtL t]) w3 from H47.out.appended hown3 hgrow3 hat3)
   clear hown3 hgrow3 hat3 H47
   refine hK.out _ _ (H48.out.ok) (fun hHeld => ?_)
   clear hK K
   try simp only [Act.put,wp1,wp2,wp3,wp4,wp5,wp6]
   refine wtg (i:=10) (v:=?a59) rfl ?b59 (by assumption) ?c59
   case b59 => (intro w hSw; have F:=Ok.sees hSw; clear hSw; simp only [sees,kBlk,cellsAt,Nat.reduceAdd] at F; go_simp; (try rw [hix]); try with_reducible rfl)
   try simp only [Act.put,wp1,wp2,wp3,wp4,wp5,wp6]
   refine wpAnyH_done (by kernel_rfl) ?_ _
   clear hHeld
   go_upto_region 18 with fail
   have HLL:=keep (show [wordK k,Lib.itoa u,rangeL ⟨x1,y1,x2,y2⟩,Lib.itoa f,gfmtL t] = lineW ⟨k,u,⟨x1,y1,x2,y2⟩,inp,a,b,c,f,t,n⟩ by unfold lineW tailW; simp only [hu,if_true,List.cons_append,List.nil_append,if_neg h3,if_neg h7,if_pos HK8.out])
   have HLN:=keep (line_len ⟨k,u,⟨x1,y1,x2,y2⟩,inp,a,b,c,f,t,n⟩ HG.out HOK.out)
   unfold lineL at HLN
   rw [← HLL.out] at HLN
   go_wp2_with fail
   refine (join_own [wordK k,Lib.itoa u,rangeL ⟨x1,y1,x2,y2⟩,Lib.itoa f,gfmtL t] 32 H48.out.own (by simp) (by simp) (Nat.le_trans HLN.out (by decide))).mono ?_
   rintro e w99 ⟨rfl,hb⟩
   rw [HLL.out]
   have HZ:=Lib.hid (H48.out.below hb)
   clear hb
   go_wp2_with fail
   exact bodyPost_ret (v:=.tuple #[.string ⟨(Lib.join (lineW ⟨k,u,⟨x1,y1,x2,y2⟩,inp,a,b,c,f,t,n⟩) [32]).toArray⟩,.int .i64 0]) (by simp [results,Tryz.results11,go_sem]) rfl ⟨by rw [HFV.out]; rfl,HZ.out.ok.bel⟩
  have e3 : ((k : Int) == 3) = false:=by simp; omega
  have e7 : ((k : Int) == 7) = false:=by simp; omega
  have e8 : ((k : Int) == 8) = false:=by simp; omega
  have e9 : ((k : Int) == 9) = false:=by simp; unfold usesR at hu; simp at hu; omega
  have h9 : ¬ k = 9:=by unfold usesR at hu; simp at hu; omega
  go_upto_region 18 with fail
  clear zx cx0 cx1 cx2 cx3 cx4 cx5 cx6 cx7 cx8 cx9 cx10 cx11 cx12
  have HLL:=keep (show [wordK k,Lib.itoa u,rangeL ⟨x1,y1,x2,y2⟩] = lineW ⟨k,u,⟨x1,y1,x2,y2⟩,inp,a,b,c,f,t,n⟩ by unfold lineW tailW; simp only [hu,if_true,List.append_nil,if_neg h3,if_neg h7,if_neg h8,if_neg h9])
  have HLN:=keep (line_len ⟨k,u,⟨x1,y1,x2,y2⟩,inp,a,b,c,f,t,n⟩ HG.out HOK.out)
  unfold lineL at HLN
  rw [← HLL.out] at HLN
  go_wp2_with fail
  refine (join_own [wordK k,Lib.itoa u,rangeL ⟨x1,y1,x2,y2⟩] 32 H37.out.own (by simp) (by simp) (Nat.le_trans HLN.out (by decide))).mono ?_
  rintro e w99 ⟨rfl,hb⟩
  rw [HLL.out]
  have HZ:=Lib.hid (H37.out.below hb)
  clear hb
  go_wp2_with fail
  exact bodyPost_ret (v:=.tuple #[.string ⟨(Lib.join (lineW ⟨k,u,⟨x1,y1,x2,y2⟩,inp,a,b,c,f,t,n⟩) [32]).toArray⟩,.int .i64 0]) (by simp [results,Tryz.results11,go_sem]) rfl ⟨by rw [HFV.out]; rfl,HZ.out.ok.bel⟩
end Go.Proofs.YtjbimcdofenmdaaGreatDoor
