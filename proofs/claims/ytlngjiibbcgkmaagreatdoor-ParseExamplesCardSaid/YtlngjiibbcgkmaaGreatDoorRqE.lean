/- The reference's parser by rf: want, primary. -/
import Derived.Test.YtlngjiibbcgkmaaGreatDoorRqD
import Derived.Test.YtlngjiibbcgkmaaGreatDoorOk
namespace Go.Proofs.YtlngjiibbcgkmaaGreatDoor
open Go.RowKit
section
variable {P : Program} {md : Region.Mode} {ops : Array Oper} {Q : Exit → Act → World → Prop} {i : Nat} {oi : Oper} {v : Value} {fuel : Nat} {listed : Array Bool} {a a' : Act} {w : World}
theorem ty (hi : ops[i]? = some oi) (h : wpAny P md ops Q fuel (listed.setIfInBounds i true) a' w)
 (hy : ∀ W,(execOp a.eval oi).run P W = .ok (.value v) W:=by (intro w; go_simp; (try rw [if_neg (by omega)]); (try with_reducible rfl)))
 (ha : a.put oi.dst v = a':=by ((try simp only [Act.put,List.setIfInBounds_toArray,List.set_cons_zero,List.set_cons_succ,List.getElem_toArray,List.getElem_cons_succ,List.getElem_cons_zero]); exact rfl))
 (hs : Region.noSelect ops = true:=by kernel_rfl) (hf : Region.free md ops listed i = true:=by kernel_rfl) (hr : (Region.ready md ops listed).contains i = true:=by kernel_rfl)
 (hQ : ∀ c a w,Q (.panic c) (a.put oi.dst v) w → Q (.panic c) a w:=by exact fun _ _ _ h => h) (hw : Region.wanted oi (yielded ops a.tmps) = true:=by rfl) : wpAny P md ops Q (fuel + 1) listed a w :=
 wpAny_take hi hs hf hr hQ (.inl ⟨hw,hy⟩) (ha ▸ h)
end
set_option maxRecDepth 100000 in
set_option maxHeartbeats 4000000 in
theorem r_primary_num (f : Nat) (_IH : ∀ g,g ≤ f → Rc g) (tk : Nat) (tn : Int) (tt : List UInt8) (t1 t2 t3 t4 : Int) (ta : Nat) (w1 : World) (ps : List Pers) (pb : Nat) (S : ByteArray) (all : List Tk) (i : Nat) (ns : List Nd) (a c : Int) (n : Nat) (w : World) (hn : all.length ≤ 1000) (hs : S.size ≤ 4611686018427387904) (hi : i ≤ all.length) (hl : ns.length ≤ i) (_hf : 12 * (all.length - i) + 2 ≤ f + 1) (h : RSt w1 ps pb S all i ns a c w) (ht : hdS S.size (all.drop i) = ⟨tk,tn,tt,⟨t1,t2,t3,t4⟩,ta⟩) (hk : tk = 1) :
  Calls Tryz.prog 135 #[.pointer (some ⟨pb,0,none⟩)] w (RQ w1 ps pb S all (rf S.size all (f + 1) .pr ⟨i,ns,a,c,n⟩)):=by
 have hT0:=ht
 obtain ⟨i0,hi_,hz0,hz1,hz2⟩:=info_parts info_node
 have hi9:=hi_
 clear hi_
 rw [rf_pr1 ht]
 simp only []
 rw [if_pos (by omega)]
 rw [show (ndVal ⟨tk,tn,tt,⟨t1,t2,t3,t4⟩,ta⟩) = (ndVal ⟨1,tn,tt,⟨t1,t2,t3,t4⟩,ta⟩) by rw [hk]]
 have HH:=keep (r_next w1 ps pb S all i ns a c w hn (by omega) hs h)
 rw [ht] at HH
 have H:=Lib.hid h
 have HK:=keep hk
 clear hk h ht hT0 _IH
 go_enter Tryz.func135,Tryz.ntmps135
 go_wp2_with fail
 refine (HH.out).mono ?_
 rintro e wa1 ⟨rfl,hb2⟩
 have H3:=Lib.hid (H.out.below hb2)
 clear hb2 H HH
 simp only [tkA]
 go_upto_region 1 with fail
 have H4 : Hid (RSt w1 (kBlk wa1.heap.size 43 [.int .u8 tk,.int .i64 tn,.string ⟨tt.toArray⟩,.int .i64 t1,.int .i64 t2,.int .i64 t3,.int .i64 t4,.int .i64 ta] :: ps) pb S all i ns a c (wa1.alloc (.cells #[.int .u8 tk,.int .i64 tn,.string ⟨tt.toArray⟩,.int .i64 t1,.int .i64 t2,.int .i64 t3,.int .i64 t4,.int .i64 ta] 43))):=Lib.hid (H3.out.alloc 43 [.int .u8 tk,.int .i64 tn,.string ⟨tt.toArray⟩,.int .i64 t1,.int .i64 t2,.int .i64 t3,.int .i64 t4,.int .i64 ta])
 clear H3
 generalize (wa1.alloc (.cells #[.int .u8 tk,.int .i64 tn,.string ⟨tt.toArray⟩,.int .i64 t1,.int .i64 t2,.int .i64 t3,.int .i64 t4,.int .i64 ta] 43)) = W5 at H4 ⊢
 have hk:=HK.out
 have F6:=H4.out.sees
 simp only [sees,kBlk,cellsAt,Nat.reduceAdd] at F6
 obtain ⟨zp,⟨z0,c0_0,c0_1,c0_2,c0_3,c0_4,c0_5,c0_6,c0_7,-⟩,-⟩:=F6
 obtain ⟨la,lc,tv,-,⟨x0,x1⟩,cc0,cc1,cc2,cc3,cc4,cc5⟩:=H4.out.cells
 go_upto_region 5 with fail
 have HI:=Lib.hid H4.out.inc
 clear H4 x0 x1 cc0 cc1 cc2 cc3 cc4 cc5 c0_0 c0_1 c0_2 c0_3 c0_4 c0_5 c0_6 c0_7 zp z0
 generalize (W5.setCell ⟨pb,2,none⟩ (.int .i64 ((i : Int) + 1))) = W6 at HI ⊢
 obtain ⟨h1,h2,la2,lc2,tv2,hT,hO⟩:=HI.out
 have HT:=keep hT
 have H2:=keep h2
 have HO:=Lib.hid hO
 clear hO hT h2 HI
 obtain ⟨ln,hln⟩ : ∃ ln,ns.length = ln:=⟨_,rfl⟩
 have HLN:=keep hln
 have hln9 : ln ≤ 1001:=by omega
 rw [hln] at HO
 clear hln
 have HR:=Lib.hid HO.out.drew
 have HB0:=Lib.hid HO.out.ok.drew.bel
 clear HO
 refine wp_region_any (by kernel_rfl) ?_
 change wpAny _ _ _ _ _ _ _ W6.drew
 generalize W6.drew = W7 at HR HB0 ⊢
 have F:=HR.out.ok.sees
 simp only [sees,kBlk,kVar,cellsAt,Nat.reduceAdd] at F
 obtain ⟨⟨⟨x0,x1⟩,cc0,cc1,cc2,cc3,cc4,cc5,-⟩,⟨z0,c0_0,c0_1,c0_2,c0_3,c0_4,c0_5,c0_6,c0_7,-⟩,-⟩:=F
 have HR1:=Lib.hid (HR.out.alloc_obj (.cells #[.int .u8 1,.int .u8 1,.int .i64 tn,.string ⟨#[]⟩,.int .i64 0,.int .i64 0,.int .i64 0,.int .i64 0,.int .i64 0,.int .u8 0,.int .i64 0] 32))
 refine ty (i:=0) rfl ?_
 refine ty (i:=1) rfl ?_
 refine ty (i:=2) rfl ?_
 refine ty (i:=3) rfl ?_
 refine ty (i:=5) rfl ?_
 refine wpAny_ready (rs:=[4,6]) (by kernel_rfl) (by simp) ?_
 refine (AllReady.cons rfl (fun K hK => ?_) (AllReady.cons rfl (fun K hK => ?_) AllReady.nil))
 ·go_simp
  refine hK _ _ ?_
  clear hK K
  try simp only [Act.put,p1,p2,p3,p4,p5,p6]
  refine wpAny_ready (rs:=[6]) (by kernel_rfl) (by simp) ?_
  refine (AllReady.cons rfl (fun K hK => ?_) AllReady.nil)
  ·go_simp
   refine hK _ _ ?_
   clear hK K
   try simp only [Act.put,p1,p2,p3,p4,p5,p6]
   refine ty (i:=7) rfl ?_
   refine ty (i:=8) rfl ?_
   refine wpAny_ready (rs:=[9]) (by kernel_rfl) (by simp) ?_
   refine (AllReady.cons rfl (fun K hK => ?_) AllReady.nil)
   ·go_simp
    refine hK _ _ ?_
    clear hK K
    try simp only [Act.put,p1,p2,p3,p4,p5,p6]
    refine wpAny_ready (rs:=[10]) (by kernel_rfl) (by simp) ?_
    refine (AllReady.cons rfl (fun K hK => ?_) AllReady.nil)
    ·refine step_append_lies _ (by rfl) _ _ _ (by rfl) w1.heap.size 32 i0 _ 11 96 Tryz.underlying22 hi9 hz0 hz1 hz2 rfl (by omega) _ _ _ (by rfl) HR1.out.own ⟨W7.heap.size,0,none⟩ 1 1 [.int .u8 1,.int .u8 1,.int .i64 tn,.string ⟨#[]⟩,.int .i64 0,.int .i64 0,.int .i64 0,.int .i64 0,.int .i64 0,.int .u8 0,.int .i64 0] (by rfl) (by rfl) (World.news_of_block (cs:=#[.int .u8 1,.int .u8 1,.int .i64 tn,.string ⟨#[]⟩,.int .i64 0,.int .i64 0,.int .i64 0,.int .i64 0,.int .i64 0,.int .u8 0,.int .i64 0]) (t:=32) (fr:=(0,0)) (heap_alloc_new _ _)) (by intro u hu; simp at hu; rcases hu with rfl | rfl | rfl | rfl | rfl | rfl | rfl | rfl | rfl | rfl | rfl <;> rfl) (by omega) (by unfold maxLen; omega) (by omega) (by have:=HB0.out.size; simp; omega) (W7.heap.size + 1) (by simp) ?_
     intro g cap w3 hown3 hgrow3 hat3 hlt3
     have HR3:=Lib.hid (HR1.out.appended hown3 hgrow3 (by rw [World.size_alloc]; exact hat3))
     clear hown3 hgrow3 hat3
     refine hK _ _ ?_
     clear hK K
     try simp only [Act.put,p1,p2,p3,p4,p5,p6]
     refine ty (i:=11) rfl ?_
     refine ty (i:=12) rfl ?_
     refine wpAny_ready (rs:=[13]) (by kernel_rfl) (by simp) ?_
     refine (AllReady.cons rfl (fun K hK => ?_) AllReady.nil)
     ·have F3:=HR3.out.ok.sees
      simp only [sees,kBlk,kVar,cellsAt,Nat.reduceAdd] at F3
      obtain ⟨⟨⟨y0,y1⟩,y2,y3,y4,y5,y6,y7,-⟩,-,-⟩:=F3
      go_simp
      have HR4:=Lib.hid (HR3.out.set_ (i:=3) (u:=.slice (some ⟨g,0,none⟩) (ln + 1) cap) h1 H2.out)
      refine hK _ _ ?_
      clear hK K
      try simp only [Act.put,p1,p2,p3,p4,p5,p6]
      refine wpAny_done (by kernel_rfl) ?_ _
      go_wp2_with fail
      first
       | go_end0
       | go_ret
       | refine bodyPost_ret (results_none rfl _ _ _) rfl ?_
      refine ⟨rfl,h1,fun x hx => H2.out x (List.mem_cons_of_mem _ hx),la2,lc2,.slice (some ⟨g,0,none⟩) (ln + 1) cap,HT.out,?_⟩
      have h9:=HR4.out
      simp only [Q.put,ndCells_snoc,List.length_append,List.length_singleton,HLN.out]
      exact h9.drop _ (by intro z hz; simp at hz ⊢; rcases hz with h | h <;> simp [h])
 ·go_simp
  refine hK _ _ ?_
  clear hK K
  try simp only [Act.put,p1,p2,p3,p4,p5,p6]
  refine ty (i:=7) rfl ?_
  refine ty (i:=8) rfl ?_
  refine wpAny_ready (rs:=[4,9]) (by kernel_rfl) (by simp) ?_
  refine (AllReady.cons rfl (fun K hK => ?_) (AllReady.cons rfl (fun K hK => ?_) AllReady.nil))
  ·go_simp
   refine hK _ _ ?_
   clear hK K
   try simp only [Act.put,p1,p2,p3,p4,p5,p6]
   refine wpAny_ready (rs:=[9]) (by kernel_rfl) (by simp) ?_
   refine (AllReady.cons rfl (fun K hK => ?_) AllReady.nil)
   ·go_simp
    refine hK _ _ ?_
    clear hK K
    try simp only [Act.put,p1,p2,p3,p4,p5,p6]
    refine wpAny_ready (rs:=[10]) (by kernel_rfl) (by simp) ?_
    refine (AllReady.cons rfl (fun K hK => ?_) AllReady.nil)
    ·refine step_append_lies _ (by rfl) _ _ _ (by rfl) w1.heap.size 32 i0 _ 11 96 Tryz.underlying22 hi9 hz0 hz1 hz2 rfl (by omega) _ _ _ (by rfl) HR1.out.own ⟨W7.heap.size,0,none⟩ 1 1 [.int .u8 1,.int .u8 1,.int .i64 tn,.string ⟨#[]⟩,.int .i64 0,.int .i64 0,.int .i64 0,.int .i64 0,.int .i64 0,.int .u8 0,.int .i64 0] (by rfl) (by rfl) (World.news_of_block (cs:=#[.int .u8 1,.int .u8 1,.int .i64 tn,.string ⟨#[]⟩,.int .i64 0,.int .i64 0,.int .i64 0,.int .i64 0,.int .i64 0,.int .u8 0,.int .i64 0]) (t:=32) (fr:=(0,0)) (heap_alloc_new _ _)) (by intro u hu; simp at hu; rcases hu with rfl | rfl | rfl | rfl | rfl | rfl | rfl | rfl | rfl | rfl | rfl <;> rfl) (by omega) (by unfold maxLen; omega) (by omega) (by have:=HB0.out.size; simp; omega) (W7.heap.size + 1) (by simp) ?_
     intro g cap w3 hown3 hgrow3 hat3 hlt3
     have HR3:=Lib.hid (HR1.out.appended hown3 hgrow3 (by rw [World.size_alloc]; exact hat3))
     clear hown3 hgrow3 hat3
     refine hK _ _ ?_
     clear hK K
     try simp only [Act.put,p1,p2,p3,p4,p5,p6]
     refine ty (i:=11) rfl ?_
     refine ty (i:=12) rfl ?_
     refine wpAny_ready (rs:=[13]) (by kernel_rfl) (by simp) ?_
     refine (AllReady.cons rfl (fun K hK => ?_) AllReady.nil)
     ·have F3:=HR3.out.ok.sees
      simp only [sees,kBlk,kVar,cellsAt,Nat.reduceAdd] at F3
      obtain ⟨⟨⟨y0,y1⟩,y2,y3,y4,y5,y6,y7,-⟩,-,-⟩:=F3
      go_simp
      have HR4:=Lib.hid (HR3.out.set_ (i:=3) (u:=.slice (some ⟨g,0,none⟩) (ln + 1) cap) h1 H2.out)
      refine hK _ _ ?_
      clear hK K
      try simp only [Act.put,p1,p2,p3,p4,p5,p6]
      refine wpAny_done (by kernel_rfl) ?_ _
      go_wp2_with fail
      first
       | go_end0
       | go_ret
       | refine bodyPost_ret (results_none rfl _ _ _) rfl ?_
      refine ⟨rfl,h1,fun x hx => H2.out x (List.mem_cons_of_mem _ hx),la2,lc2,.slice (some ⟨g,0,none⟩) (ln + 1) cap,HT.out,?_⟩
      have h9:=HR4.out
      simp only [Q.put,ndCells_snoc,List.length_append,List.length_singleton,HLN.out]
      exact h9.drop _ (by intro z hz; simp at hz ⊢; rcases hz with h | h <;> simp [h])
  ·go_simp
   refine hK _ _ ?_
   clear hK K
   try simp only [Act.put,p1,p2,p3,p4,p5,p6]
   refine wpAny_ready (rs:=[4]) (by kernel_rfl) (by simp) ?_
   refine (AllReady.cons rfl (fun K hK => ?_) AllReady.nil)
   ·go_simp
    refine hK _ _ ?_
    clear hK K
    try simp only [Act.put,p1,p2,p3,p4,p5,p6]
    refine wpAny_ready (rs:=[10]) (by kernel_rfl) (by simp) ?_
    refine (AllReady.cons rfl (fun K hK => ?_) AllReady.nil)
    ·refine step_append_lies _ (by rfl) _ _ _ (by rfl) w1.heap.size 32 i0 _ 11 96 Tryz.underlying22 hi9 hz0 hz1 hz2 rfl (by omega) _ _ _ (by rfl) HR1.out.own ⟨W7.heap.size,0,none⟩ 1 1 [.int .u8 1,.int .u8 1,.int .i64 tn,.string ⟨#[]⟩,.int .i64 0,.int .i64 0,.int .i64 0,.int .i64 0,.int .i64 0,.int .u8 0,.int .i64 0] (by rfl) (by rfl) (World.news_of_block (cs:=#[.int .u8 1,.int .u8 1,.int .i64 tn,.string ⟨#[]⟩,.int .i64 0,.int .i64 0,.int .i64 0,.int .i64 0,.int .i64 0,.int .u8 0,.int .i64 0]) (t:=32) (fr:=(0,0)) (heap_alloc_new _ _)) (by intro u hu; simp at hu; rcases hu with rfl | rfl | rfl | rfl | rfl | rfl | rfl | rfl | rfl | rfl | rfl <;> rfl) (by omega) (by unfold maxLen; omega) (by omega) (by have:=HB0.out.size; simp; omega) (W7.heap.size + 1) (by simp) ?_
     intro g cap w3 hown3 hgrow3 hat3 hlt3
     have HR3:=Lib.hid (HR1.out.appended hown3 hgrow3 (by rw [World.size_alloc]; exact hat3))
     clear hown3 hgrow3 hat3
     refine hK _ _ ?_
     clear hK K
     try simp only [Act.put,p1,p2,p3,p4,p5,p6]
     refine ty (i:=11) rfl ?_
     refine ty (i:=12) rfl ?_
     refine wpAny_ready (rs:=[13]) (by kernel_rfl) (by simp) ?_
     refine (AllReady.cons rfl (fun K hK => ?_) AllReady.nil)
     ·have F3:=HR3.out.ok.sees
      simp only [sees,kBlk,kVar,cellsAt,Nat.reduceAdd] at F3
      obtain ⟨⟨⟨y0,y1⟩,y2,y3,y4,y5,y6,y7,-⟩,-,-⟩:=F3
      go_simp
      have HR4:=Lib.hid (HR3.out.set_ (i:=3) (u:=.slice (some ⟨g,0,none⟩) (ln + 1) cap) h1 H2.out)
      refine hK _ _ ?_
      clear hK K
      try simp only [Act.put,p1,p2,p3,p4,p5,p6]
      refine wpAny_done (by kernel_rfl) ?_ _
      go_wp2_with fail
      first
       | go_end0
       | go_ret
       | refine bodyPost_ret (results_none rfl _ _ _) rfl ?_
      refine ⟨rfl,h1,fun x hx => H2.out x (List.mem_cons_of_mem _ hx),la2,lc2,.slice (some ⟨g,0,none⟩) (ln + 1) cap,HT.out,?_⟩
      have h9:=HR4.out
      simp only [Q.put,ndCells_snoc,List.length_append,List.length_singleton,HLN.out]
      exact h9.drop _ (by intro z hz; simp at hz ⊢; rcases hz with h | h <;> simp [h])
set_option maxRecDepth 100000 in
set_option maxHeartbeats 4000000 in
theorem r_primary_txt (f : Nat) (_IH : ∀ g,g ≤ f → Rc g) (tk : Nat) (tn : Int) (tt : List UInt8) (t1 t2 t3 t4 : Int) (ta : Nat) (w1 : World) (ps : List Pers) (pb : Nat) (S : ByteArray) (all : List Tk) (i : Nat) (ns : List Nd) (a c : Int) (n : Nat) (w : World) (hn : all.length ≤ 1000) (hs : S.size ≤ 4611686018427387904) (hi : i ≤ all.length) (hl : ns.length ≤ i) (_hf : 12 * (all.length - i) + 2 ≤ f + 1) (h : RSt w1 ps pb S all i ns a c w) (ht : hdS S.size (all.drop i) = ⟨tk,tn,tt,⟨t1,t2,t3,t4⟩,ta⟩) (hk : tk = 2) :
  Calls Tryz.prog 135 #[.pointer (some ⟨pb,0,none⟩)] w (RQ w1 ps pb S all (rf S.size all (f + 1) .pr ⟨i,ns,a,c,n⟩)):=by
 have hT0:=ht
 obtain ⟨i0,hi_,hz0,hz1,hz2⟩:=info_parts info_node
 have hi9:=hi_
 clear hi_
 rw [rf_pr1 ht]
 simp only []
 rw [if_pos (by omega)]
 rw [show (ndVal ⟨tk,tn,tt,⟨t1,t2,t3,t4⟩,ta⟩) = (ndVal ⟨2,tn,tt,⟨t1,t2,t3,t4⟩,ta⟩) by rw [hk]]
 have HH:=keep (r_next w1 ps pb S all i ns a c w hn (by omega) hs h)
 rw [ht] at HH
 have H:=Lib.hid h
 have HK:=keep hk
 clear hk h ht hT0 _IH
 go_enter Tryz.func135,Tryz.ntmps135
 go_wp2_with fail
 refine (HH.out).mono ?_
 rintro e wa1 ⟨rfl,hb2⟩
 have H3:=Lib.hid (H.out.below hb2)
 clear hb2 H HH
 simp only [tkA]
 go_upto_region 1 with fail
 have H4 : Hid (RSt w1 (kBlk wa1.heap.size 43 [.int .u8 tk,.int .i64 tn,.string ⟨tt.toArray⟩,.int .i64 t1,.int .i64 t2,.int .i64 t3,.int .i64 t4,.int .i64 ta] :: ps) pb S all i ns a c (wa1.alloc (.cells #[.int .u8 tk,.int .i64 tn,.string ⟨tt.toArray⟩,.int .i64 t1,.int .i64 t2,.int .i64 t3,.int .i64 t4,.int .i64 ta] 43))):=Lib.hid (H3.out.alloc 43 [.int .u8 tk,.int .i64 tn,.string ⟨tt.toArray⟩,.int .i64 t1,.int .i64 t2,.int .i64 t3,.int .i64 t4,.int .i64 ta])
 clear H3
 generalize (wa1.alloc (.cells #[.int .u8 tk,.int .i64 tn,.string ⟨tt.toArray⟩,.int .i64 t1,.int .i64 t2,.int .i64 t3,.int .i64 t4,.int .i64 ta] 43)) = W5 at H4 ⊢
 have hk:=HK.out
 have F6:=H4.out.sees
 simp only [sees,kBlk,cellsAt,Nat.reduceAdd] at F6
 obtain ⟨zp,⟨z0,c0_0,c0_1,c0_2,c0_3,c0_4,c0_5,c0_6,c0_7,-⟩,-⟩:=F6
 obtain ⟨la,lc,tv,-,⟨x0,x1⟩,cc0,cc1,cc2,cc3,cc4,cc5⟩:=H4.out.cells
 go_upto_region 7 with fail
 have HI:=Lib.hid H4.out.inc
 clear H4 x0 x1 cc0 cc1 cc2 cc3 cc4 cc5 c0_0 c0_1 c0_2 c0_3 c0_4 c0_5 c0_6 c0_7 zp z0
 generalize (W5.setCell ⟨pb,2,none⟩ (.int .i64 ((i : Int) + 1))) = W6 at HI ⊢
 obtain ⟨h1,h2,la2,lc2,tv2,hT,hO⟩:=HI.out
 have HT:=keep hT
 have H2:=keep h2
 have HO:=Lib.hid hO
 clear hO hT h2 HI
 obtain ⟨ln,hln⟩ : ∃ ln,ns.length = ln:=⟨_,rfl⟩
 have HLN:=keep hln
 have hln9 : ln ≤ 1001:=by omega
 rw [hln] at HO
 clear hln
 have HR:=Lib.hid HO.out.drew
 have HB0:=Lib.hid HO.out.ok.drew.bel
 clear HO
 refine wp_region_any (by kernel_rfl) ?_
 change wpAny _ _ _ _ _ _ _ W6.drew
 generalize W6.drew = W7 at HR HB0 ⊢
 have F:=HR.out.ok.sees
 simp only [sees,kBlk,kVar,cellsAt,Nat.reduceAdd] at F
 obtain ⟨⟨⟨x0,x1⟩,cc0,cc1,cc2,cc3,cc4,cc5,-⟩,⟨z0,c0_0,c0_1,c0_2,c0_3,c0_4,c0_5,c0_6,c0_7,-⟩,-⟩:=F
 have HR1:=Lib.hid (HR.out.alloc_obj (.cells #[.int .u8 1,.int .u8 3,.int .i64 0,.string ⟨tt.toArray⟩,.int .i64 0,.int .i64 0,.int .i64 0,.int .i64 0,.int .i64 0,.int .u8 0,.int .i64 0] 32))
 refine ty (i:=0) rfl ?_
 refine ty (i:=1) rfl ?_
 refine ty (i:=2) rfl ?_
 refine ty (i:=3) rfl ?_
 refine ty (i:=5) rfl ?_
 refine wpAny_ready (rs:=[4,6]) (by kernel_rfl) (by simp) ?_
 refine (AllReady.cons rfl (fun K hK => ?_) (AllReady.cons rfl (fun K hK => ?_) AllReady.nil))
 ·go_simp
  refine hK _ _ ?_
  clear hK K
  try simp only [Act.put,p1,p2,p3,p4,p5,p6]
  refine wpAny_ready (rs:=[6]) (by kernel_rfl) (by simp) ?_
  refine (AllReady.cons rfl (fun K hK => ?_) AllReady.nil)
  ·go_simp
   refine hK _ _ ?_
   clear hK K
   try simp only [Act.put,p1,p2,p3,p4,p5,p6]
   refine ty (i:=7) rfl ?_
   refine ty (i:=8) rfl ?_
   refine wpAny_ready (rs:=[9]) (by kernel_rfl) (by simp) ?_
   refine (AllReady.cons rfl (fun K hK => ?_) AllReady.nil)
   ·go_simp
    refine hK _ _ ?_
    clear hK K
    try simp only [Act.put,p1,p2,p3,p4,p5,p6]
    refine wpAny_ready (rs:=[10]) (by kernel_rfl) (by simp) ?_
    refine (AllReady.cons rfl (fun K hK => ?_) AllReady.nil)
    ·refine step_append_lies _ (by rfl) _ _ _ (by rfl) w1.heap.size 32 i0 _ 11 96 Tryz.underlying22 hi9 hz0 hz1 hz2 rfl (by omega) _ _ _ (by rfl) HR1.out.own ⟨W7.heap.size,0,none⟩ 1 1 [.int .u8 1,.int .u8 3,.int .i64 0,.string ⟨tt.toArray⟩,.int .i64 0,.int .i64 0,.int .i64 0,.int .i64 0,.int .i64 0,.int .u8 0,.int .i64 0] (by rfl) (by rfl) (World.news_of_block (cs:=#[.int .u8 1,.int .u8 3,.int .i64 0,.string ⟨tt.toArray⟩,.int .i64 0,.int .i64 0,.int .i64 0,.int .i64 0,.int .i64 0,.int .u8 0,.int .i64 0]) (t:=32) (fr:=(0,0)) (heap_alloc_new _ _)) (by intro u hu; simp at hu; rcases hu with rfl | rfl | rfl | rfl | rfl | rfl | rfl | rfl | rfl | rfl | rfl <;> rfl) (by omega) (by unfold maxLen; omega) (by omega) (by have:=HB0.out.size; simp; omega) (W7.heap.size + 1) (by simp) ?_
     intro g cap w3 hown3 hgrow3 hat3 hlt3
     have HR3:=Lib.hid (HR1.out.appended hown3 hgrow3 (by rw [World.size_alloc]; exact hat3))
     clear hown3 hgrow3 hat3
     refine hK _ _ ?_
     clear hK K
     try simp only [Act.put,p1,p2,p3,p4,p5,p6]
     refine ty (i:=11) rfl ?_
     refine ty (i:=12) rfl ?_
     refine wpAny_ready (rs:=[13]) (by kernel_rfl) (by simp) ?_
     refine (AllReady.cons rfl (fun K hK => ?_) AllReady.nil)
     ·have F3:=HR3.out.ok.sees
      simp only [sees,kBlk,kVar,cellsAt,Nat.reduceAdd] at F3
      obtain ⟨⟨⟨y0,y1⟩,y2,y3,y4,y5,y6,y7,-⟩,-,-⟩:=F3
      go_simp
      have HR4:=Lib.hid (HR3.out.set_ (i:=3) (u:=.slice (some ⟨g,0,none⟩) (ln + 1) cap) h1 H2.out)
      refine hK _ _ ?_
      clear hK K
      try simp only [Act.put,p1,p2,p3,p4,p5,p6]
      refine wpAny_done (by kernel_rfl) ?_ _
      go_wp2_with fail
      first
       | go_end0
       | go_ret
       | refine bodyPost_ret (results_none rfl _ _ _) rfl ?_
      refine ⟨rfl,h1,fun x hx => H2.out x (List.mem_cons_of_mem _ hx),la2,lc2,.slice (some ⟨g,0,none⟩) (ln + 1) cap,HT.out,?_⟩
      have h9:=HR4.out
      simp only [Q.put,ndCells_snoc,List.length_append,List.length_singleton,HLN.out]
      exact h9.drop _ (by intro z hz; simp at hz ⊢; rcases hz with h | h <;> simp [h])
 ·go_simp
  refine hK _ _ ?_
  clear hK K
  try simp only [Act.put,p1,p2,p3,p4,p5,p6]
  refine ty (i:=7) rfl ?_
  refine ty (i:=8) rfl ?_
  refine wpAny_ready (rs:=[4,9]) (by kernel_rfl) (by simp) ?_
  refine (AllReady.cons rfl (fun K hK => ?_) (AllReady.cons rfl (fun K hK => ?_) AllReady.nil))
  ·go_simp
   refine hK _ _ ?_
   clear hK K
   try simp only [Act.put,p1,p2,p3,p4,p5,p6]
   refine wpAny_ready (rs:=[9]) (by kernel_rfl) (by simp) ?_
   refine (AllReady.cons rfl (fun K hK => ?_) AllReady.nil)
   ·go_simp
    refine hK _ _ ?_
    clear hK K
    try simp only [Act.put,p1,p2,p3,p4,p5,p6]
    refine wpAny_ready (rs:=[10]) (by kernel_rfl) (by simp) ?_
    refine (AllReady.cons rfl (fun K hK => ?_) AllReady.nil)
    ·refine step_append_lies _ (by rfl) _ _ _ (by rfl) w1.heap.size 32 i0 _ 11 96 Tryz.underlying22 hi9 hz0 hz1 hz2 rfl (by omega) _ _ _ (by rfl) HR1.out.own ⟨W7.heap.size,0,none⟩ 1 1 [.int .u8 1,.int .u8 3,.int .i64 0,.string ⟨tt.toArray⟩,.int .i64 0,.int .i64 0,.int .i64 0,.int .i64 0,.int .i64 0,.int .u8 0,.int .i64 0] (by rfl) (by rfl) (World.news_of_block (cs:=#[.int .u8 1,.int .u8 3,.int .i64 0,.string ⟨tt.toArray⟩,.int .i64 0,.int .i64 0,.int .i64 0,.int .i64 0,.int .i64 0,.int .u8 0,.int .i64 0]) (t:=32) (fr:=(0,0)) (heap_alloc_new _ _)) (by intro u hu; simp at hu; rcases hu with rfl | rfl | rfl | rfl | rfl | rfl | rfl | rfl | rfl | rfl | rfl <;> rfl) (by omega) (by unfold maxLen; omega) (by omega) (by have:=HB0.out.size; simp; omega) (W7.heap.size + 1) (by simp) ?_
     intro g cap w3 hown3 hgrow3 hat3 hlt3
     have HR3:=Lib.hid (HR1.out.appended hown3 hgrow3 (by rw [World.size_alloc]; exact hat3))
     clear hown3 hgrow3 hat3
     refine hK _ _ ?_
     clear hK K
     try simp only [Act.put,p1,p2,p3,p4,p5,p6]
     refine ty (i:=11) rfl ?_
     refine ty (i:=12) rfl ?_
     refine wpAny_ready (rs:=[13]) (by kernel_rfl) (by simp) ?_
     refine (AllReady.cons rfl (fun K hK => ?_) AllReady.nil)
     ·have F3:=HR3.out.ok.sees
      simp only [sees,kBlk,kVar,cellsAt,Nat.reduceAdd] at F3
      obtain ⟨⟨⟨y0,y1⟩,y2,y3,y4,y5,y6,y7,-⟩,-,-⟩:=F3
      go_simp
      have HR4:=Lib.hid (HR3.out.set_ (i:=3) (u:=.slice (some ⟨g,0,none⟩) (ln + 1) cap) h1 H2.out)
      refine hK _ _ ?_
      clear hK K
      try simp only [Act.put,p1,p2,p3,p4,p5,p6]
      refine wpAny_done (by kernel_rfl) ?_ _
      go_wp2_with fail
      first
       | go_end0
       | go_ret
       | refine bodyPost_ret (results_none rfl _ _ _) rfl ?_
      refine ⟨rfl,h1,fun x hx => H2.out x (List.mem_cons_of_mem _ hx),la2,lc2,.slice (some ⟨g,0,none⟩) (ln + 1) cap,HT.out,?_⟩
      have h9:=HR4.out
      simp only [Q.put,ndCells_snoc,List.length_append,List.length_singleton,HLN.out]
      exact h9.drop _ (by intro z hz; simp at hz ⊢; rcases hz with h | h <;> simp [h])
  ·go_simp
   refine hK _ _ ?_
   clear hK K
   try simp only [Act.put,p1,p2,p3,p4,p5,p6]
   refine wpAny_ready (rs:=[4]) (by kernel_rfl) (by simp) ?_
   refine (AllReady.cons rfl (fun K hK => ?_) AllReady.nil)
   ·go_simp
    refine hK _ _ ?_
    clear hK K
    try simp only [Act.put,p1,p2,p3,p4,p5,p6]
    refine wpAny_ready (rs:=[10]) (by kernel_rfl) (by simp) ?_
    refine (AllReady.cons rfl (fun K hK => ?_) AllReady.nil)
    ·refine step_append_lies _ (by rfl) _ _ _ (by rfl) w1.heap.size 32 i0 _ 11 96 Tryz.underlying22 hi9 hz0 hz1 hz2 rfl (by omega) _ _ _ (by rfl) HR1.out.own ⟨W7.heap.size,0,none⟩ 1 1 [.int .u8 1,.int .u8 3,.int .i64 0,.string ⟨tt.toArray⟩,.int .i64 0,.int .i64 0,.int .i64 0,.int .i64 0,.int .i64 0,.int .u8 0,.int .i64 0] (by rfl) (by rfl) (World.news_of_block (cs:=#[.int .u8 1,.int .u8 3,.int .i64 0,.string ⟨tt.toArray⟩,.int .i64 0,.int .i64 0,.int .i64 0,.int .i64 0,.int .i64 0,.int .u8 0,.int .i64 0]) (t:=32) (fr:=(0,0)) (heap_alloc_new _ _)) (by intro u hu; simp at hu; rcases hu with rfl | rfl | rfl | rfl | rfl | rfl | rfl | rfl | rfl | rfl | rfl <;> rfl) (by omega) (by unfold maxLen; omega) (by omega) (by have:=HB0.out.size; simp; omega) (W7.heap.size + 1) (by simp) ?_
     intro g cap w3 hown3 hgrow3 hat3 hlt3
     have HR3:=Lib.hid (HR1.out.appended hown3 hgrow3 (by rw [World.size_alloc]; exact hat3))
     clear hown3 hgrow3 hat3
     refine hK _ _ ?_
     clear hK K
     try simp only [Act.put,p1,p2,p3,p4,p5,p6]
     refine ty (i:=11) rfl ?_
     refine ty (i:=12) rfl ?_
     refine wpAny_ready (rs:=[13]) (by kernel_rfl) (by simp) ?_
     refine (AllReady.cons rfl (fun K hK => ?_) AllReady.nil)
     ·have F3:=HR3.out.ok.sees
      simp only [sees,kBlk,kVar,cellsAt,Nat.reduceAdd] at F3
      obtain ⟨⟨⟨y0,y1⟩,y2,y3,y4,y5,y6,y7,-⟩,-,-⟩:=F3
      go_simp
      have HR4:=Lib.hid (HR3.out.set_ (i:=3) (u:=.slice (some ⟨g,0,none⟩) (ln + 1) cap) h1 H2.out)
      refine hK _ _ ?_
      clear hK K
      try simp only [Act.put,p1,p2,p3,p4,p5,p6]
      refine wpAny_done (by kernel_rfl) ?_ _
      go_wp2_with fail
      first
       | go_end0
       | go_ret
       | refine bodyPost_ret (results_none rfl _ _ _) rfl ?_
      refine ⟨rfl,h1,fun x hx => H2.out x (List.mem_cons_of_mem _ hx),la2,lc2,.slice (some ⟨g,0,none⟩) (ln + 1) cap,HT.out,?_⟩
      have h9:=HR4.out
      simp only [Q.put,ndCells_snoc,List.length_append,List.length_singleton,HLN.out]
      exact h9.drop _ (by intro z hz; simp at hz ⊢; rcases hz with h | h <;> simp [h])
set_option maxRecDepth 100000 in
set_option maxHeartbeats 4000000 in
theorem r_primary_bool (f : Nat) (_IH : ∀ g,g ≤ f → Rc g) (tk : Nat) (tn : Int) (tt : List UInt8) (t1 t2 t3 t4 : Int) (ta : Nat) (w1 : World) (ps : List Pers) (pb : Nat) (S : ByteArray) (all : List Tk) (i : Nat) (ns : List Nd) (a c : Int) (n : Nat) (w : World) (hn : all.length ≤ 1000) (hs : S.size ≤ 4611686018427387904) (hi : i ≤ all.length) (hl : ns.length ≤ i) (_hf : 12 * (all.length - i) + 2 ≤ f + 1) (h : RSt w1 ps pb S all i ns a c w) (ht : hdS S.size (all.drop i) = ⟨tk,tn,tt,⟨t1,t2,t3,t4⟩,ta⟩) (hk : tk = 3) :
  Calls Tryz.prog 135 #[.pointer (some ⟨pb,0,none⟩)] w (RQ w1 ps pb S all (rf S.size all (f + 1) .pr ⟨i,ns,a,c,n⟩)):=by
 have hT0:=ht
 obtain ⟨i0,hi_,hz0,hz1,hz2⟩:=info_parts info_node
 have hi9:=hi_
 clear hi_
 rw [rf_pr1 ht]
 simp only []
 rw [if_pos (by omega)]
 rw [show (ndVal ⟨tk,tn,tt,⟨t1,t2,t3,t4⟩,ta⟩) = (ndVal ⟨3,tn,tt,⟨t1,t2,t3,t4⟩,ta⟩) by rw [hk]]
 have HH:=keep (r_next w1 ps pb S all i ns a c w hn (by omega) hs h)
 rw [ht] at HH
 have H:=Lib.hid h
 have HK:=keep hk
 clear hk h ht hT0 _IH
 go_enter Tryz.func135,Tryz.ntmps135
 go_wp2_with fail
 refine (HH.out).mono ?_
 rintro e wa1 ⟨rfl,hb2⟩
 have H3:=Lib.hid (H.out.below hb2)
 clear hb2 H HH
 simp only [tkA]
 go_upto_region 1 with fail
 have H4 : Hid (RSt w1 (kBlk wa1.heap.size 43 [.int .u8 tk,.int .i64 tn,.string ⟨tt.toArray⟩,.int .i64 t1,.int .i64 t2,.int .i64 t3,.int .i64 t4,.int .i64 ta] :: ps) pb S all i ns a c (wa1.alloc (.cells #[.int .u8 tk,.int .i64 tn,.string ⟨tt.toArray⟩,.int .i64 t1,.int .i64 t2,.int .i64 t3,.int .i64 t4,.int .i64 ta] 43))):=Lib.hid (H3.out.alloc 43 [.int .u8 tk,.int .i64 tn,.string ⟨tt.toArray⟩,.int .i64 t1,.int .i64 t2,.int .i64 t3,.int .i64 t4,.int .i64 ta])
 clear H3
 generalize (wa1.alloc (.cells #[.int .u8 tk,.int .i64 tn,.string ⟨tt.toArray⟩,.int .i64 t1,.int .i64 t2,.int .i64 t3,.int .i64 t4,.int .i64 ta] 43)) = W5 at H4 ⊢
 have hk:=HK.out
 have F6:=H4.out.sees
 simp only [sees,kBlk,cellsAt,Nat.reduceAdd] at F6
 obtain ⟨zp,⟨z0,c0_0,c0_1,c0_2,c0_3,c0_4,c0_5,c0_6,c0_7,-⟩,-⟩:=F6
 obtain ⟨la,lc,tv,-,⟨x0,x1⟩,cc0,cc1,cc2,cc3,cc4,cc5⟩:=H4.out.cells
 go_upto_region 9 with fail
 have HI:=Lib.hid H4.out.inc
 clear H4 x0 x1 cc0 cc1 cc2 cc3 cc4 cc5 c0_0 c0_1 c0_2 c0_3 c0_4 c0_5 c0_6 c0_7 zp z0
 generalize (W5.setCell ⟨pb,2,none⟩ (.int .i64 ((i : Int) + 1))) = W6 at HI ⊢
 obtain ⟨h1,h2,la2,lc2,tv2,hT,hO⟩:=HI.out
 have HT:=keep hT
 have H2:=keep h2
 have HO:=Lib.hid hO
 clear hO hT h2 HI
 obtain ⟨ln,hln⟩ : ∃ ln,ns.length = ln:=⟨_,rfl⟩
 have HLN:=keep hln
 have hln9 : ln ≤ 1001:=by omega
 rw [hln] at HO
 clear hln
 have HR:=Lib.hid HO.out.drew
 have HB0:=Lib.hid HO.out.ok.drew.bel
 clear HO
 refine wp_region_any (by kernel_rfl) ?_
 change wpAny _ _ _ _ _ _ _ W6.drew
 generalize W6.drew = W7 at HR HB0 ⊢
 have F:=HR.out.ok.sees
 simp only [sees,kBlk,kVar,cellsAt,Nat.reduceAdd] at F
 obtain ⟨⟨⟨x0,x1⟩,cc0,cc1,cc2,cc3,cc4,cc5,-⟩,⟨z0,c0_0,c0_1,c0_2,c0_3,c0_4,c0_5,c0_6,c0_7,-⟩,-⟩:=F
 have HR1:=Lib.hid (HR.out.alloc_obj (.cells #[.int .u8 1,.int .u8 2,.int .i64 tn,.string ⟨#[]⟩,.int .i64 0,.int .i64 0,.int .i64 0,.int .i64 0,.int .i64 0,.int .u8 0,.int .i64 0] 32))
 refine ty (i:=0) rfl ?_
 refine ty (i:=1) rfl ?_
 refine ty (i:=2) rfl ?_
 refine ty (i:=3) rfl ?_
 refine ty (i:=5) rfl ?_
 refine wpAny_ready (rs:=[4,6]) (by kernel_rfl) (by simp) ?_
 refine (AllReady.cons rfl (fun K hK => ?_) (AllReady.cons rfl (fun K hK => ?_) AllReady.nil))
 ·go_simp
  refine hK _ _ ?_
  clear hK K
  try simp only [Act.put,p1,p2,p3,p4,p5,p6]
  refine wpAny_ready (rs:=[6]) (by kernel_rfl) (by simp) ?_
  refine (AllReady.cons rfl (fun K hK => ?_) AllReady.nil)
  ·go_simp
   refine hK _ _ ?_
   clear hK K
   try simp only [Act.put,p1,p2,p3,p4,p5,p6]
   refine ty (i:=7) rfl ?_
   refine ty (i:=8) rfl ?_
   refine wpAny_ready (rs:=[9]) (by kernel_rfl) (by simp) ?_
   refine (AllReady.cons rfl (fun K hK => ?_) AllReady.nil)
   ·go_simp
    refine hK _ _ ?_
    clear hK K
    try simp only [Act.put,p1,p2,p3,p4,p5,p6]
    refine wpAny_ready (rs:=[10]) (by kernel_rfl) (by simp) ?_
    refine (AllReady.cons rfl (fun K hK => ?_) AllReady.nil)
    ·refine step_append_lies _ (by rfl) _ _ _ (by rfl) w1.heap.size 32 i0 _ 11 96 Tryz.underlying22 hi9 hz0 hz1 hz2 rfl (by omega) _ _ _ (by rfl) HR1.out.own ⟨W7.heap.size,0,none⟩ 1 1 [.int .u8 1,.int .u8 2,.int .i64 tn,.string ⟨#[]⟩,.int .i64 0,.int .i64 0,.int .i64 0,.int .i64 0,.int .i64 0,.int .u8 0,.int .i64 0] (by rfl) (by rfl) (World.news_of_block (cs:=#[.int .u8 1,.int .u8 2,.int .i64 tn,.string ⟨#[]⟩,.int .i64 0,.int .i64 0,.int .i64 0,.int .i64 0,.int .i64 0,.int .u8 0,.int .i64 0]) (t:=32) (fr:=(0,0)) (heap_alloc_new _ _)) (by intro u hu; simp at hu; rcases hu with rfl | rfl | rfl | rfl | rfl | rfl | rfl | rfl | rfl | rfl | rfl <;> rfl) (by omega) (by unfold maxLen; omega) (by omega) (by have:=HB0.out.size; simp; omega) (W7.heap.size + 1) (by simp) ?_
     intro g cap w3 hown3 hgrow3 hat3 hlt3
     have HR3:=Lib.hid (HR1.out.appended hown3 hgrow3 (by rw [World.size_alloc]; exact hat3))
     clear hown3 hgrow3 hat3
     refine hK _ _ ?_
     clear hK K
     try simp only [Act.put,p1,p2,p3,p4,p5,p6]
     refine ty (i:=11) rfl ?_
     refine ty (i:=12) rfl ?_
     refine wpAny_ready (rs:=[13]) (by kernel_rfl) (by simp) ?_
     refine (AllReady.cons rfl (fun K hK => ?_) AllReady.nil)
     ·have F3:=HR3.out.ok.sees
      simp only [sees,kBlk,kVar,cellsAt,Nat.reduceAdd] at F3
      obtain ⟨⟨⟨y0,y1⟩,y2,y3,y4,y5,y6,y7,-⟩,-,-⟩:=F3
      go_simp
      have HR4:=Lib.hid (HR3.out.set_ (i:=3) (u:=.slice (some ⟨g,0,none⟩) (ln + 1) cap) h1 H2.out)
      refine hK _ _ ?_
      clear hK K
      try simp only [Act.put,p1,p2,p3,p4,p5,p6]
      refine wpAny_done (by kernel_rfl) ?_ _
      go_wp2_with fail
      first
       | go_end0
       | go_ret
       | refine bodyPost_ret (results_none rfl _ _ _) rfl ?_
      refine ⟨rfl,h1,fun x hx => H2.out x (List.mem_cons_of_mem _ hx),la2,lc2,.slice (some ⟨g,0,none⟩) (ln + 1) cap,HT.out,?_⟩
      have h9:=HR4.out
      simp only [Q.put,ndCells_snoc,List.length_append,List.length_singleton,HLN.out]
      exact h9.drop _ (by intro z hz; simp at hz ⊢; rcases hz with h | h <;> simp [h])
 ·go_simp
  refine hK _ _ ?_
  clear hK K
  try simp only [Act.put,p1,p2,p3,p4,p5,p6]
  refine ty (i:=7) rfl ?_
  refine ty (i:=8) rfl ?_
  refine wpAny_ready (rs:=[4,9]) (by kernel_rfl) (by simp) ?_
  refine (AllReady.cons rfl (fun K hK => ?_) (AllReady.cons rfl (fun K hK => ?_) AllReady.nil))
  ·go_simp
   refine hK _ _ ?_
   clear hK K
   try simp only [Act.put,p1,p2,p3,p4,p5,p6]
   refine wpAny_ready (rs:=[9]) (by kernel_rfl) (by simp) ?_
   refine (AllReady.cons rfl (fun K hK => ?_) AllReady.nil)
   ·go_simp
    refine hK _ _ ?_
    clear hK K
    try simp only [Act.put,p1,p2,p3,p4,p5,p6]
    refine wpAny_ready (rs:=[10]) (by kernel_rfl) (by simp) ?_
    refine (AllReady.cons rfl (fun K hK => ?_) AllReady.nil)
    ·refine step_append_lies _ (by rfl) _ _ _ (by rfl) w1.heap.size 32 i0 _ 11 96 Tryz.underlying22 hi9 hz0 hz1 hz2 rfl (by omega) _ _ _ (by rfl) HR1.out.own ⟨W7.heap.size,0,none⟩ 1 1 [.int .u8 1,.int .u8 2,.int .i64 tn,.string ⟨#[]⟩,.int .i64 0,.int .i64 0,.int .i64 0,.int .i64 0,.int .i64 0,.int .u8 0,.int .i64 0] (by rfl) (by rfl) (World.news_of_block (cs:=#[.int .u8 1,.int .u8 2,.int .i64 tn,.string ⟨#[]⟩,.int .i64 0,.int .i64 0,.int .i64 0,.int .i64 0,.int .i64 0,.int .u8 0,.int .i64 0]) (t:=32) (fr:=(0,0)) (heap_alloc_new _ _)) (by intro u hu; simp at hu; rcases hu with rfl | rfl | rfl | rfl | rfl | rfl | rfl | rfl | rfl | rfl | rfl <;> rfl) (by omega) (by unfold maxLen; omega) (by omega) (by have:=HB0.out.size; simp; omega) (W7.heap.size + 1) (by simp) ?_
     intro g cap w3 hown3 hgrow3 hat3 hlt3
     have HR3:=Lib.hid (HR1.out.appended hown3 hgrow3 (by rw [World.size_alloc]; exact hat3))
     clear hown3 hgrow3 hat3
     refine hK _ _ ?_
     clear hK K
     try simp only [Act.put,p1,p2,p3,p4,p5,p6]
     refine ty (i:=11) rfl ?_
     refine ty (i:=12) rfl ?_
     refine wpAny_ready (rs:=[13]) (by kernel_rfl) (by simp) ?_
     refine (AllReady.cons rfl (fun K hK => ?_) AllReady.nil)
     ·have F3:=HR3.out.ok.sees
      simp only [sees,kBlk,kVar,cellsAt,Nat.reduceAdd] at F3
      obtain ⟨⟨⟨y0,y1⟩,y2,y3,y4,y5,y6,y7,-⟩,-,-⟩:=F3
      go_simp
      have HR4:=Lib.hid (HR3.out.set_ (i:=3) (u:=.slice (some ⟨g,0,none⟩) (ln + 1) cap) h1 H2.out)
      refine hK _ _ ?_
      clear hK K
      try simp only [Act.put,p1,p2,p3,p4,p5,p6]
      refine wpAny_done (by kernel_rfl) ?_ _
      go_wp2_with fail
      first
       | go_end0
       | go_ret
       | refine bodyPost_ret (results_none rfl _ _ _) rfl ?_
      refine ⟨rfl,h1,fun x hx => H2.out x (List.mem_cons_of_mem _ hx),la2,lc2,.slice (some ⟨g,0,none⟩) (ln + 1) cap,HT.out,?_⟩
      have h9:=HR4.out
      simp only [Q.put,ndCells_snoc,List.length_append,List.length_singleton,HLN.out]
      exact h9.drop _ (by intro z hz; simp at hz ⊢; rcases hz with h | h <;> simp [h])
  ·go_simp
   refine hK _ _ ?_
   clear hK K
   try simp only [Act.put,p1,p2,p3,p4,p5,p6]
   refine wpAny_ready (rs:=[4]) (by kernel_rfl) (by simp) ?_
   refine (AllReady.cons rfl (fun K hK => ?_) AllReady.nil)
   ·go_simp
    refine hK _ _ ?_
    clear hK K
    try simp only [Act.put,p1,p2,p3,p4,p5,p6]
    refine wpAny_ready (rs:=[10]) (by kernel_rfl) (by simp) ?_
    refine (AllReady.cons rfl (fun K hK => ?_) AllReady.nil)
    ·refine step_append_lies _ (by rfl) _ _ _ (by rfl) w1.heap.size 32 i0 _ 11 96 Tryz.underlying22 hi9 hz0 hz1 hz2 rfl (by omega) _ _ _ (by rfl) HR1.out.own ⟨W7.heap.size,0,none⟩ 1 1 [.int .u8 1,.int .u8 2,.int .i64 tn,.string ⟨#[]⟩,.int .i64 0,.int .i64 0,.int .i64 0,.int .i64 0,.int .i64 0,.int .u8 0,.int .i64 0] (by rfl) (by rfl) (World.news_of_block (cs:=#[.int .u8 1,.int .u8 2,.int .i64 tn,.string ⟨#[]⟩,.int .i64 0,.int .i64 0,.int .i64 0,.int .i64 0,.int .i64 0,.int .u8 0,.int .i64 0]) (t:=32) (fr:=(0,0)) (heap_alloc_new _ _)) (by intro u hu; simp at hu; rcases hu with rfl | rfl | rfl | rfl | rfl | rfl | rfl | rfl | rfl | rfl | rfl <;> rfl) (by omega) (by unfold maxLen; omega) (by omega) (by have:=HB0.out.size; simp; omega) (W7.heap.size + 1) (by simp) ?_
     intro g cap w3 hown3 hgrow3 hat3 hlt3
     have HR3:=Lib.hid (HR1.out.appended hown3 hgrow3 (by rw [World.size_alloc]; exact hat3))
     clear hown3 hgrow3 hat3
     refine hK _ _ ?_
     clear hK K
     try simp only [Act.put,p1,p2,p3,p4,p5,p6]
     refine ty (i:=11) rfl ?_
     refine ty (i:=12) rfl ?_
     refine wpAny_ready (rs:=[13]) (by kernel_rfl) (by simp) ?_
     refine (AllReady.cons rfl (fun K hK => ?_) AllReady.nil)
     ·have F3:=HR3.out.ok.sees
      simp only [sees,kBlk,kVar,cellsAt,Nat.reduceAdd] at F3
      obtain ⟨⟨⟨y0,y1⟩,y2,y3,y4,y5,y6,y7,-⟩,-,-⟩:=F3
      go_simp
      have HR4:=Lib.hid (HR3.out.set_ (i:=3) (u:=.slice (some ⟨g,0,none⟩) (ln + 1) cap) h1 H2.out)
      refine hK _ _ ?_
      clear hK K
      try simp only [Act.put,p1,p2,p3,p4,p5,p6]
      refine wpAny_done (by kernel_rfl) ?_ _
      go_wp2_with fail
      first
       | go_end0
       | go_ret
       | refine bodyPost_ret (results_none rfl _ _ _) rfl ?_
      refine ⟨rfl,h1,fun x hx => H2.out x (List.mem_cons_of_mem _ hx),la2,lc2,.slice (some ⟨g,0,none⟩) (ln + 1) cap,HT.out,?_⟩
      have h9:=HR4.out
      simp only [Q.put,ndCells_snoc,List.length_append,List.length_singleton,HLN.out]
      exact h9.drop _ (by intro z hz; simp at hz ⊢; rcases hz with h | h <;> simp [h])
set_option maxRecDepth 100000 in
set_option maxHeartbeats 4000000 in
theorem r_primary_err (f : Nat) (_IH : ∀ g,g ≤ f → Rc g) (tk : Nat) (tn : Int) (tt : List UInt8) (t1 t2 t3 t4 : Int) (ta : Nat) (w1 : World) (ps : List Pers) (pb : Nat) (S : ByteArray) (all : List Tk) (i : Nat) (ns : List Nd) (a c : Int) (n : Nat) (w : World) (hn : all.length ≤ 1000) (hs : S.size ≤ 4611686018427387904) (hi : i ≤ all.length) (hl : ns.length ≤ i) (_hf : 12 * (all.length - i) + 2 ≤ f + 1) (h : RSt w1 ps pb S all i ns a c w) (ht : hdS S.size (all.drop i) = ⟨tk,tn,tt,⟨t1,t2,t3,t4⟩,ta⟩) (hk : tk = 4) :
  Calls Tryz.prog 135 #[.pointer (some ⟨pb,0,none⟩)] w (RQ w1 ps pb S all (rf S.size all (f + 1) .pr ⟨i,ns,a,c,n⟩)):=by
 have hT0:=ht
 obtain ⟨i0,hi_,hz0,hz1,hz2⟩:=info_parts info_node
 have hi9:=hi_
 clear hi_
 rw [rf_pr1 ht]
 simp only []
 rw [if_pos (by omega)]
 rw [show (ndVal ⟨tk,tn,tt,⟨t1,t2,t3,t4⟩,ta⟩) = (ndVal ⟨4,tn,tt,⟨t1,t2,t3,t4⟩,ta⟩) by rw [hk]]
 have HH:=keep (r_next w1 ps pb S all i ns a c w hn (by omega) hs h)
 rw [ht] at HH
 have H:=Lib.hid h
 have HK:=keep hk
 clear hk h ht hT0 _IH
 go_enter Tryz.func135,Tryz.ntmps135
 go_wp2_with fail
 refine (HH.out).mono ?_
 rintro e wa1 ⟨rfl,hb2⟩
 have H3:=Lib.hid (H.out.below hb2)
 clear hb2 H HH
 simp only [tkA]
 go_upto_region 1 with fail
 have H4 : Hid (RSt w1 (kBlk wa1.heap.size 43 [.int .u8 tk,.int .i64 tn,.string ⟨tt.toArray⟩,.int .i64 t1,.int .i64 t2,.int .i64 t3,.int .i64 t4,.int .i64 ta] :: ps) pb S all i ns a c (wa1.alloc (.cells #[.int .u8 tk,.int .i64 tn,.string ⟨tt.toArray⟩,.int .i64 t1,.int .i64 t2,.int .i64 t3,.int .i64 t4,.int .i64 ta] 43))):=Lib.hid (H3.out.alloc 43 [.int .u8 tk,.int .i64 tn,.string ⟨tt.toArray⟩,.int .i64 t1,.int .i64 t2,.int .i64 t3,.int .i64 t4,.int .i64 ta])
 clear H3
 generalize (wa1.alloc (.cells #[.int .u8 tk,.int .i64 tn,.string ⟨tt.toArray⟩,.int .i64 t1,.int .i64 t2,.int .i64 t3,.int .i64 t4,.int .i64 ta] 43)) = W5 at H4 ⊢
 have hk:=HK.out
 have F6:=H4.out.sees
 simp only [sees,kBlk,cellsAt,Nat.reduceAdd] at F6
 obtain ⟨zp,⟨z0,c0_0,c0_1,c0_2,c0_3,c0_4,c0_5,c0_6,c0_7,-⟩,-⟩:=F6
 obtain ⟨la,lc,tv,-,⟨x0,x1⟩,cc0,cc1,cc2,cc3,cc4,cc5⟩:=H4.out.cells
 go_upto_region 11 with fail
 have HI:=Lib.hid H4.out.inc
 clear H4 x0 x1 cc0 cc1 cc2 cc3 cc4 cc5 c0_0 c0_1 c0_2 c0_3 c0_4 c0_5 c0_6 c0_7 zp z0
 generalize (W5.setCell ⟨pb,2,none⟩ (.int .i64 ((i : Int) + 1))) = W6 at HI ⊢
 obtain ⟨h1,h2,la2,lc2,tv2,hT,hO⟩:=HI.out
 have HT:=keep hT
 have H2:=keep h2
 have HO:=Lib.hid hO
 clear hO hT h2 HI
 obtain ⟨ln,hln⟩ : ∃ ln,ns.length = ln:=⟨_,rfl⟩
 have HLN:=keep hln
 have hln9 : ln ≤ 1001:=by omega
 rw [hln] at HO
 clear hln
 have HR:=Lib.hid HO.out.drew
 have HB0:=Lib.hid HO.out.ok.drew.bel
 clear HO
 refine wp_region_any (by kernel_rfl) ?_
 change wpAny _ _ _ _ _ _ _ W6.drew
 generalize W6.drew = W7 at HR HB0 ⊢
 have F:=HR.out.ok.sees
 simp only [sees,kBlk,kVar,cellsAt,Nat.reduceAdd] at F
 obtain ⟨⟨⟨x0,x1⟩,cc0,cc1,cc2,cc3,cc4,cc5,-⟩,⟨z0,c0_0,c0_1,c0_2,c0_3,c0_4,c0_5,c0_6,c0_7,-⟩,-⟩:=F
 have HR1:=Lib.hid (HR.out.alloc_obj (.cells #[.int .u8 1,.int .u8 4,.int .i64 tn,.string ⟨#[]⟩,.int .i64 0,.int .i64 0,.int .i64 0,.int .i64 0,.int .i64 0,.int .u8 0,.int .i64 0] 32))
 refine ty (i:=0) rfl ?_
 refine ty (i:=1) rfl ?_
 refine ty (i:=2) rfl ?_
 refine ty (i:=3) rfl ?_
 refine ty (i:=5) rfl ?_
 refine wpAny_ready (rs:=[4,6]) (by kernel_rfl) (by simp) ?_
 refine (AllReady.cons rfl (fun K hK => ?_) (AllReady.cons rfl (fun K hK => ?_) AllReady.nil))
 ·go_simp
  refine hK _ _ ?_
  clear hK K
  try simp only [Act.put,p1,p2,p3,p4,p5,p6]
  refine wpAny_ready (rs:=[6]) (by kernel_rfl) (by simp) ?_
  refine (AllReady.cons rfl (fun K hK => ?_) AllReady.nil)
  ·go_simp
   refine hK _ _ ?_
   clear hK K
   try simp only [Act.put,p1,p2,p3,p4,p5,p6]
   refine ty (i:=7) rfl ?_
   refine ty (i:=8) rfl ?_
   refine wpAny_ready (rs:=[9]) (by kernel_rfl) (by simp) ?_
   refine (AllReady.cons rfl (fun K hK => ?_) AllReady.nil)
   ·go_simp
    refine hK _ _ ?_
    clear hK K
    try simp only [Act.put,p1,p2,p3,p4,p5,p6]
    refine wpAny_ready (rs:=[10]) (by kernel_rfl) (by simp) ?_
    refine (AllReady.cons rfl (fun K hK => ?_) AllReady.nil)
    ·refine step_append_lies _ (by rfl) _ _ _ (by rfl) w1.heap.size 32 i0 _ 11 96 Tryz.underlying22 hi9 hz0 hz1 hz2 rfl (by omega) _ _ _ (by rfl) HR1.out.own ⟨W7.heap.size,0,none⟩ 1 1 [.int .u8 1,.int .u8 4,.int .i64 tn,.string ⟨#[]⟩,.int .i64 0,.int .i64 0,.int .i64 0,.int .i64 0,.int .i64 0,.int .u8 0,.int .i64 0] (by rfl) (by rfl) (World.news_of_block (cs:=#[.int .u8 1,.int .u8 4,.int .i64 tn,.string ⟨#[]⟩,.int .i64 0,.int .i64 0,.int .i64 0,.int .i64 0,.int .i64 0,.int .u8 0,.int .i64 0]) (t:=32) (fr:=(0,0)) (heap_alloc_new _ _)) (by intro u hu; simp at hu; rcases hu with rfl | rfl | rfl | rfl | rfl | rfl | rfl | rfl | rfl | rfl | rfl <;> rfl) (by omega) (by unfold maxLen; omega) (by omega) (by have:=HB0.out.size; simp; omega) (W7.heap.size + 1) (by simp) ?_
     intro g cap w3 hown3 hgrow3 hat3 hlt3
     have HR3:=Lib.hid (HR1.out.appended hown3 hgrow3 (by rw [World.size_alloc]; exact hat3))
     clear hown3 hgrow3 hat3
     refine hK _ _ ?_
     clear hK K
     try simp only [Act.put,p1,p2,p3,p4,p5,p6]
     refine ty (i:=11) rfl ?_
     refine ty (i:=12) rfl ?_
     refine wpAny_ready (rs:=[13]) (by kernel_rfl) (by simp) ?_
     refine (AllReady.cons rfl (fun K hK => ?_) AllReady.nil)
     ·have F3:=HR3.out.ok.sees
      simp only [sees,kBlk,kVar,cellsAt,Nat.reduceAdd] at F3
      obtain ⟨⟨⟨y0,y1⟩,y2,y3,y4,y5,y6,y7,-⟩,-,-⟩:=F3
      go_simp
      have HR4:=Lib.hid (HR3.out.set_ (i:=3) (u:=.slice (some ⟨g,0,none⟩) (ln + 1) cap) h1 H2.out)
      refine hK _ _ ?_
      clear hK K
      try simp only [Act.put,p1,p2,p3,p4,p5,p6]
      refine wpAny_done (by kernel_rfl) ?_ _
      go_wp2_with fail
      first
       | go_end0
       | go_ret
       | refine bodyPost_ret (results_none rfl _ _ _) rfl ?_
      refine ⟨rfl,h1,fun x hx => H2.out x (List.mem_cons_of_mem _ hx),la2,lc2,.slice (some ⟨g,0,none⟩) (ln + 1) cap,HT.out,?_⟩
      have h9:=HR4.out
      simp only [Q.put,ndCells_snoc,List.length_append,List.length_singleton,HLN.out]
      exact h9.drop _ (by intro z hz; simp at hz ⊢; rcases hz with h | h <;> simp [h])
 ·go_simp
  refine hK _ _ ?_
  clear hK K
  try simp only [Act.put,p1,p2,p3,p4,p5,p6]
  refine ty (i:=7) rfl ?_
  refine ty (i:=8) rfl ?_
  refine wpAny_ready (rs:=[4,9]) (by kernel_rfl) (by simp) ?_
  refine (AllReady.cons rfl (fun K hK => ?_) (AllReady.cons rfl (fun K hK => ?_) AllReady.nil))
  ·go_simp
   refine hK _ _ ?_
   clear hK K
   try simp only [Act.put,p1,p2,p3,p4,p5,p6]
   refine wpAny_ready (rs:=[9]) (by kernel_rfl) (by simp) ?_
   refine (AllReady.cons rfl (fun K hK => ?_) AllReady.nil)
   ·go_simp
    refine hK _ _ ?_
    clear hK K
    try simp only [Act.put,p1,p2,p3,p4,p5,p6]
    refine wpAny_ready (rs:=[10]) (by kernel_rfl) (by simp) ?_
    refine (AllReady.cons rfl (fun K hK => ?_) AllReady.nil)
    ·refine step_append_lies _ (by rfl) _ _ _ (by rfl) w1.heap.size 32 i0 _ 11 96 Tryz.underlying22 hi9 hz0 hz1 hz2 rfl (by omega) _ _ _ (by rfl) HR1.out.own ⟨W7.heap.size,0,none⟩ 1 1 [.int .u8 1,.int .u8 4,.int .i64 tn,.string ⟨#[]⟩,.int .i64 0,.int .i64 0,.int .i64 0,.int .i64 0,.int .i64 0,.int .u8 0,.int .i64 0] (by rfl) (by rfl) (World.news_of_block (cs:=#[.int .u8 1,.int .u8 4,.int .i64 tn,.string ⟨#[]⟩,.int .i64 0,.int .i64 0,.int .i64 0,.int .i64 0,.int .i64 0,.int .u8 0,.int .i64 0]) (t:=32) (fr:=(0,0)) (heap_alloc_new _ _)) (by intro u hu; simp at hu; rcases hu with rfl | rfl | rfl | rfl | rfl | rfl | rfl | rfl | rfl | rfl | rfl <;> rfl) (by omega) (by unfold maxLen; omega) (by omega) (by have:=HB0.out.size; simp; omega) (W7.heap.size + 1) (by simp) ?_
     intro g cap w3 hown3 hgrow3 hat3 hlt3
     have HR3:=Lib.hid (HR1.out.appended hown3 hgrow3 (by rw [World.size_alloc]; exact hat3))
     clear hown3 hgrow3 hat3
     refine hK _ _ ?_
     clear hK K
     try simp only [Act.put,p1,p2,p3,p4,p5,p6]
     refine ty (i:=11) rfl ?_
     refine ty (i:=12) rfl ?_
     refine wpAny_ready (rs:=[13]) (by kernel_rfl) (by simp) ?_
     refine (AllReady.cons rfl (fun K hK => ?_) AllReady.nil)
     ·have F3:=HR3.out.ok.sees
      simp only [sees,kBlk,kVar,cellsAt,Nat.reduceAdd] at F3
      obtain ⟨⟨⟨y0,y1⟩,y2,y3,y4,y5,y6,y7,-⟩,-,-⟩:=F3
      go_simp
      have HR4:=Lib.hid (HR3.out.set_ (i:=3) (u:=.slice (some ⟨g,0,none⟩) (ln + 1) cap) h1 H2.out)
      refine hK _ _ ?_
      clear hK K
      try simp only [Act.put,p1,p2,p3,p4,p5,p6]
      refine wpAny_done (by kernel_rfl) ?_ _
      go_wp2_with fail
      first
       | go_end0
       | go_ret
       | refine bodyPost_ret (results_none rfl _ _ _) rfl ?_
      refine ⟨rfl,h1,fun x hx => H2.out x (List.mem_cons_of_mem _ hx),la2,lc2,.slice (some ⟨g,0,none⟩) (ln + 1) cap,HT.out,?_⟩
      have h9:=HR4.out
      simp only [Q.put,ndCells_snoc,List.length_append,List.length_singleton,HLN.out]
      exact h9.drop _ (by intro z hz; simp at hz ⊢; rcases hz with h | h <;> simp [h])
  ·go_simp
   refine hK _ _ ?_
   clear hK K
   try simp only [Act.put,p1,p2,p3,p4,p5,p6]
   refine wpAny_ready (rs:=[4]) (by kernel_rfl) (by simp) ?_
   refine (AllReady.cons rfl (fun K hK => ?_) AllReady.nil)
   ·go_simp
    refine hK _ _ ?_
    clear hK K
    try simp only [Act.put,p1,p2,p3,p4,p5,p6]
    refine wpAny_ready (rs:=[10]) (by kernel_rfl) (by simp) ?_
    refine (AllReady.cons rfl (fun K hK => ?_) AllReady.nil)
    ·refine step_append_lies _ (by rfl) _ _ _ (by rfl) w1.heap.size 32 i0 _ 11 96 Tryz.underlying22 hi9 hz0 hz1 hz2 rfl (by omega) _ _ _ (by rfl) HR1.out.own ⟨W7.heap.size,0,none⟩ 1 1 [.int .u8 1,.int .u8 4,.int .i64 tn,.string ⟨#[]⟩,.int .i64 0,.int .i64 0,.int .i64 0,.int .i64 0,.int .i64 0,.int .u8 0,.int .i64 0] (by rfl) (by rfl) (World.news_of_block (cs:=#[.int .u8 1,.int .u8 4,.int .i64 tn,.string ⟨#[]⟩,.int .i64 0,.int .i64 0,.int .i64 0,.int .i64 0,.int .i64 0,.int .u8 0,.int .i64 0]) (t:=32) (fr:=(0,0)) (heap_alloc_new _ _)) (by intro u hu; simp at hu; rcases hu with rfl | rfl | rfl | rfl | rfl | rfl | rfl | rfl | rfl | rfl | rfl <;> rfl) (by omega) (by unfold maxLen; omega) (by omega) (by have:=HB0.out.size; simp; omega) (W7.heap.size + 1) (by simp) ?_
     intro g cap w3 hown3 hgrow3 hat3 hlt3
     have HR3:=Lib.hid (HR1.out.appended hown3 hgrow3 (by rw [World.size_alloc]; exact hat3))
     clear hown3 hgrow3 hat3
     refine hK _ _ ?_
     clear hK K
     try simp only [Act.put,p1,p2,p3,p4,p5,p6]
     refine ty (i:=11) rfl ?_
     refine ty (i:=12) rfl ?_
     refine wpAny_ready (rs:=[13]) (by kernel_rfl) (by simp) ?_
     refine (AllReady.cons rfl (fun K hK => ?_) AllReady.nil)
     ·have F3:=HR3.out.ok.sees
      simp only [sees,kBlk,kVar,cellsAt,Nat.reduceAdd] at F3
      obtain ⟨⟨⟨y0,y1⟩,y2,y3,y4,y5,y6,y7,-⟩,-,-⟩:=F3
      go_simp
      have HR4:=Lib.hid (HR3.out.set_ (i:=3) (u:=.slice (some ⟨g,0,none⟩) (ln + 1) cap) h1 H2.out)
      refine hK _ _ ?_
      clear hK K
      try simp only [Act.put,p1,p2,p3,p4,p5,p6]
      refine wpAny_done (by kernel_rfl) ?_ _
      go_wp2_with fail
      first
       | go_end0
       | go_ret
       | refine bodyPost_ret (results_none rfl _ _ _) rfl ?_
      refine ⟨rfl,h1,fun x hx => H2.out x (List.mem_cons_of_mem _ hx),la2,lc2,.slice (some ⟨g,0,none⟩) (ln + 1) cap,HT.out,?_⟩
      have h9:=HR4.out
      simp only [Q.put,ndCells_snoc,List.length_append,List.length_singleton,HLN.out]
      exact h9.drop _ (by intro z hz; simp at hz ⊢; rcases hz with h | h <;> simp [h])
set_option maxRecDepth 100000 in
set_option maxHeartbeats 4000000 in
theorem r_primary_ref (f : Nat) (_IH : ∀ g,g ≤ f → Rc g) (tk : Nat) (tn : Int) (tt : List UInt8) (t1 t2 t3 t4 : Int) (ta : Nat) (w1 : World) (ps : List Pers) (pb : Nat) (S : ByteArray) (all : List Tk) (i : Nat) (ns : List Nd) (a c : Int) (n : Nat) (w : World) (hn : all.length ≤ 1000) (hs : S.size ≤ 4611686018427387904) (hi : i ≤ all.length) (hl : ns.length ≤ i) (_hf : 12 * (all.length - i) + 2 ≤ f + 1) (h : RSt w1 ps pb S all i ns a c w) (ht : hdS S.size (all.drop i) = ⟨tk,tn,tt,⟨t1,t2,t3,t4⟩,ta⟩) (hk : tk = 5) :
  Calls Tryz.prog 135 #[.pointer (some ⟨pb,0,none⟩)] w (RQ w1 ps pb S all (rf S.size all (f + 1) .pr ⟨i,ns,a,c,n⟩)):=by
 have hT0:=ht
 obtain ⟨i0,hi_,hz0,hz1,hz2⟩:=info_parts info_node
 have hi9:=hi_
 clear hi_
 rw [rf_pr1 ht]
 simp only []
 rw [if_neg (by omega),if_pos hk]
 have HH:=keep (r_next w1 ps pb S all i ns a c w hn (by omega) hs h)
 rw [ht] at HH
 have H:=Lib.hid h
 have HK:=keep hk
 clear hk h ht hT0 _IH
 go_enter Tryz.func135,Tryz.ntmps135
 go_wp2_with fail
 refine (HH.out).mono ?_
 rintro e wa1 ⟨rfl,hb2⟩
 have H3:=Lib.hid (H.out.below hb2)
 clear hb2 H HH
 simp only [tkA]
 go_upto_region 1 with fail
 have H4 : Hid (RSt w1 (kBlk wa1.heap.size 43 [.int .u8 tk,.int .i64 tn,.string ⟨tt.toArray⟩,.int .i64 t1,.int .i64 t2,.int .i64 t3,.int .i64 t4,.int .i64 ta] :: ps) pb S all i ns a c (wa1.alloc (.cells #[.int .u8 tk,.int .i64 tn,.string ⟨tt.toArray⟩,.int .i64 t1,.int .i64 t2,.int .i64 t3,.int .i64 t4,.int .i64 ta] 43))):=Lib.hid (H3.out.alloc 43 [.int .u8 tk,.int .i64 tn,.string ⟨tt.toArray⟩,.int .i64 t1,.int .i64 t2,.int .i64 t3,.int .i64 t4,.int .i64 ta])
 clear H3
 generalize (wa1.alloc (.cells #[.int .u8 tk,.int .i64 tn,.string ⟨tt.toArray⟩,.int .i64 t1,.int .i64 t2,.int .i64 t3,.int .i64 t4,.int .i64 ta] 43)) = W5 at H4 ⊢
 have hk:=HK.out
 have F6:=H4.out.sees
 simp only [sees,kBlk,cellsAt,Nat.reduceAdd] at F6
 obtain ⟨zp,⟨z0,c0_0,c0_1,c0_2,c0_3,c0_4,c0_5,c0_6,c0_7,-⟩,-⟩:=F6
 obtain ⟨la,lc,tv,-,⟨x0,x1⟩,cc0,cc1,cc2,cc3,cc4,cc5⟩:=H4.out.cells
 go_upto_region 13 with fail
 have HI:=Lib.hid H4.out.inc
 clear H4 x0 x1 cc0 cc1 cc2 cc3 cc4 cc5 c0_0 c0_1 c0_2 c0_3 c0_4 c0_5 c0_6 c0_7 zp z0
 generalize (W5.setCell ⟨pb,2,none⟩ (.int .i64 ((i : Int) + 1))) = W6 at HI ⊢
 obtain ⟨h1,h2,la2,lc2,tv2,hT,hO⟩:=HI.out
 have HT:=keep hT
 have H2:=keep h2
 have HO:=Lib.hid hO
 clear hO hT h2 HI
 obtain ⟨ln,hln⟩ : ∃ ln,ns.length = ln:=⟨_,rfl⟩
 have HLN:=keep hln
 have hln9 : ln ≤ 1001:=by omega
 rw [hln] at HO
 clear hln
 have HR:=Lib.hid HO.out.drew
 have HB0:=Lib.hid HO.out.ok.drew.bel
 clear HO
 refine wp_region_any (by kernel_rfl) ?_
 change wpAny _ _ _ _ _ _ _ W6.drew
 generalize W6.drew = W7 at HR HB0 ⊢
 have F:=HR.out.ok.sees
 simp only [sees,kBlk,kVar,cellsAt,Nat.reduceAdd] at F
 obtain ⟨⟨⟨x0,x1⟩,cc0,cc1,cc2,cc3,cc4,cc5,-⟩,⟨z0,c0_0,c0_1,c0_2,c0_3,c0_4,c0_5,c0_6,c0_7,-⟩,-⟩:=F
 have HR1:=Lib.hid (HR.out.alloc_obj (.cells #[.int .u8 2,.int .u8 0,.int .i64 0,.string ⟨#[]⟩,.int .i64 t1,.int .i64 t2,.int .i64 t3,.int .i64 t4,.int .i64 0,.int .u8 0,.int .i64 0] 32))
 refine ty (i:=0) rfl ?_
 refine ty (i:=1) rfl ?_
 refine ty (i:=2) rfl ?_
 refine ty (i:=3) rfl ?_
 refine ty (i:=5) rfl ?_
 refine wpAny_ready (rs:=[4,6]) (by kernel_rfl) (by simp) ?_
 refine (AllReady.cons rfl (fun K hK => ?_) (AllReady.cons rfl (fun K hK => ?_) AllReady.nil))
 ·go_simp
  refine hK _ _ ?_
  clear hK K
  try simp only [Act.put,p1,p2,p3,p4,p5,p6]
  refine wpAny_ready (rs:=[6]) (by kernel_rfl) (by simp) ?_
  refine (AllReady.cons rfl (fun K hK => ?_) AllReady.nil)
  ·go_simp
   refine hK _ _ ?_
   clear hK K
   try simp only [Act.put,p1,p2,p3,p4,p5,p6]
   refine ty (i:=7) rfl ?_
   refine wpAny_ready (rs:=[8]) (by kernel_rfl) (by simp) ?_
   refine (AllReady.cons rfl (fun K hK => ?_) AllReady.nil)
   ·go_simp
    refine hK _ _ ?_
    clear hK K
    try simp only [Act.put,p1,p2,p3,p4,p5,p6]
    refine wpAny_ready (rs:=[9]) (by kernel_rfl) (by simp) ?_
    refine (AllReady.cons rfl (fun K hK => ?_) AllReady.nil)
    ·refine step_append_lies _ (by rfl) _ _ _ (by rfl) w1.heap.size 32 i0 _ 11 96 Tryz.underlying22 hi9 hz0 hz1 hz2 rfl (by omega) _ _ _ (by rfl) HR1.out.own ⟨W7.heap.size,0,none⟩ 1 1 [.int .u8 2,.int .u8 0,.int .i64 0,.string ⟨#[]⟩,.int .i64 t1,.int .i64 t2,.int .i64 t3,.int .i64 t4,.int .i64 0,.int .u8 0,.int .i64 0] (by rfl) (by rfl) (World.news_of_block (cs:=#[.int .u8 2,.int .u8 0,.int .i64 0,.string ⟨#[]⟩,.int .i64 t1,.int .i64 t2,.int .i64 t3,.int .i64 t4,.int .i64 0,.int .u8 0,.int .i64 0]) (t:=32) (fr:=(0,0)) (heap_alloc_new _ _)) (by intro u hu; simp at hu; rcases hu with rfl | rfl | rfl | rfl | rfl | rfl | rfl | rfl | rfl | rfl | rfl <;> rfl) (by omega) (by unfold maxLen; omega) (by omega) (by have:=HB0.out.size; simp; omega) (W7.heap.size + 1) (by simp) ?_
     intro g cap w3 hown3 hgrow3 hat3 hlt3
     have HR3:=Lib.hid (HR1.out.appended hown3 hgrow3 (by rw [World.size_alloc]; exact hat3))
     clear hown3 hgrow3 hat3
     refine hK _ _ ?_
     clear hK K
     try simp only [Act.put,p1,p2,p3,p4,p5,p6]
     refine ty (i:=10) rfl ?_
     refine ty (i:=11) rfl ?_
     refine wpAny_ready (rs:=[12]) (by kernel_rfl) (by simp) ?_
     refine (AllReady.cons rfl (fun K hK => ?_) AllReady.nil)
     ·have F3:=HR3.out.ok.sees
      simp only [sees,kBlk,kVar,cellsAt,Nat.reduceAdd] at F3
      obtain ⟨⟨⟨y0,y1⟩,y2,y3,y4,y5,y6,y7,-⟩,-,-⟩:=F3
      go_simp
      have HR4:=Lib.hid (HR3.out.set_ (i:=3) (u:=.slice (some ⟨g,0,none⟩) (ln + 1) cap) h1 H2.out)
      refine hK _ _ ?_
      clear hK K
      try simp only [Act.put,p1,p2,p3,p4,p5,p6]
      refine wpAny_done (by kernel_rfl) ?_ _
      go_wp2_with fail
      first
       | go_end0
       | go_ret
       | refine bodyPost_ret (results_none rfl _ _ _) rfl ?_
      refine ⟨rfl,h1,fun x hx => H2.out x (List.mem_cons_of_mem _ hx),la2,lc2,.slice (some ⟨g,0,none⟩) (ln + 1) cap,HT.out,?_⟩
      have h9:=HR4.out
      simp only [Q.put,ndCells_snoc,List.length_append,List.length_singleton,HLN.out]
      exact h9.drop _ (by intro z hz; simp at hz ⊢; rcases hz with h | h <;> simp [h])
 ·go_simp
  refine hK _ _ ?_
  clear hK K
  try simp only [Act.put,p1,p2,p3,p4,p5,p6]
  refine ty (i:=7) rfl ?_
  refine wpAny_ready (rs:=[4,8]) (by kernel_rfl) (by simp) ?_
  refine (AllReady.cons rfl (fun K hK => ?_) (AllReady.cons rfl (fun K hK => ?_) AllReady.nil))
  ·go_simp
   refine hK _ _ ?_
   clear hK K
   try simp only [Act.put,p1,p2,p3,p4,p5,p6]
   refine wpAny_ready (rs:=[8]) (by kernel_rfl) (by simp) ?_
   refine (AllReady.cons rfl (fun K hK => ?_) AllReady.nil)
   ·go_simp
    refine hK _ _ ?_
    clear hK K
    try simp only [Act.put,p1,p2,p3,p4,p5,p6]
    refine wpAny_ready (rs:=[9]) (by kernel_rfl) (by simp) ?_
    refine (AllReady.cons rfl (fun K hK => ?_) AllReady.nil)
    ·refine step_append_lies _ (by rfl) _ _ _ (by rfl) w1.heap.size 32 i0 _ 11 96 Tryz.underlying22 hi9 hz0 hz1 hz2 rfl (by omega) _ _ _ (by rfl) HR1.out.own ⟨W7.heap.size,0,none⟩ 1 1 [.int .u8 2,.int .u8 0,.int .i64 0,.string ⟨#[]⟩,.int .i64 t1,.int .i64 t2,.int .i64 t3,.int .i64 t4,.int .i64 0,.int .u8 0,.int .i64 0] (by rfl) (by rfl) (World.news_of_block (cs:=#[.int .u8 2,.int .u8 0,.int .i64 0,.string ⟨#[]⟩,.int .i64 t1,.int .i64 t2,.int .i64 t3,.int .i64 t4,.int .i64 0,.int .u8 0,.int .i64 0]) (t:=32) (fr:=(0,0)) (heap_alloc_new _ _)) (by intro u hu; simp at hu; rcases hu with rfl | rfl | rfl | rfl | rfl | rfl | rfl | rfl | rfl | rfl | rfl <;> rfl) (by omega) (by unfold maxLen; omega) (by omega) (by have:=HB0.out.size; simp; omega) (W7.heap.size + 1) (by simp) ?_
     intro g cap w3 hown3 hgrow3 hat3 hlt3
     have HR3:=Lib.hid (HR1.out.appended hown3 hgrow3 (by rw [World.size_alloc]; exact hat3))
     clear hown3 hgrow3 hat3
     refine hK _ _ ?_
     clear hK K
     try simp only [Act.put,p1,p2,p3,p4,p5,p6]
     refine ty (i:=10) rfl ?_
     refine ty (i:=11) rfl ?_
     refine wpAny_ready (rs:=[12]) (by kernel_rfl) (by simp) ?_
     refine (AllReady.cons rfl (fun K hK => ?_) AllReady.nil)
     ·have F3:=HR3.out.ok.sees
      simp only [sees,kBlk,kVar,cellsAt,Nat.reduceAdd] at F3
      obtain ⟨⟨⟨y0,y1⟩,y2,y3,y4,y5,y6,y7,-⟩,-,-⟩:=F3
      go_simp
      have HR4:=Lib.hid (HR3.out.set_ (i:=3) (u:=.slice (some ⟨g,0,none⟩) (ln + 1) cap) h1 H2.out)
      refine hK _ _ ?_
      clear hK K
      try simp only [Act.put,p1,p2,p3,p4,p5,p6]
      refine wpAny_done (by kernel_rfl) ?_ _
      go_wp2_with fail
      first
       | go_end0
       | go_ret
       | refine bodyPost_ret (results_none rfl _ _ _) rfl ?_
      refine ⟨rfl,h1,fun x hx => H2.out x (List.mem_cons_of_mem _ hx),la2,lc2,.slice (some ⟨g,0,none⟩) (ln + 1) cap,HT.out,?_⟩
      have h9:=HR4.out
      simp only [Q.put,ndCells_snoc,List.length_append,List.length_singleton,HLN.out]
      exact h9.drop _ (by intro z hz; simp at hz ⊢; rcases hz with h | h <;> simp [h])
  ·go_simp
   refine hK _ _ ?_
   clear hK K
   try simp only [Act.put,p1,p2,p3,p4,p5,p6]
   refine wpAny_ready (rs:=[4]) (by kernel_rfl) (by simp) ?_
   refine (AllReady.cons rfl (fun K hK => ?_) AllReady.nil)
   ·go_simp
    refine hK _ _ ?_
    clear hK K
    try simp only [Act.put,p1,p2,p3,p4,p5,p6]
    refine wpAny_ready (rs:=[9]) (by kernel_rfl) (by simp) ?_
    refine (AllReady.cons rfl (fun K hK => ?_) AllReady.nil)
    ·refine step_append_lies _ (by rfl) _ _ _ (by rfl) w1.heap.size 32 i0 _ 11 96 Tryz.underlying22 hi9 hz0 hz1 hz2 rfl (by omega) _ _ _ (by rfl) HR1.out.own ⟨W7.heap.size,0,none⟩ 1 1 [.int .u8 2,.int .u8 0,.int .i64 0,.string ⟨#[]⟩,.int .i64 t1,.int .i64 t2,.int .i64 t3,.int .i64 t4,.int .i64 0,.int .u8 0,.int .i64 0] (by rfl) (by rfl) (World.news_of_block (cs:=#[.int .u8 2,.int .u8 0,.int .i64 0,.string ⟨#[]⟩,.int .i64 t1,.int .i64 t2,.int .i64 t3,.int .i64 t4,.int .i64 0,.int .u8 0,.int .i64 0]) (t:=32) (fr:=(0,0)) (heap_alloc_new _ _)) (by intro u hu; simp at hu; rcases hu with rfl | rfl | rfl | rfl | rfl | rfl | rfl | rfl | rfl | rfl | rfl <;> rfl) (by omega) (by unfold maxLen; omega) (by omega) (by have:=HB0.out.size; simp; omega) (W7.heap.size + 1) (by simp) ?_
     intro g cap w3 hown3 hgrow3 hat3 hlt3
     have HR3:=Lib.hid (HR1.out.appended hown3 hgrow3 (by rw [World.size_alloc]; exact hat3))
     clear hown3 hgrow3 hat3
     refine hK _ _ ?_
     clear hK K
     try simp only [Act.put,p1,p2,p3,p4,p5,p6]
     refine ty (i:=10) rfl ?_
     refine ty (i:=11) rfl ?_
     refine wpAny_ready (rs:=[12]) (by kernel_rfl) (by simp) ?_
     refine (AllReady.cons rfl (fun K hK => ?_) AllReady.nil)
     ·have F3:=HR3.out.ok.sees
      simp only [sees,kBlk,kVar,cellsAt,Nat.reduceAdd] at F3
      obtain ⟨⟨⟨y0,y1⟩,y2,y3,y4,y5,y6,y7,-⟩,-,-⟩:=F3
      go_simp
      have HR4:=Lib.hid (HR3.out.set_ (i:=3) (u:=.slice (some ⟨g,0,none⟩) (ln + 1) cap) h1 H2.out)
      refine hK _ _ ?_
      clear hK K
      try simp only [Act.put,p1,p2,p3,p4,p5,p6]
      refine wpAny_done (by kernel_rfl) ?_ _
      go_wp2_with fail
      first
       | go_end0
       | go_ret
       | refine bodyPost_ret (results_none rfl _ _ _) rfl ?_
      refine ⟨rfl,h1,fun x hx => H2.out x (List.mem_cons_of_mem _ hx),la2,lc2,.slice (some ⟨g,0,none⟩) (ln + 1) cap,HT.out,?_⟩
      have h9:=HR4.out
      simp only [Q.put,ndCells_snoc,List.length_append,List.length_singleton,HLN.out]
      exact h9.drop _ (by intro z hz; simp at hz ⊢; rcases hz with h | h <;> simp [h])
set_option maxRecDepth 100000 in
set_option maxHeartbeats 4000000 in
theorem r_primary_par (f : Nat) (IH : ∀ g,g ≤ f → Rc g) (tk : Nat) (tn : Int) (tt : List UInt8) (t1 t2 t3 t4 : Int) (ta : Nat) (w1 : World) (ps : List Pers) (pb : Nat) (S : ByteArray) (all : List Tk) (i : Nat) (ns : List Nd) (a c : Int) (n : Nat) (w : World) (hn : all.length ≤ 1000) (hs : S.size ≤ 4611686018427387904) (_hi : i ≤ all.length) (hl : ns.length ≤ i) (hf : 12 * (all.length - i) + 2 ≤ f + 1) (h : RSt w1 ps pb S all i ns a c w) (ht : hdS S.size (all.drop i) = ⟨tk,tn,tt,⟨t1,t2,t3,t4⟩,ta⟩) (hk : tk = 9) :
  Calls Tryz.prog 135 #[.pointer (some ⟨pb,0,none⟩)] w (RQ w1 ps pb S all (rf S.size all (f + 1) .pr ⟨i,ns,a,c,n⟩)):=by
 have hT0:=ht
 obtain ⟨i0,hi_,hz0,hz1,hz2⟩:=info_parts info_node
 have hi9:=hi_
 clear hi_
 rw [rf_pr1 ht]
 simp only []
 rw [if_neg (by omega),if_neg (by omega),if_pos hk]
 have hlt : i < all.length:=hd_lt (e:=S.size) (q:=⟨i,ns,a,c,n⟩) (by show (hdS S.size (all.drop i)).kind ≠ 0; rw [hT0]; simp only; omega)
 have hb2:=rf_num (e:=S.size) (all:=all) (f:=f) (m:=(.lv 1)) (q:=⟨i + 1,ns,a,c,n⟩) hn (hlt) (by simp only [Mr.sl]; omega)
 have hc2:=fun qs W (h9 : RSt w1 qs pb S all (i + 1) (ns) (a) (c) W) => IH (f) (Nat.le_refl _) w1 qs pb S all ⟨i + 1,ns,a,c,n⟩ (.lv 1) W hn hs (hlt) (by simp only [Mr.sl]; omega) (by simp only [needR]; omega) h9
 obtain ⟨⟨i2,ns2,a2,c2,n2⟩,hX2⟩ : ∃ q,rf S.size all f (.lv 1) ⟨i + 1,ns,a,c,n⟩ = q:=⟨_,rfl⟩
 rw [hX2] at hb2 hc2
 simp only [Mr.sl] at hb2
 obtain ⟨hb2a,hb2b,hb2c,hb2d⟩:=hb2
 have HC2:=keep hc2
 clear hc2
 rw [hX2]
 clear hX2
 have HH:=keep (r_next w1 ps pb S all i ns a c w hn (by omega) hs h)
 rw [ht] at HH
 have H:=Lib.hid h
 have HK:=keep hk
 clear hk h ht hT0 IH
 go_enter Tryz.func135,Tryz.ntmps135
 go_wp2_with fail
 refine (HH.out).mono ?_
 rintro e wa1 ⟨rfl,hb2⟩
 have H3:=Lib.hid (H.out.below hb2)
 clear hb2 H HH
 simp only [tkA]
 go_upto_region 1 with fail
 have H4 : Hid (RSt w1 (kBlk wa1.heap.size 43 [.int .u8 tk,.int .i64 tn,.string ⟨tt.toArray⟩,.int .i64 t1,.int .i64 t2,.int .i64 t3,.int .i64 t4,.int .i64 ta] :: ps) pb S all i ns a c (wa1.alloc (.cells #[.int .u8 tk,.int .i64 tn,.string ⟨tt.toArray⟩,.int .i64 t1,.int .i64 t2,.int .i64 t3,.int .i64 t4,.int .i64 ta] 43))):=Lib.hid (H3.out.alloc 43 [.int .u8 tk,.int .i64 tn,.string ⟨tt.toArray⟩,.int .i64 t1,.int .i64 t2,.int .i64 t3,.int .i64 t4,.int .i64 ta])
 clear H3
 generalize (wa1.alloc (.cells #[.int .u8 tk,.int .i64 tn,.string ⟨tt.toArray⟩,.int .i64 t1,.int .i64 t2,.int .i64 t3,.int .i64 t4,.int .i64 ta] 43)) = W5 at H4 ⊢
 have hk:=HK.out
 have F6:=H4.out.sees
 simp only [sees,kBlk,cellsAt,Nat.reduceAdd] at F6
 obtain ⟨zp,⟨z0,c0_0,c0_1,c0_2,c0_3,c0_4,c0_5,c0_6,c0_7,-⟩,-⟩:=F6
 obtain ⟨la,lc,tv,-,⟨x0,x1⟩,cc0,cc1,cc2,cc3,cc4,cc5⟩:=H4.out.cells
 go_wp2_with fail
 refine (HC2.out _ _ H4.out.inc (by omega) (by omega)).mono ?_
 rintro e w6 ⟨rfl,hst⟩
 have hst : RSt w1 _ pb S all i2 ns2 a2 c2 w6:=hst
 have HST:=Lib.hid hst
 clear hst HC2 H4 x0 x1 cc0 cc1 cc2 cc3 cc4 cc5 c0_0 c0_1 c0_2 c0_3 c0_4 c0_5 c0_6 c0_7 zp z0
 go_wp2_with fail
 refine (r_want w1 _ pb S all i2 ns2 a2 c2 n2 10 _ hn (by omega) hs HST.out).mono ?_
 rintro e w8 ⟨rfl,hst⟩
 have HST8:=Lib.hid hst
 clear hst HST
 go_wp2_with fail
 first
  | go_end0
  | go_ret
  | refine bodyPost_ret (results_none rfl _ _ _) rfl ?_
 exact ⟨rfl,HST8.out.tail⟩
set_option maxRecDepth 100000 in
set_option maxHeartbeats 4000000 in
theorem r_primary_else (f : Nat) (_IH : ∀ g,g ≤ f → Rc g) (tk : Nat) (tn : Int) (tt : List UInt8) (t1 t2 t3 t4 : Int) (ta : Nat) (w1 : World) (ps : List Pers) (pb : Nat) (S : ByteArray) (all : List Tk) (i : Nat) (ns : List Nd) (a c : Int) (n : Nat) (w : World) (hn : all.length ≤ 1000) (hs : S.size ≤ 4611686018427387904) (hi : i ≤ all.length) (_hl : ns.length ≤ i) (_hf : 12 * (all.length - i) + 2 ≤ f + 1) (h : RSt w1 ps pb S all i ns a c w) (ht : hdS S.size (all.drop i) = ⟨tk,tn,tt,⟨t1,t2,t3,t4⟩,ta⟩) (hk : ¬ (1 ≤ tk ∧ tk ≤ 4) ∧ tk ≠ 5 ∧ tk ≠ 9 ∧ tk ≠ 7) :
  Calls Tryz.prog 135 #[.pointer (some ⟨pb,0,none⟩)] w (RQ w1 ps pb S all (rf S.size all (f + 1) .pr ⟨i,ns,a,c,n⟩)):=by
 have hT0:=ht
 obtain ⟨i0,hi_,hz0,hz1,hz2⟩:=info_parts info_node
 have hi9:=hi_
 clear hi_
 rw [rf_pr1 ht]
 simp only []
 rw [if_neg hk.1,if_neg hk.2.1,if_neg hk.2.2.1,if_neg hk.2.2.2]
 have HH:=keep (r_next w1 ps pb S all i ns a c w hn (by omega) hs h)
 rw [ht] at HH
 have H:=Lib.hid h
 have HK:=keep hk
 clear hk h ht hT0 _IH
 go_enter Tryz.func135,Tryz.ntmps135
 go_wp2_with fail
 refine (HH.out).mono ?_
 rintro e wa1 ⟨rfl,hb2⟩
 have H3:=Lib.hid (H.out.below hb2)
 clear hb2 H HH
 simp only [tkA]
 go_upto_region 1 with fail
 have H4 : Hid (RSt w1 (kBlk wa1.heap.size 43 [.int .u8 tk,.int .i64 tn,.string ⟨tt.toArray⟩,.int .i64 t1,.int .i64 t2,.int .i64 t3,.int .i64 t4,.int .i64 ta] :: ps) pb S all i ns a c (wa1.alloc (.cells #[.int .u8 tk,.int .i64 tn,.string ⟨tt.toArray⟩,.int .i64 t1,.int .i64 t2,.int .i64 t3,.int .i64 t4,.int .i64 ta] 43))):=Lib.hid (H3.out.alloc 43 [.int .u8 tk,.int .i64 tn,.string ⟨tt.toArray⟩,.int .i64 t1,.int .i64 t2,.int .i64 t3,.int .i64 t4,.int .i64 ta])
 clear H3
 generalize (wa1.alloc (.cells #[.int .u8 tk,.int .i64 tn,.string ⟨tt.toArray⟩,.int .i64 t1,.int .i64 t2,.int .i64 t3,.int .i64 t4,.int .i64 ta] 43)) = W5 at H4 ⊢
 have hk:=HK.out
 have F6:=H4.out.sees
 simp only [sees,kBlk,cellsAt,Nat.reduceAdd] at F6
 obtain ⟨zp,⟨z0,c0_0,c0_1,c0_2,c0_3,c0_4,c0_5,c0_6,c0_7,-⟩,-⟩:=F6
 obtain ⟨la,lc,tv,-,⟨x0,x1⟩,cc0,cc1,cc2,cc3,cc4,cc5⟩:=H4.out.cells
 obtain ⟨hk1,hk5,hk9,hk7⟩:=hk
 have e1 : ((tk : Int) == 1) = false:=by simp; omega
 have e2 : ((tk : Int) == 2) = false:=by simp; omega
 have e3 : ((tk : Int) == 3) = false:=by simp; omega
 have e4 : ((tk : Int) == 4) = false:=by simp; omega
 have e5 : ((tk : Int) == 5) = false:=by simp; omega
 have e9 : ((tk : Int) == 9) = false:=by simp; omega
 have e7 : ((tk : Int) == 7) = false:=by simp; omega
 clear hk1 hk5 hk9 hk7
 go_wp2_with fail
 refine (r_fault w1 _ pb S all (i + 1) ns a c _ _ _ H4.out.inc).mono ?_
 rintro e w6 ⟨rfl,hst⟩
 have HST:=Lib.hid hst
 clear hst H4 x0 x1 cc0 cc1 cc2 cc3 cc4 cc5 c0_0 c0_1 c0_2 c0_3 c0_4 c0_5 c0_6 c0_7 zp z0
 go_wp2_with fail
 first
  | go_end0
  | go_ret
  | refine bodyPost_ret (results_none rfl _ _ _) rfl ?_
 exact ⟨rfl,HST.out.tail⟩
end Go.Proofs.YtlngjiibbcgkmaaGreatDoor
