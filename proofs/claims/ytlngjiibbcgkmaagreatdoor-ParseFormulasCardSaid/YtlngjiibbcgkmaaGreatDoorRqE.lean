/- The reference's parser by rf: want, primary. -/
import Derived.Test.YtlngjiibbcgkmaaGreatDoorRqD
import Derived.Test.YtlngjiibbcgkmaaGreatDoorOk
namespace Go.Proofs.YtlngjiibbcgkmaaGreatDoor
open Go.RowKit
set_option maxRecDepth 100000 in
set_option maxHeartbeats 4000000 in
theorem r_primary_num (f : Nat) (_IH : ∀ g,g ≤ f → Rc g) (tk : Nat) (tn : Int) (tt : List UInt8) (t1 t2 t3 t4 : Int) (ta : Nat) (w1 : World) (ps : List Pers) (pb : Nat) (S : ByteArray) (all : List Tk) (i : Nat) (ns : List Nd) (a c : Int) (n : Nat) (w : World) (hn : all.length ≤ 1000) (hs : S.size ≤ 4611686018427387904) (hi : i ≤ all.length) (hl : ns.length ≤ i) (_hf : 12 * (all.length - i) + 2 ≤ f + 1) (h : RSt w1 ps pb S all i ns a c w) (ht : hdS S.size (all.drop i) = ⟨tk,tn,tt,⟨t1,t2,t3,t4⟩,ta⟩) (hk : tk = 1) :
  Calls Tryz.prog 135 #[.pointer (some ⟨pb,0,none⟩)] w (RQ w1 ps pb S all (rf S.size all (f + 1) .pr ⟨i,ns,a,c,n⟩)):=by
 have hT0:=ht
 obtain ⟨i0,hi_,hz0,hz1,hz2⟩:=info_parts info_node
 have hi9:=hi_
 clear hi_
 rw [rf_pr1 ht]
 simp only []
 rw [if_pos (by omega)]
 rw [show (ndVal ⟨tk,tn,tt,⟨t1,t2,t3,t4⟩,ta⟩) = (ndVal ⟨1,tn,tt,⟨t1,t2,t3,t4⟩,ta⟩) by rw [hk]]
 have HH:=keep (r_next w1 ps pb S all i ns a c w hn (by omega) hs h)
 rw [ht] at HH
 have H:=Lib.hid h
 have HK:=keep hk
 clear hk h ht hT0 _IH
 go_enter Tryz.func135,Tryz.ntmps135
 go_wp2_with fail
 refine (HH.out).mono ?_
 rintro e wa1 ⟨rfl,hb2⟩
 have H3:=Lib.hid (H.out.below hb2)
 clear hb2 H HH
 simp only [tkA]
 go_upto_region 1 with fail
 have H4 : Hid (RSt w1 (kBlk wa1.heap.size 43 [.int .u8 tk,.int .i64 tn,.string ⟨tt.toArray⟩,.int .i64 t1,.int .i64 t2,.int .i64 t3,.int .i64 t4,.int .i64 ta] :: ps) pb S all i ns a c (wa1.alloc (.cells #[.int .u8 tk,.int .i64 tn,.string ⟨tt.toArray⟩,.int .i64 t1,.int .i64 t2,.int .i64 t3,.int .i64 t4,.int .i64 ta] 43))):=Lib.hid (H3.out.alloc 43 [.int .u8 tk,.int .i64 tn,.string ⟨tt.toArray⟩,.int .i64 t1,.int .i64 t2,.int .i64 t3,.int .i64 t4,.int .i64 ta])
 clear H3
 generalize (wa1.alloc (.cells #[.int .u8 tk,.int .i64 tn,.string ⟨tt.toArray⟩,.int .i64 t1,.int .i64 t2,.int .i64 t3,.int .i64 t4,.int .i64 ta] 43)) = W5 at H4 ⊢
 have hk:=HK.out
 have F6:=H4.out.sees
 simp only [sees,kBlk,cellsAt,Nat.reduceAdd] at F6
 obtain ⟨zp,⟨z0,c0_0,c0_1,c0_2,c0_3,c0_4,c0_5,c0_6,c0_7,-⟩,-⟩:=F6
 obtain ⟨la,lc,tv,-,⟨x0,x1⟩,cc0,cc1,cc2,cc3,cc4,cc5⟩:=H4.out.cells
 go_upto_region 5 with fail
 have HI:=Lib.hid H4.out.inc
 clear H4 x0 x1 cc0 cc1 cc2 cc3 cc4 cc5 c0_0 c0_1 c0_2 c0_3 c0_4 c0_5 c0_6 c0_7 zp z0
 generalize (W5.setCell ⟨pb,2,none⟩ (.int .i64 ((i : Int) + 1))) = W6 at HI ⊢
 obtain ⟨h1,h2,la2,lc2,tv2,hT,hO⟩:=HI.out
 have HT:=keep hT
 have H2:=keep h2
 have HO:=Lib.hid hO
 clear hO hT h2 HI
 obtain ⟨ln,hln⟩ : ∃ ln,ns.length = ln:=⟨_,rfl⟩
 have HLN:=keep hln
 have hln9 : ln ≤ 1001:=by omega
 rw [hln] at HO
 clear hln
 have HR:=Lib.hid HO.out.drew
 have HB0:=Lib.hid HO.out.ok.drew.bel
 clear HO
 refine wp_region_any (by kernel_rfl) ?_
 change wpAny _ _ _ _ _ _ _ W6.drew
 generalize W6.drew = W7 at HR HB0 ⊢
 have F:=HR.out.ok.sees
 simp only [sees,kBlk,kVar,cellsAt,Nat.reduceAdd] at F
 obtain ⟨⟨⟨x0,x1⟩,cc0,cc1,cc2,cc3,cc4,cc5,-⟩,⟨z0,c0_0,c0_1,c0_2,c0_3,c0_4,c0_5,c0_6,c0_7,-⟩,-⟩:=F
 have HR1:=Lib.hid (HR.out.alloc_obj (.cells #[.int .u8 1,.int .u8 1,.int .i64 tn,.string ⟨#[]⟩,.int .i64 0,.int .i64 0,.int .i64 0,.int .i64 0,.int .i64 0,.int .u8 0,.int .i64 0] 32))
 refine YtlngjiibbcgkmaaGreatDoor.tn (i:=0) (v:=?a1) rfl ?b1 ?c1
 case b1 => (intro w; go_simp; (try rw [if_neg (by omega)]); (try with_reducible rfl))
 try simp only [Act.put,p1,p2,p3,p4,p6]
 refine YtlngjiibbcgkmaaGreatDoor.tn (i:=1) (v:=?a3) rfl ?b3 ?c3
 case b3 => (intro w; go_simp; (try rw [if_neg (by omega)]); (try with_reducible rfl))
 try simp only [Act.put,p1,p2,p3,p4,p5,p6]
 refine YtlngjiibbcgkmaaGreatDoor.tn (i:=2) (v:=?a5) rfl ?b5 ?c5
 case b5 => (intro w; go_simp; (try rw [if_neg (by omega)]); (try with_reducible rfl))
 try simp only [Act.put,p1,p2,p3,p4,p5,p6]
 refine YtlngjiibbcgkmaaGreatDoor.tn (i:=3) (v:=?a7) rfl ?b7 ?c7
 case b7 => (intro w; go_simp; (try rw [if_neg (by omega)]); (try with_reducible rfl))
 try simp only [Act.put,p1,p2,p3,p4,p5,p6]
 refine YtlngjiibbcgkmaaGreatDoor.tn (i:=5) (v:=?a9) rfl ?b9 ?c9
 case b9 => (intro w; go_simp; (try rw [if_neg (by omega)]); (try with_reducible rfl))
 try simp only [Act.put,p1,p2,p3,p4,p5,p6]
 refine wpAny_ready (rs:=[4,6]) (by kernel_rfl) (by simp) ?_
 refine (AllReady.cons rfl (fun K hK => ?_) (AllReady.cons rfl (fun K hK => ?_) AllReady.nil))
 ·go_simp
  refine hK _ _ ?_
  clear hK K
  try simp only [Act.put,p1,p2,p3,p4,p5,p6]
  refine wpAny_ready (rs:=[6]) (by kernel_rfl) (by simp) ?_
  refine (AllReady.cons rfl (fun K hK => ?_) AllReady.nil)
  ·go_simp
   refine hK _ _ ?_
   clear hK K
   try simp only [Act.put,p1,p2,p3,p4,p5,p6]
   refine YtlngjiibbcgkmaaGreatDoor.tn (i:=7) (v:=?a13) rfl ?b13 ?c13
   case b13 => (intro w; go_simp; (try rw [if_neg (by omega)]); (try with_reducible rfl))
   try simp only [Act.put,p1,p2,p3,p4,p5,p6]
   refine YtlngjiibbcgkmaaGreatDoor.tn (i:=8) (v:=?a15) rfl ?b15 ?c15
   case b15 => (intro w; go_simp; (try rw [if_neg (by omega)]); (try with_reducible rfl))
   try simp only [Act.put,p1,p2,p3,p4,p5,p6]
   refine wpAny_ready (rs:=[9]) (by kernel_rfl) (by simp) ?_
   refine (AllReady.cons rfl (fun K hK => ?_) AllReady.nil)
   ·go_simp
    refine hK _ _ ?_
    clear hK K
    try simp only [Act.put,p1,p2,p3,p4,p5,p6]
    refine wpAny_ready (rs:=[10]) (by kernel_rfl) (by simp) ?_
    refine (AllReady.cons rfl (fun K hK => ?_) AllReady.nil)
    ·refine step_append_lies _ (by rfl) _ _ _ (by rfl) w1.heap.size 32 i0 _ 11 96 Tryz.underlying22 hi9 hz0 hz1 hz2 rfl (by omega) _ _ _ (by rfl) HR1.out.own ⟨W7.heap.size,0,none⟩ 1 1 [.int .u8 1,.int .u8 1,.int .i64 tn,.string ⟨#[]⟩,.int .i64 0,.int .i64 0,.int .i64 0,.int .i64 0,.int .i64 0,.int .u8 0,.int .i64 0] (by rfl) (by rfl) (World.news_of_block (cs:=#[.int .u8 1,.int .u8 1,.int .i64 tn,.string ⟨#[]⟩,.int .i64 0,.int .i64 0,.int .i64 0,.int .i64 0,.int .i64 0,.int .u8 0,.int .i64 0]) (t:=32) (fr:=(0,0)) (heap_alloc_new _ _)) (by intro u hu; simp at hu; rcases hu with rfl | rfl | rfl | rfl | rfl | rfl | rfl | rfl | rfl | rfl | rfl <;> rfl) (by omega) (by unfold maxLen; omega) (by omega) (by have:=HB0.out.size; simp; omega) (W7.heap.size + 1) (by simp) ?_
     intro g cap w3 hown3 hgrow3 hat3 hlt3
     have HR3:=Lib.hid (HR1.out.appended hown3 hgrow3 (by rw [World.size_alloc]; exact hat3))
     clear hown3 hgrow3 hat3
     refine hK _ _ ?_
     clear hK K
     try simp only [Act.put,p1,p2,p3,p4,p5,p6]
     refine YtlngjiibbcgkmaaGreatDoor.tn (i:=11) (v:=?a19) rfl ?b19 ?c19
     case b19 => (intro w; go_simp; (try rw [if_neg (by omega)]); (try with_reducible rfl))
     try simp only [Act.put,p1,p2,p3,p4,p5,p6]
     refine YtlngjiibbcgkmaaGreatDoor.tn (i:=12) (v:=?a21) rfl ?b21 ?c21
     case b21 => (intro w; go_simp; (try rw [if_neg (by omega)]); (try with_reducible rfl))
     try simp only [Act.put,p1,p2,p3,p4,p5,p6]
     refine wpAny_ready (rs:=[13]) (by kernel_rfl) (by simp) ?_
     refine (AllReady.cons rfl (fun K hK => ?_) AllReady.nil)
     ·have F3:=HR3.out.ok.sees
      simp only [sees,kBlk,kVar,cellsAt,Nat.reduceAdd] at F3
      obtain ⟨⟨⟨y0,y1⟩,y2,y3,y4,y5,y6,y7,-⟩,-,-⟩:=F3
      go_simp
      have HR4:=Lib.hid (HR3.out.set_ (i:=3) (u:=.slice (some ⟨g,0,none⟩) (ln + 1) cap) h1 H2.out)
      refine hK _ _ ?_
      clear hK K
      try simp only [Act.put,p1,p2,p3,p4,p5,p6]
      refine wpAny_done (by kernel_rfl) ?_ _
      go_wp2_with fail
      first
       | go_end0
       | go_ret
       | refine bodyPost_ret (results_none rfl _ _ _) rfl ?_
      refine ⟨rfl,h1,fun x hx => H2.out x (List.mem_cons_of_mem _ hx),la2,lc2,.slice (some ⟨g,0,none⟩) (ln + 1) cap,HT.out,?_⟩
      have h9:=HR4.out
      simp only [Q.put,ndCells_snoc,List.length_append,List.length_singleton,HLN.out]
      exact h9.drop _ (by intro z hz; simp at hz ⊢; rcases hz with h | h <;> simp [h])
 ·go_simp
  refine hK _ _ ?_
  clear hK K
  try simp only [Act.put,p1,p2,p3,p4,p5,p6]
  refine YtlngjiibbcgkmaaGreatDoor.tn (i:=7) (v:=?a25) rfl ?b25 ?c25
  case b25 => (intro w; go_simp; (try rw [if_neg (by omega)]); (try with_reducible rfl))
  try simp only [Act.put,p1,p2,p3,p4,p5,p6]
  refine YtlngjiibbcgkmaaGreatDoor.tn (i:=8) (v:=?a27) rfl ?b27 ?c27
  case b27 => (intro w; go_simp; (try rw [if_neg (by omega)]); (try with_reducible rfl))
  try simp only [Act.put,p1,p2,p3,p4,p5,p6]
  refine wpAny_ready (rs:=[4,9]) (by kernel_rfl) (by simp) ?_
  refine (AllReady.cons rfl (fun K hK => ?_) (AllReady.cons rfl (fun K hK => ?_) AllReady.nil))
  ·go_simp
   refine hK _ _ ?_
   clear hK K
   try simp only [Act.put,p1,p2,p3,p4,p5,p6]
   refine wpAny_ready (rs:=[9]) (by kernel_rfl) (by simp) ?_
   refine (AllReady.cons rfl (fun K hK => ?_) AllReady.nil)
   ·go_simp
    refine hK _ _ ?_
    clear hK K
    try simp only [Act.put,p1,p2,p3,p4,p5,p6]
    refine wpAny_ready (rs:=[10]) (by kernel_rfl) (by simp) ?_
    refine (AllReady.cons rfl (fun K hK => ?_) AllReady.nil)
    ·refine step_append_lies _ (by rfl) _ _ _ (by rfl) w1.heap.size 32 i0 _ 11 96 Tryz.underlying22 hi9 hz0 hz1 hz2 rfl (by omega) _ _ _ (by rfl) HR1.out.own ⟨W7.heap.size,0,none⟩ 1 1 [.int .u8 1,.int .u8 1,.int .i64 tn,.string ⟨#[]⟩,.int .i64 0,.int .i64 0,.int .i64 0,.int .i64 0,.int .i64 0,.int .u8 0,.int .i64 0] (by rfl) (by rfl) (World.news_of_block (cs:=#[.int .u8 1,.int .u8 1,.int .i64 tn,.string ⟨#[]⟩,.int .i64 0,.int .i64 0,.int .i64 0,.int .i64 0,.int .i64 0,.int .u8 0,.int .i64 0]) (t:=32) (fr:=(0,0)) (heap_alloc_new _ _)) (by intro u hu; simp at hu; rcases hu with rfl | rfl | rfl | rfl | rfl | rfl | rfl | rfl | rfl | rfl | rfl <;> rfl) (by omega) (by unfold maxLen; omega) (by omega) (by have:=HB0.out.size; simp; omega) (W7.heap.size + 1) (by simp) ?_
     intro g cap w3 hown3 hgrow3 hat3 hlt3
     have HR3:=Lib.hid (HR1.out.appended hown3 hgrow3 (by rw [World.size_alloc]; exact hat3))
     clear hown3 hgrow3 hat3
     refine hK _ _ ?_
     clear hK K
     try simp only [Act.put,p1,p2,p3,p4,p5,p6]
     refine YtlngjiibbcgkmaaGreatDoor.tn (i:=11) (v:=?a32) rfl ?b32 ?c32
     case b32 => (intro w; go_simp; (try rw [if_neg (by omega)]); (try with_reducible rfl))
     try simp only [Act.put,p1,p2,p3,p4,p5,p6]
     refine YtlngjiibbcgkmaaGreatDoor.tn (i:=12) (v:=?a34) rfl ?b34 ?c34
     case b34 => (intro w; go_simp; (try rw [if_neg (by omega)]); (try with_reducible rfl))
     try simp only [Act.put,p1,p2,p3,p4,p5,p6]
     refine wpAny_ready (rs:=[13]) (by kernel_rfl) (by simp) ?_
     refine (AllReady.cons rfl (fun K hK => ?_) AllReady.nil)
     ·have F3:=HR3.out.ok.sees
      simp only [sees,kBlk,kVar,cellsAt,Nat.reduceAdd] at F3
      obtain ⟨⟨⟨y0,y1⟩,y2,y3,y4,y5,y6,y7,-⟩,-,-⟩:=F3
      go_simp
      have HR4:=Lib.hid (HR3.out.set_ (i:=3) (u:=.slice (some ⟨g,0,none⟩) (ln + 1) cap) h1 H2.out)
      refine hK _ _ ?_
      clear hK K
      try simp only [Act.put,p1,p2,p3,p4,p5,p6]
      refine wpAny_done (by kernel_rfl) ?_ _
      go_wp2_with fail
      first
       | go_end0
       | go_ret
       | refine bodyPost_ret (results_none rfl _ _ _) rfl ?_
      refine ⟨rfl,h1,fun x hx => H2.out x (List.mem_cons_of_mem _ hx),la2,lc2,.slice (some ⟨g,0,none⟩) (ln + 1) cap,HT.out,?_⟩
      have h9:=HR4.out
      simp only [Q.put,ndCells_snoc,List.length_append,List.length_singleton,HLN.out]
      exact h9.drop _ (by intro z hz; simp at hz ⊢; rcases hz with h | h <;> simp [h])
  ·go_simp
   refine hK _ _ ?_
   clear hK K
   try simp only [Act.put,p1,p2,p3,p4,p5,p6]
   refine wpAny_ready (rs:=[4]) (by kernel_rfl) (by simp) ?_
   refine (AllReady.cons rfl (fun K hK => ?_) AllReady.nil)
   ·go_simp
    refine hK _ _ ?_
    clear hK K
    try simp only [Act.put,p1,p2,p3,p4,p5,p6]
    refine wpAny_ready (rs:=[10]) (by kernel_rfl) (by simp) ?_
    refine (AllReady.cons rfl (fun K hK => ?_) AllReady.nil)
    ·refine step_append_lies _ (by rfl) _ _ _ (by rfl) w1.heap.size 32 i0 _ 11 96 Tryz.underlying22 hi9 hz0 hz1 hz2 rfl (by omega) _ _ _ (by rfl) HR1.out.own ⟨W7.heap.size,0,none⟩ 1 1 [.int .u8 1,.int .u8 1,.int .i64 tn,.string ⟨#[]⟩,.int .i64 0,.int .i64 0,.int .i64 0,.int .i64 0,.int .i64 0,.int .u8 0,.int .i64 0] (by rfl) (by rfl) (World.news_of_block (cs:=#[.int .u8 1,.int .u8 1,.int .i64 tn,.string ⟨#[]⟩,.int .i64 0,.int .i64 0,.int .i64 0,.int .i64 0,.int .i64 0,.int .u8 0,.int .i64 0]) (t:=32) (fr:=(0,0)) (heap_alloc_new _ _)) (by intro u hu; simp at hu; rcases hu with rfl | rfl | rfl | rfl | rfl | rfl | rfl | rfl | rfl | rfl | rfl <;> rfl) (by omega) (by unfold maxLen; omega) (by omega) (by have:=HB0.out.size; simp; omega) (W7.heap.size + 1) (by simp) ?_
     intro g cap w3 hown3 hgrow3 hat3 hlt3
     have HR3:=Lib.hid (HR1.out.appended hown3 hgrow3 (by rw [World.size_alloc]; exact hat3))
     clear hown3 hgrow3 hat3
     refine hK _ _ ?_
     clear hK K
     try simp only [Act.put,p1,p2,p3,p4,p5,p6]
     refine YtlngjiibbcgkmaaGreatDoor.tn (i:=11) (v:=?a40) rfl ?b40 ?c40
     case b40 => (intro w; go_simp; (try rw [if_neg (by omega)]); (try with_reducible rfl))
     try simp only [Act.put,p1,p2,p3,p4,p5,p6]
     refine YtlngjiibbcgkmaaGreatDoor.tn (i:=12) (v:=?a42) rfl ?b42 ?c42
     case b42 => (intro w; go_simp; (try rw [if_neg (by omega)]); (try with_reducible rfl))
     try simp only [Act.put,p1,p2,p3,p4,p5,p6]
     refine wpAny_ready (rs:=[13]) (by kernel_rfl) (by simp) ?_
     refine (AllReady.cons rfl (fun K hK => ?_) AllReady.nil)
     ·have F3:=HR3.out.ok.sees
      simp only [sees,kBlk,kVar,cellsAt,Nat.reduceAdd] at F3
      obtain ⟨⟨⟨y0,y1⟩,y2,y3,y4,y5,y6,y7,-⟩,-,-⟩:=F3
      go_simp
      have HR4:=Lib.hid (HR3.out.set_ (i:=3) (u:=.slice (some ⟨g,0,none⟩) (ln + 1) cap) h1 H2.out)
      refine hK _ _ ?_
      clear hK K
      try simp only [Act.put,p1,p2,p3,p4,p5,p6]
      refine wpAny_done (by kernel_rfl) ?_ _
      go_wp2_with fail
      first
       | go_end0
       | go_ret
       | refine bodyPost_ret (results_none rfl _ _ _) rfl ?_
      refine ⟨rfl,h1,fun x hx => H2.out x (List.mem_cons_of_mem _ hx),la2,lc2,.slice (some ⟨g,0,none⟩) (ln + 1) cap,HT.out,?_⟩
      have h9:=HR4.out
      simp only [Q.put,ndCells_snoc,List.length_append,List.length_singleton,HLN.out]
      exact h9.drop _ (by intro z hz; simp at hz ⊢; rcases hz with h | h <;> simp [h])
set_option maxRecDepth 100000 in
set_option maxHeartbeats 4000000 in
theorem r_primary_txt (f : Nat) (_IH : ∀ g,g ≤ f → Rc g) (tk : Nat) (tn : Int) (tt : List UInt8) (t1 t2 t3 t4 : Int) (ta : Nat) (w1 : World) (ps : List Pers) (pb : Nat) (S : ByteArray) (all : List Tk) (i : Nat) (ns : List Nd) (a c : Int) (n : Nat) (w : World) (hn : all.length ≤ 1000) (hs : S.size ≤ 4611686018427387904) (hi : i ≤ all.length) (hl : ns.length ≤ i) (_hf : 12 * (all.length - i) + 2 ≤ f + 1) (h : RSt w1 ps pb S all i ns a c w) (ht : hdS S.size (all.drop i) = ⟨tk,tn,tt,⟨t1,t2,t3,t4⟩,ta⟩) (hk : tk = 2) :
  Calls Tryz.prog 135 #[.pointer (some ⟨pb,0,none⟩)] w (RQ w1 ps pb S all (rf S.size all (f + 1) .pr ⟨i,ns,a,c,n⟩)):=by
 have hT0:=ht
 obtain ⟨i0,hi_,hz0,hz1,hz2⟩:=info_parts info_node
 have hi9:=hi_
 clear hi_
 rw [rf_pr1 ht]
 simp only []
 rw [if_pos (by omega)]
 rw [show (ndVal ⟨tk,tn,tt,⟨t1,t2,t3,t4⟩,ta⟩) = (ndVal ⟨2,tn,tt,⟨t1,t2,t3,t4⟩,ta⟩) by rw [hk]]
 have HH:=keep (r_next w1 ps pb S all i ns a c w hn (by omega) hs h)
 rw [ht] at HH
 have H:=Lib.hid h
 have HK:=keep hk
 clear hk h ht hT0 _IH
 go_enter Tryz.func135,Tryz.ntmps135
 go_wp2_with fail
 refine (HH.out).mono ?_
 rintro e wa1 ⟨rfl,hb2⟩
 have H3:=Lib.hid (H.out.below hb2)
 clear hb2 H HH
 simp only [tkA]
 go_upto_region 1 with fail
 have H4 : Hid (RSt w1 (kBlk wa1.heap.size 43 [.int .u8 tk,.int .i64 tn,.string ⟨tt.toArray⟩,.int .i64 t1,.int .i64 t2,.int .i64 t3,.int .i64 t4,.int .i64 ta] :: ps) pb S all i ns a c (wa1.alloc (.cells #[.int .u8 tk,.int .i64 tn,.string ⟨tt.toArray⟩,.int .i64 t1,.int .i64 t2,.int .i64 t3,.int .i64 t4,.int .i64 ta] 43))):=Lib.hid (H3.out.alloc 43 [.int .u8 tk,.int .i64 tn,.string ⟨tt.toArray⟩,.int .i64 t1,.int .i64 t2,.int .i64 t3,.int .i64 t4,.int .i64 ta])
 clear H3
 generalize (wa1.alloc (.cells #[.int .u8 tk,.int .i64 tn,.string ⟨tt.toArray⟩,.int .i64 t1,.int .i64 t2,.int .i64 t3,.int .i64 t4,.int .i64 ta] 43)) = W5 at H4 ⊢
 have hk:=HK.out
 have F6:=H4.out.sees
 simp only [sees,kBlk,cellsAt,Nat.reduceAdd] at F6
 obtain ⟨zp,⟨z0,c0_0,c0_1,c0_2,c0_3,c0_4,c0_5,c0_6,c0_7,-⟩,-⟩:=F6
 obtain ⟨la,lc,tv,-,⟨x0,x1⟩,cc0,cc1,cc2,cc3,cc4,cc5⟩:=H4.out.cells
 go_upto_region 7 with fail
 have HI:=Lib.hid H4.out.inc
 clear H4 x0 x1 cc0 cc1 cc2 cc3 cc4 cc5 c0_0 c0_1 c0_2 c0_3 c0_4 c0_5 c0_6 c0_7 zp z0
 generalize (W5.setCell ⟨pb,2,none⟩ (.int .i64 ((i : Int) + 1))) = W6 at HI ⊢
 obtain ⟨h1,h2,la2,lc2,tv2,hT,hO⟩:=HI.out
 have HT:=keep hT
 have H2:=keep h2
 have HO:=Lib.hid hO
 clear hO hT h2 HI
 obtain ⟨ln,hln⟩ : ∃ ln,ns.length = ln:=⟨_,rfl⟩
 have HLN:=keep hln
 have hln9 : ln ≤ 1001:=by omega
 rw [hln] at HO
 clear hln
 have HR:=Lib.hid HO.out.drew
 have HB0:=Lib.hid HO.out.ok.drew.bel
 clear HO
 refine wp_region_any (by kernel_rfl) ?_
 change wpAny _ _ _ _ _ _ _ W6.drew
 generalize W6.drew = W7 at HR HB0 ⊢
 have F:=HR.out.ok.sees
 simp only [sees,kBlk,kVar,cellsAt,Nat.reduceAdd] at F
 obtain ⟨⟨⟨x0,x1⟩,cc0,cc1,cc2,cc3,cc4,cc5,-⟩,⟨z0,c0_0,c0_1,c0_2,c0_3,c0_4,c0_5,c0_6,c0_7,-⟩,-⟩:=F
 have HR1:=Lib.hid (HR.out.alloc_obj (.cells #[.int .u8 1,.int .u8 3,.int .i64 0,.string ⟨tt.toArray⟩,.int .i64 0,.int .i64 0,.int .i64 0,.int .i64 0,.int .i64 0,.int .u8 0,.int .i64 0] 32))
 refine YtlngjiibbcgkmaaGreatDoor.tn (i:=0) (v:=?a45) rfl ?b45 ?c45
 case b45 => (intro w; go_simp; (try rw [if_neg (by omega)]); (try with_reducible rfl))
 try simp only [Act.put,p1,p2,p3,p4,p6]
 refine YtlngjiibbcgkmaaGreatDoor.tn (i:=1) (v:=?a47) rfl ?b47 ?c47
 case b47 => (intro w; go_simp; (try rw [if_neg (by omega)]); (try with_reducible rfl))
 try simp only [Act.put,p1,p2,p3,p4,p5,p6]
 refine YtlngjiibbcgkmaaGreatDoor.tn (i:=2) (v:=?a49) rfl ?b49 ?c49
 case b49 => (intro w; go_simp; (try rw [if_neg (by omega)]); (try with_reducible rfl))
 try simp only [Act.put,p1,p2,p3,p4,p5,p6]
 refine YtlngjiibbcgkmaaGreatDoor.tn (i:=3) (v:=?a51) rfl ?b51 ?c51
 case b51 => (intro w; go_simp; (try rw [if_neg (by omega)]); (try with_reducible rfl))
 try simp only [Act.put,p1,p2,p3,p4,p5,p6]
 refine YtlngjiibbcgkmaaGreatDoor.tn (i:=5) (v:=?a53) rfl ?b53 ?c53
 case b53 => (intro w; go_simp; (try rw [if_neg (by omega)]); (try with_reducible rfl))
 try simp only [Act.put,p1,p2,p3,p4,p5,p6]
 refine wpAny_ready (rs:=[4,6]) (by kernel_rfl) (by simp) ?_
 refine (AllReady.cons rfl (fun K hK => ?_) (AllReady.cons rfl (fun K hK => ?_) AllReady.nil))
 ·go_simp
  refine hK _ _ ?_
  clear hK K
  try simp only [Act.put,p1,p2,p3,p4,p5,p6]
  refine wpAny_ready (rs:=[6]) (by kernel_rfl) (by simp) ?_
  refine (AllReady.cons rfl (fun K hK => ?_) AllReady.nil)
  ·go_simp
   refine hK _ _ ?_
   clear hK K
   try simp only [Act.put,p1,p2,p3,p4,p5,p6]
   refine YtlngjiibbcgkmaaGreatDoor.tn (i:=7) (v:=?a57) rfl ?b57 ?c57
   case b57 => (intro w; go_simp; (try rw [if_neg (by omega)]); (try with_reducible rfl))
   try simp only [Act.put,p1,p2,p3,p4,p5,p6]
   refine YtlngjiibbcgkmaaGreatDoor.tn (i:=8) (v:=?a59) rfl ?b59 ?c59
   case b59 => (intro w; go_simp; (try rw [if_neg (by omega)]); (try with_reducible rfl))
   try simp only [Act.put,p1,p2,p3,p4,p5,p6]
   refine wpAny_ready (rs:=[9]) (by kernel_rfl) (by simp) ?_
   refine (AllReady.cons rfl (fun K hK => ?_) AllReady.nil)
   ·go_simp
    refine hK _ _ ?_
    clear hK K
    try simp only [Act.put,p1,p2,p3,p4,p5,p6]
    refine wpAny_ready (rs:=[10]) (by kernel_rfl) (by simp) ?_
    refine (AllReady.cons rfl (fun K hK => ?_) AllReady.nil)
    ·refine step_append_lies _ (by rfl) _ _ _ (by rfl) w1.heap.size 32 i0 _ 11 96 Tryz.underlying22 hi9 hz0 hz1 hz2 rfl (by omega) _ _ _ (by rfl) HR1.out.own ⟨W7.heap.size,0,none⟩ 1 1 [.int .u8 1,.int .u8 3,.int .i64 0,.string ⟨tt.toArray⟩,.int .i64 0,.int .i64 0,.int .i64 0,.int .i64 0,.int .i64 0,.int .u8 0,.int .i64 0] (by rfl) (by rfl) (World.news_of_block (cs:=#[.int .u8 1,.int .u8 3,.int .i64 0,.string ⟨tt.toArray⟩,.int .i64 0,.int .i64 0,.int .i64 0,.int .i64 0,.int .i64 0,.int .u8 0,.int .i64 0]) (t:=32) (fr:=(0,0)) (heap_alloc_new _ _)) (by intro u hu; simp at hu; rcases hu with rfl | rfl | rfl | rfl | rfl | rfl | rfl | rfl | rfl | rfl | rfl <;> rfl) (by omega) (by unfold maxLen; omega) (by omega) (by have:=HB0.out.size; simp; omega) (W7.heap.size + 1) (by simp) ?_
     intro g cap w3 hown3 hgrow3 hat3 hlt3
     have HR3:=Lib.hid (HR1.out.appended hown3 hgrow3 (by rw [World.size_alloc]; exact hat3))
     clear hown3 hgrow3 hat3
     refine hK _ _ ?_
     clear hK K
     try simp only [Act.put,p1,p2,p3,p4,p5,p6]
     refine YtlngjiibbcgkmaaGreatDoor.tn (i:=11) (v:=?a63) rfl ?b63 ?c63
     case b63 => (intro w; go_simp; (try rw [if_neg (by omega)]); (try with_reducible rfl))
     try simp only [Act.put,p1,p2,p3,p4,p5,p6]
     refine YtlngjiibbcgkmaaGreatDoor.tn (i:=12) (v:=?a65) rfl ?b65 ?c65
     case b65 => (intro w; go_simp; (try rw [if_neg (by omega)]); (try with_reducible rfl))
     try simp only [Act.put,p1,p2,p3,p4,p5,p6]
     refine wpAny_ready (rs:=[13]) (by kernel_rfl) (by simp) ?_
     refine (AllReady.cons rfl (fun K hK => ?_) AllReady.nil)
     ·have F3:=HR3.out.ok.sees
      simp only [sees,kBlk,kVar,cellsAt,Nat.reduceAdd] at F3
      obtain ⟨⟨⟨y0,y1⟩,y2,y3,y4,y5,y6,y7,-⟩,-,-⟩:=F3
      go_simp
      have HR4:=Lib.hid (HR3.out.set_ (i:=3) (u:=.slice (some ⟨g,0,none⟩) (ln + 1) cap) h1 H2.out)
      refine hK _ _ ?_
      clear hK K
      try simp only [Act.put,p1,p2,p3,p4,p5,p6]
      refine wpAny_done (by kernel_rfl) ?_ _
      go_wp2_with fail
      first
       | go_end0
       | go_ret
       | refine bodyPost_ret (results_none rfl _ _ _) rfl ?_
      refine ⟨rfl,h1,fun x hx => H2.out x (List.mem_cons_of_mem _ hx),la2,lc2,.slice (some ⟨g,0,none⟩) (ln + 1) cap,HT.out,?_⟩
      have h9:=HR4.out
      simp only [Q.put,ndCells_snoc,List.length_append,List.length_singleton,HLN.out]
      exact h9.drop _ (by intro z hz; simp at hz ⊢; rcases hz with h | h <;> simp [h])
 ·go_simp
  refine hK _ _ ?_
  clear hK K
  try simp only [Act.put,p1,p2,p3,p4,p5,p6]
  refine YtlngjiibbcgkmaaGreatDoor.tn (i:=7) (v:=?a69) rfl ?b69 ?c69
  case b69 => (intro w; go_simp; (try rw [if_neg (by omega)]); (try with_reducible rfl))
  try simp only [Act.put,p1,p2,p3,p4,p5,p6]
  refine YtlngjiibbcgkmaaGreatDoor.tn (i:=8) (v:=?a71) rfl ?b71 ?c71
  case b71 => (intro w; go_simp; (try rw [if_neg (by omega)]); (try with_reducible rfl))
  try simp only [Act.put,p1,p2,p3,p4,p5,p6]
  refine wpAny_ready (rs:=[4,9]) (by kernel_rfl) (by simp) ?_
  refine (AllReady.cons rfl (fun K hK => ?_) (AllReady.cons rfl (fun K hK => ?_) AllReady.nil))
  ·go_simp
   refine hK _ _ ?_
   clear hK K
   try simp only [Act.put,p1,p2,p3,p4,p5,p6]
   refine wpAny_ready (rs:=[9]) (by kernel_rfl) (by simp) ?_
   refine (AllReady.cons rfl (fun K hK => ?_) AllReady.nil)
   ·go_simp
    refine hK _ _ ?_
    clear hK K
    try simp only [Act.put,p1,p2,p3,p4,p5,p6]
    refine wpAny_ready (rs:=[10]) (by kernel_rfl) (by simp) ?_
    refine (AllReady.cons rfl (fun K hK => ?_) AllReady.nil)
    ·refine step_append_lies _ (by rfl) _ _ _ (by rfl) w1.heap.size 32 i0 _ 11 96 Tryz.underlying22 hi9 hz0 hz1 hz2 rfl (by omega) _ _ _ (by rfl) HR1.out.own ⟨W7.heap.size,0,none⟩ 1 1 [.int .u8 1,.int .u8 3,.int .i64 0,.string ⟨tt.toArray⟩,.int .i64 0,.int .i64 0,.int .i64 0,.int .i64 0,.int .i64 0,.int .u8 0,.int .i64 0] (by rfl) (by rfl) (World.news_of_block (cs:=#[.int .u8 1,.int .u8 3,.int .i64 0,.string ⟨tt.toArray⟩,.int .i64 0,.int .i64 0,.int .i64 0,.int .i64 0,.int .i64 0,.int .u8 0,.int .i64 0]) (t:=32) (fr:=(0,0)) (heap_alloc_new _ _)) (by intro u hu; simp at hu; rcases hu with rfl | rfl | rfl | rfl | rfl | rfl | rfl | rfl | rfl | rfl | rfl <;> rfl) (by omega) (by unfold maxLen; omega) (by omega) (by have:=HB0.out.size; simp; omega) (W7.heap.size + 1) (by simp) ?_
     intro g cap w3 hown3 hgrow3 hat3 hlt3
     have HR3:=Lib.hid (HR1.out.appended hown3 hgrow3 (by rw [World.size_alloc]; exact hat3))
     clear hown3 hgrow3 hat3
     refine hK _ _ ?_
     clear hK K
     try simp only [Act.put,p1,p2,p3,p4,p5,p6]
     refine YtlngjiibbcgkmaaGreatDoor.tn (i:=11) (v:=?a76) rfl ?b76 ?c76
     case b76 => (intro w; go_simp; (try rw [if_neg (by omega)]); (try with_reducible rfl))
     try simp only [Act.put,p1,p2,p3,p4,p5,p6]
     refine YtlngjiibbcgkmaaGreatDoor.tn (i:=12) (v:=?a78) rfl ?b78 ?c78
     case b78 => (intro w; go_simp; (try rw [if_neg (by omega)]); (try with_reducible rfl))
     try simp only [Act.put,p1,p2,p3,p4,p5,p6]
     refine wpAny_ready (rs:=[13]) (by kernel_rfl) (by simp) ?_
     refine (AllReady.cons rfl (fun K hK => ?_) AllReady.nil)
     ·have F3:=HR3.out.ok.sees
      simp only [sees,kBlk,kVar,cellsAt,Nat.reduceAdd] at F3
      obtain ⟨⟨⟨y0,y1⟩,y2,y3,y4,y5,y6,y7,-⟩,-,-⟩:=F3
      go_simp
      have HR4:=Lib.hid (HR3.out.set_ (i:=3) (u:=.slice (some ⟨g,0,none⟩) (ln + 1) cap) h1 H2.out)
      refine hK _ _ ?_
      clear hK K
      try simp only [Act.put,p1,p2,p3,p4,p5,p6]
      refine wpAny_done (by kernel_rfl) ?_ _
      go_wp2_with fail
      first
       | go_end0
       | go_ret
       | refine bodyPost_ret (results_none rfl _ _ _) rfl ?_
      refine ⟨rfl,h1,fun x hx => H2.out x (List.mem_cons_of_mem _ hx),la2,lc2,.slice (some ⟨g,0,none⟩) (ln + 1) cap,HT.out,?_⟩
      have h9:=HR4.out
      simp only [Q.put,ndCells_snoc,List.length_append,List.length_singleton,HLN.out]
      exact h9.drop _ (by intro z hz; simp at hz ⊢; rcases hz with h | h <;> simp [h])
  ·go_simp
   refine hK _ _ ?_
   clear hK K
   try simp only [Act.put,p1,p2,p3,p4,p5,p6]
   refine wpAny_ready (rs:=[4]) (by kernel_rfl) (by simp) ?_
   refine (AllReady.cons rfl (fun K hK => ?_) AllReady.nil)
   ·go_simp
    refine hK _ _ ?_
    clear hK K
    try simp only [Act.put,p1,p2,p3,p4,p5,p6]
    refine wpAny_ready (rs:=[10]) (by kernel_rfl) (by simp) ?_
    refine (AllReady.cons rfl (fun K hK => ?_) AllReady.nil)
    ·refine step_append_lies _ (by rfl) _ _ _ (by rfl) w1.heap.size 32 i0 _ 11 96 Tryz.underlying22 hi9 hz0 hz1 hz2 rfl (by omega) _ _ _ (by rfl) HR1.out.own ⟨W7.heap.size,0,none⟩ 1 1 [.int .u8 1,.int .u8 3,.int .i64 0,.string ⟨tt.toArray⟩,.int .i64 0,.int .i64 0,.int .i64 0,.int .i64 0,.int .i64 0,.int .u8 0,.int .i64 0] (by rfl) (by rfl) (World.news_of_block (cs:=#[.int .u8 1,.int .u8 3,.int .i64 0,.string ⟨tt.toArray⟩,.int .i64 0,.int .i64 0,.int .i64 0,.int .i64 0,.int .i64 0,.int .u8 0,.int .i64 0]) (t:=32) (fr:=(0,0)) (heap_alloc_new _ _)) (by intro u hu; simp at hu; rcases hu with rfl | rfl | rfl | rfl | rfl | rfl | rfl | rfl | rfl | rfl | rfl <;> rfl) (by omega) (by unfold maxLen; omega) (by omega) (by have:=HB0.out.size; simp; omega) (W7.heap.size + 1) (by simp) ?_
     intro g cap w3 hown3 hgrow3 hat3 hlt3
     have HR3:=Lib.hid (HR1.out.appended hown3 hgrow3 (by rw [World.size_alloc]; exact hat3))
     clear hown3 hgrow3 hat3
     refine hK _ _ ?_
     clear hK K
     try simp only [Act.put,p1,p2,p3,p4,p5,p6]
     refine YtlngjiibbcgkmaaGreatDoor.tn (i:=11) (v:=?a84) rfl ?b84 ?c84
     case b84 => (intro w; go_simp; (try rw [if_neg (by omega)]); (try with_reducible rfl))
     try simp only [Act.put,p1,p2,p3,p4,p5,p6]
     refine YtlngjiibbcgkmaaGreatDoor.tn (i:=12) (v:=?a86) rfl ?b86 ?c86
     case b86 => (intro w; go_simp; (try rw [if_neg (by omega)]); (try with_reducible rfl))
     try simp only [Act.put,p1,p2,p3,p4,p5,p6]
     refine wpAny_ready (rs:=[13]) (by kernel_rfl) (by simp) ?_
     refine (AllReady.cons rfl (fun K hK => ?_) AllReady.nil)
     ·have F3:=HR3.out.ok.sees
      simp only [sees,kBlk,kVar,cellsAt,Nat.reduceAdd] at F3
      obtain ⟨⟨⟨y0,y1⟩,y2,y3,y4,y5,y6,y7,-⟩,-,-⟩:=F3
      go_simp
      have HR4:=Lib.hid (HR3.out.set_ (i:=3) (u:=.slice (some ⟨g,0,none⟩) (ln + 1) cap) h1 H2.out)
      refine hK _ _ ?_
      clear hK K
      try simp only [Act.put,p1,p2,p3,p4,p5,p6]
      refine wpAny_done (by kernel_rfl) ?_ _
      go_wp2_with fail
      first
       | go_end0
       | go_ret
       | refine bodyPost_ret (results_none rfl _ _ _) rfl ?_
      refine ⟨rfl,h1,fun x hx => H2.out x (List.mem_cons_of_mem _ hx),la2,lc2,.slice (some ⟨g,0,none⟩) (ln + 1) cap,HT.out,?_⟩
      have h9:=HR4.out
      simp only [Q.put,ndCells_snoc,List.length_append,List.length_singleton,HLN.out]
      exact h9.drop _ (by intro z hz; simp at hz ⊢; rcases hz with h | h <;> simp [h])
set_option maxRecDepth 100000 in
set_option maxHeartbeats 4000000 in
theorem r_primary_bool (f : Nat) (_IH : ∀ g,g ≤ f → Rc g) (tk : Nat) (tn : Int) (tt : List UInt8) (t1 t2 t3 t4 : Int) (ta : Nat) (w1 : World) (ps : List Pers) (pb : Nat) (S : ByteArray) (all : List Tk) (i : Nat) (ns : List Nd) (a c : Int) (n : Nat) (w : World) (hn : all.length ≤ 1000) (hs : S.size ≤ 4611686018427387904) (hi : i ≤ all.length) (hl : ns.length ≤ i) (_hf : 12 * (all.length - i) + 2 ≤ f + 1) (h : RSt w1 ps pb S all i ns a c w) (ht : hdS S.size (all.drop i) = ⟨tk,tn,tt,⟨t1,t2,t3,t4⟩,ta⟩) (hk : tk = 3) :
  Calls Tryz.prog 135 #[.pointer (some ⟨pb,0,none⟩)] w (RQ w1 ps pb S all (rf S.size all (f + 1) .pr ⟨i,ns,a,c,n⟩)):=by
 have hT0:=ht
 obtain ⟨i0,hi_,hz0,hz1,hz2⟩:=info_parts info_node
 have hi9:=hi_
 clear hi_
 rw [rf_pr1 ht]
 simp only []
 rw [if_pos (by omega)]
 rw [show (ndVal ⟨tk,tn,tt,⟨t1,t2,t3,t4⟩,ta⟩) = (ndVal ⟨3,tn,tt,⟨t1,t2,t3,t4⟩,ta⟩) by rw [hk]]
 have HH:=keep (r_next w1 ps pb S all i ns a c w hn (by omega) hs h)
 rw [ht] at HH
 have H:=Lib.hid h
 have HK:=keep hk
 clear hk h ht hT0 _IH
 go_enter Tryz.func135,Tryz.ntmps135
 go_wp2_with fail
 refine (HH.out).mono ?_
 rintro e wa1 ⟨rfl,hb2⟩
 have H3:=Lib.hid (H.out.below hb2)
 clear hb2 H HH
 simp only [tkA]
 go_upto_region 1 with fail
 have H4 : Hid (RSt w1 (kBlk wa1.heap.size 43 [.int .u8 tk,.int .i64 tn,.string ⟨tt.toArray⟩,.int .i64 t1,.int .i64 t2,.int .i64 t3,.int .i64 t4,.int .i64 ta] :: ps) pb S all i ns a c (wa1.alloc (.cells #[.int .u8 tk,.int .i64 tn,.string ⟨tt.toArray⟩,.int .i64 t1,.int .i64 t2,.int .i64 t3,.int .i64 t4,.int .i64 ta] 43))):=Lib.hid (H3.out.alloc 43 [.int .u8 tk,.int .i64 tn,.string ⟨tt.toArray⟩,.int .i64 t1,.int .i64 t2,.int .i64 t3,.int .i64 t4,.int .i64 ta])
 clear H3
 generalize (wa1.alloc (.cells #[.int .u8 tk,.int .i64 tn,.string ⟨tt.toArray⟩,.int .i64 t1,.int .i64 t2,.int .i64 t3,.int .i64 t4,.int .i64 ta] 43)) = W5 at H4 ⊢
 have hk:=HK.out
 have F6:=H4.out.sees
 simp only [sees,kBlk,cellsAt,Nat.reduceAdd] at F6
 obtain ⟨zp,⟨z0,c0_0,c0_1,c0_2,c0_3,c0_4,c0_5,c0_6,c0_7,-⟩,-⟩:=F6
 obtain ⟨la,lc,tv,-,⟨x0,x1⟩,cc0,cc1,cc2,cc3,cc4,cc5⟩:=H4.out.cells
 go_upto_region 9 with fail
 have HI:=Lib.hid H4.out.inc
 clear H4 x0 x1 cc0 cc1 cc2 cc3 cc4 cc5 c0_0 c0_1 c0_2 c0_3 c0_4 c0_5 c0_6 c0_7 zp z0
 generalize (W5.setCell ⟨pb,2,none⟩ (.int .i64 ((i : Int) + 1))) = W6 at HI ⊢
 obtain ⟨h1,h2,la2,lc2,tv2,hT,hO⟩:=HI.out
 have HT:=keep hT
 have H2:=keep h2
 have HO:=Lib.hid hO
 clear hO hT h2 HI
 obtain ⟨ln,hln⟩ : ∃ ln,ns.length = ln:=⟨_,rfl⟩
 have HLN:=keep hln
 have hln9 : ln ≤ 1001:=by omega
 rw [hln] at HO
 clear hln
 have HR:=Lib.hid HO.out.drew
 have HB0:=Lib.hid HO.out.ok.drew.bel
 clear HO
 refine wp_region_any (by kernel_rfl) ?_
 change wpAny _ _ _ _ _ _ _ W6.drew
 generalize W6.drew = W7 at HR HB0 ⊢
 have F:=HR.out.ok.sees
 simp only [sees,kBlk,kVar,cellsAt,Nat.reduceAdd] at F
 obtain ⟨⟨⟨x0,x1⟩,cc0,cc1,cc2,cc3,cc4,cc5,-⟩,⟨z0,c0_0,c0_1,c0_2,c0_3,c0_4,c0_5,c0_6,c0_7,-⟩,-⟩:=F
 have HR1:=Lib.hid (HR.out.alloc_obj (.cells #[.int .u8 1,.int .u8 2,.int .i64 tn,.string ⟨#[]⟩,.int .i64 0,.int .i64 0,.int .i64 0,.int .i64 0,.int .i64 0,.int .u8 0,.int .i64 0] 32))
 refine YtlngjiibbcgkmaaGreatDoor.tn (i:=0) (v:=?a89) rfl ?b89 ?c89
 case b89 => (intro w; go_simp; (try rw [if_neg (by omega)]); (try with_reducible rfl))
 try simp only [Act.put,p1,p2,p3,p4,p6]
 refine YtlngjiibbcgkmaaGreatDoor.tn (i:=1) (v:=?a91) rfl ?b91 ?c91
 case b91 => (intro w; go_simp; (try rw [if_neg (by omega)]); (try with_reducible rfl))
 try simp only [Act.put,p1,p2,p3,p4,p5,p6]
 refine YtlngjiibbcgkmaaGreatDoor.tn (i:=2) (v:=?a93) rfl ?b93 ?c93
 case b93 => (intro w; go_simp; (try rw [if_neg (by omega)]); (try with_reducible rfl))
 try simp only [Act.put,p1,p2,p3,p4,p5,p6]
 refine YtlngjiibbcgkmaaGreatDoor.tn (i:=3) (v:=?a95) rfl ?b95 ?c95
 case b95 => (intro w; go_simp; (try rw [if_neg (by omega)]); (try with_reducible rfl))
 try simp only [Act.put,p1,p2,p3,p4,p5,p6]
 refine YtlngjiibbcgkmaaGreatDoor.tn (i:=5) (v:=?a97) rfl ?b97 ?c97
 case b97 => (intro w; go_simp; (try rw [if_neg (by omega)]); (try with_reducible rfl))
 try simp only [Act.put,p1,p2,p3,p4,p5,p6]
 refine wpAny_ready (rs:=[4,6]) (by kernel_rfl) (by simp) ?_
 refine (AllReady.cons rfl (fun K hK => ?_) (AllReady.cons rfl (fun K hK => ?_) AllReady.nil))
 ·go_simp
  refine hK _ _ ?_
  clear hK K
  try simp only [Act.put,p1,p2,p3,p4,p5,p6]
  refine wpAny_ready (rs:=[6]) (by kernel_rfl) (by simp) ?_
  refine (AllReady.cons rfl (fun K hK => ?_) AllReady.nil)
  ·go_simp
   refine hK _ _ ?_
   clear hK K
   try simp only [Act.put,p1,p2,p3,p4,p5,p6]
   refine YtlngjiibbcgkmaaGreatDoor.tn (i:=7) (v:=?a101) rfl ?b101 ?c101
   case b101 => (intro w; go_simp; (try rw [if_neg (by omega)]); (try with_reducible rfl))
   try simp only [Act.put,p1,p2,p3,p4,p5,p6]
   refine YtlngjiibbcgkmaaGreatDoor.tn (i:=8) (v:=?a103) rfl ?b103 ?c103
   case b103 => (intro w; go_simp; (try rw [if_neg (by omega)]); (try with_reducible rfl))
   try simp only [Act.put,p1,p2,p3,p4,p5,p6]
   refine wpAny_ready (rs:=[9]) (by kernel_rfl) (by simp) ?_
   refine (AllReady.cons rfl (fun K hK => ?_) AllReady.nil)
   ·go_simp
    refine hK _ _ ?_
    clear hK K
    try simp only [Act.put,p1,p2,p3,p4,p5,p6]
    refine wpAny_ready (rs:=[10]) (by kernel_rfl) (by simp) ?_
    refine (AllReady.cons rfl (fun K hK => ?_) AllReady.nil)
    ·refine step_append_lies _ (by rfl) _ _ _ (by rfl) w1.heap.size 32 i0 _ 11 96 Tryz.underlying22 hi9 hz0 hz1 hz2 rfl (by omega) _ _ _ (by rfl) HR1.out.own ⟨W7.heap.size,0,none⟩ 1 1 [.int .u8 1,.int .u8 2,.int .i64 tn,.string ⟨#[]⟩,.int .i64 0,.int .i64 0,.int .i64 0,.int .i64 0,.int .i64 0,.int .u8 0,.int .i64 0] (by rfl) (by rfl) (World.news_of_block (cs:=#[.int .u8 1,.int .u8 2,.int .i64 tn,.string ⟨#[]⟩,.int .i64 0,.int .i64 0,.int .i64 0,.int .i64 0,.int .i64 0,.int .u8 0,.int .i64 0]) (t:=32) (fr:=(0,0)) (heap_alloc_new _ _)) (by intro u hu; simp at hu; rcases hu with rfl | rfl | rfl | rfl | rfl | rfl | rfl | rfl | rfl | rfl | rfl <;> rfl) (by omega) (by unfold maxLen; omega) (by omega) (by have:=HB0.out.size; simp; omega) (W7.heap.size + 1) (by simp) ?_
     intro g cap w3 hown3 hgrow3 hat3 hlt3
     have HR3:=Lib.hid (HR1.out.appended hown3 hgrow3 (by rw [World.size_alloc]; exact hat3))
     clear hown3 hgrow3 hat3
     refine hK _ _ ?_
     clear hK K
     try simp only [Act.put,p1,p2,p3,p4,p5,p6]
     refine YtlngjiibbcgkmaaGreatDoor.tn (i:=11) (v:=?a107) rfl ?b107 ?c107
     case b107 => (intro w; go_simp; (try rw [if_neg (by omega)]); (try with_reducible rfl))
     try simp only [Act.put,p1,p2,p3,p4,p5,p6]
     refine YtlngjiibbcgkmaaGreatDoor.tn (i:=12) (v:=?a109) rfl ?b109 ?c109
     case b109 => (intro w; go_simp; (try rw [if_neg (by omega)]); (try with_reducible rfl))
     try simp only [Act.put,p1,p2,p3,p4,p5,p6]
     refine wpAny_ready (rs:=[13]) (by kernel_rfl) (by simp) ?_
     refine (AllReady.cons rfl (fun K hK => ?_) AllReady.nil)
     ·have F3:=HR3.out.ok.sees
      simp only [sees,kBlk,kVar,cellsAt,Nat.reduceAdd] at F3
      obtain ⟨⟨⟨y0,y1⟩,y2,y3,y4,y5,y6,y7,-⟩,-,-⟩:=F3
      go_simp
      have HR4:=Lib.hid (HR3.out.set_ (i:=3) (u:=.slice (some ⟨g,0,none⟩) (ln + 1) cap) h1 H2.out)
      refine hK _ _ ?_
      clear hK K
      try simp only [Act.put,p1,p2,p3,p4,p5,p6]
      refine wpAny_done (by kernel_rfl) ?_ _
      go_wp2_with fail
      first
       | go_end0
       | go_ret
       | refine bodyPost_ret (results_none rfl _ _ _) rfl ?_
      refine ⟨rfl,h1,fun x hx => H2.out x (List.mem_cons_of_mem _ hx),la2,lc2,.slice (some ⟨g,0,none⟩) (ln + 1) cap,HT.out,?_⟩
      have h9:=HR4.out
      simp only [Q.put,ndCells_snoc,List.length_append,List.length_singleton,HLN.out]
      exact h9.drop _ (by intro z hz; simp at hz ⊢; rcases hz with h | h <;> simp [h])
 ·go_simp
  refine hK _ _ ?_
  clear hK K
  try simp only [Act.put,p1,p2,p3,p4,p5,p6]
  refine YtlngjiibbcgkmaaGreatDoor.tn (i:=7) (v:=?a113) rfl ?b113 ?c113
  case b113 => (intro w; go_simp; (try rw [if_neg (by omega)]); (try with_reducible rfl))
  try simp only [Act.put,p1,p2,p3,p4,p5,p6]
  refine YtlngjiibbcgkmaaGreatDoor.tn (i:=8) (v:=?a115) rfl ?b115 ?c115
  case b115 => (intro w; go_simp; (try rw [if_neg (by omega)]); (try with_reducible rfl))
  try simp only [Act.put,p1,p2,p3,p4,p5,p6]
  refine wpAny_ready (rs:=[4,9]) (by kernel_rfl) (by simp) ?_
  refine (AllReady.cons rfl (fun K hK => ?_) (AllReady.cons rfl (fun K hK => ?_) AllReady.nil))
  ·go_simp
   refine hK _ _ ?_
   clear hK K
   try simp only [Act.put,p1,p2,p3,p4,p5,p6]
   refine wpAny_ready (rs:=[9]) (by kernel_rfl) (by simp) ?_
   refine (AllReady.cons rfl (fun K hK => ?_) AllReady.nil)
   ·go_simp
    refine hK _ _ ?_
    clear hK K
    try simp only [Act.put,p1,p2,p3,p4,p5,p6]
    refine wpAny_ready (rs:=[10]) (by kernel_rfl) (by simp) ?_
    refine (AllReady.cons rfl (fun K hK => ?_) AllReady.nil)
    ·refine step_append_lies _ (by rfl) _ _ _ (by rfl) w1.heap.size 32 i0 _ 11 96 Tryz.underlying22 hi9 hz0 hz1 hz2 rfl (by omega) _ _ _ (by rfl) HR1.out.own ⟨W7.heap.size,0,none⟩ 1 1 [.int .u8 1,.int .u8 2,.int .i64 tn,.string ⟨#[]⟩,.int .i64 0,.int .i64 0,.int .i64 0,.int .i64 0,.int .i64 0,.int .u8 0,.int .i64 0] (by rfl) (by rfl) (World.news_of_block (cs:=#[.int .u8 1,.int .u8 2,.int .i64 tn,.string ⟨#[]⟩,.int .i64 0,.int .i64 0,.int .i64 0,.int .i64 0,.int .i64 0,.int .u8 0,.int .i64 0]) (t:=32) (fr:=(0,0)) (heap_alloc_new _ _)) (by intro u hu; simp at hu; rcases hu with rfl | rfl | rfl | rfl | rfl | rfl | rfl | rfl | rfl | rfl | rfl <;> rfl) (by omega) (by unfold maxLen; omega) (by omega) (by have:=HB0.out.size; simp; omega) (W7.heap.size + 1) (by simp) ?_
     intro g cap w3 hown3 hgrow3 hat3 hlt3
     have HR3:=Lib.hid (HR1.out.appended hown3 hgrow3 (by rw [World.size_alloc]; exact hat3))
     clear hown3 hgrow3 hat3
     refine hK _ _ ?_
     clear hK K
     try simp only [Act.put,p1,p2,p3,p4,p5,p6]
     refine YtlngjiibbcgkmaaGreatDoor.tn (i:=11) (v:=?a120) rfl ?b120 ?c120
     case b120 => (intro w; go_simp; (try rw [if_neg (by omega)]); (try with_reducible rfl))
     try simp only [Act.put,p1,p2,p3,p4,p5,p6]
     refine YtlngjiibbcgkmaaGreatDoor.tn (i:=12) (v:=?a122) rfl ?b122 ?c122
     case b122 => (intro w; go_simp; (try rw [if_neg (by omega)]); (try with_reducible rfl))
     try simp only [Act.put,p1,p2,p3,p4,p5,p6]
     refine wpAny_ready (rs:=[13]) (by kernel_rfl) (by simp) ?_
     refine (AllReady.cons rfl (fun K hK => ?_) AllReady.nil)
     ·have F3:=HR3.out.ok.sees
      simp only [sees,kBlk,kVar,cellsAt,Nat.reduceAdd] at F3
      obtain ⟨⟨⟨y0,y1⟩,y2,y3,y4,y5,y6,y7,-⟩,-,-⟩:=F3
      go_simp
      have HR4:=Lib.hid (HR3.out.set_ (i:=3) (u:=.slice (some ⟨g,0,none⟩) (ln + 1) cap) h1 H2.out)
      refine hK _ _ ?_
      clear hK K
      try simp only [Act.put,p1,p2,p3,p4,p5,p6]
      refine wpAny_done (by kernel_rfl) ?_ _
      go_wp2_with fail
      first
       | go_end0
       | go_ret
       | refine bodyPost_ret (results_none rfl _ _ _) rfl ?_
      refine ⟨rfl,h1,fun x hx => H2.out x (List.mem_cons_of_mem _ hx),la2,lc2,.slice (some ⟨g,0,none⟩) (ln + 1) cap,HT.out,?_⟩
      have h9:=HR4.out
      simp only [Q.put,ndCells_snoc,List.length_append,List.length_singleton,HLN.out]
      exact h9.drop _ (by intro z hz; simp at hz ⊢; rcases hz with h | h <;> simp [h])
  ·go_simp
   refine hK _ _ ?_
   clear hK K
   try simp only [Act.put,p1,p2,p3,p4,p5,p6]
   refine wpAny_ready (rs:=[4]) (by kernel_rfl) (by simp) ?_
   refine (AllReady.cons rfl (fun K hK => ?_) AllReady.nil)
   ·go_simp
    refine hK _ _ ?_
    clear hK K
    try simp only [Act.put,p1,p2,p3,p4,p5,p6]
    refine wpAny_ready (rs:=[10]) (by kernel_rfl) (by simp) ?_
    refine (AllReady.cons rfl (fun K hK => ?_) AllReady.nil)
    ·refine step_append_lies _ (by rfl) _ _ _ (by rfl) w1.heap.size 32 i0 _ 11 96 Tryz.underlying22 hi9 hz0 hz1 hz2 rfl (by omega) _ _ _ (by rfl) HR1.out.own ⟨W7.heap.size,0,none⟩ 1 1 [.int .u8 1,.int .u8 2,.int .i64 tn,.string ⟨#[]⟩,.int .i64 0,.int .i64 0,.int .i64 0,.int .i64 0,.int .i64 0,.int .u8 0,.int .i64 0] (by rfl) (by rfl) (World.news_of_block (cs:=#[.int .u8 1,.int .u8 2,.int .i64 tn,.string ⟨#[]⟩,.int .i64 0,.int .i64 0,.int .i64 0,.int .i64 0,.int .i64 0,.int .u8 0,.int .i64 0]) (t:=32) (fr:=(0,0)) (heap_alloc_new _ _)) (by intro u hu; simp at hu; rcases hu with rfl | rfl | rfl | rfl | rfl | rfl | rfl | rfl | rfl | rfl | rfl <;> rfl) (by omega) (by unfold maxLen; omega) (by omega) (by have:=HB0.out.size; simp; omega) (W7.heap.size + 1) (by simp) ?_
     intro g cap w3 hown3 hgrow3 hat3 hlt3
     have HR3:=Lib.hid (HR1.out.appended hown3 hgrow3 (by rw [World.size_alloc]; exact hat3))
     clear hown3 hgrow3 hat3
     refine hK _ _ ?_
     clear hK K
     try simp only [Act.put,p1,p2,p3,p4,p5,p6]
     refine YtlngjiibbcgkmaaGreatDoor.tn (i:=11) (v:=?a128) rfl ?b128 ?c128
     case b128 => (intro w; go_simp; (try rw [if_neg (by omega)]); (try with_reducible rfl))
     try simp only [Act.put,p1,p2,p3,p4,p5,p6]
     refine YtlngjiibbcgkmaaGreatDoor.tn (i:=12) (v:=?a130) rfl ?b130 ?c130
     case b130 => (intro w; go_simp; (try rw [if_neg (by omega)]); (try with_reducible rfl))
     try simp only [Act.put,p1,p2,p3,p4,p5,p6]
     refine wpAny_ready (rs:=[13]) (by kernel_rfl) (by simp) ?_
     refine (AllReady.cons rfl (fun K hK => ?_) AllReady.nil)
     ·have F3:=HR3.out.ok.sees
      simp only [sees,kBlk,kVar,cellsAt,Nat.reduceAdd] at F3
      obtain ⟨⟨⟨y0,y1⟩,y2,y3,y4,y5,y6,y7,-⟩,-,-⟩:=F3
      go_simp
      have HR4:=Lib.hid (HR3.out.set_ (i:=3) (u:=.slice (some ⟨g,0,none⟩) (ln + 1) cap) h1 H2.out)
      refine hK _ _ ?_
      clear hK K
      try simp only [Act.put,p1,p2,p3,p4,p5,p6]
      refine wpAny_done (by kernel_rfl) ?_ _
      go_wp2_with fail
      first
       | go_end0
       | go_ret
       | refine bodyPost_ret (results_none rfl _ _ _) rfl ?_
      refine ⟨rfl,h1,fun x hx => H2.out x (List.mem_cons_of_mem _ hx),la2,lc2,.slice (some ⟨g,0,none⟩) (ln + 1) cap,HT.out,?_⟩
      have h9:=HR4.out
      simp only [Q.put,ndCells_snoc,List.length_append,List.length_singleton,HLN.out]
      exact h9.drop _ (by intro z hz; simp at hz ⊢; rcases hz with h | h <;> simp [h])
set_option maxRecDepth 100000 in
set_option maxHeartbeats 4000000 in
theorem r_primary_err (f : Nat) (_IH : ∀ g,g ≤ f → Rc g) (tk : Nat) (tn : Int) (tt : List UInt8) (t1 t2 t3 t4 : Int) (ta : Nat) (w1 : World) (ps : List Pers) (pb : Nat) (S : ByteArray) (all : List Tk) (i : Nat) (ns : List Nd) (a c : Int) (n : Nat) (w : World) (hn : all.length ≤ 1000) (hs : S.size ≤ 4611686018427387904) (hi : i ≤ all.length) (hl : ns.length ≤ i) (_hf : 12 * (all.length - i) + 2 ≤ f + 1) (h : RSt w1 ps pb S all i ns a c w) (ht : hdS S.size (all.drop i) = ⟨tk,tn,tt,⟨t1,t2,t3,t4⟩,ta⟩) (hk : tk = 4) :
  Calls Tryz.prog 135 #[.pointer (some ⟨pb,0,none⟩)] w (RQ w1 ps pb S all (rf S.size all (f + 1) .pr ⟨i,ns,a,c,n⟩)):=by
 have hT0:=ht
 obtain ⟨i0,hi_,hz0,hz1,hz2⟩:=info_parts info_node
 have hi9:=hi_
 clear hi_
 rw [rf_pr1 ht]
 simp only []
 rw [if_pos (by omega)]
 rw [show (ndVal ⟨tk,tn,tt,⟨t1,t2,t3,t4⟩,ta⟩) = (ndVal ⟨4,tn,tt,⟨t1,t2,t3,t4⟩,ta⟩) by rw [hk]]
 have HH:=keep (r_next w1 ps pb S all i ns a c w hn (by omega) hs h)
 rw [ht] at HH
 have H:=Lib.hid h
 have HK:=keep hk
 clear hk h ht hT0 _IH
 go_enter Tryz.func135,Tryz.ntmps135
 go_wp2_with fail
 refine (HH.out).mono ?_
 rintro e wa1 ⟨rfl,hb2⟩
 have H3:=Lib.hid (H.out.below hb2)
 clear hb2 H HH
 simp only [tkA]
 go_upto_region 1 with fail
 have H4 : Hid (RSt w1 (kBlk wa1.heap.size 43 [.int .u8 tk,.int .i64 tn,.string ⟨tt.toArray⟩,.int .i64 t1,.int .i64 t2,.int .i64 t3,.int .i64 t4,.int .i64 ta] :: ps) pb S all i ns a c (wa1.alloc (.cells #[.int .u8 tk,.int .i64 tn,.string ⟨tt.toArray⟩,.int .i64 t1,.int .i64 t2,.int .i64 t3,.int .i64 t4,.int .i64 ta] 43))):=Lib.hid (H3.out.alloc 43 [.int .u8 tk,.int .i64 tn,.string ⟨tt.toArray⟩,.int .i64 t1,.int .i64 t2,.int .i64 t3,.int .i64 t4,.int .i64 ta])
 clear H3
 generalize (wa1.alloc (.cells #[.int .u8 tk,.int .i64 tn,.string ⟨tt.toArray⟩,.int .i64 t1,.int .i64 t2,.int .i64 t3,.int .i64 t4,.int .i64 ta] 43)) = W5 at H4 ⊢
 have hk:=HK.out
 have F6:=H4.out.sees
 simp only [sees,kBlk,cellsAt,Nat.reduceAdd] at F6
 obtain ⟨zp,⟨z0,c0_0,c0_1,c0_2,c0_3,c0_4,c0_5,c0_6,c0_7,-⟩,-⟩:=F6
 obtain ⟨la,lc,tv,-,⟨x0,x1⟩,cc0,cc1,cc2,cc3,cc4,cc5⟩:=H4.out.cells
 go_upto_region 11 with fail
 have HI:=Lib.hid H4.out.inc
 clear H4 x0 x1 cc0 cc1 cc2 cc3 cc4 cc5 c0_0 c0_1 c0_2 c0_3 c0_4 c0_5 c0_6 c0_7 zp z0
 generalize (W5.setCell ⟨pb,2,none⟩ (.int .i64 ((i : Int) + 1))) = W6 at HI ⊢
 obtain ⟨h1,h2,la2,lc2,tv2,hT,hO⟩:=HI.out
 have HT:=keep hT
 have H2:=keep h2
 have HO:=Lib.hid hO
 clear hO hT h2 HI
 obtain ⟨ln,hln⟩ : ∃ ln,ns.length = ln:=⟨_,rfl⟩
 have HLN:=keep hln
 have hln9 : ln ≤ 1001:=by omega
 rw [hln] at HO
 clear hln
 have HR:=Lib.hid HO.out.drew
 have HB0:=Lib.hid HO.out.ok.drew.bel
 clear HO
 refine wp_region_any (by kernel_rfl) ?_
 change wpAny _ _ _ _ _ _ _ W6.drew
 generalize W6.drew = W7 at HR HB0 ⊢
 have F:=HR.out.ok.sees
 simp only [sees,kBlk,kVar,cellsAt,Nat.reduceAdd] at F
 obtain ⟨⟨⟨x0,x1⟩,cc0,cc1,cc2,cc3,cc4,cc5,-⟩,⟨z0,c0_0,c0_1,c0_2,c0_3,c0_4,c0_5,c0_6,c0_7,-⟩,-⟩:=F
 have HR1:=Lib.hid (HR.out.alloc_obj (.cells #[.int .u8 1,.int .u8 4,.int .i64 tn,.string ⟨#[]⟩,.int .i64 0,.int .i64 0,.int .i64 0,.int .i64 0,.int .i64 0,.int .u8 0,.int .i64 0] 32))
 refine YtlngjiibbcgkmaaGreatDoor.tn (i:=0) (v:=?a133) rfl ?b133 ?c133
 case b133 => (intro w; go_simp; (try rw [if_neg (by omega)]); (try with_reducible rfl))
 try simp only [Act.put,p1,p2,p3,p4,p6]
 refine YtlngjiibbcgkmaaGreatDoor.tn (i:=1) (v:=?a135) rfl ?b135 ?c135
 case b135 => (intro w; go_simp; (try rw [if_neg (by omega)]); (try with_reducible rfl))
 try simp only [Act.put,p1,p2,p3,p4,p5,p6]
 refine YtlngjiibbcgkmaaGreatDoor.tn (i:=2) (v:=?a137) rfl ?b137 ?c137
 case b137 => (intro w; go_simp; (try rw [if_neg (by omega)]); (try with_reducible rfl))
 try simp only [Act.put,p1,p2,p3,p4,p5,p6]
 refine YtlngjiibbcgkmaaGreatDoor.tn (i:=3) (v:=?a139) rfl ?b139 ?c139
 case b139 => (intro w; go_simp; (try rw [if_neg (by omega)]); (try with_reducible rfl))
 try simp only [Act.put,p1,p2,p3,p4,p5,p6]
 refine YtlngjiibbcgkmaaGreatDoor.tn (i:=5) (v:=?a141) rfl ?b141 ?c141
 case b141 => (intro w; go_simp; (try rw [if_neg (by omega)]); (try with_reducible rfl))
 try simp only [Act.put,p1,p2,p3,p4,p5,p6]
 refine wpAny_ready (rs:=[4,6]) (by kernel_rfl) (by simp) ?_
 refine (AllReady.cons rfl (fun K hK => ?_) (AllReady.cons rfl (fun K hK => ?_) AllReady.nil))
 ·go_simp
  refine hK _ _ ?_
  clear hK K
  try simp only [Act.put,p1,p2,p3,p4,p5,p6]
  refine wpAny_ready (rs:=[6]) (by kernel_rfl) (by simp) ?_
  refine (AllReady.cons rfl (fun K hK => ?_) AllReady.nil)
  ·go_simp
   refine hK _ _ ?_
   clear hK K
   try simp only [Act.put,p1,p2,p3,p4,p5,p6]
   refine YtlngjiibbcgkmaaGreatDoor.tn (i:=7) (v:=?a145) rfl ?b145 ?c145
   case b145 => (intro w; go_simp; (try rw [if_neg (by omega)]); (try with_reducible rfl))
   try simp only [Act.put,p1,p2,p3,p4,p5,p6]
   refine YtlngjiibbcgkmaaGreatDoor.tn (i:=8) (v:=?a147) rfl ?b147 ?c147
   case b147 => (intro w; go_simp; (try rw [if_neg (by omega)]); (try with_reducible rfl))
   try simp only [Act.put,p1,p2,p3,p4,p5,p6]
   refine wpAny_ready (rs:=[9]) (by kernel_rfl) (by simp) ?_
   refine (AllReady.cons rfl (fun K hK => ?_) AllReady.nil)
   ·go_simp
    refine hK _ _ ?_
    clear hK K
    try simp only [Act.put,p1,p2,p3,p4,p5,p6]
    refine wpAny_ready (rs:=[10]) (by kernel_rfl) (by simp) ?_
    refine (AllReady.cons rfl (fun K hK => ?_) AllReady.nil)
    ·refine step_append_lies _ (by rfl) _ _ _ (by rfl) w1.heap.size 32 i0 _ 11 96 Tryz.underlying22 hi9 hz0 hz1 hz2 rfl (by omega) _ _ _ (by rfl) HR1.out.own ⟨W7.heap.size,0,none⟩ 1 1 [.int .u8 1,.int .u8 4,.int .i64 tn,.string ⟨#[]⟩,.int .i64 0,.int .i64 0,.int .i64 0,.int .i64 0,.int .i64 0,.int .u8 0,.int .i64 0] (by rfl) (by rfl) (World.news_of_block (cs:=#[.int .u8 1,.int .u8 4,.int .i64 tn,.string ⟨#[]⟩,.int .i64 0,.int .i64 0,.int .i64 0,.int .i64 0,.int .i64 0,.int .u8 0,.int .i64 0]) (t:=32) (fr:=(0,0)) (heap_alloc_new _ _)) (by intro u hu; simp at hu; rcases hu with rfl | rfl | rfl | rfl | rfl | rfl | rfl | rfl | rfl | rfl | rfl <;> rfl) (by omega) (by unfold maxLen; omega) (by omega) (by have:=HB0.out.size; simp; omega) (W7.heap.size + 1) (by simp) ?_
     intro g cap w3 hown3 hgrow3 hat3 hlt3
     have HR3:=Lib.hid (HR1.out.appended hown3 hgrow3 (by rw [World.size_alloc]; exact hat3))
     clear hown3 hgrow3 hat3
     refine hK _ _ ?_
     clear hK K
     try simp only [Act.put,p1,p2,p3,p4,p5,p6]
     refine YtlngjiibbcgkmaaGreatDoor.tn (i:=11) (v:=?a151) rfl ?b151 ?c151
     case b151 => (intro w; go_simp; (try rw [if_neg (by omega)]); (try with_reducible rfl))
     try simp only [Act.put,p1,p2,p3,p4,p5,p6]
     refine YtlngjiibbcgkmaaGreatDoor.tn (i:=12) (v:=?a153) rfl ?b153 ?c153
     case b153 => (intro w; go_simp; (try rw [if_neg (by omega)]); (try with_reducible rfl))
     try simp only [Act.put,p1,p2,p3,p4,p5,p6]
     refine wpAny_ready (rs:=[13]) (by kernel_rfl) (by simp) ?_
     refine (AllReady.cons rfl (fun K hK => ?_) AllReady.nil)
     ·have F3:=HR3.out.ok.sees
      simp only [sees,kBlk,kVar,cellsAt,Nat.reduceAdd] at F3
      obtain ⟨⟨⟨y0,y1⟩,y2,y3,y4,y5,y6,y7,-⟩,-,-⟩:=F3
      go_simp
      have HR4:=Lib.hid (HR3.out.set_ (i:=3) (u:=.slice (some ⟨g,0,none⟩) (ln + 1) cap) h1 H2.out)
      refine hK _ _ ?_
      clear hK K
      try simp only [Act.put,p1,p2,p3,p4,p5,p6]
      refine wpAny_done (by kernel_rfl) ?_ _
      go_wp2_with fail
      first
       | go_end0
       | go_ret
       | refine bodyPost_ret (results_none rfl _ _ _) rfl ?_
      refine ⟨rfl,h1,fun x hx => H2.out x (List.mem_cons_of_mem _ hx),la2,lc2,.slice (some ⟨g,0,none⟩) (ln + 1) cap,HT.out,?_⟩
      have h9:=HR4.out
      simp only [Q.put,ndCells_snoc,List.length_append,List.length_singleton,HLN.out]
      exact h9.drop _ (by intro z hz; simp at hz ⊢; rcases hz with h | h <;> simp [h])
 ·go_simp
  refine hK _ _ ?_
  clear hK K
  try simp only [Act.put,p1,p2,p3,p4,p5,p6]
  refine YtlngjiibbcgkmaaGreatDoor.tn (i:=7) (v:=?a157) rfl ?b157 ?c157
  case b157 => (intro w; go_simp; (try rw [if_neg (by omega)]); (try with_reducible rfl))
  try simp only [Act.put,p1,p2,p3,p4,p5,p6]
  refine YtlngjiibbcgkmaaGreatDoor.tn (i:=8) (v:=?a159) rfl ?b159 ?c159
  case b159 => (intro w; go_simp; (try rw [if_neg (by omega)]); (try with_reducible rfl))
  try simp only [Act.put,p1,p2,p3,p4,p5,p6]
  refine wpAny_ready (rs:=[4,9]) (by kernel_rfl) (by simp) ?_
  refine (AllReady.cons rfl (fun K hK => ?_) (AllReady.cons rfl (fun K hK => ?_) AllReady.nil))
  ·go_simp
   refine hK _ _ ?_
   clear hK K
   try simp only [Act.put,p1,p2,p3,p4,p5,p6]
   refine wpAny_ready (rs:=[9]) (by kernel_rfl) (by simp) ?_
   refine (AllReady.cons rfl (fun K hK => ?_) AllReady.nil)
   ·go_simp
    refine hK _ _ ?_
    clear hK K
    try simp only [Act.put,p1,p2,p3,p4,p5,p6]
    refine wpAny_ready (rs:=[10]) (by kernel_rfl) (by simp) ?_
    refine (AllReady.cons rfl (fun K hK => ?_) AllReady.nil)
    ·refine step_append_lies _ (by rfl) _ _ _ (by rfl) w1.heap.size 32 i0 _ 11 96 Tryz.underlying22 hi9 hz0 hz1 hz2 rfl (by omega) _ _ _ (by rfl) HR1.out.own ⟨W7.heap.size,0,none⟩ 1 1 [.int .u8 1,.int .u8 4,.int .i64 tn,.string ⟨#[]⟩,.int .i64 0,.int .i64 0,.int .i64 0,.int .i64 0,.int .i64 0,.int .u8 0,.int .i64 0] (by rfl) (by rfl) (World.news_of_block (cs:=#[.int .u8 1,.int .u8 4,.int .i64 tn,.string ⟨#[]⟩,.int .i64 0,.int .i64 0,.int .i64 0,.int .i64 0,.int .i64 0,.int .u8 0,.int .i64 0]) (t:=32) (fr:=(0,0)) (heap_alloc_new _ _)) (by intro u hu; simp at hu; rcases hu with rfl | rfl | rfl | rfl | rfl | rfl | rfl | rfl | rfl | rfl | rfl <;> rfl) (by omega) (by unfold maxLen; omega) (by omega) (by have:=HB0.out.size; simp; omega) (W7.heap.size + 1) (by simp) ?_
     intro g cap w3 hown3 hgrow3 hat3 hlt3
     have HR3:=Lib.hid (HR1.out.appended hown3 hgrow3 (by rw [World.size_alloc]; exact hat3))
     clear hown3 hgrow3 hat3
     refine hK _ _ ?_
     clear hK K
     try simp only [Act.put,p1,p2,p3,p4,p5,p6]
     refine YtlngjiibbcgkmaaGreatDoor.tn (i:=11) (v:=?a164) rfl ?b164 ?c164
     case b164 => (intro w; go_simp; (try rw [if_neg (by omega)]); (try with_reducible rfl))
     try simp only [Act.put,p1,p2,p3,p4,p5,p6]
     refine YtlngjiibbcgkmaaGreatDoor.tn (i:=12) (v:=?a166) rfl ?b166 ?c166
     case b166 => (intro w; go_simp; (try rw [if_neg (by omega)]); (try with_reducible rfl))
     try simp only [Act.put,p1,p2,p3,p4,p5,p6]
     refine wpAny_ready (rs:=[13]) (by kernel_rfl) (by simp) ?_
     refine (AllReady.cons rfl (fun K hK => ?_) AllReady.nil)
     ·have F3:=HR3.out.ok.sees
      simp only [sees,kBlk,kVar,cellsAt,Nat.reduceAdd] at F3
      obtain ⟨⟨⟨y0,y1⟩,y2,y3,y4,y5,y6,y7,-⟩,-,-⟩:=F3
      go_simp
      have HR4:=Lib.hid (HR3.out.set_ (i:=3) (u:=.slice (some ⟨g,0,none⟩) (ln + 1) cap) h1 H2.out)
      refine hK _ _ ?_
      clear hK K
      try simp only [Act.put,p1,p2,p3,p4,p5,p6]
      refine wpAny_done (by kernel_rfl) ?_ _
      go_wp2_with fail
      first
       | go_end0
       | go_ret
       | refine bodyPost_ret (results_none rfl _ _ _) rfl ?_
      refine ⟨rfl,h1,fun x hx => H2.out x (List.mem_cons_of_mem _ hx),la2,lc2,.slice (some ⟨g,0,none⟩) (ln + 1) cap,HT.out,?_⟩
      have h9:=HR4.out
      simp only [Q.put,ndCells_snoc,List.length_append,List.length_singleton,HLN.out]
      exact h9.drop _ (by intro z hz; simp at hz ⊢; rcases hz with h | h <;> simp [h])
  ·go_simp
   refine hK _ _ ?_
   clear hK K
   try simp only [Act.put,p1,p2,p3,p4,p5,p6]
   refine wpAny_ready (rs:=[4]) (by kernel_rfl) (by simp) ?_
   refine (AllReady.cons rfl (fun K hK => ?_) AllReady.nil)
   ·go_simp
    refine hK _ _ ?_
    clear hK K
    try simp only [Act.put,p1,p2,p3,p4,p5,p6]
    refine wpAny_ready (rs:=[10]) (by kernel_rfl) (by simp) ?_
    refine (AllReady.cons rfl (fun K hK => ?_) AllReady.nil)
    ·refine step_append_lies _ (by rfl) _ _ _ (by rfl) w1.heap.size 32 i0 _ 11 96 Tryz.underlying22 hi9 hz0 hz1 hz2 rfl (by omega) _ _ _ (by rfl) HR1.out.own ⟨W7.heap.size,0,none⟩ 1 1 [.int .u8 1,.int .u8 4,.int .i64 tn,.string ⟨#[]⟩,.int .i64 0,.int .i64 0,.int .i64 0,.int .i64 0,.int .i64 0,.int .u8 0,.int .i64 0] (by rfl) (by rfl) (World.news_of_block (cs:=#[.int .u8 1,.int .u8 4,.int .i64 tn,.string ⟨#[]⟩,.int .i64 0,.int .i64 0,.int .i64 0,.int .i64 0,.int .i64 0,.int .u8 0,.int .i64 0]) (t:=32) (fr:=(0,0)) (heap_alloc_new _ _)) (by intro u hu; simp at hu; rcases hu with rfl | rfl | rfl | rfl | rfl | rfl | rfl | rfl | rfl | rfl | rfl <;> rfl) (by omega) (by unfold maxLen; omega) (by omega) (by have:=HB0.out.size; simp; omega) (W7.heap.size + 1) (by simp) ?_
     intro g cap w3 hown3 hgrow3 hat3 hlt3
     have HR3:=Lib.hid (HR1.out.appended hown3 hgrow3 (by rw [World.size_alloc]; exact hat3))
     clear hown3 hgrow3 hat3
     refine hK _ _ ?_
     clear hK K
     try simp only [Act.put,p1,p2,p3,p4,p5,p6]
     refine YtlngjiibbcgkmaaGreatDoor.tn (i:=11) (v:=?a172) rfl ?b172 ?c172
     case b172 => (intro w; go_simp; (try rw [if_neg (by omega)]); (try with_reducible rfl))
     try simp only [Act.put,p1,p2,p3,p4,p5,p6]
     refine YtlngjiibbcgkmaaGreatDoor.tn (i:=12) (v:=?a174) rfl ?b174 ?c174
     case b174 => (intro w; go_simp; (try rw [if_neg (by omega)]); (try with_reducible rfl))
     try simp only [Act.put,p1,p2,p3,p4,p5,p6]
     refine wpAny_ready (rs:=[13]) (by kernel_rfl) (by simp) ?_
     refine (AllReady.cons rfl (fun K hK => ?_) AllReady.nil)
     ·have F3:=HR3.out.ok.sees
      simp only [sees,kBlk,kVar,cellsAt,Nat.reduceAdd] at F3
      obtain ⟨⟨⟨y0,y1⟩,y2,y3,y4,y5,y6,y7,-⟩,-,-⟩:=F3
      go_simp
      have HR4:=Lib.hid (HR3.out.set_ (i:=3) (u:=.slice (some ⟨g,0,none⟩) (ln + 1) cap) h1 H2.out)
      refine hK _ _ ?_
      clear hK K
      try simp only [Act.put,p1,p2,p3,p4,p5,p6]
      refine wpAny_done (by kernel_rfl) ?_ _
      go_wp2_with fail
      first
       | go_end0
       | go_ret
       | refine bodyPost_ret (results_none rfl _ _ _) rfl ?_
      refine ⟨rfl,h1,fun x hx => H2.out x (List.mem_cons_of_mem _ hx),la2,lc2,.slice (some ⟨g,0,none⟩) (ln + 1) cap,HT.out,?_⟩
      have h9:=HR4.out
      simp only [Q.put,ndCells_snoc,List.length_append,List.length_singleton,HLN.out]
      exact h9.drop _ (by intro z hz; simp at hz ⊢; rcases hz with h | h <;> simp [h])
set_option maxRecDepth 100000 in
set_option maxHeartbeats 4000000 in
theorem r_primary_ref (f : Nat) (_IH : ∀ g,g ≤ f → Rc g) (tk : Nat) (tn : Int) (tt : List UInt8) (t1 t2 t3 t4 : Int) (ta : Nat) (w1 : World) (ps : List Pers) (pb : Nat) (S : ByteArray) (all : List Tk) (i : Nat) (ns : List Nd) (a c : Int) (n : Nat) (w : World) (hn : all.length ≤ 1000) (hs : S.size ≤ 4611686018427387904) (hi : i ≤ all.length) (hl : ns.length ≤ i) (_hf : 12 * (all.length - i) + 2 ≤ f + 1) (h : RSt w1 ps pb S all i ns a c w) (ht : hdS S.size (all.drop i) = ⟨tk,tn,tt,⟨t1,t2,t3,t4⟩,ta⟩) (hk : tk = 5) :
  Calls Tryz.prog 135 #[.pointer (some ⟨pb,0,none⟩)] w (RQ w1 ps pb S all (rf S.size all (f + 1) .pr ⟨i,ns,a,c,n⟩)):=by
 have hT0:=ht
 obtain ⟨i0,hi_,hz0,hz1,hz2⟩:=info_parts info_node
 have hi9:=hi_
 clear hi_
 rw [rf_pr1 ht]
 simp only []
 rw [if_neg (by omega),if_pos hk]
 have HH:=keep (r_next w1 ps pb S all i ns a c w hn (by omega) hs h)
 rw [ht] at HH
 have H:=Lib.hid h
 have HK:=keep hk
 clear hk h ht hT0 _IH
 go_enter Tryz.func135,Tryz.ntmps135
 go_wp2_with fail
 refine (HH.out).mono ?_
 rintro e wa1 ⟨rfl,hb2⟩
 have H3:=Lib.hid (H.out.below hb2)
 clear hb2 H HH
 simp only [tkA]
 go_upto_region 1 with fail
 have H4 : Hid (RSt w1 (kBlk wa1.heap.size 43 [.int .u8 tk,.int .i64 tn,.string ⟨tt.toArray⟩,.int .i64 t1,.int .i64 t2,.int .i64 t3,.int .i64 t4,.int .i64 ta] :: ps) pb S all i ns a c (wa1.alloc (.cells #[.int .u8 tk,.int .i64 tn,.string ⟨tt.toArray⟩,.int .i64 t1,.int .i64 t2,.int .i64 t3,.int .i64 t4,.int .i64 ta] 43))):=Lib.hid (H3.out.alloc 43 [.int .u8 tk,.int .i64 tn,.string ⟨tt.toArray⟩,.int .i64 t1,.int .i64 t2,.int .i64 t3,.int .i64 t4,.int .i64 ta])
 clear H3
 generalize (wa1.alloc (.cells #[.int .u8 tk,.int .i64 tn,.string ⟨tt.toArray⟩,.int .i64 t1,.int .i64 t2,.int .i64 t3,.int .i64 t4,.int .i64 ta] 43)) = W5 at H4 ⊢
 have hk:=HK.out
 have F6:=H4.out.sees
 simp only [sees,kBlk,cellsAt,Nat.reduceAdd] at F6
 obtain ⟨zp,⟨z0,c0_0,c0_1,c0_2,c0_3,c0_4,c0_5,c0_6,c0_7,-⟩,-⟩:=F6
 obtain ⟨la,lc,tv,-,⟨x0,x1⟩,cc0,cc1,cc2,cc3,cc4,cc5⟩:=H4.out.cells
 go_upto_region 13 with fail
 have HI:=Lib.hid H4.out.inc
 clear H4 x0 x1 cc0 cc1 cc2 cc3 cc4 cc5 c0_0 c0_1 c0_2 c0_3 c0_4 c0_5 c0_6 c0_7 zp z0
 generalize (W5.setCell ⟨pb,2,none⟩ (.int .i64 ((i : Int) + 1))) = W6 at HI ⊢
 obtain ⟨h1,h2,la2,lc2,tv2,hT,hO⟩:=HI.out
 have HT:=keep hT
 have H2:=keep h2
 have HO:=Lib.hid hO
 clear hO hT h2 HI
 obtain ⟨ln,hln⟩ : ∃ ln,ns.length = ln:=⟨_,rfl⟩
 have HLN:=keep hln
 have hln9 : ln ≤ 1001:=by omega
 rw [hln] at HO
 clear hln
 have HR:=Lib.hid HO.out.drew
 have HB0:=Lib.hid HO.out.ok.drew.bel
 clear HO
 refine wp_region_any (by kernel_rfl) ?_
 change wpAny _ _ _ _ _ _ _ W6.drew
 generalize W6.drew = W7 at HR HB0 ⊢
 have F:=HR.out.ok.sees
 simp only [sees,kBlk,kVar,cellsAt,Nat.reduceAdd] at F
 obtain ⟨⟨⟨x0,x1⟩,cc0,cc1,cc2,cc3,cc4,cc5,-⟩,⟨z0,c0_0,c0_1,c0_2,c0_3,c0_4,c0_5,c0_6,c0_7,-⟩,-⟩:=F
 have HR1:=Lib.hid (HR.out.alloc_obj (.cells #[.int .u8 2,.int .u8 0,.int .i64 0,.string ⟨#[]⟩,.int .i64 t1,.int .i64 t2,.int .i64 t3,.int .i64 t4,.int .i64 0,.int .u8 0,.int .i64 0] 32))
 refine YtlngjiibbcgkmaaGreatDoor.tn (i:=0) (v:=?a177) rfl ?b177 ?c177
 case b177 => (intro w; go_simp; (try rw [if_neg (by omega)]); (try with_reducible rfl))
 try simp only [Act.put,p1,p2,p3,p4,p6]
 refine YtlngjiibbcgkmaaGreatDoor.tn (i:=1) (v:=?a179) rfl ?b179 ?c179
 case b179 => (intro w; go_simp; (try rw [if_neg (by omega)]); (try with_reducible rfl))
 try simp only [Act.put,p1,p2,p3,p4,p5,p6]
 refine YtlngjiibbcgkmaaGreatDoor.tn (i:=2) (v:=?a181) rfl ?b181 ?c181
 case b181 => (intro w; go_simp; (try rw [if_neg (by omega)]); (try with_reducible rfl))
 try simp only [Act.put,p1,p2,p3,p4,p5,p6]
 refine YtlngjiibbcgkmaaGreatDoor.tn (i:=3) (v:=?a183) rfl ?b183 ?c183
 case b183 => (intro w; go_simp; (try rw [if_neg (by omega)]); (try with_reducible rfl))
 try simp only [Act.put,p1,p2,p3,p4,p5,p6]
 refine YtlngjiibbcgkmaaGreatDoor.tn (i:=5) (v:=?a185) rfl ?b185 ?c185
 case b185 => (intro w; go_simp; (try rw [if_neg (by omega)]); (try with_reducible rfl))
 try simp only [Act.put,p1,p2,p3,p4,p5,p6]
 refine wpAny_ready (rs:=[4,6]) (by kernel_rfl) (by simp) ?_
 refine (AllReady.cons rfl (fun K hK => ?_) (AllReady.cons rfl (fun K hK => ?_) AllReady.nil))
 ·go_simp
  refine hK _ _ ?_
  clear hK K
  try simp only [Act.put,p1,p2,p3,p4,p5,p6]
  refine wpAny_ready (rs:=[6]) (by kernel_rfl) (by simp) ?_
  refine (AllReady.cons rfl (fun K hK => ?_) AllReady.nil)
  ·go_simp
   refine hK _ _ ?_
   clear hK K
   try simp only [Act.put,p1,p2,p3,p4,p5,p6]
   refine YtlngjiibbcgkmaaGreatDoor.tn (i:=7) (v:=?a189) rfl ?b189 ?c189
   case b189 => (intro w; go_simp; (try rw [if_neg (by omega)]); (try with_reducible rfl))
   try simp only [Act.put,p1,p2,p3,p4,p5,p6]
   refine wpAny_ready (rs:=[8]) (by kernel_rfl) (by simp) ?_
   refine (AllReady.cons rfl (fun K hK => ?_) AllReady.nil)
   ·go_simp
    refine hK _ _ ?_
    clear hK K
    try simp only [Act.put,p1,p2,p3,p4,p5,p6]
    refine wpAny_ready (rs:=[9]) (by kernel_rfl) (by simp) ?_
    refine (AllReady.cons rfl (fun K hK => ?_) AllReady.nil)
    ·refine step_append_lies _ (by rfl) _ _ _ (by rfl) w1.heap.size 32 i0 _ 11 96 Tryz.underlying22 hi9 hz0 hz1 hz2 rfl (by omega) _ _ _ (by rfl) HR1.out.own ⟨W7.heap.size,0,none⟩ 1 1 [.int .u8 2,.int .u8 0,.int .i64 0,.string ⟨#[]⟩,.int .i64 t1,.int .i64 t2,.int .i64 t3,.int .i64 t4,.int .i64 0,.int .u8 0,.int .i64 0] (by rfl) (by rfl) (World.news_of_block (cs:=#[.int .u8 2,.int .u8 0,.int .i64 0,.string ⟨#[]⟩,.int .i64 t1,.int .i64 t2,.int .i64 t3,.int .i64 t4,.int .i64 0,.int .u8 0,.int .i64 0]) (t:=32) (fr:=(0,0)) (heap_alloc_new _ _)) (by intro u hu; simp at hu; rcases hu with rfl | rfl | rfl | rfl | rfl | rfl | rfl | rfl | rfl | rfl | rfl <;> rfl) (by omega) (by unfold maxLen; omega) (by omega) (by have:=HB0.out.size; simp; omega) (W7.heap.size + 1) (by simp) ?_
     intro g cap w3 hown3 hgrow3 hat3 hlt3
     have HR3:=Lib.hid (HR1.out.appended hown3 hgrow3 (by rw [World.size_alloc]; exact hat3))
     clear hown3 hgrow3 hat3
     refine hK _ _ ?_
     clear hK K
     try simp only [Act.put,p1,p2,p3,p4,p5,p6]
     refine YtlngjiibbcgkmaaGreatDoor.tn (i:=10) (v:=?a193) rfl ?b193 ?c193
     case b193 => (intro w; go_simp; (try rw [if_neg (by omega)]); (try with_reducible rfl))
     try simp only [Act.put,p1,p2,p3,p4,p5,p6]
     refine YtlngjiibbcgkmaaGreatDoor.tn (i:=11) (v:=?a195) rfl ?b195 ?c195
     case b195 => (intro w; go_simp; (try rw [if_neg (by omega)]); (try with_reducible rfl))
     try simp only [Act.put,p1,p2,p3,p4,p5,p6]
     refine wpAny_ready (rs:=[12]) (by kernel_rfl) (by simp) ?_
     refine (AllReady.cons rfl (fun K hK => ?_) AllReady.nil)
     ·have F3:=HR3.out.ok.sees
      simp only [sees,kBlk,kVar,cellsAt,Nat.reduceAdd] at F3
      obtain ⟨⟨⟨y0,y1⟩,y2,y3,y4,y5,y6,y7,-⟩,-,-⟩:=F3
      go_simp
      have HR4:=Lib.hid (HR3.out.set_ (i:=3) (u:=.slice (some ⟨g,0,none⟩) (ln + 1) cap) h1 H2.out)
      refine hK _ _ ?_
      clear hK K
      try simp only [Act.put,p1,p2,p3,p4,p5,p6]
      refine wpAny_done (by kernel_rfl) ?_ _
      go_wp2_with fail
      first
       | go_end0
       | go_ret
       | refine bodyPost_ret (results_none rfl _ _ _) rfl ?_
      refine ⟨rfl,h1,fun x hx => H2.out x (List.mem_cons_of_mem _ hx),la2,lc2,.slice (some ⟨g,0,none⟩) (ln + 1) cap,HT.out,?_⟩
      have h9:=HR4.out
      simp only [Q.put,ndCells_snoc,List.length_append,List.length_singleton,HLN.out]
      exact h9.drop _ (by intro z hz; simp at hz ⊢; rcases hz with h | h <;> simp [h])
 ·go_simp
  refine hK _ _ ?_
  clear hK K
  try simp only [Act.put,p1,p2,p3,p4,p5,p6]
  refine YtlngjiibbcgkmaaGreatDoor.tn (i:=7) (v:=?a199) rfl ?b199 ?c199
  case b199 => (intro w; go_simp; (try rw [if_neg (by omega)]); (try with_reducible rfl))
  try simp only [Act.put,p1,p2,p3,p4,p5,p6]
  refine wpAny_ready (rs:=[4,8]) (by kernel_rfl) (by simp) ?_
  refine (AllReady.cons rfl (fun K hK => ?_) (AllReady.cons rfl (fun K hK => ?_) AllReady.nil))
  ·go_simp
   refine hK _ _ ?_
   clear hK K
   try simp only [Act.put,p1,p2,p3,p4,p5,p6]
   refine wpAny_ready (rs:=[8]) (by kernel_rfl) (by simp) ?_
   refine (AllReady.cons rfl (fun K hK => ?_) AllReady.nil)
   ·go_simp
    refine hK _ _ ?_
    clear hK K
    try simp only [Act.put,p1,p2,p3,p4,p5,p6]
    refine wpAny_ready (rs:=[9]) (by kernel_rfl) (by simp) ?_
    refine (AllReady.cons rfl (fun K hK => ?_) AllReady.nil)
    ·refine step_append_lies _ (by rfl) _ _ _ (by rfl) w1.heap.size 32 i0 _ 11 96 Tryz.underlying22 hi9 hz0 hz1 hz2 rfl (by omega) _ _ _ (by rfl) HR1.out.own ⟨W7.heap.size,0,none⟩ 1 1 [.int .u8 2,.int .u8 0,.int .i64 0,.string ⟨#[]⟩,.int .i64 t1,.int .i64 t2,.int .i64 t3,.int .i64 t4,.int .i64 0,.int .u8 0,.int .i64 0] (by rfl) (by rfl) (World.news_of_block (cs:=#[.int .u8 2,.int .u8 0,.int .i64 0,.string ⟨#[]⟩,.int .i64 t1,.int .i64 t2,.int .i64 t3,.int .i64 t4,.int .i64 0,.int .u8 0,.int .i64 0]) (t:=32) (fr:=(0,0)) (heap_alloc_new _ _)) (by intro u hu; simp at hu; rcases hu with rfl | rfl | rfl | rfl | rfl | rfl | rfl | rfl | rfl | rfl | rfl <;> rfl) (by omega) (by unfold maxLen; omega) (by omega) (by have:=HB0.out.size; simp; omega) (W7.heap.size + 1) (by simp) ?_
     intro g cap w3 hown3 hgrow3 hat3 hlt3
     have HR3:=Lib.hid (HR1.out.appended hown3 hgrow3 (by rw [World.size_alloc]; exact hat3))
     clear hown3 hgrow3 hat3
     refine hK _ _ ?_
     clear hK K
     try simp only [Act.put,p1,p2,p3,p4,p5,p6]
     refine YtlngjiibbcgkmaaGreatDoor.tn (i:=10) (v:=?a204) rfl ?b204 ?c204
     case b204 => (intro w; go_simp; (try rw [if_neg (by omega)]); (try with_reducible rfl))
     try simp only [Act.put,p1,p2,p3,p4,p5,p6]
     refine YtlngjiibbcgkmaaGreatDoor.tn (i:=11) (v:=?a206) rfl ?b206 ?c206
     case b206 => (intro w; go_simp; (try rw [if_neg (by omega)]); (try with_reducible rfl))
     try simp only [Act.put,p1,p2,p3,p4,p5,p6]
     refine wpAny_ready (rs:=[12]) (by kernel_rfl) (by simp) ?_
     refine (AllReady.cons rfl (fun K hK => ?_) AllReady.nil)
     ·have F3:=HR3.out.ok.sees
      simp only [sees,kBlk,kVar,cellsAt,Nat.reduceAdd] at F3
      obtain ⟨⟨⟨y0,y1⟩,y2,y3,y4,y5,y6,y7,-⟩,-,-⟩:=F3
      go_simp
      have HR4:=Lib.hid (HR3.out.set_ (i:=3) (u:=.slice (some ⟨g,0,none⟩) (ln + 1) cap) h1 H2.out)
      refine hK _ _ ?_
      clear hK K
      try simp only [Act.put,p1,p2,p3,p4,p5,p6]
      refine wpAny_done (by kernel_rfl) ?_ _
      go_wp2_with fail
      first
       | go_end0
       | go_ret
       | refine bodyPost_ret (results_none rfl _ _ _) rfl ?_
      refine ⟨rfl,h1,fun x hx => H2.out x (List.mem_cons_of_mem _ hx),la2,lc2,.slice (some ⟨g,0,none⟩) (ln + 1) cap,HT.out,?_⟩
      have h9:=HR4.out
      simp only [Q.put,ndCells_snoc,List.length_append,List.length_singleton,HLN.out]
      exact h9.drop _ (by intro z hz; simp at hz ⊢; rcases hz with h | h <;> simp [h])
  ·go_simp
   refine hK _ _ ?_
   clear hK K
   try simp only [Act.put,p1,p2,p3,p4,p5,p6]
   refine wpAny_ready (rs:=[4]) (by kernel_rfl) (by simp) ?_
   refine (AllReady.cons rfl (fun K hK => ?_) AllReady.nil)
   ·go_simp
    refine hK _ _ ?_
    clear hK K
    try simp only [Act.put,p1,p2,p3,p4,p5,p6]
    refine wpAny_ready (rs:=[9]) (by kernel_rfl) (by simp) ?_
    refine (AllReady.cons rfl (fun K hK => ?_) AllReady.nil)
    ·refine step_append_lies _ (by rfl) _ _ _ (by rfl) w1.heap.size 32 i0 _ 11 96 Tryz.underlying22 hi9 hz0 hz1 hz2 rfl (by omega) _ _ _ (by rfl) HR1.out.own ⟨W7.heap.size,0,none⟩ 1 1 [.int .u8 2,.int .u8 0,.int .i64 0,.string ⟨#[]⟩,.int .i64 t1,.int .i64 t2,.int .i64 t3,.int .i64 t4,.int .i64 0,.int .u8 0,.int .i64 0] (by rfl) (by rfl) (World.news_of_block (cs:=#[.int .u8 2,.int .u8 0,.int .i64 0,.string ⟨#[]⟩,.int .i64 t1,.int .i64 t2,.int .i64 t3,.int .i64 t4,.int .i64 0,.int .u8 0,.int .i64 0]) (t:=32) (fr:=(0,0)) (heap_alloc_new _ _)) (by intro u hu; simp at hu; rcases hu with rfl | rfl | rfl | rfl | rfl | rfl | rfl | rfl | rfl | rfl | rfl <;> rfl) (by omega) (by unfold maxLen; omega) (by omega) (by have:=HB0.out.size; simp; omega) (W7.heap.size + 1) (by simp) ?_
     intro g cap w3 hown3 hgrow3 hat3 hlt3
     have HR3:=Lib.hid (HR1.out.appended hown3 hgrow3 (by rw [World.size_alloc]; exact hat3))
     clear hown3 hgrow3 hat3
     refine hK _ _ ?_
     clear hK K
     try simp only [Act.put,p1,p2,p3,p4,p5,p6]
     refine YtlngjiibbcgkmaaGreatDoor.tn (i:=10) (v:=?a212) rfl ?b212 ?c212
     case b212 => (intro w; go_simp; (try rw [if_neg (by omega)]); (try with_reducible rfl))
     try simp only [Act.put,p1,p2,p3,p4,p5,p6]
     refine YtlngjiibbcgkmaaGreatDoor.tn (i:=11) (v:=?a214) rfl ?b214 ?c214
     case b214 => (intro w; go_simp; (try rw [if_neg (by omega)]); (try with_reducible rfl))
     try simp only [Act.put,p1,p2,p3,p4,p5,p6]
     refine wpAny_ready (rs:=[12]) (by kernel_rfl) (by simp) ?_
     refine (AllReady.cons rfl (fun K hK => ?_) AllReady.nil)
     ·have F3:=HR3.out.ok.sees
      simp only [sees,kBlk,kVar,cellsAt,Nat.reduceAdd] at F3
      obtain ⟨⟨⟨y0,y1⟩,y2,y3,y4,y5,y6,y7,-⟩,-,-⟩:=F3
      go_simp
      have HR4:=Lib.hid (HR3.out.set_ (i:=3) (u:=.slice (some ⟨g,0,none⟩) (ln + 1) cap) h1 H2.out)
      refine hK _ _ ?_
      clear hK K
      try simp only [Act.put,p1,p2,p3,p4,p5,p6]
      refine wpAny_done (by kernel_rfl) ?_ _
      go_wp2_with fail
      first
       | go_end0
       | go_ret
       | refine bodyPost_ret (results_none rfl _ _ _) rfl ?_
      refine ⟨rfl,h1,fun x hx => H2.out x (List.mem_cons_of_mem _ hx),la2,lc2,.slice (some ⟨g,0,none⟩) (ln + 1) cap,HT.out,?_⟩
      have h9:=HR4.out
      simp only [Q.put,ndCells_snoc,List.length_append,List.length_singleton,HLN.out]
      exact h9.drop _ (by intro z hz; simp at hz ⊢; rcases hz with h | h <;> simp [h])
set_option maxRecDepth 100000 in
set_option maxHeartbeats 4000000 in
theorem r_primary_par (f : Nat) (IH : ∀ g,g ≤ f → Rc g) (tk : Nat) (tn : Int) (tt : List UInt8) (t1 t2 t3 t4 : Int) (ta : Nat) (w1 : World) (ps : List Pers) (pb : Nat) (S : ByteArray) (all : List Tk) (i : Nat) (ns : List Nd) (a c : Int) (n : Nat) (w : World) (hn : all.length ≤ 1000) (hs : S.size ≤ 4611686018427387904) (_hi : i ≤ all.length) (hl : ns.length ≤ i) (hf : 12 * (all.length - i) + 2 ≤ f + 1) (h : RSt w1 ps pb S all i ns a c w) (ht : hdS S.size (all.drop i) = ⟨tk,tn,tt,⟨t1,t2,t3,t4⟩,ta⟩) (hk : tk = 9) :
  Calls Tryz.prog 135 #[.pointer (some ⟨pb,0,none⟩)] w (RQ w1 ps pb S all (rf S.size all (f + 1) .pr ⟨i,ns,a,c,n⟩)):=by
 have hT0:=ht
 obtain ⟨i0,hi_,hz0,hz1,hz2⟩:=info_parts info_node
 have hi9:=hi_
 clear hi_
 rw [rf_pr1 ht]
 simp only []
 rw [if_neg (by omega),if_neg (by omega),if_pos hk]
 have hlt : i < all.length:=hd_lt (e:=S.size) (q:=⟨i,ns,a,c,n⟩) (by show (hdS S.size (all.drop i)).kind ≠ 0; rw [hT0]; simp only; omega)
 have hb2:=rf_num (e:=S.size) (all:=all) (f:=f) (m:=(.lv 1)) (q:=⟨i + 1,ns,a,c,n⟩) hn (hlt) (by simp only [Mr.sl]; omega)
 have hc2:=fun qs W (h9 : RSt w1 qs pb S all (i + 1) (ns) (a) (c) W) => IH (f) (Nat.le_refl _) w1 qs pb S all ⟨i + 1,ns,a,c,n⟩ (.lv 1) W hn hs (hlt) (by simp only [Mr.sl]; omega) (by simp only [needR]; omega) h9
 obtain ⟨⟨i2,ns2,a2,c2,n2⟩,hX2⟩ : ∃ q,rf S.size all f (.lv 1) ⟨i + 1,ns,a,c,n⟩ = q:=⟨_,rfl⟩
 rw [hX2] at hb2 hc2
 simp only [Mr.sl] at hb2
 obtain ⟨hb2a,hb2b,hb2c,hb2d⟩:=hb2
 have HC2:=keep hc2
 clear hc2
 rw [hX2]
 clear hX2
 have HH:=keep (r_next w1 ps pb S all i ns a c w hn (by omega) hs h)
 rw [ht] at HH
 have H:=Lib.hid h
 have HK:=keep hk
 clear hk h ht hT0 IH
 go_enter Tryz.func135,Tryz.ntmps135
 go_wp2_with fail
 refine (HH.out).mono ?_
 rintro e wa1 ⟨rfl,hb2⟩
 have H3:=Lib.hid (H.out.below hb2)
 clear hb2 H HH
 simp only [tkA]
 go_upto_region 1 with fail
 have H4 : Hid (RSt w1 (kBlk wa1.heap.size 43 [.int .u8 tk,.int .i64 tn,.string ⟨tt.toArray⟩,.int .i64 t1,.int .i64 t2,.int .i64 t3,.int .i64 t4,.int .i64 ta] :: ps) pb S all i ns a c (wa1.alloc (.cells #[.int .u8 tk,.int .i64 tn,.string ⟨tt.toArray⟩,.int .i64 t1,.int .i64 t2,.int .i64 t3,.int .i64 t4,.int .i64 ta] 43))):=Lib.hid (H3.out.alloc 43 [.int .u8 tk,.int .i64 tn,.string ⟨tt.toArray⟩,.int .i64 t1,.int .i64 t2,.int .i64 t3,.int .i64 t4,.int .i64 ta])
 clear H3
 generalize (wa1.alloc (.cells #[.int .u8 tk,.int .i64 tn,.string ⟨tt.toArray⟩,.int .i64 t1,.int .i64 t2,.int .i64 t3,.int .i64 t4,.int .i64 ta] 43)) = W5 at H4 ⊢
 have hk:=HK.out
 have F6:=H4.out.sees
 simp only [sees,kBlk,cellsAt,Nat.reduceAdd] at F6
 obtain ⟨zp,⟨z0,c0_0,c0_1,c0_2,c0_3,c0_4,c0_5,c0_6,c0_7,-⟩,-⟩:=F6
 obtain ⟨la,lc,tv,-,⟨x0,x1⟩,cc0,cc1,cc2,cc3,cc4,cc5⟩:=H4.out.cells
 go_wp2_with fail
 refine (HC2.out _ _ H4.out.inc (by omega) (by omega)).mono ?_
 rintro e w6 ⟨rfl,hst⟩
 have hst : RSt w1 _ pb S all i2 ns2 a2 c2 w6:=hst
 have HST:=Lib.hid hst
 clear hst HC2 H4 x0 x1 cc0 cc1 cc2 cc3 cc4 cc5 c0_0 c0_1 c0_2 c0_3 c0_4 c0_5 c0_6 c0_7 zp z0
 go_wp2_with fail
 refine (r_want w1 _ pb S all i2 ns2 a2 c2 n2 10 _ hn (by omega) hs HST.out).mono ?_
 rintro e w8 ⟨rfl,hst⟩
 have HST8:=Lib.hid hst
 clear hst HST
 go_wp2_with fail
 first
  | go_end0
  | go_ret
  | refine bodyPost_ret (results_none rfl _ _ _) rfl ?_
 exact ⟨rfl,HST8.out.tail⟩
set_option maxRecDepth 100000 in
set_option maxHeartbeats 4000000 in
theorem r_primary_else (f : Nat) (_IH : ∀ g,g ≤ f → Rc g) (tk : Nat) (tn : Int) (tt : List UInt8) (t1 t2 t3 t4 : Int) (ta : Nat) (w1 : World) (ps : List Pers) (pb : Nat) (S : ByteArray) (all : List Tk) (i : Nat) (ns : List Nd) (a c : Int) (n : Nat) (w : World) (hn : all.length ≤ 1000) (hs : S.size ≤ 4611686018427387904) (hi : i ≤ all.length) (_hl : ns.length ≤ i) (_hf : 12 * (all.length - i) + 2 ≤ f + 1) (h : RSt w1 ps pb S all i ns a c w) (ht : hdS S.size (all.drop i) = ⟨tk,tn,tt,⟨t1,t2,t3,t4⟩,ta⟩) (hk : ¬ (1 ≤ tk ∧ tk ≤ 4) ∧ tk ≠ 5 ∧ tk ≠ 9 ∧ tk ≠ 7) :
  Calls Tryz.prog 135 #[.pointer (some ⟨pb,0,none⟩)] w (RQ w1 ps pb S all (rf S.size all (f + 1) .pr ⟨i,ns,a,c,n⟩)):=by
 have hT0:=ht
 obtain ⟨i0,hi_,hz0,hz1,hz2⟩:=info_parts info_node
 have hi9:=hi_
 clear hi_
 rw [rf_pr1 ht]
 simp only []
 rw [if_neg hk.1,if_neg hk.2.1,if_neg hk.2.2.1,if_neg hk.2.2.2]
 have HH:=keep (r_next w1 ps pb S all i ns a c w hn (by omega) hs h)
 rw [ht] at HH
 have H:=Lib.hid h
 have HK:=keep hk
 clear hk h ht hT0 _IH
 go_enter Tryz.func135,Tryz.ntmps135
 go_wp2_with fail
 refine (HH.out).mono ?_
 rintro e wa1 ⟨rfl,hb2⟩
 have H3:=Lib.hid (H.out.below hb2)
 clear hb2 H HH
 simp only [tkA]
 go_upto_region 1 with fail
 have H4 : Hid (RSt w1 (kBlk wa1.heap.size 43 [.int .u8 tk,.int .i64 tn,.string ⟨tt.toArray⟩,.int .i64 t1,.int .i64 t2,.int .i64 t3,.int .i64 t4,.int .i64 ta] :: ps) pb S all i ns a c (wa1.alloc (.cells #[.int .u8 tk,.int .i64 tn,.string ⟨tt.toArray⟩,.int .i64 t1,.int .i64 t2,.int .i64 t3,.int .i64 t4,.int .i64 ta] 43))):=Lib.hid (H3.out.alloc 43 [.int .u8 tk,.int .i64 tn,.string ⟨tt.toArray⟩,.int .i64 t1,.int .i64 t2,.int .i64 t3,.int .i64 t4,.int .i64 ta])
 clear H3
 generalize (wa1.alloc (.cells #[.int .u8 tk,.int .i64 tn,.string ⟨tt.toArray⟩,.int .i64 t1,.int .i64 t2,.int .i64 t3,.int .i64 t4,.int .i64 ta] 43)) = W5 at H4 ⊢
 have hk:=HK.out
 have F6:=H4.out.sees
 simp only [sees,kBlk,cellsAt,Nat.reduceAdd] at F6
 obtain ⟨zp,⟨z0,c0_0,c0_1,c0_2,c0_3,c0_4,c0_5,c0_6,c0_7,-⟩,-⟩:=F6
 obtain ⟨la,lc,tv,-,⟨x0,x1⟩,cc0,cc1,cc2,cc3,cc4,cc5⟩:=H4.out.cells
 obtain ⟨hk1,hk5,hk9,hk7⟩:=hk
 have e1 : ((tk : Int) == 1) = false:=by simp; omega
 have e2 : ((tk : Int) == 2) = false:=by simp; omega
 have e3 : ((tk : Int) == 3) = false:=by simp; omega
 have e4 : ((tk : Int) == 4) = false:=by simp; omega
 have e5 : ((tk : Int) == 5) = false:=by simp; omega
 have e9 : ((tk : Int) == 9) = false:=by simp; omega
 have e7 : ((tk : Int) == 7) = false:=by simp; omega
 clear hk1 hk5 hk9 hk7
 go_wp2_with fail
 refine (r_fault w1 _ pb S all (i + 1) ns a c _ _ _ H4.out.inc).mono ?_
 rintro e w6 ⟨rfl,hst⟩
 have HST:=Lib.hid hst
 clear hst H4 x0 x1 cc0 cc1 cc2 cc3 cc4 cc5 c0_0 c0_1 c0_2 c0_3 c0_4 c0_5 c0_6 c0_7 zp z0
 go_wp2_with fail
 first
  | go_end0
  | go_ret
  | refine bodyPost_ret (results_none rfl _ _ _) rfl ?_
 exact ⟨rfl,HST.out.tail⟩
end Go.Proofs.YtlngjiibbcgkmaaGreatDoor
