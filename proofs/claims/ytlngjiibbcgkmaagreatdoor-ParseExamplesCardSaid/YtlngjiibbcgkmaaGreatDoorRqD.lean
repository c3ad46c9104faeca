/- The reference's parser by rf: percent, level. -/
import Derived.Test.YtlngjiibbcgkmaaGreatDoorRqC
namespace Go.Proofs.YtlngjiibbcgkmaaGreatDoor
open Go.RowKit
set_option maxRecDepth 100000 in
set_option maxHeartbeats 4000000 in
theorem r_percent (f : Nat) (IH : ∀ g,g ≤ f → Rc g) (w1 : World) (ps : List Pers) (pb : Nat) (S : ByteArray) (all : List Tk) (i : Nat) (ns : List Nd) (a c : Int) (n : Nat) (w : World) (hn : all.length ≤ 1000) (hs : S.size ≤ 4611686018427387904) (hi : i ≤ all.length) (hl : ns.length ≤ i) (hf : 12 * (all.length - i) + 3 ≤ f + 1) (h : RSt w1 ps pb S all i ns a c w) :
  Calls Tryz.prog 92 #[.pointer (some ⟨pb,0,none⟩)] w (RQ w1 ps pb S all (rf S.size all (f + 1) .pc ⟨i,ns,a,c,n⟩)):=by
 obtain ⟨i0,hi_,hz0,hz1,hz2⟩:=info_parts info_node
 have hi9:=hi_
 clear hi_
 have hb2:=rf_num (e:=S.size) (all:=all) (f:=f) (m:=.pr) (q:=⟨i,ns,a,c,n⟩) hn (hi) (by simp only [Mr.sl]; omega)
 have hc2:=fun qs W (h9 : RSt w1 qs pb S all (i) (ns) (a) (c) W) => IH (f) (Nat.le_refl _) w1 qs pb S all ⟨i,ns,a,c,n⟩ .pr W hn hs (hi) (by simp only [Mr.sl]; omega) (by simp only [needR]; omega) h9
 obtain ⟨⟨i2,ns2,a2,c2,n2⟩,hX2⟩ : ∃ q,rf S.size all f .pr ⟨i,ns,a,c,n⟩ = q:=⟨_,rfl⟩
 rw [hX2] at hb2 hc2
 simp only [Mr.sl] at hb2
 obtain ⟨hb2a,hb2b,hb2c,hb2d⟩:=hb2
 have HC2:=keep hc2
 clear hc2
 rw [rf_pc1 hX2]
 clear hX2
 generalize hR : rf S.size all f .pct ⟨i2,ns2,a2,c2,n2⟩ = R
 have HR:=keep hR
 have H:=Lib.hid h
 clear h IH hR
 go_enter Tryz.func92,Tryz.ntmps92
 go_wp2_with fail
 refine (HC2.out _ _ H.out).mono ?_
 rintro e w6 ⟨rfl,hst⟩
 have hst : RSt w1 ps pb S all i2 ns2 a2 c2 w6:=hst
 have HST:=Lib.hid hst
 clear hst HC2 H
 go_wp2_with fail
 go_loopg [] (all.length + 2 - i2) (fun gf wr => ∃ (q : Q) (g : Nat),gf = all.length + 2 - q.i ∧ Keep (rf S.size all g .pct q = R ∧ g ≤ f ∧ 12 * (all.length - q.i) + 1 ≤ g ∧ Gd all q ∧ q.ns.length ≤ q.i ∧ q.i ≤ 1001) ∧ Hid (RSt w1 ps pb S all q.i q.ns q.a q.c wr))
 case atStart => exact ⟨⟨i2,ns2,a2,c2,n2⟩,f,rfl,keep ⟨HR.out,Nat.le_refl _,by simp only; omega,hb2d,by simp only; omega,hb2b⟩,HST⟩
 case round =>
  clear HST HR
  obtain ⟨⟨ic,nsc,ac,cc,mc⟩,g,hg,HQ,HRc⟩:=hrel
  obtain ⟨wp,rfl⟩ : ∃ wp : World,wp = wr:=⟨_,rfl⟩
  subst hg
  obtain ⟨hq,hgf,hfu,hgd,hlc,hic⟩:=HQ.out
  simp only at hfu hlc hic
  have HRd : Hid (RSt w1 ps pb S all ic nsc ac cc wp):=HRc
  clear HQ HRc
  obtain ⟨g0,rfl⟩ : ∃ g0,g = g0 + 1:=⟨g - 1,by omega⟩
  rw [rf_pct1] at hq
  obtain ⟨la,lc,tv,-,⟨x0,x1⟩,p0,p1,p2,p3,p4,p5⟩:=HRd.out.cells
  by_cases hc0 : cc = 0
  ·subst hc0
   go_wp2_with fail
   refine (r_op w1 _ pb S all ic nsc ac 0 7 _ hn (by omega) hs HRd.out).mono ?_
   rintro e w7 ⟨rfl,hb⟩
   have HR7:=Lib.hid (HRd.out.below hb)
   clear hb HRd x0 x1 p0 p1 p2 p3 p4 p5
   cases hop : isBind (hdS S.size (all.drop ic)) 7 with
   | false =>
    rw [hop,if_neg (by simp)] at hq
    subst hq
    clear hop
    go_wp2_with fail
    first
     | go_end0
     | go_ret
     | refine bodyPost_ret (results_none rfl _ _ _) rfl ?_
    exact ⟨rfl,HR7.out⟩
   | true =>
    rw [hop,if_pos (by simp)] at hq
    have hlt : ic < all.length:=bind_lt (e:=S.size) (q:=⟨ic,nsc,ac,0,mc⟩) hop
    have HQQ:=keep hq
    clear hop hq
    obtain ⟨la,lc,tv,-,⟨x0,x1⟩,p0,p1,p2,p3,p4,p5⟩:=HR7.out.cells
    go_upto_region 3 with fail
    have HI:=Lib.hid HR7.out.inc
    clear HR7 x0 x1 p0 p1 p2 p3 p4 p5
    generalize (w7.setCell ⟨pb,2,none⟩ (.int .i64 ((ic : Int) + 1))) = W8 at HI ⊢
    have hst:=HI.out
    clear HI
    obtain ⟨h1,h2,la2,lc2,tv2,hT,hO⟩:=hst
    have HT:=keep hT
    have H2:=keep h2
    have HO:=Lib.hid hO
    have F8:=hO.ok.sees
    simp only [sees,kVar,cellsAt,Nat.reduceAdd] at F8
    obtain ⟨⟨⟨x0,x1⟩,p0,p1,p2,p3,p4,p5,-⟩,-⟩:=F8
    clear hO hT h2
    obtain ⟨ln,hln⟩ : ∃ ln,nsc.length = ln:=⟨_,rfl⟩
    have HLN:=keep hln
    have hln9 : ln ≤ 1001:=by omega
    rw [hln] at HO
    clear hln
    go_wp2_with (at_builtin; refine wpList_append_lies _ rfl _ _ _ rfl w1.heap.size 32 i0 _ 11 96 Tryz.underlying22 hi9 hz0 hz1 hz2 rfl (by omega) _ _ _ rfl (HO.out.own.alloc _) ⟨W8.heap.size,0,none⟩ 1 1 [.int .u8 5,.int .u8 0,.int .i64 0,.string ⟨#[]⟩,.int .i64 0,.int .i64 0,.int .i64 0,.int .i64 0,.int .i64 0,.int .u8 0,.int .i64 0] rfl rfl (World.news_of_block (cs:=#[.int .u8 5,.int .u8 0,.int .i64 0,.string ⟨#[]⟩,.int .i64 0,.int .i64 0,.int .i64 0,.int .i64 0,.int .i64 0,.int .u8 0,.int .i64 0]) (t:=32) (fr:=(0,0)) (heap_alloc_new _ _)) (by intro u hu; simp at hu; rcases hu with rfl | rfl | rfl | rfl | rfl | rfl | rfl | rfl | rfl | rfl | rfl <;> rfl) (by omega) (by unfold maxLen; omega) (by omega) (by have:=HO.out.ok.bel.size; simp; omega) _ rfl ?_; intro g9 cap9 wg9 hown9 hgrow9 hat9 hlt9; have HQ:=Lib.hid ((HO.out.alloc_obj (.cells #[.int .u8 5,.int .u8 0,.int .i64 0,.string ⟨#[]⟩,.int .i64 0,.int .i64 0,.int .i64 0,.int .i64 0,.int .i64 0,.int .u8 0,.int .i64 0] 32)).appended hown9 hgrow9 hat9); have HW9:=keep hown9; have HG9:=keep hgrow9; have HA9:=keep hat9; clear hown9 hgrow9 hat9; have F9:=HQ.out.ok.sees; simp only [sees,kVar,cellsAt,Nat.reduceAdd] at F9; obtain ⟨⟨⟨y0,y1⟩,y2,y3,y4,y5,y6,y7,-⟩,-⟩:=F9)
    go_roundg (all.length + 2 - (ic + 1))
    case rel => exact ⟨⟨ic + 1,nsc ++ [ndPct],ac,0,mc⟩,g0,rfl,keep ⟨HQQ.out,by omega,by simp only; omega,.inl hlt,by simp only [List.length_append,List.length_singleton]; have:=HLN.out; omega,by simp only; omega⟩,Lib.hid (RSt.put HLN.out h1 H2.out HT.out (HO.out.alloc_obj _) ndPct HW9.out HG9.out HA9.out)⟩
    case measure => omega
  ·have hcb : ((cc : Int) == 0) = false:=by simpa using hc0
   rw [if_neg (fun h9 => hc0 h9.1)] at hq
   subst hq
   clear hc0
   go_wp2_with fail
   first
    | go_end0
    | go_ret
    | refine bodyPost_ret (results_none rfl _ _ _) rfl ?_
   exact ⟨rfl,HRd.out⟩
set_option maxRecDepth 100000 in
set_option maxHeartbeats 4000000 in
theorem r_level (f : Nat) (IH : ∀ g,g ≤ f → Rc g) (k : Nat) (hk1 : 1 ≤ k) (hk5 : k ≤ 5) (w1 : World) (ps : List Pers) (pb : Nat) (S : ByteArray) (all : List Tk) (i : Nat) (ns : List Nd) (a c : Int) (n : Nat) (w : World) (hn : all.length ≤ 1000) (hs : S.size ≤ 4611686018427387904) (hi : i ≤ all.length) (hl : ns.length ≤ i) (hf : 12 * (all.length - i) + (11 - k) ≤ f + 1) (h : RSt w1 ps pb S all i ns a c w) :
  Calls Tryz.prog 30 #[.pointer (some ⟨pb,0,none⟩),.int .i64 (k : Nat)] w (RQ w1 ps pb S all (rf S.size all (f + 1) (.lv k) ⟨i,ns,a,c,n⟩)):=by
 by_cases h5 : 5 ≤ k
 ·rw [rf_lv5 h5]
  obtain rfl : k = 5:=by omega
  have hb2:=rf_num (e:=S.size) (all:=all) (f:=f) (m:=.sg) (q:=⟨i,ns,a,c,n⟩) hn (hi) (by simp only [Mr.sl]; omega)
  have hc2:=fun qs W (h9 : RSt w1 qs pb S all (i) (ns) (a) (c) W) => IH (f) (Nat.le_refl _) w1 qs pb S all ⟨i,ns,a,c,n⟩ .sg W hn hs (hi) (by simp only [Mr.sl]; omega) (by simp only [needR]; omega) h9
  obtain ⟨⟨i2,ns2,a2,c2,n2⟩,hX2⟩ : ∃ q,rf S.size all f .sg ⟨i,ns,a,c,n⟩ = q:=⟨_,rfl⟩
  rw [hX2] at hb2 hc2
  simp only [Mr.sl] at hb2
  obtain ⟨hb2a,hb2b,hb2c,hb2d⟩:=hb2
  have HC2:=keep hc2
  clear hc2
  rw [hX2]
  clear hX2
  have H:=Lib.hid h
  clear h IH
  go_enter Tryz.func30,Tryz.ntmps30
  go_wp2_with fail
  refine (HC2.out _ _ H.out).mono ?_
  rintro e w6 ⟨rfl,hst⟩
  have hst : RSt w1 ps pb S all i2 ns2 a2 c2 w6:=hst
  have HST:=Lib.hid hst
  clear hst HC2 H
  go_wp2_with fail
  first
   | go_end0
   | go_ret
   | refine bodyPost_ret (results_none rfl _ _ _) rfl ?_
  exact ⟨rfl,HST.out⟩
 ·obtain ⟨i0,hi_,hz0,hz1,hz2⟩:=info_parts info_node
  have hi9:=hi_
  clear hi_
  have hb2:=rf_num (e:=S.size) (all:=all) (f:=f) (m:=.lv (k + 1)) (q:=⟨i,ns,a,c,n⟩) hn (hi) (by simp only [Mr.sl]; omega)
  have hc2 : ∀ qs W,RSt w1 qs pb S all (i) ns a c W → Calls Tryz.prog 30 #[.pointer (some ⟨pb,0,none⟩),.int .i64 ((k : Int) + 1)] W (RQ w1 qs pb S all (rf S.size all f (.lv (k + 1)) ⟨i,ns,a,c,n⟩)):=by
   intro qs W h9
   rw [show ((k : Int) + 1) = ((k + 1 : Nat) : Int) by omega]
   exact IH f (Nat.le_refl _) w1 qs pb S all ⟨i,ns,a,c,n⟩ (.lv (k + 1)) W hn hs (hi) (by simp only [Mr.sl]; omega) (by simp only [needR]; omega) h9 (by omega) (by omega)
  obtain ⟨⟨i2,ns2,a2,c2,n2⟩,hX2⟩ : ∃ q,rf S.size all f (.lv (k + 1)) ⟨i,ns,a,c,n⟩ = q:=⟨_,rfl⟩
  rw [hX2] at hb2 hc2
  simp only [Mr.sl] at hb2
  obtain ⟨hb2a,hb2b,hb2c,hb2d⟩:=hb2
  have HC2:=keep hc2
  clear hc2
  rw [rf_lv1 h5 hX2]
  clear hX2
  generalize hR : rf S.size all f (.ops k) ⟨i2,ns2,a2,c2,n2⟩ = R
  have HR:=keep hR
  have H:=Lib.hid h
  have HIH:=keep IH
  clear h IH hR
  have hkb : ((k : Int) == 5) = false:=by simp; omega
  have hfn:=fld_num
  go_enter Tryz.func30,Tryz.ntmps30
  go_wp2_with fail
  refine (HC2.out _ _ H.out).mono ?_
  rintro e w6 ⟨rfl,hst⟩
  have hst : RSt w1 ps pb S all i2 ns2 a2 c2 w6:=hst
  have HST:=Lib.hid hst
  clear hst HC2 H
  go_wp2_with fail
  clear hkb
  go_loopg [] (all.length + 2 - i2) (fun gf wr => ∃ (q : Q) (g : Nat),gf = all.length + 2 - q.i ∧ Keep (rf S.size all g (.ops k) q = R ∧ g ≤ f ∧ 12 * (all.length - q.i) + 1 ≤ g ∧ Gd all q ∧ q.ns.length ≤ q.i ∧ q.i ≤ 1001) ∧ Hid (RSt w1 ps pb S all q.i q.ns q.a q.c wr))
  case atStart => exact ⟨⟨i2,ns2,a2,c2,n2⟩,f,rfl,keep ⟨HR.out,Nat.le_refl _,by simp only; omega,hb2d,by simp only; omega,hb2b⟩,HST⟩
  case round =>
   clear HST HR
   obtain ⟨⟨ic,nsc,ac,cc,mc⟩,g,hg,HQ,HRc⟩:=hrel
   obtain ⟨wp,rfl⟩ : ∃ wp : World,wp = wr:=⟨_,rfl⟩
   subst hg
   obtain ⟨hq,hgf,hfu,hgd,hlc,hic⟩:=HQ.out
   simp only at hfu hlc hic
   have HRd : Hid (RSt w1 ps pb S all ic nsc ac cc wp):=HRc
   clear HQ HRc
   obtain ⟨g0,rfl⟩ : ∃ g0,g = g0 + 1:=⟨g - 1,by omega⟩
   rw [rf_ops1] at hq
   obtain ⟨la,lc,tv,-,⟨x0,x1⟩,p0,p1,p2,p3,p4,p5⟩:=HRd.out.cells
   by_cases hc0 : cc = 0
   ·subst hc0
    go_wp2_with fail
    refine (r_op w1 _ pb S all ic nsc ac 0 k _ hn (by omega) hs HRd.out).mono ?_
    rintro e w7 ⟨rfl,hb⟩
    have HR7:=Lib.hid (HRd.out.below hb)
    clear hb HRd x0 x1 p0 p1 p2 p3 p4 p5
    cases hop : isBind (hdS S.size (all.drop ic)) k with
    | false =>
     rw [hop,if_neg (by simp)] at hq
     subst hq
     clear hop
     go_wp2_with fail
     first
      | go_end0
      | go_ret
      | refine bodyPost_ret (results_none rfl _ _ _) rfl ?_
     exact ⟨rfl,HR7.out⟩
    | true =>
     rw [hop,if_pos (by simp)] at hq
     have hlt : ic < all.length:=bind_lt (e:=S.size) (q:=⟨ic,nsc,ac,0,mc⟩) hop
     have HH:=keep (r_next w1 _ pb S all ic nsc ac 0 w7 hn (by omega) hs HR7.out)
     have hb3:=rf_num (e:=S.size) (all:=all) (f:=g0) (m:=.lv (k + 1)) (q:=⟨ic + 1,nsc,ac,0,mc⟩) hn (hlt) (by simp only [Mr.sl]; omega)
     have hc3 : ∀ qs W,RSt w1 qs pb S all (ic + 1) nsc ac 0 W → Calls Tryz.prog 30 #[.pointer (some ⟨pb,0,none⟩),.int .i64 ((k : Int) + 1)] W (RQ w1 qs pb S all (rf S.size all g0 (.lv (k + 1)) ⟨ic + 1,nsc,ac,0,mc⟩)):=by
      intro qs W h9
      rw [show ((k : Int) + 1) = ((k + 1 : Nat) : Int) by omega]
      exact HIH.out g0 (by omega) w1 qs pb S all ⟨ic + 1,nsc,ac,0,mc⟩ (.lv (k + 1)) W hn hs (hlt) (by simp only [Mr.sl]; omega) (by simp only [needR]; omega) h9 (by omega) (by omega)
     obtain ⟨⟨i3,ns3,a3,c3,n3⟩,hX3⟩ : ∃ q,rf S.size all g0 (.lv (k + 1)) ⟨ic + 1,nsc,ac,0,mc⟩ = q:=⟨_,rfl⟩
     rw [hX3] at hb3 hc3 hq
     simp only [Mr.sl] at hb3
     obtain ⟨hb3a,hb3b,hb3c,hb3d⟩:=hb3
     have HC3:=keep hc3
     clear hc3
     clear hX3
     obtain ⟨⟨tk,tn,tt,⟨t1,t2,t3,t4⟩,ta⟩,ht⟩ : ∃ t,hdS S.size (all.drop ic) = t:=⟨_,rfl⟩
     rw [ht] at HH hq
     have HQQ:=keep hq
     clear hop hq ht
     go_wp2_with fail
     refine (HH.out).mono ?_
     rintro e w8 ⟨rfl,hb⟩
     have HR8:=Lib.hid (HR7.out.below hb)
     clear hb HR7 HH
     simp only [tkA]
     obtain ⟨la,lc,tv,-,⟨x0,x1⟩,p0,p1,p2,p3,p4,p5⟩:=HR8.out.cells
     go_wp2_with fail
     refine (HC3.out _ _ HR8.out.inc).mono ?_
     rintro e w9 ⟨rfl,hst⟩
     have hst : RSt w1 ps pb S all i3 ns3 a3 c3 w9:=hst
     clear HC3 HR8 x0 x1 p0 p1 p2 p3 p4 p5
     obtain ⟨h1,h2,la2,lc2,tv2,hT,hO⟩:=hst
     have HT:=keep hT
     have H2:=keep h2
     have HO:=Lib.hid hO
     have F8:=hO.ok.sees
     simp only [sees,kVar,cellsAt,Nat.reduceAdd] at F8
     obtain ⟨⟨⟨x0,x1⟩,p0,p1,p2,p3,p4,p5,-⟩,-⟩:=F8
     clear hO hT h2
     obtain ⟨ln,hln⟩ : ∃ ln,ns3.length = ln:=⟨_,rfl⟩
     have HLN:=keep hln
     have hln9 : ln ≤ 1001:=by omega
     rw [hln] at HO
     clear hln
     go_wp2_with (at_builtin; refine wpList_append_lies _ rfl _ _ _ rfl w1.heap.size 32 i0 _ 11 96 Tryz.underlying22 hi9 hz0 hz1 hz2 rfl (by omega) _ _ _ rfl (HO.out.own.alloc _) ⟨w9.heap.size,0,none⟩ 1 1 [.int .u8 6,.int .u8 0,.int .i64 0,.string ⟨#[]⟩,.int .i64 0,.int .i64 0,.int .i64 0,.int .i64 0,.int .i64 tn,.int .u8 0,.int .i64 0] rfl rfl (World.news_of_block (cs:=#[.int .u8 6,.int .u8 0,.int .i64 0,.string ⟨#[]⟩,.int .i64 0,.int .i64 0,.int .i64 0,.int .i64 0,.int .i64 tn,.int .u8 0,.int .i64 0]) (t:=32) (fr:=(0,0)) (heap_alloc_new _ _)) (by intro u hu; simp at hu; rcases hu with rfl | rfl | rfl | rfl | rfl | rfl | rfl | rfl | rfl | rfl | rfl <;> rfl) (by omega) (by unfold maxLen; omega) (by omega) (by have:=HO.out.ok.bel.size; simp; omega) _ rfl ?_; intro g9 cap9 wg9 hown9 hgrow9 hat9 hlt9; have HQ:=Lib.hid ((HO.out.alloc_obj (.cells #[.int .u8 6,.int .u8 0,.int .i64 0,.string ⟨#[]⟩,.int .i64 0,.int .i64 0,.int .i64 0,.int .i64 0,.int .i64 tn,.int .u8 0,.int .i64 0] 32)).appended hown9 hgrow9 hat9); have HW9:=keep hown9; have HG9:=keep hgrow9; have HA9:=keep hat9; clear hown9 hgrow9 hat9; have F9:=HQ.out.ok.sees; simp only [sees,kVar,cellsAt,Nat.reduceAdd] at F9; obtain ⟨⟨⟨y0,y1⟩,y2,y3,y4,y5,y6,y7,-⟩,-⟩:=F9)
     go_roundg (all.length + 2 - i3)
     case rel => exact ⟨⟨i3,ns3 ++ [ndBin tn],a3,c3,n3⟩,g0,rfl,keep ⟨HQQ.out,by omega,by simp only; omega,hb3d,by simp only [List.length_append,List.length_singleton]; have:=HLN.out; omega,by simp only; omega⟩,Lib.hid (RSt.put HLN.out h1 H2.out HT.out (HO.out.alloc_obj _) (ndBin tn) HW9.out HG9.out HA9.out)⟩
     case measure => omega
   ·have hcb : ((cc : Int) == 0) = false:=by simpa using hc0
    rw [if_neg (fun h9 => hc0 h9.1)] at hq
    subst hq
    clear hc0
    go_wp2_with fail
    first
     | go_end0
     | go_ret
     | refine bodyPost_ret (results_none rfl _ _ _) rfl ?_
    exact ⟨rfl,HRd.out⟩
theorem r_want (w1 : World) (ps : List Pers) (pb : Nat) (S : ByteArray) (all : List Tk) (i : Nat) (ns : List Nd) (a c : Int) (n k : Nat) (w : World) (hn : all.length ≤ 1000) (hi : i ≤ 2000) (hs : S.size ≤ 4611686018427387904) (h : RSt w1 ps pb S all i ns a c w) :
  Calls Tryz.prog 165 #[.pointer (some ⟨pb,0,none⟩),.int .u8 (k : Nat)] w (RQ w1 ps pb S all ((⟨i,ns,a,c,n⟩ : Q).want S.size all k)):=by
 unfold Q.want
 by_cases hk : (hdS S.size (all.drop i)).kind = k
 ·rw [if_pos (show (Q.hd S.size all ⟨i,ns,a,c,n⟩).kind = k from hk)]
  exact r_want_ok w1 ps pb S all i ns a c k w hn hi hs h hk
 ·rw [if_neg (show ¬ (Q.hd S.size all ⟨i,ns,a,c,n⟩).kind = k from hk)]
  exact r_want_bad w1 ps pb S all i ns a c k w hn hi hs h hk
end Go.Proofs.YtlngjiibbcgkmaaGreatDoor
