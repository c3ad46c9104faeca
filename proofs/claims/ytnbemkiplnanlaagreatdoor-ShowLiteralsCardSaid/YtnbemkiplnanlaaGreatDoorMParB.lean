/- The parser's put, is, want, value and fail. -/
import Derived.Test.YtnbemkiplnanlaaGreatDoorMParA
import Derived.Test.YtnbemkiplnanlaaGreatDoorMIterV
namespace Go.Proofs.YtnbemkiplnanlaaGreatDoor
set_option maxRecDepth 100000
set_option maxHeartbeats 2000000
open Go.RowKit
theorem p_put (w1 : World) (ps : List Pers) (pb en : Nat) (ts : List Tk) (ns : List Nd) (n : Nd) (w : World) (hn : ns.length ≤ 1000) (h : St w1 ps pb en ts ns w) :
  Calls Tryz.prog 164 #[.pointer (some ⟨pb,0,none⟩),ndA n] w (Done (.tuple #[]) w1 ps pb en ts (ns ++ [n])):=by
 obtain ⟨i0,hi,hz0,hz1,hz2⟩:=info_parts info_node
 have hbel:=h.bel
 have HBEL:=Lib.hid hbel
 clear hbel
 have HPB:=keep h.lt
 have h:=h.alloc 41 (ndRow n)
 obtain ⟨h1,h2,la,c,ov,hT,hO⟩:=h
 have HS:=keep (ndCells_snoc ns n)
 obtain ⟨nk,vk,vn,vt,⟨r1,r2,r3,r4⟩,op,fn,nn⟩:=n
 have HO:=Lib.hid hO
 have HT:=keep hT
 have H2:=keep h2
 clear hO hT h2 h
 obtain ⟨ln,hln⟩ : ∃ ln,ns.length = ln:=⟨_,rfl⟩
 rw [hln] at hn HO
 have HLN:=keep hln
 clear hln
 unfold ndA ndRow
 go_enter Tryz.func164,Tryz.ntmps164
 go_wp2_with fail
 have HO2 : Hid (OkRow w1 (kVar pb 92 [.slice la ts.length c,.int .i64 (en : Int),ov] :: kBlk w.heap.size 41 [.int .u8 nk,.int .u8 vk,.int .i64 vn,.string ⟨vt.toArray⟩,.int .i64 r1,.int .i64 r2,.int .i64 r3,.int .i64 r4,.int .i64 op,.int .u8 fn,.int .i64 nn] :: ps) 41 11 ov ln (ndCells ns) (w.alloc (.cells #[.int .u8 nk,.int .u8 vk,.int .i64 vn,.string ⟨vt.toArray⟩,.int .i64 r1,.int .i64 r2,.int .i64 r3,.int .i64 r4,.int .i64 op,.int .u8 fn,.int .i64 nn] 41))):=HO
 clear HO
 generalize (w.alloc (.cells #[.int .u8 nk,.int .u8 vk,.int .i64 vn,.string ⟨vt.toArray⟩,.int .i64 r1,.int .i64 r2,.int .i64 r3,.int .i64 r4,.int .i64 op,.int .u8 fn,.int .i64 nn] 41)) = W0 at HO2 ⊢
 have HR:=Lib.hid HO2.out.drew
 have HB0:=Lib.hid HO2.out.ok.drew.bel
 clear HO2
 refine wp_region_any (by kernel_rfl) ?_
 change wpAny _ _ _ _ _ _ _ W0.drew
 generalize W0.drew = W1 at HR HB0 ⊢
 have F:=HR.out.ok.sees
 simp only [sees,kBlk,kVar,cellsAt,Nat.reduceAdd] at F
 obtain ⟨⟨⟨x0,x1⟩,x2,x3,x4,-⟩,⟨x5,v0,v1,v2,v3,v4,v5,v6,v7,v8,v9,v10,-⟩,-⟩:=F
 have HR1:=Lib.hid (HR.out.alloc_obj (.cells #[.int .u8 nk,.int .u8 vk,.int .i64 vn,.string ⟨vt.toArray⟩,.int .i64 r1,.int .i64 r2,.int .i64 r3,.int .i64 r4,.int .i64 op,.int .u8 fn,.int .i64 nn] 41))
 refine wtn (i:=0) (v:=?a1) rfl ?b1 ?c1
 case b1 => (intro w; go_simp; (try rw [if_neg (by omega)]); (try with_reducible rfl))
 try simp only [Act.put,wp1,wp2,wp3,wp4,wp6]
 refine wtn (i:=1) (v:=?a3) rfl ?b3 ?c3
 case b3 => (intro w; go_simp; (try rw [if_neg (by omega)]); (try with_reducible rfl))
 try simp only [Act.put,wp1,wp2,wp3,wp4,wp5,wp6]
 refine wtn (i:=2) (v:=?a5) rfl ?b5 ?c5
 case b5 => (intro w; go_simp; (try rw [if_neg (by omega)]); (try with_reducible rfl))
 try simp only [Act.put,wp1,wp2,wp3,wp4,wp5,wp6]
 refine wtn (i:=3) (v:=?a7) rfl ?b7 ?c7
 case b7 => (intro w; go_simp; (try rw [if_neg (by omega)]); (try with_reducible rfl))
 try simp only [Act.put,wp1,wp2,wp3,wp4,wp5,wp6]
 refine wpAny_ready (rs:=[4,5]) (by kernel_rfl) (by simp) ?_
 refine (AllReady.cons rfl (fun K hK => ?_) (AllReady.cons rfl (fun K hK => ?_) AllReady.nil))
 ·go_simp
  refine hK _ _ ?_
  clear hK K
  try simp only [Act.put,wp1,wp2,wp3,wp4,wp5,wp6]
  refine wpAny_ready (rs:=[5]) (by kernel_rfl) (by simp) ?_
  refine (AllReady.cons rfl (fun K hK => ?_) AllReady.nil)
  ·go_simp
   refine hK _ _ ?_
   clear hK K
   try simp only [Act.put,wp1,wp2,wp3,wp4,wp5,wp6]
   refine wpAny_ready (rs:=[6]) (by kernel_rfl) (by simp) ?_
   refine (AllReady.cons rfl (fun K hK => ?_) AllReady.nil)
   ·go_simp
    refine hK _ _ ?_
    clear hK K
    try simp only [Act.put,wp1,wp2,wp3,wp4,wp5,wp6]
    refine wpAny_ready (rs:=[7]) (by kernel_rfl) (by simp) ?_
    refine (AllReady.cons rfl (fun K hK => ?_) AllReady.nil)
    ·refine step_append_lies _ (by rfl) _ _ _ (by rfl) w1.heap.size 41 i0 _ 11 96 Tryz.underlying22 hi hz0 hz1 hz2 rfl (by omega) _ _ _ (by rfl) HR1.out.own ⟨W1.heap.size,0,none⟩ 1 1 [.int .u8 nk,.int .u8 vk,.int .i64 vn,.string ⟨vt.toArray⟩,.int .i64 r1,.int .i64 r2,.int .i64 r3,.int .i64 r4,.int .i64 op,.int .u8 fn,.int .i64 nn] (by rfl) (by rfl) (World.news_of_block (cs:=#[.int .u8 nk,.int .u8 vk,.int .i64 vn,.string ⟨vt.toArray⟩,.int .i64 r1,.int .i64 r2,.int .i64 r3,.int .i64 r4,.int .i64 op,.int .u8 fn,.int .i64 nn]) (t:=41) (fr:=(0,0)) (heap_alloc_new _ _)) (by intro u hu; simp at hu; rcases hu with rfl | rfl | rfl | rfl | rfl | rfl | rfl | rfl | rfl | rfl | rfl <;> rfl) (by omega) (by unfold maxLen; omega) (by omega) (by have:=HB0.out.size; simp; omega) (W1.heap.size + 1) (by simp) ?_
     intro g cap w3 hown3 hgrow3 hat3 hlt3
     have HR3:=Lib.hid (HR1.out.appended hown3 hgrow3 (by rw [World.size_alloc]; exact hat3))
     clear hown3 hgrow3 hat3
     refine hK _ _ ?_
     clear hK K
     try simp only [Act.put,wp1,wp2,wp3,wp4,wp5,wp6]
     refine wtn (i:=8) (v:=?a13) rfl ?b13 ?c13
     case b13 => (intro w; go_simp; (try rw [if_neg (by omega)]); (try with_reducible rfl))
     try simp only [Act.put,wp1,wp2,wp3,wp4,wp5,wp6]
     refine wtn (i:=9) (v:=?a15) rfl ?b15 ?c15
     case b15 => (intro w; go_simp; (try rw [if_neg (by omega)]); (try with_reducible rfl))
     try simp only [Act.put,wp1,wp2,wp3,wp4,wp5,wp6]
     refine wpAny_ready (rs:=[10]) (by kernel_rfl) (by simp) ?_
     refine (AllReady.cons rfl (fun K hK => ?_) AllReady.nil)
     ·have F3:=HR3.out.ok.sees
      simp only [sees,kBlk,kVar,cellsAt,Nat.reduceAdd] at F3
      obtain ⟨⟨⟨y0,y1⟩,y2,y3,y4,-⟩,-,-⟩:=F3
      go_simp
      have HR4:=Lib.hid (HR3.out.set_ (i:=2) (u:=.slice (some ⟨g,0,none⟩) (ln + 1) cap) h1 H2.out)
      refine hK _ _ ?_
      clear hK K
      try simp only [Act.put,wp1,wp2,wp3,wp4,wp5,wp6]
      refine wpAny_done (by kernel_rfl) ?_ _
      first
       | go_end0
       | refine bodyPost_ret (results_none rfl _ _ _) rfl ?_
      refine ⟨rfl,h1,fun x hx => H2.out x (List.mem_cons_of_mem _ hx),la,c,.slice (some ⟨g,0,none⟩) (ln + 1) cap,HT.out,?_⟩
      have h9:=HR4.out
      rw [HS.out,List.length_append,HLN.out]
      exact h9.drop _ (by intro z hz; simp at hz ⊢; rcases hz with h | h <;> simp [h])
 ·go_simp
  refine hK _ _ ?_
  clear hK K
  try simp only [Act.put,wp1,wp2,wp3,wp4,wp5,wp6]
  refine wpAny_ready (rs:=[4,6]) (by kernel_rfl) (by simp) ?_
  refine (AllReady.cons rfl (fun K hK => ?_) (AllReady.cons rfl (fun K hK => ?_) AllReady.nil))
  ·go_simp
   refine hK _ _ ?_
   clear hK K
   try simp only [Act.put,wp1,wp2,wp3,wp4,wp5,wp6]
   refine wpAny_ready (rs:=[6]) (by kernel_rfl) (by simp) ?_
   refine (AllReady.cons rfl (fun K hK => ?_) AllReady.nil)
   ·go_simp
    refine hK _ _ ?_
    clear hK K
    try simp only [Act.put,wp1,wp2,wp3,wp4,wp5,wp6]
    refine wpAny_ready (rs:=[7]) (by kernel_rfl) (by simp) ?_
    refine (AllReady.cons rfl (fun K hK => ?_) AllReady.nil)
    ·refine step_append_lies _ (by rfl) _ _ _ (by rfl) w1.heap.size 41 i0 _ 11 96 Tryz.underlying22 hi hz0 hz1 hz2 rfl (by omega) _ _ _ (by rfl) HR1.out.own ⟨W1.heap.size,0,none⟩ 1 1 [.int .u8 nk,.int .u8 vk,.int .i64 vn,.string ⟨vt.toArray⟩,.int .i64 r1,.int .i64 r2,.int .i64 r3,.int .i64 r4,.int .i64 op,.int .u8 fn,.int .i64 nn] (by rfl) (by rfl) (World.news_of_block (cs:=#[.int .u8 nk,.int .u8 vk,.int .i64 vn,.string ⟨vt.toArray⟩,.int .i64 r1,.int .i64 r2,.int .i64 r3,.int .i64 r4,.int .i64 op,.int .u8 fn,.int .i64 nn]) (t:=41) (fr:=(0,0)) (heap_alloc_new _ _)) (by intro u hu; simp at hu; rcases hu with rfl | rfl | rfl | rfl | rfl | rfl | rfl | rfl | rfl | rfl | rfl <;> rfl) (by omega) (by unfold maxLen; omega) (by omega) (by have:=HB0.out.size; simp; omega) (W1.heap.size + 1) (by simp) ?_
     intro g cap w3 hown3 hgrow3 hat3 hlt3
     have HR3:=Lib.hid (HR1.out.appended hown3 hgrow3 (by rw [World.size_alloc]; exact hat3))
     clear hown3 hgrow3 hat3
     refine hK _ _ ?_
     clear hK K
     try simp only [Act.put,wp1,wp2,wp3,wp4,wp5,wp6]
     refine wtn (i:=8) (v:=?a22) rfl ?b22 ?c22
     case b22 => (intro w; go_simp; (try rw [if_neg (by omega)]); (try with_reducible rfl))
     try simp only [Act.put,wp1,wp2,wp3,wp4,wp5,wp6]
     refine wtn (i:=9) (v:=?a24) rfl ?b24 ?c24
     case b24 => (intro w; go_simp; (try rw [if_neg (by omega)]); (try with_reducible rfl))
     try simp only [Act.put,wp1,wp2,wp3,wp4,wp5,wp6]
     refine wpAny_ready (rs:=[10]) (by kernel_rfl) (by simp) ?_
     refine (AllReady.cons rfl (fun K hK => ?_) AllReady.nil)
     ·have F3:=HR3.out.ok.sees
      simp only [sees,kBlk,kVar,cellsAt,Nat.reduceAdd] at F3
      obtain ⟨⟨⟨y0,y1⟩,y2,y3,y4,-⟩,-,-⟩:=F3
      go_simp
      have HR4:=Lib.hid (HR3.out.set_ (i:=2) (u:=.slice (some ⟨g,0,none⟩) (ln + 1) cap) h1 H2.out)
      refine hK _ _ ?_
      clear hK K
      try simp only [Act.put,wp1,wp2,wp3,wp4,wp5,wp6]
      refine wpAny_done (by kernel_rfl) ?_ _
      first
       | go_end0
       | refine bodyPost_ret (results_none rfl _ _ _) rfl ?_
      refine ⟨rfl,h1,fun x hx => H2.out x (List.mem_cons_of_mem _ hx),la,c,.slice (some ⟨g,0,none⟩) (ln + 1) cap,HT.out,?_⟩
      have h9:=HR4.out
      rw [HS.out,List.length_append,HLN.out]
      exact h9.drop _ (by intro z hz; simp at hz ⊢; rcases hz with h | h <;> simp [h])
  ·go_simp
   refine hK _ _ ?_
   clear hK K
   try simp only [Act.put,wp1,wp2,wp3,wp4,wp5,wp6]
   refine wpAny_ready (rs:=[4]) (by kernel_rfl) (by simp) ?_
   refine (AllReady.cons rfl (fun K hK => ?_) AllReady.nil)
   ·go_simp
    refine hK _ _ ?_
    clear hK K
    try simp only [Act.put,wp1,wp2,wp3,wp4,wp5,wp6]
    refine wpAny_ready (rs:=[7]) (by kernel_rfl) (by simp) ?_
    refine (AllReady.cons rfl (fun K hK => ?_) AllReady.nil)
    ·refine step_append_lies _ (by rfl) _ _ _ (by rfl) w1.heap.size 41 i0 _ 11 96 Tryz.underlying22 hi hz0 hz1 hz2 rfl (by omega) _ _ _ (by rfl) HR1.out.own ⟨W1.heap.size,0,none⟩ 1 1 [.int .u8 nk,.int .u8 vk,.int .i64 vn,.string ⟨vt.toArray⟩,.int .i64 r1,.int .i64 r2,.int .i64 r3,.int .i64 r4,.int .i64 op,.int .u8 fn,.int .i64 nn] (by rfl) (by rfl) (World.news_of_block (cs:=#[.int .u8 nk,.int .u8 vk,.int .i64 vn,.string ⟨vt.toArray⟩,.int .i64 r1,.int .i64 r2,.int .i64 r3,.int .i64 r4,.int .i64 op,.int .u8 fn,.int .i64 nn]) (t:=41) (fr:=(0,0)) (heap_alloc_new _ _)) (by intro u hu; simp at hu; rcases hu with rfl | rfl | rfl | rfl | rfl | rfl | rfl | rfl | rfl | rfl | rfl <;> rfl) (by omega) (by unfold maxLen; omega) (by omega) (by have:=HB0.out.size; simp; omega) (W1.heap.size + 1) (by simp) ?_
     intro g cap w3 hown3 hgrow3 hat3 hlt3
     have HR3:=Lib.hid (HR1.out.appended hown3 hgrow3 (by rw [World.size_alloc]; exact hat3))
     clear hown3 hgrow3 hat3
     refine hK _ _ ?_
     clear hK K
     try simp only [Act.put,wp1,wp2,wp3,wp4,wp5,wp6]
     refine wtn (i:=8) (v:=?a30) rfl ?b30 ?c30
     case b30 => (intro w; go_simp; (try rw [if_neg (by omega)]); (try with_reducible rfl))
     try simp only [Act.put,wp1,wp2,wp3,wp4,wp5,wp6]
     refine wtn (i:=9) (v:=?a32) rfl ?b32 ?c32
     case b32 => (intro w; go_simp; (try rw [if_neg (by omega)]); (try with_reducible rfl))
     try simp only [Act.put,wp1,wp2,wp3,wp4,wp5,wp6]
     refine wpAny_ready (rs:=[10]) (by kernel_rfl) (by simp) ?_
     refine (AllReady.cons rfl (fun K hK => ?_) AllReady.nil)
     ·have F3:=HR3.out.ok.sees
      simp only [sees,kBlk,kVar,cellsAt,Nat.reduceAdd] at F3
      obtain ⟨⟨⟨y0,y1⟩,y2,y3,y4,-⟩,-,-⟩:=F3
      go_simp
      have HR4:=Lib.hid (HR3.out.set_ (i:=2) (u:=.slice (some ⟨g,0,none⟩) (ln + 1) cap) h1 H2.out)
      refine hK _ _ ?_
      clear hK K
      try simp only [Act.put,wp1,wp2,wp3,wp4,wp5,wp6]
      refine wpAny_done (by kernel_rfl) ?_ _
      first
       | go_end0
       | refine bodyPost_ret (results_none rfl _ _ _) rfl ?_
      refine ⟨rfl,h1,fun x hx => H2.out x (List.mem_cons_of_mem _ hx),la,c,.slice (some ⟨g,0,none⟩) (ln + 1) cap,HT.out,?_⟩
      have h9:=HR4.out
      rw [HS.out,List.length_append,HLN.out]
      exact h9.drop _ (by intro z hz; simp at hz ⊢; rcases hz with h | h <;> simp [h])
def faultP (a c : Int) : List PanicEntry:=[{ v:=.iface 89 (.agg #[.int .i64 a,.int .i64 c]),recovered:=false }]
def Bad (a c : Int) (w1 : World) (e : Ending) (w' : World) : Prop:=e = .panicked (faultP a c) ∧ Below w1.heap.size w1 w'
theorem p_fail (w1 : World) (pb : Nat) (a c : Int) (w : World) (h : Below w1.heap.size w1 w) :
  Calls Tryz.prog 61 #[.pointer (some ⟨pb,0,none⟩),.int .i64 a,.int .i64 c] w (Bad a c w1):=by
 have HB:=Lib.hid h
 clear h
 go_enter Tryz.func61,Tryz.ntmps61
 go_wp2_with fail
 exact ⟨rfl,rfl,HB.out⟩
theorem is_hd (en : Nat) (ts : List Tk) (op : Int) : isOp ts op = decide ((hdS en ts).kind = 8 ∧ (hdS en ts).num = op):=by
 cases ts with
 | nil => simp [isOp,hdS]
 | cons t ts => rfl
theorem p_is (w1 : World) (ps : List Pers) (pb en : Nat) (ts : List Tk) (ns : List Nd) (op : Int) (w : World) (h : St w1 ps pb en ts ns w) :
  Calls Tryz.prog 206 #[.pointer (some ⟨pb,0,none⟩),.int .i64 op] w fun e w' => e = .returned (.bool (isOp ts op)) ∧ Below w.heap.size w w':=by
 rw [is_hd en]
 have HH:=keep (p_head w1 ps pb en ts ns w h)
 have H0:=Lib.hid (Ok.start w)
 clear h
 obtain ⟨⟨tk,tn,tt,⟨t1,t2,t3,t4⟩,ta⟩,ht⟩ : ∃ t,hdS en ts = t:=⟨_,rfl⟩
 rw [ht] at HH ⊢
 clear ht
 simp only []
 go_enter Tryz.func206,Tryz.ntmps206
 go_wp2_with fail
 refine (HH.out).mono ?_
 rintro e w1 ⟨rfl,hb2⟩
 have H3:=Lib.hid (H0.out.below hb2)
 clear hb2 H0
 clear HH
 simp only [tkA]
 go_upto_region 2 with fail
 have H4:=Lib.hid (H3.out.alloc w1.heap.size 94 [.int .u8 tk,.int .i64 tn,.string ⟨tt.toArray⟩,.int .i64 t1,.int .i64 t2,.int .i64 t3,.int .i64 t4,.int .i64 ta] rfl)
 clear H3
 generalize (w1.alloc (.cells #[.int .u8 tk,.int .i64 tn,.string ⟨tt.toArray⟩,.int .i64 t1,.int .i64 t2,.int .i64 t3,.int .i64 t4,.int .i64 ta] 94)) = W5 at H4 ⊢
 have F6:=H4.out.sees
 simp only [sees,kBlk,cellsAt,Nat.reduceAdd] at F6
 obtain ⟨⟨z0,c0_0,c0_1,c0_2,c0_3,c0_4,c0_5,c0_6,c0_7,-⟩,-⟩:=F6
 by_cases h8 : tk = 8
 ·subst h8
  go_wp2_with fail
  go_ret
  exact ⟨by congr 2,H4.out.bel⟩
 ·have h8b : ((tk : Int) == 8) = false:=by simp; omega
  go_wp2_with fail
  go_ret
  exact ⟨by simp [h8],H4.out.bel⟩
theorem p_want_ok (w1 : World) (ps : List Pers) (pb en : Nat) (ts : List Tk) (ns : List Nd) (k : Nat) (w : World) (h : St w1 ps pb en ts ns w) (hk : (hdS en ts).kind = k) (h0 : k ≠ 0) :
  Calls Tryz.prog 249 #[.pointer (some ⟨pb,0,none⟩),.int .u8 (k : Nat)] w (Done (.tuple #[]) w1 ps pb en (ts.drop 1) ns):=by
 cases ts with
 | nil => exact absurd hk.symm h0
 | cons t ts =>
  obtain ⟨tk,tn,tt,⟨t1,t2,t3,t4⟩,ta⟩:=t
  have hk2 : tk = k:=hk
  subst hk2
  have HH:=keep (p_head w1 ps pb en _ ns w h)
  have H:=Lib.hid h
  clear h hk h0
  simp only [List.drop_succ_cons,List.drop_zero]
  go_enter Tryz.func249,Tryz.ntmps249
  go_wp2_with fail
  refine (HH.out).mono ?_
  rintro e wa1 ⟨rfl,hb2⟩
  have H3:=Lib.hid (H.out.below hb2)
  clear hb2 H
  clear HH
  simp only [hdS,tkA]
  go_upto_region 1 with fail
  have H4:=Lib.hid (H3.out.alloc 94 [.int .u8 tk,.int .i64 tn,.string ⟨tt.toArray⟩,.int .i64 t1,.int .i64 t2,.int .i64 t3,.int .i64 t4,.int .i64 ta])
  clear H3
  have H4a : Hid (St w1 (kBlk wa1.heap.size 94 [.int .u8 tk,.int .i64 tn,.string ⟨tt.toArray⟩,.int .i64 t1,.int .i64 t2,.int .i64 t3,.int .i64 t4,.int .i64 ta] :: ps) pb en (⟨tk,tn,tt,⟨t1,t2,t3,t4⟩,ta⟩ :: ts) ns (wa1.alloc (.cells #[.int .u8 tk,.int .i64 tn,.string ⟨tt.toArray⟩,.int .i64 t1,.int .i64 t2,.int .i64 t3,.int .i64 t4,.int .i64 ta] 94))):=H4
  clear H4
  generalize (wa1.alloc (.cells #[.int .u8 tk,.int .i64 tn,.string ⟨tt.toArray⟩,.int .i64 t1,.int .i64 t2,.int .i64 t3,.int .i64 t4,.int .i64 ta] 94)) = Wa5 at H4a ⊢
  have F6:=H4a.out.sees
  simp only [sees,kBlk,cellsAt,Nat.reduceAdd] at F6
  obtain ⟨zp,⟨z0,c0_0,c0_1,c0_2,c0_3,c0_4,c0_5,c0_6,c0_7,-⟩,-⟩:=F6
  go_wp2_with fail
  refine (p_skip w1 _ pb en _ ts ns _ H4a.out).mono ?_
  rintro e wa7 ⟨rfl,hd9⟩
  clear zp z0 c0_0 c0_1 c0_2 c0_3 c0_4 c0_5 c0_6 c0_7
  have H8:=Lib.hid hd9
  clear hd9 H4a
  have F9:=H8.out.sees
  simp only [sees,kBlk,cellsAt,Nat.reduceAdd] at F9
  obtain ⟨zp,⟨z0,c0_0,c0_1,c0_2,c0_3,c0_4,c0_5,c0_6,c0_7,-⟩,-⟩:=F9
  go_wp2_with fail
  first
   | go_end0
   | refine bodyPost_ret (results_none rfl _ _ _) rfl ?_
  exact ⟨rfl,H8.out.tail⟩
theorem p_want_bad (w1 : World) (ps : List Pers) (pb en : Nat) (ts : List Tk) (ns : List Nd) (k : Nat) (w : World) (h : St w1 ps pb en ts ns w) (hk : (hdS en ts).kind ≠ k) :
  Calls Tryz.prog 249 #[.pointer (some ⟨pb,0,none⟩),.int .u8 (k : Nat)] w (Bad ((hdS en ts).at_ : Nat) 4 w1):=by
 have HH:=keep (p_head w1 ps pb en _ ns w h)
 have H:=Lib.hid h
 obtain ⟨⟨tk,tn,tt,⟨t1,t2,t3,t4⟩,ta⟩,ht⟩ : ∃ t,hdS en ts = t:=⟨_,rfl⟩
 rw [ht] at HH hk ⊢
 have hk3 : tk ≠ k:=hk
 have hk2 : ((tk : Int) == (k : Int)) = false:=by simp; omega
 clear hk3
 clear h hk ht
 go_enter Tryz.func249,Tryz.ntmps249
 go_wp2_with fail
 refine (HH.out).mono ?_
 rintro e wa1 ⟨rfl,hb2⟩
 have H3:=Lib.hid (H.out.below hb2)
 clear hb2 H
 clear HH
 simp only [tkA]
 go_upto_region 1 with fail
 have H4:=Lib.hid (H3.out.alloc 94 [.int .u8 tk,.int .i64 tn,.string ⟨tt.toArray⟩,.int .i64 t1,.int .i64 t2,.int .i64 t3,.int .i64 t4,.int .i64 ta])
 clear H3
 have H4a : Hid (St w1 (kBlk wa1.heap.size 94 [.int .u8 tk,.int .i64 tn,.string ⟨tt.toArray⟩,.int .i64 t1,.int .i64 t2,.int .i64 t3,.int .i64 t4,.int .i64 ta] :: ps) pb en ts ns (wa1.alloc (.cells #[.int .u8 tk,.int .i64 tn,.string ⟨tt.toArray⟩,.int .i64 t1,.int .i64 t2,.int .i64 t3,.int .i64 t4,.int .i64 ta] 94))):=H4
 clear H4
 generalize (wa1.alloc (.cells #[.int .u8 tk,.int .i64 tn,.string ⟨tt.toArray⟩,.int .i64 t1,.int .i64 t2,.int .i64 t3,.int .i64 t4,.int .i64 ta] 94)) = Wa5 at H4a ⊢
 have F6:=H4a.out.sees
 simp only [sees,kBlk,cellsAt,Nat.reduceAdd] at F6
 obtain ⟨zp,⟨z0,c0_0,c0_1,c0_2,c0_3,c0_4,c0_5,c0_6,c0_7,-⟩,-⟩:=F6
 go_wp2_with fail
 refine (p_fail w1 pb _ _ _ H4a.out.bel).mono ?_
 rintro e wa7 ⟨rfl,hb8⟩
 clear zp z0 c0_0 c0_1 c0_2 c0_3 c0_4 c0_5 c0_6 c0_7
 have HZ:=Lib.hid (hb8)
 clear hb8
 go_wp2_with fail
 exact ⟨rfl,rfl,HZ.out⟩
theorem p_value (w1 : World) (ps : List Pers) (pb en : Nat) (t : Tk) (ts : List Tk) (ns : List Nd) (vk : Nat) (vn : Int) (vt : List UInt8) (w : World) (hn : ns.length ≤ 1000) (h : St w1 ps pb en (t :: ts) ns w) :
  Calls Tryz.prog 248 #[.pointer (some ⟨pb,0,none⟩),.agg #[.int .u8 (vk : Nat),.int .i64 vn,.string ⟨vt.toArray⟩]] w (Done (.tuple #[]) w1 ps pb en ts (ns ++ [⟨1,vk,vn,vt,R4.zero,0,0,0⟩])):=by
 have H:=Lib.hid h
 clear h
 go_enter Tryz.func248,Tryz.ntmps248
 go_upto_region 1 with fail
 have H1:=Lib.hid (H.out.alloc 35 [.int .u8 vk,.int .i64 vn,.string ⟨vt.toArray⟩])
 clear H
 have H1a : Hid (St w1 (kBlk w.heap.size 35 [.int .u8 vk,.int .i64 vn,.string ⟨vt.toArray⟩] :: ps) pb en (t :: ts) ns (w.alloc (.cells #[.int .u8 vk,.int .i64 vn,.string ⟨vt.toArray⟩] 35))):=H1
 clear H1
 generalize (w.alloc (.cells #[.int .u8 vk,.int .i64 vn,.string ⟨vt.toArray⟩] 35)) = Wa2 at H1a ⊢
 have F3:=H1a.out.sees
 simp only [sees,kBlk,cellsAt,Nat.reduceAdd] at F3
 obtain ⟨zp,⟨z0,c0_0,c0_1,c0_2,-⟩,-⟩:=F3
 go_wp2_with fail
 refine (p_skip w1 _ pb en _ ts ns _ H1a.out).mono ?_
 rintro e wa4 ⟨rfl,hd9⟩
 clear zp z0 c0_0 c0_1 c0_2
 have H5:=Lib.hid hd9
 clear hd9 H1a
 have F6:=H5.out.sees
 simp only [sees,kBlk,cellsAt,Nat.reduceAdd] at F6
 obtain ⟨zp,⟨z0,c0_0,c0_1,c0_2,-⟩,-⟩:=F6
 go_wp2_with fail
 refine (p_put w1 _ pb en ts ns ⟨1,vk,vn,vt,R4.zero,0,0,0⟩ _ hn H5.out).mono ?_
 rintro e wa7 ⟨rfl,hd9⟩
 clear zp z0 c0_0 c0_1 c0_2
 have H8:=Lib.hid hd9
 clear hd9 H5
 have F9:=H8.out.sees
 simp only [sees,kBlk,cellsAt,Nat.reduceAdd] at F9
 obtain ⟨zp,⟨z0,c0_0,c0_1,c0_2,-⟩,-⟩:=F9
 go_wp2_with fail
 first
  | go_end0
  | refine bodyPost_ret (results_none rfl _ _ _) rfl ?_
 exact ⟨rfl,H8.out.tail⟩
end Go.Proofs.YtnbemkiplnanlaaGreatDoor
