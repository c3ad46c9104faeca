/- The parser's put, is, want, value and fail. The contract of tree.Function. The contract of tree.names and tree.Function. The contracts of what parse.Formula defers. -/
import Derived.Test.YtdplcdhpnmcdjaaGreatDoorEParA
import Derived.Test.YtdplcdhpnmcdjaaGreatDoorETg
import Derived.Test.YtdplcdhpnmcdjaaGreatDoorERefG
import Derived.Defers
import Derived.Recover
namespace Go.Proofs.YtdplcdhpnmcdjaaGreatDoor
set_option maxRecDepth 100000
set_option maxHeartbeats 2000000
open Go.RowKit Go.Proofs.Tryz
theorem fB (w1:World) (ps:List aS) (pb en:Nat) (ts:List Tk) (ns:List Nd) (n:Nd) (w:World) (hn:ns.length≤1000) (h:St w1 ps pb en ts ns w) :
  Calls prog 170 #[.pointer (some ⟨pb,0,none⟩),ndA n] w (pB (.tuple #[]) w1 ps pb en ts (ns++[n])):=by
 obtain ⟨i0,hi,hz0,hz1,hz2⟩:=info_parts p8
 have hbel:=h.bel
 have HBEL:=Lib.hid hbel
 clear hbel
 have HPB:=keep h.lt
 have h:=h.alloc 39 (du n)
 obtain ⟨h1,h2,la,c,ov,hT,hO⟩:=h
 have HS:=keep (gU ns n)
 obtain ⟨nk,vk,vn,vt,⟨r1,r2,r3,r4⟩,op,fn,nn⟩:=n
 have HO:=Lib.hid hO
 have HT:=keep hT
 have H2:=keep h2
 clear hO hT h2 h
 obtain ⟨ln,hln⟩:=ex (ns.length)
 rw [hln] at hn HO
 have HLN:=keep hln
 clear hln
 unfold ndA du
 go_enter func170,ntmps170
 go_wp2_with fail
 have HO2:Hid (an w1 (af pb 95 [.slice la ts.length c,.int .i64 (en:Int),ov]::ac w.heap.size 39 [.int .u8 nk,.int .u8 vk,.int .i64 vn,.string ⟨vt.toArray⟩,.int .i64 r1,.int .i64 r2,.int .i64 r3,.int .i64 r4,.int .i64 op,.int .u8 fn,.int .i64 nn]::ps) 39 11 ov ln (de ns) (w.alloc (.cells #[.int .u8 nk,.int .u8 vk,.int .i64 vn,.string ⟨vt.toArray⟩,.int .i64 r1,.int .i64 r2,.int .i64 r3,.int .i64 r4,.int .i64 op,.int .u8 fn,.int .i64 nn] 39))):=HO
 clear HO
 generalize (w.alloc (.cells #[.int .u8 nk,.int .u8 vk,.int .i64 vn,.string ⟨vt.toArray⟩,.int .i64 r1,.int .i64 r2,.int .i64 r3,.int .i64 r4,.int .i64 op,.int .u8 fn,.int .i64 nn] 39))=W0 at HO2 ⊢
 have HR:=Lib.hid HO2.out.drew
 have HB0:=Lib.hid HO2.out.ok.drew.bel
 clear HO2
 refine wp_region_any (by kernel_rfl) ?_
 change wpAny _ _ _ _ _ _ _ W0.drew
 generalize W0.drew=W1 at HR HB0 ⊢
 have F:=sR HR
 have HR1:=Lib.hid (HR.out.alloc_obj (.cells #[.int .u8 nk,.int .u8 vk,.int .i64 vn,.string ⟨vt.toArray⟩,.int .i64 r1,.int .i64 r2,.int .i64 r3,.int .i64 r4,.int .i64 op,.int .u8 fn,.int .i64 nn] 39))
 refine wt5 0 ?_
 refine wt5 1 ?_
 refine wt5 2 ?_
 refine wt5 3 ?_
 refine wpAny_ready (rs:=[4,5]) (by kernel_rfl) (by simp) ?_
 refine (AllReady.cons rfl (fun K hK => ?_) (AllReady.cons rfl (fun K hK => ?_) AllReady.nil))
 ·go_simp
  refine hK _ _ ?_
  clear hK K
  refine wm ?_
  refine wan 5 fun K hK => ?_
  ·go_simp
   refine hK _ _ ?_
   clear hK K
   refine wm ?_
   refine wan 6 fun K hK => ?_
   ·go_simp
    refine hK _ _ ?_
    clear hK K
    refine wm ?_
    refine wan 7 fun K hK => ?_
    ·refine step_append_lies _ (by rfl) _ _ _ (by rfl) w1.heap.size 39 i0 _ 11 96 underlying22 hi hz0 hz1 hz2 rfl (by omega) _ _ _ (by rfl) HR1.out.own ⟨W1.heap.size,0,none⟩ 1 1 [.int .u8 nk,.int .u8 vk,.int .i64 vn,.string ⟨vt.toArray⟩,.int .i64 r1,.int .i64 r2,.int .i64 r3,.int .i64 r4,.int .i64 op,.int .u8 fn,.int .i64 nn] (by rfl) (by rfl) (World.news_of_block (cs:=#[.int .u8 nk,.int .u8 vk,.int .i64 vn,.string ⟨vt.toArray⟩,.int .i64 r1,.int .i64 r2,.int .i64 r3,.int .i64 r4,.int .i64 op,.int .u8 fn,.int .i64 nn]) (t:=39) (fr:=(0,0)) (heap_alloc_new _ _)) (by intro u hu; simp at hu; rcases hu with rfl | rfl | rfl | rfl | rfl | rfl | rfl | rfl | rfl | rfl | rfl <;> rfl) (by omega) (by unfold maxLen; omega) (by omega) (by have:=HB0.out.size; simp; omega) (W1.heap.size+1) (by simp) ?_
     intro g cap w3 hown3 hgrow3 hat3 hlt3
     have HR3:=Lib.hid (HR1.out.appended hown3 hgrow3 (by rw [World.size_alloc]; exact hat3))
     clear hown3 hgrow3 hat3
     refine hK _ _ ?_
     clear hK K
     refine wm ?_
     refine wt5 8 ?_
     refine wt5 9 ?_
     refine wan 10 fun K hK => ?_
     ·have F3:=sR HR3
      go_simp
      have HR4:=Lib.hid (HR3.out.set_ (i:=2) (u:=.slice (some ⟨g,0,none⟩) (ln+1) cap) h1 H2.out)
      refine hK _ _ ?_
      clear hK K
      refine wm ?_
      refine wpAny_done (by kernel_rfl) ?_ _
      first
       | go_end0
       | refine bodyPost_ret (results_none rfl _ _ _) rfl ?_
      refine ⟨rfl,h1,fun x hx=>H2.out x (List.mem_cons_of_mem _ hx),la,c,.slice (some ⟨g,0,none⟩) (ln+1) cap,HT.out,?_⟩
      have h9:=HR4.out
      rw [HS.out,List.length_append,HLN.out]
      exact h9.drop _ (by intro z hz; simp at hz ⊢; rcases hz with h | h <;> simp [h])
 go_simp
 refine hK _ _ ?_
 clear hK K
 refine wm ?_
 refine wpAny_ready (rs:=[4,6]) (by kernel_rfl) (by simp) ?_
 refine (AllReady.cons rfl (fun K hK => ?_) (AllReady.cons rfl (fun K hK => ?_) AllReady.nil))
 ·go_simp
  refine hK _ _ ?_
  clear hK K
  refine wm ?_
  refine wan 6 fun K hK => ?_
  ·go_simp
   refine hK _ _ ?_
   clear hK K
   refine wm ?_
   refine wan 7 fun K hK => ?_
   ·refine step_append_lies _ (by rfl) _ _ _ (by rfl) w1.heap.size 39 i0 _ 11 96 underlying22 hi hz0 hz1 hz2 rfl (by omega) _ _ _ (by rfl) HR1.out.own ⟨W1.heap.size,0,none⟩ 1 1 [.int .u8 nk,.int .u8 vk,.int .i64 vn,.string ⟨vt.toArray⟩,.int .i64 r1,.int .i64 r2,.int .i64 r3,.int .i64 r4,.int .i64 op,.int .u8 fn,.int .i64 nn] (by rfl) (by rfl) (World.news_of_block (cs:=#[.int .u8 nk,.int .u8 vk,.int .i64 vn,.string ⟨vt.toArray⟩,.int .i64 r1,.int .i64 r2,.int .i64 r3,.int .i64 r4,.int .i64 op,.int .u8 fn,.int .i64 nn]) (t:=39) (fr:=(0,0)) (heap_alloc_new _ _)) (by intro u hu; simp at hu; rcases hu with rfl | rfl | rfl | rfl | rfl | rfl | rfl | rfl | rfl | rfl | rfl <;> rfl) (by omega) (by unfold maxLen; omega) (by omega) (by have:=HB0.out.size; simp; omega) (W1.heap.size+1) (by simp) ?_
    intro g cap w3 hown3 hgrow3 hat3 hlt3
    have HR3:=Lib.hid (HR1.out.appended hown3 hgrow3 (by rw [World.size_alloc]; exact hat3))
    clear hown3 hgrow3 hat3
    refine hK _ _ ?_
    clear hK K
    refine wm ?_
    refine wt5 8 ?_
    refine wt5 9 ?_
    refine wan 10 fun K hK => ?_
    ·have F3:=sR HR3
     go_simp
     have HR4:=Lib.hid (HR3.out.set_ (i:=2) (u:=.slice (some ⟨g,0,none⟩) (ln+1) cap) h1 H2.out)
     refine hK _ _ ?_
     clear hK K
     refine wm ?_
     refine wpAny_done (by kernel_rfl) ?_ _
     first
      | go_end0
      | refine bodyPost_ret (results_none rfl _ _ _) rfl ?_
     refine ⟨rfl,h1,fun x hx=>H2.out x (List.mem_cons_of_mem _ hx),la,c,.slice (some ⟨g,0,none⟩) (ln+1) cap,HT.out,?_⟩
     have h9:=HR4.out
     rw [HS.out,List.length_append,HLN.out]
     exact h9.drop _ (by intro z hz; simp at hz ⊢; rcases hz with h | h <;> simp [h])
 go_simp
 refine hK _ _ ?_
 clear hK K
 refine wm ?_
 refine wan 4 fun K hK => ?_
 ·go_simp
  refine hK _ _ ?_
  clear hK K
  refine wm ?_
  refine wan 7 fun K hK => ?_
  ·refine step_append_lies _ (by rfl) _ _ _ (by rfl) w1.heap.size 39 i0 _ 11 96 underlying22 hi hz0 hz1 hz2 rfl (by omega) _ _ _ (by rfl) HR1.out.own ⟨W1.heap.size,0,none⟩ 1 1 [.int .u8 nk,.int .u8 vk,.int .i64 vn,.string ⟨vt.toArray⟩,.int .i64 r1,.int .i64 r2,.int .i64 r3,.int .i64 r4,.int .i64 op,.int .u8 fn,.int .i64 nn] (by rfl) (by rfl) (World.news_of_block (cs:=#[.int .u8 nk,.int .u8 vk,.int .i64 vn,.string ⟨vt.toArray⟩,.int .i64 r1,.int .i64 r2,.int .i64 r3,.int .i64 r4,.int .i64 op,.int .u8 fn,.int .i64 nn]) (t:=39) (fr:=(0,0)) (heap_alloc_new _ _)) (by intro u hu; simp at hu; rcases hu with rfl | rfl | rfl | rfl | rfl | rfl | rfl | rfl | rfl | rfl | rfl <;> rfl) (by omega) (by unfold maxLen; omega) (by omega) (by have:=HB0.out.size; simp; omega) (W1.heap.size+1) (by simp) ?_
   intro g cap w3 hown3 hgrow3 hat3 hlt3
   have HR3:=Lib.hid (HR1.out.appended hown3 hgrow3 (by rw [World.size_alloc]; exact hat3))
   clear hown3 hgrow3 hat3
   refine hK _ _ ?_
   clear hK K
   refine wm ?_
   refine wt5 8 ?_
   refine wt5 9 ?_
   refine wan 10 fun K hK => ?_
   ·have F3:=sR HR3
    go_simp
    have HR4:=Lib.hid (HR3.out.set_ (i:=2) (u:=.slice (some ⟨g,0,none⟩) (ln+1) cap) h1 H2.out)
    refine hK _ _ ?_
    clear hK K
    refine wm ?_
    refine wpAny_done (by kernel_rfl) ?_ _
    first
     | go_end0
     | refine bodyPost_ret (results_none rfl _ _ _) rfl ?_
    refine ⟨rfl,h1,fun x hx=>H2.out x (List.mem_cons_of_mem _ hx),la,c,.slice (some ⟨g,0,none⟩) (ln+1) cap,HT.out,?_⟩
    have h9:=HR4.out
    rw [HS.out,List.length_append,HLN.out]
    exact h9.drop _ (by intro z hz; simp at hz ⊢; rcases hz with h | h <;> simp [h])
def nw (a c:Int):List PanicEntry:=[{ v:=.iface 92 (.agg #[.int .i64 a,.int .i64 c]),recovered:=false }]
def Bad (a c:Int) (w1:World) (e:Ending) (w':World):Prop:=e=.panicked (nw a c)∧Below w1.heap.size w1 w'
theorem dO (w1:World) (pb:Nat) (a c:Int) (w:World) (h:Below w1.heap.size w1 w) :
  Calls prog 65 #[.pointer (some ⟨pb,0,none⟩),.int .i64 a,.int .i64 c] w (Bad a c w1):=by
 have HB:=Lib.hid h
 clear h
 go_enter func65,ntmps65
 go_wp2_with fail
 exact ⟨rfl,rfl,HB.out⟩
theorem x8 (en:Nat) (ts:List Tk) (op:Int):bO ts op=decide ((hdS en ts).kind=8∧(hdS en ts).num=op):=by
 cases ts with
 | nil=>simp [bO,hdS]
 | cons t ts=>rfl
theorem jG (w1:World) (ps:List aS) (pb en:Nat) (ts:List Tk) (ns:List Nd) (op:Int) (w:World) (h:St w1 ps pb en ts ns w) :
  Calls prog 200 #[.pointer (some ⟨pb,0,none⟩),.int .i64 op] w fun e w'=>e=.returned (.bool (bO ts op))∧Below w.heap.size w w':=by
 rw [x8 en]
 have HH:=keep (aX w1 ps pb en ts ns w h)
 have H0:=Lib.hid (Ok.start w)
 clear h
 obtain ⟨⟨tk,tn,tt,⟨t1,t2,t3,t4⟩,ta⟩,ht⟩:∃ t,hdS en ts=t:=⟨_,rfl⟩
 rw [ht] at HH ⊢
 clear ht
 simp only []
 go_enter func200,ntmps200
 go_wp2_with fail
 refine cM (HH.out) H0 fun w1 H3=>?_
 clear H0
 clear HH
 simp only [tkA]
 go_upto_region 2 with fail
 have H4:=Lib.hid (H3.out.alloc w1.heap.size 97 [.int .u8 tk,.int .i64 tn,.string ⟨tt.toArray⟩,.int .i64 t1,.int .i64 t2,.int .i64 t3,.int .i64 t4,.int .i64 ta] rfl)
 clear H3
 generalize (w1.alloc (.cells #[.int .u8 tk,.int .i64 tn,.string ⟨tt.toArray⟩,.int .i64 t1,.int .i64 t2,.int .i64 t3,.int .i64 t4,.int .i64 ta] 97))=W5 at H4 ⊢
 have F6:=sE H4
 by_cases h8:tk=8
 ·subst h8
  go_wp2_with fail
  go_ret
  exact ⟨by congr 2,H4.out.bel⟩
 have h8b:((tk:Int) == 8)=false:=by simp; omega
 go_wp2_with fail
 go_ret
 exact ⟨by simp [h8],H4.out.bel⟩
theorem iw (w1:World) (ps:List aS) (pb en:Nat) (ts:List Tk) (ns:List Nd) (k:Nat) (w:World) (h:St w1 ps pb en ts ns w) (hk:(hdS en ts).kind=k) (h0:k≠0) :
  Calls prog 230 #[.pointer (some ⟨pb,0,none⟩),.int .u8 (k:Nat)] w (pB (.tuple #[]) w1 ps pb en (ts.drop 1) ns):=by
 cases ts with
 | nil=>exact absurd hk.symm h0
 | cons t ts =>
  obtain ⟨tk,tn,tt,⟨t1,t2,t3,t4⟩,ta⟩:=t
  have hk2:tk=k:=hk
  subst hk2
  have HH:=keep (aX w1 ps pb en _ ns w h)
  have H:=Lib.hid h
  clear h hk h0
  simp only [List.drop_succ_cons,List.drop_zero]
  go_enter func230,ntmps230
  go_wp2_with fail
  refine cMg (HH.out) (fun _=>H.out.below) fun wa1 H3=>?_
  clear H
  clear HH
  simp only [hdS,tkA]
  go_upto_region 1 with fail
  have H4:=Lib.hid (H3.out.alloc 97 [.int .u8 tk,.int .i64 tn,.string ⟨tt.toArray⟩,.int .i64 t1,.int .i64 t2,.int .i64 t3,.int .i64 t4,.int .i64 ta])
  clear H3
  have H4a:Hid (St w1 (ac wa1.heap.size 97 [.int .u8 tk,.int .i64 tn,.string ⟨tt.toArray⟩,.int .i64 t1,.int .i64 t2,.int .i64 t3,.int .i64 t4,.int .i64 ta]::ps) pb en (⟨tk,tn,tt,⟨t1,t2,t3,t4⟩,ta⟩::ts) ns (wa1.alloc (.cells #[.int .u8 tk,.int .i64 tn,.string ⟨tt.toArray⟩,.int .i64 t1,.int .i64 t2,.int .i64 t3,.int .i64 t4,.int .i64 ta] 97))):=H4
  clear H4
  generalize (wa1.alloc (.cells #[.int .u8 tk,.int .i64 tn,.string ⟨tt.toArray⟩,.int .i64 t1,.int .i64 t2,.int .i64 t3,.int .i64 t4,.int .i64 ta] 97))=Wa5 at H4a ⊢
  have F6:=H4a.out.sees
  simp only [sees,ac,aa,Nat.reduceAdd] at F6
  obtain ⟨zp,⟨z0,c00,c01,c02,c03,c04,c05,c06,c07,-⟩,-⟩:=F6
  go_wp2_with fail
  refine (bF w1 _ pb en _ ts ns _ H4a.out).mono ?_
  rintro e wa7 ⟨rfl,hd9⟩
  clear zp z0 c00 c01 c02 c03 c04 c05 c06 c07
  have H8:=Lib.hid hd9
  clear hd9 H4a
  have F9:=H8.out.sees
  simp only [sees,ac,aa,Nat.reduceAdd] at F9
  obtain ⟨zp,⟨z0,c00,c01,c02,c03,c04,c05,c06,c07,-⟩,-⟩:=F9
  go_wp2_with fail
  first
   | go_end0
   | refine bodyPost_ret (results_none rfl _ _ _) rfl ?_
  exact ⟨rfl,H8.out.tail⟩
theorem jH (w1:World) (ps:List aS) (pb en:Nat) (ts:List Tk) (ns:List Nd) (k:Nat) (w:World) (h:St w1 ps pb en ts ns w) (hk:(hdS en ts).kind≠k) :
  Calls prog 230 #[.pointer (some ⟨pb,0,none⟩),.int .u8 (k:Nat)] w (Bad ((hdS en ts).at_:Nat) 4 w1):=by
 have HH:=keep (aX w1 ps pb en _ ns w h)
 have H:=Lib.hid h
 obtain ⟨⟨tk,tn,tt,⟨t1,t2,t3,t4⟩,ta⟩,ht⟩:∃ t,hdS en ts=t:=⟨_,rfl⟩
 rw [ht] at HH hk ⊢
 have hk3:tk≠k:=hk
 have hk2:((tk:Int) == (k:Int))=false:=by simp; omega
 clear hk3
 clear h hk ht
 go_enter func230,ntmps230
 go_wp2_with fail
 refine cMg (HH.out) (fun _=>H.out.below) fun wa1 H3=>?_
 clear H
 clear HH
 simp only [tkA]
 go_upto_region 1 with fail
 have H4:=Lib.hid (H3.out.alloc 97 [.int .u8 tk,.int .i64 tn,.string ⟨tt.toArray⟩,.int .i64 t1,.int .i64 t2,.int .i64 t3,.int .i64 t4,.int .i64 ta])
 clear H3
 have H4a:Hid (St w1 (ac wa1.heap.size 97 [.int .u8 tk,.int .i64 tn,.string ⟨tt.toArray⟩,.int .i64 t1,.int .i64 t2,.int .i64 t3,.int .i64 t4,.int .i64 ta]::ps) pb en ts ns (wa1.alloc (.cells #[.int .u8 tk,.int .i64 tn,.string ⟨tt.toArray⟩,.int .i64 t1,.int .i64 t2,.int .i64 t3,.int .i64 t4,.int .i64 ta] 97))):=H4
 clear H4
 generalize (wa1.alloc (.cells #[.int .u8 tk,.int .i64 tn,.string ⟨tt.toArray⟩,.int .i64 t1,.int .i64 t2,.int .i64 t3,.int .i64 t4,.int .i64 ta] 97))=Wa5 at H4a ⊢
 have F6:=H4a.out.sees
 simp only [sees,ac,aa,Nat.reduceAdd] at F6
 obtain ⟨zp,⟨z0,c00,c01,c02,c03,c04,c05,c06,c07,-⟩,-⟩:=F6
 go_wp2_with fail
 refine (dO w1 pb _ _ _ H4a.out.bel).mono ?_
 rintro e wa7 ⟨rfl,hb8⟩
 clear zp z0 c00 c01 c02 c03 c04 c05 c06 c07
 have HZ:=Lib.hid (hb8)
 clear hb8
 go_wp2_with fail
 exact ⟨rfl,rfl,HZ.out⟩
theorem ja (w1:World) (ps:List aS) (pb en:Nat) (t:Tk) (ts:List Tk) (ns:List Nd) (vk:Nat) (vn:Int) (vt:List UInt8) (w:World) (hn:ns.length≤1000) (h:St w1 ps pb en (t::ts) ns w) :
  Calls prog 229 #[.pointer (some ⟨pb,0,none⟩),.agg #[.int .u8 (vk:Nat),.int .i64 vn,.string ⟨vt.toArray⟩]] w (pB (.tuple #[]) w1 ps pb en ts (ns++[⟨1,vk,vn,vt,R4.zero,0,0,0⟩])):=by
 have H:=Lib.hid h
 clear h
 go_enter func229,ntmps229
 go_upto_region 1 with fail
 have H1:=Lib.hid (H.out.alloc 35 [.int .u8 vk,.int .i64 vn,.string ⟨vt.toArray⟩])
 clear H
 have H1a:Hid (St w1 (ac w.heap.size 35 [.int .u8 vk,.int .i64 vn,.string ⟨vt.toArray⟩]::ps) pb en (t::ts) ns (w.alloc (.cells #[.int .u8 vk,.int .i64 vn,.string ⟨vt.toArray⟩] 35))):=H1
 clear H1
 generalize (w.alloc (.cells #[.int .u8 vk,.int .i64 vn,.string ⟨vt.toArray⟩] 35))=Wa2 at H1a ⊢
 have F3:=H1a.out.sees
 simp only [sees,ac,aa,Nat.reduceAdd] at F3
 obtain ⟨zp,⟨z0,c00,c01,c02,-⟩,-⟩:=F3
 go_wp2_with fail
 refine (bF w1 _ pb en _ ts ns _ H1a.out).mono ?_
 rintro e wa4 ⟨rfl,hd9⟩
 clear zp z0 c00 c01 c02
 have H5:=Lib.hid hd9
 clear hd9 H1a
 have F6:=H5.out.sees
 simp only [sees,ac,aa,Nat.reduceAdd] at F6
 obtain ⟨zp,⟨z0,c00,c01,c02,-⟩,-⟩:=F6
 go_wp2_with fail
 refine (fB w1 _ pb en ts ns ⟨1,vk,vn,vt,R4.zero,0,0,0⟩ _ hn H5.out).mono ?_
 rintro e wa7 ⟨rfl,hd9⟩
 clear zp z0 c00 c01 c02
 have H8:=Lib.hid hd9
 clear hd9 H5
 have F9:=H8.out.sees
 simp only [sees,ac,aa,Nat.reduceAdd] at F9
 obtain ⟨zp,⟨z0,c00,c01,c02,-⟩,-⟩:=F9
 go_wp2_with fail
 first
  | go_end0
  | refine bodyPost_ret (results_none rfl _ _ _) rfl ?_
 exact ⟨rfl,H8.out.tail⟩
set_option maxRecDepth 100000
def nJ (xs:List (List UInt8)) (x:List UInt8):Int:=match xs.findIdx? (· == x) with
 | some i=>(i:Int)
 | none=>-1
theorem tU (xs:List (List UInt8)) (x:List UInt8) (k:Nat) (hk:k<xs.length) (hb:∀ y∈xs.take k,y≠x) (h:xs[k]=x):nJ xs x=(k:Int):=by
 have hf:xs.findIdx? (· == x)=some k:=by
  rw [List.findIdx?_eq_some_iff_getElem]
  refine ⟨hk,by simpa using h,fun j hj => ?_⟩
  have:=hb xs[j] (by rw [List.mem_take_iff_getElem]; exact ⟨j,by omega,rfl⟩)
  simpa using this
 unfold nJ
 rw [hf]
theorem tV (xs:List (List UInt8)) (x:List UInt8) (hb:∀ y∈xs,y≠x):nJ xs x=-1:=by
 have hf:xs.findIdx? (· == x)=none:=by
  rw [List.findIdx?_eq_none_iff]
  intro y hy
  simpa using hb y hy
 unfold nJ
 rw [hf]
theorem nK (xs:List (List UInt8)) (x:List UInt8) (b c:Nat) (w:World) (hl:xs.length≤1000) (hc:∀ i (h:i<xs.length),w.cell? ⟨b,i,none⟩=some (.string ⟨xs[i].toArray⟩)) :
  Calls prog 257 #[.slice (some ⟨b,0,none⟩) xs.length c,.string ⟨x.toArray⟩] w fun e w'=>e=.returned (.int .i64 (nJ xs x))∧w'=w:=by
 have HC:=keep hc
 clear hc
 obtain ⟨n,hn⟩:=ex (xs.length)
 rw [hn] at hl ⊢
 have HN:=keep hn
 clear hn
 go_enter func257,ntmps257
 go_wp2_with fail
 go_loopw [8] (fun iv wr=>∃ k:Nat,k≤n∧iv=.int .i64 (k:Int)∧ao (∀ y∈xs.take k,y≠x)∧wr=w) (fun iv _=>n - (intOf iv).toNat)
 case atStart=>exact ⟨0,Nat.zero_le _,rfl,keep (by simp),rfl⟩
 case round =>
  obtain ⟨k,hk,rfl,HK,hwr⟩:=hrel
  obtain rfl:w=wr:=hwr.symm
  by_cases hlt:(k:Int)<n
  ·have hkn:k<xs.length:=by rw [HN.out]; omega
   have HKN:=keep hkn
   clear hkn
   have hcell:=HC.out k HKN.out
   obtain ⟨y,hy⟩:=ex (xs[k]'HKN.out)
   rw [hy] at hcell
   have HY:=keep hy
   clear hy
   by_cases hxy:y=x
   ·subst hxy
    have HI:=keep (tU xs y k HKN.out HK.out HY.out)
    go_wp2_with fail
    go_ret
    exact ⟨by rw [HI.out]; rfl,rfl⟩
   have HNE:=keep hxy
   have hb:(x == y)=false:=by simpa using fun e=>hxy e.symm
   clear hxy
   go_wp2_with fail
   go_roundw
   case rel =>
    refine ⟨k+1,by omega,by go_num,keep fun z hz => ?_,by first | trivial | rfl⟩
    rw [List.take_succ_eq_append_getElem HKN.out] at hz
    rcases List.mem_append.1 hz with hz | hz
    ·exact HK.out z hz
    simp at hz
    rw [hz]
    rw [HY.out]
    exact HNE.out
   case measure=>simp [intOf]; omega
  have hke:k=n:=by omega
  have HI:=keep (tV xs x fun y hy=>HK.out y (by rw [List.take_of_length_le (by rw [HN.out]; omega)]; exact hy))
  clear hke
  go_wp2_with fail
  go_ret
  exact ⟨by rw [HI.out]; rfl,rfl⟩
set_option maxRecDepth 100000
set_option maxHeartbeats 8000000
def am:List Value:=dx.map fun x=>.string ⟨x.toArray⟩
theorem kI:(am.toArray.all (·.oneCell'))=true:=by kernel_rfl
def fN:Array Value:=#[.string ⟨#[]⟩,.string ⟨#[]⟩,.string ⟨#[]⟩,.string ⟨#[]⟩,.string ⟨#[]⟩,.string ⟨#[]⟩,.string ⟨#[]⟩,.string ⟨#[]⟩,.string ⟨#[]⟩,.string ⟨#[]⟩,.string ⟨#[]⟩,.string ⟨#[]⟩,.string ⟨#[]⟩,.string ⟨#[]⟩,.string ⟨#[]⟩,.string ⟨#[]⟩,.string ⟨#[]⟩,.string ⟨#[]⟩,.string ⟨#[]⟩,.string ⟨#[]⟩,.string ⟨#[]⟩,.string ⟨#[]⟩,.string ⟨#[]⟩,.string ⟨#[]⟩,.string ⟨#[]⟩,.string ⟨#[]⟩,.string ⟨#[]⟩,.string ⟨#[]⟩,.string ⟨#[]⟩,.string ⟨#[]⟩,.string ⟨#[]⟩,.string ⟨#[]⟩,.string ⟨#[]⟩,.string ⟨#[]⟩,.string ⟨#[]⟩,.string ⟨#[]⟩,.string ⟨#[]⟩,.string ⟨#[]⟩,.string ⟨#[]⟩,.string ⟨#[]⟩,.string ⟨#[]⟩,.string ⟨#[]⟩,.string ⟨#[]⟩,.string ⟨#[]⟩,.string ⟨#[]⟩,.string ⟨#[]⟩,.string ⟨#[]⟩,.string ⟨#[]⟩,.string ⟨#[]⟩,.string ⟨#[]⟩]
theorem kg:fN.size=am.toArray.size:=by kernel_rfl
theorem gz:(prog.info? 173).map (·.size)=some am.toArray.size:=by kernel_rfl
theorem pk (w:World) (t:TypeId) (old V:Array Value):((w.alloc (.cells old t)).setRow w.heap.size V).heap[w.heap.size]?=some (.cells V t (0,0)):=by
 exact setRow_heap (w.alloc (.cells old t)) w.heap.size old V t (0,0) (heap_alloc_new w _)
theorem kN (w:World) (t:TypeId) (old V:Array Value):Below w.heap.size w ((w.alloc (.cells old t)).setRow w.heap.size V) :=
 ⟨rfl,rfl,rfl,by simp,fun i hi=>by
  unfold World.setRow
  simp only [Array.getElem?_modify]
  rw [if_neg (by omega)]
  exact Below.heap_alloc w _ i hi⟩
theorem j5 (w:World) :
  Calls prog 144 #[] w fun e w'=>e=.returned (.agg am.toArray)∧Below w.heap.size w w':=by
 go_enter func144,ntmps144
 go_upto_region 1 with fail
 change Code.wp _ _ _ _ (w.alloc (.cells fN _))
 go_wp2_with (first | (refine wpList_build rfl _ _ rfl (by kernel_rfl) ?_) | (refine wpList_store_row rfl _ _ _ rfl w.heap.size am.toArray rfl (by kernel_rfl) 173 fN (heap_alloc_new _ _) gz kg kI ?_))
 refine bodyPost_ret (v:=.agg am.toArray) ?_ rfl ⟨rfl,kN _ _ _ _⟩
 exact results_cell_row rfl _ _ w.heap.size 173 am.toArray (0,0) _ rfl (pk _ _ _ _) underlying173 rfl gz
theorem wA (x:List UInt8):nJ dx x=if fnS x=0 then -1 else ((fnS x:Nat):Int) - 1:=by
 unfold nJ fnS
 cases dx.findIdx? (· == x) with
 | none=>rfl
 | some i=>simp
theorem rx (x:List UInt8):fnS x≤50:=by
 unfold fnS
 split
 ·rename_i i h
  rw [List.findIdx?_eq_some_iff_getElem] at h
  obtain ⟨h1,_⟩:=h
  have:dx.length=50:=rfl
  omega
 omega
def fnE (x:List UInt8):Int:=if fnS x=0 then 6 else 0
theorem df (x:List UInt8) (w:World) :
  Calls prog 245 #[.string ⟨x.toArray⟩] w fun e w'=>e=.returned (.tuple #[.int .u8 (fnS x:Nat),.int .i64 (fnE x)])∧Below w.heap.size w w':=by
 have HX:=keep (wA x)
 have hle:=rx x
 have HE:=keep (show (fnS x=0→fnE x=6)∧(fnS x≠0→fnE x=0) from ⟨fun h=>if_pos h,fun h=>if_neg h⟩)
 go_enter func245,ntmps245
 go_wp2_with fail
 refine (j5 _).mono ?_
 rintro e w1 ⟨rfl,hb1⟩
 have hrow:=pk w1 173 fN am.toArray
 have hbl:=kN w1 173 fN am.toArray
 obtain ⟨W1,hW1⟩:=ex ((w1.alloc (.cells fN 173)).setRow w1.heap.size am.toArray)
 rw [hW1] at hrow hbl
 have hcs:∀ i (h:i<dx.length),W1.cell? ⟨w1.heap.size,i,none⟩=some (.string ⟨dx[i].toArray⟩):=by
  intro i h
  rw [cell_of_row W1 w1.heap.size i _ _ _ hrow]
  unfold am
  simp [h]
 have HC:=keep hcs
 have HB:=Lib.hid (al hb1 hbl)
 clear hcs hrow hbl hb1
 have HW:=Lib.hid hW1
 clear hW1
 go_wp2_with (refine wpList_store_row rfl _ _ _ rfl w1.heap.size am.toArray rfl rfl 173 fN (heap_alloc_new _ _) gz kg kI ?_; change wpList _ _ _ _ _ ((w1.alloc (.cells fN 173)).setRow w1.heap.size am.toArray); rw [HW.out])
 refine (nK dx x w1.heap.size 50 W1 (by decide) HC.out).mono ?_
 rintro e w2 ⟨rfl,hw2⟩
 obtain rfl:W1=w2:=hw2.symm
 rw [HX.out]
 by_cases h0:fnS x=0
 ·rw [if_pos h0]
  have HF:=keep (show fnS x=0∧fnE x=6 from ⟨h0,HE.out.1 h0⟩)
  clear h0
  go_wp2_with fail
  exact bodyPost_ret (v:=.tuple #[.int .u8 0,.int .i64 6]) (by simp [results,results245,go_sem]) rfl ⟨by rw [HF.out.1,HF.out.2]; rfl,HB.out⟩
 rw [if_neg h0]
 have HF:=keep (HE.out.2 h0)
 obtain ⟨n,hn⟩:=ex (fnS x)
 rw [hn] at h0 hle ⊢
 have h1:¬ (n:Int) - 1<0:=by omega
 have h2:(n:Int) - 1+1=n:=by omega
 have h3:(n:Int) % 256=n:=by omega
 have HN:=keep hn
 clear hn
 go_wp2_with fail
 exact bodyPost_ret (v:=.tuple #[.int .u8 (n:Int),.int .i64 0]) (by simp [results,results245,go_sem]) rfl ⟨by rw [HF.out,HN.out],HB.out⟩
def pA (fn i:Nat):Int:=if (arS fn).2≤i then 3 else 0
theorem dh (fn:Nat) (w:World) :
  Calls prog 187 #[.int .u8 (fn:Nat)] w fun e w'=>e=.returned (.bool (decide (46≤fn∧fn≤50)))∧w'=w:=by
 by_cases h:46≤fn
 ·have g1:(46:Int)≤fn:=by omega
  go_enter func187,ntmps187
  go_wp2_with fail
  go_ret
  exact ⟨by show Ending.returned (Value.bool (decide ((fn:Int)≤50)))=_; congr 2; rw [decide_eq_decide]; omega,rfl⟩
 have g1:¬ (46:Int)≤fn:=by omega
 go_enter func187,ntmps187
 go_wp2_with fail
 go_ret
 exact ⟨by first | rfl | (rw [decide_eq_false (by omega)]; rfl),rfl⟩
theorem yO (x:Nat):((x:Int) == 1)=(x == 1):=by rw [Bool.eq_iff_iff]; simp; omega
theorem vB (fn i:Nat) (h:(arS fn).2≤i):cE fn i=false∧pA fn i=3:=⟨by unfold cE; rw [if_pos h],if_pos h⟩
theorem sr (fn i:Nat) (h:¬ (arS fn).2≤i) (hf:fn=9∨fn=10∨fn=11∨fn=12∨fn=14∨fn=15∨fn=16∨fn=17):cE fn i=true:=by
 unfold cE
 rw [if_neg h,if_pos (by simpa using hf)]
theorem vA (fn i:Nat) (h:¬ (arS fn).2≤i) (hf:fn=44):cE fn i=(i == 1):=by
 subst hf
 unfold cE
 rw [if_neg h,if_neg (by decide),if_pos rfl]
theorem ss (fn i:Nat) (h:¬ (arS fn).2≤i) (hf:fn=18∨fn=19∨fn=45∨fn=43∨fn=13):cE fn i=(i == 0):=by
 unfold cE
 rw [if_neg h,if_neg (by simp; omega),if_neg (by omega),if_pos (by simpa using hf)]
theorem qN (fn i:Nat) (h:¬ (arS fn).2≤i) (hf:¬ (fn=9∨fn=10∨fn=11∨fn=12∨fn=14∨fn=15∨fn=16∨fn=17∨fn=44∨fn=18∨fn=19∨fn=45∨fn=43∨fn=13)):cE fn i=decide (46≤fn∧fn≤50):=by
 unfold cE
 rw [if_neg h,if_neg (by simp; omega),if_neg (by omega),if_neg (by simp; omega)]
theorem iC (fn i:Nat) (w:World) (h1:1≤fn) (h2:fn≤50) :
  Calls prog 186 #[.int .u8 (fn:Nat),.int .i64 (i:Nat)] w fun e w'=>e=.returned (.tuple #[.bool (cE fn i),.int .i64 (pA fn i)])∧w'=w:=by
 by_cases hm:(arS fn).2≤i
 ·have HM:=keep (vB fn i hm)
  have hmi:(((arS fn).2:Nat):Int)≤(i:Int):=by omega
  clear hm
  go_enter func186,ntmps186
  go_wp2_with fail
  refine (cw fn _ h1 h2).mono ?_
  rintro e w' ⟨rfl,hw⟩
  obtain rfl:w=w':=hw.symm
  go_wp2_with fail
  exact bodyPost_ret (v:=.tuple #[.bool false,.int .i64 3]) (by simp [results,results186,go_sem]) rfl ⟨by rw [HM.out.1,HM.out.2],rfl⟩
 have HE:=keep (show pA fn i=0 from if_neg hm)
 have HM:=keep hm
 have hmi:¬ (((arS fn).2:Nat):Int)≤(i:Int):=by omega
 clear hm
 go_enter func186,ntmps186
 go_wp2_with fail
 refine (cw fn _ h1 h2).mono ?_
 rintro e w' ⟨rfl,hw⟩
 obtain rfl:w=w':=hw.symm
 go_wp2_with fail
 all_goals simp only [beq_iff_eq,beq_eq_false_iff_ne,ne_eq] at *
 all_goals
  first
  | exact bodyPost_ret (v:=.tuple #[.bool true,.int .i64 0]) (by simp [results,results186,go_sem]) rfl ⟨by rw [HE.out,sr fn i HM.out (by omega)],rfl⟩
  | exact bodyPost_ret (v:=.tuple #[.bool ((i:Int) == 1),.int .i64 0]) (by simp [results,results186,go_sem]) rfl ⟨by rw [HE.out,vA fn i HM.out (by omega),yO],rfl⟩
  | exact bodyPost_ret (v:=.tuple #[.bool ((i:Int) == 0),.int .i64 0]) (by simp [results,results186,go_sem]) rfl ⟨by rw [HE.out,ss fn i HM.out (by omega),yN],rfl⟩
  | skip
 have HA:=keep (qN fn i HM.out (by omega))
 refine (dh fn _).mono ?_
 rintro e w' ⟨rfl,hw⟩
 obtain rfl:w=w':=hw.symm
 rw [← HA.out]
 go_wp2_with fail
 exact bodyPost_ret (v:=.tuple #[.bool (cE fn i),.int .i64 0]) (by simp [results,results186,go_sem]) rfl ⟨by rw [HE.out],rfl⟩
set_option maxRecDepth 100000
set_option maxHeartbeats 1000000
theorem iI (w0:World) (tb ab eb:Nat) (v1 v2 v3:Value) (a c:Int) (w:World) (ht:w0.heap.size≤tb) (ha:w0.heap.size≤ab) (he:w0.heap.size≤eb) (h12:tb≠ab) (h13:tb≠eb) (h23:ab≠eb) (h:Ok w0 [af tb 22 [v1],af ab 3 [v2],af eb 24 [v3]] w) :
  CallsD prog 62 #[.pointer (some ⟨tb,0,none⟩),.pointer (some ⟨ab,0,none⟩),.pointer (some ⟨eb,0,none⟩)] (.panicking (nw a c)) w fun e u' w' =>
   e=.returned (.tuple #[])∧u'=.panicking [{ v:=.iface 92 (.agg #[.int .i64 a,.int .i64 c]),recovered:=true }] ∧
    Ok w0 [af tb 22 [.slice none 0 0],af ab 3 [.int .i64 a],af eb 24 [.int .i64 c]] w':=by
 have hta:∀ w:World,(Instr.typeAssert (.iface 92 (.agg #[.int .i64 a,.int .i64 c])) 20 92 true).run prog w=.ok (.tuple #[.agg #[.int .i64 a,.int .i64 c],.bool true]) w:=fun _=>by kernel_rfl
 have H:=Lib.hid h
 clear h
 have F:=H.out.sees
 simp only [sees,af,aa] at F
 obtain ⟨⟨⟨z0,f0⟩,c0,-⟩,⟨⟨z1,f1⟩,c1,-⟩,⟨⟨z2,f2⟩,c2,-⟩,-⟩:=F
 refine callsD_of_wpS func62 rfl fun c₀ cs hu => ?_
 apply wpS_seq
 apply wpS_region
 simp [wpOpsS,go_sem,recoverD,hu,ntmps62,Exit.thenS,nw]
 refine wpS_of_wp ?_
 go_wp2_with fail
 have n1:w.heap.size≠tb:=by omega
 have n2:tb≠w.heap.size:=by omega
 have HA:=Lib.hid (H.out.alloc w.heap.size 92 [.int .i64 a,.int .i64 c] rfl)
 clear c0 z0 f0 c1 z1 f1 c2 z2 f2 H
 generalize (w.alloc (.cells #[.int .i64 a,.int .i64 c] 92))=wa at HA ⊢
 generalize w.heap.size=ob at HA n1 n2 ⊢
 have F:=HA.out.sees
 simp only [sees,af,ac,aa,Nat.reduceAdd] at F
 obtain ⟨⟨z3,c3,c4,-⟩,⟨⟨z0,f0⟩,c0,-⟩,⟨⟨z1,f1⟩,c1,-⟩,⟨⟨z2,f2⟩,c2,-⟩,-⟩:=F
 have HE:=Lib.hid (((((((HA.out.drop [af tb 22 [v1],af ab 3 [v2],af eb 24 [v3]] (by simp)).set_ (i:=0) (u:=.slice none 0 0) ht (by simp [af]; omega)).drop
  [af ab 3 [v2],af tb 22 [.slice none 0 0],af eb 24 [v3]] (by simp)).set_ (i:=0) (u:=.int .i64 a) ha (by simp [af]; omega)).drop
  [af eb 24 [v3],af tb 22 [.slice none 0 0],af ab 3 [.int .i64 a]] (by simp)).set_ (i:=0) (u:=.int .i64 c) he (by simp [af]; omega)).drop
  [af tb 22 [.slice none 0 0],af ab 3 [.int .i64 a],af eb 24 [.int .i64 c]] (by simp)).drew
 go_region
 all_goals go_wp2_with fail
 all_goals exact ⟨rfl,_,rfl,_,results_none rfl _ _ _,rfl,rfl,HE.out⟩
theorem jj (tb ab eb:Nat) (w:World) :
  CallsD prog 62 #[.pointer (some ⟨tb,0,none⟩),.pointer (some ⟨ab,0,none⟩),.pointer (some ⟨eb,0,none⟩)] .returning w fun e u' w'=>e=.returned (.tuple #[])∧u'=.returning∧w'=w:=by
 refine callsD_of_wpS func62 rfl fun c₀ cs hu => ?_
 apply wpS_seq
 apply wpS_region
 simp [wpOpsS,go_sem,recoverD,hu,ntmps62,Exit.thenS]
 refine wpS_of_wp ?_
 go_wp2_with fail
 cases c₀
 simp only [] at hu
 subst hu
 exact ⟨rfl,_,rfl,_,results_none rfl _ _ _,rfl,rfl,rfl⟩
