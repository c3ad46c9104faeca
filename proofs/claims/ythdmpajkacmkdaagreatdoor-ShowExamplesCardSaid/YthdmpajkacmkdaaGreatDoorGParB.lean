/- The contracts of parse.Binds and of the tree's tables. The parser's put, is, want, value and fail. -/
import Derived.Test.YthdmpajkacmkdaaGreatDoorGParA
import Derived.Laws.Strings3
import Derived.Test.YthdmpajkacmkdaaGreatDoorGTg
namespace Go.Proofs.YthdmpajkacmkdaaGreatDoor
set_option maxRecDepth 100000
set_option maxHeartbeats 4000000
open Go.RowKit Go.Proofs.Tryz
theorem zK (fn:Nat) (h:fn=5∨fn=6∨fn=7∨fn=25∨fn=39∨fn=40∨fn=18∨fn=19∨fn=45∨fn=44):arS fn=(2,2):=by
 rcases h with rfl | rfl | rfl | rfl | rfl | rfl | rfl | rfl | rfl | rfl <;> decide
theorem zL (fn:Nat) (h:fn=20∨fn=41∨fn=43):arS fn=(2,3):=by rcases h with rfl | rfl | rfl <;> decide
theorem zG (fn:Nat) (h:fn=32∨fn=33):arS fn=(1,2):=by rcases h with rfl | rfl <;> decide
theorem zN (fn:Nat) (h:fn=34):arS fn=(3,3):=by subst h; decide
theorem zH (fn:Nat) (h:fn=21∨fn=22∨fn=23∨fn=38∨fn=9∨fn=10∨fn=11∨fn=12∨fn=14∨fn=15∨fn=16∨fn=17):arS fn=(1,16):=by
 rcases h with rfl | rfl | rfl | rfl | rfl | rfl | rfl | rfl | rfl | rfl | rfl | rfl <;> decide
theorem zM (fn:Nat) (h:fn=30):arS fn=(2,16):=by subst h; decide
theorem zF (fn:Nat) (h:¬ (fn=5∨fn=6∨fn=7∨fn=25∨fn=39∨fn=40∨fn=18∨fn=19∨fn=45∨fn=44∨fn=20∨fn=41∨fn=43∨fn=32∨fn=33∨fn=34∨fn=21∨fn=22∨fn=23∨fn=38∨fn=9∨fn=10∨fn=11∨fn=12∨fn=14∨fn=15∨fn=16∨fn=17∨fn=30)):arS fn=(1,1):=by
 unfold arS
 simp only [List.mem_cons,List.not_mem_nil,or_false]
 rw [if_neg (by omega),if_neg (by omega),if_neg (by omega),if_neg (by omega),if_neg (by omega),if_neg (by omega)]
theorem ml (fn:Nat) (w:World) (h1:1≤fn) (h2:fn≤50) :
  Calls prog 122 #[.int .u8 (fn:Nat)] w fun e w'=>e=.returned (.bool true)∧w'=w:=by
 have g1:(1:Int)≤fn:=by omega
 have g2:(fn:Int)≤50:=by omega
 go_enter func122,ntmps122
 go_wp2_with fail
 go_ret
 exact ⟨rfl,rfl⟩
theorem cZ (fn:Nat) (w:World) (h1:1≤fn) (h2:fn≤50) :
  Calls prog 150 #[.int .u8 (fn:Nat)] w fun e w'=>e=.returned (.tuple #[.int .i64 ((arS fn).1:Nat),.int .i64 ((arS fn).2:Nat),.int .i64 0])∧w'=w:=by
 go_enter func150,ntmps150
 go_wp2_with fail
 all_goals simp only [beq_iff_eq,beq_eq_false_iff_ne,ne_eq] at *
 all_goals
  first
  | exact bodyPost_ret (v:=.tuple #[.int .i64 2,.int .i64 2,.int .i64 0]) (by simp [results,results150,go_sem]) rfl ⟨by rw [zK fn (by omega)]; rfl,rfl⟩
  | exact bodyPost_ret (v:=.tuple #[.int .i64 2,.int .i64 3,.int .i64 0]) (by simp [results,results150,go_sem]) rfl ⟨by rw [zL fn (by omega)]; rfl,rfl⟩
  | exact bodyPost_ret (v:=.tuple #[.int .i64 1,.int .i64 2,.int .i64 0]) (by simp [results,results150,go_sem]) rfl ⟨by rw [zG fn (by omega)]; rfl,rfl⟩
  | exact bodyPost_ret (v:=.tuple #[.int .i64 3,.int .i64 3,.int .i64 0]) (by simp [results,results150,go_sem]) rfl ⟨by rw [zN fn (by omega)]; rfl,rfl⟩
  | exact bodyPost_ret (v:=.tuple #[.int .i64 1,.int .i64 16,.int .i64 0]) (by simp [results,results150,go_sem]) rfl ⟨by rw [zH fn (by omega)]; rfl,rfl⟩
  | exact bodyPost_ret (v:=.tuple #[.int .i64 2,.int .i64 16,.int .i64 0]) (by simp [results,results150,go_sem]) rfl ⟨by rw [zM fn (by omega)]; rfl,rfl⟩
  | skip
 have HA:=keep (zF fn (by omega))
 refine (ml fn _ h1 h2).mono ?_
 rintro e w' ⟨rfl,hw⟩
 obtain rfl:w=w':=hw.symm
 go_wp2_with fail
 exact bodyPost_ret (v:=.tuple #[.int .i64 1,.int .i64 1,.int .i64 0]) (by simp [results,results150,go_sem]) rfl ⟨by rw [HA.out]; rfl,rfl⟩
def zP (op:Int):Int:=if aJ op=0 then 2 else 0
def zS (op:Int):Bool:=decide (op=5)
theorem dz (op:Int) (w:World) :
  Calls prog 113 #[.int .i64 op] w fun e w'=>e=.returned (.tuple #[.int .i64 (aJ op:Nat),.bool (zS op),.int .i64 (zP op)])∧w'=w:=by
 go_enter func113,ntmps113
 go_wp2_with fail
 all_goals simp only [beq_iff_eq,beq_eq_false_iff_ne,ne_eq] at *
 all_goals
  first
  | exact bodyPost_ret (v:=.tuple #[.int .i64 1,.bool false,.int .i64 0]) (by simp [results,results113,go_sem]) rfl ⟨by subst_vars; rfl,rfl⟩
  | exact bodyPost_ret (v:=.tuple #[.int .i64 2,.bool false,.int .i64 0]) (by simp [results,results113,go_sem]) rfl ⟨by subst_vars; rfl,rfl⟩
  | exact bodyPost_ret (v:=.tuple #[.int .i64 3,.bool false,.int .i64 0]) (by simp [results,results113,go_sem]) rfl ⟨by subst_vars; rfl,rfl⟩
  | exact bodyPost_ret (v:=.tuple #[.int .i64 4,.bool false,.int .i64 0]) (by simp [results,results113,go_sem]) rfl ⟨by subst_vars; rfl,rfl⟩
  | exact bodyPost_ret (v:=.tuple #[.int .i64 6,.bool true,.int .i64 0]) (by simp [results,results113,go_sem]) rfl ⟨by subst_vars; rfl,rfl⟩
  | exact bodyPost_ret (v:=.tuple #[.int .i64 7,.bool false,.int .i64 0]) (by simp [results,results113,go_sem]) rfl ⟨by subst_vars; rfl,rfl⟩
  | skip
 have hb:aJ op=0:=by
  unfold aJ
  rw [if_neg (by omega),if_neg (by omega),if_neg (by omega),if_neg (by omega),if_neg (by omega),if_neg (by omega)]
 exact bodyPost_ret (v:=.tuple #[.int .i64 0,.bool false,.int .i64 2]) (by simp [results,results113,go_sem]) rfl ⟨by unfold zS zP; rw [hb,decide_eq_false (by omega)]; rfl,rfl⟩
set_option maxRecDepth 100000
set_option maxHeartbeats 2000000
theorem gV (w1:World) (ps:List aZ) (pb en:Nat) (ts:List Tk) (ns:List Nd) (n:Nd) (w:World) (hn:ns.length≤1000) (h:St w1 ps pb en ts ns w) :
  Calls prog 115 #[.pointer (some ⟨pb,0,none⟩),ndA n] w (sH (.tuple #[]) w1 ps pb en ts (ns++[n])):=by
 obtain ⟨i0,hi,hz0,hz1,hz2⟩:=info_parts iy
 have hbel:=h.bel
 have HBEL:=Lib.hid hbel
 clear hbel
 have HPB:=keep h.lt
 have h:=h.alloc 27 (bj n)
 obtain ⟨h1,h2,la,c,ov,hT,hO⟩:=h
 have HS:=keep (jB ns n)
 obtain ⟨nk,vk,vn,vt,⟨r1,r2,r3,r4⟩,op,fn,nn⟩:=n
 have HO:=Lib.hid hO
 have HT:=keep hT
 have H2:=keep h2
 clear hO hT h2 h
 obtain ⟨ln,hln⟩:=ex (ns.length)
 rw [hln] at hn HO
 have HLN:=keep hln
 clear hln
 unfold ndA bj
 go_enter func115,ntmps115
 go_wp2_with fail
 have HO2:Hid (ai w1 (ah pb 64 [.slice la ts.length c,.int .i64 (en:Int),ov]::af w.heap.size 27 [.int .u8 nk,.int .u8 vk,.int .i64 vn,.string ⟨vt.toArray⟩,.int .i64 r1,.int .i64 r2,.int .i64 r3,.int .i64 r4,.int .i64 op,.int .u8 fn,.int .i64 nn]::ps) 27 11 ov ln (ew ns) (w.alloc (.cells #[.int .u8 nk,.int .u8 vk,.int .i64 vn,.string ⟨vt.toArray⟩,.int .i64 r1,.int .i64 r2,.int .i64 r3,.int .i64 r4,.int .i64 op,.int .u8 fn,.int .i64 nn] 27))):=HO
 clear HO
 generalize (w.alloc (.cells #[.int .u8 nk,.int .u8 vk,.int .i64 vn,.string ⟨vt.toArray⟩,.int .i64 r1,.int .i64 r2,.int .i64 r3,.int .i64 r4,.int .i64 op,.int .u8 fn,.int .i64 nn] 27))=W0 at HO2 ⊢
 have HR:=Lib.hid HO2.out.drew
 have HB0:=Lib.hid HO2.out.ok.drew.bel
 clear HO2
 refine wp_region_any (by kernel_rfl) ?_
 change wpAny _ _ _ _ _ _ _ W0.drew
 generalize W0.drew=W1 at HR HB0 ⊢
 have F:=sR HR
 have HR1:=Lib.hid (HR.out.alloc_obj (.cells #[.int .u8 nk,.int .u8 vk,.int .i64 vn,.string ⟨vt.toArray⟩,.int .i64 r1,.int .i64 r2,.int .i64 r3,.int .i64 r4,.int .i64 op,.int .u8 fn,.int .i64 nn] 27))
 refine wt5 0 ?_
 refine wt5 1 ?_
 refine wt5 2 ?_
 refine wt5 3 ?_
 refine wpAny_ready (rs:=[4,5]) (by kernel_rfl) (by simp) ?_
 refine (AllReady.cons rfl (fun K hK => ?_) (AllReady.cons rfl (fun K hK => ?_) AllReady.nil))
 ·go_simp
  refine hK _ _ ?_
  clear hK K
  refine wm ?_
  refine wan 5 fun K hK => ?_
  ·go_simp
   refine hK _ _ ?_
   clear hK K
   refine wm ?_
   refine wan 6 fun K hK => ?_
   ·go_simp
    refine hK _ _ ?_
    clear hK K
    refine wm ?_
    refine wan 7 fun K hK => ?_
    ·refine step_append_lies _ (by rfl) _ _ _ (by rfl) w1.heap.size 27 i0 _ 11 96 underlying28 hi hz0 hz1 hz2 rfl (by omega) _ _ _ (by rfl) HR1.out.own ⟨W1.heap.size,0,none⟩ 1 1 [.int .u8 nk,.int .u8 vk,.int .i64 vn,.string ⟨vt.toArray⟩,.int .i64 r1,.int .i64 r2,.int .i64 r3,.int .i64 r4,.int .i64 op,.int .u8 fn,.int .i64 nn] (by rfl) (by rfl) (World.news_of_block (cs:=#[.int .u8 nk,.int .u8 vk,.int .i64 vn,.string ⟨vt.toArray⟩,.int .i64 r1,.int .i64 r2,.int .i64 r3,.int .i64 r4,.int .i64 op,.int .u8 fn,.int .i64 nn]) (t:=27) (fr:=(0,0)) (heap_alloc_new _ _)) (by intro u hu; simp at hu; rcases hu with rfl | rfl | rfl | rfl | rfl | rfl | rfl | rfl | rfl | rfl | rfl <;> rfl) (by omega) (by unfold maxLen; omega) (by omega) (by have:=HB0.out.size; simp; omega) (W1.heap.size+1) (by simp) ?_
     intro g cap w3 hown3 hgrow3 hat3 hlt3
     have HR3:=Lib.hid (HR1.out.appended hown3 hgrow3 (by rw [World.size_alloc]; exact hat3))
     clear hown3 hgrow3 hat3
     refine hK _ _ ?_
     clear hK K
     refine wm ?_
     refine wt5 8 ?_
     refine wt5 9 ?_
     refine wan 10 fun K hK => ?_
     ·have F3:=sR HR3
      go_simp
      have HR4:=Lib.hid (HR3.out.set_ (i:=2) (u:=.slice (some ⟨g,0,none⟩) (ln+1) cap) h1 H2.out)
      refine hK _ _ ?_
      clear hK K
      refine wm ?_
      refine wpAny_done (by kernel_rfl) ?_ _
      first
       | go_end0
       | refine bodyPost_ret (results_none rfl _ _ _) rfl ?_
      refine ⟨rfl,h1,fun x hx=>H2.out x (List.mem_cons_of_mem _ hx),la,c,.slice (some ⟨g,0,none⟩) (ln+1) cap,HT.out,?_⟩
      have h9:=HR4.out
      rw [HS.out,List.length_append,HLN.out]
      exact h9.drop _ (by intro z hz; simp at hz ⊢; rcases hz with h | h <;> simp [h])
 go_simp
 refine hK _ _ ?_
 clear hK K
 refine wm ?_
 refine wpAny_ready (rs:=[4,6]) (by kernel_rfl) (by simp) ?_
 refine (AllReady.cons rfl (fun K hK => ?_) (AllReady.cons rfl (fun K hK => ?_) AllReady.nil))
 ·go_simp
  refine hK _ _ ?_
  clear hK K
  refine wm ?_
  refine wan 6 fun K hK => ?_
  ·go_simp
   refine hK _ _ ?_
   clear hK K
   refine wm ?_
   refine wan 7 fun K hK => ?_
   ·refine step_append_lies _ (by rfl) _ _ _ (by rfl) w1.heap.size 27 i0 _ 11 96 underlying28 hi hz0 hz1 hz2 rfl (by omega) _ _ _ (by rfl) HR1.out.own ⟨W1.heap.size,0,none⟩ 1 1 [.int .u8 nk,.int .u8 vk,.int .i64 vn,.string ⟨vt.toArray⟩,.int .i64 r1,.int .i64 r2,.int .i64 r3,.int .i64 r4,.int .i64 op,.int .u8 fn,.int .i64 nn] (by rfl) (by rfl) (World.news_of_block (cs:=#[.int .u8 nk,.int .u8 vk,.int .i64 vn,.string ⟨vt.toArray⟩,.int .i64 r1,.int .i64 r2,.int .i64 r3,.int .i64 r4,.int .i64 op,.int .u8 fn,.int .i64 nn]) (t:=27) (fr:=(0,0)) (heap_alloc_new _ _)) (by intro u hu; simp at hu; rcases hu with rfl | rfl | rfl | rfl | rfl | rfl | rfl | rfl | rfl | rfl | rfl <;> rfl) (by omega) (by unfold maxLen; omega) (by omega) (by have:=HB0.out.size; simp; omega) (W1.heap.size+1) (by simp) ?_
    intro g cap w3 hown3 hgrow3 hat3 hlt3
    have HR3:=Lib.hid (HR1.out.appended hown3 hgrow3 (by rw [World.size_alloc]; exact hat3))
    clear hown3 hgrow3 hat3
    refine hK _ _ ?_
    clear hK K
    refine wm ?_
    refine wt5 8 ?_
    refine wt5 9 ?_
    refine wan 10 fun K hK => ?_
    ·have F3:=sR HR3
     go_simp
     have HR4:=Lib.hid (HR3.out.set_ (i:=2) (u:=.slice (some ⟨g,0,none⟩) (ln+1) cap) h1 H2.out)
     refine hK _ _ ?_
     clear hK K
     refine wm ?_
     refine wpAny_done (by kernel_rfl) ?_ _
     first
      | go_end0
      | refine bodyPost_ret (results_none rfl _ _ _) rfl ?_
     refine ⟨rfl,h1,fun x hx=>H2.out x (List.mem_cons_of_mem _ hx),la,c,.slice (some ⟨g,0,none⟩) (ln+1) cap,HT.out,?_⟩
     have h9:=HR4.out
     rw [HS.out,List.length_append,HLN.out]
     exact h9.drop _ (by intro z hz; simp at hz ⊢; rcases hz with h | h <;> simp [h])
 go_simp
 refine hK _ _ ?_
 clear hK K
 refine wm ?_
 refine wan 4 fun K hK => ?_
 ·go_simp
  refine hK _ _ ?_
  clear hK K
  refine wm ?_
  refine wan 7 fun K hK => ?_
  ·refine step_append_lies _ (by rfl) _ _ _ (by rfl) w1.heap.size 27 i0 _ 11 96 underlying28 hi hz0 hz1 hz2 rfl (by omega) _ _ _ (by rfl) HR1.out.own ⟨W1.heap.size,0,none⟩ 1 1 [.int .u8 nk,.int .u8 vk,.int .i64 vn,.string ⟨vt.toArray⟩,.int .i64 r1,.int .i64 r2,.int .i64 r3,.int .i64 r4,.int .i64 op,.int .u8 fn,.int .i64 nn] (by rfl) (by rfl) (World.news_of_block (cs:=#[.int .u8 nk,.int .u8 vk,.int .i64 vn,.string ⟨vt.toArray⟩,.int .i64 r1,.int .i64 r2,.int .i64 r3,.int .i64 r4,.int .i64 op,.int .u8 fn,.int .i64 nn]) (t:=27) (fr:=(0,0)) (heap_alloc_new _ _)) (by intro u hu; simp at hu; rcases hu with rfl | rfl | rfl | rfl | rfl | rfl | rfl | rfl | rfl | rfl | rfl <;> rfl) (by omega) (by unfold maxLen; omega) (by omega) (by have:=HB0.out.size; simp; omega) (W1.heap.size+1) (by simp) ?_
   intro g cap w3 hown3 hgrow3 hat3 hlt3
   have HR3:=Lib.hid (HR1.out.appended hown3 hgrow3 (by rw [World.size_alloc]; exact hat3))
   clear hown3 hgrow3 hat3
   refine hK _ _ ?_
   clear hK K
   refine wm ?_
   refine wt5 8 ?_
   refine wt5 9 ?_
   refine wan 10 fun K hK => ?_
   ·have F3:=sR HR3
    go_simp
    have HR4:=Lib.hid (HR3.out.set_ (i:=2) (u:=.slice (some ⟨g,0,none⟩) (ln+1) cap) h1 H2.out)
    refine hK _ _ ?_
    clear hK K
    refine wm ?_
    refine wpAny_done (by kernel_rfl) ?_ _
    first
     | go_end0
     | refine bodyPost_ret (results_none rfl _ _ _) rfl ?_
    refine ⟨rfl,h1,fun x hx=>H2.out x (List.mem_cons_of_mem _ hx),la,c,.slice (some ⟨g,0,none⟩) (ln+1) cap,HT.out,?_⟩
    have h9:=HR4.out
    rw [HS.out,List.length_append,HLN.out]
    exact h9.drop _ (by intro z hz; simp at hz ⊢; rcases hz with h | h <;> simp [h])
def qm (a c:Int):List PanicEntry:=[{ v:=.iface 61 (.agg #[.int .i64 a,.int .i64 c]),recovered:=false }]
def Bad (a c:Int) (w1:World) (e:Ending) (w':World):Prop:=e=.panicked (qm a c)∧Below w1.heap.size w1 w'
theorem eO (w1:World) (pb:Nat) (a c:Int) (w:World) (h:Below w1.heap.size w1 w) :
  Calls prog 38 #[.pointer (some ⟨pb,0,none⟩),.int .i64 a,.int .i64 c] w (Bad a c w1):=by
 have HB:=Lib.hid h
 clear h
 go_enter func38,ntmps38
 go_wp2_with fail
 exact ⟨rfl,rfl,HB.out⟩
theorem BJ (en:Nat) (ts:List Tk) (op:Int):bE ts op=decide ((hdS en ts).kind=8∧(hdS en ts).num=op):=by
 cases ts with
 | nil=>simp [bE,hdS]
 | cons t ts=>rfl
theorem lY (w1:World) (ps:List aZ) (pb en:Nat) (ts:List Tk) (ns:List Nd) (op:Int) (w:World) (h:St w1 ps pb en ts ns w) :
  Calls prog 148 #[.pointer (some ⟨pb,0,none⟩),.int .i64 op] w fun e w'=>e=.returned (.bool (bE ts op))∧Below w.heap.size w w':=by
 rw [BJ en]
 have HH:=keep (bo w1 ps pb en ts ns w h)
 have H0:=Lib.hid (Ok.start w)
 clear h
 obtain ⟨⟨tk,tn,tt,⟨t1,t2,t3,t4⟩,ta⟩,ht⟩:∃ t,hdS en ts=t:=⟨_,rfl⟩
 rw [ht] at HH ⊢
 clear ht
 simp only []
 go_enter func148,ntmps148
 go_wp2_with fail
 refine cM (HH.out) H0 fun w1 H3=>?_
 clear H0
 clear HH
 simp only [tkA]
 go_upto_region 2 with fail
 have H4:=Lib.hid (H3.out.alloc w1.heap.size 66 [.int .u8 tk,.int .i64 tn,.string ⟨tt.toArray⟩,.int .i64 t1,.int .i64 t2,.int .i64 t3,.int .i64 t4,.int .i64 ta] rfl)
 clear H3
 generalize (w1.alloc (.cells #[.int .u8 tk,.int .i64 tn,.string ⟨tt.toArray⟩,.int .i64 t1,.int .i64 t2,.int .i64 t3,.int .i64 t4,.int .i64 ta] 66))=W5 at H4 ⊢
 have F6:=sE H4
 by_cases h8:tk=8
 ·subst h8
  go_wp2_with fail
  go_ret
  exact ⟨by congr 2,H4.out.bel⟩
 have h8b:((tk:Int) == 8)=false:=by simp; omega
 go_wp2_with fail
 go_ret
 exact ⟨by simp [h8],H4.out.bel⟩
theorem kk (w1:World) (ps:List aZ) (pb en:Nat) (ts:List Tk) (ns:List Nd) (k:Nat) (w:World) (h:St w1 ps pb en ts ns w) (hk:(hdS en ts).kind=k) (h0:k≠0) :
  Calls prog 179 #[.pointer (some ⟨pb,0,none⟩),.int .u8 (k:Nat)] w (sH (.tuple #[]) w1 ps pb en (ts.drop 1) ns):=by
 cases ts with
 | nil=>exact absurd hk.symm h0
 | cons t ts =>
  obtain ⟨tk,tn,tt,⟨t1,t2,t3,t4⟩,ta⟩:=t
  have hk2:tk=k:=hk
  subst hk2
  have HH:=keep (bo w1 ps pb en _ ns w h)
  have H:=Lib.hid h
  clear h hk h0
  simp only [List.drop_succ_cons,List.drop_zero]
  go_enter func179,ntmps179
  go_wp2_with fail
  refine cMg (HH.out) (fun _=>H.out.below) fun wa1 H3=>?_
  clear H
  clear HH
  simp only [hdS,tkA]
  go_upto_region 1 with fail
  have H4:=Lib.hid (H3.out.alloc 66 [.int .u8 tk,.int .i64 tn,.string ⟨tt.toArray⟩,.int .i64 t1,.int .i64 t2,.int .i64 t3,.int .i64 t4,.int .i64 ta])
  clear H3
  have H4a:Hid (St w1 (af wa1.heap.size 66 [.int .u8 tk,.int .i64 tn,.string ⟨tt.toArray⟩,.int .i64 t1,.int .i64 t2,.int .i64 t3,.int .i64 t4,.int .i64 ta]::ps) pb en (⟨tk,tn,tt,⟨t1,t2,t3,t4⟩,ta⟩::ts) ns (wa1.alloc (.cells #[.int .u8 tk,.int .i64 tn,.string ⟨tt.toArray⟩,.int .i64 t1,.int .i64 t2,.int .i64 t3,.int .i64 t4,.int .i64 ta] 66))):=H4
  clear H4
  generalize (wa1.alloc (.cells #[.int .u8 tk,.int .i64 tn,.string ⟨tt.toArray⟩,.int .i64 t1,.int .i64 t2,.int .i64 t3,.int .i64 t4,.int .i64 ta] 66))=Wa5 at H4a ⊢
  have F6:=H4a.out.sees
  simp only [sees,af,ac,Nat.reduceAdd] at F6
  obtain ⟨zp,⟨z0,c00,c01,c02,c03,c04,c05,c06,c07,-⟩,-⟩:=F6
  go_wp2_with fail
  refine (bT w1 _ pb en _ ts ns _ H4a.out).mono ?_
  rintro e wa7 ⟨rfl,hd9⟩
  clear zp z0 c00 c01 c02 c03 c04 c05 c06 c07
  have H8:=Lib.hid hd9
  clear hd9 H4a
  have F9:=H8.out.sees
  simp only [sees,af,ac,Nat.reduceAdd] at F9
  obtain ⟨zp,⟨z0,c00,c01,c02,c03,c04,c05,c06,c07,-⟩,-⟩:=F9
  go_wp2_with fail
  first
   | go_end0
   | refine bodyPost_ret (results_none rfl _ _ _) rfl ?_
  exact ⟨rfl,H8.out.tail⟩
theorem lZ (w1:World) (ps:List aZ) (pb en:Nat) (ts:List Tk) (ns:List Nd) (k:Nat) (w:World) (h:St w1 ps pb en ts ns w) (hk:(hdS en ts).kind≠k) :
  Calls prog 179 #[.pointer (some ⟨pb,0,none⟩),.int .u8 (k:Nat)] w (Bad ((hdS en ts).at_:Nat) 4 w1):=by
 have HH:=keep (bo w1 ps pb en _ ns w h)
 have H:=Lib.hid h
 obtain ⟨⟨tk,tn,tt,⟨t1,t2,t3,t4⟩,ta⟩,ht⟩:∃ t,hdS en ts=t:=⟨_,rfl⟩
 rw [ht] at HH hk ⊢
 have hk3:tk≠k:=hk
 have hk2:((tk:Int) == (k:Int))=false:=by simp; omega
 clear hk3
 clear h hk ht
 go_enter func179,ntmps179
 go_wp2_with fail
 refine cMg (HH.out) (fun _=>H.out.below) fun wa1 H3=>?_
 clear H
 clear HH
 simp only [tkA]
 go_upto_region 1 with fail
 have H4:=Lib.hid (H3.out.alloc 66 [.int .u8 tk,.int .i64 tn,.string ⟨tt.toArray⟩,.int .i64 t1,.int .i64 t2,.int .i64 t3,.int .i64 t4,.int .i64 ta])
 clear H3
 have H4a:Hid (St w1 (af wa1.heap.size 66 [.int .u8 tk,.int .i64 tn,.string ⟨tt.toArray⟩,.int .i64 t1,.int .i64 t2,.int .i64 t3,.int .i64 t4,.int .i64 ta]::ps) pb en ts ns (wa1.alloc (.cells #[.int .u8 tk,.int .i64 tn,.string ⟨tt.toArray⟩,.int .i64 t1,.int .i64 t2,.int .i64 t3,.int .i64 t4,.int .i64 ta] 66))):=H4
 clear H4
 generalize (wa1.alloc (.cells #[.int .u8 tk,.int .i64 tn,.string ⟨tt.toArray⟩,.int .i64 t1,.int .i64 t2,.int .i64 t3,.int .i64 t4,.int .i64 ta] 66))=Wa5 at H4a ⊢
 have F6:=H4a.out.sees
 simp only [sees,af,ac,Nat.reduceAdd] at F6
 obtain ⟨zp,⟨z0,c00,c01,c02,c03,c04,c05,c06,c07,-⟩,-⟩:=F6
 go_wp2_with fail
 refine (eO w1 pb _ _ _ H4a.out.bel).mono ?_
 rintro e wa7 ⟨rfl,hb8⟩
 clear zp z0 c00 c01 c02 c03 c04 c05 c06 c07
 have HZ:=Lib.hid (hb8)
 clear hb8
 go_wp2_with fail
 exact ⟨rfl,rfl,HZ.out⟩
theorem lz (w1:World) (ps:List aZ) (pb en:Nat) (t:Tk) (ts:List Tk) (ns:List Nd) (vk:Nat) (vn:Int) (vt:List UInt8) (w:World) (hn:ns.length≤1000) (h:St w1 ps pb en (t::ts) ns w) :
  Calls prog 178 #[.pointer (some ⟨pb,0,none⟩),.agg #[.int .u8 (vk:Nat),.int .i64 vn,.string ⟨vt.toArray⟩]] w (sH (.tuple #[]) w1 ps pb en ts (ns++[⟨1,vk,vn,vt,R4.zero,0,0,0⟩])):=by
 have H:=Lib.hid h
 clear h
 go_enter func178,ntmps178
 go_upto_region 1 with fail
 have H1:=Lib.hid (H.out.alloc 23 [.int .u8 vk,.int .i64 vn,.string ⟨vt.toArray⟩])
 clear H
 have H1a:Hid (St w1 (af w.heap.size 23 [.int .u8 vk,.int .i64 vn,.string ⟨vt.toArray⟩]::ps) pb en (t::ts) ns (w.alloc (.cells #[.int .u8 vk,.int .i64 vn,.string ⟨vt.toArray⟩] 23))):=H1
 clear H1
 generalize (w.alloc (.cells #[.int .u8 vk,.int .i64 vn,.string ⟨vt.toArray⟩] 23))=Wa2 at H1a ⊢
 have F3:=H1a.out.sees
 simp only [sees,af,ac,Nat.reduceAdd] at F3
 obtain ⟨zp,⟨z0,c00,c01,c02,-⟩,-⟩:=F3
 go_wp2_with fail
 refine (bT w1 _ pb en _ ts ns _ H1a.out).mono ?_
 rintro e wa4 ⟨rfl,hd9⟩
 clear zp z0 c00 c01 c02
 have H5:=Lib.hid hd9
 clear hd9 H1a
 have F6:=H5.out.sees
 simp only [sees,af,ac,Nat.reduceAdd] at F6
 obtain ⟨zp,⟨z0,c00,c01,c02,-⟩,-⟩:=F6
 go_wp2_with fail
 refine (gV w1 _ pb en ts ns ⟨1,vk,vn,vt,R4.zero,0,0,0⟩ _ hn H5.out).mono ?_
 rintro e wa7 ⟨rfl,hd9⟩
 clear zp z0 c00 c01 c02
 have H8:=Lib.hid hd9
 clear hd9 H5
 have F9:=H8.out.sees
 simp only [sees,af,ac,Nat.reduceAdd] at F9
 obtain ⟨zp,⟨z0,c00,c01,c02,-⟩,-⟩:=F9
 go_wp2_with fail
 first
  | go_end0
  | refine bodyPost_ret (results_none rfl _ _ _) rfl ?_
 exact ⟨rfl,H8.out.tail⟩
