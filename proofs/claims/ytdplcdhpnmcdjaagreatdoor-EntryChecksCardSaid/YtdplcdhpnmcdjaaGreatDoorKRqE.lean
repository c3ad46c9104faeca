/- Plain: what an input means that is no formula. No program stands here. The reference's parser by rf: want, primary. -/
import Derived.Test.YtdplcdhpnmcdjaaGreatDoorKRqD
import Derived.Test.YtdplcdhpnmcdjaaGreatDoorKLexG
import Derived.Test.YtdplcdhpnmcdjaaGreatDoorKTg
namespace Go.Proofs.YtdplcdhpnmcdjaaGreatDoor
open Go.RowKit
abbrev Vl:=Nat×Int×List UInt8
def bh (k:Nat) (l:List UInt8):Vl×Bool :=
 if k=0 then ((0,0,[]),l.isEmpty)
 else if k=1 then ((3,0,Lib.trimPrefix l [39]),Lib.hasPrefix l [39])
 else if k=2 then (if l.map upB=c6 then ((2,1,[]),true) else if l.map upB=cf then ((2,0,[]),true) else ((4,2,[]),false))
 else if k=3 then (if bH l=0 then ((4,2,[]),false) else ((4,(bH l:Int),[]),decide (bH l≤5)))
 else if (cx l).2=3 then ((4,3,[]),true) else ((1,(cx l).1,[]),decide ((cx l).2=0))
theorem j7 (l:List UInt8):bh 2 l=if l.map upB=c6 then ((2,1,[]),true) else if l.map upB=cf then ((2,0,[]),true) else ((4,2,[]),false):=rfl
theorem lR (l:List UInt8):bh 3 l=if bH l=0 then ((4,2,[]),false) else ((4,(bH l:Int),[]),decide (bH l≤5)):=rfl
theorem iF (l:List UInt8):bh 4 l=if (cx l).2=3 then ((4,3,[]),true) else ((1,(cx l).1,[]),decide ((cx l).2=0)):=rfl
def gp (l:List UInt8):Nat→Nat→Vl
 | 0,_=>(3,0,l)
 | n+1,k=>if (bh k l).2=true then (bh k l).1 else gp l n (k+1)
def be (l:List UInt8):Vl:=gp l 5 0
theorem jm {l:List UInt8}:∀ k,k≤5→(∀ j,j<k→(bh j l).2=false)→be l=gp l (5 - k) k
 | 0,_,_=>rfl
 | k+1,h,hj=>by
  rw [jm k (by omega) fun j hjk=>hj j (by omega),show 5 - k=5 - (k+1)+1 by omega,gp,if_neg (by rw [hj k (Nat.lt_succ_self k)]; decide)]
theorem dI {l:List UInt8} {k:Nat} (h:k<5) (hj:∀ j,j<k→(bh j l).2=false) (hk:(bh k l).2=true):be l=(bh k l).1:=by
 rw [jm k (by omega) hj,show 5 - k=5 - (k+1)+1 by omega,gp,if_pos hk]
theorem jn {l:List UInt8} (hj:∀ j,j<5→(bh j l).2=false):be l=(3,0,l):=jm 5 (Nat.le_refl _) hj
theorem rR (l:List UInt8):(cx l).2=0∨cx l=(0,3)∨cx l=(0,4):=by
 unfold cx
 split
 ·exact .inr (.inr rfl)
 split
 ·exact .inr (.inr rfl)
 split
 ·exact .inl rfl
 exact .inr (.inl rfl)
theorem gB (l:List UInt8) : -9223372036854775807≤(cx l).1∧(cx l).1≤9223372036854775807:=by
 unfold cx
 split
 ·exact ⟨by decide,by decide⟩
 split
 ·exact ⟨by decide,by decide⟩
 rename_i p _
 generalize it ((bT l).takeWhile ah) p=M
 by_cases h:M≤aD
 ·rw [if_pos h]
  unfold aD at h
  by_cases h2:l.head?=some 45
  ·rw [if_pos h2]
   exact ⟨by show _≤-(M:Int); omega,by show -(M:Int)≤_; omega⟩
  rw [if_neg h2]
  exact ⟨by show _≤(M:Int); omega,by show (M:Int)≤_; omega⟩
 rw [if_neg h]
 exact ⟨by decide,by decide⟩
set_option maxRecDepth 100000
set_option maxHeartbeats 4000000
open Go.RowKit Go.Proofs.Tryz
theorem AT (f:Nat) (_IH:∀ g,g≤f→Rc g) (tk:Nat) (tn:Int) (tt:List UInt8) (t1 t2 t3 t4:Int) (ta:Nat) (w1:World) (ps:List aS) (pb:Nat) (S:ByteArray) (all:List Tk) (i:Nat) (ns:List Nd) (a c:Int) (n:Nat) (w:World) (hn:all.length≤1000) (hs:S.size≤4611686018427387904) (hi:i≤all.length) (hl:ns.length≤i) (_hf:12 * (all.length - i)+2≤f+1) (h:RSt w1 ps pb S all i ns a c w) (ht:hdS S.size (all.drop i)=⟨tk,tn,tt,⟨t1,t2,t3,t4⟩,ta⟩) (hk:1≤tk∧tk≤4) :
  Calls prog 240 #[.pointer (some ⟨pb,0,none⟩)] w (RQ w1 ps pb S all (rf S.size all (f+1) .pr ⟨i,ns,a,c,n⟩)):=by
 have hT0:=ht
 obtain ⟨i0,hi_,hz0,hz1,hz2⟩:=info_parts p8
 have hi9:=hi_
 clear hi_
 rw [AQ ht]
 simp only []
 rw [if_pos (by omega)]
 have HH:=keep (zu w1 ps pb S all i ns a c w hn (by omega) hs h)
 rw [ht] at HH
 have H:=Lib.hid h
 have HK:=keep hk
 clear hk h ht hT0 _IH
 go_enter func240,ntmps240
 go_wp2_with fail
 refine (HH.out).mono ?_
 rintro e wa1 ⟨rfl,hb2⟩
 have H3:=Lib.hid (H.out.below hb2)
 clear hb2 H HH
 simp only [tkA]
 go_upto_region 1 with fail
 have H4:Hid (RSt w1 (ac wa1.heap.size 97 [.int .u8 tk,.int .i64 tn,.string ⟨tt.toArray⟩,.int .i64 t1,.int .i64 t2,.int .i64 t3,.int .i64 t4,.int .i64 ta]::ps) pb S all i ns a c (wa1.alloc (.cells #[.int .u8 tk,.int .i64 tn,.string ⟨tt.toArray⟩,.int .i64 t1,.int .i64 t2,.int .i64 t3,.int .i64 t4,.int .i64 ta] 97))):=Lib.hid (H3.out.alloc 97 [.int .u8 tk,.int .i64 tn,.string ⟨tt.toArray⟩,.int .i64 t1,.int .i64 t2,.int .i64 t3,.int .i64 t4,.int .i64 ta])
 clear H3
 generalize (wa1.alloc (.cells #[.int .u8 tk,.int .i64 tn,.string ⟨tt.toArray⟩,.int .i64 t1,.int .i64 t2,.int .i64 t3,.int .i64 t4,.int .i64 ta] 97))=W5 at H4 ⊢
 have F6:=H4.out.sees
 simp only [sees,ac,aa,Nat.reduceAdd] at F6
 obtain ⟨zp,⟨z0,c00,c01,c02,c03,c04,c05,c06,c07,-⟩,-⟩:=F6
 obtain ⟨la,lc,tv,-,⟨x0,x1⟩,p0,p1,p2,p3,p4,p5⟩:=H4.out.cells
 rcases (show tk=1∨tk=2∨tk=3∨tk=4 by have:=HK.out; omega) with hk | hk | hk | hk
 case' inl=>go_upto_region 5 with fail
 case' inr.inl=>go_upto_region 7 with fail
 case' inr.inr.inl=>go_upto_region 9 with fail
 case' inr.inr.inr=>go_upto_region 11 with fail
 all_goals
  have HI:=Lib.hid H4.out.inc
  clear H4 x0 x1 p0 p1 p2 p3 p4 p5 c00 c01 c02 c03 c04 c05 c06 c07 zp z0
  generalize (W5.setCell ⟨pb,2,none⟩ (.int .i64 ((i:Int)+1)))=W6 at HI ⊢
  obtain ⟨h1,h2,la2,lc2,tv2,hT,hO⟩:=HI.out
  have HT:=keep hT
  have H2:=keep h2
  have HO:=Lib.hid hO
  clear hO hT h2 HI
  obtain ⟨ln,hln⟩:=ex (ns.length)
  have HLN:=keep hln
  have hln9:ln≤1001:=by omega
  rw [hln] at HO
  clear hln
  have HR:=Lib.hid HO.out.drew
  have HB0:=Lib.hid HO.out.ok.drew.bel
  refine zX 11 (fun W=>Ok w1 _ W) (by kernel_rfl) (by decide) HO.out.ok.drew (fun hHeld => ?_)
  clear HO
  generalize W6.drew=W7 at HR HB0 hHeld ⊢
  refine ht_ 0 ?_
  refine ht_ 1 ?_
  refine ht_ 2 ?_
  refine ht_ 3 ?_
  refine ht_ 5 ?_
  refine ht_ 6 ?_
  refine ht_ 7 ?_
  refine ht_ 8 ?_
  refine ht_ 4 ?_
  refine zU (i:=9) (by kernel_rfl) (by decide) rfl (fun K hK => ?_)
  go_simp
  refine hK.out _ _ (HR.out.ok.alloc_obj _) (fun hHeld => ?_)
  clear hK K
  refine hn_ ?_
  refine zU (i:=10) (by kernel_rfl) (by decide) rfl (fun K hK => ?_)
  refine step_append_lies _ (by rfl) _ _ _ (by rfl) w1.heap.size 39 i0 _ 11 96 underlying22 hi9 hz0 hz1 hz2 rfl (by omega) _ _ _ (by rfl) (HR.out.alloc_obj _).own ⟨W7.heap.size,0,none⟩ 1 1 _ (by rfl) (by rfl) (World.news_of_block (heap_alloc_new W7 _)) (by intro u hu; simp at hu; rcases hu with rfl | rfl | rfl | rfl | rfl | rfl | rfl | rfl | rfl | rfl | rfl <;> rfl) (by omega) (by unfold maxLen; omega) (by omega) (by have:=HB0.out.size; simp; omega) (W7.heap.size+1) (by simp) ?_
  intro g cap w3 hown3 hgrow3 hat3 hlt3
  have HR3:=Lib.hid ((HR.out.alloc_obj _).appended hown3 hgrow3 (by rw [World.size_alloc]; exact hat3))
  clear hown3 hgrow3 hat3
  refine hK.out _ _ HR3.out.ok (fun hHeld => ?_)
  clear hK K
  refine hn_ ?_
  refine AC (by kernel_rfl) ?_
  simp only [List.drop_succ_cons,List.drop_zero]
  have F3:=sR HR3
  have HR4:=Lib.hid (HR3.out.set_ (i:=3) (u:=.slice (some ⟨g,0,none⟩) (ln+1) cap) h1 H2.out)
  go_wp2_with fail
  first
   | go_end0
   | go_ret
   | refine bodyPost_ret (results_none rfl _ _ _) rfl ?_
  subst hk
  refine ⟨rfl,h1,fun x hx=>H2.out x (List.mem_cons_of_mem _ hx),la2,lc2,.slice (some ⟨g,0,none⟩) (ln+1) cap,HT.out,?_⟩
  have h9:=HR4.out
  simp only [Q.put,gU,List.length_append,List.length_singleton,HLN.out]
  exact h9.drop _ (by intro z hz; simp at hz ⊢; rcases hz with h | h <;> simp [h])
theorem AV (f:Nat) (_IH:∀ g,g≤f→Rc g) (tk:Nat) (tn:Int) (tt:List UInt8) (t1 t2 t3 t4:Int) (ta:Nat) (w1:World) (ps:List aS) (pb:Nat) (S:ByteArray) (all:List Tk) (i:Nat) (ns:List Nd) (a c:Int) (n:Nat) (w:World) (hn:all.length≤1000) (hs:S.size≤4611686018427387904) (hi:i≤all.length) (hl:ns.length≤i) (_hf:12 * (all.length - i)+2≤f+1) (h:RSt w1 ps pb S all i ns a c w) (ht:hdS S.size (all.drop i)=⟨tk,tn,tt,⟨t1,t2,t3,t4⟩,ta⟩) (hk:tk=5) :
  Calls prog 240 #[.pointer (some ⟨pb,0,none⟩)] w (RQ w1 ps pb S all (rf S.size all (f+1) .pr ⟨i,ns,a,c,n⟩)):=by
 have hT0:=ht
 obtain ⟨i0,hi_,hz0,hz1,hz2⟩:=info_parts p8
 have hi9:=hi_
 clear hi_
 rw [AQ ht]
 simp only []
 rw [if_neg (by omega),if_pos hk]
 have HH:=keep (zu w1 ps pb S all i ns a c w hn (by omega) hs h)
 rw [ht] at HH
 have H:=Lib.hid h
 have HK:=keep hk
 clear hk h ht hT0 _IH
 go_enter func240,ntmps240
 go_wp2_with fail
 refine (HH.out).mono ?_
 rintro e wa1 ⟨rfl,hb2⟩
 have H3:=Lib.hid (H.out.below hb2)
 clear hb2 H HH
 simp only [tkA]
 go_upto_region 1 with fail
 have H4:Hid (RSt w1 (ac wa1.heap.size 97 [.int .u8 tk,.int .i64 tn,.string ⟨tt.toArray⟩,.int .i64 t1,.int .i64 t2,.int .i64 t3,.int .i64 t4,.int .i64 ta]::ps) pb S all i ns a c (wa1.alloc (.cells #[.int .u8 tk,.int .i64 tn,.string ⟨tt.toArray⟩,.int .i64 t1,.int .i64 t2,.int .i64 t3,.int .i64 t4,.int .i64 ta] 97))):=Lib.hid (H3.out.alloc 97 [.int .u8 tk,.int .i64 tn,.string ⟨tt.toArray⟩,.int .i64 t1,.int .i64 t2,.int .i64 t3,.int .i64 t4,.int .i64 ta])
 clear H3
 generalize (wa1.alloc (.cells #[.int .u8 tk,.int .i64 tn,.string ⟨tt.toArray⟩,.int .i64 t1,.int .i64 t2,.int .i64 t3,.int .i64 t4,.int .i64 ta] 97))=W5 at H4 ⊢
 have hk:=HK.out
 have F6:=H4.out.sees
 simp only [sees,ac,aa,Nat.reduceAdd] at F6
 obtain ⟨zp,⟨z0,c00,c01,c02,c03,c04,c05,c06,c07,-⟩,-⟩:=F6
 obtain ⟨la,lc,tv,-,⟨x0,x1⟩,p0,p1,p2,p3,p4,p5⟩:=H4.out.cells
 go_upto_region 13 with fail
 have HI:=Lib.hid H4.out.inc
 clear H4 x0 x1 p0 p1 p2 p3 p4 p5 c00 c01 c02 c03 c04 c05 c06 c07 zp z0
 generalize (W5.setCell ⟨pb,2,none⟩ (.int .i64 ((i:Int)+1)))=W6 at HI ⊢
 obtain ⟨h1,h2,la2,lc2,tv2,hT,hO⟩:=HI.out
 have HT:=keep hT
 have H2:=keep h2
 have HO:=Lib.hid hO
 clear hO hT h2 HI
 obtain ⟨ln,hln⟩:=ex (ns.length)
 have HLN:=keep hln
 have hln9:ln≤1001:=by omega
 rw [hln] at HO
 clear hln
 have HR:=Lib.hid HO.out.drew
 have HB0:=Lib.hid HO.out.ok.drew.bel
 refine zX 10 (fun W=>Ok w1 _ W) (by kernel_rfl) (by decide) HO.out.ok.drew (fun hHeld => ?_)
 clear HO
 generalize W6.drew=W7 at HR HB0 hHeld ⊢
 have HR1:=Lib.hid (HR.out.alloc_obj (.cells #[.int .u8 2,.int .u8 0,.int .i64 0,.string ⟨#[]⟩,.int .i64 t1,.int .i64 t2,.int .i64 t3,.int .i64 t4,.int .i64 0,.int .u8 0,.int .i64 0] 39))
 refine ht_ 0 ?_
 refine ht_ 1 ?_
 refine ht_ 2 ?_
 refine ht_ 3 ?_
 refine ht_ 5 ?_
 refine ht_ 6 ?_
 refine ht_ 7 ?_
 refine ht_ 4 ?_
 refine zU (i:=8) (by kernel_rfl) (by decide) rfl (fun K hK => ?_)
 go_simp
 refine hK.out _ _ HR1.out.ok (fun hHeld => ?_)
 clear hK K
 refine hn_ ?_
 refine zU (i:=9) (by kernel_rfl) (by decide) rfl (fun K hK => ?_)
 refine step_append_lies _ (by rfl) _ _ _ (by rfl) w1.heap.size 39 i0 _ 11 96 underlying22 hi9 hz0 hz1 hz2 rfl (by omega) _ _ _ (by rfl) HR1.out.own ⟨W7.heap.size,0,none⟩ 1 1 [.int .u8 2,.int .u8 0,.int .i64 0,.string ⟨#[]⟩,.int .i64 t1,.int .i64 t2,.int .i64 t3,.int .i64 t4,.int .i64 0,.int .u8 0,.int .i64 0] (by rfl) (by rfl) (World.news_of_block (cs:=#[.int .u8 2,.int .u8 0,.int .i64 0,.string ⟨#[]⟩,.int .i64 t1,.int .i64 t2,.int .i64 t3,.int .i64 t4,.int .i64 0,.int .u8 0,.int .i64 0]) (t:=39) (fr:=(0,0)) (heap_alloc_new _ _)) (by intro u hu; simp at hu; rcases hu with rfl | rfl | rfl | rfl | rfl | rfl | rfl | rfl | rfl | rfl | rfl <;> rfl) (by omega) (by unfold maxLen; omega) (by omega) (by have:=HB0.out.size; simp; omega) (W7.heap.size+1) (by simp) ?_
 intro g cap w3 hown3 hgrow3 hat3 hlt3
 have HR3:=Lib.hid (HR1.out.appended hown3 hgrow3 (by rw [World.size_alloc]; exact hat3))
 clear hown3 hgrow3 hat3
 refine hK.out _ _ HR3.out.ok (fun hHeld => ?_)
 clear hK K
 refine hn_ ?_
 refine AC (by kernel_rfl) ?_
 simp only [List.drop_succ_cons,List.drop_zero]
 have F3:=sR HR3
 have HR4:=Lib.hid (HR3.out.set_ (i:=3) (u:=.slice (some ⟨g,0,none⟩) (ln+1) cap) h1 H2.out)
 go_wp2_with fail
 first
  | go_end0
  | go_ret
  | refine bodyPost_ret (results_none rfl _ _ _) rfl ?_
 refine ⟨rfl,h1,fun x hx=>H2.out x (List.mem_cons_of_mem _ hx),la2,lc2,.slice (some ⟨g,0,none⟩) (ln+1) cap,HT.out,?_⟩
 have h9:=HR4.out
 simp only [Q.put,gU,List.length_append,List.length_singleton,HLN.out]
 exact h9.drop _ (by intro z hz; simp at hz ⊢; rcases hz with h | h <;> simp [h])
theorem AU (f:Nat) (IH:∀ g,g≤f→Rc g) (tk:Nat) (tn:Int) (tt:List UInt8) (t1 t2 t3 t4:Int) (ta:Nat) (w1:World) (ps:List aS) (pb:Nat) (S:ByteArray) (all:List Tk) (i:Nat) (ns:List Nd) (a c:Int) (n:Nat) (w:World) (hn:all.length≤1000) (hs:S.size≤4611686018427387904) (_hi:i≤all.length) (hl:ns.length≤i) (hf:12 * (all.length - i)+2≤f+1) (h:RSt w1 ps pb S all i ns a c w) (ht:hdS S.size (all.drop i)=⟨tk,tn,tt,⟨t1,t2,t3,t4⟩,ta⟩) (hk:tk=9) :
  Calls prog 240 #[.pointer (some ⟨pb,0,none⟩)] w (RQ w1 ps pb S all (rf S.size all (f+1) .pr ⟨i,ns,a,c,n⟩)):=by
 have hT0:=ht
 obtain ⟨i0,hi_,hz0,hz1,hz2⟩:=info_parts p8
 have hi9:=hi_
 clear hi_
 rw [AQ ht]
 simp only []
 rw [if_neg (by omega),if_neg (by omega),if_pos hk]
 have hlt:i<all.length:=zL (e:=S.size) (q:=⟨i,ns,a,c,n⟩) (by show (hdS S.size (all.drop i)).kind≠0; rw [hT0]; simp only; omega)
 have hb2:=zF (e:=S.size) (all:=all) (f:=f) (m:=(.lv 1)) (q:=⟨i+1,ns,a,c,n⟩) hn (hlt) (by simp only [Mr.sl]; omega)
 have hc2:=fun qs W (h9:RSt w1 qs pb S all (i+1) (ns) (a) (c) W)=>IH (f) (Nat.le_refl _) w1 qs pb S all ⟨i+1,ns,a,c,n⟩ (.lv 1) W hn hs (hlt) (by simp only [Mr.sl]; omega) (by simp only [e6]; omega) h9
 obtain ⟨⟨i2,ns2,a2,c2,n2⟩,hX2⟩:∃ q,rf S.size all f (.lv 1) ⟨i+1,ns,a,c,n⟩=q:=⟨_,rfl⟩
 rw [hX2] at hb2 hc2
 simp only [Mr.sl] at hb2
 obtain ⟨hb2a,hb2b,hb2c,hb2d⟩:=hb2
 have HC2:=keep hc2
 clear hc2
 rw [hX2]
 clear hX2
 have HH:=keep (zu w1 ps pb S all i ns a c w hn (by omega) hs h)
 rw [ht] at HH
 have H:=Lib.hid h
 have HK:=keep hk
 clear hk h ht hT0 IH
 go_enter func240,ntmps240
 go_wp2_with fail
 refine (HH.out).mono ?_
 rintro e wa1 ⟨rfl,hb2⟩
 have H3:=Lib.hid (H.out.below hb2)
 clear hb2 H HH
 simp only [tkA]
 go_upto_region 1 with fail
 have H4:Hid (RSt w1 (ac wa1.heap.size 97 [.int .u8 tk,.int .i64 tn,.string ⟨tt.toArray⟩,.int .i64 t1,.int .i64 t2,.int .i64 t3,.int .i64 t4,.int .i64 ta]::ps) pb S all i ns a c (wa1.alloc (.cells #[.int .u8 tk,.int .i64 tn,.string ⟨tt.toArray⟩,.int .i64 t1,.int .i64 t2,.int .i64 t3,.int .i64 t4,.int .i64 ta] 97))):=Lib.hid (H3.out.alloc 97 [.int .u8 tk,.int .i64 tn,.string ⟨tt.toArray⟩,.int .i64 t1,.int .i64 t2,.int .i64 t3,.int .i64 t4,.int .i64 ta])
 clear H3
 generalize (wa1.alloc (.cells #[.int .u8 tk,.int .i64 tn,.string ⟨tt.toArray⟩,.int .i64 t1,.int .i64 t2,.int .i64 t3,.int .i64 t4,.int .i64 ta] 97))=W5 at H4 ⊢
 have hk:=HK.out
 have F6:=H4.out.sees
 simp only [sees,ac,aa,Nat.reduceAdd] at F6
 obtain ⟨zp,⟨z0,c00,c01,c02,c03,c04,c05,c06,c07,-⟩,-⟩:=F6
 obtain ⟨la,lc,tv,-,⟨x0,x1⟩,p0,p1,p2,p3,p4,p5⟩:=H4.out.cells
 go_wp2_with fail
 refine (HC2.out _ _ H4.out.inc (by omega) (by omega)).mono ?_
 rintro e w6 ⟨rfl,hst⟩
 have hst:RSt w1 _ pb S all i2 ns2 a2 c2 w6:=hst
 have HST:=Lib.hid hst
 clear hst HC2 H4 x0 x1 p0 p1 p2 p3 p4 p5 c00 c01 c02 c03 c04 c05 c06 c07 zp z0
 go_wp2_with fail
 refine (Dw w1 _ pb S all i2 ns2 a2 c2 n2 10 _ hn (by omega) hs HST.out).mono ?_
 rintro e w8 ⟨rfl,hst⟩
 have HST8:=Lib.hid hst
 clear hst HST
 go_wp2_with fail
 first
  | go_end0
  | go_ret
  | refine bodyPost_ret (results_none rfl _ _ _) rfl ?_
 exact ⟨rfl,HST8.out.tail⟩
theorem AN (f:Nat) (_IH:∀ g,g≤f→Rc g) (tk:Nat) (tn:Int) (tt:List UInt8) (t1 t2 t3 t4:Int) (ta:Nat) (w1:World) (ps:List aS) (pb:Nat) (S:ByteArray) (all:List Tk) (i:Nat) (ns:List Nd) (a c:Int) (n:Nat) (w:World) (hn:all.length≤1000) (hs:S.size≤4611686018427387904) (hi:i≤all.length) (_hl:ns.length≤i) (_hf:12 * (all.length - i)+2≤f+1) (h:RSt w1 ps pb S all i ns a c w) (ht:hdS S.size (all.drop i)=⟨tk,tn,tt,⟨t1,t2,t3,t4⟩,ta⟩) (hk:¬ (1≤tk∧tk≤4)∧tk≠5∧tk≠9∧tk≠7) :
  Calls prog 240 #[.pointer (some ⟨pb,0,none⟩)] w (RQ w1 ps pb S all (rf S.size all (f+1) .pr ⟨i,ns,a,c,n⟩)):=by
 have hT0:=ht
 obtain ⟨i0,hi_,hz0,hz1,hz2⟩:=info_parts p8
 have hi9:=hi_
 clear hi_
 rw [AQ ht]
 simp only []
 rw [if_neg hk.1,if_neg hk.2.1,if_neg hk.2.2.1,if_neg hk.2.2.2]
 have HH:=keep (zu w1 ps pb S all i ns a c w hn (by omega) hs h)
 rw [ht] at HH
 have H:=Lib.hid h
 have HK:=keep hk
 clear hk h ht hT0 _IH
 go_enter func240,ntmps240
 go_wp2_with fail
 refine (HH.out).mono ?_
 rintro e wa1 ⟨rfl,hb2⟩
 have H3:=Lib.hid (H.out.below hb2)
 clear hb2 H HH
 simp only [tkA]
 go_upto_region 1 with fail
 have H4:Hid (RSt w1 (ac wa1.heap.size 97 [.int .u8 tk,.int .i64 tn,.string ⟨tt.toArray⟩,.int .i64 t1,.int .i64 t2,.int .i64 t3,.int .i64 t4,.int .i64 ta]::ps) pb S all i ns a c (wa1.alloc (.cells #[.int .u8 tk,.int .i64 tn,.string ⟨tt.toArray⟩,.int .i64 t1,.int .i64 t2,.int .i64 t3,.int .i64 t4,.int .i64 ta] 97))):=Lib.hid (H3.out.alloc 97 [.int .u8 tk,.int .i64 tn,.string ⟨tt.toArray⟩,.int .i64 t1,.int .i64 t2,.int .i64 t3,.int .i64 t4,.int .i64 ta])
 clear H3
 generalize (wa1.alloc (.cells #[.int .u8 tk,.int .i64 tn,.string ⟨tt.toArray⟩,.int .i64 t1,.int .i64 t2,.int .i64 t3,.int .i64 t4,.int .i64 ta] 97))=W5 at H4 ⊢
 have hk:=HK.out
 have F6:=H4.out.sees
 simp only [sees,ac,aa,Nat.reduceAdd] at F6
 obtain ⟨zp,⟨z0,c00,c01,c02,c03,c04,c05,c06,c07,-⟩,-⟩:=F6
 obtain ⟨la,lc,tv,-,⟨x0,x1⟩,p0,p1,p2,p3,p4,p5⟩:=H4.out.cells
 obtain ⟨hk1,hk5,hk9,hk7⟩:=hk
 have e1:((tk:Int) == 1)=false:=by simp; omega
 have e2:((tk:Int) == 2)=false:=by simp; omega
 have e3:((tk:Int) == 3)=false:=by simp; omega
 have e4:((tk:Int) == 4)=false:=by simp; omega
 have e5:((tk:Int) == 5)=false:=by simp; omega
 have e9:((tk:Int) == 9)=false:=by simp; omega
 have e7:((tk:Int) == 7)=false:=by simp; omega
 clear hk1 hk5 hk9 hk7
 go_wp2_with fail
 refine (zC w1 _ pb S all (i+1) ns a c _ _ _ H4.out.inc).mono ?_
 rintro e w6 ⟨rfl,hst⟩
 have HST:=Lib.hid hst
 clear hst H4 x0 x1 p0 p1 p2 p3 p4 p5 c00 c01 c02 c03 c04 c05 c06 c07 zp z0
 go_wp2_with fail
 first
  | go_end0
  | go_ret
  | refine bodyPost_ret (results_none rfl _ _ _) rfl ?_
 exact ⟨rfl,HST.out.tail⟩
