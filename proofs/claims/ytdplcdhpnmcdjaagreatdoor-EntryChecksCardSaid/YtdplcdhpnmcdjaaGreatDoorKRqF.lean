/- The reference's parser by rf: argument, call. Plain: what an input means. No program stands here. -/
import Derived.Test.YtdplcdhpnmcdjaaGreatDoorKRqD
import Derived.Test.YtdplcdhpnmcdjaaGreatDoorKTg
import Derived.Test.YtdplcdhpnmcdjaaGreatDoorKR8A
import Derived.IntWalk
import Derived.Test.YtdplcdhpnmcdjaaGreatDoorKRqE
import Derived.Test.YtdplcdhpnmcdjaaGreatDoorKNdA
namespace Go.Proofs.YtdplcdhpnmcdjaaGreatDoor
set_option maxRecDepth 100000
set_option maxHeartbeats 4000000
open Go.RowKit Go.Proofs.Tryz
section
variable {e:Nat} {all:List Tk} {i n fn:Nat} {ns:List Nd} {a c at_:Int}
theorem AJ (hc:c≠0):(⟨i,ns,a,c,n⟩:Q).close e all fn at_=⟨i,ns,a,c,n⟩:=by
 unfold Q.close
 rw [if_pos hc]
theorem Dd (hk:(hdS e (all.drop i)).kind≠10):(⟨i,ns,a,0,n⟩:Q).close e all fn at_=⟨i,ns,((hdS e (all.drop i)).at_:Int),4,n⟩:=by
 unfold Q.close
 rw [if_neg (by simp)]
 have hw:(⟨i,ns,a,0,n⟩:Q).want e all 10=⟨i,ns,((hdS e (all.drop i)).at_:Int),4,n⟩:=by
  unfold Q.want
  rw [if_neg (by exact hk)]
  rfl
 rw [hw]
 unfold Q.arity
 split <;> rfl
theorem Av (hk:(hdS e (all.drop i)).kind=10):(⟨i,ns,a,0,n⟩:Q).close e all fn at_=((⟨i+1,ns,a,0,n⟩:Q).arity fn at_ n).end2 fn at_ n:=by
 unfold Q.close
 rw [if_neg (by simp)]
 have hw:(⟨i,ns,a,0,n⟩:Q).want e all 10=⟨i+1,ns,a,0,n⟩:=by
  unfold Q.want
  rw [if_pos (by exact hk)]
  rfl
 rw [hw]
theorem AI (hk:(hdS e (all.drop i)).kind=10) (hr:n<(arS fn).1∨(arS fn).2<n):(⟨i,ns,a,0,n⟩:Q).close e all fn at_=⟨i+1,ns,at_,11,n⟩:=by
 rw [Av hk]
 unfold Q.arity
 rw [if_pos hr]
 rfl
theorem Dc (hk:(hdS e (all.drop i)).kind=10) (hr:¬ (n<(arS fn).1∨(arS fn).2<n)) (h:46≤fn∧zH ns≠2∧zH ns≠3):(⟨i,ns,a,0,n⟩:Q).close e all fn at_=⟨i+1,ns++[da fn n],at_,4,n⟩:=by
 rw [Av hk]
 unfold Q.arity
 rw [if_neg hr]
 unfold Q.end2
 rw [if_neg (by simp)]
 unfold Q.area
 rw [if_pos (by exact h)]
 rfl
theorem B8 (hk:(hdS e (all.drop i)).kind=10) (hr:¬ (n<(arS fn).1∨(arS fn).2<n)) (h:¬ (46≤fn∧zH ns≠2∧zH ns≠3)):(⟨i,ns,a,0,n⟩:Q).close e all fn at_=⟨i+1,ns++[da fn n],a,0,n⟩:=by
 rw [Av hk]
 unfold Q.arity
 rw [if_neg hr]
 unfold Q.end2
 rw [if_neg (by simp)]
 unfold Q.area
 rw [if_neg (by exact h)]
 rfl
end
def Ct (e:Nat) (all:List Tk) (g fn k:Nat) (q:Q):Q:=if q.c=0∧(hdS e (all.drop q.i)).kind=11 then rf e all g (.args fn k) q.inc else q.cnt k
theorem C3 (e:Nat) (all:List Tk) (g fn k:Nat) (q:Q):rf e all (g+1) (.args fn k) q=Ct e all g fn (k+1) (rf e all g (.arg fn k) q):=by
 rw [rf]
 rfl
theorem RSt.last {w1 w:World} {ps:List aS} {pb i:Nat} {S:ByteArray} {all:List Tk} {ns:List Nd} {nd:Nd} {a c:Int} (h:RSt w1 ps pb S all i (ns++[nd]) a c w) :
  ∃ g cap,w.cell? ⟨pb,3,none⟩=some (.slice (some ⟨g,0,none⟩) (ns.length+1) cap)∧pb<w.heap.size∧g<w.heap.size∧w.cell? ⟨g,ns.length * 11,none⟩=some (.int .u8 (nd.kind:Nat)):=by
 obtain ⟨h1,h2,la,lc,ov,hT,hO⟩:=h
 have F:=hO.ok.sees
 simp only [af,aa,Nat.reduceAdd] at F
 obtain ⟨⟨⟨hp0,-⟩,p0,p1,p2,p3,-⟩,-⟩:=F
 have hown:=hO.own
 have hcl:=@World.ownsRow.cells _ _ _ _ _ _ _ hown
 have hlt:=hown.lt
 rcases hown.2 with ⟨-,hl⟩ | ⟨g,cap,cur,rfl,_,_,hn,hm,_⟩
 ·simp at hl
 refine ⟨g,cap,by rw [p3]; simp,hp0,(hlt g rfl).2,?_⟩
 have:=hcl rfl (ns.length * 11) (.int .u8 (nd.kind:Nat)) (by
  rw [gU,List.getElem?_append_right (by rw [iO]; exact Nat.le_refl _),iO,Nat.sub_self]
  rfl)
 rwa [show (⟨g,0,none⟩:Addr).add (ns.length * 11)=⟨g,ns.length * 11,none⟩ by unfold Addr.add; split <;> simp_all] at this
theorem Dv (f:Nat) (IH:∀ g,g≤f→Rc g) (fn j:Nat) (_hf1:1≤fn) (_hf2:fn≤50) (_hj:j≤2000) (tk:Nat) (tn:Int) (tt:List UInt8) (t1 t2 t3 t4:Int) (ta:Nat) (w1:World) (ps:List aS) (pb:Nat) (S:ByteArray) (all:List Tk) (i:Nat) (ns:List Nd) (a c:Int) (n:Nat) (w:World) (hn:all.length≤1000) (hs:S.size≤4611686018427387904) (hi:i≤all.length) (hl:ns.length≤i) (hf:12 * (all.length - i)+11≤f+1) (h:RSt w1 ps pb S all i ns a c w) (ht:hdS S.size (all.drop i)=⟨tk,tn,tt,⟨t1,t2,t3,t4⟩,ta⟩) (hk:tk≠6) :
  Calls prog 261 #[.pointer (some ⟨pb,0,none⟩),.int .u8 (fn:Nat),.int .i64 (j:Nat)] w (RQ w1 ps pb S all (rf S.size all (f+1) (.arg fn j) ⟨i,ns,a,c,n⟩)):=by
 have hT0:=ht
 obtain ⟨i0,hi_,hz0,hz1,hz2⟩:=info_parts p8
 have hi9:=hi_
 clear hi_
 rw [Br ht]
 simp only []
 rw [if_pos hk]
 have hb2:=zF (e:=S.size) (all:=all) (f:=f) (m:=(.lv 1)) (q:=⟨i,ns,a,c,n⟩) hn (hi) (by simp only [Mr.sl]; omega)
 have hc2:=fun qs W (h9:RSt w1 qs pb S all (i) (ns) (a) (c) W)=>IH (f) (Nat.le_refl _) w1 qs pb S all ⟨i,ns,a,c,n⟩ (.lv 1) W hn hs (hi) (by simp only [Mr.sl]; omega) (by simp only [e6]; omega) h9
 obtain ⟨⟨i2,ns2,a2,c2,n2⟩,hX2⟩:∃ q,rf S.size all f (.lv 1) ⟨i,ns,a,c,n⟩=q:=⟨_,rfl⟩
 rw [hX2] at hb2 hc2
 simp only [Mr.sl] at hb2
 obtain ⟨hb2a,hb2b,hb2c,hb2d⟩:=hb2
 have HC2:=keep hc2
 clear hc2
 rw [hX2]
 clear hX2
 have HH:=keep (zu w1 ps pb S all i ns a c w hn (by omega) hs h)
 rw [ht] at HH
 have H:=Lib.hid h
 have hkb:((tk:Int) != 6)=true:=by simp; omega
 clear hk
 clear h ht hT0 IH
 go_enter func261,ntmps261
 go_wp2_with fail
 refine (HH.out).mono ?_
 rintro e wa1 ⟨rfl,hb2⟩
 have H3:=Lib.hid (H.out.below hb2)
 clear hb2 H HH
 simp only [tkA]
 go_upto_region 1 with fail
 have H4:Hid (RSt w1 (ac wa1.heap.size 97 [.int .u8 tk,.int .i64 tn,.string ⟨tt.toArray⟩,.int .i64 t1,.int .i64 t2,.int .i64 t3,.int .i64 t4,.int .i64 ta]::ps) pb S all i ns a c (wa1.alloc (.cells #[.int .u8 tk,.int .i64 tn,.string ⟨tt.toArray⟩,.int .i64 t1,.int .i64 t2,.int .i64 t3,.int .i64 t4,.int .i64 ta] 97))):=Lib.hid (H3.out.alloc 97 [.int .u8 tk,.int .i64 tn,.string ⟨tt.toArray⟩,.int .i64 t1,.int .i64 t2,.int .i64 t3,.int .i64 t4,.int .i64 ta])
 clear H3
 generalize (wa1.alloc (.cells #[.int .u8 tk,.int .i64 tn,.string ⟨tt.toArray⟩,.int .i64 t1,.int .i64 t2,.int .i64 t3,.int .i64 t4,.int .i64 ta] 97))=W5 at H4 ⊢
 have F6:=H4.out.sees
 simp only [sees,ac,aa,Nat.reduceAdd] at F6
 obtain ⟨zp,⟨z0,c00,c01,c02,c03,c04,c05,c06,c07,-⟩,-⟩:=F6
 obtain ⟨la,lc,tv,-,⟨x0,x1⟩,p0,p1,p2,p3,p4,p5⟩:=H4.out.cells
 go_wp2_with fail
 refine (HC2.out _ _ H4.out (by omega) (by omega)).mono ?_
 rintro e w6 ⟨rfl,hst⟩
 have hst:RSt w1 _ pb S all i2 ns2 a2 c2 w6:=hst
 have HST:=Lib.hid hst
 clear hst HC2 H4 x0 x1 p0 p1 p2 p3 p4 p5 c00 c01 c02 c03 c04 c05 c06 c07 zp z0
 go_wp2_with fail
 first
  | go_end0
  | go_ret
  | refine bodyPost_ret (results_none rfl _ _ _) rfl ?_
 exact ⟨rfl,HST.out.tail⟩
theorem CN (f:Nat) (_IH:∀ g,g≤f→Rc g) (fn j:Nat) (_hf1:1≤fn) (_hf2:fn≤50) (_hj:j≤2000) (tk:Nat) (tn:Int) (tt:List UInt8) (t1 t2 t3 t4:Int) (ta:Nat) (w1:World) (ps:List aS) (pb:Nat) (S:ByteArray) (all:List Tk) (i:Nat) (ns:List Nd) (a c:Int) (n:Nat) (w:World) (hn:all.length≤1000) (hs:S.size≤4611686018427387904) (hi:i≤all.length) (_hl:ns.length≤i) (_hf:12 * (all.length - i)+11≤f+1) (h:RSt w1 ps pb S all i ns a c w) (ht:hdS S.size (all.drop i)=⟨tk,tn,tt,⟨t1,t2,t3,t4⟩,ta⟩) (hk:tk=6) (hw:cE fn j=false) :
  Calls prog 261 #[.pointer (some ⟨pb,0,none⟩),.int .u8 (fn:Nat),.int .i64 (j:Nat)] w (RQ w1 ps pb S all (rf S.size all (f+1) (.arg fn j) ⟨i,ns,a,c,n⟩)):=by
 have hT0:=ht
 obtain ⟨i0,hi_,hz0,hz1,hz2⟩:=info_parts p8
 have hi9:=hi_
 clear hi_
 rw [Br ht]
 simp only []
 rw [if_neg (by simpa using hk),if_neg (by simp [hw])]
 have HH:=keep (zu w1 ps pb S all i ns a c w hn (by omega) hs h)
 rw [ht] at HH
 have H:=Lib.hid h
 have HK:=keep hk
 have HW:=keep (fun W=>Bm fn j W)
 rw [hw] at HW
 clear hk hw
 clear h ht hT0 _IH
 go_enter func261,ntmps261
 go_wp2_with fail
 refine (HH.out).mono ?_
 rintro e wa1 ⟨rfl,hb2⟩
 have H3:=Lib.hid (H.out.below hb2)
 clear hb2 H HH
 simp only [tkA]
 go_upto_region 1 with fail
 have H4:Hid (RSt w1 (ac wa1.heap.size 97 [.int .u8 tk,.int .i64 tn,.string ⟨tt.toArray⟩,.int .i64 t1,.int .i64 t2,.int .i64 t3,.int .i64 t4,.int .i64 ta]::ps) pb S all i ns a c (wa1.alloc (.cells #[.int .u8 tk,.int .i64 tn,.string ⟨tt.toArray⟩,.int .i64 t1,.int .i64 t2,.int .i64 t3,.int .i64 t4,.int .i64 ta] 97))):=Lib.hid (H3.out.alloc 97 [.int .u8 tk,.int .i64 tn,.string ⟨tt.toArray⟩,.int .i64 t1,.int .i64 t2,.int .i64 t3,.int .i64 t4,.int .i64 ta])
 clear H3
 generalize (wa1.alloc (.cells #[.int .u8 tk,.int .i64 tn,.string ⟨tt.toArray⟩,.int .i64 t1,.int .i64 t2,.int .i64 t3,.int .i64 t4,.int .i64 ta] 97))=W5 at H4 ⊢
 have hk:=HK.out
 have F6:=H4.out.sees
 simp only [sees,ac,aa,Nat.reduceAdd] at F6
 obtain ⟨zp,⟨z0,c00,c01,c02,c03,c04,c05,c06,c07,-⟩,-⟩:=F6
 obtain ⟨la,lc,tv,-,⟨x0,x1⟩,p0,p1,p2,p3,p4,p5⟩:=H4.out.cells
 go_wp2_with fail
 refine (HW.out _).mono ?_
 rintro e w6 ⟨rfl,hw⟩
 obtain rfl:W5=w6:=hw.symm
 go_wp2_with fail
 refine (zC w1 _ pb S all i ns a c _ _ _ H4.out).mono ?_
 rintro e w6 ⟨rfl,hst⟩
 have HST:=Lib.hid hst
 clear hst H4 x0 x1 p0 p1 p2 p3 p4 p5 c00 c01 c02 c03 c04 c05 c06 c07 zp z0
 go_wp2_with fail
 first
  | go_end0
  | go_ret
  | refine bodyPost_ret (results_none rfl _ _ _) rfl ?_
 exact ⟨rfl,HST.out.tail⟩
theorem CO (f:Nat) (_IH:∀ g,g≤f→Rc g) (fn j:Nat) (_hf1:1≤fn) (_hf2:fn≤50) (_hj:j≤2000) (tk:Nat) (tn:Int) (tt:List UInt8) (t1 t2 t3 t4:Int) (ta:Nat) (w1:World) (ps:List aS) (pb:Nat) (S:ByteArray) (all:List Tk) (i:Nat) (ns:List Nd) (a c:Int) (n:Nat) (w:World) (hn:all.length≤1000) (hs:S.size≤4611686018427387904) (hi:i≤all.length) (hl:ns.length≤i) (_hf:12 * (all.length - i)+11≤f+1) (h:RSt w1 ps pb S all i ns a c w) (ht:hdS S.size (all.drop i)=⟨tk,tn,tt,⟨t1,t2,t3,t4⟩,ta⟩) (hk:tk=6) (hw:cE fn j=true) :
  Calls prog 261 #[.pointer (some ⟨pb,0,none⟩),.int .u8 (fn:Nat),.int .i64 (j:Nat)] w (RQ w1 ps pb S all (rf S.size all (f+1) (.arg fn j) ⟨i,ns,a,c,n⟩)):=by
 have hT0:=ht
 obtain ⟨i0,hi_,hz0,hz1,hz2⟩:=info_parts p8
 have hi9:=hi_
 clear hi_
 rw [Br ht]
 simp only []
 rw [if_neg (by simpa using hk),if_pos hw]
 have HH:=keep (zu w1 ps pb S all i ns a c w hn (by omega) hs h)
 rw [ht] at HH
 have H:=Lib.hid h
 have HK:=keep hk
 have HW:=keep (fun W=>Bm fn j W)
 rw [hw] at HW
 clear hk hw
 clear h ht hT0 _IH
 go_enter func261,ntmps261
 go_wp2_with fail
 refine (HH.out).mono ?_
 rintro e wa1 ⟨rfl,hb2⟩
 have H3:=Lib.hid (H.out.below hb2)
 clear hb2 H HH
 simp only [tkA]
 go_upto_region 1 with fail
 have H4:Hid (RSt w1 (ac wa1.heap.size 97 [.int .u8 tk,.int .i64 tn,.string ⟨tt.toArray⟩,.int .i64 t1,.int .i64 t2,.int .i64 t3,.int .i64 t4,.int .i64 ta]::ps) pb S all i ns a c (wa1.alloc (.cells #[.int .u8 tk,.int .i64 tn,.string ⟨tt.toArray⟩,.int .i64 t1,.int .i64 t2,.int .i64 t3,.int .i64 t4,.int .i64 ta] 97))):=Lib.hid (H3.out.alloc 97 [.int .u8 tk,.int .i64 tn,.string ⟨tt.toArray⟩,.int .i64 t1,.int .i64 t2,.int .i64 t3,.int .i64 t4,.int .i64 ta])
 clear H3
 generalize (wa1.alloc (.cells #[.int .u8 tk,.int .i64 tn,.string ⟨tt.toArray⟩,.int .i64 t1,.int .i64 t2,.int .i64 t3,.int .i64 t4,.int .i64 ta] 97))=W5 at H4 ⊢
 have hk:=HK.out
 have F6:=H4.out.sees
 simp only [sees,ac,aa,Nat.reduceAdd] at F6
 obtain ⟨zp,⟨z0,c00,c01,c02,c03,c04,c05,c06,c07,-⟩,-⟩:=F6
 obtain ⟨la,lc,tv,-,⟨x0,x1⟩,p0,p1,p2,p3,p4,p5⟩:=H4.out.cells
 go_wp2_with fail
 refine (HW.out _).mono ?_
 rintro e w6 ⟨rfl,hw⟩
 obtain rfl:W5=w6:=hw.symm
 go_upto_region 6 with fail
 have HI:=Lib.hid H4.out.inc
 clear H4 x0 x1 p0 p1 p2 p3 p4 p5 c00 c01 c02 c03 c04 c05 c06 c07 zp z0
 generalize (W5.setCell ⟨pb,2,none⟩ (.int .i64 ((i:Int)+1)))=W6 at HI ⊢
 obtain ⟨h1,h2,la2,lc2,tv2,hT,hO⟩:=HI.out
 have HT:=keep hT
 have H2:=keep h2
 have HO:=Lib.hid hO
 clear hO hT h2 HI
 obtain ⟨ln,hln⟩:=ex (ns.length)
 have HLN:=keep hln
 have hln9:ln≤1001:=by omega
 rw [hln] at HO
 clear hln
 have HR:=Lib.hid HO.out.drew
 have HB0:=Lib.hid HO.out.ok.drew.bel
 clear HO
 refine wp_region_any (by kernel_rfl) ?_
 change wpAny _ _ _ _ _ _ _ W6.drew
 generalize W6.drew=W7 at HR HB0 ⊢
 have F:=HR.out.ok.sees
 simp only [sees,ac,af,aa,Nat.reduceAdd] at F
 obtain ⟨⟨⟨x0,x1⟩,p0,p1,p2,p3,p4,p5,-⟩,⟨z0,c00,c01,c02,c03,c04,c05,c06,c07,-⟩,-⟩:=F
 have HR1:=Lib.hid (HR.out.alloc_obj (.cells #[.int .u8 3,.int .u8 0,.int .i64 0,.string ⟨#[]⟩,.int .i64 t1,.int .i64 t2,.int .i64 t3,.int .i64 t4,.int .i64 0,.int .u8 0,.int .i64 0] 39))
 refine wt5 0 ?_
 refine wt5 1 ?_
 refine wt5 2 ?_
 refine wt5 3 ?_
 refine wt5 5 ?_
 refine wpAny_ready (rs:=[4,6]) (by kernel_rfl) (by simp) ?_
 refine (AllReady.cons rfl (fun K hK => ?_) (AllReady.cons rfl (fun K hK => ?_) AllReady.nil))
 ·go_simp
  refine hK _ _ ?_
  clear hK K
  refine wm ?_
  refine wan 6 fun K hK => ?_
  ·go_simp
   refine hK _ _ ?_
   clear hK K
   refine wm ?_
   refine wt5 7 ?_
   refine wan 8 fun K hK => ?_
   ·go_simp
    refine hK _ _ ?_
    clear hK K
    refine wm ?_
    refine wan 9 fun K hK => ?_
    ·refine step_append_lies _ (by rfl) _ _ _ (by rfl) w1.heap.size 39 i0 _ 11 96 underlying22 hi9 hz0 hz1 hz2 rfl (by omega) _ _ _ (by rfl) HR1.out.own ⟨W7.heap.size,0,none⟩ 1 1 [.int .u8 3,.int .u8 0,.int .i64 0,.string ⟨#[]⟩,.int .i64 t1,.int .i64 t2,.int .i64 t3,.int .i64 t4,.int .i64 0,.int .u8 0,.int .i64 0] (by rfl) (by rfl) (World.news_of_block (cs:=#[.int .u8 3,.int .u8 0,.int .i64 0,.string ⟨#[]⟩,.int .i64 t1,.int .i64 t2,.int .i64 t3,.int .i64 t4,.int .i64 0,.int .u8 0,.int .i64 0]) (t:=39) (fr:=(0,0)) (heap_alloc_new _ _)) (by intro u hu; simp at hu; rcases hu with rfl | rfl | rfl | rfl | rfl | rfl | rfl | rfl | rfl | rfl | rfl <;> rfl) (by omega) (by unfold maxLen; omega) (by omega) (by have:=HB0.out.size; simp; omega) (W7.heap.size+1) (by simp) ?_
     intro g cap w3 hown3 hgrow3 hat3 hlt3
     have HR3:=Lib.hid (HR1.out.appended hown3 hgrow3 (by rw [World.size_alloc]; exact hat3))
     clear hown3 hgrow3 hat3
     refine hK _ _ ?_
     clear hK K
     refine wm ?_
     refine wt5 10 ?_
     refine wt5 11 ?_
     refine wan 12 fun K hK => ?_
     ·have F3:=sR HR3
      go_simp
      have HR4:=Lib.hid (HR3.out.set_ (i:=3) (u:=.slice (some ⟨g,0,none⟩) (ln+1) cap) h1 H2.out)
      refine hK _ _ ?_
      clear hK K
      refine wm ?_
      refine wpAny_done (by kernel_rfl) ?_ _
      go_wp2_with fail
      first
       | go_end0
       | go_ret
       | refine bodyPost_ret (results_none rfl _ _ _) rfl ?_
      refine ⟨rfl,h1,fun x hx=>H2.out x (List.mem_cons_of_mem _ hx),la2,lc2,.slice (some ⟨g,0,none⟩) (ln+1) cap,HT.out,?_⟩
      have h9:=HR4.out
      simp only [Q.put,gU,List.length_append,List.length_singleton,HLN.out]
      exact h9.drop _ (by intro z hz; simp at hz ⊢; rcases hz with h | h <;> simp [h])
 go_simp
 refine hK _ _ ?_
 clear hK K
 refine wm ?_
 refine wt5 7 ?_
 refine wpAny_ready (rs:=[4,8]) (by kernel_rfl) (by simp) ?_
 refine (AllReady.cons rfl (fun K hK => ?_) (AllReady.cons rfl (fun K hK => ?_) AllReady.nil))
 ·go_simp
  refine hK _ _ ?_
  clear hK K
  refine wm ?_
  refine wan 8 fun K hK => ?_
  ·go_simp
   refine hK _ _ ?_
   clear hK K
   refine wm ?_
   refine wan 9 fun K hK => ?_
   ·refine step_append_lies _ (by rfl) _ _ _ (by rfl) w1.heap.size 39 i0 _ 11 96 underlying22 hi9 hz0 hz1 hz2 rfl (by omega) _ _ _ (by rfl) HR1.out.own ⟨W7.heap.size,0,none⟩ 1 1 [.int .u8 3,.int .u8 0,.int .i64 0,.string ⟨#[]⟩,.int .i64 t1,.int .i64 t2,.int .i64 t3,.int .i64 t4,.int .i64 0,.int .u8 0,.int .i64 0] (by rfl) (by rfl) (World.news_of_block (cs:=#[.int .u8 3,.int .u8 0,.int .i64 0,.string ⟨#[]⟩,.int .i64 t1,.int .i64 t2,.int .i64 t3,.int .i64 t4,.int .i64 0,.int .u8 0,.int .i64 0]) (t:=39) (fr:=(0,0)) (heap_alloc_new _ _)) (by intro u hu; simp at hu; rcases hu with rfl | rfl | rfl | rfl | rfl | rfl | rfl | rfl | rfl | rfl | rfl <;> rfl) (by omega) (by unfold maxLen; omega) (by omega) (by have:=HB0.out.size; simp; omega) (W7.heap.size+1) (by simp) ?_
    intro g cap w3 hown3 hgrow3 hat3 hlt3
    have HR3:=Lib.hid (HR1.out.appended hown3 hgrow3 (by rw [World.size_alloc]; exact hat3))
    clear hown3 hgrow3 hat3
    refine hK _ _ ?_
    clear hK K
    refine wm ?_
    refine wt5 10 ?_
    refine wt5 11 ?_
    refine wan 12 fun K hK => ?_
    ·have F3:=sR HR3
     go_simp
     have HR4:=Lib.hid (HR3.out.set_ (i:=3) (u:=.slice (some ⟨g,0,none⟩) (ln+1) cap) h1 H2.out)
     refine hK _ _ ?_
     clear hK K
     refine wm ?_
     refine wpAny_done (by kernel_rfl) ?_ _
     go_wp2_with fail
     first
      | go_end0
      | go_ret
      | refine bodyPost_ret (results_none rfl _ _ _) rfl ?_
     refine ⟨rfl,h1,fun x hx=>H2.out x (List.mem_cons_of_mem _ hx),la2,lc2,.slice (some ⟨g,0,none⟩) (ln+1) cap,HT.out,?_⟩
     have h9:=HR4.out
     simp only [Q.put,gU,List.length_append,List.length_singleton,HLN.out]
     exact h9.drop _ (by intro z hz; simp at hz ⊢; rcases hz with h | h <;> simp [h])
 go_simp
 refine hK _ _ ?_
 clear hK K
 refine wm ?_
 refine wan 4 fun K hK => ?_
 ·go_simp
  refine hK _ _ ?_
  clear hK K
  refine wm ?_
  refine wan 9 fun K hK => ?_
  ·refine step_append_lies _ (by rfl) _ _ _ (by rfl) w1.heap.size 39 i0 _ 11 96 underlying22 hi9 hz0 hz1 hz2 rfl (by omega) _ _ _ (by rfl) HR1.out.own ⟨W7.heap.size,0,none⟩ 1 1 [.int .u8 3,.int .u8 0,.int .i64 0,.string ⟨#[]⟩,.int .i64 t1,.int .i64 t2,.int .i64 t3,.int .i64 t4,.int .i64 0,.int .u8 0,.int .i64 0] (by rfl) (by rfl) (World.news_of_block (cs:=#[.int .u8 3,.int .u8 0,.int .i64 0,.string ⟨#[]⟩,.int .i64 t1,.int .i64 t2,.int .i64 t3,.int .i64 t4,.int .i64 0,.int .u8 0,.int .i64 0]) (t:=39) (fr:=(0,0)) (heap_alloc_new _ _)) (by intro u hu; simp at hu; rcases hu with rfl | rfl | rfl | rfl | rfl | rfl | rfl | rfl | rfl | rfl | rfl <;> rfl) (by omega) (by unfold maxLen; omega) (by omega) (by have:=HB0.out.size; simp; omega) (W7.heap.size+1) (by simp) ?_
   intro g cap w3 hown3 hgrow3 hat3 hlt3
   have HR3:=Lib.hid (HR1.out.appended hown3 hgrow3 (by rw [World.size_alloc]; exact hat3))
   clear hown3 hgrow3 hat3
   refine hK _ _ ?_
   clear hK K
   refine wm ?_
   refine wt5 10 ?_
   refine wt5 11 ?_
   refine wan 12 fun K hK => ?_
   ·have F3:=sR HR3
    go_simp
    have HR4:=Lib.hid (HR3.out.set_ (i:=3) (u:=.slice (some ⟨g,0,none⟩) (ln+1) cap) h1 H2.out)
    refine hK _ _ ?_
    clear hK K
    refine wm ?_
    refine wpAny_done (by kernel_rfl) ?_ _
    go_wp2_with fail
    first
     | go_end0
     | go_ret
     | refine bodyPost_ret (results_none rfl _ _ _) rfl ?_
    refine ⟨rfl,h1,fun x hx=>H2.out x (List.mem_cons_of_mem _ hx),la2,lc2,.slice (some ⟨g,0,none⟩) (ln+1) cap,HT.out,?_⟩
    have h9:=HR4.out
    simp only [Q.put,gU,List.length_append,List.length_singleton,HLN.out]
    exact h9.drop _ (by intro z hz; simp at hz ⊢; rcases hz with h | h <;> simp [h])
theorem Ck (f:Nat) (IH:∀ g,g≤f→Rc g) (fn j:Nat) (hf1:1≤fn) (hf2:fn≤50) (hj:j≤2000) (w1:World) (ps:List aS) (pb:Nat) (S:ByteArray) (all:List Tk) (i:Nat) (ns:List Nd) (a c:Int) (n:Nat) (w:World) (hn:all.length≤1000) (hs:S.size≤4611686018427387904) (hi:i≤all.length) (hl:ns.length≤i) (hf:12 * (all.length - i)+11≤f+1) (h:RSt w1 ps pb S all i ns a c w) :
  Calls prog 261 #[.pointer (some ⟨pb,0,none⟩),.int .u8 (fn:Nat),.int .i64 (j:Nat)] w (RQ w1 ps pb S all (rf S.size all (f+1) (.arg fn j) ⟨i,ns,a,c,n⟩)):=by
 obtain ⟨⟨tk,tn,tt,⟨t1,t2,t3,t4⟩,ta⟩,ht⟩:∃ t,hdS S.size (all.drop i)=t:=⟨_,rfl⟩
 by_cases hk:tk=6
 ·cases hw:cE fn j with
  | false=>exact CN f IH fn j hf1 hf2 hj tk tn tt t1 t2 t3 t4 ta w1 ps pb S all i ns a c n w hn hs hi hl hf h ht hk hw
  | true=>exact CO f IH fn j hf1 hf2 hj tk tn tt t1 t2 t3 t4 ta w1 ps pb S all i ns a c n w hn hs hi hl hf h ht hk hw
 exact Dv f IH fn j hf1 hf2 hj tk tn tt t1 t2 t3 t4 ta w1 ps pb S all i ns a c n w hn hs hi hl hf h ht hk
open Go.RowKit
structure Mn where
 f:Bool
 v:Vl
 t:List Nd
def Mn.none:Mn:=⟨false,(0,0,[]),[]⟩
def aV (l:List UInt8):Mn×Int×Int :=
 if 256<l.length then (Mn.none,0,5)
 else match l.findIdx? (fun b=>!aj b) with
 | some i=>(Mn.none,i,4)
 | none => if l.head? = some 61 then
   (if (bo l.tail).2.2=0 then (⟨true,(0,0,[]),(bo l.tail).1⟩,0,0) else (Mn.none,(bo l.tail).2.1+1,(bo l.tail).2.2))
   else (⟨false,be l,[]⟩,0,0)
theorem kH {l:List UInt8} (h:256<l.length):aV l=(Mn.none,0,5):=if_pos h
theorem eQ {l:List UInt8}:l.findIdx? (fun b=>!aj b)=none↔l.all aj=true:=by
 rw [List.findIdx?_eq_none_iff,List.all_eq_true]
 simp
theorem qd {l:List UInt8} {k:Nat} (h:¬ 256<l.length) (hk:k<l.length) (h1:∀ b∈l.take k,aj b=true) (h2:aj l[k]=false):aV l=(Mn.none,(k:Int),4):=by
 have e:l.findIdx? (fun b=>!aj b)=some k:=by
  rw [List.findIdx?_eq_some_iff_getElem]
  refine ⟨hk,by simp [h2],fun j hj => ?_⟩
  have h9:=h1 l[j] (by
   have : (l.take k)[j]'(by rw [List.length_take]; omega) = l[j]:=List.getElem_take ..
   rw [← this]
   exact List.getElem_mem _)
  simp [h9]
 unfold aV
 rw [if_neg h,e]
theorem eN {l:List UInt8} (h:¬ 256<l.length) (h1:l.all aj=true) (h2:l.head?≠some 61):aV l=(⟨false,be l,[]⟩,0,0):=by
 unfold aV
 rw [if_neg h,eQ.2 h1]
 simp only []
 rw [if_neg h2]
theorem fT {l:List UInt8} (h:¬ 256<l.length) (h1:l.all aj=true) (h2:l.head?=some 61) (h3:(bo l.tail).2.2=0):aV l=(⟨true,(0,0,[]),(bo l.tail).1⟩,0,0):=by
 unfold aV
 rw [if_neg h,eQ.2 h1]
 simp only []
 rw [if_pos h2,if_pos h3]
theorem gy {l:List UInt8} (h:¬ 256<l.length) (h1:l.all aj=true) (h2:l.head?=some 61) (h3:(bo l.tail).2.2≠0):aV l=(Mn.none,(bo l.tail).2.1+1,(bo l.tail).2.2):=by
 unfold aV
 rw [if_neg h,eQ.2 h1]
 simp only []
 rw [if_pos h2,if_neg h3]
