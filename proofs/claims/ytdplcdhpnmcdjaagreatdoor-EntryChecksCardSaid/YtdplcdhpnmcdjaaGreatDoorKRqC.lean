/- The reference's parser by rf: contracts, sign. The reference shows truth values and numbers. The parser's formula and argument. -/
import Derived.Test.YtdplcdhpnmcdjaaGreatDoorKRqP
import Derived.Test.YtdplcdhpnmcdjaaGreatDoorKTg
import Derived.Test.YtdplcdhpnmcdjaaGreatDoorKGiv
import Derived.Test.YtdplcdhpnmcdjaaGreatDoorKParF
namespace Go.Proofs.YtdplcdhpnmcdjaaGreatDoor
set_option maxRecDepth 100000
set_option maxHeartbeats 4000000
open Go.RowKit Go.Proofs.Tryz
def RQ (w1:World) (ps:List aS) (pb:Nat) (S:ByteArray) (all:List Tk) (q:Q) (e:Ending) (w:World):Prop:=e=.returned (.tuple #[])∧RSt w1 ps pb S all q.i q.ns q.a q.c w
def RcM (w1:World) (ps:List aS) (pb:Nat) (S:ByteArray) (all:List Tk) (q':Q) (m:Mr) (w:World):Prop:=match m with
 | .lv k=>1≤k→k≤5→Calls prog 182 #[.pointer (some ⟨pb,0,none⟩),.int .i64 (k:Nat)] w (RQ w1 ps pb S all q')
 | .sg=>Calls prog 208 #[.pointer (some ⟨pb,0,none⟩)] w (RQ w1 ps pb S all q')
 | .pc=>Calls prog 227 #[.pointer (some ⟨pb,0,none⟩)] w (RQ w1 ps pb S all q')
 | .pr=>Calls prog 240 #[.pointer (some ⟨pb,0,none⟩)] w (RQ w1 ps pb S all q')
 | .arg fn i=>1≤fn→fn≤50→i≤2000→Calls prog 261 #[.pointer (some ⟨pb,0,none⟩),.int .u8 (fn:Nat),.int .i64 (i:Nat)] w (RQ w1 ps pb S all q')
 | .call t=>Calls prog 251 #[.pointer (some ⟨pb,0,none⟩),tkA t] w (RQ w1 ps pb S all q')
 | _=>True
def Rc (f:Nat):Prop:=∀ (w1:World) (ps:List aS) (pb:Nat) (S:ByteArray) (all:List Tk) (q:Q) (m:Mr) (w:World),
 all.length≤1000→S.size≤4611686018427387904→q.i≤all.length→q.ns.length+m.sl≤q.i→12 * (all.length - q.i)+e6 m≤f→RSt w1 ps pb S all q.i q.ns q.a q.c w→RcM w1 ps pb S all (rf S.size all f m q) m w
section
variable {e f i n k:Nat} {all:List Tk} {ns:List Nd} {a c:Int}
theorem EH {q:Q} (hm:(hdS e (all.drop i)).kind=8∧(hdS e (all.drop i)).num=2) (h:rf e all f .sg ⟨i+1,ns,a,c,n⟩=q):rf e all (f+1) .sg ⟨i,ns,a,c,n⟩=q.put fz:=by
 rw [rf,if_pos (by exact hm),← h]
 rfl
theorem EI {i2 n2:Nat} {ns2:List Nd} {a2 c2:Int} (hm:¬ ((hdS e (all.drop i)).kind=8∧(hdS e (all.drop i)).num=2)) (h:rf e all f .pc ⟨i,ns,a,c,n⟩=⟨i2,ns2,a2,c2,n2⟩) :
  rf e all (f+1) .sg ⟨i,ns,a,c,n⟩=if c2=0∧r7 (hdS e (all.drop i2)) 6=true then (rf e all f .sg ⟨i2+1,ns2,a2,c2,n2⟩).put (cN 5) else ⟨i2,ns2,a2,c2,n2⟩:=by
 rw [rf,if_neg (by exact hm),h]
 rfl
theorem EG {q q2:Q} (h:rf e all f .pr q=q2):rf e all (f+1) .pc q=rf e all f .pct q2:=by rw [rf,h]
theorem Eh:rf e all (f+1) .pct ⟨i,ns,a,c,n⟩=if c=0∧r7 (hdS e (all.drop i)) 7=true then rf e all f .pct ⟨i+1,ns++[dt],a,c,n⟩ else ⟨i,ns,a,c,n⟩:=by
 rw [rf]
 rfl
theorem EE {q:Q} (h5:5≤k):rf e all (f+1) (.lv k) q=rf e all f .sg q:=by rw [rf,if_pos h5]
theorem ED {q q2:Q} (h5:¬ 5≤k) (h:rf e all f (.lv (k+1)) q=q2):rf e all (f+1) (.lv k) q=rf e all f (.ops k) q2:=by rw [rf,if_neg h5,h]
theorem Eg:rf e all (f+1) (.ops k) ⟨i,ns,a,c,n⟩=if c=0∧r7 (hdS e (all.drop i)) k=true then rf e all f (.ops k) ((rf e all f (.lv (k+1)) ⟨i+1,ns,a,c,n⟩).put (cN (hdS e (all.drop i)).num)) else ⟨i,ns,a,c,n⟩:=by
 rw [rf]
 rfl
theorem AQ {t:Tk} (ht:hdS e (all.drop i)=t):rf e all (f+1) .pr ⟨i,ns,a,c,n⟩ =
  if 1≤t.kind∧t.kind≤4 then (⟨i+1,ns,a,c,n⟩:Q).put (o6 t)
  else if t.kind=5 then (⟨i+1,ns,a,c,n⟩:Q).put (eu t.r)
  else if t.kind=9 then (rf e all f (.lv 1) ⟨i+1,ns,a,c,n⟩).want e all 10
  else if t.kind=7 then rf e all f (.call t) ⟨i+1,ns,a,c,n⟩
  else (⟨i+1,ns,a,c,n⟩:Q).flt (t.at_:Int) 4:=by
 subst ht
 rw [rf]
 rfl
theorem Br {fn j:Nat} {t:Tk} (ht:hdS e (all.drop i)=t):rf e all (f+1) (.arg fn j) ⟨i,ns,a,c,n⟩ =
  if t.kind≠6 then rf e all f (.lv 1) ⟨i,ns,a,c,n⟩
  else if cE fn j=true then (⟨i+1,ns,a,c,n⟩:Q).put (cj t.r)
  else (⟨i,ns,a,c,n⟩:Q).flt (t.at_:Int) 4:=by
 subst ht
 rw [rf]
 rfl
end
theorem zF {e f:Nat} {all:List Tk} {m:Mr} {q:Q} (hn:all.length≤1000) (hi:q.i≤all.length) (_hl:q.ns.length+m.sl≤q.i) :
  q.i≤(rf e all f m q).i∧(rf e all f m q).i≤1001∧(rf e all f m q).ns.length+q.i≤(rf e all f m q).i+q.ns.length+m.sl∧Gd all (rf e all f m q):=by
 obtain ⟨h1,h2,h3⟩:=zy f (e:=e) m q (.inl hi) fun _=>hi
 refine ⟨h2,?_,h3,h1⟩
 rcases h1 with h1 | h1 <;> omega
theorem Bn (f:Nat) (IH:∀ g,g≤f→Rc g) (w1:World) (ps:List aS) (pb:Nat) (S:ByteArray) (all:List Tk) (i:Nat) (ns:List Nd) (a c:Int) (n:Nat) (w:World) (hn:all.length≤1000) (hs:S.size≤4611686018427387904) (_hi:i≤all.length) (hl:ns.length≤i) (hf:12 * (all.length - i)+4≤f+1) (h:RSt w1 ps pb S all i ns a c w) (hm:(hdS S.size (all.drop i)).kind=8∧(hdS S.size (all.drop i)).num=2) :
  Calls prog 208 #[.pointer (some ⟨pb,0,none⟩)] w (RQ w1 ps pb S all (rf S.size all (f+1) .sg ⟨i,ns,a,c,n⟩)):=by
 obtain ⟨i0,hi_,hz0,hz1,hz2⟩:=info_parts p8
 have hi9:=hi_
 clear hi_
 have hlt:i<all.length:=zL (e:=S.size) (q:=⟨i,ns,a,c,n⟩) (by show (hdS S.size (all.drop i)).kind≠0; omega)
 have hb2:=zF (e:=S.size) (all:=all) (f:=f) (m:=.sg) (q:=⟨i+1,ns,a,c,n⟩) hn (hlt) (by simp only [Mr.sl]; omega)
 have hc2:=fun qs W (h9:RSt w1 qs pb S all (i+1) (ns) (a) (c) W)=>IH (f) (Nat.le_refl _) w1 qs pb S all ⟨i+1,ns,a,c,n⟩ .sg W hn hs (hlt) (by simp only [Mr.sl]; omega) (by simp only [e6]; omega) h9
 obtain ⟨⟨i2,ns2,a2,c2,n2⟩,hX2⟩:∃ q,rf S.size all f .sg ⟨i+1,ns,a,c,n⟩=q:=⟨_,rfl⟩
 rw [hX2] at hb2 hc2
 simp only [Mr.sl] at hb2
 obtain ⟨hb2a,hb2b,hb2c,hb2d⟩:=hb2
 have HC2:=keep hc2
 clear hc2
 rw [EH hm hX2]
 clear hX2
 have HH:=keep (zu w1 ps pb S all i ns a c w hn (by omega) hs h)
 have H:=Lib.hid h
 obtain ⟨⟨tk,tn,tt,⟨t1,t2,t3,t4⟩,ta⟩,ht⟩:∃ t,hdS S.size (all.drop i)=t:=⟨_,rfl⟩
 rw [ht] at HH hm
 obtain ⟨hk1,hk2⟩:=hm
 simp only at hk1 hk2
 have HK1:=keep hk1
 have HK2:=keep hk2
 clear hk1 hk2
 clear h ht IH
 go_enter func208,ntmps208
 go_wp2_with fail
 refine (HH.out).mono ?_
 rintro e wa1 ⟨rfl,hb2⟩
 have H3:=Lib.hid (H.out.below hb2)
 clear hb2 H HH
 simp only [tkA]
 go_upto_region 1 with fail
 have H4:Hid (RSt w1 (ac wa1.heap.size 97 [.int .u8 tk,.int .i64 tn,.string ⟨tt.toArray⟩,.int .i64 t1,.int .i64 t2,.int .i64 t3,.int .i64 t4,.int .i64 ta]::ps) pb S all i ns a c (wa1.alloc (.cells #[.int .u8 tk,.int .i64 tn,.string ⟨tt.toArray⟩,.int .i64 t1,.int .i64 t2,.int .i64 t3,.int .i64 t4,.int .i64 ta] 97))):=Lib.hid (H3.out.alloc 97 [.int .u8 tk,.int .i64 tn,.string ⟨tt.toArray⟩,.int .i64 t1,.int .i64 t2,.int .i64 t3,.int .i64 t4,.int .i64 ta])
 clear H3
 generalize (wa1.alloc (.cells #[.int .u8 tk,.int .i64 tn,.string ⟨tt.toArray⟩,.int .i64 t1,.int .i64 t2,.int .i64 t3,.int .i64 t4,.int .i64 ta] 97))=W5 at H4 ⊢
 have hk1:=HK1.out
 have hk2:=HK2.out
 have F6:=H4.out.sees
 simp only [sees,ac,aa,Nat.reduceAdd] at F6
 obtain ⟨zp,⟨z0,c00,c01,c02,c03,c04,c05,c06,c07,-⟩,-⟩:=F6
 obtain ⟨la,lc,tv,-,⟨x0,x1⟩,p0,p1,p2,p3,p4,p5⟩:=H4.out.cells
 go_wp2_with fail
 refine (HC2.out _ _ H4.out.inc).mono ?_
 rintro e w6 ⟨rfl,hst⟩
 have hst:RSt w1 _ pb S all i2 ns2 a2 c2 w6:=hst
 clear HC2 H4 c00 c01 c02 c03 c04 c05 c06 c07 p0 p1 p2 p3 p4 p5 x0 x1 zp z0
 obtain ⟨h1,h2,la2,lc2,tv2,hT,hO⟩:=hst
 have HT:=keep hT
 have H2:=keep h2
 have HO:=Lib.hid hO
 have F8:=hO.ok.sees
 simp only [sees,af,ac,aa,Nat.reduceAdd] at F8
 obtain ⟨⟨⟨x0,x1⟩,p0,p1,p2,p3,p4,p5,-⟩,-⟩:=F8
 clear hO hT h2
 obtain ⟨ln,hln⟩:=ex (ns2.length)
 have HLN:=keep hln
 have hln9:ln≤1001:=by omega
 rw [hln] at HO
 clear hln
 go_wp2_with (at_builtin; refine wpList_append_lies _ rfl _ _ _ rfl w1.heap.size 39 i0 _ 11 96 underlying22 hi9 hz0 hz1 hz2 rfl (by omega) _ _ _ rfl (HO.out.own.alloc _) ⟨w6.heap.size,0,none⟩ 1 1 [.int .u8 4,.int .u8 0,.int .i64 0,.string ⟨#[]⟩,.int .i64 0,.int .i64 0,.int .i64 0,.int .i64 0,.int .i64 0,.int .u8 0,.int .i64 0] rfl rfl (World.news_of_block (cs:=#[.int .u8 4,.int .u8 0,.int .i64 0,.string ⟨#[]⟩,.int .i64 0,.int .i64 0,.int .i64 0,.int .i64 0,.int .i64 0,.int .u8 0,.int .i64 0]) (t:=39) (fr:=(0,0)) (heap_alloc_new _ _)) (by intro u hu; simp at hu; rcases hu with rfl | rfl | rfl | rfl | rfl | rfl | rfl | rfl | rfl | rfl | rfl <;> rfl) (by omega) (by unfold maxLen; omega) (by omega) (by have:=HO.out.ok.bel.size; simp; omega) _ rfl ?_; intro g9 cap9 wg9 hown9 hgrow9 hat9 hlt9; have HQ:=Lib.hid ((HO.out.alloc_obj (.cells #[.int .u8 4,.int .u8 0,.int .i64 0,.string ⟨#[]⟩,.int .i64 0,.int .i64 0,.int .i64 0,.int .i64 0,.int .i64 0,.int .u8 0,.int .i64 0] 39)).appended hown9 hgrow9 hat9); have HW9:=keep hown9; have HG9:=keep hgrow9; have HA9:=keep hat9; clear hown9 hgrow9 hat9; have F9:=HQ.out.ok.sees; simp only [sees,af,ac,aa,Nat.reduceAdd] at F9; obtain ⟨⟨⟨y0,y1⟩,y2,y3,y4,y5,y6,y7,-⟩,-⟩:=F9)
 first
  | go_end0
  | go_ret
  | refine bodyPost_ret (results_none rfl _ _ _) rfl ?_
 exact ⟨rfl,(RSt.put HLN.out h1 H2.out HT.out (HO.out.alloc_obj _) fz HW9.out HG9.out HA9.out).tail⟩
theorem Bo (f:Nat) (IH:∀ g,g≤f→Rc g) (w1:World) (ps:List aS) (pb:Nat) (S:ByteArray) (all:List Tk) (i:Nat) (ns:List Nd) (a c:Int) (n:Nat) (w:World) (hn:all.length≤1000) (hs:S.size≤4611686018427387904) (hi:i≤all.length) (hl:ns.length≤i) (hf:12 * (all.length - i)+4≤f+1) (h:RSt w1 ps pb S all i ns a c w) (hm:¬ ((hdS S.size (all.drop i)).kind=8∧(hdS S.size (all.drop i)).num=2)) :
  Calls prog 208 #[.pointer (some ⟨pb,0,none⟩)] w (RQ w1 ps pb S all (rf S.size all (f+1) .sg ⟨i,ns,a,c,n⟩)):=by
 obtain ⟨i0,hi_,hz0,hz1,hz2⟩:=info_parts p8
 have hi9:=hi_
 clear hi_
 have hb2:=zF (e:=S.size) (all:=all) (f:=f) (m:=.pc) (q:=⟨i,ns,a,c,n⟩) hn (hi) (by simp only [Mr.sl]; omega)
 have hc2:=fun qs W (h9:RSt w1 qs pb S all (i) (ns) (a) (c) W)=>IH (f) (Nat.le_refl _) w1 qs pb S all ⟨i,ns,a,c,n⟩ .pc W hn hs (hi) (by simp only [Mr.sl]; omega) (by simp only [e6]; omega) h9
 obtain ⟨⟨i2,ns2,a2,c2,n2⟩,hX2⟩:∃ q,rf S.size all f .pc ⟨i,ns,a,c,n⟩=q:=⟨_,rfl⟩
 rw [hX2] at hb2 hc2
 simp only [Mr.sl] at hb2
 obtain ⟨hb2a,hb2b,hb2c,hb2d⟩:=hb2
 have HC2:=keep hc2
 clear hc2
 rw [EI hm hX2]
 clear hX2
 generalize hR:(if c2=0∧r7 (hdS S.size (all.drop i2)) 6=true then (rf S.size all f .sg ⟨i2+1,ns2,a2,c2,n2⟩).put (cN 5) else ⟨i2,ns2,a2,c2,n2⟩)=R
 have HR:=keep hR
 clear hR
 have HH:=keep (zu w1 ps pb S all i ns a c w hn (by omega) hs h)
 have H:=Lib.hid h
 have HIH:=keep (IH f (Nat.le_refl _))
 obtain ⟨⟨tk,tn,tt,⟨t1,t2,t3,t4⟩,ta⟩,ht⟩:∃ t,hdS S.size (all.drop i)=t:=⟨_,rfl⟩
 rw [ht] at HH hm
 simp only at hm
 have HK:=keep hm
 clear hm h ht IH
 go_enter func208,ntmps208
 go_wp2_with fail
 refine (HH.out).mono ?_
 rintro e wa1 ⟨rfl,hb2⟩
 have H3:=Lib.hid (H.out.below hb2)
 clear hb2 H HH
 simp only [tkA]
 go_upto_region 1 with fail
 have H4:Hid (RSt w1 (ac wa1.heap.size 97 [.int .u8 tk,.int .i64 tn,.string ⟨tt.toArray⟩,.int .i64 t1,.int .i64 t2,.int .i64 t3,.int .i64 t4,.int .i64 ta]::ps) pb S all i ns a c (wa1.alloc (.cells #[.int .u8 tk,.int .i64 tn,.string ⟨tt.toArray⟩,.int .i64 t1,.int .i64 t2,.int .i64 t3,.int .i64 t4,.int .i64 ta] 97))):=Lib.hid (H3.out.alloc 97 [.int .u8 tk,.int .i64 tn,.string ⟨tt.toArray⟩,.int .i64 t1,.int .i64 t2,.int .i64 t3,.int .i64 t4,.int .i64 ta])
 clear H3
 generalize (wa1.alloc (.cells #[.int .u8 tk,.int .i64 tn,.string ⟨tt.toArray⟩,.int .i64 t1,.int .i64 t2,.int .i64 t3,.int .i64 t4,.int .i64 ta] 97))=W5 at H4 ⊢
 have F6:=H4.out.sees
 simp only [sees,ac,aa,Nat.reduceAdd] at F6
 obtain ⟨zp,⟨z0,c00,c01,c02,c03,c04,c05,c06,c07,-⟩,-⟩:=F6
 by_cases h8:tk=8
 ·have hk2:¬ tn=2:=fun h9=>HK.out ⟨h8,h9⟩
  have hkb:(tn == 2)=false:=by simpa using hk2
  have h8b:((tk:Int) == 8)=true:=by simp; omega
  clear hk2 h8
  go_wp2_with fail
  refine (HC2.out _ _ H4.out).mono ?_
  rintro e w6 ⟨rfl,hst⟩
  have hst:RSt w1 _ pb S all i2 ns2 a2 c2 w6:=hst
  have HST:=Lib.hid hst
  clear hst HC2 H4 c00 c01 c02 c03 c04 c05 c06 c07 zp z0
  obtain ⟨la,lc,tv,-,⟨x0,x1⟩,p0,p1,p2,p3,p4,p5⟩:=HST.out.cells
  by_cases hc0:c2=0
  ·subst hc0
   have hi2:i2≤all.length:=Gd.le (q:=⟨i2,ns2,a2,0,n2⟩) hb2d rfl
   go_wp2_with fail
   refine (Ee w1 _ pb S all i2 ns2 a2 0 6 _ hn (by omega) hs HST.out).mono ?_
   rintro e w7 ⟨rfl,hb⟩
   have HST7:=Lib.hid (HST.out.below hb)
   clear hb HST x0 x1 p0 p1 p2 p3 p4 p5
   cases hop:r7 (hdS S.size (all.drop i2)) 6 with
   | false =>
    have hR:=HR.out
    rw [hop,if_neg (by simp)] at hR
    subst hR
    clear hop HR
    go_wp2_with fail
    first
     | go_end0
     | go_ret
     | refine bodyPost_ret (results_none rfl _ _ _) rfl ?_
    exact ⟨rfl,HST7.out.tail⟩
   | true =>
    have hR:=HR.out
    rw [hop,if_pos (by simp)] at hR
    clear HR
    have hlt:i2<all.length:=zQ (e:=S.size) (q:=⟨i2,ns2,a2,0,n2⟩) hop
    clear hop
    have hb3:=zF (e:=S.size) (all:=all) (f:=f) (m:=.sg) (q:=⟨i2+1,ns2,a2,0,n2⟩) hn hlt (by simp only [Mr.sl]; omega)
    have hc3:=fun qs W (h9:RSt w1 qs pb S all (i2+1) ns2 a2 0 W)=>HIH.out w1 qs pb S all ⟨i2+1,ns2,a2,0,n2⟩ .sg W hn hs hlt (by simp only [Mr.sl]; omega) (by simp only [e6]; omega) h9
    obtain ⟨⟨i3,ns3,a3,c3,n3⟩,hX3⟩:∃ q,rf S.size all f .sg ⟨i2+1,ns2,a2,0,n2⟩=q:=⟨_,rfl⟩
    rw [hX3] at hb3 hc3 hR
    subst hR
    clear hX3
    simp only [Mr.sl] at hb3
    obtain ⟨hb3a,hb3b,hb3c,hb3d⟩:=hb3
    have HC3:=keep hc3
    clear hc3
    obtain ⟨la,lc,tv,-,⟨x0,x1⟩,p0,p1,p2,p3,p4,p5⟩:=HST7.out.cells
    go_wp2_with fail
    refine (HC3.out _ _ HST7.out.inc).mono ?_
    rintro e w8 ⟨rfl,hst⟩
    have hst:RSt w1 _ pb S all i3 ns3 a3 c3 w8:=hst
    clear HC3 HST7 p0 p1 p2 p3 p4 p5 x0 x1
    obtain ⟨h1,h2,la2,lc2,tv2,hT,hO⟩:=hst
    have HT:=keep hT
    have H2:=keep h2
    have HO:=Lib.hid hO
    have F8:=hO.ok.sees
    simp only [sees,af,ac,aa,Nat.reduceAdd] at F8
    obtain ⟨⟨⟨x0,x1⟩,p0,p1,p2,p3,p4,p5,-⟩,-⟩:=F8
    clear hO hT h2
    obtain ⟨ln,hln⟩:=ex (ns3.length)
    have HLN:=keep hln
    have hln9:ln≤1001:=by omega
    rw [hln] at HO
    clear hln
    go_wp2_with (at_builtin; refine wpList_append_lies _ rfl _ _ _ rfl w1.heap.size 39 i0 _ 11 96 underlying22 hi9 hz0 hz1 hz2 rfl (by omega) _ _ _ rfl (HO.out.own.alloc _) ⟨w8.heap.size,0,none⟩ 1 1 [.int .u8 6,.int .u8 0,.int .i64 0,.string ⟨#[]⟩,.int .i64 0,.int .i64 0,.int .i64 0,.int .i64 0,.int .i64 5,.int .u8 0,.int .i64 0] rfl rfl (World.news_of_block (cs:=#[.int .u8 6,.int .u8 0,.int .i64 0,.string ⟨#[]⟩,.int .i64 0,.int .i64 0,.int .i64 0,.int .i64 0,.int .i64 5,.int .u8 0,.int .i64 0]) (t:=39) (fr:=(0,0)) (heap_alloc_new _ _)) (by intro u hu; simp at hu; rcases hu with rfl | rfl | rfl | rfl | rfl | rfl | rfl | rfl | rfl | rfl | rfl <;> rfl) (by omega) (by unfold maxLen; omega) (by omega) (by have:=HO.out.ok.bel.size; simp; omega) _ rfl ?_; intro g9 cap9 wg9 hown9 hgrow9 hat9 hlt9; have HQ:=Lib.hid ((HO.out.alloc_obj (.cells #[.int .u8 6,.int .u8 0,.int .i64 0,.string ⟨#[]⟩,.int .i64 0,.int .i64 0,.int .i64 0,.int .i64 0,.int .i64 5,.int .u8 0,.int .i64 0] 39)).appended hown9 hgrow9 hat9); have HW9:=keep hown9; have HG9:=keep hgrow9; have HA9:=keep hat9; clear hown9 hgrow9 hat9; have F9:=HQ.out.ok.sees; simp only [sees,af,ac,aa,Nat.reduceAdd] at F9; obtain ⟨⟨⟨y0,y1⟩,y2,y3,y4,y5,y6,y7,-⟩,-⟩:=F9)
    first
     | go_end0
     | go_ret
     | refine bodyPost_ret (results_none rfl _ _ _) rfl ?_
    exact ⟨rfl,(RSt.put HLN.out h1 H2.out HT.out (HO.out.alloc_obj _) (cN 5) HW9.out HG9.out HA9.out).tail⟩
  have hcb:((c2:Int) == 0)=false:=by simpa using hc0
  have hR:=HR.out
  rw [if_neg (fun h9=>hc0 h9.1)] at hR
  subst hR
  clear hc0 HR
  go_wp2_with fail
  first
   | go_end0
   | go_ret
   | refine bodyPost_ret (results_none rfl _ _ _) rfl ?_
  exact ⟨rfl,HST.out.tail⟩
 have h8b:((tk:Int) == 8)=false:=by simp; omega
 clear h8
 go_wp2_with fail
 refine (HC2.out _ _ H4.out).mono ?_
 rintro e w6 ⟨rfl,hst⟩
 have hst:RSt w1 _ pb S all i2 ns2 a2 c2 w6:=hst
 have HST:=Lib.hid hst
 clear hst HC2 H4 c00 c01 c02 c03 c04 c05 c06 c07 zp z0
 obtain ⟨la,lc,tv,-,⟨x0,x1⟩,p0,p1,p2,p3,p4,p5⟩:=HST.out.cells
 by_cases hc0:c2=0
 ·subst hc0
  have hi2:i2≤all.length:=Gd.le (q:=⟨i2,ns2,a2,0,n2⟩) hb2d rfl
  go_wp2_with fail
  refine (Ee w1 _ pb S all i2 ns2 a2 0 6 _ hn (by omega) hs HST.out).mono ?_
  rintro e w7 ⟨rfl,hb⟩
  have HST7:=Lib.hid (HST.out.below hb)
  clear hb HST x0 x1 p0 p1 p2 p3 p4 p5
  cases hop:r7 (hdS S.size (all.drop i2)) 6 with
  | false =>
   have hR:=HR.out
   rw [hop,if_neg (by simp)] at hR
   subst hR
   clear hop HR
   go_wp2_with fail
   first
    | go_end0
    | go_ret
    | refine bodyPost_ret (results_none rfl _ _ _) rfl ?_
   exact ⟨rfl,HST7.out.tail⟩
  | true =>
   have hR:=HR.out
   rw [hop,if_pos (by simp)] at hR
   clear HR
   have hlt:i2<all.length:=zQ (e:=S.size) (q:=⟨i2,ns2,a2,0,n2⟩) hop
   clear hop
   have hb3:=zF (e:=S.size) (all:=all) (f:=f) (m:=.sg) (q:=⟨i2+1,ns2,a2,0,n2⟩) hn hlt (by simp only [Mr.sl]; omega)
   have hc3:=fun qs W (h9:RSt w1 qs pb S all (i2+1) ns2 a2 0 W)=>HIH.out w1 qs pb S all ⟨i2+1,ns2,a2,0,n2⟩ .sg W hn hs hlt (by simp only [Mr.sl]; omega) (by simp only [e6]; omega) h9
   obtain ⟨⟨i3,ns3,a3,c3,n3⟩,hX3⟩:∃ q,rf S.size all f .sg ⟨i2+1,ns2,a2,0,n2⟩=q:=⟨_,rfl⟩
   rw [hX3] at hb3 hc3 hR
   subst hR
   clear hX3
   simp only [Mr.sl] at hb3
   obtain ⟨hb3a,hb3b,hb3c,hb3d⟩:=hb3
   have HC3:=keep hc3
   clear hc3
   obtain ⟨la,lc,tv,-,⟨x0,x1⟩,p0,p1,p2,p3,p4,p5⟩:=HST7.out.cells
   go_wp2_with fail
   refine (HC3.out _ _ HST7.out.inc).mono ?_
   rintro e w8 ⟨rfl,hst⟩
   have hst:RSt w1 _ pb S all i3 ns3 a3 c3 w8:=hst
   clear HC3 HST7 p0 p1 p2 p3 p4 p5 x0 x1
   obtain ⟨h1,h2,la2,lc2,tv2,hT,hO⟩:=hst
   have HT:=keep hT
   have H2:=keep h2
   have HO:=Lib.hid hO
   have F8:=hO.ok.sees
   simp only [sees,af,ac,aa,Nat.reduceAdd] at F8
   obtain ⟨⟨⟨x0,x1⟩,p0,p1,p2,p3,p4,p5,-⟩,-⟩:=F8
   clear hO hT h2
   obtain ⟨ln,hln⟩:=ex (ns3.length)
   have HLN:=keep hln
   have hln9:ln≤1001:=by omega
   rw [hln] at HO
   clear hln
   go_wp2_with (at_builtin; refine wpList_append_lies _ rfl _ _ _ rfl w1.heap.size 39 i0 _ 11 96 underlying22 hi9 hz0 hz1 hz2 rfl (by omega) _ _ _ rfl (HO.out.own.alloc _) ⟨w8.heap.size,0,none⟩ 1 1 [.int .u8 6,.int .u8 0,.int .i64 0,.string ⟨#[]⟩,.int .i64 0,.int .i64 0,.int .i64 0,.int .i64 0,.int .i64 5,.int .u8 0,.int .i64 0] rfl rfl (World.news_of_block (cs:=#[.int .u8 6,.int .u8 0,.int .i64 0,.string ⟨#[]⟩,.int .i64 0,.int .i64 0,.int .i64 0,.int .i64 0,.int .i64 5,.int .u8 0,.int .i64 0]) (t:=39) (fr:=(0,0)) (heap_alloc_new _ _)) (by intro u hu; simp at hu; rcases hu with rfl | rfl | rfl | rfl | rfl | rfl | rfl | rfl | rfl | rfl | rfl <;> rfl) (by omega) (by unfold maxLen; omega) (by omega) (by have:=HO.out.ok.bel.size; simp; omega) _ rfl ?_; intro g9 cap9 wg9 hown9 hgrow9 hat9 hlt9; have HQ:=Lib.hid ((HO.out.alloc_obj (.cells #[.int .u8 6,.int .u8 0,.int .i64 0,.string ⟨#[]⟩,.int .i64 0,.int .i64 0,.int .i64 0,.int .i64 0,.int .i64 5,.int .u8 0,.int .i64 0] 39)).appended hown9 hgrow9 hat9); have HW9:=keep hown9; have HG9:=keep hgrow9; have HA9:=keep hat9; clear hown9 hgrow9 hat9; have F9:=HQ.out.ok.sees; simp only [sees,af,ac,aa,Nat.reduceAdd] at F9; obtain ⟨⟨⟨y0,y1⟩,y2,y3,y4,y5,y6,y7,-⟩,-⟩:=F9)
   first
    | go_end0
    | go_ret
    | refine bodyPost_ret (results_none rfl _ _ _) rfl ?_
   exact ⟨rfl,(RSt.put HLN.out h1 H2.out HT.out (HO.out.alloc_obj _) (cN 5) HW9.out HG9.out HA9.out).tail⟩
 have hcb:((c2:Int) == 0)=false:=by simpa using hc0
 have hR:=HR.out
 rw [if_neg (fun h9=>hc0 h9.1)] at hR
 subst hR
 clear hc0 HR
 go_wp2_with fail
 first
  | go_end0
  | go_ret
  | refine bodyPost_ret (results_none rfl _ _ _) rfl ?_
 exact ⟨rfl,HST.out.tail⟩
theorem Ez (f:Nat) (IH:∀ g,g≤f→Rc g) (w1:World) (ps:List aS) (pb:Nat) (S:ByteArray) (all:List Tk) (i:Nat) (ns:List Nd) (a c:Int) (n:Nat) (w:World) (hn:all.length≤1000) (hs:S.size≤4611686018427387904) (hi:i≤all.length) (hl:ns.length≤i) (hf:12 * (all.length - i)+4≤f+1) (h:RSt w1 ps pb S all i ns a c w) :
  Calls prog 208 #[.pointer (some ⟨pb,0,none⟩)] w (RQ w1 ps pb S all (rf S.size all (f+1) .sg ⟨i,ns,a,c,n⟩)):=by
 by_cases hm:(hdS S.size (all.drop i)).kind=8∧(hdS S.size (all.drop i)).num=2
 ·exact Bn f IH w1 ps pb S all i ns a c n w hn hs hi hl hf h hm
 exact Bo f IH w1 ps pb S all i ns a c n w hn hs hi hl hf h hm
open Go.RowKit
set_option maxRecDepth 100000
set_option maxHeartbeats 2000000
open Go.RowKit Go.Proofs.Tryz
theorem lh {f:Nat} (h:∀ g,g≤f→Con g) {k:Nat} (h1:1≤k) (h4:k≤4) {w1:World} {ps:List aS} {pb en:Nat} {ts:List Tk} {r:Rs} {ns:List Nd} {w:World} (hr:ap en f (.lv k) ts=some r) (hn:ns.length+ts.length≤1000) (hs:St w1 ps pb en ts ns w) :
  Calls prog 108 #[.pointer (some ⟨pb,0,none⟩),.int .i64 (k:Nat)] w (fh w1 ps pb en (cB ns r)) :=
 h f (Nat.le_refl _) w1 ps pb en (.lv k) ts r ns w hr hn hs h1 h4
theorem eA (w1:World) (ps:List aS) (pb en:Nat) (r:Rs) (w:World) (h:Calls prog 108 #[.pointer (some ⟨pb,0,none⟩),.int .i64 ((1:Nat):Int)] w (fh w1 ps pb en r)) :
  Calls prog 63 #[.pointer (some ⟨pb,0,none⟩)] w (fh w1 ps pb en r):=by
 have HC:=keep h
 clear h
 go_enter func63,ntmps63
 go_wp2_with fail
 refine HC.out.mono ?_
 intro e w' hp
 cases r with
 | bad a c =>
  obtain ⟨rfl,hz⟩:=hp
  have HZ:=Lib.hid hz
  clear hz
  go_wp2_with fail
  exact ⟨rfl,rfl,HZ.out⟩
 | ok ts ns n =>
  obtain ⟨rfl,hz⟩:=hp
  have HZ:=Lib.hid hz
  clear hz
  go_wp2_with fail
  first
   | go_end0
   | refine bodyPost_ret (results_none rfl _ _ _) rfl ?_
  exact ⟨rfl,HZ.out⟩
def ng (e f fn i:Nat) (ts:List Tk):Option Rs:=if (hdS e ts).kind≠6 then ap e f (.lv 1) ts else if cE fn i then some (.ok (ts.drop 1) [cj (hdS e ts).r] 0) else some (.bad (hdS e ts).at_ 4)
theorem xx {fn i:Nat} (h:cE fn i=true):pA fn i=0:=by
 unfold cE at h
 split at h
 ·cases h
 rename_i hn
 exact if_neg hn
theorem jF (f fn i:Nat) (IH:∀ g,g≤f→Con g) (hf1:1≤fn) (hf2:fn≤50) (w1:World) (ps:List aS) (pb en:Nat) (ts:List Tk) (r:Rs) (ns:List Nd) (w:World) (hr:ng en f fn i ts=some r) (hn:ns.length+ts.length≤1000) (h:St w1 ps pb en ts ns w) :
  Calls prog 246 #[.pointer (some ⟨pb,0,none⟩),.int .u8 (fn:Nat),.int .i64 (i:Nat)] w (fh w1 ps pb en (cB ns r)):=by
 unfold ng at hr
 have H:=Lib.hid h
 clear h
 by_cases h6:(hdS en ts).kind=6
 ·rw [if_neg (by simpa using h6)] at hr
  cases ts with
  | nil=>exact absurd h6 (by simp [hdS])
  | cons t ts =>
   obtain ⟨tk,tn,tt,⟨t1,t2,t3,t4⟩,ta⟩:=t
   have hk6:tk=6:=h6
   subst hk6
   clear h6
   simp only [hdS,List.drop_succ_cons,List.drop_zero] at hr
   simp only [List.length_cons] at hn
   cases hw:cE fn i
   ·rw [if_neg (by rw [hw]; decide)] at hr
    simp only [Option.some.injEq] at hr
    subst hr
    have HWI:=keep hw
    clear hw
    go_enter func246,ntmps246
    go_wp2_with fail
    refine cMg (aX w1 _ pb en _ ns _ H.out) (fun _=>H.out.below) fun wa1 H3=>?_
    clear H
    simp only [hdS,tkA]
    go_upto_region 1 with fail
    have H4:=Lib.hid (H3.out.alloc 97 [.int .u8 ((6:Nat):Int),.int .i64 tn,.string ⟨tt.toArray⟩,.int .i64 t1,.int .i64 t2,.int .i64 t3,.int .i64 t4,.int .i64 ta])
    clear H3
    have H4a:Hid (St w1 (ac wa1.heap.size 97 [.int .u8 ((6:Nat):Int),.int .i64 tn,.string ⟨tt.toArray⟩,.int .i64 t1,.int .i64 t2,.int .i64 t3,.int .i64 t4,.int .i64 ta]::ps) pb en (⟨6,tn,tt,⟨t1,t2,t3,t4⟩,ta⟩::ts) ns (wa1.alloc (.cells #[.int .u8 ((6:Nat):Int),.int .i64 tn,.string ⟨tt.toArray⟩,.int .i64 t1,.int .i64 t2,.int .i64 t3,.int .i64 t4,.int .i64 ta] 97))):=H4
    clear H4
    generalize (wa1.alloc (.cells #[.int .u8 ((6:Nat):Int),.int .i64 tn,.string ⟨tt.toArray⟩,.int .i64 t1,.int .i64 t2,.int .i64 t3,.int .i64 t4,.int .i64 ta] 97))=Wa5 at H4a ⊢
    have F6:=H4a.out.sees
    simp only [sees,ac,aa,Nat.reduceAdd] at F6
    obtain ⟨zp,⟨z0,c00,c01,c02,c03,c04,c05,c06,c07,-⟩,-⟩:=F6
    go_wp2_with fail
    refine (iC fn i _ hf1 hf2).mono ?_
    rintro e wa7 ⟨rfl,hw8⟩
    obtain rfl:Wa5=wa7:=hw8.symm
    rw [HWI.out]
    go_wp2_with fail
    refine (dO w1 pb _ _ _ H4a.out.bel).mono ?_
    rintro e wz ⟨rfl,hb⟩
    have HZ:=Lib.hid hb
    clear hb
    go_wp2_with fail
    exact ⟨rfl,rfl,HZ.out⟩
   rw [if_pos hw] at hr
   simp only [Option.some.injEq] at hr
   subst hr
   have HWE:=keep (xx hw)
   have HWI:=keep hw
   clear hw
   go_enter func246,ntmps246
   go_wp2_with fail
   refine cMg (aX w1 _ pb en _ ns _ H.out) (fun _=>H.out.below) fun wa1 H3=>?_
   clear H
   simp only [hdS,tkA]
   go_upto_region 1 with fail
   have H4:=Lib.hid (H3.out.alloc 97 [.int .u8 ((6:Nat):Int),.int .i64 tn,.string ⟨tt.toArray⟩,.int .i64 t1,.int .i64 t2,.int .i64 t3,.int .i64 t4,.int .i64 ta])
   clear H3
   have H4a:Hid (St w1 (ac wa1.heap.size 97 [.int .u8 ((6:Nat):Int),.int .i64 tn,.string ⟨tt.toArray⟩,.int .i64 t1,.int .i64 t2,.int .i64 t3,.int .i64 t4,.int .i64 ta]::ps) pb en (⟨6,tn,tt,⟨t1,t2,t3,t4⟩,ta⟩::ts) ns (wa1.alloc (.cells #[.int .u8 ((6:Nat):Int),.int .i64 tn,.string ⟨tt.toArray⟩,.int .i64 t1,.int .i64 t2,.int .i64 t3,.int .i64 t4,.int .i64 ta] 97))):=H4
   clear H4
   generalize (wa1.alloc (.cells #[.int .u8 ((6:Nat):Int),.int .i64 tn,.string ⟨tt.toArray⟩,.int .i64 t1,.int .i64 t2,.int .i64 t3,.int .i64 t4,.int .i64 ta] 97))=Wa5 at H4a ⊢
   have F6:=H4a.out.sees
   simp only [sees,ac,aa,Nat.reduceAdd] at F6
   obtain ⟨zp,⟨z0,c00,c01,c02,c03,c04,c05,c06,c07,-⟩,-⟩:=F6
   go_wp2_with fail
   refine (iC fn i _ hf1 hf2).mono ?_
   rintro e wa7 ⟨rfl,hw8⟩
   obtain rfl:Wa5=wa7:=hw8.symm
   rw [HWI.out,HWE.out]
   go_wp2_with fail
   refine (bF w1 _ pb en _ ts _ _ H4a.out).mono ?_
   rintro e wa9 ⟨rfl,hd9⟩
   clear zp z0 c00 c01 c02 c03 c04 c05 c06 c07
   have H10:=Lib.hid hd9
   clear hd9 H4a
   have F11:=H10.out.sees
   simp only [sees,ac,aa,Nat.reduceAdd] at F11
   obtain ⟨zp,⟨z0,c00,c01,c02,c03,c04,c05,c06,c07,-⟩,-⟩:=F11
   go_wp2_with fail
   refine (fB w1 _ pb en ts _ (cj ⟨t1,t2,t3,t4⟩) _ (by omega) H10.out).mono ?_
   rintro e wa12 ⟨rfl,hd9⟩
   clear zp z0 c00 c01 c02 c03 c04 c05 c06 c07
   have H13:=Lib.hid hd9
   clear hd9 H10
   have F14:=H13.out.sees
   simp only [sees,ac,aa,Nat.reduceAdd] at F14
   obtain ⟨zp,⟨z0,c00,c01,c02,c03,c04,c05,c06,c07,-⟩,-⟩:=F14
   go_wp2_with fail
   first
    | go_end0
    | refine bodyPost_ret (results_none rfl _ _ _) rfl ?_
   exact ⟨rfl,H13.out.tail⟩
 rw [if_pos (by simpa using h6)] at hr
 have HC:=keep (fun ps w hs=>eA w1 ps pb en _ w (lh IH (k:=1) (Nat.le_refl _) (by omega) (w1:=w1) (ps:=ps) (pb:=pb) (w:=w) hr hn hs))
 clear IH
 have HH:=keep (fun wv h=>aX w1 ps pb en ts ns wv h)
 obtain ⟨⟨tk,tn,tt,⟨t1,t2,t3,t4⟩,ta⟩,ht⟩:∃ t,hdS en ts=t:=⟨_,rfl⟩
 rw [ht] at HH h6
 have h6b:((tk:Int) != 6)=true:=by simp only [] at h6; simp; omega
 clear ht h6
 go_enter func246,ntmps246
 go_wp2_with fail
 refine cMg (HH.out _ H.out) (fun _=>H.out.below) fun wa1 H3=>?_
 clear H
 clear HH
 simp only [tkA]
 go_upto_region 1 with fail
 have H4:=Lib.hid (H3.out.alloc 97 [.int .u8 tk,.int .i64 tn,.string ⟨tt.toArray⟩,.int .i64 t1,.int .i64 t2,.int .i64 t3,.int .i64 t4,.int .i64 ta])
 clear H3
 have H4a:Hid (St w1 (ac wa1.heap.size 97 [.int .u8 tk,.int .i64 tn,.string ⟨tt.toArray⟩,.int .i64 t1,.int .i64 t2,.int .i64 t3,.int .i64 t4,.int .i64 ta]::ps) pb en ts ns (wa1.alloc (.cells #[.int .u8 tk,.int .i64 tn,.string ⟨tt.toArray⟩,.int .i64 t1,.int .i64 t2,.int .i64 t3,.int .i64 t4,.int .i64 ta] 97))):=H4
 clear H4
 generalize (wa1.alloc (.cells #[.int .u8 tk,.int .i64 tn,.string ⟨tt.toArray⟩,.int .i64 t1,.int .i64 t2,.int .i64 t3,.int .i64 t4,.int .i64 ta] 97))=Wa5 at H4a ⊢
 have F6:=H4a.out.sees
 simp only [sees,ac,aa,Nat.reduceAdd] at F6
 obtain ⟨zp,⟨z0,c00,c01,c02,c03,c04,c05,c06,c07,-⟩,-⟩:=F6
 go_wp2_with fail
 clear hr
 refine (HC.out _ _ H4a.out).mono ?_
 intro e w9 hp
 clear HC
 cases r with
 | bad a c =>
  obtain ⟨rfl,hz⟩:=hp
  have HZ:=Lib.hid hz
  clear hz
  go_wp2_with fail
  exact ⟨rfl,rfl,HZ.out⟩
 | ok ts9 ns9 n9 =>
  obtain ⟨rfl,hz⟩:=hp
  have HZ:=Lib.hid hz
  clear hz
  go_wp2_with fail
  first
   | go_end0
   | refine bodyPost_ret (results_none rfl _ _ _) rfl ?_
  exact ⟨rfl,HZ.out.tail⟩
