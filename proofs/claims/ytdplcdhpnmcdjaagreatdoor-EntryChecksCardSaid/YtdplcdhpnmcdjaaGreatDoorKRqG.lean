/- The reference's parser by rf: call. -/
import Derived.Test.YtdplcdhpnmcdjaaGreatDoorKRqF
import Derived.Test.YtdplcdhpnmcdjaaGreatDoorKTg
namespace Go.Proofs.YtdplcdhpnmcdjaaGreatDoor
set_option maxRecDepth 100000
set_option maxHeartbeats 16000000
open Go.RowKit Go.Proofs.Tryz
theorem Dz {e f:Nat} {all:List Tk} {t:Tk} {q:Q} (h:fnS t.text=0):rf e all (f+1) (.call t) q=q.flt (t.at_:Int) 10:=by rw [rf,if_pos h]
theorem DC {e f fn i:Nat} {all:List Tk} {t:Tk} {q:Q} {ns:List Nd} {a c:Int} {n:Nat} (h:¬ fnS t.text=0) (hw:q.want e all 9=⟨i,ns,a,c,n⟩) (hf:fnS t.text=fn) (hk:(hdS e (all.drop i)).kind=10):rf e all (f+1) (.call t) q=(⟨i,ns,a,c,0⟩:Q).close e all fn (t.at_:Int):=by
 subst hf
 rw [rf,if_neg h,hw,if_pos (show (Q.hd e all ⟨i,ns,a,c,n⟩).kind=10 from hk)]
 rfl
theorem DD {e f fn i:Nat} {all:List Tk} {t:Tk} {q:Q} {ns:List Nd} {a c:Int} {n:Nat} (h:¬ fnS t.text=0) (hw:q.want e all 9=⟨i,ns,a,c,n⟩) (hf:fnS t.text=fn) (hk:¬ (hdS e (all.drop i)).kind=10):rf e all (f+1) (.call t) q=(rf e all f (.args fn 0) ⟨i,ns,a,c,n⟩).close e all fn (t.at_:Int):=by
 subst hf
 rw [rf,if_neg h,hw,if_neg (show ¬ (Q.hd e all ⟨i,ns,a,c,n⟩).kind=10 from hk)]
theorem Ey (f:Nat) (HARG:∀ g,g≤f→Rc g) (tk:Nat) (tn:Int) (tt:List UInt8) (t1 t2 t3 t4:Int) (ta:Nat) (w1:World) (ps:List aS) (pb:Nat) (S:ByteArray) (all:List Tk) (i:Nat) (ns:List Nd) (a c:Int) (n:Nat) (w:World) (hn:all.length≤1000) (hs:S.size≤4611686018427387904) (hi:i≤all.length) (hl:ns.length+1≤i) (hf:12 * (all.length - i)+13≤f+1) (h:RSt w1 ps pb S all i ns a c w) :
  Calls prog 251 #[.pointer (some ⟨pb,0,none⟩),tkA ⟨tk,tn,tt,⟨t1,t2,t3,t4⟩,ta⟩] w (RQ w1 ps pb S all (rf S.size all (f+1) (.call ⟨tk,tn,tt,⟨t1,t2,t3,t4⟩,ta⟩) ⟨i,ns,a,c,n⟩)):=by
 obtain ⟨i0,hi_,hz0,hz1,hz2⟩:=info_parts p8
 have hi9:=hi_
 clear hi_
 have HFU:=keep (fun W=>BL tt W)
 have H:=Lib.hid h
 have H4:Hid (RSt w1 (ac w.heap.size 97 [.int .u8 tk,.int .i64 tn,.string ⟨tt.toArray⟩,.int .i64 t1,.int .i64 t2,.int .i64 t3,.int .i64 t4,.int .i64 ta]::ps) pb S all i ns a c (w.alloc (.cells #[.int .u8 tk,.int .i64 tn,.string ⟨tt.toArray⟩,.int .i64 t1,.int .i64 t2,.int .i64 t3,.int .i64 t4,.int .i64 ta] 97))):=Lib.hid (H.out.alloc 97 [.int .u8 tk,.int .i64 tn,.string ⟨tt.toArray⟩,.int .i64 t1,.int .i64 t2,.int .i64 t3,.int .i64 t4,.int .i64 ta])
 clear h H
 obtain ⟨fn,hfn⟩:=ex (fnS tt)
 have hle:=rx tt
 rw [hfn] at hle
 by_cases h0:fn=0
 ·subst h0
  rw [Dz (by exact hfn)]
  have hE:fnE tt=6:=if_pos hfn
  rw [hfn,hE] at HFU
  clear hfn hE
  simp only [tkA]
  go_enter func251,ntmps251
  go_upto_region 1 with fail
  generalize (w.alloc (.cells #[.int .u8 tk,.int .i64 tn,.string ⟨tt.toArray⟩,.int .i64 t1,.int .i64 t2,.int .i64 t3,.int .i64 t4,.int .i64 ta] 97))=W5 at H4 ⊢
  have F6:=H4.out.sees
  simp only [sees,ac,aa,Nat.reduceAdd] at F6
  obtain ⟨zp,⟨z0,c00,c01,c02,c03,c04,c05,c06,c07,-⟩,-⟩:=F6
  obtain ⟨la,lc,tv,-,⟨x0,x1⟩,p0,p1,p2,p3,p4,p5⟩:=H4.out.cells
  go_wp2_with fail
  refine (HFU.out _).mono ?_
  rintro e w6 ⟨rfl,hb⟩
  have H6:=Lib.hid (H4.out.below hb)
  clear hb H4 HFU x0 x1 p0 p1 p2 p3 p4 p5 c00 c01 c02 c03 c04 c05 c06 c07 zp z0
  have F6:=H6.out.sees
  simp only [sees,ac,aa,Nat.reduceAdd] at F6
  obtain ⟨zp,⟨z0,c00,c01,c02,c03,c04,c05,c06,c07,-⟩,-⟩:=F6
  obtain ⟨la,lc,tv,-,⟨x0,x1⟩,p0,p1,p2,p3,p4,p5⟩:=H6.out.cells
  go_wp2_with fail
  refine (zC w1 _ pb S all i ns a c _ _ _ H6.out).mono ?_
  rintro e w7 ⟨rfl,hst⟩
  have H7:=Lib.hid hst
  clear hst x0 x1 p0 p1 p2 p3 p4 p5 c00 c01 c02 c03 c04 c05 c06 c07 zp z0 H6
  go_wp2_with fail
  first
   | go_end0
   | go_ret
   | refine bodyPost_ret (results_none rfl _ _ _) rfl ?_
  exact ⟨rfl,H7.out.tail⟩
 have hfn0:¬ fnS tt=0:=by omega
 have hE:fnE tt=0:=if_neg hfn0
 rw [hfn,hE] at HFU
 obtain ⟨⟨i1,ns1,a1,c1,n1⟩,hw⟩:∃ q,(⟨i,ns,a,c,n⟩:Q).want S.size all 9=q:=⟨_,rfl⟩
 have hwl:i1≤all.length:=by have h9:=Cy (e:=S.size) (q:=⟨i,ns,a,c,n⟩) (k:=9) hi (by decide); rw [hw] at h9; exact h9
 have hwi:i≤i1:=by have h9:=((Bd.rfl_ (all:=all) (q:=⟨i,ns,a,c,n⟩) (.inl hi)).want (e:=S.size) 9 (by decide)).2.1; rw [hw] at h9; exact h9
 have hwn:ns1=ns:=by have h9:=Ah (e:=S.size) (all:=all) ⟨i,ns,a,c,n⟩ 9; rw [hw] at h9; exact h9
 subst hwn
 have HW:=keep (fun qs W h9=>Dw w1 qs pb S all i ns1 a c n 9 W hn (by omega) hs h9)
 rw [hw] at HW
 have HAR:=keep (fun W=>Ag fn W)
 obtain ⟨lo,hlo⟩:∃ x,(arS fn).1=x:=⟨_,rfl⟩
 obtain ⟨hi0,hhi0⟩:∃ x,(arS fn).2=x:=⟨_,rfl⟩
 have hlop:=qV fn
 rw [hlo] at hlop
 rw [hlo,hhi0] at HAR
 by_cases hk10:(hdS S.size (all.drop i1)).kind=10
 ·rw [DC (by exact hfn0) hw (by exact hfn) hk10]
  clear hw hE hfn0
  obtain ⟨⟨uk,un,ut,⟨u1,u2,u3,u4⟩,ua⟩,ht1⟩:∃ t,hdS S.size (all.drop i1)=t:=⟨_,rfl⟩
  have HT1:=keep ht1
  have hk2:uk=10:=by rw [ht1] at hk10; exact hk10
  have HK2:=keep hk2
  have hns9:ns1.length≤1001:=by omega
  clear ht1 hk2
  obtain ⟨R9,hR9⟩:=ex ((⟨i1,ns1,a1,c1,0⟩:Q).close S.size all fn (ta:Int))
  rw [hR9]
  have HR9:=keep hR9
  clear hR9
  by_cases hc1:c1=0
  ·subst hc1
   simp only [tkA]
   have hfk:=Ae
   go_enter func251,ntmps251
   go_upto_region 1 with fail
   generalize (w.alloc (.cells #[.int .u8 tk,.int .i64 tn,.string ⟨tt.toArray⟩,.int .i64 t1,.int .i64 t2,.int .i64 t3,.int .i64 t4,.int .i64 ta] 97))=W5 at H4 ⊢
   have F6:=H4.out.sees
   simp only [sees,ac,aa,Nat.reduceAdd] at F6
   obtain ⟨zp,⟨z0,c00,c01,c02,c03,c04,c05,c06,c07,-⟩,-⟩:=F6
   obtain ⟨la,lc,tv,-,⟨x0,x1⟩,p0,p1,p2,p3,p4,p5⟩:=H4.out.cells
   go_wp2_with fail
   refine (HFU.out _).mono ?_
   rintro e w6 ⟨rfl,hb⟩
   have H6:=Lib.hid (H4.out.below hb)
   clear hb H4 HFU x0 x1 p0 p1 p2 p3 p4 p5 c00 c01 c02 c03 c04 c05 c06 c07 zp z0
   go_wp2_with fail
   refine (HW.out _ _ H6.out).mono ?_
   rintro e w7 ⟨rfl,hst⟩
   have hst:RSt w1 _ pb S all i1 ns1 a1 0 w7:=hst
   have H7:=Lib.hid hst
   clear hst H6 HW
   go_wp2_with fail
   refine cMg (zu w1 _ pb S all i1 ns1 a1 0 _ hn (by omega) hs H7.out) (fun _=>H7.out.below) fun w8 H8=>?_
   rw [HT1.out]
   clear H7
   simp only [tkA]
   have hk2:=HK2.out
   have hr:0<(arS fn).1∨(arS fn).2<0:=.inl (by rw [hlo]; omega)
   have g1:((0:Nat):Int)<(lo:Int):=by omega
   have hR9:(⟨i1,ns1,a1,0,0⟩:Q).close S.size all fn (ta:Int)=R9:=HR9.out
   rw [AI hk10 hr] at hR9
   subst hR9
   clear HR9
   have F6:=H8.out.sees
   simp only [sees,ac,aa,Nat.reduceAdd] at F6
   obtain ⟨zp,⟨z0,c00,c01,c02,c03,c04,c05,c06,c07,-⟩,-⟩:=F6
   obtain ⟨la,lc,tv,-,⟨x0,x1⟩,p0,p1,p2,p3,p4,p5⟩:=H8.out.cells
   go_wp2_with fail
   refine (zW w1 _ pb S all (i1) (ns1) (a1) 0 10 _ hn (by omega) hs H8.out hk10).mono ?_
   rintro e w21 ⟨rfl,hst⟩
   clear x0 x1 p0 p1 p2 p3 p4 p5 c00 c01 c02 c03 c04 c05 c06 c07 zp z0
   have hst:RSt w1 _ pb S all (i1+1) (ns1) (a1) (0) w21:=hst
   have H22:=Lib.hid hst
   clear hst
   go_wp2_with fail
   refine (HAR.out _).mono ?_
   rintro e w25 ⟨rfl,hw⟩
   obtain rfl:w21=w25:=hw.symm
   have F6:=H22.out.sees
   simp only [sees,ac,aa,Nat.reduceAdd] at F6
   obtain ⟨zp,⟨z0,c00,c01,c02,c03,c04,c05,c06,c07,-⟩,-⟩:=F6
   obtain ⟨la,lc,tv,-,⟨x0,x1⟩,p0,p1,p2,p3,p4,p5⟩:=H22.out.cells
   go_wp2_with fail
   refine (zC w1 _ pb S all (i1+1) (ns1) (a1) (0) _ _ _ H22.out).mono ?_
   rintro e w23 ⟨rfl,hst⟩
   clear x0 x1 p0 p1 p2 p3 p4 p5 c00 c01 c02 c03 c04 c05 c06 c07 zp z0
   have hst:RSt w1 _ pb S all (i1+1) (ns1) ((ta:Int)) (11) w23:=hst
   have H24:=Lib.hid hst
   clear hst
   have F6:=H24.out.sees
   simp only [sees,ac,aa,Nat.reduceAdd] at F6
   obtain ⟨zp,⟨z0,c00,c01,c02,c03,c04,c05,c06,c07,-⟩,-⟩:=F6
   obtain ⟨la,lc,tv,-,⟨x0,x1⟩,p0,p1,p2,p3,p4,p5⟩:=H24.out.cells
   go_wp2_with fail
   first
    | go_end0
    | go_ret
    | refine bodyPost_ret (results_none rfl _ _ _) rfl ?_
   exact ⟨rfl,H24.out.tail⟩
  have hR9:=HR9.out
  rw [AJ hc1] at hR9
  subst hR9
  clear HR9
  simp only [tkA]
  have hfk:=Ae
  go_enter func251,ntmps251
  go_upto_region 1 with fail
  generalize (w.alloc (.cells #[.int .u8 tk,.int .i64 tn,.string ⟨tt.toArray⟩,.int .i64 t1,.int .i64 t2,.int .i64 t3,.int .i64 t4,.int .i64 ta] 97))=W5 at H4 ⊢
  have F6:=H4.out.sees
  simp only [sees,ac,aa,Nat.reduceAdd] at F6
  obtain ⟨zp,⟨z0,c00,c01,c02,c03,c04,c05,c06,c07,-⟩,-⟩:=F6
  obtain ⟨la,lc,tv,-,⟨x0,x1⟩,p0,p1,p2,p3,p4,p5⟩:=H4.out.cells
  go_wp2_with fail
  refine (HFU.out _).mono ?_
  rintro e w6 ⟨rfl,hb⟩
  have H6:=Lib.hid (H4.out.below hb)
  clear hb H4 HFU x0 x1 p0 p1 p2 p3 p4 p5 c00 c01 c02 c03 c04 c05 c06 c07 zp z0
  go_wp2_with fail
  refine (HW.out _ _ H6.out).mono ?_
  rintro e w7 ⟨rfl,hst⟩
  have hst:RSt w1 _ pb S all i1 ns1 a1 c1 w7:=hst
  have H7:=Lib.hid hst
  clear hst H6 HW
  go_wp2_with fail
  refine cMg (zu w1 _ pb S all i1 ns1 a1 c1 _ hn (by omega) hs H7.out) (fun _=>H7.out.below) fun w8 H8=>?_
  rw [HT1.out]
  clear H7
  simp only [tkA]
  have hk2:=HK2.out
  have hcb:((c1:Int) != 0)=true:=by simpa using hc1
  have F6:=H8.out.sees
  simp only [sees,ac,aa,Nat.reduceAdd] at F6
  obtain ⟨zp,⟨z0,c00,c01,c02,c03,c04,c05,c06,c07,-⟩,-⟩:=F6
  obtain ⟨la,lc,tv,-,⟨x0,x1⟩,p0,p1,p2,p3,p4,p5⟩:=H8.out.cells
  go_wp2_with fail
  first
   | go_end0
   | go_ret
   | refine bodyPost_ret (results_none rfl _ _ _) rfl ?_
  exact ⟨rfl,H8.out.tail⟩
 rw [DD (by exact hfn0) hw (by exact hfn) hk10]
 clear hw hE hfn0
 obtain ⟨⟨uk,un,ut,⟨u1,u2,u3,u4⟩,ua⟩,ht1⟩:∃ t,hdS S.size (all.drop i1)=t:=⟨_,rfl⟩
 have HT1:=keep ht1
 have hk2:uk≠10:=by rw [ht1] at hk10; exact hk10
 have hkb:((uk:Int) != 10)=true:=by simp; omega
 have hns9:ns1.length≤1001:=by omega
 clear ht1 hk2 hk10
 obtain ⟨f,rfl⟩:∃ f',f=f'+1:=⟨f - 1,by omega⟩
 rw [C3]
 have hb2:=zF (e:=S.size) (all:=all) (f:=f) (m:=(.arg fn 0)) (q:=⟨i1,ns1,a1,c1,n1⟩) hn (hwl) (by simp only [Mr.sl]; omega)
 have hc2:=fun qs W (h9:RSt w1 qs pb S all (i1) (ns1) (a1) (c1) W)=>HARG (f) (by omega) w1 qs pb S all ⟨i1,ns1,a1,c1,n1⟩ (.arg fn 0) W hn hs (hwl) (by simp only [Mr.sl]; omega) (by simp only [e6]; omega) h9
 obtain ⟨⟨i2,ns2,a2,c2,n2⟩,hX2⟩:∃ q,rf S.size all f (.arg fn 0) ⟨i1,ns1,a1,c1,n1⟩=q:=⟨_,rfl⟩
 rw [hX2] at hb2 hc2
 simp only [Mr.sl] at hb2
 obtain ⟨hb2a,hb2b,hb2c,hb2d⟩:=hb2
 have HC2:=keep hc2
 clear hc2
 have hgr2:c2=0→1≤ns2.length:=fun h9=>by
  have h8:=zz (e:=S.size) (all:=all) f (.arg fn 0) ⟨i1,ns1,a1,c1,n1⟩ (by rw [hX2]; exact h9)
  rw [hX2] at h8
  simp only [Mr.gr] at h8
  omega
 rw [hX2]
 obtain ⟨R,hR⟩:=ex (Ct S.size all f fn (0+1) ⟨i2,ns2,a2,c2,n2⟩)
 rw [hR]
 obtain ⟨R9,hR9⟩:=ex (R.close S.size all fn (ta:Int))
 rw [hR9]
 have HR9:=keep hR9
 have HR:=keep hR
 have HIH:=keep HARG
 clear hX2 hR hR9 HARG
 simp only [tkA]
 have hfk:=Ae
 go_enter func251,ntmps251
 go_upto_region 1 with fail
 generalize (w.alloc (.cells #[.int .u8 tk,.int .i64 tn,.string ⟨tt.toArray⟩,.int .i64 t1,.int .i64 t2,.int .i64 t3,.int .i64 t4,.int .i64 ta] 97))=W5 at H4 ⊢
 have F6:=H4.out.sees
 simp only [sees,ac,aa,Nat.reduceAdd] at F6
 obtain ⟨zp,⟨z0,c00,c01,c02,c03,c04,c05,c06,c07,-⟩,-⟩:=F6
 obtain ⟨la,lc,tv,-,⟨x0,x1⟩,p0,p1,p2,p3,p4,p5⟩:=H4.out.cells
 go_wp2_with fail
 refine (HFU.out _).mono ?_
 rintro e w6 ⟨rfl,hb⟩
 have H6:=Lib.hid (H4.out.below hb)
 clear hb H4 HFU x0 x1 p0 p1 p2 p3 p4 p5 c00 c01 c02 c03 c04 c05 c06 c07 zp z0
 go_wp2_with fail
 refine (HW.out _ _ H6.out).mono ?_
 rintro e w7 ⟨rfl,hst⟩
 have hst:RSt w1 _ pb S all i1 ns1 a1 c1 w7:=hst
 have H7:=Lib.hid hst
 clear hst H6 HW
 go_wp2_with fail
 refine cMg (zu w1 _ pb S all i1 ns1 a1 c1 _ hn (by omega) hs H7.out) (fun _=>H7.out.below) fun w8 H8=>?_
 rw [HT1.out]
 clear H7
 simp only [tkA]
 go_wp2_with fail
 refine (HC2.out _ _ H8.out (by omega) (by omega) (by omega)).mono ?_
 rintro e w9 ⟨rfl,hst⟩
 have hst:RSt w1 _ pb S all i2 ns2 a2 c2 w9:=hst
 have H9:=Lib.hid hst
 clear hst H8 HC2
 go_wp2_with fail
 clear hkb
 go_loopg [6] (all.length+2 - i2) (fun gf nv wr=>∃ (q:Q) (g k:Nat),gf=all.length+2 - q.i∧nv=.int .i64 (k:Int)∧ao (Ct S.size all g fn k q=R∧g≤f∧12 * (all.length - q.i)≤g∧Gd all q∧q.ns.length+1≤q.i∧q.i≤1001∧1≤k∧k≤q.i∧(q.c=0→1≤q.ns.length))∧Hid (RSt w1 (ac w.heap.size 97 [.int .u8 tk,.int .i64 tn,.string ⟨tt.toArray⟩,.int .i64 t1,.int .i64 t2,.int .i64 t3,.int .i64 t4,.int .i64 ta]::ps) pb S all q.i q.ns q.a q.c wr))
 case atStart=>exact ⟨⟨i2,ns2,a2,c2,n2⟩,f,1,rfl,rfl,keep ⟨HR.out,by omega,by simp only; omega,hb2d,by simp only; omega,hb2b,by omega,by simp only; omega,hgr2⟩,H9⟩
 case round =>
  clear H9 HR
  obtain ⟨⟨ic,nsc,aqc,cc,mc⟩,g,k,hg,rfl,HQ0,HRc⟩:=hrel
  obtain ⟨wp,rfl⟩:∃ wp:World,wp=wr:=⟨_,rfl⟩
  subst hg
  obtain ⟨hq,hgf,hfu,hgd,hlc,hic,hk1,hki,hne⟩:=HQ0.out
  simp only at hfu hlc hic hki hne
  have HRd:Hid (RSt w1 (ac w.heap.size 97 [.int .u8 tk,.int .i64 tn,.string ⟨tt.toArray⟩,.int .i64 t1,.int .i64 t2,.int .i64 t3,.int .i64 t4,.int .i64 ta]::ps) pb S all ic nsc aqc cc wp):=HRc
  clear HQ0 HRc
  unfold Ct at hq
  simp only at hq
  have hns9:nsc.length≤1001:=by omega
  by_cases hc0:cc=0
  ·subst hc0
   have hne:=hne rfl
   have hile:ic≤all.length:=Gd.le hgd rfl
   obtain ⟨⟨vk,vn,vt,⟨v1,v2,v3,v4⟩,va⟩,hv⟩:∃ t,hdS S.size (all.drop ic)=t:=⟨_,rfl⟩
   have HV:=keep hv
   by_cases h11:vk=11
   ·rw [if_pos ⟨rfl,by rw [hv]; exact h11⟩] at hq
    have hlt:ic<all.length:=zL (e:=S.size) (q:=⟨ic,nsc,aqc,0,mc⟩) (by show (hdS S.size (all.drop ic)).kind≠0; rw [hv]; simp only; omega)
    obtain ⟨g0,rfl⟩:∃ g0,g=g0+1:=⟨g - 1,by omega⟩
    rw [C3,show (Q.inc ⟨ic,nsc,aqc,0,mc⟩:Q)=⟨ic+1,nsc,aqc,0,mc⟩ from rfl] at hq
    have hb3:=zF (e:=S.size) (all:=all) (f:=g0) (m:=(.arg fn k)) (q:=⟨ic+1,nsc,aqc,0,mc⟩) hn (hlt) (by simp only [Mr.sl]; omega)
    have hc3:=fun qs W (h9:RSt w1 qs pb S all (ic+1) (nsc) (aqc) (0) W)=>HIH.out (g0) (by omega) w1 qs pb S all ⟨ic+1,nsc,aqc,0,mc⟩ (.arg fn k) W hn hs (hlt) (by simp only [Mr.sl]; omega) (by simp only [e6]; omega) h9
    obtain ⟨⟨i3,ns3,a3,c3,n3⟩,hX3⟩:∃ q,rf S.size all g0 (.arg fn k) ⟨ic+1,nsc,aqc,0,mc⟩=q:=⟨_,rfl⟩
    rw [hX3] at hb3 hc3
    simp only [Mr.sl] at hb3
    obtain ⟨hb3a,hb3b,hb3c,hb3d⟩:=hb3
    have HC3:=keep hc3
    clear hc3
    have hgr3:c3=0→1≤ns3.length:=fun h9=>by
     have h8:=zz (e:=S.size) (all:=all) g0 (.arg fn k) ⟨ic+1,nsc,aqc,0,mc⟩ (by rw [hX3]; exact h9)
     rw [hX3] at h8
     simp only [Mr.gr] at h8
     omega
    rw [hX3] at hq
    have HQQ:=keep hq
    have H11:=keep h11
    clear hX3 hq hv h11
    have F6:=HRd.out.sees
    simp only [sees,ac,aa,Nat.reduceAdd] at F6
    obtain ⟨zp,⟨z0,c00,c01,c02,c03,c04,c05,c06,c07,-⟩,-⟩:=F6
    obtain ⟨la,lc,tv,-,⟨x0,x1⟩,p0,p1,p2,p3,p4,p5⟩:=HRd.out.cells
    go_wp2_with fail
    refine (zu w1 _ pb S all ic nsc aqc 0 _ hn (by omega) hs HRd.out).mono ?_
    rintro e w10 ⟨rfl,hb⟩
    rw [HV.out]
    have H10:=Lib.hid (HRd.out.below hb)
    clear hb HRd x0 x1 p0 p1 p2 p3 p4 p5 c00 c01 c02 c03 c04 c05 c06 c07 zp z0
    simp only [tkA]
    have h11:=H11.out
    have F6:=H10.out.sees
    simp only [sees,ac,aa,Nat.reduceAdd] at F6
    obtain ⟨zp,⟨z0,c00,c01,c02,c03,c04,c05,c06,c07,-⟩,-⟩:=F6
    obtain ⟨la,lc,tv,-,⟨x0,x1⟩,p0,p1,p2,p3,p4,p5⟩:=H10.out.cells
    go_wp2_with fail
    refine (HC3.out _ _ H10.out.inc (by omega) (by omega) (by omega)).mono ?_
    rintro e w11 ⟨rfl,hst⟩
    have hst:RSt w1 _ pb S all i3 ns3 a3 c3 w11:=hst
    have H12:=Lib.hid hst
    clear hst H10 HC3 x0 x1 p0 p1 p2 p3 p4 p5 c00 c01 c02 c03 c04 c05 c06 c07 zp z0 h11
    go_wp2_with fail
    go_roundg (all.length+2 - i3)
    case rel=>exact ⟨⟨i3,ns3,a3,c3,n3⟩,g0,k+1,rfl,rfl,keep ⟨HQQ.out,by omega,by simp only; omega,hb3d,by simp only; omega,hb3b,by omega,by simp only; omega,hgr3⟩,H12⟩
    case measure=>omega
   rw [if_neg (fun h9=>h11 (by have h8:=h9.2; rw [hv] at h8; exact h8))] at hq
   subst hq
   have h11b:((vk:Int) == 11)=false:=by simp; omega
   clear hv h11
   have F6:=HRd.out.sees
   simp only [sees,ac,aa,Nat.reduceAdd] at F6
   obtain ⟨zp,⟨z0,c00,c01,c02,c03,c04,c05,c06,c07,-⟩,-⟩:=F6
   obtain ⟨la,lc,tv,-,⟨x0,x1⟩,p0,p1,p2,p3,p4,p5⟩:=HRd.out.cells
   go_wp2_with fail
   refine (zu w1 _ pb S all ic nsc aqc 0 _ hn (by omega) hs HRd.out).mono ?_
   rintro e w10 ⟨rfl,hb⟩
   rw [HV.out]
   have H10:=Lib.hid (HRd.out.below hb)
   clear hb HRd x0 x1 p0 p1 p2 p3 p4 p5 c00 c01 c02 c03 c04 c05 c06 c07 zp z0
   simp only [tkA]
   have F6:=H10.out.sees
   simp only [sees,ac,aa,Nat.reduceAdd] at F6
   obtain ⟨zp,⟨z0,c00,c01,c02,c03,c04,c05,c06,c07,-⟩,-⟩:=F6
   obtain ⟨la,lc,tv,-,⟨x0,x1⟩,p0,p1,p2,p3,p4,p5⟩:=H10.out.cells
   go_upto_region 13 with fail
   clear h11b hfk x0 x1 p0 p1 p2 p3 p4 p5 c00 c01 c02 c03 c04 c05 c06 c07 zp z0
   by_cases hk10:(hdS S.size (all.drop ic)).kind=10
   ·by_cases hr:k<(arS fn).1∨(arS fn).2<k
    ·by_cases hrl:k<lo
     ·have g1:((k:Nat):Int)<(lo:Int):=by omega
      have hR9:(⟨ic,nsc,aqc,0,k⟩:Q).close S.size all fn (ta:Int)=R9:=HR9.out
      rw [AI hk10 hr] at hR9
      subst hR9
      clear HR9
      have F6:=H10.out.sees
      simp only [sees,ac,aa,Nat.reduceAdd] at F6
      obtain ⟨zp,⟨z0,c00,c01,c02,c03,c04,c05,c06,c07,-⟩,-⟩:=F6
      obtain ⟨la,lc,tv,-,⟨x0,x1⟩,p0,p1,p2,p3,p4,p5⟩:=H10.out.cells
      go_wp2_with fail
      refine (zW w1 _ pb S all (ic) (nsc) (aqc) 0 10 _ hn (by omega) hs H10.out hk10).mono ?_
      rintro e w26 ⟨rfl,hst⟩
      clear x0 x1 p0 p1 p2 p3 p4 p5 c00 c01 c02 c03 c04 c05 c06 c07 zp z0
      have hst:RSt w1 _ pb S all (ic+1) (nsc) (aqc) (0) w26:=hst
      have H27:=Lib.hid hst
      clear hst
      go_wp2_with fail
      refine (HAR.out _).mono ?_
      rintro e w30 ⟨rfl,hw⟩
      obtain rfl:w26=w30:=hw.symm
      have F6:=H27.out.sees
      simp only [sees,ac,aa,Nat.reduceAdd] at F6
      obtain ⟨zp,⟨z0,c00,c01,c02,c03,c04,c05,c06,c07,-⟩,-⟩:=F6
      obtain ⟨la,lc,tv,-,⟨x0,x1⟩,p0,p1,p2,p3,p4,p5⟩:=H27.out.cells
      go_wp2_with fail
      refine (zC w1 _ pb S all (ic+1) (nsc) (aqc) (0) _ _ _ H27.out).mono ?_
      rintro e w28 ⟨rfl,hst⟩
      clear x0 x1 p0 p1 p2 p3 p4 p5 c00 c01 c02 c03 c04 c05 c06 c07 zp z0
      have hst:RSt w1 _ pb S all (ic+1) (nsc) ((ta:Int)) (11) w28:=hst
      have H29:=Lib.hid hst
      clear hst
      have F6:=H29.out.sees
      simp only [sees,ac,aa,Nat.reduceAdd] at F6
      obtain ⟨zp,⟨z0,c00,c01,c02,c03,c04,c05,c06,c07,-⟩,-⟩:=F6
      obtain ⟨la,lc,tv,-,⟨x0,x1⟩,p0,p1,p2,p3,p4,p5⟩:=H29.out.cells
      go_wp2_with fail
      first
       | go_end0
       | go_ret
       | refine bodyPost_ret (results_none rfl _ _ _) rfl ?_
      exact ⟨rfl,H29.out.tail⟩
     have hrh:hi0<k:=by rcases hr with h9 | h9 <;> omega
     have g1:¬ ((k:Nat):Int)<(lo:Int):=by omega
     have g2:((k:Nat):Int)>(hi0:Int):=by omega
     have hR9:(⟨ic,nsc,aqc,0,k⟩:Q).close S.size all fn (ta:Int)=R9:=HR9.out
     rw [AI hk10 hr] at hR9
     subst hR9
     clear HR9
     have F6:=H10.out.sees
     simp only [sees,ac,aa,Nat.reduceAdd] at F6
     obtain ⟨zp,⟨z0,c00,c01,c02,c03,c04,c05,c06,c07,-⟩,-⟩:=F6
     obtain ⟨la,lc,tv,-,⟨x0,x1⟩,p0,p1,p2,p3,p4,p5⟩:=H10.out.cells
     go_wp2_with fail
     refine (zW w1 _ pb S all (ic) (nsc) (aqc) 0 10 _ hn (by omega) hs H10.out hk10).mono ?_
     rintro e w26 ⟨rfl,hst⟩
     clear x0 x1 p0 p1 p2 p3 p4 p5 c00 c01 c02 c03 c04 c05 c06 c07 zp z0
     have hst:RSt w1 _ pb S all (ic+1) (nsc) (aqc) (0) w26:=hst
     have H27:=Lib.hid hst
     clear hst
     go_wp2_with fail
     refine (HAR.out _).mono ?_
     rintro e w33 ⟨rfl,hw⟩
     obtain rfl:w26=w33:=hw.symm
     have F6:=H27.out.sees
     simp only [sees,ac,aa,Nat.reduceAdd] at F6
     obtain ⟨zp,⟨z0,c00,c01,c02,c03,c04,c05,c06,c07,-⟩,-⟩:=F6
     obtain ⟨la,lc,tv,-,⟨x0,x1⟩,p0,p1,p2,p3,p4,p5⟩:=H27.out.cells
     go_wp2_with fail
     refine (zC w1 _ pb S all (ic+1) (nsc) (aqc) (0) _ _ _ H27.out).mono ?_
     rintro e w31 ⟨rfl,hst⟩
     clear x0 x1 p0 p1 p2 p3 p4 p5 c00 c01 c02 c03 c04 c05 c06 c07 zp z0
     have hst:RSt w1 _ pb S all (ic+1) (nsc) ((ta:Int)) (11) w31:=hst
     have H32:=Lib.hid hst
     clear hst
     have F6:=H32.out.sees
     simp only [sees,ac,aa,Nat.reduceAdd] at F6
     obtain ⟨zp,⟨z0,c00,c01,c02,c03,c04,c05,c06,c07,-⟩,-⟩:=F6
     obtain ⟨la,lc,tv,-,⟨x0,x1⟩,p0,p1,p2,p3,p4,p5⟩:=H32.out.cells
     go_wp2_with fail
     first
      | go_end0
      | go_ret
      | refine bodyPost_ret (results_none rfl _ _ _) rfl ?_
     exact ⟨rfl,H32.out.tail⟩
    have g1:¬ ((k:Nat):Int)<(lo:Int):=by omega
    have g2:¬ ((k:Nat):Int)>(hi0:Int):=by omega
    obtain ⟨nb,nd,hnd⟩:∃ nb nd,nsc=nb++[nd]:=by
     rcases List.eq_nil_or_concat nsc with h9 | ⟨l,x,h9⟩
     ·rw [h9] at hne; simp at hne
     exact ⟨l,x,by rw [h9]; simp⟩
    subst hnd
    have hlk:zH (nb++[nd])=nd.kind:=by unfold zH; rw [List.getLast?_append]; simp
    obtain ⟨kn,hkn⟩:=ex (nd.kind)
    rw [hkn] at hlk
    have F6:=H10.out.sees
    simp only [sees,ac,aa,Nat.reduceAdd] at F6
    obtain ⟨zp,⟨z0,c00,c01,c02,c03,c04,c05,c06,c07,-⟩,-⟩:=F6
    obtain ⟨la,lc,tv,-,⟨x0,x1⟩,p0,p1,p2,p3,p4,p5⟩:=H10.out.cells
    go_wp2_with fail
    refine (zW w1 _ pb S all (ic) (nb++[nd]) (aqc) 0 10 _ hn (by omega) hs H10.out hk10).mono ?_
    rintro e w26 ⟨rfl,hst⟩
    clear x0 x1 p0 p1 p2 p3 p4 p5 c00 c01 c02 c03 c04 c05 c06 c07 zp z0
    have hst:RSt w1 _ pb S all (ic+1) (nb++[nd]) (aqc) (0) w26:=hst
    have H27:=Lib.hid hst
    clear hst
    go_wp2_with fail
    refine (HAR.out _).mono ?_
    rintro e w34 ⟨rfl,hw⟩
    obtain rfl:w26=w34:=hw.symm
    have F6:=H27.out.sees
    simp only [sees,ac,aa,Nat.reduceAdd] at F6
    obtain ⟨zp,⟨z0,c00,c01,c02,c03,c04,c05,c06,c07,-⟩,-⟩:=F6
    obtain ⟨la,lc,tv,-,⟨x0,x1⟩,p0,p1,p2,p3,p4,p5⟩:=H27.out.cells
    go_upto_region 19 with fail
    obtain ⟨gg,cap,s1,s2,s3,s4⟩:=RSt.last H27.out
    rw [hkn] at s4
    obtain ⟨LN,hLN⟩:=ex (nb.length)
    rw [hLN] at s1 s4
    have hLNb:LN≤1001:=by rw [← hLN]; simp at hns9; omega
    clear hLN hkn
    have hlt1:(LN:Int)<(LN:Int)+1:=by omega
    have hwr:IntKind.i64.wrap (LN:Int)=(LN:Int):=Go.IntWalk.i64_in _ (by omega)
    have hidx:(((LN+1:Nat):Int) - 1)=(LN:Int):=by omega
    have hidx2:((LN:Int)+1 - 1)=(LN:Int):=by omega
    refine wp_region_held_drew (S:=fun W=>pb<W.heap.size∧gg<W.heap.size∧W.cell? ⟨pb,3,none⟩=some (.slice (some ⟨gg,0,none⟩) (LN+1) cap)∧W.cell? ⟨gg,LN * 11,none⟩=some (.int .u8 (kn:Nat))) (by kernel_rfl) ⟨s2,s3,s1,s4⟩ (fun hHeld => ?_)
    refine wte 0 ?_
    refine wte 1 ?_
    refine wte 2 ?_
    refine wte 3 ?_
    refine wte 4 ?_
    refine wte 5 ?_
    refine wte 6 ?_
    refine wte 7 ?_
    refine wte 8 ?_
    refine wte 9 ?_
    refine wte 10 ?_
    refine wte 11 ?_
    refine wte 12 ?_
    refine wte 13 ?_
    refine wpAnyH_done (by kernel_rfl) ?_ _
    clear hHeld s1 s2 s3 s4 hwr hidx hidx2 hlt1 x0 x1 p0 p1 p2 p3 p4 p5 c00 c01 c02 c03 c04 c05 c06 c07 zp z0
    have H35:=Lib.hid (H27.out.below ((Below.refl _ _).drew))
    clear H27
    generalize w26.drew=W36 at H35 ⊢
    by_cases h46:46≤fn∧kn≠2∧kn≠3
    ·have hR9:(⟨ic,nb++[nd],aqc,0,k⟩:Q).close S.size all fn (ta:Int)=R9:=HR9.out
     rw [Dc hk10 hr (by rw [hlk]; exact h46)] at hR9
     subst hR9
     clear HR9
     obtain ⟨a1,a2,a3⟩:=h46
     have a1i:(46:Int)≤(fn:Int):=by omega
     have a2i:((kn:Int) != 2)=true:=by simp; omega
     have a3i:((kn:Int) != 3)=true:=by simp; omega
     clear a2 a3 hlk
     have F6:=H35.out.sees
     simp only [sees,ac,aa,Nat.reduceAdd] at F6
     obtain ⟨zp,⟨z0,c00,c01,c02,c03,c04,c05,c06,c07,-⟩,-⟩:=F6
     obtain ⟨la,lc,tv,-,⟨x0,x1⟩,p0,p1,p2,p3,p4,p5⟩:=H35.out.cells
     go_wp2_with fail
     refine (zC w1 _ pb S all (ic+1) (nb++[nd]) (aqc) (0) _ _ _ H35.out).mono ?_
     rintro e w37 ⟨rfl,hst⟩
     clear x0 x1 p0 p1 p2 p3 p4 p5 c00 c01 c02 c03 c04 c05 c06 c07 zp z0
     have hst:RSt w1 _ pb S all (ic+1) (nb++[nd]) ((ta:Int)) (4) w37:=hst
     have H38:=Lib.hid hst
     clear hst
     have hst:=H38.out
     clear H38
     obtain ⟨h1,h2,la2,lc2,tv2,hT,hO⟩:=hst
     have HT:=keep hT
     have H2:=keep h2
     have HO:=Lib.hid hO
     have F8:=hO.ok.sees
     simp only [sees,af,ac,aa,Nat.reduceAdd] at F8
     obtain ⟨⟨⟨x0,x1⟩,p0,p1,p2,p3,p4,p5,-⟩,-⟩:=F8
     clear hO hT h2
     obtain ⟨ln,hln⟩:=ex ((nb++[nd]).length)
     have HLN:=keep hln
     have hln9:ln≤1001:=by omega
     rw [hln] at HO
     clear hln
     go_wp2_with (at_builtin; refine wpList_append_lies _ rfl _ _ _ rfl w1.heap.size 39 i0 _ 11 96 underlying22 hi9 hz0 hz1 hz2 rfl (by omega) _ _ _ rfl (HO.out.own.alloc _) ⟨w37.heap.size,0,none⟩ 1 1 [.int .u8 7,.int .u8 0,.int .i64 0,.string ⟨#[]⟩,.int .i64 0,.int .i64 0,.int .i64 0,.int .i64 0,.int .i64 0,.int .u8 fn,.int .i64 (k:Nat)] rfl rfl (World.news_of_block (cs:=#[.int .u8 7,.int .u8 0,.int .i64 0,.string ⟨#[]⟩,.int .i64 0,.int .i64 0,.int .i64 0,.int .i64 0,.int .i64 0,.int .u8 fn,.int .i64 (k:Nat)]) (t:=39) (fr:=(0,0)) (heap_alloc_new _ _)) (by intro u hu; simp at hu; rcases hu with rfl | rfl | rfl | rfl | rfl | rfl | rfl | rfl | rfl | rfl | rfl <;> rfl) (by omega) (by unfold maxLen; omega) (by omega) (by have:=HO.out.ok.bel.size; simp; omega) _ rfl ?_; intro g9 cap9 wg9 hown9 hgrow9 hat9 hlt9; have HQ:=Lib.hid ((HO.out.alloc_obj (.cells #[.int .u8 7,.int .u8 0,.int .i64 0,.string ⟨#[]⟩,.int .i64 0,.int .i64 0,.int .i64 0,.int .i64 0,.int .i64 0,.int .u8 fn,.int .i64 (k:Nat)] 39)).appended hown9 hgrow9 hat9); have HW9:=keep hown9; have HG9:=keep hgrow9; have HA9:=keep hat9; clear hown9 hgrow9 hat9; have F9:=HQ.out.ok.sees; simp only [sees,af,ac,aa,Nat.reduceAdd] at F9; obtain ⟨⟨⟨y0,y1⟩,y2,y3,y4,y5,y6,y7,-⟩,-⟩:=F9)
     first
      | go_end0
      | go_ret
      | refine bodyPost_ret (results_none rfl _ _ _) rfl ?_
     have h9:=(RSt.put HLN.out h1 H2.out HT.out (HO.out.alloc_obj _) (da fn k) HW9.out HG9.out HA9.out).tail
     first
      | exact ⟨rfl,h9⟩
      | (rw [List.append_assoc] at h9; exact ⟨rfl,h9⟩)
    have hR9:(⟨ic,nb++[nd],aqc,0,k⟩:Q).close S.size all fn (ta:Int)=R9:=HR9.out
    rw [B8 hk10 hr (by rw [hlk]; exact h46)] at hR9
    subst hR9
    clear HR9
    have hor:fn<46∨(46≤fn∧kn=2)∨(46≤fn∧kn≠2∧kn=3):=by omega
    clear h46 hlk
    rcases hor with h9 | ⟨h9,h8⟩ | ⟨h9,h8,h7⟩
    ·have a1i:¬ (46:Int)≤(fn:Int):=by omega
     clear h9
     have F6:=H35.out.sees
     simp only [sees,ac,aa,Nat.reduceAdd] at F6
     obtain ⟨zp,⟨z0,c00,c01,c02,c03,c04,c05,c06,c07,-⟩,-⟩:=F6
     obtain ⟨la,lc,tv,-,⟨x0,x1⟩,p0,p1,p2,p3,p4,p5⟩:=H35.out.cells
     go_upto_region 22 with fail
     clear x0 x1 p0 p1 p2 p3 p4 p5 c00 c01 c02 c03 c04 c05 c06 c07 zp z0
     have hst:=H35.out
     clear H35
     obtain ⟨h1,h2,la2,lc2,tv2,hT,hO⟩:=hst
     have HT:=keep hT
     have H2:=keep h2
     have HO:=Lib.hid hO
     have F8:=hO.ok.sees
     simp only [sees,af,ac,aa,Nat.reduceAdd] at F8
     obtain ⟨⟨⟨x0,x1⟩,p0,p1,p2,p3,p4,p5,-⟩,-⟩:=F8
     clear hO hT h2
     obtain ⟨ln,hln⟩:=ex ((nb++[nd]).length)
     have HLN:=keep hln
     have hln9:ln≤1001:=by omega
     rw [hln] at HO
     clear hln
     go_wp2_with (at_builtin; refine wpList_append_lies _ rfl _ _ _ rfl w1.heap.size 39 i0 _ 11 96 underlying22 hi9 hz0 hz1 hz2 rfl (by omega) _ _ _ rfl (HO.out.own.alloc _) ⟨W36.heap.size,0,none⟩ 1 1 [.int .u8 7,.int .u8 0,.int .i64 0,.string ⟨#[]⟩,.int .i64 0,.int .i64 0,.int .i64 0,.int .i64 0,.int .i64 0,.int .u8 fn,.int .i64 (k:Nat)] rfl rfl (World.news_of_block (cs:=#[.int .u8 7,.int .u8 0,.int .i64 0,.string ⟨#[]⟩,.int .i64 0,.int .i64 0,.int .i64 0,.int .i64 0,.int .i64 0,.int .u8 fn,.int .i64 (k:Nat)]) (t:=39) (fr:=(0,0)) (heap_alloc_new _ _)) (by intro u hu; simp at hu; rcases hu with rfl | rfl | rfl | rfl | rfl | rfl | rfl | rfl | rfl | rfl | rfl <;> rfl) (by omega) (by unfold maxLen; omega) (by omega) (by have:=HO.out.ok.bel.size; simp; omega) _ rfl ?_; intro g9 cap9 wg9 hown9 hgrow9 hat9 hlt9; have HQ:=Lib.hid ((HO.out.alloc_obj (.cells #[.int .u8 7,.int .u8 0,.int .i64 0,.string ⟨#[]⟩,.int .i64 0,.int .i64 0,.int .i64 0,.int .i64 0,.int .i64 0,.int .u8 fn,.int .i64 (k:Nat)] 39)).appended hown9 hgrow9 hat9); have HW9:=keep hown9; have HG9:=keep hgrow9; have HA9:=keep hat9; clear hown9 hgrow9 hat9; have F9:=HQ.out.ok.sees; simp only [sees,af,ac,aa,Nat.reduceAdd] at F9; obtain ⟨⟨⟨y0,y1⟩,y2,y3,y4,y5,y6,y7,-⟩,-⟩:=F9)
     first
      | go_end0
      | go_ret
      | refine bodyPost_ret (results_none rfl _ _ _) rfl ?_
     have h9:=(RSt.put HLN.out h1 H2.out HT.out (HO.out.alloc_obj _) (da fn k) HW9.out HG9.out HA9.out).tail
     first
      | exact ⟨rfl,h9⟩
      | (rw [List.append_assoc] at h9; exact ⟨rfl,h9⟩)
    ·have a1i:(46:Int)≤(fn:Int):=by omega
     have a2i:((kn:Int) != 2)=false:=by simp; omega
     clear h9 h8
     have F6:=H35.out.sees
     simp only [sees,ac,aa,Nat.reduceAdd] at F6
     obtain ⟨zp,⟨z0,c00,c01,c02,c03,c04,c05,c06,c07,-⟩,-⟩:=F6
     obtain ⟨la,lc,tv,-,⟨x0,x1⟩,p0,p1,p2,p3,p4,p5⟩:=H35.out.cells
     go_upto_region 22 with fail
     clear x0 x1 p0 p1 p2 p3 p4 p5 c00 c01 c02 c03 c04 c05 c06 c07 zp z0
     have hst:=H35.out
     clear H35
     obtain ⟨h1,h2,la2,lc2,tv2,hT,hO⟩:=hst
     have HT:=keep hT
     have H2:=keep h2
     have HO:=Lib.hid hO
     have F8:=hO.ok.sees
     simp only [sees,af,ac,aa,Nat.reduceAdd] at F8
     obtain ⟨⟨⟨x0,x1⟩,p0,p1,p2,p3,p4,p5,-⟩,-⟩:=F8
     clear hO hT h2
     obtain ⟨ln,hln⟩:=ex ((nb++[nd]).length)
     have HLN:=keep hln
     have hln9:ln≤1001:=by omega
     rw [hln] at HO
     clear hln
     go_wp2_with (at_builtin; refine wpList_append_lies _ rfl _ _ _ rfl w1.heap.size 39 i0 _ 11 96 underlying22 hi9 hz0 hz1 hz2 rfl (by omega) _ _ _ rfl (HO.out.own.alloc _) ⟨W36.heap.size,0,none⟩ 1 1 [.int .u8 7,.int .u8 0,.int .i64 0,.string ⟨#[]⟩,.int .i64 0,.int .i64 0,.int .i64 0,.int .i64 0,.int .i64 0,.int .u8 fn,.int .i64 (k:Nat)] rfl rfl (World.news_of_block (cs:=#[.int .u8 7,.int .u8 0,.int .i64 0,.string ⟨#[]⟩,.int .i64 0,.int .i64 0,.int .i64 0,.int .i64 0,.int .i64 0,.int .u8 fn,.int .i64 (k:Nat)]) (t:=39) (fr:=(0,0)) (heap_alloc_new _ _)) (by intro u hu; simp at hu; rcases hu with rfl | rfl | rfl | rfl | rfl | rfl | rfl | rfl | rfl | rfl | rfl <;> rfl) (by omega) (by unfold maxLen; omega) (by omega) (by have:=HO.out.ok.bel.size; simp; omega) _ rfl ?_; intro g9 cap9 wg9 hown9 hgrow9 hat9 hlt9; have HQ:=Lib.hid ((HO.out.alloc_obj (.cells #[.int .u8 7,.int .u8 0,.int .i64 0,.string ⟨#[]⟩,.int .i64 0,.int .i64 0,.int .i64 0,.int .i64 0,.int .i64 0,.int .u8 fn,.int .i64 (k:Nat)] 39)).appended hown9 hgrow9 hat9); have HW9:=keep hown9; have HG9:=keep hgrow9; have HA9:=keep hat9; clear hown9 hgrow9 hat9; have F9:=HQ.out.ok.sees; simp only [sees,af,ac,aa,Nat.reduceAdd] at F9; obtain ⟨⟨⟨y0,y1⟩,y2,y3,y4,y5,y6,y7,-⟩,-⟩:=F9)
     first
      | go_end0
      | go_ret
      | refine bodyPost_ret (results_none rfl _ _ _) rfl ?_
     have h9:=(RSt.put HLN.out h1 H2.out HT.out (HO.out.alloc_obj _) (da fn k) HW9.out HG9.out HA9.out).tail
     first
      | exact ⟨rfl,h9⟩
      | (rw [List.append_assoc] at h9; exact ⟨rfl,h9⟩)
    have a1i:(46:Int)≤(fn:Int):=by omega
    have a2i:((kn:Int) != 2)=true:=by simp; omega
    have a3i:((kn:Int) != 3)=false:=by simp; omega
    clear h9 h8 h7
    have F6:=H35.out.sees
    simp only [sees,ac,aa,Nat.reduceAdd] at F6
    obtain ⟨zp,⟨z0,c00,c01,c02,c03,c04,c05,c06,c07,-⟩,-⟩:=F6
    obtain ⟨la,lc,tv,-,⟨x0,x1⟩,p0,p1,p2,p3,p4,p5⟩:=H35.out.cells
    go_upto_region 22 with fail
    clear x0 x1 p0 p1 p2 p3 p4 p5 c00 c01 c02 c03 c04 c05 c06 c07 zp z0
    have hst:=H35.out
    clear H35
    obtain ⟨h1,h2,la2,lc2,tv2,hT,hO⟩:=hst
    have HT:=keep hT
    have H2:=keep h2
    have HO:=Lib.hid hO
    have F8:=hO.ok.sees
    simp only [sees,af,ac,aa,Nat.reduceAdd] at F8
    obtain ⟨⟨⟨x0,x1⟩,p0,p1,p2,p3,p4,p5,-⟩,-⟩:=F8
    clear hO hT h2
    obtain ⟨ln,hln⟩:=ex ((nb++[nd]).length)
    have HLN:=keep hln
    have hln9:ln≤1001:=by omega
    rw [hln] at HO
    clear hln
    go_wp2_with (at_builtin; refine wpList_append_lies _ rfl _ _ _ rfl w1.heap.size 39 i0 _ 11 96 underlying22 hi9 hz0 hz1 hz2 rfl (by omega) _ _ _ rfl (HO.out.own.alloc _) ⟨W36.heap.size,0,none⟩ 1 1 [.int .u8 7,.int .u8 0,.int .i64 0,.string ⟨#[]⟩,.int .i64 0,.int .i64 0,.int .i64 0,.int .i64 0,.int .i64 0,.int .u8 fn,.int .i64 (k:Nat)] rfl rfl (World.news_of_block (cs:=#[.int .u8 7,.int .u8 0,.int .i64 0,.string ⟨#[]⟩,.int .i64 0,.int .i64 0,.int .i64 0,.int .i64 0,.int .i64 0,.int .u8 fn,.int .i64 (k:Nat)]) (t:=39) (fr:=(0,0)) (heap_alloc_new _ _)) (by intro u hu; simp at hu; rcases hu with rfl | rfl | rfl | rfl | rfl | rfl | rfl | rfl | rfl | rfl | rfl <;> rfl) (by omega) (by unfold maxLen; omega) (by omega) (by have:=HO.out.ok.bel.size; simp; omega) _ rfl ?_; intro g9 cap9 wg9 hown9 hgrow9 hat9 hlt9; have HQ:=Lib.hid ((HO.out.alloc_obj (.cells #[.int .u8 7,.int .u8 0,.int .i64 0,.string ⟨#[]⟩,.int .i64 0,.int .i64 0,.int .i64 0,.int .i64 0,.int .i64 0,.int .u8 fn,.int .i64 (k:Nat)] 39)).appended hown9 hgrow9 hat9); have HW9:=keep hown9; have HG9:=keep hgrow9; have HA9:=keep hat9; clear hown9 hgrow9 hat9; have F9:=HQ.out.ok.sees; simp only [sees,af,ac,aa,Nat.reduceAdd] at F9; obtain ⟨⟨⟨y0,y1⟩,y2,y3,y4,y5,y6,y7,-⟩,-⟩:=F9)
    first
     | go_end0
     | go_ret
     | refine bodyPost_ret (results_none rfl _ _ _) rfl ?_
    have h9:=(RSt.put HLN.out h1 H2.out HT.out (HO.out.alloc_obj _) (da fn k) HW9.out HG9.out HA9.out).tail
    first
     | exact ⟨rfl,h9⟩
     | (rw [List.append_assoc] at h9; exact ⟨rfl,h9⟩)
   obtain ⟨hda,hhda⟩:∃ z:Int,((hdS S.size (all.drop ic)).at_:Int)=z:=⟨_,rfl⟩
   have hR9:(⟨ic,nsc,aqc,0,k⟩:Q).close S.size all fn (ta:Int)=R9:=HR9.out
   rw [Dd hk10,hhda] at hR9
   subst hR9
   clear HR9
   have HWB:=keep (fun W h9=>AP w1 (ac w.heap.size 97 [.int .u8 tk,.int .i64 tn,.string ⟨tt.toArray⟩,.int .i64 t1,.int .i64 t2,.int .i64 t3,.int .i64 t4,.int .i64 ta]::ps) pb S all (ic) (nsc) (aqc) 0 10 W hn (by omega) hs h9 hk10)
   rw [hhda] at HWB
   clear hhda
   have F6:=H10.out.sees
   simp only [sees,ac,aa,Nat.reduceAdd] at F6
   obtain ⟨zp,⟨z0,c00,c01,c02,c03,c04,c05,c06,c07,-⟩,-⟩:=F6
   obtain ⟨la,lc,tv,-,⟨x0,x1⟩,p0,p1,p2,p3,p4,p5⟩:=H10.out.cells
   go_wp2_with fail
   refine (HWB.out _ H10.out).mono ?_
   rintro e w39 ⟨rfl,hst⟩
   clear HWB x0 x1 p0 p1 p2 p3 p4 p5 c00 c01 c02 c03 c04 c05 c06 c07 zp z0
   have hst:RSt w1 _ pb S all (ic) (nsc) (hda) (4) w39:=hst
   have H40:=Lib.hid hst
   clear hst
   go_wp2_with fail
   refine (HAR.out _).mono ?_
   rintro e w41 ⟨rfl,hw⟩
   obtain rfl:w39=w41:=hw.symm
   have F6:=H40.out.sees
   simp only [sees,ac,aa,Nat.reduceAdd] at F6
   obtain ⟨zp,⟨z0,c00,c01,c02,c03,c04,c05,c06,c07,-⟩,-⟩:=F6
   obtain ⟨la,lc,tv,-,⟨x0,x1⟩,p0,p1,p2,p3,p4,p5⟩:=H40.out.cells
   by_cases hrl:k<lo
   ·have g1:((k:Nat):Int)<(lo:Int):=by omega
    go_wp2_with fail
    refine (zC w1 _ pb S all (ic) (nsc) (hda) (4) _ _ _ H40.out).mono ?_
    rintro e w42 ⟨rfl,hst⟩
    clear x0 x1 p0 p1 p2 p3 p4 p5 c00 c01 c02 c03 c04 c05 c06 c07 zp z0
    have hst:RSt w1 _ pb S all (ic) (nsc) (hda) (4) w42:=hst
    have H43:=Lib.hid hst
    clear hst
    have F6:=H43.out.sees
    simp only [sees,ac,aa,Nat.reduceAdd] at F6
    obtain ⟨zp,⟨z0,c00,c01,c02,c03,c04,c05,c06,c07,-⟩,-⟩:=F6
    obtain ⟨la,lc,tv,-,⟨x0,x1⟩,p0,p1,p2,p3,p4,p5⟩:=H43.out.cells
    go_wp2_with fail
    first
     | go_end0
     | go_ret
     | refine bodyPost_ret (results_none rfl _ _ _) rfl ?_
    exact ⟨rfl,H43.out.tail⟩
   have g1:¬ ((k:Nat):Int)<(lo:Int):=by omega
   by_cases hrh:hi0<k
   ·have g2:((k:Nat):Int)>(hi0:Int):=by omega
    go_wp2_with fail
    refine (zC w1 _ pb S all (ic) (nsc) (hda) (4) _ _ _ H40.out).mono ?_
    rintro e w44 ⟨rfl,hst⟩
    clear x0 x1 p0 p1 p2 p3 p4 p5 c00 c01 c02 c03 c04 c05 c06 c07 zp z0
    have hst:RSt w1 _ pb S all (ic) (nsc) (hda) (4) w44:=hst
    have H45:=Lib.hid hst
    clear hst
    have F6:=H45.out.sees
    simp only [sees,ac,aa,Nat.reduceAdd] at F6
    obtain ⟨zp,⟨z0,c00,c01,c02,c03,c04,c05,c06,c07,-⟩,-⟩:=F6
    obtain ⟨la,lc,tv,-,⟨x0,x1⟩,p0,p1,p2,p3,p4,p5⟩:=H45.out.cells
    go_wp2_with fail
    first
     | go_end0
     | go_ret
     | refine bodyPost_ret (results_none rfl _ _ _) rfl ?_
    exact ⟨rfl,H45.out.tail⟩
   have g2:¬ ((k:Nat):Int)>(hi0:Int):=by omega
   go_wp2_with fail
   first
    | go_end0
    | go_ret
    | refine bodyPost_ret (results_none rfl _ _ _) rfl ?_
   exact ⟨rfl,H40.out.tail⟩
  rw [if_neg (fun h9=>hc0 h9.1)] at hq
  subst hq
  have hR9:(⟨ic,nsc,aqc,cc,k⟩:Q).close S.size all fn (ta:Int)=R9:=HR9.out
  rw [AJ hc0] at hR9
  subst hR9
  clear HR9
  have hcb:((cc:Int) == 0)=false:=by simpa using hc0
  have hcb2:((cc:Int) != 0)=true:=by simpa using hc0
  have F6:=HRd.out.sees
  simp only [sees,ac,aa,Nat.reduceAdd] at F6
  obtain ⟨zp,⟨z0,c00,c01,c02,c03,c04,c05,c06,c07,-⟩,-⟩:=F6
  obtain ⟨la,lc,tv,-,⟨x0,x1⟩,p0,p1,p2,p3,p4,p5⟩:=HRd.out.cells
  go_wp2_with fail
  first
   | go_end0
   | go_ret
   | refine bodyPost_ret (results_none rfl _ _ _) rfl ?_
  exact ⟨rfl,HRd.out.tail⟩
