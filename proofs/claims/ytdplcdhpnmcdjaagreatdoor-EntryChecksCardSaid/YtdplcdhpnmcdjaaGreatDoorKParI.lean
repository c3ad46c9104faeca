/- The parser's primary; all methods by induction on the fuel. -/
import Derived.Test.YtdplcdhpnmcdjaaGreatDoorKParH
import Derived.Test.YtdplcdhpnmcdjaaGreatDoorKTg
namespace Go.Proofs.YtdplcdhpnmcdjaaGreatDoor
set_option maxRecDepth 100000
set_option maxHeartbeats 4000000
open Go.RowKit Go.Proofs.Tryz
theorem ve {e f:Nat} {t:Tk} {ts:List Tk} {r:Rs} (h7:t.kind=7) (h:ap e (f+1) .pr (t::ts)=some r):qW e f t ts=some r:=by
 rw [ap,if_neg (by omega),if_neg (by omega),if_neg (by omega),if_pos h7] at h
 exact h
theorem ql (f:Nat) (IH:∀ g,g≤f→Con g) (w1:World) (ps:List aS) (pb en:Nat) (ts:List Tk) (r:Rs) (ns:List Nd) (w:World) (hr:ap en (f+1) .pr ts=some r) (hn:ns.length+ts.length≤1000) (h:St w1 ps pb en ts ns w) :
  Calls prog 216 #[.pointer (some ⟨pb,0,none⟩)] w (fh w1 ps pb en (cB ns r)):=by
 have H:=Lib.hid h
 clear h
 cases ts with
 | nil =>
  rw [ap] at hr
  simp only [Option.some.injEq] at hr
  subst hr
  go_enter func216,ntmps216
  go_wp2_with fail
  refine cMg (aX w1 _ pb en [] ns _ H.out) (fun _=>H.out.below) fun wa1 H3=>?_
  clear H
  simp only [hdS,tkA]
  go_upto_region 1 with fail
  have H4:=Lib.hid (H3.out.alloc 97 [.int .u8 ((0:Nat):Int),.int .i64 0,.string ⟨([]:List UInt8).toArray⟩,.int .i64 R4.zero.c1,.int .i64 R4.zero.r1,.int .i64 R4.zero.c2,.int .i64 R4.zero.r2,.int .i64 (en:Int)])
  clear H3
  have H4a:Hid (St w1 (ac wa1.heap.size 97 [.int .u8 ((0:Nat):Int),.int .i64 0,.string ⟨([]:List UInt8).toArray⟩,.int .i64 R4.zero.c1,.int .i64 R4.zero.r1,.int .i64 R4.zero.c2,.int .i64 R4.zero.r2,.int .i64 (en:Int)]::ps) pb en [] ns (wa1.alloc (.cells #[.int .u8 ((0:Nat):Int),.int .i64 0,.string ⟨([]:List UInt8).toArray⟩,.int .i64 R4.zero.c1,.int .i64 R4.zero.r1,.int .i64 R4.zero.c2,.int .i64 R4.zero.r2,.int .i64 (en:Int)] 97))):=H4
  clear H4
  generalize (wa1.alloc (.cells #[.int .u8 ((0:Nat):Int),.int .i64 0,.string ⟨([]:List UInt8).toArray⟩,.int .i64 R4.zero.c1,.int .i64 R4.zero.r1,.int .i64 R4.zero.c2,.int .i64 R4.zero.r2,.int .i64 (en:Int)] 97))=Wa5 at H4a ⊢
  have F6:=H4a.out.sees
  simp only [sees,ac,aa,Nat.reduceAdd] at F6
  obtain ⟨zp,⟨z0,c00,c01,c02,c03,c04,c05,c06,c07,-⟩,-⟩:=F6
  go_wp2_with fail
  refine (dO w1 pb _ _ _ H4a.out.bel).mono ?_
  rintro e wz ⟨rfl,hb⟩
  have HZ:=Lib.hid hb
  clear hb
  go_wp2_with fail
  exact ⟨rfl,rfl,HZ.out⟩
 | cons t0 ts =>
  obtain ⟨tk,tn,tt,⟨t1,t2,t3,t4⟩,ta⟩:=t0
  simp only [List.length_cons] at hn
  rcases (show tk=1∨tk=2∨tk=3∨tk=4∨tk=5∨tk=9∨tk=7∨(tk≠1∧tk≠2∧tk≠3∧tk≠4∧tk≠5∧tk≠9∧tk≠7) by omega) with rfl | rfl | rfl | rfl | rfl | rfl | rfl | ⟨k1,k2,k3,k4,k5,k9,k7⟩
  ·rw [ap,if_pos (by simp)] at hr
   simp only [Option.some.injEq] at hr
   subst hr
   go_enter func216,ntmps216
   go_wp2_with fail
   refine cMg (aX w1 _ pb en _ ns _ H.out) (fun _=>H.out.below) fun wa1 H3=>?_
   clear H
   simp only [hdS,tkA]
   go_upto_region 1 with fail
   have H4:=Lib.hid (H3.out.alloc 97 [.int .u8 ((1:Nat):Int),.int .i64 tn,.string ⟨tt.toArray⟩,.int .i64 t1,.int .i64 t2,.int .i64 t3,.int .i64 t4,.int .i64 ta])
   clear H3
   have H4a:Hid (St w1 (ac wa1.heap.size 97 [.int .u8 ((1:Nat):Int),.int .i64 tn,.string ⟨tt.toArray⟩,.int .i64 t1,.int .i64 t2,.int .i64 t3,.int .i64 t4,.int .i64 ta]::ps) pb en (⟨1,tn,tt,⟨t1,t2,t3,t4⟩,ta⟩::ts) ns (wa1.alloc (.cells #[.int .u8 ((1:Nat):Int),.int .i64 tn,.string ⟨tt.toArray⟩,.int .i64 t1,.int .i64 t2,.int .i64 t3,.int .i64 t4,.int .i64 ta] 97))):=H4
   clear H4
   generalize (wa1.alloc (.cells #[.int .u8 ((1:Nat):Int),.int .i64 tn,.string ⟨tt.toArray⟩,.int .i64 t1,.int .i64 t2,.int .i64 t3,.int .i64 t4,.int .i64 ta] 97))=Wa5 at H4a ⊢
   have F6:=H4a.out.sees
   simp only [sees,ac,aa,Nat.reduceAdd] at F6
   obtain ⟨zp,⟨z0,c00,c01,c02,c03,c04,c05,c06,c07,-⟩,-⟩:=F6
   go_wp2_with fail
   refine (ja w1 _ pb en _ ts _ 1 tn [] _ (by omega) H4a.out).mono ?_
   rintro e wa7 ⟨rfl,hd9⟩
   clear zp z0 c00 c01 c02 c03 c04 c05 c06 c07
   have H8:=Lib.hid hd9
   clear hd9 H4a
   have F9:=H8.out.sees
   simp only [sees,ac,aa,Nat.reduceAdd] at F9
   obtain ⟨zp,⟨z0,c00,c01,c02,c03,c04,c05,c06,c07,-⟩,-⟩:=F9
   go_wp2_with fail
   first
    | go_end0
    | refine bodyPost_ret (results_none rfl _ _ _) rfl ?_
   exact ⟨rfl,H8.out.tail⟩
  ·rw [ap,if_pos (by simp)] at hr
   simp only [Option.some.injEq] at hr
   subst hr
   go_enter func216,ntmps216
   go_wp2_with fail
   refine cMg (aX w1 _ pb en _ ns _ H.out) (fun _=>H.out.below) fun wa1 H3=>?_
   clear H
   simp only [hdS,tkA]
   go_upto_region 1 with fail
   have H4:=Lib.hid (H3.out.alloc 97 [.int .u8 ((2:Nat):Int),.int .i64 tn,.string ⟨tt.toArray⟩,.int .i64 t1,.int .i64 t2,.int .i64 t3,.int .i64 t4,.int .i64 ta])
   clear H3
   have H4a:Hid (St w1 (ac wa1.heap.size 97 [.int .u8 ((2:Nat):Int),.int .i64 tn,.string ⟨tt.toArray⟩,.int .i64 t1,.int .i64 t2,.int .i64 t3,.int .i64 t4,.int .i64 ta]::ps) pb en (⟨2,tn,tt,⟨t1,t2,t3,t4⟩,ta⟩::ts) ns (wa1.alloc (.cells #[.int .u8 ((2:Nat):Int),.int .i64 tn,.string ⟨tt.toArray⟩,.int .i64 t1,.int .i64 t2,.int .i64 t3,.int .i64 t4,.int .i64 ta] 97))):=H4
   clear H4
   generalize (wa1.alloc (.cells #[.int .u8 ((2:Nat):Int),.int .i64 tn,.string ⟨tt.toArray⟩,.int .i64 t1,.int .i64 t2,.int .i64 t3,.int .i64 t4,.int .i64 ta] 97))=Wa5 at H4a ⊢
   have F6:=H4a.out.sees
   simp only [sees,ac,aa,Nat.reduceAdd] at F6
   obtain ⟨zp,⟨z0,c00,c01,c02,c03,c04,c05,c06,c07,-⟩,-⟩:=F6
   go_wp2_with fail
   refine (ja w1 _ pb en _ ts _ 3 0 tt _ (by omega) H4a.out).mono ?_
   rintro e wa7 ⟨rfl,hd9⟩
   clear zp z0 c00 c01 c02 c03 c04 c05 c06 c07
   have H8:=Lib.hid hd9
   clear hd9 H4a
   have F9:=H8.out.sees
   simp only [sees,ac,aa,Nat.reduceAdd] at F9
   obtain ⟨zp,⟨z0,c00,c01,c02,c03,c04,c05,c06,c07,-⟩,-⟩:=F9
   go_wp2_with fail
   first
    | go_end0
    | refine bodyPost_ret (results_none rfl _ _ _) rfl ?_
   exact ⟨rfl,H8.out.tail⟩
  ·rw [ap,if_pos (by simp)] at hr
   simp only [Option.some.injEq] at hr
   subst hr
   go_enter func216,ntmps216
   go_wp2_with fail
   refine cMg (aX w1 _ pb en _ ns _ H.out) (fun _=>H.out.below) fun wa1 H3=>?_
   clear H
   simp only [hdS,tkA]
   go_upto_region 1 with fail
   have H4:=Lib.hid (H3.out.alloc 97 [.int .u8 ((3:Nat):Int),.int .i64 tn,.string ⟨tt.toArray⟩,.int .i64 t1,.int .i64 t2,.int .i64 t3,.int .i64 t4,.int .i64 ta])
   clear H3
   have H4a:Hid (St w1 (ac wa1.heap.size 97 [.int .u8 ((3:Nat):Int),.int .i64 tn,.string ⟨tt.toArray⟩,.int .i64 t1,.int .i64 t2,.int .i64 t3,.int .i64 t4,.int .i64 ta]::ps) pb en (⟨3,tn,tt,⟨t1,t2,t3,t4⟩,ta⟩::ts) ns (wa1.alloc (.cells #[.int .u8 ((3:Nat):Int),.int .i64 tn,.string ⟨tt.toArray⟩,.int .i64 t1,.int .i64 t2,.int .i64 t3,.int .i64 t4,.int .i64 ta] 97))):=H4
   clear H4
   generalize (wa1.alloc (.cells #[.int .u8 ((3:Nat):Int),.int .i64 tn,.string ⟨tt.toArray⟩,.int .i64 t1,.int .i64 t2,.int .i64 t3,.int .i64 t4,.int .i64 ta] 97))=Wa5 at H4a ⊢
   have F6:=H4a.out.sees
   simp only [sees,ac,aa,Nat.reduceAdd] at F6
   obtain ⟨zp,⟨z0,c00,c01,c02,c03,c04,c05,c06,c07,-⟩,-⟩:=F6
   go_wp2_with fail
   refine (ja w1 _ pb en _ ts _ 2 tn [] _ (by omega) H4a.out).mono ?_
   rintro e wa7 ⟨rfl,hd9⟩
   clear zp z0 c00 c01 c02 c03 c04 c05 c06 c07
   have H8:=Lib.hid hd9
   clear hd9 H4a
   have F9:=H8.out.sees
   simp only [sees,ac,aa,Nat.reduceAdd] at F9
   obtain ⟨zp,⟨z0,c00,c01,c02,c03,c04,c05,c06,c07,-⟩,-⟩:=F9
   go_wp2_with fail
   first
    | go_end0
    | refine bodyPost_ret (results_none rfl _ _ _) rfl ?_
   exact ⟨rfl,H8.out.tail⟩
  ·rw [ap,if_pos (by simp)] at hr
   simp only [Option.some.injEq] at hr
   subst hr
   go_enter func216,ntmps216
   go_wp2_with fail
   refine cMg (aX w1 _ pb en _ ns _ H.out) (fun _=>H.out.below) fun wa1 H3=>?_
   clear H
   simp only [hdS,tkA]
   go_upto_region 1 with fail
   have H4:=Lib.hid (H3.out.alloc 97 [.int .u8 ((4:Nat):Int),.int .i64 tn,.string ⟨tt.toArray⟩,.int .i64 t1,.int .i64 t2,.int .i64 t3,.int .i64 t4,.int .i64 ta])
   clear H3
   have H4a:Hid (St w1 (ac wa1.heap.size 97 [.int .u8 ((4:Nat):Int),.int .i64 tn,.string ⟨tt.toArray⟩,.int .i64 t1,.int .i64 t2,.int .i64 t3,.int .i64 t4,.int .i64 ta]::ps) pb en (⟨4,tn,tt,⟨t1,t2,t3,t4⟩,ta⟩::ts) ns (wa1.alloc (.cells #[.int .u8 ((4:Nat):Int),.int .i64 tn,.string ⟨tt.toArray⟩,.int .i64 t1,.int .i64 t2,.int .i64 t3,.int .i64 t4,.int .i64 ta] 97))):=H4
   clear H4
   generalize (wa1.alloc (.cells #[.int .u8 ((4:Nat):Int),.int .i64 tn,.string ⟨tt.toArray⟩,.int .i64 t1,.int .i64 t2,.int .i64 t3,.int .i64 t4,.int .i64 ta] 97))=Wa5 at H4a ⊢
   have F6:=H4a.out.sees
   simp only [sees,ac,aa,Nat.reduceAdd] at F6
   obtain ⟨zp,⟨z0,c00,c01,c02,c03,c04,c05,c06,c07,-⟩,-⟩:=F6
   go_wp2_with fail
   refine (ja w1 _ pb en _ ts _ 4 tn [] _ (by omega) H4a.out).mono ?_
   rintro e wa7 ⟨rfl,hd9⟩
   clear zp z0 c00 c01 c02 c03 c04 c05 c06 c07
   have H8:=Lib.hid hd9
   clear hd9 H4a
   have F9:=H8.out.sees
   simp only [sees,ac,aa,Nat.reduceAdd] at F9
   obtain ⟨zp,⟨z0,c00,c01,c02,c03,c04,c05,c06,c07,-⟩,-⟩:=F9
   go_wp2_with fail
   first
    | go_end0
    | refine bodyPost_ret (results_none rfl _ _ _) rfl ?_
   exact ⟨rfl,H8.out.tail⟩
  ·rw [ap,if_neg (by simp),if_pos rfl] at hr
   simp only [Option.some.injEq] at hr
   subst hr
   go_enter func216,ntmps216
   go_wp2_with fail
   refine cMg (aX w1 _ pb en _ ns _ H.out) (fun _=>H.out.below) fun wa1 H3=>?_
   clear H
   simp only [hdS,tkA]
   go_upto_region 1 with fail
   have H4:=Lib.hid (H3.out.alloc 97 [.int .u8 ((5:Nat):Int),.int .i64 tn,.string ⟨tt.toArray⟩,.int .i64 t1,.int .i64 t2,.int .i64 t3,.int .i64 t4,.int .i64 ta])
   clear H3
   have H4a:Hid (St w1 (ac wa1.heap.size 97 [.int .u8 ((5:Nat):Int),.int .i64 tn,.string ⟨tt.toArray⟩,.int .i64 t1,.int .i64 t2,.int .i64 t3,.int .i64 t4,.int .i64 ta]::ps) pb en (⟨5,tn,tt,⟨t1,t2,t3,t4⟩,ta⟩::ts) ns (wa1.alloc (.cells #[.int .u8 ((5:Nat):Int),.int .i64 tn,.string ⟨tt.toArray⟩,.int .i64 t1,.int .i64 t2,.int .i64 t3,.int .i64 t4,.int .i64 ta] 97))):=H4
   clear H4
   generalize (wa1.alloc (.cells #[.int .u8 ((5:Nat):Int),.int .i64 tn,.string ⟨tt.toArray⟩,.int .i64 t1,.int .i64 t2,.int .i64 t3,.int .i64 t4,.int .i64 ta] 97))=Wa5 at H4a ⊢
   have F6:=H4a.out.sees
   simp only [sees,ac,aa,Nat.reduceAdd] at F6
   obtain ⟨zp,⟨z0,c00,c01,c02,c03,c04,c05,c06,c07,-⟩,-⟩:=F6
   go_wp2_with fail
   refine (bF w1 _ pb en _ ts _ _ H4a.out).mono ?_
   rintro e wa7 ⟨rfl,hd9⟩
   clear zp z0 c00 c01 c02 c03 c04 c05 c06 c07
   have H8:=Lib.hid hd9
   clear hd9 H4a
   have F9:=H8.out.sees
   simp only [sees,ac,aa,Nat.reduceAdd] at F9
   obtain ⟨zp,⟨z0,c00,c01,c02,c03,c04,c05,c06,c07,-⟩,-⟩:=F9
   go_wp2_with fail
   refine (fB w1 _ pb en ts _ (eu ⟨t1,t2,t3,t4⟩) _ (by omega) H8.out).mono ?_
   rintro e wa10 ⟨rfl,hd9⟩
   clear zp z0 c00 c01 c02 c03 c04 c05 c06 c07
   have H11:=Lib.hid hd9
   clear hd9 H8
   have F12:=H11.out.sees
   simp only [sees,ac,aa,Nat.reduceAdd] at F12
   obtain ⟨zp,⟨z0,c00,c01,c02,c03,c04,c05,c06,c07,-⟩,-⟩:=F12
   go_wp2_with fail
   first
    | go_end0
    | refine bodyPost_ret (results_none rfl _ _ _) rfl ?_
   exact ⟨rfl,H11.out.tail⟩
  ·rw [ap,if_neg (by simp),if_neg (by simp),if_pos rfl] at hr
   rcases ce hr with ⟨a,c,h1,rfl⟩ | ⟨ts1,ns1,n1,q,h1,h2,rfl⟩
   ·have HC:=keep (fun ps w hs=>eA w1 ps pb en _ w (lh IH (k:=1) (Nat.le_refl _) (by omega) (w1:=w1) (ps:=ps) (pb:=pb) (w:=w) (ns:=ns) h1 (by omega) hs))
    clear h1 hr
    go_enter func216,ntmps216
    go_wp2_with fail
    refine cMg (aX w1 _ pb en _ ns _ H.out) (fun _=>H.out.below) fun wa1 H3=>?_
    clear H
    simp only [hdS,tkA]
    go_upto_region 1 with fail
    have H4:=Lib.hid (H3.out.alloc 97 [.int .u8 ((9:Nat):Int),.int .i64 tn,.string ⟨tt.toArray⟩,.int .i64 t1,.int .i64 t2,.int .i64 t3,.int .i64 t4,.int .i64 ta])
    clear H3
    have H4a:Hid (St w1 (ac wa1.heap.size 97 [.int .u8 ((9:Nat):Int),.int .i64 tn,.string ⟨tt.toArray⟩,.int .i64 t1,.int .i64 t2,.int .i64 t3,.int .i64 t4,.int .i64 ta]::ps) pb en (⟨9,tn,tt,⟨t1,t2,t3,t4⟩,ta⟩::ts) ns (wa1.alloc (.cells #[.int .u8 ((9:Nat):Int),.int .i64 tn,.string ⟨tt.toArray⟩,.int .i64 t1,.int .i64 t2,.int .i64 t3,.int .i64 t4,.int .i64 ta] 97))):=H4
    clear H4
    generalize (wa1.alloc (.cells #[.int .u8 ((9:Nat):Int),.int .i64 tn,.string ⟨tt.toArray⟩,.int .i64 t1,.int .i64 t2,.int .i64 t3,.int .i64 t4,.int .i64 ta] 97))=Wa5 at H4a ⊢
    have F6:=H4a.out.sees
    simp only [sees,ac,aa,Nat.reduceAdd] at F6
    obtain ⟨zp,⟨z0,c00,c01,c02,c03,c04,c05,c06,c07,-⟩,-⟩:=F6
    go_wp2_with fail
    refine (bF w1 _ pb en _ ts _ _ H4a.out).mono ?_
    rintro e wa7 ⟨rfl,hd9⟩
    clear zp z0 c00 c01 c02 c03 c04 c05 c06 c07
    have H8:=Lib.hid hd9
    clear hd9 H4a
    have F9:=H8.out.sees
    simp only [sees,ac,aa,Nat.reduceAdd] at F9
    obtain ⟨zp,⟨z0,c00,c01,c02,c03,c04,c05,c06,c07,-⟩,-⟩:=F9
    go_wp2_with fail
    refine (HC.out _ _ H8.out).mono ?_
    rintro e wz ⟨rfl,hb⟩
    have HZ:=Lib.hid hb
    clear hb
    go_wp2_with fail
    exact ⟨rfl,rfl,HZ.out⟩
   by_cases h10:(hdS en ts1).kind=10
   ·rw [if_pos h10] at h2
    simp only [Option.some.injEq] at h2
    subst h2
    have KH:=keep h10
    clear h10
    have HC:=keep (fun ps w hs=>eA w1 ps pb en _ w (lh IH (k:=1) (Nat.le_refl _) (by omega) (w1:=w1) (ps:=ps) (pb:=pb) (w:=w) (ns:=ns) h1 (by omega) hs))
    clear h1 hr
    go_enter func216,ntmps216
    go_wp2_with fail
    refine cMg (aX w1 _ pb en _ ns _ H.out) (fun _=>H.out.below) fun wa1 H3=>?_
    clear H
    simp only [hdS,tkA]
    go_upto_region 1 with fail
    have H4:=Lib.hid (H3.out.alloc 97 [.int .u8 ((9:Nat):Int),.int .i64 tn,.string ⟨tt.toArray⟩,.int .i64 t1,.int .i64 t2,.int .i64 t3,.int .i64 t4,.int .i64 ta])
    clear H3
    have H4a:Hid (St w1 (ac wa1.heap.size 97 [.int .u8 ((9:Nat):Int),.int .i64 tn,.string ⟨tt.toArray⟩,.int .i64 t1,.int .i64 t2,.int .i64 t3,.int .i64 t4,.int .i64 ta]::ps) pb en (⟨9,tn,tt,⟨t1,t2,t3,t4⟩,ta⟩::ts) ns (wa1.alloc (.cells #[.int .u8 ((9:Nat):Int),.int .i64 tn,.string ⟨tt.toArray⟩,.int .i64 t1,.int .i64 t2,.int .i64 t3,.int .i64 t4,.int .i64 ta] 97))):=H4
    clear H4
    generalize (wa1.alloc (.cells #[.int .u8 ((9:Nat):Int),.int .i64 tn,.string ⟨tt.toArray⟩,.int .i64 t1,.int .i64 t2,.int .i64 t3,.int .i64 t4,.int .i64 ta] 97))=Wa5 at H4a ⊢
    have F6:=H4a.out.sees
    simp only [sees,ac,aa,Nat.reduceAdd] at F6
    obtain ⟨zp,⟨z0,c00,c01,c02,c03,c04,c05,c06,c07,-⟩,-⟩:=F6
    go_wp2_with fail
    refine (bF w1 _ pb en _ ts _ _ H4a.out).mono ?_
    rintro e wa7 ⟨rfl,hd9⟩
    clear zp z0 c00 c01 c02 c03 c04 c05 c06 c07
    have H8:=Lib.hid hd9
    clear hd9 H4a
    have F9:=H8.out.sees
    simp only [sees,ac,aa,Nat.reduceAdd] at F9
    obtain ⟨zp,⟨z0,c00,c01,c02,c03,c04,c05,c06,c07,-⟩,-⟩:=F9
    go_wp2_with fail
    refine (HC.out _ _ H8.out).mono ?_
    rintro e wa10 ⟨rfl,hd9⟩
    clear zp z0 c00 c01 c02 c03 c04 c05 c06 c07
    have H11:=Lib.hid hd9
    clear hd9 H8
    have F12:=H11.out.sees
    simp only [sees,ac,aa,Nat.reduceAdd] at F12
    obtain ⟨zp,⟨z0,c00,c01,c02,c03,c04,c05,c06,c07,-⟩,-⟩:=F12
    clear HC
    go_wp2_with fail
    refine (iw w1 _ pb en ts1 _ 10 _ H11.out KH.out (by decide)).mono ?_
    rintro e wa13 ⟨rfl,hd9⟩
    clear zp z0 c00 c01 c02 c03 c04 c05 c06 c07
    have H14:=Lib.hid hd9
    clear hd9 H11
    have F15:=H14.out.sees
    simp only [sees,ac,aa,Nat.reduceAdd] at F15
    obtain ⟨zp,⟨z0,c00,c01,c02,c03,c04,c05,c06,c07,-⟩,-⟩:=F15
    go_wp2_with fail
    first
     | go_end0
     | refine bodyPost_ret (results_none rfl _ _ _) rfl ?_
    exact ⟨rfl,by rw [List.append_nil]; exact H14.out.tail⟩
   rw [if_neg h10] at h2
   simp only [Option.some.injEq] at h2
   subst h2
   have KH:=keep h10
   clear h10
   have HC:=keep (fun ps w hs=>eA w1 ps pb en _ w (lh IH (k:=1) (Nat.le_refl _) (by omega) (w1:=w1) (ps:=ps) (pb:=pb) (w:=w) (ns:=ns) h1 (by omega) hs))
   clear h1 hr
   go_enter func216,ntmps216
   go_wp2_with fail
   refine cMg (aX w1 _ pb en _ ns _ H.out) (fun _=>H.out.below) fun wa1 H3=>?_
   clear H
   simp only [hdS,tkA]
   go_upto_region 1 with fail
   have H4:=Lib.hid (H3.out.alloc 97 [.int .u8 ((9:Nat):Int),.int .i64 tn,.string ⟨tt.toArray⟩,.int .i64 t1,.int .i64 t2,.int .i64 t3,.int .i64 t4,.int .i64 ta])
   clear H3
   have H4a:Hid (St w1 (ac wa1.heap.size 97 [.int .u8 ((9:Nat):Int),.int .i64 tn,.string ⟨tt.toArray⟩,.int .i64 t1,.int .i64 t2,.int .i64 t3,.int .i64 t4,.int .i64 ta]::ps) pb en (⟨9,tn,tt,⟨t1,t2,t3,t4⟩,ta⟩::ts) ns (wa1.alloc (.cells #[.int .u8 ((9:Nat):Int),.int .i64 tn,.string ⟨tt.toArray⟩,.int .i64 t1,.int .i64 t2,.int .i64 t3,.int .i64 t4,.int .i64 ta] 97))):=H4
   clear H4
   generalize (wa1.alloc (.cells #[.int .u8 ((9:Nat):Int),.int .i64 tn,.string ⟨tt.toArray⟩,.int .i64 t1,.int .i64 t2,.int .i64 t3,.int .i64 t4,.int .i64 ta] 97))=Wa5 at H4a ⊢
   have F6:=H4a.out.sees
   simp only [sees,ac,aa,Nat.reduceAdd] at F6
   obtain ⟨zp,⟨z0,c00,c01,c02,c03,c04,c05,c06,c07,-⟩,-⟩:=F6
   go_wp2_with fail
   refine (bF w1 _ pb en _ ts _ _ H4a.out).mono ?_
   rintro e wa7 ⟨rfl,hd9⟩
   clear zp z0 c00 c01 c02 c03 c04 c05 c06 c07
   have H8:=Lib.hid hd9
   clear hd9 H4a
   have F9:=H8.out.sees
   simp only [sees,ac,aa,Nat.reduceAdd] at F9
   obtain ⟨zp,⟨z0,c00,c01,c02,c03,c04,c05,c06,c07,-⟩,-⟩:=F9
   go_wp2_with fail
   refine (HC.out _ _ H8.out).mono ?_
   rintro e wa10 ⟨rfl,hd9⟩
   clear zp z0 c00 c01 c02 c03 c04 c05 c06 c07
   have H11:=Lib.hid hd9
   clear hd9 H8
   have F12:=H11.out.sees
   simp only [sees,ac,aa,Nat.reduceAdd] at F12
   obtain ⟨zp,⟨z0,c00,c01,c02,c03,c04,c05,c06,c07,-⟩,-⟩:=F12
   clear HC
   go_wp2_with fail
   refine (jH w1 _ pb en ts1 _ 10 _ H11.out KH.out).mono ?_
   rintro e wz ⟨rfl,hb⟩
   have HZ:=Lib.hid hb
   clear hb
   go_wp2_with fail
   exact ⟨rfl,rfl,HZ.out⟩
  ·have hcx:=ve rfl hr
   have HC:=keep (fun ps w hs=>wW f IH w1 ps pb en ⟨7,tn,tt,⟨t1,t2,t3,t4⟩,ta⟩ ts r ns w hcx (by simp; omega) hs)
   clear hcx hr
   go_enter func216,ntmps216
   go_wp2_with fail
   refine cMg (aX w1 _ pb en _ ns _ H.out) (fun _=>H.out.below) fun wa1 H3=>?_
   clear H
   simp only [hdS,tkA]
   go_upto_region 1 with fail
   have H4:=Lib.hid (H3.out.alloc 97 [.int .u8 ((7:Nat):Int),.int .i64 tn,.string ⟨tt.toArray⟩,.int .i64 t1,.int .i64 t2,.int .i64 t3,.int .i64 t4,.int .i64 ta])
   clear H3
   have H4a:Hid (St w1 (ac wa1.heap.size 97 [.int .u8 ((7:Nat):Int),.int .i64 tn,.string ⟨tt.toArray⟩,.int .i64 t1,.int .i64 t2,.int .i64 t3,.int .i64 t4,.int .i64 ta]::ps) pb en (⟨7,tn,tt,⟨t1,t2,t3,t4⟩,ta⟩::ts) ns (wa1.alloc (.cells #[.int .u8 ((7:Nat):Int),.int .i64 tn,.string ⟨tt.toArray⟩,.int .i64 t1,.int .i64 t2,.int .i64 t3,.int .i64 t4,.int .i64 ta] 97))):=H4
   clear H4
   generalize (wa1.alloc (.cells #[.int .u8 ((7:Nat):Int),.int .i64 tn,.string ⟨tt.toArray⟩,.int .i64 t1,.int .i64 t2,.int .i64 t3,.int .i64 t4,.int .i64 ta] 97))=Wa5 at H4a ⊢
   have F6:=H4a.out.sees
   simp only [sees,ac,aa,Nat.reduceAdd] at F6
   obtain ⟨zp,⟨z0,c00,c01,c02,c03,c04,c05,c06,c07,-⟩,-⟩:=F6
   go_wp2_with fail
   refine (HC.out _ _ H4a.out).mono ?_
   intro e w9 hp
   clear HC
   cases r with
   | bad a c =>
    obtain ⟨rfl,hz⟩:=hp
    have HZ:=Lib.hid hz
    clear hz
    go_wp2_with fail
    exact ⟨rfl,rfl,HZ.out⟩
   | ok ts9 ns9 n9 =>
    obtain ⟨rfl,hz⟩:=hp
    have HZ:=Lib.hid hz
    clear hz
    go_wp2_with fail
    first
     | go_end0
     | refine bodyPost_ret (results_none rfl _ _ _) rfl ?_
    exact ⟨rfl,HZ.out.tail⟩
  rw [ap,if_neg (by simp only []; omega),if_neg k5,if_neg k9,if_neg k7] at hr
  simp only [Option.some.injEq] at hr
  subst hr
  have b1:((tk:Int) == 1)=false:=by simp; omega
  have b2:((tk:Int) == 2)=false:=by simp; omega
  have b3:((tk:Int) == 3)=false:=by simp; omega
  have b4:((tk:Int) == 4)=false:=by simp; omega
  have b5:((tk:Int) == 5)=false:=by simp; omega
  have b9:((tk:Int) == 9)=false:=by simp; omega
  have b7:((tk:Int) == 7)=false:=by simp; omega
  clear k1 k2 k3 k4 k5 k9 k7
  go_enter func216,ntmps216
  go_wp2_with fail
  refine cMg (aX w1 _ pb en _ ns _ H.out) (fun _=>H.out.below) fun wa1 H3=>?_
  clear H
  simp only [hdS,tkA]
  go_upto_region 1 with fail
  have H4:=Lib.hid (H3.out.alloc 97 [.int .u8 tk,.int .i64 tn,.string ⟨tt.toArray⟩,.int .i64 t1,.int .i64 t2,.int .i64 t3,.int .i64 t4,.int .i64 ta])
  clear H3
  have H4a:Hid (St w1 (ac wa1.heap.size 97 [.int .u8 tk,.int .i64 tn,.string ⟨tt.toArray⟩,.int .i64 t1,.int .i64 t2,.int .i64 t3,.int .i64 t4,.int .i64 ta]::ps) pb en (⟨tk,tn,tt,⟨t1,t2,t3,t4⟩,ta⟩::ts) ns (wa1.alloc (.cells #[.int .u8 tk,.int .i64 tn,.string ⟨tt.toArray⟩,.int .i64 t1,.int .i64 t2,.int .i64 t3,.int .i64 t4,.int .i64 ta] 97))):=H4
  clear H4
  generalize (wa1.alloc (.cells #[.int .u8 tk,.int .i64 tn,.string ⟨tt.toArray⟩,.int .i64 t1,.int .i64 t2,.int .i64 t3,.int .i64 t4,.int .i64 ta] 97))=Wa5 at H4a ⊢
  have F6:=H4a.out.sees
  simp only [sees,ac,aa,Nat.reduceAdd] at F6
  obtain ⟨zp,⟨z0,c00,c01,c02,c03,c04,c05,c06,c07,-⟩,-⟩:=F6
  go_wp2_with fail
  refine (dO w1 pb _ _ _ H4a.out.bel).mono ?_
  rintro e wz ⟨rfl,hb⟩
  have HZ:=Lib.hid hb
  clear hb
  go_wp2_with fail
  exact ⟨rfl,rfl,HZ.out⟩
theorem sO:∀ f,Con f:=by
 intro f
 induction f using Nat.strongRecOn with
 | _ f IH =>
  intro w1 ps pb en m ts r ns w hr hn hs
  cases f with
  | zero=>simp [ap] at hr
  | succ f =>
   have IH2:∀ g,g≤f→Con g:=fun g hg=>IH g (by omega)
   cases m with
   | lv k=>exact fun h1 h4=>va f k IH2 h1 h4 w1 ps pb en ts r ns w hr hn hs
   | ops k=>exact trivial
   | sg=>exact wX f IH2 w1 ps pb en ts r ns w hr hn hs
   | pc=>exact qk f IH2 w1 ps pb en ts r ns w hr hn hs
   | pr=>exact ql f IH2 w1 ps pb en ts r ns w hr hn hs
   | args fn i=>exact trivial
